/- Whether terms are the same: both sides. -/
import Derived.Test.YtfcbhfjomgopbaaGreatZFf1
import Derived.Test.YtfcbhfjomgopbaaGreatZFf4
namespace Go.Proofs.YtfcbhfjomgopbaaGreat
section
open Go Go.RowKit
attribute [local irreducible] Run CondV aB aS

def ic (t u:T):Bool:=decide (t.kind=u.kind) && (decide (t.n=u.n) && (decide (t.name=u.name) && decide (t.kids.length=u.kids.length)))
theorem dx (k n k' n':Int) (s s':ByteArray) (ks ks':List T):ic (.mk k n s ks) (.mk k' n' s' ks')=(decide (k=k') && (decide (n=n') && (decide (s=s') && decide (ks.length=ks'.length)))):=rfl
theorem HJ {α β:Type} (a:List α) (b:List β):decide (a.length=b.length)=decide ((a.length:Int)=(b.length:Int)):=by
 rw [Bool.eq_iff_iff]
 simp only [decide_eq_true_eq]
 omega
theorem Rm (t u:T):eqT t u=(ic t u && eqL t.kids u.kids):=by
 obtain ⟨k,n,s,ks⟩:=t
 obtain ⟨k',n',s',ks'⟩:=u
 rw [eqT,dx]
 by_cases h:ks.length=ks'.length
 ·rw [decide_eq_true h,Bool.and_true,Bool.and_assoc,Bool.and_assoc]; rfl
 ·rw [Mg h,decide_eq_false h]; simp
theorem nF:∀ (t u:T) (S:ae) (cs ds:List Value),RdT S cs t->RdT S ds u->Pure Tryz.prog Gt [.agg cs.toArray,.agg ds.toArray] S (.bool (eqT t u)):=by
 refine T.ind fun k n s ks ih u S cs ds h h'=>?_
 intro w hI
 obtain ⟨kv,rfl,_,_,_,hks⟩:=RdT.iff.1 h
 obtain ⟨kv',rfl,_,_,_,hks'⟩:=RdT.iff.1 h'
 obtain ⟨k',n',s',ks'⟩:=u
 simp only [T.name,T.kids,T.kind,T.n] at hks hks' ⊢
 have hlen:=hks.le
 simp only [maxLen] at hlen
 refine rL.2 ?_
 dsimp only[rL,aX]
 refine be hI fun b1 w' hI=>?_
 refine be hI fun b2 w' hI=>?_
 have hI:Inv w [] [.blk b1 (.cells #[.int .i64 k,.int .i64 n,.string s,kv] ab),.blk b2 (.cells #[.int .i64 k',.int .i64 n',.string s',kv'] ab)] S w':=hI
 refine ⟨fun q w'=>q=.bool (!ic (.mk k n s ks) (.mk k' n' s' ks'))/\Inv w [] [.blk b1 (.cells #[.int .i64 k,.int .i64 n,.string s,kv] ab),.blk b2 (.cells #[.int .i64 k',.int .i64 n',.string s',kv'] ab)] S w',?_,?_⟩
 ·refine ad hI 0 rfl aE aw rfl ?_
  refine ad hI 1 rfl aE aw rfl ?_
  refine cE ?_
  by_cases e1:k=k'
  ·rw [decide_eq_true e1]
   refine rpG ?_
   refine ad hI 0 rfl aK aw rfl ?_
   refine ad hI 1 rfl aK aw rfl ?_
   refine cE ?_
   by_cases e2:n=n'
   ·rw [decide_eq_true e2]
    refine rpG ?_
    refine ad hI 0 rfl aM aJ rfl ?_
    refine ad hI 1 rfl aM aJ rfl ?_
    refine xF ?_
    by_cases e3:s=s'
    ·rw [decide_eq_true e3]
     refine rpG ?_
     refine ad hI 0 rfl al ag rfl ?_
     refine aD hks af ?_
     refine ad hI 1 rfl al ag rfl ?_
     refine aD hks' af ?_
     refine cE ?_
     refine rpG ?_
     exact ⟨by rw [dx,decide_eq_true e1,decide_eq_true e2,decide_eq_true e3,HJ]; rfl,hI⟩
    ·rw [decide_eq_false e3]
     refine rpG ?_
     exact ⟨by rw [dx,decide_eq_true e1,decide_eq_true e2,decide_eq_false e3]; rfl,hI⟩
   ·rw [decide_eq_false e2]
    refine rpG ?_
    exact ⟨by rw [dx,decide_eq_true e1,decide_eq_false e2]; rfl,hI⟩
  ·rw [decide_eq_false e1]
   refine rpG ?_
   exact ⟨by rw [dx,decide_eq_false e1]; rfl,hI⟩

 intro q _ _ _ _ _ _ _ _ _ _ _ _ _ _ _ _ _ _ _ _ _ _ _ _ _ _ _ w'
 rintro ⟨rfl,hI⟩
 rw [Rm]
 cases hd:ic (.mk k n s ks) (.mk k' n' s' ks')
 ·refine az (fun _=>done hI rfl) (fun hb=>by cases hb)
 refine az (fun hb=>by cases hb) (fun _=>?_)
 have hle:ks.length=ks'.length:=by
  rw [dx] at hd
  simp only [Bool.and_eq_true,decide_eq_true_eq] at hd
  exact hd.2.2.2
 simp only [T.kids,Bool.true_and]
 refine ⟨fun i w'=>∃ j:Nat,j<=ks.length/\i=.int .i64 j/\eqL (ks.drop j) (ks'.drop j)=eqL ks ks'/\Inv w [] [.blk b1 (.cells #[.int .i64 k,.int .i64 n,.string s,kv] ab),.blk b2 (.cells #[.int .i64 k',.int .i64 n',.string s',kv'] ab)] S w',fun i _=>ks.length - (intOf i).toNat,⟨0,Nat.zero_le _,rfl,rfl,hI⟩,?_⟩
 intro t5 _ _ _ _ _ _ _ _ _ _ _ _ _ _ _ _ _ _ _ _ w'
 rintro ⟨j,hj,rfl,hrel,hI⟩
 refine ad hI 0 rfl al ag rfl ?_
 refine aD hks af ?_
 refine bA ?_
 refine aI (fun hji=>?_) (fun hji=>?_)
 ·have hj1:j<ks.length:=by omega
  have hj2:j<ks'.length:=by omega
  obtain ⟨c1,o1,cap1,a1,E1,fz1,rfl,hS1,hR1⟩:=hks.at_ hj1
  obtain ⟨c2,o2,cap2,a2,E2,fz2,rfl,hS2,hR2⟩:=hks'.at_ hj2
  have hstep:eqL (ks.drop j) (ks'.drop j)=(eqT ks[j] ks'[j] && eqL (ks.drop (j+1)) (ks'.drop (j+1))):=by
   rw [List.drop_eq_getElem_cons hj1,List.drop_eq_getElem_cons hj2,eqL]
  refine ⟨fun D lp ro rZ rN pm jK mh kw lW jJ j1 jG w_=>Fx D 0 [jG=.pointer (some ⟨b1,3,none⟩),j1=.slice (some ⟨c1,o1,none⟩) ks.length cap1,jJ=.int .i64 j,lW=.pointer (some ⟨c1,o1+j * 4,none⟩),kw=.agg (aH a1 (o1+j * 4) 4).toArray,mh=.pointer (some ⟨b2,3,none⟩),jK=.slice (some ⟨c2,o2,none⟩) ks'.length cap2,pm=.int .i64 j,rN=.pointer (some ⟨c2,o2+j * 4,none⟩),rZ=.agg (aH a2 (o2+j * 4) 4).toArray,ro=.bool (eqT ks[j] ks'[j]),lp=.bool (!eqT ks[j] ks'[j])]/\Inv w [] [.blk b1 (.cells #[.int .i64 k,.int .i64 n,.string s,.slice (some ⟨c1,o1,none⟩) ks.length cap1] ab),.blk b2 (.cells #[.int .i64 k',.int .i64 n',.string s',.slice (some ⟨c2,o2,none⟩) ks'.length cap2] ab)] S w_,⟨Fx.nil _ _,hI.draw⟩,⟨?_,?_,?_,?_,?_,?_,?_,?_,?_,?_,?_,?_,trivial⟩,?_⟩
  all_goals (intro D bo; intros; rename_i lp ro rZ rN pm jK mh kw lW jJ j1 jG w_ hA_; have hF_:=hA_.1; obtain ⟨⟨bU,bV,bH,bR,bZ,bI,bB,ct,cF,cK,bG,bX,_⟩,hI⟩:=hA_)
  ·refine ai al ?_
   exact ⟨hF_.set 0 rfl,hI⟩
  ·obtain rfl:=bU ‹_›
   refine aA hI 0 ag rfl rfl ?_
   exact ⟨hF_.set 1 rfl,hI⟩
  ·exact ⟨hF_.set 2 rfl,hI⟩
  ·obtain rfl:=bV ‹_›
   obtain rfl:=bH ‹_›
   refine au af hj1 ?_
   exact ⟨hF_.set 3 rfl,hI⟩
  ·obtain rfl:=bR ‹_›
   refine bw ac hR1.length (fun j v hj=>by rw [hI.cellS hS1]; exact ar rfl j v hj) ?_
   exact ⟨hF_.set 4 rfl,hI⟩
  ·refine ai al ?_
   exact ⟨hF_.set 5 rfl,hI⟩
  ·obtain rfl:=bI ‹_›
   refine aA hI 1 ag rfl rfl ?_
   exact ⟨hF_.set 6 rfl,hI⟩
  ·exact ⟨hF_.set 7 rfl,hI⟩
  ·obtain rfl:=bB ‹_›
   obtain rfl:=ct ‹_›
   refine au af hj2 ?_
   exact ⟨hF_.set 8 rfl,hI⟩
  ·obtain rfl:=cF ‹_›
   refine bw ac hR2.length (fun j v hj=>by rw [hI.cellS hS2]; exact ar rfl j v hj) ?_
   exact ⟨hF_.set 9 rfl,hI⟩
  ·obtain rfl:=bZ ‹_›
   obtain rfl:=cK ‹_›
   refine Run.callPure mA my hI (ih _ (List.getElem_mem hj1) _ S _ _ hR1 hR2) fun w_ hI=>?_
   exact ⟨hF_.set 10 rfl,hI⟩
  ·obtain rfl:=bG ‹_›
   refine bM ?_
   exact ⟨hF_.set 11 rfl,hI⟩
  obtain ⟨rfl,rfl,rfl,rfl,rfl,rfl,rfl,rfl,rfl,rfl,rfl,rfl,_⟩:=hF_.all
  clear hF_ bU bV bH bR bZ bI bB ct cF cK bG bX
  refine az (fun hne=>?_) (fun he'=>?_)
  ·exact done hI (by rw [<- hrel,hstep]; simp at hne; rw [hne]; rfl)
  ·refine bn (by omega) ?_
   refine ⟨⟨j+1,hj1,rfl,?_,hI⟩,by simp [intOf]; omega⟩
   rw [<- hrel,hstep]
   simp at he'
   rw [he',Bool.true_and]
 ·have:j=ks.length:=by omega
  subst this
  refine done hI ?_
  rw [<- hrel,List.drop_length,hle,List.drop_length]
  rfl
end
section
open Go Go.RowKit
attribute [local irreducible] Run CondV aB aS

theorem Fq {xs:List T} (ih:∀ t∈xs,∀ (u:T) (S:ae) (cs ds:List Value),RdT S cs t->RdT S ds u->Pure Tryz.prog oB [.agg cs.toArray,.agg ds.toArray] S (.bool (eqT t u)))
  {ys:List T} {S:ae} {v u:Value} (h:RdSl S 4 (RdT S) v xs) (h':RdSl S 4 (RdT S) u ys):Pure Tryz.prog tC [v,u,.func (.func oB) #[] #[]] S (.bool (eqL xs ys)):=by
 intro w hI
 have hlen:(xs.length:Int)<=9223372036854775807:=by have:=h.le; simp only [maxLen] at this; omega
 refine jU.2 ?_
 dsimp only[jU,cX]
 refine aD h af ?_
 refine aD h' af ?_
 refine cE ?_
 refine az (fun hne=>?_) (fun he=>?_)
 ·exact done hI (by rw [Mg (by simp at hne; omega)])
 have he:xs.length=ys.length:=by simp at he; omega
 refine aD h af ?_
 refine ⟨fun i w'=>∃ (k:Nat),k<=xs.length/\i=.int .i64 k/\eqL (xs.drop k) (ys.drop k)=eqL xs ys/\Inv w [] [] S w',fun i _=>xs.length - (intOf i).toNat,⟨0,Nat.zero_le _,rfl,rfl,hI⟩,?_⟩
 intro t5 _ _ _ _ _ _ _ _ _ _ _ _ _ _ _ _ _ _ w'
 rintro ⟨k,hk,rfl,hrel,hI⟩
 refine bA ?_
 refine aI (fun hki=>?_) (fun hki=>?_)
 ·have hk1:k<xs.length:=by omega
  have hk2:k<ys.length:=by omega
  have hstep:eqL (xs.drop k) (ys.drop k)=(eqT xs[k] ys[k] && eqL (xs.drop (k+1)) (ys.drop (k+1))):=by
   rw [List.drop_eq_getElem_cons hk1,List.drop_eq_getElem_cons hk2,eqL]
  refine ch hI h af ac hk1 (fun _ _=>RdT.length) fun cs hcs=>?_
  have hlc:=hcs.length
  refine aG hI aP fun b8 w' hI=>?_
  refine ao hI 0 rfl ac (by simpa using hlc) rfl (by simpa using hcs.one) fun w' hI=>?_
  refine ch hI h' af ac hk2 (fun _ _=>RdT.length) fun ds hds=>?_
  have hld:=hds.length
  refine aG hI aP fun b9 w' hI=>?_
  refine ao hI 1 rfl ac (by simpa using hld) rfl (by simpa using hds.one) fun w' hI=>?_
  refine aq hI 0 ac rfl (by simpa using hlc) ?_
  refine aq hI 1 ac rfl (by simpa using hld) ?_
  refine Run.callPure mz mC hI (ih _ (List.getElem_mem hk1) _ S _ _ hcs hds) fun w' hI=>?_
  refine bM ?_
  refine az (fun hne=>?_) (fun he'=>?_)
  ·exact done hI (by rw [<- hrel,hstep]; simp at hne; rw [hne]; rfl)
  ·refine bn (by omega) ?_
   refine ⟨⟨k+1,hk1,rfl,?_,hI.nil⟩,by simp [intOf]; omega⟩
   rw [<- hrel,hstep]
   simp at he'
   rw [he',Bool.true_and]
 ·have:k=xs.length:=by omega
  subst this
  refine done hI ?_
  rw [<- hrel,List.drop_length,he,List.drop_length]
  rfl
theorem mL:∀ (t u:T) (S:ae) (cs ds:List Value),RdT S cs t->RdT S ds u->Pure Tryz.prog oB [.agg cs.toArray,.agg ds.toArray] S (.bool (eqT t u)):=by
 refine T.ind fun k n s ks ih u S cs ds h h'=>?_
 intro w hI
 obtain ⟨kv,rfl,_,_,_,hks⟩:=RdT.iff.1 h
 obtain ⟨kv',rfl,_,_,_,hks'⟩:=RdT.iff.1 h'
 obtain ⟨k',n',s',ks'⟩:=u
 simp only [T.name,T.kids,T.kind,T.n] at hks hks' ⊢
 refine rV.2 ?_
 dsimp only[rV,aX]
 refine be hI fun b1 w' hI=>?_
 refine be hI fun b2 w' hI=>?_
 refine ad hI 0 rfl aE aw rfl ?_
 refine ad hI 1 rfl aE aw rfl ?_
 refine aY ?_
 by_cases e1:k=k'
 ·rw [decide_eq_true e1]
  refine rpG ?_
  refine ad hI 0 rfl aK aw rfl ?_
  refine ad hI 1 rfl aK aw rfl ?_
  refine aY ?_
  by_cases e2:n=n'
  ·rw [decide_eq_true e2]
   refine rpG ?_
   refine ad hI 0 rfl aM aJ rfl ?_
   refine ad hI 1 rfl aM aJ rfl ?_
   refine bf ?_
   by_cases e3:s=s'
   ·rw [decide_eq_true e3]
    refine rpG ?_
    refine ad hI 0 rfl al ag rfl ?_
    refine ad hI 1 rfl al ag rfl ?_
    refine Run.callPure rz rA hI (Fq ih hks hks') fun w' hI=>?_
    refine rpG ?_
    exact done hI (by rw [eqT,decide_eq_true e1,decide_eq_true e2,decide_eq_true e3]; rfl)
   ·rw [decide_eq_false e3]
    refine rpG ?_
    exact done hI (by rw [eqT,decide_eq_true e1,decide_eq_true e2,decide_eq_false e3]; rfl)
  ·rw [decide_eq_false e2]
   refine rpG ?_
   exact done hI (by rw [eqT,decide_eq_true e1,decide_eq_false e2]; rfl)
 ·rw [decide_eq_false e1]
  refine rpG ?_
  exact done hI (by rw [eqT,decide_eq_false e1]; rfl)
end
section
open Go Go.RowKit

theorem pl {n:Int}:∀ (l:List MapEntry) (i:Nat),(∀ e∈l,∃ m,e.key=.int .i64 m)->
  (∃ j,∃ e∈l,e.key=.int .i64 n/\Instr.findNow (.int .i64) (.int .i64 n) l i=some (some (j,e.val))) ∨ ((∀ e∈l,e.key≠.int .i64 n)/\Instr.findNow (.int .i64) (.int .i64 n) l i=some none)
 | [],i,_=>.inr ⟨by simp,rfl⟩
 | e::l,i,h=>by
  obtain ⟨m,hm⟩:=h e (List.mem_cons_self ..)
  have hs:Instr.sameNow (.int .i64) (.int .i64 n) e.key=some (n == m):=by rw [hm]; rfl
  by_cases hnm:n=m
  ·refine .inl ⟨i,e,List.mem_cons_self ..,by rw [hm,hnm],?_⟩
   have:(n == m)=true:=by simpa using hnm
   rw [Instr.findNow,hs,this]
  ·have h2:(n == m)=false:=by simpa using hnm
   rcases pl l (i+1) (fun e he=>h e (List.mem_cons_of_mem _ he)) with ⟨j,e',he',hk,hf⟩|⟨hk,hf⟩
   ·exact .inl ⟨j,e',List.mem_cons_of_mem _ he',hk,by rw [Instr.findNow,hs,h2]; exact hf⟩
   ·refine .inr ⟨fun x hx=>?_,by rw [Instr.findNow,hs,h2]; exact hf⟩
    rcases List.mem_cons.1 hx with rfl|hx
    ·rw [hm]
     intro e'
     simp only [Value.int.injEq,true_and] at e'
     exact hnm e'.symm
    ·exact hk x hx
section
variable {P:Program} {w w0:World} {X:List Nat} {L:List Item} {S:ae} {K:Value->World->Prop}
attribute [local irreducible] Run CondV aB aS
theorem gx {kt:TypeId} {d:TypeDesc} {k:Value} {l:List MapEntry} {a:Option (Nat × Value)} (hd:P.underlying kt=some d) (h:Instr.findNow d k l 0=some a):(Instr.findKey kt k l).run P w=.ok a w:=by
 simp [Instr.findKey,run_underlying hd,Result.andThen,h]
theorem xo (h:Inv w0 X L S w) {T ty:TypeId} (hk:∀ b w',Inv w0 X (L++[.blk b (.map #[] 0)]) S w'->K (.map (some b)) w'):Run P (sOp (.makeMap T none) ty) w K:=by
 refine Run.of (v:=.map (some w.heap.size)) (w':={ w with heap:=w.heap.push (.map #[] 0) }) ?_ (hk _ _ (h.alloc _))
 simp [sOp,execOp,Instr.makeMap,newObj,Sem.run]
theorem HE (h:Inv w0 X L S w) {T kt et ty:TypeId} {b clock:Nat} {es:Array MapEntry} {n:Int} {z v:Value} {ok:Bool} (i:Nat) (hT:P.underlying T=some (.map kt et)) (hkt:P.underlying kt=some (.int .i64))
  (hz:fC P et=some z) (hi:L[i]?=some (.blk b (.map es clock)))
  (hf:(∃ j,Instr.findNow (.int .i64) (.int .i64 n) es.toList 0=some (some (j,v))/\ok=true) ∨ (Instr.findNow (.int .i64) (.int .i64 n) es.toList 0=some none/\v=z/\ok=false))
  (hk:K (.tuple #[v,.bool ok]) w):Run P (sOp (.lookup T (.const (.map (some b))) (.const (.int .i64 n)) true) ty) w K:=by
 have hb:w.heap[b]?=some (.map es clock):=h.its _ (List.mem_of_getElem? hi)
 have hck:∀ e,(Instr.checkKey e 10000 kt (.int .i64 n)).run P w=.ok () w:=fun e=>by
  rw [show (10000:Nat)=9999+1 from rfl,Instr.checkKey]
  simp [run_underlying hkt]
 obtain ⟨inf,hi1,hi2⟩:∃ inf,P.info? et=some inf/\inf.zero=some z:=by
  unfold fC at hz
  cases hinf:P.info? et with
  | none=>rw [hinf] at hz; simp at hz
  | some inf=>rw [hinf] at hz; exact ⟨inf,rfl,by simpa using hz⟩
 have hzv:(zeroValue et).run P w=.ok z w:=by simp [zeroValue,typeInfo,hi1,hi2]
 refine Run.of ?_ hk
 have hg:(getObj b).run P w=.ok (.map es clock) w:=by simp [getObj,Sem.run,hb]
 rcases hf with ⟨j,hf,rfl⟩|⟨hf,rfl,rfl⟩
 ·have hfk:=gx (P:=P) (w:=w) hkt hf
  simp [sOp,execOp,ev0,evE,Instr.lookup,run_underlying hT,hg,hck,hfk]
 ·have hfk:=gx (P:=P) (w:=w) hkt hf
  simp [sOp,execOp,ev0,evE,Instr.lookup,run_underlying hT,hg,hck,hfk,hzv]
theorem AA (h:Inv w0 X L S w) {T kt et ty:TypeId} {b clock:Nat} {es:Array MapEntry} {n:Int} {v:Value} (i:Nat) (hT:P.underlying T=some (.map kt et)) (hkt:P.underlying kt=some (.int .i64))
  (hi:L[i]?=some (.blk b (.map es clock))) (hf:Instr.findNow (.int .i64) (.int .i64 n) es.toList 0=some none)
  (hk:∀ w',Inv w0 X (L.set i (.blk b (.map (es.push { key:=.int .i64 n,val:=v,born:=clock }) (clock+1)))) S w'->K undef w') :
  Run P (sOp (.mapUpdate T (.const (.map (some b))) (.const (.int .i64 n)) (.const v)) ty) w K:=by
 have hb:w.heap[b]?=some (.map es clock):=h.its _ (List.mem_of_getElem? hi)
 have hck:∀ e,(Instr.checkKey e 10000 kt (.int .i64 n)).run P w=.ok () w:=fun e=>by
  rw [show (10000:Nat)=9999+1 from rfl,Instr.checkKey]
  simp [run_underlying hkt]
 have hg:(getObj b).run P w=.ok (.map es clock) w:=by simp [getObj,Sem.run,hb]
 have hfk:=gx (P:=P) (w:=w) hkt hf
 refine Run.ofSkip (w':={ w with heap:=w.heap.setIfInBounds b (.map (es.push { key:=.int .i64 n,val:=v,born:=clock }) (clock+1)) }) ?_ (hk _ (h.setBlk hi _ rfl))
 have hst:(setObj b (.map (es.push { key:=.int .i64 n,val:=v,born:=clock }) (clock+1))).run P w=.ok () { w with heap:=w.heap.setIfInBounds b (.map (es.push { key:=.int .i64 n,val:=v,born:=clock }) (clock+1)) }:=by simp [setObj,Sem.run,hb]
 simp [sOp,execOp,ev0,evE,Instr.mapUpdate,run_underlying hT,hg,hck,hfk,hst]
end
end
section
open Go Go.RowKit

abbrev aC:=List (Option T)
mutual
def bL:T->T->aC->Bool × aC
 | .mk k n s ks,u,st=>if k=1 then (match st[n.toNat]? with
   | some (some t)=>(eqT t u,st)
   | _=>(true,st.set n.toNat (some u)))
  else if ic (.mk k n s ks) u=true then dS ks u.kids st else (false,st)
def dS:List T->List T->aC->Bool × aC
 | [],_,st=>(true,st)
 | _::_,[],st=>(true,st)
 | t::ts,u::us,st=>if (bL t u st).1=true then dS ts us (bL t u st).2 else (false,(bL t u st).2)
end
theorem yd (ts us:List T) (st:aC) (j:Nat) (h:j<ts.length) (h':j<us.length) :
  dS (ts.drop j) (us.drop j) st=if (bL ts[j] us[j] st).1=true then dS (ts.drop (j+1)) (us.drop (j+1)) (bL ts[j] us[j] st).2 else (false,(bL ts[j] us[j] st).2):=by
 rw [List.drop_eq_getElem_cons h,List.drop_eq_getElem_cons h',dS]
mutual
def okV:T->Prop
 | .mk k n _ ks=>(k=1->0<=n/\n<=25)/\qI ks
def qI:List T->Prop
 | []=>True
 | t::ts=>okV t/\qI ts
end
theorem nD:∀ {ts:List T},qI ts->∀ t∈ts,okV t
 | _::_,h,t,ht=>by
  rcases List.mem_cons.1 ht with rfl|ht
  ·exact h.1
  ·exact nD h.2 t ht
mutual
def okK:T->Prop
 | .mk k _ _ ks=>k≠0/\z8 ks
def z8:List T->Prop
 | []=>True
 | t::ts=>okK t/\z8 ts
end
theorem qg:∀ {ts:List T},z8 ts->∀ t∈ts,okK t
 | _::_,h,t,ht=>by
  rcases List.mem_cons.1 ht with rfl|ht
  ·exact h.1
  ·exact qg h.2 t ht
theorem OV {t:T} (h:eN t=true):(t.kind=1->0<=t.n/\t.n<=25)/\t.kind≠0:=by
 unfold eN at h
 refine ⟨fun hk=>?_,fun hk=>?_⟩
 ·rw [if_pos hk] at h
  simp only [Bool.and_eq_true,decide_eq_true_eq] at h
  exact ⟨h.1,h.2.1⟩
 ·rw [if_neg (by omega),if_neg (by omega),if_neg (by omega)] at h
  cases h
mutual
theorem Iu:∀ (t:T) (d:Int),eY t d=true->okV t/\okK t
 | .mk k n s ks,d,h=>by
  rw [eY] at h
  split at h
  ·cases h
  ·simp only [Bool.and_eq_true] at h
   obtain ⟨h1,h2⟩:=h
   obtain ⟨h3,h4⟩:=D2 ks (d - 1) h2
   rw [okV,okK]
   obtain ⟨h5,h6⟩:=OV h1
   exact ⟨⟨h5,h3⟩,⟨h6,h4⟩⟩
theorem D2:∀ (ts:List T) (d:Int),eU ts d=true->qI ts/\z8 ts
 | [],d,h=>by simp [qI,z8]
 | t::ts,d,h=>by
  rw [eU,Bool.and_eq_true] at h
  obtain ⟨h1,h2⟩:=Iu t d h.1
  obtain ⟨h3,h4⟩:=D2 ts d h.2
  rw [qI,z8]
  exact ⟨⟨h1,h3⟩,⟨h2,h4⟩⟩
end
theorem iy {t:T} (h:dd t=true):okV t/\okK t:=by
 rw [dd,Bool.and_eq_true] at h
 exact Iu t 30 h.1
def xy (st:aC):Prop:=st.length=26/\∀ t,some t∈st->okK t
theorem NC {st:aC} {n:Nat} {u:T} (h:xy st) (hu:okK u):xy (st.set n (some u)):=by
 refine ⟨by rw [List.length_set]; exact h.1,fun t ht=>?_⟩
 rcases List.mem_or_eq_of_mem_set ht with ht|ht
 ·exact h.2 t ht
 ·simp only [Option.some.injEq] at ht
  rw [ht]; exact hu
mutual
theorem jx:∀ (t u:T) (st:aC),xy st->okK u->xy (bL t u st).2
 | .mk k n s ks,u,st,h,hu=>by
  rw [bL]
  split
  ·split
   ·exact h
   ·exact NC h hu
  ·split
   ·obtain ⟨k',n',s',ks'⟩:=u
    rw [okK] at hu
    exact DT ks ks' st h hu.2
   ·exact h
theorem DT:∀ (ts us:List T) (st:aC),xy st->z8 us->xy (dS ts us st).2
 | [],_,st,h,_=>by rw [dS]; exact h
 | _::_,[],st,h,_=>by rw [dS]; exact h
 | t::ts,u::us,st,h,hu=>by
  rw [dS]
  rw [z8] at hu
  split
  ·exact DT ts us _ (jx t u st h hu.1) hu.2
  ·exact jx t u st h hu.1
end
def md:List Value:=[.int .i64 0,.int .i64 0,.string ⟨#[]⟩,.slice none 0 0]
def KnownC (S:ae) (c:Array Value) (st:aC):Prop:=104<=c.size/\∀ i (h:i<st.length),(st[i]=none->aH c (i * 4) 4=md)/\(∀ t,st[i]=some t->RdT S (aH c (i * 4) 4) t)
theorem KnownC.set {S:ae} {c:Array Value} {st:aC} (h:KnownC S c st) {n:Nat} (hn:n<26) {cs:List Value} {u:T} (hu:RdT S cs u):KnownC S (bx c (n * 4) cs) (st.set n (some u)):=by
 have hlc:=hu.length
 have h1:=h.1
 have hs:104<=(bx c (n * 4) cs).size:=by rw [gN _ _ _ (by omega)]; exact h1
 refine ⟨hs,fun i hi=>?_⟩
 rw [List.length_set] at hi
 by_cases e:n=i
 ·subst e
  rw [List.getElem_set_self]
  refine ⟨fun h=>(by cases h),fun t ht=>?_⟩
  simp only [Option.some.injEq] at ht
  subst ht
  have:=gD (c:=c) (o:=n * 4) (vs:=cs) (by omega)
  rw [hlc] at this
  rw [this]
  exact hu
 ·rw [List.getElem_set_ne e,iu (by omega) (by omega)]
  exact h.2 i hi
section
attribute [local irreducible] Run CondV aB aS
abbrev kvn (kb kp:Nat):Value:=.slice (some ⟨kb,0,none⟩) 26 kp
abbrev kv0 (kb:Nat):Value:=kvn kb 26
theorem sQ (kp:Nat):∀ (t u:T) (S:ae) (cs ds:List Value) (kb:Nat) (kc:Array Value) (st:aC),RdT S cs t->RdT S ds u->okV t->okK u->xy st->KnownC S kc st->
  Tri Tryz.prog HQ [.agg cs.toArray,.agg ds.toArray,kvn kb kp] [.blk kb (.cells kc ab)] S fun r I' S'=>S'=S/\r=.bool (bL t u st).1/\∃ kc',I'=[.blk kb (.cells kc' ab)]/\KnownC S kc' (bL t u st).2:=by
 refine T.ind fun k n s ks ih u S cs ds kb kc st h h' hv hu hst hkc=>?_
 intro w hI
 have hds:=h'
 obtain ⟨kv,rfl,_,_,_,hks⟩:=RdT.iff.1 h
 obtain ⟨kv',rfl,_,_,_,hks'⟩:=RdT.iff.1 h'
 obtain ⟨k',n',s',ks'⟩:=u
 simp only [T.name,T.kids,T.kind,T.n] at hks hks' ⊢
 have hlen:=hks.le
 simp only [maxLen] at hlen
 rw [okV] at hv
 obtain ⟨hv1,hv2⟩:=hv
 have huk:=hu
 rw [okK] at hu
 obtain ⟨X,hX⟩:∃ X,X=bE [Item.blk kb (.cells kc ab)]:=⟨_,rfl⟩
 rw [<- hX] at hI ⊢
 refine u7.2 ?_
 dsimp only[u7,cX]
 refine be hI fun b1 w' hI=>?_
 refine be hI fun b2 w' hI=>?_
 have hI:Inv w X [.blk b1 (.cells #[.int .i64 k,.int .i64 n,.string s,kv] ab),.blk b2 (.cells #[.int .i64 k',.int .i64 n',.string s',kv'] ab),.blk kb (.cells kc ab)] S w':=hI.perm (by
  refine (List.perm_append_comm (l₁:=[_,_]) (l₂:=[_])).trans ?_
  exact List.Perm.refl _)
 refine ad hI 0 rfl aE aw rfl ?_
 refine aY ?_
 refine aI (fun hk1=>?_) (fun hk1=>?_)
 ·obtain ⟨hn0,hn25⟩:=hv1 hk1
  obtain ⟨j,rfl⟩:∃ j:Nat,n=j:=⟨n.toNat,by omega⟩
  have hj:j<26:=by omega
  have hjs:j<st.length:=by rw [hst.1]; exact hj
  refine ad hI 0 rfl aK aw rfl ?_
  refine au af hj ?_
  refine ai aE ?_
  rw [Nat.zero_add,Nat.add_zero]
  obtain ⟨hno,hso⟩:=hkc.2 j hjs
  cases hst2:st[j] with
  | none=>
   have hcell:=hno hst2
   refine aA hI 2 aw rfl (by have:=ar hcell 0 _ rfl; exact this) ?_
   refine cE ?_
   refine az (fun hb=>by simp at hb) (fun _=>?_)
   refine ad hI 0 rfl aK aw rfl ?_
   refine aq hI 1 ac rfl rfl ?_
   refine au af hj ?_
   rw [Nat.zero_add]
   refine kP hI 2 rfl ac rfl (by have:=hkc.1; exact Nat.ble_eq_true_of_le (by omega)) hds.one fun w' hI=>?_
   have hm:bL (.mk k j s ks) (.mk k' n' s' ks') st=(true,st.set j (some (.mk k' n' s' ks'))):=by
    rw [bL,if_pos hk1,Int.toNat_natCast,List.getElem?_eq_getElem hjs,hst2]
   rw [hm]
   exact ⟨_,_,_,rfl,hI.pick [false,false,true],Ext.refl _ _ _,rfl,rfl,_,rfl,hkc.set hj hds⟩
  | some t0=>
   have hR:=hso t0 hst2
   have hk0:t0.kind≠0:=by
    have:=hst.2 t0 (by rw [<- hst2]; exact List.getElem_mem hjs)
    obtain ⟨a,b,c,d⟩:=t0
    rw [okK] at this
    exact this.1
   obtain ⟨kv0',hcell,_,_,_,_⟩:=RdT.iff.1 hR
   refine aA hI 2 aw rfl (by have:=ar hcell 0 _ rfl; exact this) ?_
   refine cE ?_
   rw [decide_eq_false hk0]
   refine az (fun _=>?_) (fun hb=>by cases hb)
   refine ⟨fun D x6 mY pC oZ mD ki ml rR w_=>Fx D 0 [rR=kvn kb kp,ml=.pointer (some ⟨b1,1,none⟩),ki=.int .i64 j,mD=.pointer (some ⟨kb,j * 4,none⟩),oZ=.agg (aH kc (j * 4) 4).toArray,pC=.agg #[.int .i64 k',.int .i64 n',.string s',kv'],mY=.bool (eqT t0 (.mk k' n' s' ks')),x6=.bool (eqT t0 (.mk k' n' s' ks'))]/\Inv w X [.blk b1 (.cells #[.int .i64 k,.int .i64 (j:Int),.string s,kv] ab),.blk b2 (.cells #[.int .i64 k',.int .i64 n',.string s',kv'] ab),.blk kb (.cells kc ab)] S w_,⟨Fx.nil _ _,hI.draw⟩,⟨?_,?_,?_,?_,?_,?_,?_,?_,trivial⟩,?_⟩
   all_goals (intro D bo; intros; rename_i x6 mY pC oZ mD ki ml rR w_ hA_; have hF_:=hA_.1; obtain ⟨⟨bU,bV,bH,bR,bZ,bI,bB,ct,_⟩,hI⟩:=hA_)
   ·exact ⟨hF_.set 0 rfl,hI⟩
   ·refine ai aK ?_
    exact ⟨hF_.set 1 rfl,hI⟩
   ·obtain rfl:=bV ‹_›
    refine aA hI 0 aw rfl rfl ?_
    exact ⟨hF_.set 2 rfl,hI⟩
   ·obtain rfl:=bU ‹_›
    obtain rfl:=bH ‹_›
    refine au af hj ?_; rw [Nat.zero_add]
    exact ⟨hF_.set 3 rfl,hI⟩
   ·obtain rfl:=bR ‹_›
    refine b0 hI 2 (aH kc (j * 4) 4) ac rfl hR.length (fun i v hi=>ar rfl i v hi) ?_
    exact ⟨hF_.set 4 rfl,hI⟩
   ·refine aq hI 1 ac rfl rfl ?_
    exact ⟨hF_.set 5 rfl,hI⟩
   ·obtain rfl:=bZ ‹_›
    obtain rfl:=bI ‹_›
    refine Run.callPure mA my hI (nF t0 _ S _ _ hR hds) fun w_ hI=>?_
    exact ⟨hF_.set 6 rfl,hI⟩
   ·obtain rfl:=bB ‹_›
    exact ⟨hF_.set 7 rfl,hI⟩
   obtain ⟨rfl,rfl,rfl,rfl,rfl,rfl,rfl,rfl,_⟩:=hF_.all
   clear hF_ bU bV bH bR bZ bI bB ct
   have hm:bL (.mk k j s ks) (.mk k' n' s' ks') st=(eqT t0 (.mk k' n' s' ks'),st):=by
    rw [bL,if_pos hk1,Int.toNat_natCast,List.getElem?_eq_getElem hjs,hst2]
   rw [hm]
   exact ⟨_,_,_,rfl,hI.pick [false,false,true],Ext.refl _ _ _,rfl,rfl,_,rfl,hkc⟩
 refine ⟨fun q w'=>q=.bool (!ic (.mk k n s ks) (.mk k' n' s' ks'))/\Inv w X [.blk b1 (.cells #[.int .i64 k,.int .i64 n,.string s,kv] ab),.blk b2 (.cells #[.int .i64 k',.int .i64 n',.string s',kv'] ab),.blk kb (.cells kc ab)] S w',?_,?_⟩
 ·refine ad hI 0 rfl aE aw rfl ?_
  refine ad hI 1 rfl aE aw rfl ?_
  refine cE ?_
  by_cases e1:k=k'
  ·rw [decide_eq_true e1]
   refine rpG ?_
   refine ad hI 0 rfl aK aw rfl ?_
   refine ad hI 1 rfl aK aw rfl ?_
   refine cE ?_
   by_cases e2:n=n'
   ·rw [decide_eq_true e2]
    refine rpG ?_
    refine ad hI 0 rfl aM aJ rfl ?_
    refine ad hI 1 rfl aM aJ rfl ?_
    refine xF ?_
    by_cases e3:s=s'
    ·rw [decide_eq_true e3]
     refine rpG ?_
     refine ad hI 0 rfl al ag rfl ?_
     refine aD hks af ?_
     refine ad hI 1 rfl al ag rfl ?_
     refine aD hks' af ?_
     refine cE ?_
     refine rpG ?_
     exact ⟨by rw [dx,decide_eq_true e1,decide_eq_true e2,decide_eq_true e3,HJ]; rfl,hI⟩
    ·rw [decide_eq_false e3]
     refine rpG ?_
     exact ⟨by rw [dx,decide_eq_true e1,decide_eq_true e2,decide_eq_false e3]; rfl,hI⟩
   ·rw [decide_eq_false e2]
    refine rpG ?_
    exact ⟨by rw [dx,decide_eq_true e1,decide_eq_false e2]; rfl,hI⟩
  ·rw [decide_eq_false e1]
   refine rpG ?_
   exact ⟨by rw [dx,decide_eq_false e1]; rfl,hI⟩

 intro q _ _ _ _ _ _ _ _ _ _ _ _ _ _ _ _ _ _ _ _ _ _ _ _ _ _ _ w'
 rintro ⟨rfl,hI⟩
 cases hd:ic (.mk k n s ks) (.mk k' n' s' ks')
 ·refine az (fun _=>?_) (fun hb=>by cases hb)
  have hm:bL (.mk k n s ks) (.mk k' n' s' ks') st=(false,st):=by rw [bL,if_neg hk1,if_neg (by rw [hd]; decide)]
  rw [hm]
  exact ⟨_,_,_,rfl,hI.pick [false,false,true],Ext.refl _ _ _,rfl,rfl,_,rfl,hkc⟩
 refine az (fun hb=>by cases hb) (fun _=>?_)
 have hle:ks.length=ks'.length:=by
  rw [dx] at hd
  simp only [Bool.and_eq_true,decide_eq_true_eq] at hd
  exact hd.2.2.2
 have hm:bL (.mk k n s ks) (.mk k' n' s' ks') st=dS ks ks' st:=by rw [bL,if_neg hk1,if_pos hd]; rfl
 rw [hm]
 have hu2:=hu.2
 refine ⟨fun i w'=>∃ (j:Nat) (st':aC) (kc':Array Value),j<=ks.length/\i=.int .i64 j/\dS (ks.drop j) (ks'.drop j) st'=dS ks ks' st/\xy st'/\KnownC S kc' st'/\Inv w X [.blk b1 (.cells #[.int .i64 k,.int .i64 n,.string s,kv] ab),.blk b2 (.cells #[.int .i64 k',.int .i64 n',.string s',kv'] ab),.blk kb (.cells kc' ab)] S w',fun i _=>ks.length - (intOf i).toNat,⟨0,st,kc,Nat.zero_le _,rfl,rfl,hst,hkc,hI⟩,?_⟩
 intro t5 _ _ _ _ _ _ _ _ _ _ _ _ _ _ _ _ _ _ _ _ _ w'
 rintro ⟨j,st',kc',hj,rfl,hrel,hst',hkc',hI⟩
 refine ad hI 0 rfl al ag rfl ?_
 refine aD hks af ?_
 refine bA ?_
 refine aI (fun hji=>?_) (fun hji=>?_)
 ·have hj1:j<ks.length:=by omega
  have hj2:j<ks'.length:=by omega
  obtain ⟨c1,o1,cap1,a1,E1,fz1,rfl,hS1,hR1⟩:=hks.at_ hj1
  obtain ⟨c2,o2,cap2,a2,E2,fz2,rfl,hS2,hR2⟩:=hks'.at_ hj2
  rw [yd ks ks' st' j hj1 hj2] at hrel
  have hcall:=ih _ (List.getElem_mem hj1) ks'[j] S _ _ kb kc' st' hR1 hR2 (nD hv2 _ (List.getElem_mem hj1)) (qg hu2 _ (List.getElem_mem hj2)) hst' hkc'
  have hsn:=jx ks[j] ks'[j] st' hst' (qg hu2 _ (List.getElem_mem hj2))
  generalize hr:bL ks[j] ks'[j] st'=r at hrel hcall hsn
  refine ⟨fun D qu yB As Ad Bt AH Bw Ag Aq Eh LV KR Aw w_=>Fx D 0 [Aw=.pointer (some ⟨b1,3,none⟩),KR=.slice (some ⟨c1,o1,none⟩) ks.length cap1,LV=.int .i64 j,Eh=.pointer (some ⟨c1,o1+j * 4,none⟩),Aq=.agg (aH a1 (o1+j * 4) 4).toArray,Ag=.pointer (some ⟨b2,3,none⟩),Bw=.slice (some ⟨c2,o2,none⟩) ks'.length cap2,AH=.int .i64 j,Bt=.pointer (some ⟨c2,o2+j * 4,none⟩),Ad=.agg (aH a2 (o2+j * 4) 4).toArray,As=kvn kb kp,yB=.bool r.1,qu=.bool (!r.1)]/\(D 11=false->Inv w X [.blk b1 (.cells #[.int .i64 k,.int .i64 n,.string s,.slice (some ⟨c1,o1,none⟩) ks.length cap1] ab),.blk b2 (.cells #[.int .i64 k',.int .i64 n',.string s',.slice (some ⟨c2,o2,none⟩) ks'.length cap2] ab),.blk kb (.cells kc' ab)] S w_)/\(D 11=true->∃ kc2,KnownC S kc2 r.2/\Inv w X [.blk b1 (.cells #[.int .i64 k,.int .i64 n,.string s,.slice (some ⟨c1,o1,none⟩) ks.length cap1] ab),.blk b2 (.cells #[.int .i64 k',.int .i64 n',.string s',.slice (some ⟨c2,o2,none⟩) ks'.length cap2] ab),.blk kb (.cells kc2 ab)] S w_)/\∃ kc3,Inv w X [.blk b1 (.cells #[.int .i64 k,.int .i64 n,.string s,.slice (some ⟨c1,o1,none⟩) ks.length cap1] ab),.blk b2 (.cells #[.int .i64 k',.int .i64 n',.string s',.slice (some ⟨c2,o2,none⟩) ks'.length cap2] ab),.blk kb (.cells kc3 ab)] S w_,⟨Fx.nil _ _,⟨fun _=>hI.draw,aU,kc',hI.draw⟩⟩,⟨?_,?_,?_,?_,?_,?_,?_,?_,?_,?_,?_,?_,?_,trivial⟩,?_⟩
  all_goals (intro D bo; intros; rename_i qu yB As Ad Bt AH Bw Ag Aq Eh LV KR Aw w_ hA_; have hF_:=hA_.1; obtain ⟨⟨bU,bV,bH,bR,bZ,bI,bB,ct,cF,cK,bG,bX,cI,_⟩,⟨hI0,hI1,kc3,hI⟩⟩:=hA_)
  ·refine ai al ?_
   exact ⟨hF_.set 0 rfl,⟨hI0,hI1,kc3,hI⟩⟩
  ·obtain rfl:=bU ‹_›
   refine aA hI 0 ag rfl rfl ?_
   exact ⟨hF_.set 1 rfl,⟨hI0,hI1,kc3,hI⟩⟩
  ·exact ⟨hF_.set 2 rfl,⟨hI0,hI1,kc3,hI⟩⟩
  ·obtain rfl:=bV ‹_›
   obtain rfl:=bH ‹_›
   refine au af hj1 ?_
   exact ⟨hF_.set 3 rfl,⟨hI0,hI1,kc3,hI⟩⟩
  ·obtain rfl:=bR ‹_›
   refine bw ac hR1.length (fun j v hj=>by rw [hI.cellS hS1]; exact ar rfl j v hj) ?_
   exact ⟨hF_.set 4 rfl,⟨hI0,hI1,kc3,hI⟩⟩
  ·refine ai al ?_
   exact ⟨hF_.set 5 rfl,⟨hI0,hI1,kc3,hI⟩⟩
  ·obtain rfl:=bI ‹_›
   refine aA hI 1 ag rfl rfl ?_
   exact ⟨hF_.set 6 rfl,⟨hI0,hI1,kc3,hI⟩⟩
  ·exact ⟨hF_.set 7 rfl,⟨hI0,hI1,kc3,hI⟩⟩
  ·obtain rfl:=bB ‹_›
   obtain rfl:=ct ‹_›
   refine au af hj2 ?_
   exact ⟨hF_.set 8 rfl,⟨hI0,hI1,kc3,hI⟩⟩
  ·obtain rfl:=cF ‹_›
   refine bw ac hR2.length (fun j v hj=>by rw [hI.cellS hS2]; exact ar rfl j v hj) ?_
   exact ⟨hF_.set 9 rfl,⟨hI0,hI1,kc3,hI⟩⟩
  ·exact ⟨hF_.set 10 rfl,⟨hI0,hI1,kc3,hI⟩⟩
  ·obtain rfl:=bZ ‹_›
   obtain rfl:=cK ‹_›
   obtain rfl:=bG ‹_›
   refine Run.call (A:=[_,_]) ol oc (hI0 bo) hcall fun v' I' S w_=>?_
   rintro ⟨rfl,rfl,kc2,rfl,hk2⟩ _ hI
   have hI0:=fun (h:aF D 11 11=false)=>(Bool.noConfusion h:Inv w X [.blk b1 (.cells #[.int .i64 k,.int .i64 n,.string s,.slice (some ⟨c1,o1,none⟩) ks.length cap1] ab),.blk b2 (.cells #[.int .i64 k',.int .i64 n',.string s',.slice (some ⟨c2,o2,none⟩) ks'.length cap2] ab),.blk kb (.cells kc' ab)] S w_)
   have hI1:=fun (_:aF D 11 11=true)=>(⟨kc2,hk2,hI⟩:∃ kc2,KnownC S kc2 r.2/\Inv w X [.blk b1 (.cells #[.int .i64 k,.int .i64 n,.string s,.slice (some ⟨c1,o1,none⟩) ks.length cap1] ab),.blk b2 (.cells #[.int .i64 k',.int .i64 n',.string s',.slice (some ⟨c2,o2,none⟩) ks'.length cap2] ab),.blk kb (.cells kc2 ab)] S w_)
   obtain ⟨kc3,hI⟩:∃ kc3,Inv w X [.blk b1 (.cells #[.int .i64 k,.int .i64 n,.string s,.slice (some ⟨c1,o1,none⟩) ks.length cap1] ab),.blk b2 (.cells #[.int .i64 k',.int .i64 n',.string s',.slice (some ⟨c2,o2,none⟩) ks'.length cap2] ab),.blk kb (.cells kc3 ab)] S w_:=⟨kc2,hI⟩
   exact ⟨hF_.set 11 rfl,⟨hI0,hI1,kc3,hI⟩⟩
  ·obtain rfl:=bX ‹_›
   refine bM ?_
   exact ⟨hF_.set 12 rfl,⟨hI0,hI1,kc3,hI⟩⟩
  obtain ⟨rfl,rfl,rfl,rfl,rfl,rfl,rfl,rfl,rfl,rfl,rfl,rfl,rfl,_⟩:=hF_.all
  have jP:D 11=true:=by assumption
  clear hF_ bU bV bH bR bZ bI bB ct cF cK bG bX cI
  obtain ⟨kc2,hk2,hI⟩:=hI1 jP
  clear hI0 hI1
  refine az (fun hne=>?_) (fun he'=>?_)
  ·simp only [Bool.not_eq_true'] at hne
   rw [hne,if_neg (by decide)] at hrel
   rw [<- hrel]
   exact ⟨_,_,_,rfl,hI.pick [false,false,true],Ext.refl _ _ _,rfl,rfl,_,rfl,hk2⟩
  ·simp only [Bool.not_eq_false'] at he'
   rw [he',if_pos rfl] at hrel
   refine bn (by omega) ?_
   exact ⟨⟨j+1,r.2,kc2,hj1,rfl,hrel,hsn,hk2,hI⟩,by simp [intOf]; omega⟩
 ·have:j=ks.length:=by omega
  subst this
  rw [List.drop_length,hle,List.drop_length] at hrel
  rw [<- hrel]
  exact ⟨_,_,_,rfl,hI.pick [false,false,true],Ext.refl _ _ _,rfl,rfl,_,rfl,hkc'⟩
end
end
section
open Go Go.RowKit

def r2:List Int->Int->Int->Nat->Int
 | [],_,cur,_=>cur
 | x::xs,n,cur,k=>r2 xs n (if x=n then (k:Int) else cur) (k+1)
mutual
def gG (vs:List Int):T->T
 | .mk k n s ks=>.mk k (if k=1 then r2 vs n n 0 else n) s (lC vs ks)
def lC (vs:List Int):List T->List T
 | []=>[]
 | t::ts=>gG vs t::lC vs ts
end
theorem Ez:∀ (xs:List Int) (n cur:Int) (k:Nat),r2 xs n cur k=cur ∨ (0<=r2 xs n cur k/\r2 xs n cur k<k+xs.length)
 | [],n,cur,k=>.inl rfl
 | x::xs,n,cur,k=>by
  rw [r2]
  rcases Ez xs n (if x=n then (k:Int) else cur) (k+1) with h|h
  ·split at h
   ·right; rw [if_pos (by assumption),h]; simp; omega
   ·left; rw [if_neg (by assumption)]; exact h
  ·right
   simp only [List.length_cons]
   omega
theorem ID (l:List Int) (n:Int):HV l n=true↔n∈l:=by
 simp [HV]
theorem Kb {l:List Int} (n:Int) (h:l.Nodup):(zF l n).Nodup:=by
 unfold zF
 split
 ·exact h
 ·rename_i hn
  rw [List.nodup_append]
  refine ⟨h,by simp,fun a ha b hb e=>hn ((ID l n).2 ?_)⟩
  simp at hb
  rw [<- hb,<- e]
  exact ha
theorem NT {t:T} (h:eN t=true) (hk:t.kind=1):t.name=emptyB/\t.kids.length=0:=by
 unfold eN at h
 rw [if_pos hk] at h
 simp only [Bool.and_eq_true,decide_eq_true_eq] at h
 exact ⟨h.2.2.1,h.2.2.2⟩
theorem xK (vs:List Int):∀ ts:List T,(lC vs ts).length=ts.length
 | []=>rfl
 | t::ts=>by rw [lC]; simp [xK vs ts]
theorem Kl (vs:List Int) (ts:List T) (j:Nat) (h:j<ts.length):lC vs (ts.take (j+1))=lC vs (ts.take j)++[gG vs ts[j]]:=by
 have:∀ (xs ys:List T),lC vs (xs++ys)=lC vs xs++lC vs ys:=by
  intro xs ys
  induction xs with
  | nil=>rfl
  | cons x xs ih=>simp [lC,ih]
 rw [List.take_succ_eq_append_getElem h,this]; rfl
def SX (vs:List Int) (c:C):C:=⟨gG vs c.head,lC vs c.body⟩
def SL (c:C):List Int:=de (c.head::c.body) []
end
section
open Go Go.RowKit
mutual
def okU (N:Nat):T->Prop
 | .mk k n s ks=>k≠0/\(k=1->0<=n/\n<N/\s=emptyB/\ks=[])/\dC N ks/\s.size<=6
def dC (N:Nat):List T->Prop
 | []=>True
 | t::ts=>okU N t/\dC N ts
end
mutual
def vT:T->List Nat
 | .mk k n _ ks=>if k=1 then [n.toNat] else vTL ks
def vTL:List T->List Nat
 | []=>[]
 | t::ts=>vT t++vTL ts
end
theorem m8 {N:Nat}:∀ {ts:List T},dC N ts->∀ t∈ts,okU N t
 | t::ts,h,x,hx=>by
  rw [dC] at h
  rcases List.mem_cons.1 hx with rfl|hx
  ·exact h.1
  ·exact m8 h.2 x hx
theorem Ak {N:Nat}:∀ {ts:List T},(∀ t∈ts,okU N t)->dC N ts
 | [],_=>by rw [dC]; trivial
 | t::ts,h=>by rw [dC]; exact ⟨h t (List.mem_cons_self ..),Ak fun u hu=>h u (List.mem_cons_of_mem _ hu)⟩
theorem nW:∀ {ts:List T} {m:Nat},m∈vTL ts↔∃ t∈ts,m∈vT t
 | [],m=>by simp [vTL]
 | t::ts,m=>by rw [vTL,List.mem_append,nW]; simp
theorem okU.kids {N:Nat} {t:T} (h:okU N t):dC N t.kids:=by cases t; rw [okU] at h; exact h.2.2.1
theorem okU.var {N:Nat} {t:T} (h:okU N t) (hk:t.kind=1):0<=t.n/\t.n<N/\t.name=emptyB/\t.kids=[]:=by cases t; rw [okU] at h; exact h.2.1 hk
theorem okU.kind {N:Nat} {t:T} (h:okU N t):t.kind≠0:=by cases t; rw [okU] at h; exact h.1
theorem ie {t:T} (h:t.kind=1):vT t=[t.n.toNat]:=by cases t; rw [vT]; exact if_pos h
theorem Aj {t:T} (h:t.kind≠1):vT t=vTL t.kids:=by cases t; rw [vT]; exact if_neg h
mutual
theorem N6 {N:Nat}:∀ (t:T),okU N t->∀ m∈vT t,m<N
 | .mk k n s ks,h,m,hm=>by
  rw [okU] at h
  rw [vT] at hm
  split at hm
  ·rename_i hk
   have:=h.2.1 hk
   simp at hm
   omega
  ·exact KW ks h.2.2.1 m hm
theorem KW {N:Nat}:∀ (ts:List T),dC N ts->∀ m∈vTL ts,m<N
 | [],_,m,hm=>by simp [vTL] at hm
 | t::ts,h,m,hm=>by
  rw [dC] at h
  rw [vTL,List.mem_append] at hm
  rcases hm with hm|hm
  ·exact N6 t h.1 m hm
  ·exact KW ts h.2 m hm
end
def look (st:aC) (t:T):Option T:=if t.kind=1 then (st[t.n.toNat]?).join else none
theorem cT {st:aC} {t u:T}:look st t=some u↔t.kind=1/\st[t.n.toNat]?=some (some u):=by
 unfold look
 split
 ·rename_i h
  simp only [Option.join_eq_some_iff]
  exact ⟨fun e=>⟨h,e⟩,fun e=>e.2⟩
 ·rename_i h
  simp [h]
theorem DR {st:aC} {t:T}:look st t=none↔(t.kind=1->st[t.n.toNat]?=none ∨ st[t.n.toNat]?=some none):=by
 unfold look
 split
 ·rename_i h
  rw [Option.join_eq_none_iff]
  constructor
  ·intro e _
   rcases e with e|e
   ·exact .inl e
   ·exact .inr e
  ·intro e
   rcases e h with e|e
   ·exact .inl e
   ·exact .inr e
 ·rename_i h
  simp [h]
inductive cS (st:aC):T->T->Prop
 | stop {t:T}:look st t=none->cS st t t
 | step {t u v:T}:look st t=some u->cS st u v->cS st t v
inductive Rch (st:aC):Nat->Nat->Prop
 | refl (m:Nat):Rch st m m
 | step {m k n:Nat} {u:T}:st[m]?=some (some u)->k∈vT u->Rch st k n->Rch st m n
theorem Rch.trans {st:aC} {a b c:Nat} (h:Rch st a b) (h':Rch st b c):Rch st a c:=by
 induction h with
 | refl=>exact h'
 | step h1 h2 _ ih=>exact .step h1 h2 (ih h')
def fj (st:aC) (n:Nat) (t:T):Prop:=∃ m∈vT t,Rch st m n
structure Good (N:Nat) (st:aC):Prop where
 len:st.length=N
 ok:∀ t,some t∈st->okU N t
 w:∀ t,some t∈st->wT t<=1048576
 rk:∃ r:Nat->Nat,∀ (n:Nat) (u:T),st[n]?=some (some u)->∀ m∈vT u,r m<r n
theorem Good.look_ok {N:Nat} {st:aC} (h:Good N st) {t u:T} (hl:look st t=some u):okU N u/\wT u<=1048576:=by
 have:=List.mem_of_getElem? (cT.1 hl).2
 exact ⟨h.ok u this,h.w u this⟩
theorem dN {N:Nat} {st:aC} {t v:T} (h:Good N st) (hw:cS st t v) (ht:okU N t/\wT t<=1048576):okU N v/\wT v<=1048576:=by
 induction hw with
 | stop=>exact ht
 | step hl _ ih=>exact ih (h.look_ok hl)
theorem iN {st:aC} {t v:T} (hw:cS st t v):look st v=none:=by
 induction hw with
 | stop h=>exact h
 | step _ _ ih=>exact ih
theorem LP {N:Nat} {st:aC} (h:Good N st) (t:T):∃ v,cS st t v:=by
 obtain ⟨r,hr⟩:=h.rk
 have:∀ (k:Nat) (t:T),(∀ u,look st t=some u->r t.n.toNat<k)->∃ v,cS st t v:=by
  intro k
  induction k with
  | zero=>
   intro t ht
   cases hl:look st t with
   | none=>exact ⟨t,.stop hl⟩
   | some u=>have:=ht u hl; omega
  | succ k ih=>
   intro t ht
   cases hl:look st t with
   | none=>exact ⟨t,.stop hl⟩
   | some u=>
    have h1:=ht u hl
    obtain ⟨v,hv⟩:=ih u fun u' hu'=>by
     obtain ⟨hk,_⟩:=cT.1 hu'
     have:=hr _ _ (cT.1 hl).2 u.n.toNat (by rw [ie hk]; simp)
     omega
    exact ⟨v,.step hl hv⟩
 exact this (r t.n.toNat+1) t fun _ _=>Nat.lt_succ_self _
theorem N3 {st:aC} {t v:T} (hw:cS st t v) {n:Nat} (hn:∀ u,st[n]?≠some (some u)):fj st n t↔fj st n v:=by
 induction hw with
 | stop=>exact Iff.rfl
 | step hl _ ih=>
  rename_i t u v
  rw [<- ih]
  obtain ⟨hk,hs⟩:=cT.1 hl
  constructor
  ·rintro ⟨m,hm,hr⟩
   rw [ie hk,List.mem_singleton] at hm
   subst hm
   cases hr with
   | refl=>exact absurd hs (hn _)
   | step h1 h2 h3=>
    rw [hs,Option.some.injEq,Option.some.injEq] at h1
    subst h1
    exact ⟨_,h2,h3⟩
  ·rintro ⟨m,hm,hr⟩
   exact ⟨_,by rw [ie hk]; exact List.mem_singleton.2 rfl,.step hs hm hr⟩
def unb:aC->Nat
 | []=>0
 | none::st=>unb st+1
 | some _::st=>unb st
theorem tR:∀ (st:aC) (n:Nat) (t:T),st[n]?=some none->unb (st.set n (some t))+1=unb st
 | [],n,t,h=>by simp at h
 | x::st,0,t,h=>by
  simp only [List.getElem?_cons_zero,Option.some.injEq] at h
  subst h
  rfl
 | x::st,n+1,t,h=>by
  have h':st[n]?=some none:=by simpa using h
  have:=tR st n t h'
  cases x <;> simp only [List.set_cons_succ,unb] <;> omega
open Classical in
theorem Good.set {N:Nat} {st:aC} (h:Good N st) {n:Nat} {t:T} (hn:st[n]?=some none) (ht:okU N t) (hw:wT t<=1048576) (ho:¬ fj st n t):Good N (st.set n (some t)):=by
 have hnl:n<st.length:=(List.getElem?_eq_some_iff.1 hn).1
 refine ⟨by rw [List.length_set]; exact h.len,fun u hu=>?_,fun u hu=>?_,?_⟩
 ·rcases List.mem_or_eq_of_mem_set hu with hu|hu
  ·exact h.ok u hu
  ·rw [Option.some.injEq] at hu
   rw [hu]; exact ht
 ·rcases List.mem_or_eq_of_mem_set hu with hu|hu
  ·exact h.w u hu
  ·rw [Option.some.injEq] at hu
   rw [hu]; exact hw
 ·obtain ⟨r,hr⟩:=h.rk
  have hM:∀ l:List Nat,∃ M,∀ m∈l,r m<=M:=by
   intro l
   induction l with
   | nil=>exact ⟨0,by simp⟩
   | cons x l ih=>
    obtain ⟨M,hM⟩:=ih
    refine ⟨M+r x,fun m hm=>?_⟩
    rcases List.mem_cons.1 hm with rfl|hm
    ·omega
    ·have:=hM m hm; omega
  obtain ⟨M,hM⟩:=hM (vT t)
  refine ⟨fun m=>if Rch st m n then r m+M+1 else r m,fun k u hku m hm=>?_⟩
  by_cases hkn:n=k
  ·subst hkn
   rw [List.getElem?_set_self hnl,Option.some.injEq,Option.some.injEq] at hku
   subst hku
   have h1:¬ Rch st m n:=fun e=>ho ⟨m,hm,e⟩
   have h2:=hM m hm
   simp only [if_neg h1,if_pos (Rch.refl (st:=st) n)]
   omega
  ·rw [List.getElem?_set_ne hkn] at hku
   have h1:=hr k u hku m hm
   by_cases hmn:Rch st m n
   ·have h2:Rch st k n:=.step hku hm hmn
    simp only [if_pos hmn,if_pos h2]
    omega
   ·simp only [if_neg hmn]
    split <;> omega
inductive Job where
 | one (a b:T)
 | list (xs ys:List T)
inductive Uni:aC->Job->Bool->aC->Prop
 | same {st:aC} {a b a' b':T}:cS st a a'->cS st b b'->a'.kind=1->b'.kind=1->a'.n=b'.n->Uni st (.one a b) true st
 | bindA {st:aC} {a b a' b':T}:cS st a a'->cS st b b'->a'.kind=1->¬ (b'.kind=1/\a'.n=b'.n)->¬ fj st a'.n.toNat b'->Uni st (.one a b) true (st.set a'.n.toNat (some b'))
 | occA {st:aC} {a b a' b':T}:cS st a a'->cS st b b'->a'.kind=1->¬ (b'.kind=1/\a'.n=b'.n)->fj st a'.n.toNat b'->Uni st (.one a b) false st
 | bindB {st:aC} {a b a' b':T}:cS st a a'->cS st b b'->a'.kind≠1->b'.kind=1->¬ fj st b'.n.toNat a'->Uni st (.one a b) true (st.set b'.n.toNat (some a'))
 | occB {st:aC} {a b a' b':T}:cS st a a'->cS st b b'->a'.kind≠1->b'.kind=1->fj st b'.n.toNat a'->Uni st (.one a b) false st
 | clash {st:aC} {a b a' b':T}:cS st a a'->cS st b b'->a'.kind≠1->b'.kind≠1->ic a' b'=false->Uni st (.one a b) false st
 | kids {st st':aC} {a b a' b':T} {r:Bool}:cS st a a'->cS st b b'->a'.kind≠1->b'.kind≠1->ic a' b'=true->Uni st (.list a'.kids b'.kids) r st'->Uni st (.one a b) r st'
 | nil {st:aC}:Uni st (.list [] []) true st
 | stop {st st':aC} {a b:T} {xs ys:List T}:Uni st (.one a b) false st'->Uni st (.list (a::xs) (b::ys)) false st'
 | go {st st1 st':aC} {a b:T} {xs ys:List T} {r:Bool}:Uni st (.one a b) true st1->Uni st1 (.list xs ys) r st'->Uni st (.list (a::xs) (b::ys)) r st'
def okJ (N:Nat):Job->Prop
 | .one a b=>(okU N a/\wT a<=1048576)/\(okU N b/\wT b<=1048576)
 | .list xs ys=>(∀ a∈xs,okU N a/\wT a<=1048576)/\(∀ b∈ys,okU N b/\wT b<=1048576)/\xs.length=ys.length
theorem jf {N:Nat} {t:T} (h:okU N t/\wT t<=1048576):∀ x∈t.kids,okU N x/\wT x<=1048576:=by
 intro x hx
 refine ⟨m8 h.1.kids x hx,?_⟩
 have h1:=kH hx
 have h2:=h.2
 cases t
 rw [wT] at h2
 simp only [T.kids] at h1
 omega
theorem qm {a b:T} (h:ic a b=true):a.kids.length=b.kids.length:=by
 rw [ic] at h
 simp only [Bool.and_eq_true,decide_eq_true_eq] at h
 exact h.2.2.2
theorem ud {N:Nat} {st:aC} (h:Good N st) {a:T} (hk:a.kind=1) (hl:look st a=none) (ho:okU N a):st[a.n.toNat]?=some none:=by
 obtain ⟨h0,h1,_⟩:=ho.var hk
 rcases DR.1 hl hk with e|e
 ·have:=List.getElem?_eq_none_iff.1 e
  have:=h.len
  omega
 ·exact e
theorem Uni.good {N:Nat} {st st':aC} {j:Job} {r:Bool} (hu:Uni st j r st'):Good N st->okJ N j->Good N st'/\(st'=st ∨ unb st'<unb st):=by
 induction hu with
 | same=>exact fun h _=>⟨h,.inl rfl⟩
 | occA=>exact fun h _=>⟨h,.inl rfl⟩
 | occB=>exact fun h _=>⟨h,.inl rfl⟩
 | clash=>exact fun h _=>⟨h,.inl rfl⟩
 | nil=>exact fun h _=>⟨h,.inl rfl⟩
 | bindA ha hb hk hns ho=>
  rename_i a' b'
  intro h hj
  have h1:=dN h ha hj.1
  have h2:=dN h hb hj.2
  have hf:=ud h hk (iN ha) h1.1
  have:=tR _ _ b' hf
  exact ⟨h.set hf h2.1 h2.2 ho,.inr (by omega)⟩
 | bindB ha hb hns hk ho=>
  rename_i a' b'
  intro h hj
  have h1:=dN h ha hj.1
  have h2:=dN h hb hj.2
  have hf:=ud h hk (iN hb) h2.1
  have:=tR _ _ a' hf
  exact ⟨h.set hf h1.1 h1.2 ho,.inr (by omega)⟩
 | kids ha hb _ _ hd _ ih=>
  intro h hj
  exact ih h ⟨jf (dN h ha hj.1),jf (dN h hb hj.2),qm hd⟩
 | stop _ ih=>
  intro h hj
  exact ih h ⟨hj.1 _ (List.mem_cons_self ..),hj.2.1 _ (List.mem_cons_self ..)⟩
 | go _ _ ih1 ih2=>
  intro h hj
  obtain ⟨h1,h2⟩:=ih1 h ⟨hj.1 _ (List.mem_cons_self ..),hj.2.1 _ (List.mem_cons_self ..)⟩
  obtain ⟨h3,h4⟩:=ih2 h1 ⟨fun a ha=>hj.1 a (List.mem_cons_of_mem _ ha),fun b hb=>hj.2.1 b (List.mem_cons_of_mem _ hb),by have:=hj.2.2; simpa using this⟩
  refine ⟨h3,?_⟩
  rcases h2 with rfl|h2
  ·exact h4
  ·rcases h4 with rfl|h4
   ·exact .inr h2
   ·exact .inr (by omega)
open Classical in
theorem GS {N:Nat}:∀ (U:Nat) (st:aC),Good N st->unb st<=U->∀ j,okJ N j->∃ r st',Uni st j r st':=by
 intro U
 induction U using Nat.strongRecOn with
 | _ U ihU=>
  intro st hg hU
  -- lists of terms of which each is known to have an answer
  have hlist:∀ (xs ys:List T),okJ N (.list xs ys)->(∀ a∈xs,∀ b,okJ N (.one a b)->∃ r st',Uni st (.one a b) r st')->∃ r st',Uni st (.list xs ys) r st':=by
   intro xs
   induction xs with
   | nil=>
    intro ys hj _
    have:ys=[]:=List.eq_nil_of_length_eq_zero hj.2.2.symm
    subst this
    exact ⟨true,st,.nil⟩
   | cons a xs ih=>
    intro ys hj hP
    cases ys with
    | nil=>have:=hj.2.2; simp at this
    | cons b ys=>
     have hjab:okJ N (.one a b):=⟨hj.1 _ (List.mem_cons_self ..),hj.2.1 _ (List.mem_cons_self ..)⟩
     have hjl:okJ N (.list xs ys):=⟨fun a ha=>hj.1 a (List.mem_cons_of_mem _ ha),fun b hb=>hj.2.1 b (List.mem_cons_of_mem _ hb),by have:=hj.2.2; simpa using this⟩
     obtain ⟨r,st1,h1⟩:=hP a (List.mem_cons_self ..) b hjab
     cases r with
     | false=>exact ⟨false,st1,.stop h1⟩
     | true=>
      obtain ⟨hg1,hu1⟩:=h1.good hg hjab
      rcases hu1 with rfl|hu1
      ·obtain ⟨r,st2,h2⟩:=ih ys hjl fun a ha=>hP a (List.mem_cons_of_mem _ ha)
       exact ⟨r,st2,.go h1 h2⟩
      ·obtain ⟨r,st2,h2⟩:=ihU (unb st1) (by omega) st1 hg1 (Nat.le_refl _) _ hjl
       exact ⟨r,st2,.go h1 h2⟩
  obtain ⟨rk,hrk⟩:=hg.rk
  have hone:∀ (m:Nat) (a:T),(∀ x∈vT a,∀ u,st[x]?=some (some u)->rk x<m)->∀ b,okJ N (.one a b)->∃ r st',Uni st (.one a b) r st':=by
   intro m
   induction m using Nat.strongRecOn with
   | _ m ihm=>
    refine T.ind fun k n s ks ih hr b hj=>?_
    obtain ⟨b',hb⟩:=LP hg b
    have hbo:=dN hg hb hj.2
    cases hl:look st (.mk k n s ks) with
    | some u=>
     obtain ⟨hk,hs⟩:=cT.1 hl
     have hlt:=hr _ (by rw [ie hk]; exact List.mem_singleton.2 rfl) u hs
     have hju:okJ N (.one u b):=⟨hg.look_ok hl,hj.2⟩
     obtain ⟨r,st',hu⟩:=ihm _ hlt u (fun x hx _ _=>hrk _ _ hs x hx) b hju
     refine ⟨r,st',?_⟩
     cases hu with
     | same h1 h2 h3 h4 h5=>exact .same (.step hl h1) h2 h3 h4 h5
     | bindA h1 h2 h3 h4 h5=>exact .bindA (.step hl h1) h2 h3 h4 h5
     | occA h1 h2 h3 h4 h5=>exact .occA (.step hl h1) h2 h3 h4 h5
     | bindB h1 h2 h3 h4 h5=>exact .bindB (.step hl h1) h2 h3 h4 h5
     | occB h1 h2 h3 h4 h5=>exact .occB (.step hl h1) h2 h3 h4 h5
     | clash h1 h2 h3 h4 h5=>exact .clash (.step hl h1) h2 h3 h4 h5
     | kids h1 h2 h3 h4 h5 h6=>exact .kids (.step hl h1) h2 h3 h4 h5 h6
    | none=>
     have ha:cS st (.mk k n s ks) (.mk k n s ks):=.stop hl
     by_cases hk:(T.mk k n s ks).kind=1
     ·by_cases hsame:b'.kind=1/\(T.mk k n s ks).n=b'.n
      ·exact ⟨_,_,.same ha hb hk hsame.1 hsame.2⟩
      ·by_cases ho:fj st (T.mk k n s ks).n.toNat b'
       ·exact ⟨_,_,.occA ha hb hk hsame ho⟩
       ·exact ⟨_,_,.bindA ha hb hk hsame ho⟩
     ·by_cases hkb:b'.kind=1
      ·by_cases ho:fj st b'.n.toNat (T.mk k n s ks)
       ·exact ⟨_,_,.occB ha hb hk hkb ho⟩
       ·exact ⟨_,_,.bindB ha hb hk hkb ho⟩
      ·cases hd:ic (T.mk k n s ks) b' with
       | false=>exact ⟨_,_,.clash ha hb hk hkb hd⟩
       | true=>
        obtain ⟨r,st',hu⟩:=hlist ks b'.kids ⟨jf hj.1,jf hbo,qm hd⟩ fun a ha' b2 hj2=>
         ih a ha' (fun x hx u hs=>hr x (by rw [Aj hk]; exact nW.2 ⟨a,ha',hx⟩) u hs) b2 hj2
        exact ⟨r,st',.kids ha hb hk hkb hd hu⟩
  have hall:∀ a b,okJ N (.one a b)->∃ r st',Uni st (.one a b) r st':=by
   intro a b hj
   have hM:∀ l:List Nat,∃ M,∀ m∈l,rk m<M:=by
    intro l
    induction l with
    | nil=>exact ⟨0,by simp⟩
    | cons x l ih=>
     obtain ⟨M,hM⟩:=ih
     refine ⟨M+rk x+1,fun m hm=>?_⟩
     rcases List.mem_cons.1 hm with rfl|hm
     ·omega
     ·have:=hM m hm; omega
   obtain ⟨M,hM⟩:=hM (vT a)
   exact hone M a (fun x hx _ _=>hM x hx) b hj
  intro j hj
  cases j with
  | one a b=>exact hall a b hj
  | list xs ys=>exact hlist xs ys hj fun a _ b hjb=>hall a b hjb
inductive M9 where
 | one (t u:T)
 | list (ts us:List T)
inductive Res (st:aC):M9->Prop
 | one {t v:T} {us:List T}:cS st t v->Res st (.list v.kids us)->Res st (.one t (.mk v.kind v.n v.name us))
 | nil:Res st (.list [] [])
 | cons {t u:T} {ts us:List T}:Res st (.one t u)->Res st (.list ts us)->Res st (.list (t::ts) (u::us))
theorem Fv {N:Nat} {st:aC} (h:Good N st) (t:T) (ho:okU N t):∃ u,Res st (.one t u):=by
 obtain ⟨rk,hrk⟩:=h.rk
 have hlist:∀ ts:List T,(∀ t∈ts,∃ u,Res st (.one t u))->∃ us,Res st (.list ts us):=by
  intro ts
  induction ts with
  | nil=>exact fun _=>⟨[],.nil⟩
  | cons t ts ih=>
   intro hP
   obtain ⟨u,hu⟩:=hP t (List.mem_cons_self ..)
   obtain ⟨us,hus⟩:=ih fun x hx=>hP x (List.mem_cons_of_mem _ hx)
   exact ⟨u::us,.cons hu hus⟩
 have hone:∀ (m:Nat) (a:T),(∀ x∈vT a,∀ u,st[x]?=some (some u)->rk x<m)->(okU N a)->∃ u,Res st (.one a u):=by
  intro m
  induction m using Nat.strongRecOn with
  | _ m ihm=>
   refine T.ind fun k n s ks ih hr ho=>?_
   cases hl:look st (.mk k n s ks) with
   | some u=>
    obtain ⟨hk,hs⟩:=cT.1 hl
    have hlt:=hr _ (by rw [ie hk]; exact List.mem_singleton.2 rfl) u hs
    obtain ⟨u',hu⟩:=ihm _ hlt u (fun x hx _ _=>hrk _ _ hs x hx) (h.look_ok hl).1
    refine ⟨u',?_⟩
    cases hu with
    | one h1 h2=>exact .one (.step hl h1) h2
   | none=>
    by_cases hk:(T.mk k n s ks).kind=1
    ·have:=(ho.var hk).2.2.2
     have e:ks=[]:=this
     subst e
     exact ⟨_,.one (.stop hl) .nil⟩
    ·obtain ⟨us,hus⟩:=hlist ks fun a ha=>ih a ha (fun x hx u hs=>hr x (by rw [Aj hk]; exact nW.2 ⟨a,ha,hx⟩) u hs) (m8 ho.kids a ha)
     exact ⟨_,.one (.stop hl) hus⟩
 have hM:∀ l:List Nat,∃ M,∀ m∈l,rk m<M:=by
  intro l
  induction l with
  | nil=>exact ⟨0,by simp⟩
  | cons x l ih=>
   obtain ⟨M,hM⟩:=ih
   refine ⟨M+rk x+1,fun m hm=>?_⟩
   rcases List.mem_cons.1 hm with rfl|hm
   ·omega
   ·have:=hM m hm; omega
 obtain ⟨M,hM⟩:=hM (vT t)
 exact hone M t (fun x hx _ _=>hM x hx) ho
end
section
open Go Go.RowKit
theorem tY {b:Bool} {n:Nat} (h:b=decide (1<=n)) (h':b=false):n=0:=by
 rw [h',eq_comm,decide_eq_false_iff_not] at h; omega
theorem fL {a b:Bool} {k n:Nat} (h:a=decide (k<=n)) (ha:a=true) (h':b=decide (k+1<=n)) (hb:b=false):n=k:=by
 rw [ha,eq_comm,decide_eq_true_iff] at h
 rw [hb,eq_comm,decide_eq_false_iff_not] at h'
 omega
theorem lx {b:Bool} {n m:Nat} (hl:n<=m) (h:b=decide (m<=n)) (hb:b=true):n=m:=by
 rw [hb,eq_comm,decide_eq_true_iff] at h; omega
theorem MU {b l:Bool} {n m:Nat} (h:b=decide (m<=n)) (k:b=true->l=true) (hl:l=false):n<m:=by
 cases b
 ·rw [eq_comm,decide_eq_false_iff_not] at h; omega
 ·rw [k rfl] at hl; cases hl
def N8:List (Nat × Value)->List ByteArray
 | (_,.string s)::l=>s::N8 l
 | _=>[]
def Og:List (Nat × Value)->List Int
 | (_,.int _ n)::l=>n::Og l
 | _=>[]
theorem Ov {α:Type} {f:α->Value} (l:List α) {i:Nat} (hi:i<l.length):aH (l.map f).toArray i 1=[f l[i]]:=by
 rw [aH,List.drop_eq_getElem_cons (by simpa using hi)]
 simp
theorem RdSl.monoU {S S':ae} {v:Value} {ys:List Nat} (hs:Sle S S') (h:RdSl S 1 jC v ys):RdSl S' 1 jC v ys:=h.mono hs fun _ _ h=>h
theorem RdSl.monoS {S S':ae} {v:Value} {ys:List ByteArray} (hs:Sle S S') (h:RdSl S 1 mS v ys):RdSl S' 1 mS v ys:=h.mono hs fun _ _ h=>h
theorem Rs {S:ae} {b:Nat} {E:TypeId} {cs:List Value} {t:T} (hS:S b=some (.cells cs.toArray E)) (h:RdT S cs t):RdSl S 4 (RdT S) (.slice (some ⟨b,0,none⟩) 1 1) [t]:=by
 refine ⟨_,1,rfl,Nat.le_refl _,by simp [maxLen],.inr ⟨b,0,_,E,(0,0),rfl,hS,fun i hi=>?_⟩⟩
 match i,hi with
 | 0,_=>
  have e:aH cs.toArray (0+0 * 4) 4=cs:=by
   rw [aH]
   simpa using List.take_of_length_le (Nat.le_of_eq h.length)
  rw [e]
  exact h
section
variable {w0 w:World} {X:List Nat} {L A:List Item} {S:ae} {K:Value->World->Prop}
attribute [local irreducible] Run CondV aB aS
theorem Inv.last (h:Inv w0 X L S w) (i:Nat) {it:Item} (hi:L[i]?=some it):Inv w0 X (L.eraseIdx i++[it]) S w:=by
 refine h.perm ?_
 obtain ⟨h1,_⟩:=xQ hi it
 rw [List.eraseIdx_eq_take_drop_succ]
 conv=>rhs; rw [h1]
 rw [List.append_assoc]
 exact List.Perm.append_left _ List.perm_append_comm
theorem eV {n:Nat} {ps:List (Nat × Value)} (h:Inv w0 X L S w)
  (hr:(bt wQ n ps).run Tryz.prog w=.ok (.value (.slice (some ⟨w.heap.size,0,none⟩) n n)) { w with heap:=w.heap.push (.cells ((N8 ps).map Value.string).toArray jF) })
  (hn:(N8 ps).length=n) (hm:n<=1000) (hk:∀ v S1 w',Ext w0.heap.size X S S1->RdSl S1 1 mS v (N8 ps)->Inv w0 X L S1 w'->K v w'):Run Tryz.prog (bt wQ n ps) w K:=by
 refine qz (v:=fun b=>.slice (some ⟨b,0,none⟩) n n) (o:=.cells ((N8 ps).map Value.string).toArray jF) h hr fun b w' hI=>?_
 obtain ⟨S1,hI,hE,hS⟩:=hI.pub1
 refine hk _ S1 w' hE ?_ hI
 exact RdSl.ofCells hS hn (by simp only [maxLen]; omega) fun i hi=>Ov _ hi
theorem th {n:Nat} {ps:List (Nat × Value)} (h:Inv w0 X L S w)
  (hr:(bt Lz n ps).run Tryz.prog w=.ok (.value (.slice (some ⟨w.heap.size,0,none⟩) n n)) { w with heap:=w.heap.push (.cells ((Og ps).map (Value.int .i64)).toArray cD) })
  (hn:(Og ps).length=n) (hm:n<=1000) (hk:∀ v S1 w',Ext w0.heap.size X S S1->RdSl S1 1 ig v (Og ps)->Inv w0 X L S1 w'->K v w'):Run Tryz.prog (bt Lz n ps) w K:=by
 refine qz (v:=fun b=>.slice (some ⟨b,0,none⟩) n n) (o:=.cells ((Og ps).map (Value.int .i64)).toArray cD) h hr fun b w' hI=>?_
 obtain ⟨S1,hI,hE,hS⟩:=hI.pub1
 refine hk _ S1 w' hE ?_ hI
 exact RdSl.ofCells hS hn (by simp only [maxLen]; omega) fun i hi=>Ov _ hi
def qi (Q:Prop) (R:Nat->Prop):Nat->Prop
 | 0=>Q
 | n+1=>R n
def zZ (w0:World) (X:List Nat) (b:Nat) (c:Array Value) (d:Nat) (E:TypeId) (kv:Value) (css:List (List Value)) (A:Nat->List Item) (Q:List Value->Nat->ae->Prop) (xv xs xa:Value) (w':World):Nat->Prop
 | 0=>∃ p1 S1 cs,Q cs p1 S1/\(cs.length=4/\∀ u∈cs,u.oneCell'=true)/\xv=.agg cs.toArray/\Inv w0 X (.blk b (.cells c E)::aL kv ab 4 css::A p1) S1 w'
 | 1=>∃ p1 S1 cs b8,Q cs p1 S1/\(cs.length=4/\∀ u∈cs,u.oneCell'=true)/\xs=.slice (some ⟨b8,0,none⟩) 1 1/\Inv w0 X (.blk b (.cells c E)::aL kv ab 4 css::(A p1++[.blk b8 (.cells cs.toArray ab)])) S1 w'
 | 2=>∃ p1 S1 cs,Q cs p1 S1/\(cs.length=4/\∀ u∈cs,u.oneCell'=true)/\Inv w0 X (.blk b (.cells c E)::aL xa ab 4 (css++[cs])::A p1) S1 w'
 | 3=>∃ p1 S1 cs,Q cs p1 S1/\(cs.length=4/\∀ u∈cs,u.oneCell'=true)/\Inv w0 X (.blk b (.cells (c.setIfInBounds d xa) E)::aL xa ab 4 (css++[cs])::A p1) S1 w'
 | _=>False
variable {b d:Nat} {c:Array Value} {E:TypeId} {kv:Value} {css:List (List Value)} {F:Nat->List Item} {Q:List Value->Nat->ae->Prop} {xv xs xa:Value}
theorem EW {n:Nat} (h:zZ w0 X b c d E kv css F Q xv xs xa w n) (hn:n<3):w.cell? ⟨b,d,none⟩=c[d]?:=by
 rcases n with _|_|_|n
 ·obtain ⟨p1,S1,cs,_,_,_,hI⟩:=h
  exact hI.cellL (i:=0) rfl
 ·obtain ⟨p1,S1,cs,b8,_,_,_,hI⟩:=h
  exact hI.cellL (i:=0) rfl
 ·obtain ⟨p1,S1,cs,_,_,hI⟩:=h
  exact hI.cellL (i:=0) rfl
 ·omega
theorem ap1 {B:Prop} (h:qi B (zZ w0 X b c d E kv css F Q xv xs xa w) 1) (hk:∀ u w',qi B (zZ w0 X b c d E kv css F Q xv u xa w') 2->K u w'):Run Tryz.prog (bt vR 1 [(0,xv)]) w K:=by
 obtain ⟨p1,S1,cs,hQ,hl,rfl,hI⟩:=h
 refine dQ hI bm (by simp [Value.cells,hl.1]) (by omega) (by omega) fun b8 w' hI=>?_
 exact hk _ _ ⟨p1,S1,cs,b8,hQ,hl,rfl,hI⟩
theorem ap2 {B:Prop} {ty:TypeId} {bs:List Bool} (h:qi B (zZ w0 X b c d E kv css F Q xv xs xa w) 2) (hfit:css.length<=1000000) (hk:∀ u w',qi B (zZ w0 X b c d E kv css F Q xv xs u w') 3->K u w'):Run Tryz.prog (bF .append #[vR,vR] ty bs [kv,xs]) w K:=by
 obtain ⟨p1,S1,cs,b8,hQ,hl,rfl,hI⟩:=h
 have hblk:(Item.blk b (.cells c E)::aL kv ab 4 css::(F p1++[.blk b8 (.cells cs.toArray ab)]))[(F p1).length+1+1]?=some (.blk b8 (.cells cs.toArray ab)):=by
  rw [List.getElem?_cons_succ,List.getElem?_cons_succ,List.getElem?_append_right (Nat.le_refl _),Nat.sub_self]; rfl
 refine eR hI 1 cs bm (by omega) rfl (by rw [hl.1]) (m:=1) (o:=0) ?_ hl.2 (by omega) (by omega) fun v' w_ hI=>?_
 ·intro i u hi
  rw [hI.cellL hblk,Nat.zero_add]
  simpa using hi
 rw [gB] at hI
 refine hk _ _ ⟨p1,S1,cs,hQ,hl,?_⟩
 exact hI.sub (((List.sublist_append_left _ _).cons_cons _).cons_cons _)
theorem ap3 {B:Prop} {ty:TypeId} (h:qi B (zZ w0 X b c d E kv css F Q xv xs xa w) 3) (hd:d<c.size) {K:Value->World->Prop} (hk:∀ w',qi B (zZ w0 X b c d E kv css F Q xv xs xa w') 4->K undef w'):Run Tryz.prog (sOp (.store vR (.const (.pointer (some ⟨b,d,none⟩))) (.const xa)) ty) w K:=by
 obtain ⟨p1,S1,cs,hQ,hl,hI⟩:=h
 obtain ⟨va,vn,vc,hv9⟩:=Inv.rowSlice hI 1 rfl
 refine dK hI 0 (n:=1) (by rw [hv9]; rfl) (by decide +kernel) rfl (by omega) (by rw [hv9]; simp [Value.cells,Value.oneCell']) fun w_ hI=>?_
 have hcl9:Value.cells xa=#[xa]:=by rw [hv9]; rfl
 have e:bx c d (Value.cells xa).toList=c.setIfInBounds d xa:=by
  rw [hcl9]
  apply Array.toList_inj.1
  simp only [bx,Array.toList_setIfInBounds]
  have hl:d<c.toList.length:=by simpa using hd
  rw [List.set_eq_take_append_cons_drop,if_pos hl]
  simp
 rw [e] at hI
 exact hk _ ⟨p1,S1,cs,hQ,hl,hI⟩
end
abbrev dW (d:Nat):Nat:=6 * 3 ^ d
theorem NV (d:Nat):6<=dW d:=by
 have:0<3 ^ d:=Nat.pow_pos (by omega)
 simp only [dW]; omega
theorem QJ (d:Nat):dW (d+1)=3 * dW d:=by simp only [dW,Nat.pow_succ]; omega
abbrev Rl (br:Nat) (sl:Value) (p d:Nat):Value->List Item->ae->Prop:=fun v I' S'=>∃ p',p'+2<=p+dW d/\I'=[rdI br sl p']/\∃ cs t,v=.agg cs.toArray/\RdT S' cs t/\wT t+3<=dW d/\okU 26 t
end
section
open Go Go.RowKit
theorem rg {l:List Int} {n a b:Int} (hm:n∈l) (h:(l.all fun n=>decide (a<=n) && decide (n<=b))=true):a<=n/\n<=b:=by
 rw [List.all_eq_true] at h
 have:=h n hm
 rw [Bool.and_eq_true,decide_eq_true_eq,decide_eq_true_eq] at this
 exact this
theorem Ap {l:List ByteArray} {s:ByteArray} {m:Nat} (hm:s∈l) (h:(l.all fun s=>decide (s.size<=m))=true):s.size<=m:=by
 rw [List.all_eq_true] at h
 have:=h s hm
 rwa [decide_eq_true_eq] at this
theorem KH {Q B:Prop} {R:Nat->Prop} (h1:Q->B) (h2:∀ n,n<3->R n->B):∀ {n:Nat},qi Q R n->n<4->B
 | 0,h,_=>h1 h
 | n+1,h,hn=>h2 n (by omega) h
theorem mF:∀ l m:List T,wL (l++m)=wL l+wL m
 | [],m=>by simp [wL]
 | t::l,m=>by simp only [List.cons_append,wL,mF l m]; omega
theorem PN {n:Int} (h:0<=n/\n<26):okU 26 (.mk 1 n emptyB []):=by
 simp only [okU,dC]
 exact ⟨by decide,fun _=>⟨h.1,h.2,trivial,trivial⟩,trivial,by decide⟩
theorem Qo {n:Int}:okU 26 (.mk 2 n emptyB []):=by
 simp only [okU,dC]
 exact ⟨by decide,(fun h=>by cases h),trivial,by decide⟩
theorem GD {s:ByteArray} {ts:List T} (hs:s.size<=6) (h:dC 26 ts):okU 26 (.mk 3 0 s ts):=by
 simp only [okU]
 exact ⟨by decide,(fun h=>by cases h),h,hs⟩
theorem Ce {N:Nat}:∀ {l m:List T},dC N l->dC N m->dC N (l++m)
 | [],_,_,h=>h
 | _::_,_,h,h'=>by
  rw [dC] at h
  rw [List.cons_append,dC]
  exact ⟨h.1,Ce h.2 h'⟩
theorem np {S:ae} {k n:Int} (hk:inI k) (hn:inI n):RdT S [.int .i64 k,.int .i64 n,.string ⟨#[]⟩,.slice none 0 0] (.mk k n emptyB []):=
 RdT.iff.2 ⟨_,rfl,hk,hn,Nat.zero_le _,jk S⟩
section
variable {w0 w:World} {X:List Nat} {L:List Item} {S:ae} {K:Value->World->Prop} {P:Program}
attribute [local irreducible] Run CondV aB aS
theorem Run.callL {f:FuncId} {fn:Func} {args:List Value} {I:List Item} {Post:Value->List Item->ae->Prop}
  (hf:P.funcs[f]?=some fn) (hn:(fn.name == "runtime.NumGoroutine" || fn.body.isNone)=false) (h:Inv w0 X L S w) (hc:Tri P f args I S Post) (hL:L=L.dropLast++I)
  (hk:∀ v I' S' w',Post v I' S'->Ext w0.heap.size X S S'->Inv w0 X (L.dropLast++I') S' w'->K v w'):Run P (eA (.func (.func f) #[] #[]) args) w K:=
 Run.callE (A:=L.dropLast) hf hn (hL ▸ h) hc hk
theorem Ga {T:TypeId} {cx cy:Bool} {d:Nat} (hd:d<=1000000) (hk:K (.int .i64 (d:Int)) w):Run P (cR .sub T cx cy (.int .i64 ((d+1:Nat):Int)) (.int .i64 1)) w K:=by
 refine ib (by omega) ?_
 rw [show ((d+1:Nat):Int) - 1=d by omega]
 exact hk
theorem FM {B:Prop} {b d:Nat} {c:Array Value} {E:TypeId} {kv xs xa:Value} {css:List (List Value)} {F:Nat->List Item} {Q:List Value->Nat->ae->Prop} {p1:Nat} {S1:ae} {cs:List Value} {t:T}
  (hQ:Q cs p1 S1) (hr:RdT S1 cs t) (hI:Inv w0 X (.blk b (.cells c E)::aL kv ab 4 css::F p1) S1 w):qi B (zZ w0 X b c d E kv css F Q (.agg cs.toArray) xs xa w) 1:=
 ⟨p1,S1,cs,hQ,⟨hr.length,hr.one⟩,rfl,hI⟩
end
section
variable {br:Nat} {sl:Value} {ys:List Nat}
attribute [local irreducible] Run CondV aB aS
abbrev JL (br:Nat) (sl:Value) (ys:List Nat) (d:Nat):Prop:=∀ (p:Nat) (S:ae),RdSl S 1 jC sl ys->p+3 * dW d<=1000000000->Tri Tryz.prog Kj [rdP br,.int .i64 (d:Int)] [rdI br sl p] S (Rl br sl p d)
theorem En {d:Nat} (hd4:d<=4) (ih:∀ d',d'+1=d->JL br sl ys d'):JL br sl ys d:=by
 intro p S hrd hp w hI
 have hW:=NV d
 refine y6.2 ?_
 dsimp only[y6,aX]
 refine aG hI aP fun b4 w' hI=>?_
 have hI:Inv w [br] [.blk b4 (.cells #[.int .i64 0,.int .i64 0,.string ⟨#[]⟩,.slice none 0 0] ab),rdI br sl p] S w':=hI.last 0 rfl
 refine ⟨fun v w'=>∃ (c:Bool) (p1:Nat),v=.bool c/\p1<=p+1/\(c=false->2<=d)/\Inv w [br] [.blk b4 (.cells #[.int .i64 0,.int .i64 0,.string ⟨#[]⟩,.slice none 0 0] ab),rdI br sl p1] S w',?_,?_⟩
 ·refine bA ?_
  by_cases hd:(d:Int)<2
  ·rw [decide_eq_true hd]
   refine rpG ?_
   exact ⟨true,p,rfl,by omega,(fun h=>by cases h),hI⟩
  ·rw [decide_eq_false hd]
   refine rpG ?_
   refine Run.callL bO bN hI (cY (n:=4) hrd (by omega) (by omega)) rfl fun v' I' S' w'=>?_
   rintro ⟨rfl,rfl,k,hk,rfl⟩ _ hI
   refine aY ?_
   refine rpG ?_
   exact ⟨_,p+1,rfl,by omega,fun _=>by omega,hI⟩
 intro t13 _ _ _ _ _ _ w'
 rintro ⟨c,p1,rfl,hp1,hcd,hI⟩
 refine az (fun _=>?_) (fun hc=>?_)
 ·refine Run.callL bO bN hI (cY (n:=4) hrd (by omega) (by omega)) rfl fun v' I' S' w'=>?_
  rintro ⟨rfl,rfl,k,hk,rfl⟩ _ hI
  have hI:Inv w [br] [.blk b4 (.cells #[.int .i64 0,.int .i64 0,.string ⟨#[]⟩,.slice none 0 0] ab),rdI br sl (p1+1)] S' w':=hI
  refine aY ?_
  refine aI (fun _=>?_) (fun _=>?_)
  ·refine Run.callL bO bN hI (cY (n:=4) hrd (by omega) (by omega)) rfl fun v' I' S1 w'=>?_
   rintro ⟨rfl,rfl,k,hk,rfl⟩ _ hI
   refine Run.callPure BS BQ hI (sW k S1) fun w' hI=>?_
   refine ao hI 0 rfl ac rfl rfl (by simp [Value.oneCell']) fun w' hI=>?_
   refine aW hI 0 ac rfl rfl ?_
   exact ⟨_,_,S1,rfl,hI.pick [false,true],Ext.refl _ _ _,p1+2,by omega,rfl,_,_,rfl,np (by simp [inI]) (by simp only [inI]; omega),by have e:emptyB.size=0:=rfl; simp only [wT,wL,List.length_nil,e]; omega,PN (by omega)⟩
  refine aY ?_
  refine aI (fun _=>?_) (fun _=>?_)
  ·refine th hI (by kernel_rfl) rfl (by omega) fun v S1 w' hE1 hv hI=>?_
   refine Run.callL ez ey hI (iV (p:=p1+1) (hrd.monoU hE1.1) hv (by decide) (by omega)) rfl fun v' I' S2 w'=>?_
   rintro ⟨rfl,rfl,n,hn,rfl⟩ _ hI
   have hn:=rg (a:=-1000) (b:=1000) hn (by decide)
   refine Run.callPure nV ou hI (jj n S2) fun w' hI=>?_
   refine ao hI 0 rfl ac rfl rfl (by simp [Value.oneCell']) fun w' hI=>?_
   refine aW hI 0 ac rfl rfl ?_
   exact ⟨_,_,S2,rfl,hI.pick [false,true],hE1,p1+2,by omega,rfl,_,_,rfl,np (by simp [inI]) (by simp only [inI]; omega),by have e:emptyB.size=0:=rfl; simp only [wT,wL,List.length_nil,e]; omega,Qo⟩
  ·refine eV hI (by kernel_rfl) rfl (by omega) fun v S1 w' hE1 hv hI=>?_
   refine Run.callL i9 jl hI (wE (p:=p1+1) (hrd.monoU hE1.1) hv (by decide) (by omega)) rfl fun v' I' S2 w'=>?_
   rintro ⟨rfl,rfl,s,hs,rfl⟩ _ hI
   have hs:=Ap (m:=3) hs (by decide)
   refine Run.call0E di dp hI (dP s (by simp only [maxLen]; omega) (jk S2) (by simp)) fun v' I' S3 w'=>?_
   rintro ⟨rfl,cs,rfl,hcs⟩ hE3 hI
   refine ao hI 0 rfl ac (by simpa using hcs.length) rfl (by simpa using hcs.one) fun w' hI=>?_
   refine aW hI 0 ac rfl (by simpa using hcs.length) ?_
   exact ⟨_,_,S3,rfl,hI.pick [false,true],hE1.trans hE3,p1+2,by omega,rfl,_,_,rfl,hcs,by simp only [wT,wL,List.length_nil]; omega,GD (by omega) (by simp only [dC])⟩
 obtain ⟨d',rfl⟩:∃ d',d=d'+1:=⟨d - 1,by have:=hcd hc; omega⟩
 have ih:=ih d' rfl
 have hD:=NV d'
 have hDs:=QJ d'
 have h3:dW d'<=486:=by
  have:3 ^ d'<=3 ^ 4:=Nat.pow_le_pow_right (by omega) (by omega)
  simp only [dW]; omega
 refine Run.callL bO bN hI (cY (n:=3) hrd (by omega) (by omega)) rfl fun v' I' S w'=>?_
 rintro ⟨rfl,rfl,k,hk,rfl⟩ _ hI
 refine aY ?_
 refine aI (fun _=>?_) (fun _=>?_)
 ·refine Ga (by omega) ?_
  refine Run.callL js jB hI (ih (p1+1) S hrd (by omega)) rfl fun v' I' S1 w'=>?_
  rintro ⟨p2,hp2,rfl,cs1,t1,rfl,hc1,hw1,ho1⟩ hE1 hI
  refine Ga (by omega) ?_
  refine Run.callL js jB hI (ih p2 S1 (hrd.monoU hE1.1) (by omega)) rfl fun v' I' S2 w'=>?_
  rintro ⟨p3,hp3,rfl,cs2,t2,rfl,hc2,hw2,ho2⟩ hE2 hI
  have hc1:=RdT.mono hE2.1 hc1
  obtain ⟨kv1,rfl,_,_,_,a1,q1,rfl,_⟩:=RdT.iff.1 hc1
  obtain ⟨kv2,rfl,_,_,_,a2,q2,rfl,_⟩:=RdT.iff.1 hc2
  refine qz (v:=fun b=>.slice (some ⟨b,0,none⟩) 2 2) (o:=.cells #[.int .i64 t1.kind,.int .i64 t1.n,.string t1.name,.slice a1 t1.kids.length q1,.int .i64 t2.kind,.int .i64 t2.n,.string t2.name,.slice a2 t2.kids.length q2] ab) hI (by kernel_rfl) fun b w' hI=>?_
  have hI:Inv w [br] ([.blk b4 (.cells #[.int .i64 0,.int .i64 0,.string ⟨#[]⟩,.slice none 0 0] ab),rdI br sl p3]++[_]) S2 w':=hI
  obtain ⟨S3,hI,hE3,hS⟩:=hI.pub1
  refine Run.call0E di dp hI (dP ⟨#[46]⟩ (by decide) (KC hS (hc1.mono hE3.1) (hc2.mono hE3.1)) (by simp)) fun v' I' S4 w'=>?_
  rintro ⟨rfl,cs,rfl,hcs⟩ hE4 hI
  refine ao hI 0 rfl ac (by simpa using hcs.length) rfl (by simpa using hcs.one) fun w' hI=>?_
  refine aW hI 0 ac rfl (by simpa using hcs.length) ?_
  refine ⟨_,_,S4,rfl,hI.pick [false,true],(hE1.trans hE2).trans (hE3.trans hE4),p3,by omega,rfl,_,_,rfl,hcs,?_,GD (by decide) (by simp only [dC]; exact ⟨ho1,ho2,trivial⟩)⟩
  have e:(ByteArray.mk #[46]).size=1:=rfl
  simp only [wT,wL,List.length_cons,List.length_nil,e]
  omega
 ·refine eV hI (by kernel_rfl) rfl (by omega) fun v S1 w' hE1 hv hI=>?_
  refine Run.callL i9 jl hI (wE (p:=p1+1) (hrd.monoU hE1.1) hv (by decide) (by omega)) rfl fun v' I' S2 w'=>?_
  rintro ⟨rfl,rfl,s,hs,rfl⟩ _ hI
  have hs:=Ap (m:=3) hs (by decide)
  refine Run.call0E di dp hI (vS s (jk S2) (by simp)) fun v' I' S3 w'=>?_
  rintro ⟨rfl,kv0,css0,rfl,rfl,hR0⟩ hE3 hI
  refine aG hI aP fun b5 w' hI=>?_
  obtain ⟨a0,n0,q0,rfl⟩:=hI.rowSlice 2 rfl
  refine ao hI 3 rfl ac rfl rfl (by simp [Value.oneCell']) fun w' hI=>?_
  obtain ⟨B4,hB4⟩:∃ B4,B4=Item.blk b4 (.cells #[.int .i64 0,.int .i64 0,.string ⟨#[]⟩,.slice none 0 0] ab):=⟨_,rfl⟩
  have hI:Inv w [br] [.blk b5 (.cells #[.int .i64 3,.int .i64 0,.string s,.slice a0 n0 q0] ab),aL (.slice a0 n0 q0) ab 4 css0,B4,rdI br sl (p1+2)] S3 w':=by
   rw [hB4]
   exact ((hI.last 2 rfl).last 0 rfl).last 0 rfl
  refine th hI (by kernel_rfl) rfl (by omega) fun v S4 w' hE4 hv hI=>?_
  refine Run.callL ez ey hI (iV (p:=p1+2) (hrd.monoU ((hE1.trans hE3).trans hE4).1) hv (by decide) (by omega)) rfl fun v' I' S5 w'=>?_
  rintro ⟨rfl,rfl,n,hn,rfl⟩ _ hI
  have hn:=rg (a:=1) (b:=3) hn (by decide)
  have hE5:Ext w.heap.size [br] S S5:=(hE1.trans hE3).trans hE4
  refine ⟨fun t w'=>∃ (j p2:Nat) (S6:ae) (kv:Value) (css:List (List Value)) (ts:List T),dC 26 ts/\t=.int .i64 (j:Int)/\ts.length+j<=3/\Rows 4 (RdT S6) css ts/\wL ts+3 * ts.length<=ts.length * dW d'/\p2+2 * ts.length<=p1+3+ts.length * dW d'/\Ext w.heap.size [br] S S6/\
   Inv w [br] [.blk b5 (.cells #[.int .i64 3,.int .i64 0,.string s,kv] ab),aL kv ab 4 css,B4,rdI br sl p2] S6 w',fun t _=>(intOf t).toNat,
   ⟨n.toNat,p1+3,S5,_,css0,[],by simp only [dC],by rw [Int.toNat_of_nonneg (by omega)],by simp; omega,hR0.monoR fun _ _ h=>RdT.mono hE4.1 h,by simp [wL],by simp,hE5,hI⟩,?_⟩
  intro t6 _ _ t63 t62 t61 t60 t59 t58 t57 t56 t55 _ _ w'
  rintro ⟨j,p2,S6,kv,css,ts,hou,rfl,hj,hR,hwts,hp2,hE6,hI⟩
  have hcl:=hR.hc
  have hm:ts.length * dW d'<=3 * dW d':=Nat.mul_le_mul_right _ (by omega)
  refine dv ?_
  refine aI (fun hj0=>?_) (fun hj0=>?_)
  ·obtain ⟨j',rfl⟩:∃ j',j=j'+1:=⟨j - 1,by omega⟩
   refine ⟨fun D tH tK vZ tN tM sY rH tE rB w_=>Fx D 0 [rB=.pointer (some ⟨b5,3,none⟩),tE=kv,rH=rdP br,sY=.int .i64 ((d'+1:Nat):Int),tM=.int .i64 (d':Int),True,True,True,tH=.pointer (some ⟨b5,3,none⟩),True]/\∃ n_:Nat,n_<=4/\D 5=decide (1<=n_)/\D 6=decide (2<=n_)/\D 7=decide (3<=n_)/\D 9=decide (4<=n_)/\(D 9=true->D 1=true)/\(qi (Inv w [br] [.blk b5 (.cells #[.int .i64 3,.int .i64 0,.string s,kv] ab),aL kv ab 4 css,B4,rdI br sl p2] S6 w_) (zZ w [br] b5 #[.int .i64 3,.int .i64 0,.string s,kv] 3 ab kv css (fun p=>[B4,rdI br sl p]) (fun cs p' S'=>∃ t,okU 26 t/\RdT S' cs t/\wT t+3<=dW d'/\p'+2<=p2+dW d'/\Ext w.heap.size [br] S6 S') tN vZ tK w_) n_),⟨Fx.nil _ _,⟨0,Nat.zero_le _,rfl,rfl,rfl,rfl,(aU),hI.draw⟩⟩,⟨?_,?_,?_,?_,?_,?_,?_,?_,?_,?_,trivial⟩,?_⟩
   all_goals (intro D bo; intros; rename_i tH tK vZ tN tM sY rH tE rB w_ hA_; have hF_:=hA_.1; obtain ⟨⟨bU,bV,bH,bR,bZ,bI,bB,ct,cF,cK,_⟩,⟨n_,ln_,e1_,e2_,e3_,e4_,kp_,hS⟩⟩:=hA_)
   ·refine ai al ?_
    exact ⟨hF_.set 0 rfl,⟨n_,ln_,e1_,e2_,e3_,e4_,kp_,hS⟩⟩
   ·obtain rfl:=bU ‹_›
    have ln2_:=MU e4_ kp_ bo
    refine cz ag ((KH (fun h=>h.cellL (i:=0) rfl) (fun n hn h=>EW h hn) hS ln2_).trans rfl) ?_
    exact ⟨hF_.set 1 rfl,⟨n_,ln_,e1_,e2_,e3_,e4_,(fun _=>rfl),hS⟩⟩
   ·exact ⟨hF_.set 2 rfl,⟨n_,ln_,e1_,e2_,e3_,e4_,kp_,hS⟩⟩
   ·exact ⟨hF_.set 3 rfl,⟨n_,ln_,e1_,e2_,e3_,e4_,kp_,hS⟩⟩
   ·obtain rfl:=bR ‹_›
    refine Ga (by omega) ?_
    exact ⟨hF_.set 4 rfl,⟨n_,ln_,e1_,e2_,e3_,e4_,kp_,hS⟩⟩
   ·obtain rfl:=bH ‹_›
    obtain rfl:=bZ ‹_›
    obtain rfl:n_=0:=tY e1_ bo
    refine Run.callL js jB (L:=[.blk b5 _,aL _ ab 4 css,B4,rdI br sl p2]) hS (ih p2 S6 (hrd.monoU hE6.1) (by omega)) rfl fun v' I' S7 w_=>?_
    rintro ⟨p3,hp3,rfl,cs,t,rfl,hcs,hwt,hot⟩ hE7 hI
    exact ⟨hF_.set 5 (by first|assumption|trivial),⟨1,by decide,rfl,(by first|exact e2_|rfl),(by first|exact e3_|rfl),(by first|exact e4_|rfl),kp_,FM ⟨t,hot,hcs,hwt,hp3,hE7⟩ hcs hI⟩⟩
   ·have Mw:=bI ‹_›
    obtain rfl:n_=1:=fL e1_ ‹D 5=true› e2_ bo
    refine ap1 hS fun u w_ hS=>?_
    exact ⟨hF_.set 6 (by first|assumption|trivial),⟨2,by decide,(by first|exact e1_|rfl),rfl,(by first|exact e3_|rfl),(by first|exact e4_|rfl),kp_,hS⟩⟩
   ·obtain rfl:=bV ‹_›
    have Mh:=bB ‹_›
    obtain rfl:n_=2:=fL e2_ ‹D 6=true› e3_ bo
    refine ap2 hS (by omega) fun u w_ hS=>?_
    exact ⟨hF_.set 7 (by first|assumption|trivial),⟨3,by decide,(by first|exact e1_|rfl),(by first|exact e2_|rfl),rfl,(by first|exact e4_|rfl),kp_,hS⟩⟩
   ·refine ai al ?_
    exact ⟨hF_.set 8 rfl,⟨n_,ln_,e1_,e2_,e3_,e4_,kp_,hS⟩⟩
   ·obtain rfl:=cF ‹_›
    have zQ:=ct ‹_›
    obtain rfl:n_=3:=fL e3_ ‹D 7=true› e4_ bo
    refine ap3 hS (by simp) fun w_ hS=>?_
    exact ⟨hF_.set 9 trivial,⟨4,by decide,(by first|exact e1_|rfl),(by first|exact e2_|rfl),(by first|exact e3_|rfl),rfl,(fun _=>‹D 1=true›),hS⟩⟩
   obtain rfl:n_=4:=lx ln_ e4_ ‹D 9=true›
   clear e1_ e2_ e3_ e4_
   obtain ⟨p3,S7,cs,⟨t,hot,hcs,hwt,hp3,hE7⟩,hl,hI⟩:=hS
   refine Ga (by omega) ?_
   refine ⟨⟨j',p3,S7,_,_,ts++[t],Ce hou (by simp only [dC]; exact ⟨hot,trivial⟩),rfl,by rw [List.length_append]; simp only [List.length_cons,List.length_nil]; omega,(hR.monoR fun _ _ h=>RdT.mono hE7.1 h).snoc hcs hl.1,?_,?_,hE6.trans hE7,hI⟩,by simp only [intOf,Int.toNat_natCast]; omega⟩
   ·rw [mF,List.length_append,List.length_cons,List.length_nil,Nat.add_mul]
    simp only [wL]
    omega
   ·rw [List.length_append,List.length_cons,List.length_nil,Nat.add_mul]
    omega
  ·have hI:Inv w [br] ([.blk b5 (.cells #[.int .i64 3,.int .i64 0,.string s,kv] ab),B4,rdI br sl p2]++[aL kv ab 4 css]) S6 w':=hI.last 1 rfl
   refine aq hI 0 ac rfl rfl ?_
   obtain ⟨S7,hE7,hrdr,hI⟩:=Inv.lendExt hI
   have hrs:=RowRd.rows (hR.monoR fun _ _ h=>RdT.mono hE7.1 h) hrdr
   obtain ⟨a,q,rfl,_⟩:=id hrs
   subst hB4
   refine ao hI 1 rfl ac rfl rfl (by simp [Value.oneCell']) fun w' hI=>?_
   refine aW hI 1 ac rfl rfl ?_
   refine ⟨_,_,S7,rfl,hI.pick [false,false,true],hE6.trans hE7,p2,?_,rfl,[.int .i64 3,.int .i64 0,.string s,_],.mk 3 0 s ts,rfl,RdT.iff.2 ⟨_,rfl,by simp [inI,T.kind],by simp [inI,T.n],by simp only [T.name,maxLen]; omega,hrs⟩,?_,GD (by omega) hou⟩
   ·have:ts.length=0 ∨ ts.length=1 ∨ ts.length=2 ∨ ts.length=3:=by omega
    rcases this with h|h|h|h <;> rw [h] at hp2 hwts <;> omega
   ·simp only [wT]
    have:ts.length=0 ∨ ts.length=1 ∨ ts.length=2 ∨ ts.length=3:=by omega
    rcases this with h|h|h|h <;> rw [h] at hp2 hwts ⊢ <;> omega
theorem oC:∀ d:Nat,d<=4->JL br sl ys d
 | 0,h=>En h fun d' e=>by omega
 | d+1,h=>En h fun d' e=>by
  obtain rfl:d'=d:=by omega
  exact oC _ (by omega)
abbrev OJ (br:Nat) (sl:Value) (p k m:Nat):Value->List Item->ae->Prop:=fun v I' S'=>∃ p',p'<=p+k/\I'=[rdI br sl p']/\∃ cs t,v=.agg cs.toArray/\RdT S' cs t/\wT t<=m
theorem wB {p:Nat} {S:ae} (hrd:RdSl S 1 jC sl ys) (hp:p<=100000000):Tri Tryz.prog Km [rdP br] [rdI br sl p] S (OJ br sl p 500 500):=by
 intro w hI
 refine y5.2 ?_
 dsimp only[y5,aO]
 refine aG hI aP fun b2 w' hI=>?_
 have hI:Inv w [br] [.blk b2 (.cells #[.int .i64 0,.int .i64 0,.string ⟨#[]⟩,.slice none 0 0] ab),rdI br sl p] S w':=hI.last 0 rfl
 refine th hI (by kernel_rfl) rfl (by omega) fun v S1 w' hE1 hv hI=>?_
 refine Run.callL ez ey hI (iV (p:=p) (hrd.monoU hE1.1) hv (by decide) (by omega)) rfl fun v' I' S2 w'=>?_
 rintro ⟨rfl,rfl,n,hn,rfl⟩ _ hI
 have hn:=rg (a:=1) (b:=4) hn (by decide)
 obtain ⟨m,rfl⟩:∃ m:Nat,n=m:=⟨n.toNat,by rw [Int.toNat_of_nonneg (by omega)]⟩
 have h3:dW m<=486:=by
  have:3 ^ m<=3 ^ 4:=Nat.pow_le_pow_right (by omega) (by omega)
  simp only [dW]; omega
 refine Run.callL js jB hI (oC m (by omega) (p+1) S2 (hrd.monoU hE1.1) (by omega)) rfl fun v' I' S3 w'=>?_
 rintro ⟨p1,hp1,rfl,cs,t,rfl,hcs,hw,_⟩ hE3 hI
 refine ao hI 0 rfl ac (by simpa using hcs.length) rfl (by simpa using hcs.one) fun w' hI=>?_
 refine aW hI 0 ac rfl (by simpa using hcs.length) ?_
 exact ⟨_,_,S3,rfl,hI.pick [false,true],hE1.trans hE3,p1,by omega,rfl,cs,t,rfl,hcs,by omega⟩
end
end
section
open Go Go.RowKit
def yb (w:World) (b o:Nat):Nat:=match w.cell? ⟨b,o,none⟩ with
 | some (.slice _ n _)=>n
 | _=>0
theorem Qj {Q Q2 B:Prop} {R:Nat->Prop} (h1:Q->B) (h3:Q2->B) (h2:∀ n,n<3->R n->B):∀ {n:Nat},qi Q (qi Q2 R) n->n<5->B
 | 0,h,_=>h1 h
 | 1,h,_=>h3 h
 | n+2,h,hn=>h2 n (by omega) h
theorem Ml {Q:Prop} {R:Nat->Prop} {n:Nat} (h:R n):qi Q R (n+1):=h
theorem EK {Q:Prop} {R:Nat->Prop} {n:Nat} (h:qi Q R (n+1)):R n:=h
section
variable {w0 w:World} {X:List Nat} {L A:List Item} {S:ae} {K:Value->World->Prop} {P:Program}
attribute [local irreducible] Run CondV aB aS
theorem vF (h:Inv w0 X L S w) {i b o:Nat} {c:Array Value} {E:TypeId} {a:Option Addr} {n m:Nat} (hi:L[i]?=some (.blk b (.cells c E))) (hc:c[o]?=some (.slice a n m)):yb w b o=n:=by
 rw [yb,h.cellL hi,hc]
theorem vi {b:Nat} {k n:Int} {s:ByteArray} {kv:Value} {css:List (List Value)} {ks:List T} {o:Obj}
  (hI:Inv w0 X (.blk b o::aL kv ab 4 css::A) S w) (hR:Rows 4 (RdT S) css ks) (hk:inI k) (hn:inI n) (hs:s.size<=maxLen) :
  ∃ S',Ext w0.heap.size X S S'/\Inv w0 X (.blk b o::A) S' w/\RdT S' [.int .i64 k,.int .i64 n,.string s,kv] (.mk k n s ks)/\RdSl S' 4 (RdT S') kv ks:=by
 have hI:Inv w0 X ((.blk b o::A)++[aL kv ab 4 css]) S w:=hI.last 1 rfl
 obtain ⟨S',hE,hrd,hI⟩:=Inv.lendExt hI
 have hrs:=RowRd.rows (hR.monoR fun _ _ h=>RdT.mono hE.1 h) hrd
 exact ⟨S',hE,hI,RdT.iff.2 ⟨_,rfl,hk,hn,hs,hrs⟩,hrs⟩
end
section
variable {br:Nat} {sl:Value} {ys:List Nat}
attribute [local irreducible] Run CondV aB aS
theorem kM {p:Nat} {S:ae} {cs:List Value} {t:T} (hrd:RdSl S 1 jC sl ys) (h:RdT S cs t) (hw:wT t<=100000) (hp:p<=100000000) :
  Tri Tryz.prog Fd [rdP br,.agg cs.toArray] [rdI br sl p] S (OJ br sl p 2 (wT t+100)):=by
 intro w hI
 have h0:=h
 obtain ⟨kv0,rfl,hk,hn,hs,hks⟩:=RdT.iff.1 h
 refine sG.2 ?_
 dsimp only[sG,aX]
 refine be hI fun b3 w' hI=>?_
 refine aG hI aP fun b4 w' hI=>?_
 refine aq hI 1 ac rfl rfl ?_
 refine Run.call0E eo ei hI (MH t S _ h0 (by omega)) fun v' I' S1 w'=>?_
 rintro ⟨kv,css,rfl,rfl,hR⟩ hE1 hI
 have hE1:Ext w.heap.size [br] S S1:=hE1
 obtain ⟨a0,n0,q0,rfl⟩:=hI.rowSlice 3 rfl
 refine aG hI aP fun b5 w' hI=>?_
 refine ao hI 4 rfl ac rfl rfl (by simp [Value.oneCell']) fun w' hI=>?_
 obtain ⟨B4,hB4⟩:∃ B4,B4=Item.blk b4 (.cells #[.int .i64 0,.int .i64 0,.string ⟨#[]⟩,.slice none 0 0] ab):=⟨_,rfl⟩
 obtain ⟨k,hk'⟩:∃ k,k=t.kind:=⟨_,rfl⟩
 obtain ⟨n,hn'⟩:∃ n,n=t.n:=⟨_,rfl⟩
 obtain ⟨s,hs'⟩:∃ s,s=t.name:=⟨_,rfl⟩
 have hwt:wT t=s.size+t.kids.length+wL t.kids:=by rw [hs']; cases t; rw [wT]; rfl
 rw [<- hk',<- hn',<- hs'] at hI
 rw [<- hk'] at hk
 rw [<- hn'] at hn
 rw [<- hs'] at hs
 have hI:Inv w [br] [.blk b5 (.cells #[.int .i64 k,.int .i64 n,.string s,.slice a0 n0 q0] ab),aL (.slice a0 n0 q0) ab 4 css,B4,rdI br sl p] S1 w':=by
  rw [hB4]
  exact (((hI.pick [true,false,true,true,true]).last 2 rfl).last 1 rfl).last 0 rfl
 refine ⟨fun w'=>∃ (p1:Nat) (S2:ae) (cs1:List Value) (t1:T),p1<=p+2/\Ext w.heap.size [br] S S2/\RdT S2 cs1 t1/\wT t1<=wT t+100/\Inv w [br] [.blk b5 (.cells cs1.toArray ab),B4,rdI br sl p1] S2 w',?_,?_⟩
 ·have hfin:∀ {k n:Int} {s1:ByteArray} {p1:Nat} {w':World} {S1:ae} {css:List (List Value)} {kv:Value} {ks:List T},Ext w.heap.size [br] S S1->p1<=p+2->inI k->inI n->s1.size<=s.size+7->Rows 4 (RdT S1) css ks->ks.length<=t.kids.length+5->wL ks<=wL t.kids->
    Inv w [br] [.blk b5 (.cells #[.int .i64 k,.int .i64 n,.string s1,kv] ab),aL kv ab 4 css,B4,rdI br sl p1] S1 w'->
    ∃ (p1:Nat) (S2:ae) (cs1:List Value) (t1:T),p1<=p+2/\Ext w.heap.size [br] S S2/\RdT S2 cs1 t1/\wT t1<=wT t+100/\Inv w [br] [.blk b5 (.cells cs1.toArray ab),B4,rdI br sl p1] S2 w':=by
   intro k n s1 p1 w' S1 css kv ks hE hp1 hk hn hs1 hR hkl hkw hI
   obtain ⟨S2,hE2,hI,hr,_⟩:=vi (s:=s1) hI hR hk hn (by simp only [maxLen]; omega)
   exact ⟨p1,S2,_,_,hp1,hE.trans hE2,hr,by rw [wT,hwt]; omega,hI⟩
  refine Run.callL bO bN hI (cY (n:=50) (hrd.monoU hE1.1) (by omega) (by omega)) rfl fun v' I' S1 w'=>?_
  rintro ⟨rfl,rfl,kk,hkk,rfl⟩ _ hI
  refine aY ?_
  refine aI (fun _=>?_) (fun _=>?_)
  ·refine th hI (by kernel_rfl) rfl (by omega) fun v S3 w' hE3 hv hI=>?_
   refine Run.callL ez ey hI (iV (p:=p+1) (hrd.monoU (hE1.trans hE3).1) hv (by decide) (by omega)) rfl fun v' I' S3 w'=>?_
   rintro ⟨rfl,rfl,m,hm,rfl⟩ _ hI
   have hm:=rg (a:=-1000) (b:=1000) hm (by decide)
   refine cG hI 0 rfl aE aw rfl rfl rfl fun w' hI=>?_
   exact hfin (hE1.trans hE3) (Nat.le_refl _) (by simp only [inI]; omega) hn (by omega) (hR.monoR fun _ _ h=>RdT.mono hE3.1 h) (by omega) (Nat.le_refl _) hI
  refine aY ?_
  refine aI (fun _=>?_) (fun _=>?_)
  ·refine th hI (by kernel_rfl) rfl (by omega) fun v S3 w' hE3 hv hI=>?_
   refine Run.callL ez ey hI (iV (p:=p+1) (hrd.monoU (hE1.trans hE3).1) hv (by decide) (by omega)) rfl fun v' I' S3 w'=>?_
   rintro ⟨rfl,rfl,m,hm,rfl⟩ _ hI
   have hm:=rg (a:=-1000) (b:=1000) hm (by decide)
   refine cG hI 0 rfl aK aw rfl rfl rfl fun w' hI=>?_
   exact hfin (hE1.trans hE3) (Nat.le_refl _) hk (by simp only [inI]; omega) (by omega) (hR.monoR fun _ _ h=>RdT.mono hE3.1 h) (by omega) (Nat.le_refl _) hI
  refine aY ?_
  refine aI (fun _=>?_) (fun _=>?_)
  ·refine eV hI (by kernel_rfl) rfl (by omega) fun v S3 w' hE3 hv hI=>?_
   refine Run.callL i9 jl hI (wE (p:=p+1) (hrd.monoU (hE1.trans hE3).1) hv (by decide) (by omega)) rfl fun v' I' S3 w'=>?_
   rintro ⟨rfl,rfl,m,hm,rfl⟩ _ hI
   have hm:=Ap (m:=7) hm (by decide)
   refine cG hI 0 rfl aM aJ rfl rfl rfl fun w' hI=>?_
   exact hfin (hE1.trans hE3) (Nat.le_refl _) hk hn (by omega) (hR.monoR fun _ _ h=>RdT.mono hE3.1 h) (by omega) (Nat.le_refl _) hI
  refine aY ?_
  refine aI (fun _=>?_) (fun _=>?_)
  ·refine ⟨fun w'=>∃ (S2:ae) (kv:Value) (css:List (List Value)) (ks:List T),Ext w.heap.size [br] S S2/\Rows 4 (RdT S2) css ks/\ks.length<=t.kids.length+5/\wL ks<=wL t.kids/\
     Inv w [br] [.blk b5 (.cells #[.int .i64 k,.int .i64 n,.string s,kv] ab),aL kv ab 4 css,B4,rdI br sl (p+1)] S2 w',fun w'=>5 - yb w' b5 3,⟨S1,_,css,t.kids,hE1,hR,by omega,Nat.le_refl _,hI⟩,?_⟩
   intro t40 t39 t38 t37 t36 t35 _ _ _ _ w'
   rintro ⟨S2,kv,css,ks,hE2,hR,hkl,hkw,hI⟩
   obtain ⟨a1,n1,q1,rfl,hn1⟩:∃ a m c,kv=.slice a m c/\m=ks.length:=by
    obtain ⟨S',_,_,_,hr⟩:=vi hI hR hk hn hs
    obtain ⟨a,q,rfl,_⟩:=hr
    exact ⟨a,_,q,rfl,rfl⟩
   subst hn1
   have hl1:=vF hI (i:=0) (o:=3) rfl rfl
   have hcl:=hR.hc
   refine ad hI 0 rfl al ag rfl ?_
   refine dX af ?_
   refine eK ?_
   refine aI (fun hle=>?_) (fun hle=>?_)
   ·have hI:=hI
    refine ⟨fun D na ij gX nL jL kz w_=>Fx D 0 [kz=.pointer (some ⟨b5,3,none⟩),jL=.slice a1 ks.length q1,True,True,True,na=.pointer (some ⟨b5,3,none⟩),True]/\∃ n_:Nat,n_<=4/\D 2=decide (1<=n_)/\D 3=decide (2<=n_)/\D 4=decide (3<=n_)/\D 6=decide (4<=n_)/\(D 6=true->D 1=true)/\(qi (Inv w [br] [.blk b5 (.cells #[.int .i64 k,.int .i64 n,.string s,.slice a1 ks.length q1] ab),aL (.slice a1 ks.length q1) ab 4 css,B4,rdI br sl (p+1)] S2 w_) (zZ w [br] b5 #[.int .i64 k,.int .i64 n,.string s,.slice a1 ks.length q1] 3 ab (.slice a1 ks.length q1) css (fun p=>[B4,rdI br sl (p+1)]) (fun cs p' S'=>p'=p/\S'=S2/\RdT S2 cs (.mk 2 1 emptyB [])) nL gX ij w_) n_),⟨Fx.nil _ _,⟨0,Nat.zero_le _,rfl,rfl,rfl,rfl,(aU),hI.draw⟩⟩,⟨?_,?_,?_,?_,?_,?_,?_,trivial⟩,?_⟩
    all_goals (intro D bo; intros; rename_i na ij gX nL jL kz w_ hA_; have hF_:=hA_.1; obtain ⟨⟨bU,bV,bH,bR,bZ,bI,bB,_⟩,⟨n_,ln_,e1_,e2_,e3_,e4_,kp_,hS⟩⟩:=hA_)
    ·refine ai al ?_
     exact ⟨hF_.set 0 rfl,⟨n_,ln_,e1_,e2_,e3_,e4_,kp_,hS⟩⟩
    ·obtain rfl:=bU ‹_›
     have ln2_:=MU e4_ kp_ bo
     refine cz ag ((KH (fun h=>h.cellL (i:=0) rfl) (fun n hn h=>EW h hn) hS ln2_).trans rfl) ?_
     exact ⟨hF_.set 1 rfl,⟨n_,ln_,e1_,e2_,e3_,e4_,(fun _=>rfl),hS⟩⟩
    ·obtain rfl:n_=0:=tY e1_ bo
     refine Run.callPure nV ou (L:=[.blk b5 _,aL _ ab 4 css,B4,rdI br sl (p+1)]) hS (jj 1 S2) fun w_ hI=>?_
     exact ⟨hF_.set 2 (by first|assumption|trivial),⟨1,by decide,rfl,(by first|exact e2_|rfl),(by first|exact e3_|rfl),(by first|exact e4_|rfl),kp_,FM ⟨rfl,rfl,np (by simp [inI]) (by simp [inI])⟩ (np (by simp [inI]) (by simp [inI])) hI⟩⟩
    ·have PC:=bH ‹_›
     obtain rfl:n_=1:=fL e1_ ‹D 2=true› e2_ bo
     refine ap1 hS fun u w_ hS=>?_
     exact ⟨hF_.set 3 (by first|assumption|trivial),⟨2,by decide,(by first|exact e1_|rfl),rfl,(by first|exact e3_|rfl),(by first|exact e4_|rfl),kp_,hS⟩⟩
    ·obtain rfl:=bV ‹_›
     have JJ:=bR ‹_›
     obtain rfl:n_=2:=fL e2_ ‹D 3=true› e3_ bo
     refine ap2 hS (by omega) fun u w_ hS=>?_
     exact ⟨hF_.set 4 (by first|assumption|trivial),⟨3,by decide,(by first|exact e1_|rfl),(by first|exact e2_|rfl),rfl,(by first|exact e4_|rfl),kp_,hS⟩⟩
    ·refine ai al ?_
     exact ⟨hF_.set 5 rfl,⟨n_,ln_,e1_,e2_,e3_,e4_,kp_,hS⟩⟩
    ·obtain rfl:=bI ‹_›
     have QH:=bZ ‹_›
     obtain rfl:n_=3:=fL e3_ ‹D 4=true› e4_ bo
     refine ap3 hS (by simp) fun w_ hS=>?_
     exact ⟨hF_.set 6 trivial,⟨4,by decide,(by first|exact e1_|rfl),(by first|exact e2_|rfl),(by first|exact e3_|rfl),rfl,(fun _=>‹D 1=true›),hS⟩⟩
    obtain rfl:n_=4:=lx ln_ e4_ ‹D 6=true›
    clear e1_ e2_ e3_ e4_
    obtain ⟨p3,S7,cs,⟨rfl,rfl,hcs⟩,hl,hI⟩:=hS
    have hR2:=hR.snoc hcs hl.1
    refine ⟨⟨S7,_,_,_,hE2,hR2,by rw [List.length_append]; simp only [List.length_cons,List.length_nil]; omega,by rw [mF]; have e:emptyB.size=0:=rfl; simp only [wL,wT,List.length_nil,e]; omega,hI⟩,?_⟩
    obtain ⟨S',_,_,_,hr⟩:=vi hI hR2 hk hn hs
    obtain ⟨a,q,e,_⟩:=hr
    have hl2:=vF hI (i:=0) (o:=3) (a:=a) (n:=(ks++[T.mk 2 1 emptyB []]).length) (m:=q) rfl (by rw [<- e]; rfl)
    show 5 - yb w_ b5 3<5 - yb w' b5 3
    rw [hl1,hl2,List.length_append,List.length_cons,List.length_nil]
    omega
   ·exact hfin hE2 (by omega) hk hn (by omega) hR hkl hkw hI
  refine aY ?_
  refine aI (fun _=>?_) (fun _=>?_)
  ·obtain ⟨S2,hE2,hI,hr,_⟩:=vi hI hR hk hn hs
   have hI:Inv w [br] [.blk b5 (.cells #[.int .i64 k,.int .i64 n,.string s,.slice a0 n0 q0] ab),B4,rdI br sl (p+1)] S2 w':=hI
   have ht:T.mk k n s t.kids=t:=by rw [hk',hn',hs']; cases t; rfl
   rw [ht] at hr
   refine ⟨fun t6 w'=>∃ (j:Nat) (S3:ae) (cs1:List Value) (t1:T),t6=.int .i64 (j:Int)/\j<=30/\Ext w.heap.size [br] S S3/\RdT S3 cs1 t1/\wT t1<=wT t+2 * j/\Inv w [br] [.blk b5 (.cells cs1.toArray ab),B4,rdI br sl (p+1)] S3 w',fun t6 _=>30 - (intOf t6).toNat,
    ⟨0,S2,_,t,rfl,by omega,hE1.trans hE2,hr,by omega,hI⟩,?_⟩
   intro t6 _ _ _ _ _ _ _ w'
   rintro ⟨j,S3,cs1,t1,rfl,hj,hE3,hr,hw1,hI⟩
   refine bA ?_
   refine aI (fun hj'=>?_) (fun hj'=>?_)
   ·refine aq hI 0 ac rfl (by simpa using hr.length) ?_
    refine dQ hI bm (by simp [Value.cells,hr.length]) (by omega) (by omega) fun b8 w' hI=>?_
    obtain ⟨S4,hI,hE4,hS⟩:=hI.pub1
    refine Run.call0E di dp hI (dP ⟨#[115]⟩ (by decide) (Rs hS (hr.mono hE4.1)) (by simp)) fun v' I' S5 w'=>?_
    rintro ⟨rfl,cs2,rfl,hcs2⟩ hE5 hI
    have hI:Inv w [br] [.blk b5 (.cells cs1.toArray ab),B4,rdI br sl (p+1)] S5 w':=by simpa using hI
    refine ao hI 0 rfl ac (by simpa using hcs2.length) (by simpa using hr.length) (by simpa using hcs2.one) fun w' hI=>?_
    refine bn (by omega) ?_
    have e:(ByteArray.mk #[115]).size=1:=rfl
    exact ⟨⟨j+1,S5,cs2,_,rfl,by omega,hE3.trans (hE4.trans hE5),hcs2,by simp only [wT,wL,List.length_cons,List.length_nil,e]; omega,hI⟩,by simp only [intOf,Int.toNat_natCast]; omega⟩
   ·exact ⟨p+1,S3,cs1,t1,by omega,hE3,hr,by omega,hI⟩
  ·exact hfin hE1 (by omega) hk hn (by omega) hR (by omega) (Nat.le_refl _) hI
 intro _ _ _ _ _ _ _ _ _ _ _ _ _ _ _ _ _ _ _ _ _ _ _ _ _ _ _ _ _ _ _ _ _ _ _ _ _ _ _ _ _ _ w'
 rintro ⟨p1,S2,cs1,t1,hp1,hE2,hr,hw1,hI⟩
 subst hB4
 refine aq hI 0 ac rfl (by simpa using hr.length) ?_
 refine ao hI 1 rfl ac (by simpa using hr.length) rfl (by simpa using hr.one) fun w' hI=>?_
 refine aW hI 1 ac rfl (by simpa using hr.length) ?_
 exact ⟨_,_,S2,rfl,hI.pick [false,false,true],hE2,p1,hp1,rfl,cs1,t1,rfl,hr,hw1⟩
end
end
end Go.Proofs.YtfcbhfjomgopbaaGreat

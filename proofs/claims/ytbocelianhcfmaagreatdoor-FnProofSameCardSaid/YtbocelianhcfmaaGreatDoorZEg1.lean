/- slices.IndexFunc and slices.ContainsFunc, whatever function is handed to them. -/
import Derived.Test.YtbocelianhcfmaaGreatDoorZEg0
import Derived.Test.YtbocelianhcfmaaGreatDoorZEgF
import Derived.Test.YtbocelianhcfmaaGreatDoorZEggz
namespace Go.Proofs.YtbocelianhcfmaaGreatDoor
section
open Go Go.RowKit
attribute [local irreducible] Run CondV ar aI

def dj {α σ:Type} (step:σ->α->Bool × σ):σ->List α->Nat->Int × σ
 | st,[],_=>(-1,st)
 | st,x::xs,k=>if (step st x).1 then ((k:Int),(step st x).2) else dj step (step st x).2 xs (k+1)
def lp {α σ:Type} (step:σ->α->Bool × σ):σ->List α->Bool × σ
 | st,[]=>(false,st)
 | st,x::xs=>if (step st x).1 then (true,(step st x).2) else lp step (step st x).2 xs
theorem l9 {α σ:Type} (step:σ->α->Bool × σ):∀ (xs:List α) (st:σ) (k:Nat),decide (0<=(dj step st xs k).1)=(lp step st xs).1/\(dj step st xs k).2=(lp step st xs).2
 | [],st,k=>by simp [dj,lp]
 | x::xs,st,k=>by
  by_cases h:(step st x).1=true
  ·simp [dj,lp,h]
  ·simpa [dj,lp,h] using l9 step xs (step st x).2 (k+1)
theorem BC {α:Type} (p:α->Bool):∀ xs:List α,lp (σ:=Unit) (fun _ x=>(p x,())) () xs=(xs.any p,())
 | []=>rfl
 | x::xs=>by
  simp only [lp,List.any_cons]
  cases h:p x with
  | true=>rfl
  | false=>rw [BC p xs]; rfl
abbrev fv (f:FuncId) (cap:List Value):Value:=.func (.func f) #[] cap.toArray
section
variable {P:Program} {w w0:World} {X:List Nat} {A I:List Item} {S:ae} {K:Value->World->Prop}
theorem KW {P:Program} {f:FuncId} {fn:Func} {cap args:List Value} {w:World} (hf:P.funcs[f]?=some fn) (hn:(fn.name == "runtime.NumGoroutine" || fn.body.isNone)=false) :
  (ed (fv f cap) args).run P w=.ok (.enter f (args++cap).toArray) w:=by
 simp only [Bool.or_eq_false_iff] at hn
 have h1:¬ fn.name = "runtime.NumGoroutine" := by simpa using hn.1
 have h2:¬ fn.body=none:=fun e=>by rw [e] at hn; simp at hn
 simp [ed,Deferred.ofValue,invoke,callFunc,hf,h1,h2]
theorem Run.callV {f:FuncId} {fn:Func} {cap args:List Value} {Post:Value->List Item->ae->Prop}
  (hf:P.funcs[f]?=some fn) (hn:(fn.name == "runtime.NumGoroutine" || fn.body.isNone)=false) (h:Inv w0 X (A++I) S w) (hc:Tri P f (args++cap) I S Post)
  (hk:∀ v I' S' w',Post v I' S'->Sle S S'->Inv w0 X (A++I') S' w'->K v w'):Run P (ed (fv f cap) args) w K:=by
 unfold Run
 rw [KW hf hn]
 refine (hc w (h.sub (List.sublist_append_right A I)).begin).mono ?_
 rintro e w' ⟨v,I',S',rfl,hI,hE,hP⟩
 exact hk v I' S' w' hP hE.1 (Inv.step h hI hE.2)
end
structure Cb (P:Program) (f:FuncId) (fn:Func) {α σ:Type} (cap:List Value) (S:ae) (It:σ->List Item) (ok:σ->Prop) (step:σ->α->Bool × σ) (R:Value->α->Prop) (xs:List α):Prop where
 hf:P.funcs[f]?=some fn
 hn:(fn.name == "runtime.NumGoroutine" || fn.body.isNone)=false
 keep:∀ st x,x∈xs->ok st->(step st x).1=false->ok (step st x).2
 call:∀ st x v,x∈xs->ok st->R v x->Tri P f (v::cap) (It st) S fun r I' S'=>r=.bool (step st x).1/\I'=It (step st x).2/\S'=S
theorem Cb.pure {P:Program} {f:FuncId} {fn:Func} {α:Type} {cap:List Value} {S:ae} {p:α->Bool} {R:Value->α->Prop} {xs:List α} (L:List Item) (hf:P.funcs[f]?=some fn) (hn:(fn.name == "runtime.NumGoroutine" || fn.body.isNone)=false)
  (h:∀ x v,x∈xs->R v x->Tri P f (v::cap) L S fun r I' S'=>r=.bool (p x)/\I'=L/\S'=S):Cb P f fn cap S (fun _:Unit=>L) (fun _=>True) (fun _ x=>(p x,())) R xs:=
 ⟨hf,hn,fun _ _ _ _ _=>trivial,fun _ x v hx _ hR=>h x v hx hR⟩

theorem sU {σ:Type} {f:FuncId} {fn:Func} {cap:List Value} {S:ae} {It:σ->List Item} {ok:σ->Prop} {step:σ->T->Bool × σ} {xs:List T} {v:Value}
  (hcb:Cb Tryz.prog f fn cap S It ok step (fun v x=>∃ cs,v=.agg cs.toArray/\RdT S cs x) xs) (h:RdSl S 4 (RdT S) v xs) {st:σ} (hok:ok st) :
  Tri Tryz.prog rn [v,fv f cap] (It st) S fun r I' S'=>r=.int .i64 (dj step st xs 0).1/\I'=It (dj step st xs 0).2/\S'=S:=by
 intro w hI
 have hlen:=h.le
 simp only [maxLen] at hlen
 refine iP.2 ?_
 dsimp only[iP,aY]
 refine aK h ah ?_
 refine ⟨fun i w'=>∃ (k:Nat) (st':σ),k<=xs.length/\i=.int .i64 k/\ok st'/\dj step st' (xs.drop k) k=dj step st xs 0/\Inv w (bz (It st)) (It st') S w',fun i _=>xs.length - (intOf i).toNat,
  ⟨0,st,Nat.zero_le _,rfl,hok,rfl,hI⟩,?_⟩
 intro t8 _ _ _ _ _ _ _ _ _ _ _ _ w'
 rintro ⟨k,st',hk,rfl,hok',hrel,hI⟩
 refine bD ?_
 refine aN (fun hki=>?_) (fun hki=>?_)
 ·have hk':k<xs.length:=by omega
  have hm:=List.getElem_mem hk'
  have hstep:dj step st' (xs.drop k) k=if (step st' xs[k]).1 then ((k:Int),(step st' xs[k]).2) else dj step (step st' xs[k]).2 (xs.drop (k+1)) (k+1):=by
   rw [List.drop_eq_getElem_cons hk',dj]
  refine bP hI h ah ac hk' (fun _ _=>RdT.length) fun cs hcs=>?_
  refine Run.callV (A:=[]) (args:=[.agg cs.toArray]) hcb.hf hcb.hn (by simpa using hI) (hcb.call st' _ _ hm hok' ⟨cs,rfl,hcs⟩) fun v' I' S' w'=>?_
  rintro ⟨rfl,rfl,rfl⟩ _ hI
  refine av (fun hb=>?_) (fun hb=>?_)
  ·rw [if_pos hb] at hstep
   refine ⟨_,_,_,rfl,by simpa using hI,Ext.refl _ _ _,?_,?_,rfl⟩
   ·rw [<- hrel,hstep]
   ·rw [<- hrel,hstep]
  ·refine bm (by omega) ?_
   rw [hb] at hstep
   refine ⟨⟨k+1,_,hk',rfl,hcb.keep st' _ hm hok' hb,?_,by simpa using hI⟩,by simp [intOf]; omega⟩
   rw [<- hrel,hstep]
   rfl
 ·have:k=xs.length:=by omega
  subst this
  rw [List.drop_length,dj] at hrel
  exact ⟨_,_,_,rfl,hI,Ext.refl _ _ _,by rw [<- hrel],by rw [<- hrel],rfl⟩
theorem nh {σ:Type} {f:FuncId} {fn:Func} {cap:List Value} {S:ae} {It:σ->List Item} {ok:σ->Prop} {step:σ->T->Bool × σ} {xs:List T} {v:Value}
  (hcb:Cb Tryz.prog f fn cap S It ok step (fun v x=>∃ cs,v=.agg cs.toArray/\RdT S cs x) xs) (h:RdSl S 4 (RdT S) v xs) {st:σ} (hok:ok st) :
  Tri Tryz.prog mU [v,fv f cap] (It st) S fun r I' S'=>r=.bool (lp step st xs).1/\I'=It (lp step st xs).2/\S'=S:=by
 intro w hI
 refine gi.2 ?_
 dsimp only[gi,aY]
 refine Run.call (A:=[]) pq pl (by simpa using hI) (sU hcb h hok) fun v' I' S' w'=>?_
 rintro ⟨rfl,rfl,rfl⟩ _ hI
 refine iu ?_
 have he:=l9 step xs st 0
 exact ⟨_,_,_,rfl,by simpa using hI,Ext.refl _ _ _,by rw [he.1],by rw [he.2],rfl⟩
end
section
open Go Go.RowKit
attribute [local irreducible] Run CondV ar aI

theorem iY (n low high:Int) (S:ae):Pure Tryz.prog H8 [.int .i64 n,.int .i64 low,.int .i64 high] S (.bool (decide (low<=n) && decide (n<=high))):=by
 intro w hI
 refine wE.2 ?_
 dsimp only[wE,cM]
 refine fi ?_
 refine gH (fun h=>?_) (fun h=>done hI (by rw [h]; rfl))
 refine fi ?_
 exact fm h (done hI (by rw [h]; rfl))
theorem iN (s:ByteArray) (hs:s.size<=maxLen) (S:ae):Pure Tryz.prog Bg [.string s] S (.bool (iw s)):=by
 intro w hI
 simp only [maxLen] at hs
 refine np.2 ?_
 dsimp only[np,aE]
 refine eQ aF ?_
 refine ⟨fun i w'=>∃ k:Nat,k<=s.size/\i=.int .i64 k/\(s.data.toList.drop k).all mO=lL s/\Inv w [] [] S w',fun i _=>s.size - (intOf i).toNat,⟨0,Nat.zero_le _,rfl,rfl,hI⟩,?_⟩
 intro t6 _ _ _ _ _ _ _ _ _ _ _ _ _ _ _ w'
 rintro ⟨k,hk,rfl,hrel,hI⟩
 refine bD ?_
 refine aN (fun hki=>?_) (fun hki=>?_)
 ·have hk':k<s.size:=by omega
  have hstep:=yI mO s.data.toList k (by rw [lB]; exact hk')
  rw [GB s k hk'] at hstep
  refine ⟨fun t w'=>t=.bool (!mO s[k])/\Inv w [] [] S w',?_,?_⟩
  ·refine jq aF hk' ?_
   refine bD ?_
   refine rU (fun h=>⟨?_,hI⟩) (fun h=>?_)
   ·have h:=of_decide_eq_true h
    rw [mO,decide_eq_false (show ¬ 97<=s[k].toNat by omega)]; rfl
   ·refine jq aF hk' ?_
    refine cY ?_
    refine lz h ⟨?_,hI⟩
    have h:=of_decide_eq_false h
    rw [mO,decide_eq_true (show 97<=s[k].toNat by omega),Bool.true_and]
    by_cases h2:s[k].toNat<=122
    ·rw [decide_eq_true h2,decide_eq_false (by omega)]; rfl
    ·rw [decide_eq_false h2,decide_eq_true (by omega)]; rfl
  intro t _ _ _ _ _ _ _ _ _ w'
  rintro ⟨rfl,hI⟩
  refine av (fun h=>done hI ?_) (fun h=>?_)
  ·simp at h
   rw [iw,<- hrel,hstep,h]; rfl
  ·simp at h
   refine bm (by omega) ?_
   refine ⟨⟨k+1,hk',rfl,by rw [<- hrel,hstep,h]; rfl,hI⟩,by simp [intOf]; omega⟩
 ·have:k=s.size:=by omega
  subst this
  have hl:lL s=true:=by rw [<- hrel,<- lB,List.drop_length]; rfl
  refine eQ aF ?_
  refine Run.callPure kz kt hI (iY _ _ _ S) fun w' hI=>done hI ?_
  rw [iw,hl,Bool.true_and]
  congr 1
  rw [Bool.eq_iff_iff]
  simp
  omega
theorem AH (S:ae):Tri Tryz.prog EM [] [] S (Bn S):=by
 intro w hI
 refine tS.2 ?_
 dsimp only[tS,wS]
 refine od (v:=fun b=>.slice (some ⟨b,0,none⟩) 15 15) (o:=.cells uE ff) hI (by kernel_rfl) fun b w' hI=>?_
 have hnew:w.heap.size<=b:=by
  rcases hI.new b (by simp [bz,Item.foot]) with h|h
  ·simp [bz] at h
  ·exact h
 obtain ⟨h1,h2⟩:=Inv.publishLast (L:=[]) hI
 exact ⟨_,_,_,rfl,h1,EN hnew h2,rfl,h2,FO (by simp [nD]; rfl)⟩
theorem qI (s:ByteArray) {xs:List ByteArray} {S:ae} {v:Value} (h:RdSl S 1 iQ v xs) :
  Pure Tryz.prog uY [v,.string s] S (.int .i64 (dj (σ:=Unit) (fun _ x=>(decide (x=s),())) () xs 0).1):=by
 intro w hI
 have hlen:=h.le
 simp only [maxLen] at hlen
 refine kC.2 ?_
 dsimp only[kC,aY]
 refine aK h bH ?_
 refine ⟨fun i w'=>∃ k:Nat,k<=xs.length/\i=.int .i64 k/\dj (σ:=Unit) (fun _ x=>(decide (x=s),())) () (xs.drop k) k=dj (σ:=Unit) (fun _ x=>(decide (x=s),())) () xs 0/\Inv w [] [] S w',
  fun i _=>xs.length - (intOf i).toNat,⟨0,Nat.zero_le _,rfl,rfl,hI⟩,?_⟩
 intro t8 _ _ _ _ _ _ _ _ _ _ _ _ w'
 rintro ⟨k,hk,rfl,hrel,hI⟩
 refine bD ?_
 refine aN (fun hki=>?_) (fun hki=>?_)
 ·have hk':k<xs.length:=by omega
  rw [List.drop_eq_getElem_cons hk',dj] at hrel
  refine eX hI h bH aC hk' (fun cs hcs=>hcs) ?_
  refine bf ?_
  refine aN (fun he=>done hI ?_) (fun he=>?_)
  ·rw [<- hrel,if_pos (by simpa using he.symm)]
  ·refine bm (by omega) ?_
   rw [if_neg (by simpa using fun e=>he e.symm)] at hrel
   exact ⟨⟨k+1,hk',rfl,hrel,hI⟩,by simp [intOf]; omega⟩
 ·have:k=xs.length:=by omega
  subst this
  rw [List.drop_length,dj] at hrel
  exact done hI (by rw [<- hrel])
theorem mV (s:ByteArray) {xs:List ByteArray} {S:ae} {v:Value} (h:RdSl S 1 iQ v xs) :
  Pure Tryz.prog pd [v,.string s] S (.bool (xs.any fun x=>decide (x=s))):=by
 intro w hI
 refine iq.2 ?_
 dsimp only[iq,aY]
 refine Run.callPure rx uw hI (qI s h) fun w' hI=>?_
 refine iu (done hI ?_)
 rw [(l9 _ xs () 0).1,BC]
theorem uP (s:ByteArray) (hs:s.size<=maxLen) (S:ae):Pure Tryz.prog Ad [.string s] S (.bool (gt s)):=by
 intro w hI
 refine ou.2 ?_
 dsimp only[ou,aE]
 refine Run.callPure jx jK hI (iN s hs S) fun w' hI=>?_
 refine rU (fun h=>done hI ?_) (fun h=>?_)
 ·rw [gt,h]; rfl
 ·refine Run.call0 DZ DR hI (AH S) fun v' I' S' w'=>?_
  rintro ⟨rfl,_,hr⟩ hle hI
  refine Run.callPure nQ oA hI (mV s hr) fun w' hI=>?_
  refine lz h (sG hI hle ?_)
  rw [gt,h]; rfl

abbrev dX (b:Nat) (c:Int):Item:=.blk b (.cells #[.int .i64 c] eN)
abbrev kZ (bc:Nat) (S:ae) (r:Bool × Int):Value->List Item->ae->Prop:=fun v I' S'=>v=.bool r.1/\I'=[dX bc r.2]/\S'=S
theorem EJ:∀ (t:T) (deep c:Int),c<=120->(eB t deep c).1=true->c<(eB t deep c).2/\(eB t deep c).2<=120:=by
 intro t deep c hc h
 have:=ya t deep c
 rw [this.2 h]
 have h1:=this.1
 rw [h] at h1
 have h2:=h1.symm
 simp at h2
 have:=fG t
 omega
theorem BQ (deep:Int):∀ (ks:List T) (c:Int),lp (fun c t=>(!(eB t deep c).1,(eB t deep c).2)) c ks=(!(jo ks deep c).1,(jo ks deep c).2)
 | [],c=>by simp [lp,jo]
 | t::ts,c=>by
  by_cases h:(eB t deep c).1=true
  ·simp [lp,jo,h,BQ deep ts]
  ·simp [lp,jo,h]

theorem I8:∀ (t:T) (S:ae) (cs:List Value) (deep c:Int) (bc:Nat),RdT S cs t->0<=deep->deep<=31->0<=c->c<=120->
  Tri Tryz.prog Lu [.agg cs.toArray,.int .i64 deep,.pointer (some ⟨bc,0,none⟩)] [dX bc c] S (kZ bc S (eB t deep c)):=by
 refine T.ind fun k n s ks ih S cs deep c bc h hd0 hd1 hc0 hc1=>?_
 intro w hI
 obtain ⟨kv,rfl,_,_,hs,hks⟩:=RdT.iff.1 h
 simp only [T.name,T.kids,T.kind,T.n] at hs hks ⊢
 have hend:∀ {L:List Item} {w':World} {v:Value} (r:Bool × Int),Inv w (bz [dX bc c]) (dX bc r.2::L) S w'->v=.bool r.1->r=eB (.mk k n s ks) deep c->
   ∃ v' I' S',Ending.returned v=.returned v'/\Inv w (bz [dX bc c]) I' S' w'/\Ext w.heap.size (bz [dX bc c]) S S'/\kZ bc S (eB (.mk k n s ks) deep c) v' I' S':=by
  intro L w' v r h1 h2 h3
  subst h3
  exact ⟨_,_,_,rfl,h1.pick [true],Ext.refl _ _ _,h2,rfl,rfl⟩
 refine B0.2 ?_
 dsimp only[B0,cM]
 refine be hI fun b3 w' hI=>?_
 refine be hI fun b4 w' hI=>?_
 refine be hI fun b5 w' hI=>?_
 refine ax hI 3 o4 rfl rfl ?_
 refine cz ?_
 refine ax hI 0 aw rfl rfl ?_
 refine bm (by omega) ?_
 refine cz ?_
 refine dB hI 0 (n:=1) rfl (by rw [aw]; rfl) rfl (Nat.le_of_ble_eq_true rfl) (by simp [Value.cells]; rfl) fun w' hI=>?_
 refine ⟨fun t w'=>t=.bool (decide (120<c+1 ∨ 30<deep))/\Inv w (bz [dX bc c]) [dX bc (c+1),.blk b3 (.cells #[.int .i64 k,.int .i64 n,.string s,kv] ab),.blk b4 (.cells #[.int .i64 deep] eN),.blk b5 (.cells #[.pointer (some ⟨bc,0,none⟩)] fA)] S w',?_,?_⟩
 ·refine ax hI 3 o4 rfl rfl ?_
  refine cz ?_
  refine ax hI 0 aw rfl rfl ?_
  refine cY ?_
  refine rU (fun h=>⟨?_,hI⟩) (fun h=>?_)
  ·have h:=of_decide_eq_true h
   rw [decide_eq_true (show 120<c+1 ∨ 30<deep from .inl h)]
  ·refine ax hI 2 aw rfl rfl ?_
   refine cY ?_
   refine lz h ⟨?_,hI⟩
   have h:=of_decide_eq_false h
   congr 1
   rw [Bool.eq_iff_iff]
   simp
   omega
 intro t _ _ _ _ _ _ _ w'
 rintro ⟨rfl,hI⟩
 refine aN (fun hb=>?_) (fun hb=>?_)
 ·exact hend (false,c+1) hI rfl (by rw [eB,if_pos hb])
 have hsc:∀ r,(if k=1 ∨ k=2 then (dC (.mk k n s ks),c+1) else if k=3 then (if dC (.mk k n s ks) then jo ks (deep+1) (c+1) else (false,c+1)) else (false,c+1))=r->r=eB (.mk k n s ks) deep c:=by
  intro r hr
  rw [eB,if_neg hb,hr]
 refine ad hI 1 rfl aM aw rfl ?_
 refine bh ?_
 refine aN (fun hk=>?_) (fun hk=>?_)
 ·have ho:dC (.mk k n s ks)=(decide (0<=n) && (decide (n<=25) && (decide (s=emptyB) && decide (ks.length=0)))):=by
   rw [dC]; exact if_pos hk
  have hfin:∀ {w':World} {b:Bool},Inv w (bz [dX bc c]) [dX bc (c+1),.blk b3 (.cells #[.int .i64 k,.int .i64 n,.string s,kv] ab),.blk b4 (.cells #[.int .i64 deep] eN),.blk b5 (.cells #[.pointer (some ⟨bc,0,none⟩)] fA)] S w'->
    b=dC (.mk k n s ks)->∃ v' I' S',Ending.returned (.bool b)=.returned v'/\Inv w (bz [dX bc c]) I' S' w'/\Ext w.heap.size (bz [dX bc c]) S S'/\kZ bc S (eB (.mk k n s ks) deep c) v' I' S':=
   fun hI hb=>hend (_,c+1) hI (by rw [hb]) (hsc _ (if_pos (.inl hk)))
  refine ad hI 1 rfl aR aw rfl ?_
  refine Run.callPure kz kt hI (iY _ _ _ S) fun w' hI=>?_
  refine gH (fun h2=>?_) (fun h2=>?_)
  ·have h2':=h2
   rw [Bool.and_eq_true] at h2'
   refine ad hI 1 rfl aH aC rfl ?_
   refine bf ?_
   refine fm h2 ?_
   refine gH (fun h3=>?_) (fun h3=>hfin hI ?_)
   ·refine ad hI 1 rfl ak al rfl ?_
    refine aK hks ah ?_
    refine bh ?_
    refine fm h3 (hfin hI ?_)
    rw [ho,h2'.1,h2'.2,show decide (s=emptyB)=true from h3]
    simp
   ·rw [ho,h2'.1,h2'.2,show decide (s=emptyB)=false from h3]; rfl
  ·refine mw (hfin hI ?_)
   rw [ho,<- Bool.and_assoc,h2]; rfl
 refine bh ?_
 refine aN (fun hk2=>?_) (fun hk2=>?_)
 ·have ho:dC (.mk k n s ks)=(decide (-999<=n) && (decide (n<=999) && (decide (s=emptyB) && decide (ks.length=0)))):=by
   rw [dC]; exact (if_neg hk).trans (if_pos hk2)
  have hfin:∀ {w':World} {b:Bool},Inv w (bz [dX bc c]) [dX bc (c+1),.blk b3 (.cells #[.int .i64 k,.int .i64 n,.string s,kv] ab),.blk b4 (.cells #[.int .i64 deep] eN),.blk b5 (.cells #[.pointer (some ⟨bc,0,none⟩)] fA)] S w'->
    b=dC (.mk k n s ks)->∃ v' I' S',Ending.returned (.bool b)=.returned v'/\Inv w (bz [dX bc c]) I' S' w'/\Ext w.heap.size (bz [dX bc c]) S S'/\kZ bc S (eB (.mk k n s ks) deep c) v' I' S':=
   fun hI hb=>hend (_,c+1) hI (by rw [hb]) (hsc _ (if_pos (.inr hk2)))
  refine ad hI 1 rfl aR aw rfl ?_
  refine Run.callPure kz kt hI (iY _ _ _ S) fun w' hI=>?_
  refine gH (fun h2=>?_) (fun h2=>?_)
  ·have h2':=h2
   rw [Bool.and_eq_true] at h2'
   refine ad hI 1 rfl aH aC rfl ?_
   refine bf ?_
   refine fm h2 ?_
   refine gH (fun h3=>?_) (fun h3=>hfin hI ?_)
   ·refine ad hI 1 rfl ak al rfl ?_
    refine aK hks ah ?_
    refine bh ?_
    refine fm h3 (hfin hI ?_)
    rw [ho,h2'.1,h2'.2,show decide (s=emptyB)=true from h3]
    simp
   ·rw [ho,h2'.1,h2'.2,show decide (s=emptyB)=false from h3]; rfl
  ·refine mw (hfin hI ?_)
   rw [ho,<- Bool.and_assoc,h2]; rfl
 refine bh ?_
 have hk12:¬ (k=1 ∨ k=2):=fun h=>h.elim hk hk2
 refine aN (fun hk3=>?_) (fun hk3=>?_)
 ·have ho:dC (.mk k n s ks)=(decide (n=0) && (gt s && decide (ks.length<=4))):=by
   rw [dC]; exact (if_neg hk).trans ((if_neg hk2).trans (if_pos hk3))
  refine ⟨fun t w'=>t=.bool (!dC (.mk k n s ks))/\Inv w (bz [dX bc c]) [dX bc (c+1),.blk b3 (.cells #[.int .i64 k,.int .i64 n,.string s,kv] ab),.blk b4 (.cells #[.int .i64 deep] eN),.blk b5 (.cells #[.pointer (some ⟨bc,0,none⟩)] fA)] S w',?_,?_⟩
  ·refine ad hI 1 rfl aR aw rfl ?_
   refine dt ?_
   refine rU (fun h1=>?_) (fun h1=>?_)
   ·have h1':decide (n=0)=false:=by simpa using h1
    refine PN ⟨?_,hI⟩
    rw [ho,h1']; rfl
   ·have h1':decide (n=0)=true:=by simpa using h1
    refine ad hI 1 rfl aH aC rfl ?_
    refine Run.callPure yn zK hI (uP s hs S) fun w' hI=>?_
    refine bW ?_
    refine lz h1 ?_
    refine rU (fun h2=>⟨?_,hI⟩) (fun h2=>?_)
    ·have h2':gt s=false:=by simpa using h2
     rw [ho,h1',h2']; rfl
    ·have h2':gt s=true:=by simpa using h2
     refine ad hI 1 rfl ak al rfl ?_
     refine aK hks ah ?_
     refine cY ?_
     refine lz h2 ⟨?_,hI⟩
     rw [ho,h1',h2',Bool.true_and,Bool.true_and]
     congr 1
     rw [Bool.eq_iff_iff]
     simp
     omega
  intro t _ _ _ _ _ _ _ _ _ _ _ _ _ _ w'
  rintro ⟨rfl,hI⟩
  refine av (fun hb1=>?_) (fun hb1=>?_)
  ·have hb1':dC (.mk k n s ks)=false:=by simpa using hb1
   exact hend (false,c+1) hI rfl (hsc _ (by rw [if_neg hk12,if_pos hk3,hb1']; rfl))
  ·have hb1':dC (.mk k n s ks)=true:=by simpa using hb1
   refine ad hI 1 rfl ak al rfl ?_
   refine xW ?_
   have hcb:Cb Tryz.prog Hd Tryz.f139 [.pointer (some ⟨b4,0,none⟩),.pointer (some ⟨b5,0,none⟩)] S
     (fun c:Int=>[dX bc c,.blk b4 (.cells #[.int .i64 deep] eN),.blk b5 (.cells #[.pointer (some ⟨bc,0,none⟩)] fA)]) (fun c=>0<=c/\c<=120)
     (fun c t=>(!(eB t (deep+1) c).1,(eB t (deep+1) c).2)) (fun v x=>∃ cs,v=.agg cs.toArray/\RdT S cs x) ks:=by
    refine ⟨Gx,Fp,fun st x _ hst hf=>?_,fun st x v hx hst=>?_⟩
    ·have:=EJ x (deep+1) st hst.2 (by simpa using hf)
     omega
    ·rintro ⟨cs,rfl,hcs⟩ w1 hI
     have hl:=hcs.length
     refine vY.2 ?_
     dsimp only[vY,cM]
     refine be hI fun b w' hI=>?_
     refine ag hI 3 ac rfl (by simpa [Value.cells] using hl) ?_
     refine ax hI 1 aw rfl rfl ?_
     refine bm (by omega) ?_
     refine ax hI 2 o4 rfl rfl ?_
     have hI:=hI.perm (M:=[.blk b4 (.cells #[.int .i64 deep] eN),.blk b5 (.cells #[.pointer (some ⟨bc,0,none⟩)] fA),.blk b (.cells (Value.agg cs.toArray).cells ab)]++[dX bc st])
      (List.perm_append_comm (l₁:=[_,_,_]) (l₂:=[dX bc st]))
     refine Run.call Cl BK hI (ih x hx S cs (deep+1) st bc hcs (by omega) (by omega) hst.1 hst.2) fun v' I' S' w'=>?_
     rintro ⟨rfl,rfl,rfl⟩ _ hI
     refine bW ?_
     have hI:=(hI.perm (M:=[dX bc (eB x (deep+1) st).2]++[.blk b4 (.cells #[.int .i64 deep] eN),.blk b5 (.cells #[.pointer (some ⟨bc,0,none⟩)] fA),.blk b (.cells (Value.agg cs.toArray).cells ab)])
      List.perm_append_comm).pick [true,true,true,false]
     exact ⟨_,_,_,rfl,hI,Ext.refl _ _ _,rfl,rfl,rfl⟩
   have hI:=hI.perm (M:=[.blk b3 (.cells #[.int .i64 k,.int .i64 n,.string s,kv] ab)]++[dX bc (c+1),.blk b4 (.cells #[.int .i64 deep] eN),.blk b5 (.cells #[.pointer (some ⟨bc,0,none⟩)] fA)]) (List.Perm.swap _ _ _)
   refine Run.call my mz hI (nh hcb hks ⟨by omega,by omega⟩) fun v' I' S' w'=>?_
   rintro ⟨rfl,rfl,rfl⟩ _ hI
   refine bW ?_
   rw [BQ] at hI ⊢
   have hI:=hI.perm (M:=[dX bc (jo ks (deep+1) (c+1)).2,.blk b3 (.cells #[.int .i64 k,.int .i64 n,.string s,kv] ab),.blk b4 (.cells #[.int .i64 deep] eN),.blk b5 (.cells #[.pointer (some ⟨bc,0,none⟩)] fA)]) (List.Perm.swap _ _ _)
   refine hend (jo ks (deep+1) (c+1)) hI (by simp) (hsc _ (by rw [if_neg hk12,if_pos hk3,hb1']; rfl))
 ·exact hend (false,c+1) hI rfl (hsc _ (by rw [if_neg hk12,if_neg hk3]))

theorem ve {t:T} {S:ae} {cs:List Value} (h:RdT S cs t):Pure Tryz.prog Av [.agg cs.toArray] S (.bool (cE t)):=by
 intro w hI
 have hl:=h.length
 refine ot.2 ?_
 dsimp only[ot,aE]
 refine be hI fun b1 w' hI=>?_
 refine aA hI IO fun b2 w' hI=>?_
 refine dB hI 1 (n:=1) rfl (by rw [aw]; rfl) rfl (Nat.le_of_ble_eq_true rfl) (by simp [Value.cells]; rfl) fun w' hI=>?_
 refine ag hI 0 ac rfl (by simpa [Value.cells] using hl) ?_
 refine Run.call (A:=[_]) (I:=[dX b2 0]) Cl BK hI (I8 t S cs 1 0 b2 h (by omega) (by omega) (by omega) (by omega)) fun v' I' S' w'=>?_
 rintro ⟨rfl,rfl,rfl⟩ _ hI
 exact done hI (by rw [HD])
end
end Go.Proofs.YtbocelianhcfmaaGreatDoor

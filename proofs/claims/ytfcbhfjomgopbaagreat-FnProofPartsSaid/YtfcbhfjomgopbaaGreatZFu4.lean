/- Whether terms are the same: the program's side. -/
import Derived.Test.YtfcbhfjomgopbaaGreatZFu3
import Derived.Test.YtfcbhfjomgopbaaGreatZFu2
import Derived.Laws.BytesArg
import Derived.Laws.StructEq
import Derived.Laws.Tables
namespace Go.Proofs.YtfcbhfjomgopbaaGreat
section
open Go Go.RowKit
attribute [local irreducible] Run CondV aB aS

theorem HI {xs:List T} (ih:∀ t∈xs,∀ (u:T) (S:ae) (cs ds:List Value),RdT S cs t->RdT S ds u->Pure Tryz.prog oB [.agg cs.toArray,.agg ds.toArray] S (.bool (eqT t u)))
  {ys:List T} {S:ae} {v u:Value} (h:RdSl S 4 (RdT S) v xs) (h':RdSl S 4 (RdT S) u ys):Pure Tryz.prog tI [v,u,.func (.func oB) #[] #[]] S (.bool (eqL xs ys)):=by
 intro w hI
 have hlen:(xs.length:Int)<=9223372036854775807:=by have:=h.le; simp only [maxLen] at this; omega
 refine j5.2 ?_
 dsimp only[j5,cW]
 refine aC h af ?_
 refine aC h' af ?_
 refine cD ?_
 refine az (fun hne=>?_) (fun he=>?_)
 ·exact done hI (by rw [Nm (by simp at hne; omega)])
 have he:xs.length=ys.length:=by simp at he; omega
 refine aC h af ?_
 refine ⟨fun i w'=>∃ (k:Nat),k<=xs.length/\i=.int .i64 k/\eqL (xs.drop k) (ys.drop k)=eqL xs ys/\Inv w [] [] S w',fun i _=>xs.length - (intOf i).toNat,⟨0,Nat.zero_le _,rfl,rfl,hI⟩,?_⟩
 intro t5 _ _ _ _ _ _ _ _ _ _ _ _ _ _ _ _ _ _ w'
 rintro ⟨k,hk,rfl,hrel,hI⟩
 refine bq ?_
 refine aI (fun hki=>?_) (fun hki=>?_)
 ·have hk1:k<xs.length:=by omega
  have hk2:k<ys.length:=by omega
  have hstep:eqL (xs.drop k) (ys.drop k)=(eqT xs[k] ys[k] && eqL (xs.drop (k+1)) (ys.drop (k+1))):=by
   rw [List.drop_eq_getElem_cons hk1,List.drop_eq_getElem_cons hk2,eqL]
  refine bY hI h af ac hk1 (fun _ _=>RdT.length) fun cs hcs=>?_
  have hlc:=hcs.length
  refine aD hI aQ fun b8 w' hI=>?_
  refine aq hI 0 rfl ac (by simpa using hlc) rfl (by simpa using hcs.one) fun w' hI=>?_
  refine bY hI h' af ac hk2 (fun _ _=>RdT.length) fun ds hds=>?_
  have hld:=hds.length
  refine aD hI aQ fun b9 w' hI=>?_
  refine aq hI 1 rfl ac (by simpa using hld) rfl (by simpa using hds.one) fun w' hI=>?_
  refine ao hI 0 ac rfl (by simpa using hlc) ?_
  refine ao hI 1 ac rfl (by simpa using hld) ?_
  refine Run.callPure mQ mJ hI (ih _ (List.getElem_mem hk1) _ S _ _ hcs hds) fun w' hI=>?_
  refine bK ?_
  refine az (fun hne=>?_) (fun he'=>?_)
  ·exact done hI (by rw [<- hrel,hstep]; simp at hne; rw [hne]; rfl)
  ·refine bl (by omega) ?_
   refine ⟨⟨k+1,hk1,rfl,?_,hI.nil⟩,by simp [intOf]; omega⟩
   rw [<- hrel,hstep]
   simp at he'
   rw [he',Bool.true_and]
 ·have:k=xs.length:=by omega
  subst this
  refine done hI ?_
  rw [<- hrel,List.drop_length,he,List.drop_length]
  rfl
theorem nj:∀ (t u:T) (S:ae) (cs ds:List Value),RdT S cs t->RdT S ds u->Pure Tryz.prog oB [.agg cs.toArray,.agg ds.toArray] S (.bool (eqT t u)):=by
 refine T.ind fun k n s ks ih u S cs ds h h'=>?_
 intro w hI
 obtain ⟨kv,rfl,_,_,_,hks⟩:=RdT.iff.1 h
 obtain ⟨kv',rfl,_,_,_,hks'⟩:=RdT.iff.1 h'
 obtain ⟨k',n',s',ks'⟩:=u
 simp only [T.name,T.kids,T.kind,T.n] at hks hks' ⊢
 refine tz.2 ?_
 dsimp only[tz,aW]
 refine bf hI fun b1 w' hI=>?_
 refine bf hI fun b2 w' hI=>?_
 refine ad hI 0 rfl aE av rfl ?_
 refine ad hI 1 rfl aE av rfl ?_
 refine aZ ?_
 by_cases e1:k=k'
 ·rw [decide_eq_true e1]
  refine rpG ?_
  refine ad hI 0 rfl aM av rfl ?_
  refine ad hI 1 rfl aM av rfl ?_
  refine aZ ?_
  by_cases e2:n=n'
  ·rw [decide_eq_true e2]
   refine rpG ?_
   refine ad hI 0 rfl aO aJ rfl ?_
   refine ad hI 1 rfl aO aJ rfl ?_
   refine bg ?_
   by_cases e3:s=s'
   ·rw [decide_eq_true e3]
    refine rpG ?_
    refine ad hI 0 rfl al ah rfl ?_
    refine ad hI 1 rfl al ah rfl ?_
    refine Run.callPure rN rV hI (HI ih hks hks') fun w' hI=>?_
    refine rpG ?_
    exact done hI (by rw [eqT,decide_eq_true e1,decide_eq_true e2,decide_eq_true e3]; rfl)
   ·rw [decide_eq_false e3]
    refine rpG ?_
    exact done hI (by rw [eqT,decide_eq_true e1,decide_eq_true e2,decide_eq_false e3]; rfl)
  ·rw [decide_eq_false e2]
   refine rpG ?_
   exact done hI (by rw [eqT,decide_eq_true e1,decide_eq_false e2]; rfl)
 ·rw [decide_eq_false e1]
  refine rpG ?_
  exact done hI (by rw [eqT,decide_eq_false e1]; rfl)
end
section
open Go Go.RowKit

theorem rn {n:Int}:∀ (l:List MapEntry) (i:Nat),(∀ e∈l,∃ m,e.key=.int .i64 m)->
  (∃ j,∃ e∈l,e.key=.int .i64 n/\Instr.findNow (.int .i64) (.int .i64 n) l i=some (some (j,e.val))) ∨ ((∀ e∈l,e.key≠.int .i64 n)/\Instr.findNow (.int .i64) (.int .i64 n) l i=some none)
 | [],i,_=>.inr ⟨by simp,rfl⟩
 | e::l,i,h=>by
  obtain ⟨m,hm⟩:=h e (List.mem_cons_self ..)
  have hs:Instr.sameNow (.int .i64) (.int .i64 n) e.key=some (n == m):=by rw [hm]; rfl
  by_cases hnm:n=m
  ·refine .inl ⟨i,e,List.mem_cons_self ..,by rw [hm,hnm],?_⟩
   have:(n == m)=true:=by simpa using hnm
   rw [Instr.findNow,hs,this]
  ·have h2:(n == m)=false:=by simpa using hnm
   rcases rn l (i+1) (fun e he=>h e (List.mem_cons_of_mem _ he)) with ⟨j,e',he',hk,hf⟩|⟨hk,hf⟩
   ·exact .inl ⟨j,e',List.mem_cons_of_mem _ he',hk,by rw [Instr.findNow,hs,h2]; exact hf⟩
   ·refine .inr ⟨fun x hx=>?_,by rw [Instr.findNow,hs,h2]; exact hf⟩
    rcases List.mem_cons.1 hx with rfl|hx
    ·rw [hm]
     intro e'
     simp only [Value.int.injEq,true_and] at e'
     exact hnm e'.symm
    ·exact hk x hx
section
variable {P:Program} {w w0:World} {X:List Nat} {L:List Item} {S:ae} {K:Value->World->Prop}
attribute [local irreducible] Run CondV aB aS
theorem gz {kt:TypeId} {d:TypeDesc} {k:Value} {l:List MapEntry} {a:Option (Nat × Value)} (hd:P.underlying kt=some d) (h:Instr.findNow d k l 0=some a):(Instr.findKey kt k l).run P w=.ok a w:=by
 simp [Instr.findKey,run_underlying hd,Result.andThen,h]
theorem xZ (h:Inv w0 X L S w) {T ty:TypeId} (hk:∀ b w',Inv w0 X (L++[.blk b (.map #[] 0)]) S w'->K (.map (some b)) w'):Run P (sOp (.makeMap T none) ty) w K:=by
 refine Run.of (v:=.map (some w.heap.size)) (w':={ w with heap:=w.heap.push (.map #[] 0) }) ?_ (hk _ _ (h.alloc _))
 simp [sOp,execOp,Instr.makeMap,newObj,Sem.run]
theorem JA (h:Inv w0 X L S w) {T kt et ty:TypeId} {b clock:Nat} {es:Array MapEntry} {n:Int} {z v:Value} {ok:Bool} (i:Nat) (hT:P.underlying T=some (.map kt et)) (hkt:P.underlying kt=some (.int .i64))
  (hz:fg P et=some z) (hi:L[i]?=some (.blk b (.map es clock)))
  (hf:(∃ j,Instr.findNow (.int .i64) (.int .i64 n) es.toList 0=some (some (j,v))/\ok=true) ∨ (Instr.findNow (.int .i64) (.int .i64 n) es.toList 0=some none/\v=z/\ok=false))
  (hk:K (.tuple #[v,.bool ok]) w):Run P (sOp (.lookup T (.const (.map (some b))) (.const (.int .i64 n)) true) ty) w K:=by
 have hb:w.heap[b]?=some (.map es clock):=h.its _ (List.mem_of_getElem? hi)
 have hck:∀ e,(Instr.checkKey e 10000 kt (.int .i64 n)).run P w=.ok () w:=fun e=>by
  rw [show (10000:Nat)=9999+1 from rfl,Instr.checkKey]
  simp [run_underlying hkt]
 obtain ⟨inf,hi1,hi2⟩:∃ inf,P.info? et=some inf/\inf.zero=some z:=by
  unfold fg at hz
  cases hinf:P.info? et with
  | none=>rw [hinf] at hz; simp at hz
  | some inf=>rw [hinf] at hz; exact ⟨inf,rfl,by simpa using hz⟩
 have hzv:(zeroValue et).run P w=.ok z w:=by simp [zeroValue,typeInfo,hi1,hi2]
 refine Run.of ?_ hk
 have hg:(getObj b).run P w=.ok (.map es clock) w:=by simp [getObj,Sem.run,hb]
 rcases hf with ⟨j,hf,rfl⟩|⟨hf,rfl,rfl⟩
 ·have hfk:=gz (P:=P) (w:=w) hkt hf
  simp [sOp,execOp,ev0,evE,Instr.lookup,run_underlying hT,hg,hck,hfk]
 ·have hfk:=gz (P:=P) (w:=w) hkt hf
  simp [sOp,execOp,ev0,evE,Instr.lookup,run_underlying hT,hg,hck,hfk,hzv]
theorem CK (h:Inv w0 X L S w) {T kt et ty:TypeId} {b clock:Nat} {es:Array MapEntry} {n:Int} {v:Value} (i:Nat) (hT:P.underlying T=some (.map kt et)) (hkt:P.underlying kt=some (.int .i64))
  (hi:L[i]?=some (.blk b (.map es clock))) (hf:Instr.findNow (.int .i64) (.int .i64 n) es.toList 0=some none)
  (hk:∀ w',Inv w0 X (L.set i (.blk b (.map (es.push { key:=.int .i64 n,val:=v,born:=clock }) (clock+1)))) S w'->K undef w') :
  Run P (sOp (.mapUpdate T (.const (.map (some b))) (.const (.int .i64 n)) (.const v)) ty) w K:=by
 have hb:w.heap[b]?=some (.map es clock):=h.its _ (List.mem_of_getElem? hi)
 have hck:∀ e,(Instr.checkKey e 10000 kt (.int .i64 n)).run P w=.ok () w:=fun e=>by
  rw [show (10000:Nat)=9999+1 from rfl,Instr.checkKey]
  simp [run_underlying hkt]
 have hg:(getObj b).run P w=.ok (.map es clock) w:=by simp [getObj,Sem.run,hb]
 have hfk:=gz (P:=P) (w:=w) hkt hf
 refine Run.ofSkip (w':={ w with heap:=w.heap.setIfInBounds b (.map (es.push { key:=.int .i64 n,val:=v,born:=clock }) (clock+1)) }) ?_ (hk _ (h.setBlk hi _ rfl))
 have hst:(setObj b (.map (es.push { key:=.int .i64 n,val:=v,born:=clock }) (clock+1))).run P w=.ok () { w with heap:=w.heap.setIfInBounds b (.map (es.push { key:=.int .i64 n,val:=v,born:=clock }) (clock+1)) }:=by simp [setObj,Sem.run,hb]
 simp [sOp,execOp,ev0,evE,Instr.mapUpdate,run_underlying hT,hg,hck,hfk,hst]
end
end
section
open Go Go.RowKit

abbrev aF:=List (Option T)
mutual
def cw:T->T->aF->Bool × aF
 | .mk k n s ks,u,st=>if k=1 then (match st[n.toNat]? with
   | some (some t)=>(eqT t u,st)
   | _=>(true,st.set n.toNat (some u)))
  else if iF (.mk k n s ks) u=true then gY ks u.kids st else (false,st)
def gY:List T->List T->aF->Bool × aF
 | [],_,st=>(true,st)
 | _::_,[],st=>(true,st)
 | t::ts,u::us,st=>if (cw t u st).1=true then gY ts us (cw t u st).2 else (false,(cw t u st).2)
end
theorem zl (ts us:List T) (st:aF) (j:Nat) (h:j<ts.length) (h':j<us.length) :
  gY (ts.drop j) (us.drop j) st=if (cw ts[j] us[j] st).1=true then gY (ts.drop (j+1)) (us.drop (j+1)) (cw ts[j] us[j] st).2 else (false,(cw ts[j] us[j] st).2):=by
 rw [List.drop_eq_getElem_cons h,List.drop_eq_getElem_cons h',gY]
mutual
def okV:T->Prop
 | .mk k n _ ks=>(k=1->0<=n/\n<=25)/\Ec ks
def Ec:List T->Prop
 | []=>True
 | t::ts=>okV t/\Ec ts
end
theorem od:∀ {ts:List T},Ec ts->∀ t∈ts,okV t
 | _::_,h,t,ht=>by
  rcases List.mem_cons.1 ht with rfl|ht
  ·exact h.1
  ·exact od h.2 t ht
mutual
def okK:T->Prop
 | .mk k _ _ ks=>k≠0/\Aq ks
def Aq:List T->Prop
 | []=>True
 | t::ts=>okK t/\Aq ts
end
theorem qp:∀ {ts:List T},Aq ts->∀ t∈ts,okK t
 | _::_,h,t,ht=>by
  rcases List.mem_cons.1 ht with rfl|ht
  ·exact h.1
  ·exact qp h.2 t ht
theorem O4 {t:T} (h:eM t=true):(t.kind=1->0<=t.n/\t.n<=25)/\t.kind≠0:=by
 unfold eM at h
 refine ⟨fun hk=>?_,fun hk=>?_⟩
 ·rw [if_pos hk] at h
  simp only [Bool.and_eq_true,decide_eq_true_eq] at h
  exact ⟨h.1,h.2.1⟩
 ·rw [if_neg (by omega),if_neg (by omega),if_neg (by omega)] at h
  cases h
mutual
theorem Ku:∀ (t:T) (d:Int),eZ t d=true->okV t/\okK t
 | .mk k n s ks,d,h=>by
  rw [eZ] at h
  split at h
  ·cases h
  ·simp only [Bool.and_eq_true] at h
   obtain ⟨h1,h2⟩:=h
   obtain ⟨h3,h4⟩:=Fb ks (d - 1) h2
   rw [okV,okK]
   obtain ⟨h5,h6⟩:=O4 h1
   exact ⟨⟨h5,h3⟩,⟨h6,h4⟩⟩
theorem Fb:∀ (ts:List T) (d:Int),eV ts d=true->Ec ts/\Aq ts
 | [],d,h=>by simp [Ec,Aq]
 | t::ts,d,h=>by
  rw [eV,Bool.and_eq_true] at h
  obtain ⟨h1,h2⟩:=Ku t d h.1
  obtain ⟨h3,h4⟩:=Fb ts d h.2
  rw [Ec,Aq]
  exact ⟨⟨h1,h3⟩,⟨h2,h4⟩⟩
end
theorem iB {t:T} (h:dg t=true):okV t/\okK t:=by
 rw [dg,Bool.and_eq_true] at h
 exact Ku t 30 h.1
def yF (st:aF):Prop:=st.length=26/\∀ t,some t∈st->okK t
theorem PG {st:aF} {n:Nat} {u:T} (h:yF st) (hu:okK u):yF (st.set n (some u)):=by
 refine ⟨by rw [List.length_set]; exact h.1,fun t ht=>?_⟩
 rcases List.mem_or_eq_of_mem_set ht with ht|ht
 ·exact h.2 t ht
 ·simp only [Option.some.injEq] at ht
  rw [ht]; exact hu
mutual
theorem jI:∀ (t u:T) (st:aF),yF st->okK u->yF (cw t u st).2
 | .mk k n s ks,u,st,h,hu=>by
  rw [cw]
  split
  ·split
   ·exact h
   ·exact PG h hu
  ·split
   ·obtain ⟨k',n',s',ks'⟩:=u
    rw [okK] at hu
    exact FX ks ks' st h hu.2
   ·exact h
theorem FX:∀ (ts us:List T) (st:aF),yF st->Aq us->yF (gY ts us st).2
 | [],_,st,h,_=>by rw [gY]; exact h
 | _::_,[],st,h,_=>by rw [gY]; exact h
 | t::ts,u::us,st,h,hu=>by
  rw [gY]
  rw [Aq] at hu
  split
  ·exact FX ts us _ (jI t u st h hu.1) hu.2
  ·exact jI t u st h hu.1
end
def me:List Value:=[.int .i64 0,.int .i64 0,.string ⟨#[]⟩,.slice none 0 0]
def KnownC (S:ae) (c:Array Value) (st:aF):Prop:=104<=c.size/\∀ i (h:i<st.length),(st[i]=none->aH c (i * 4) 4=me)/\(∀ t,st[i]=some t->RdT S (aH c (i * 4) 4) t)
theorem KnownC.set {S:ae} {c:Array Value} {st:aF} (h:KnownC S c st) {n:Nat} (hn:n<26) {cs:List Value} {u:T} (hu:RdT S cs u):KnownC S (bx c (n * 4) cs) (st.set n (some u)):=by
 have hlc:=hu.length
 have h1:=h.1
 have hs:104<=(bx c (n * 4) cs).size:=by rw [gL _ _ _ (by omega)]; exact h1
 refine ⟨hs,fun i hi=>?_⟩
 rw [List.length_set] at hi
 by_cases e:n=i
 ·subst e
  rw [List.getElem_set_self]
  refine ⟨fun h=>(by cases h),fun t ht=>?_⟩
  simp only [Option.some.injEq] at ht
  subst ht
  have:=gA (c:=c) (o:=n * 4) (vs:=cs) (by omega)
  rw [hlc] at this
  rw [this]
  exact hu
 ·rw [List.getElem_set_ne e,iA (by omega) (by omega)]
  exact h.2 i hi
section
attribute [local irreducible] Run CondV aB aS
abbrev kvn (kb kp:Nat):Value:=.slice (some ⟨kb,0,none⟩) 26 kp
abbrev kv0 (kb:Nat):Value:=kvn kb 26
theorem sJ (kp:Nat):∀ (t u:T) (S:ae) (cs ds:List Value) (kb:Nat) (kc:Array Value) (st:aF),RdT S cs t->RdT S ds u->okV t->okK u->yF st->KnownC S kc st->
  Tri Tryz.prog Ke [.agg cs.toArray,.agg ds.toArray,kvn kb kp] [.blk kb (.cells kc ab)] S fun r I' S'=>S'=S/\r=.bool (cw t u st).1/\∃ kc',I'=[.blk kb (.cells kc' ab)]/\KnownC S kc' (cw t u st).2:=by
 refine T.ind fun k n s ks ih u S cs ds kb kc st h h' hv hu hst hkc=>?_
 intro w hI
 have hds:=h'
 obtain ⟨kv,rfl,_,_,_,hks⟩:=RdT.iff.1 h
 obtain ⟨kv',rfl,_,_,_,hks'⟩:=RdT.iff.1 h'
 obtain ⟨k',n',s',ks'⟩:=u
 simp only [T.name,T.kids,T.kind,T.n] at hks hks' ⊢
 have hlen:=hks.le
 simp only [maxLen] at hlen
 rw [okV] at hv
 obtain ⟨hv1,hv2⟩:=hv
 have huk:=hu
 rw [okK] at hu
 obtain ⟨X,hX⟩:∃ X,X=bC [Item.blk kb (.cells kc ab)]:=⟨_,rfl⟩
 rw [<- hX] at hI ⊢
 refine xz.2 ?_
 dsimp only[xz,cW]
 refine bf hI fun b1 w' hI=>?_
 refine bf hI fun b2 w' hI=>?_
 have hI:Inv w X [.blk b1 (.cells #[.int .i64 k,.int .i64 n,.string s,kv] ab),.blk b2 (.cells #[.int .i64 k',.int .i64 n',.string s',kv'] ab),.blk kb (.cells kc ab)] S w':=hI.perm (by
  refine (List.perm_append_comm (l₁:=[_,_]) (l₂:=[_])).trans ?_
  exact List.Perm.refl _)
 refine ad hI 0 rfl aE av rfl ?_
 refine aZ ?_
 refine aI (fun hk1=>?_) (fun hk1=>?_)
 ·obtain ⟨hn0,hn25⟩:=hv1 hk1
  obtain ⟨j,rfl⟩:∃ j:Nat,n=j:=⟨n.toNat,by omega⟩
  have hj:j<26:=by omega
  have hjs:j<st.length:=by rw [hst.1]; exact hj
  refine ad hI 0 rfl aM av rfl ?_
  refine ar af hj ?_
  refine ai aE ?_
  rw [Nat.zero_add,Nat.add_zero]
  obtain ⟨hno,hso⟩:=hkc.2 j hjs
  cases hst2:st[j] with
  | none=>
   have hcell:=hno hst2
   refine aA hI 2 av rfl (by have:=au hcell 0 _ rfl; exact this) ?_
   refine cD ?_
   refine az (fun hb=>by simp at hb) (fun _=>?_)
   refine ad hI 0 rfl aM av rfl ?_
   refine ao hI 1 ac rfl rfl ?_
   refine ar af hj ?_
   rw [Nat.zero_add]
   refine kP hI 2 rfl ac rfl (by have:=hkc.1; exact Nat.ble_eq_true_of_le (by omega)) hds.one fun w' hI=>?_
   have hm:cw (.mk k j s ks) (.mk k' n' s' ks') st=(true,st.set j (some (.mk k' n' s' ks'))):=by
    rw [cw,if_pos hk1,Int.toNat_natCast,List.getElem?_eq_getElem hjs,hst2]
   rw [hm]
   exact ⟨_,_,_,rfl,hI.pick [false,false,true],Ext.refl _ _ _,rfl,rfl,_,rfl,hkc.set hj hds⟩
  | some t0=>
   have hR:=hso t0 hst2
   have hk0:t0.kind≠0:=by
    have:=hst.2 t0 (by rw [<- hst2]; exact List.getElem_mem hjs)
    obtain ⟨a,b,c,d⟩:=t0
    rw [okK] at this
    exact this.1
   obtain ⟨kv0',hcell,_,_,_,_⟩:=RdT.iff.1 hR
   refine aA hI 2 av rfl (by have:=au hcell 0 _ rfl; exact this) ?_
   refine cD ?_
   rw [decide_eq_false hk0]
   refine az (fun _=>?_) (fun hb=>by cases hb)
   refine ⟨fun D x6 j4 pw og lR jN lM qZ w_=>Fx D 0 [qZ=kvn kb kp,lM=.pointer (some ⟨b1,1,none⟩),jN=.int .i64 j,lR=.pointer (some ⟨kb,j * 4,none⟩),og=.agg (aH kc (j * 4) 4).toArray,pw=.agg #[.int .i64 k',.int .i64 n',.string s',kv'],j4=.bool (eqT t0 (.mk k' n' s' ks')),x6=.bool (eqT t0 (.mk k' n' s' ks'))]/\Inv w X [.blk b1 (.cells #[.int .i64 k,.int .i64 (j:Int),.string s,kv] ab),.blk b2 (.cells #[.int .i64 k',.int .i64 n',.string s',kv'] ab),.blk kb (.cells kc ab)] S w_,⟨Fx.nil _ _,hI.draw⟩,⟨?_,?_,?_,?_,?_,?_,?_,?_,trivial⟩,?_⟩
   all_goals (intro D bn; intros; rename_i x6 j4 pw og lR jN lM qZ w_ hA_; have hF_:=hA_.1; obtain ⟨⟨bR,bQ,bG,bS,bU,bB,bD,cq,_⟩,hI⟩:=hA_)
   ·exact ⟨hF_.set 0 rfl,hI⟩
   ·refine ai aM ?_
    exact ⟨hF_.set 1 rfl,hI⟩
   ·obtain rfl:=bQ ‹_›
    refine aA hI 0 av rfl rfl ?_
    exact ⟨hF_.set 2 rfl,hI⟩
   ·obtain rfl:=bR ‹_›
    obtain rfl:=bG ‹_›
    refine ar af hj ?_; rw [Nat.zero_add]
    exact ⟨hF_.set 3 rfl,hI⟩
   ·obtain rfl:=bS ‹_›
    refine b0 hI 2 (aH kc (j * 4) 4) ac rfl hR.length (fun i v hi=>au rfl i v hi) ?_
    exact ⟨hF_.set 4 rfl,hI⟩
   ·refine ao hI 1 ac rfl rfl ?_
    exact ⟨hF_.set 5 rfl,hI⟩
   ·obtain rfl:=bU ‹_›
    obtain rfl:=bB ‹_›
    refine Run.callPure mM mN hI (nN t0 _ S _ _ hR hds) fun w_ hI=>?_
    exact ⟨hF_.set 6 rfl,hI⟩
   ·obtain rfl:=bD ‹_›
    exact ⟨hF_.set 7 rfl,hI⟩
   obtain ⟨rfl,rfl,rfl,rfl,rfl,rfl,rfl,rfl,_⟩:=hF_.all
   clear hF_ bR bQ bG bS bU bB bD cq
   have hm:cw (.mk k j s ks) (.mk k' n' s' ks') st=(eqT t0 (.mk k' n' s' ks'),st):=by
    rw [cw,if_pos hk1,Int.toNat_natCast,List.getElem?_eq_getElem hjs,hst2]
   rw [hm]
   exact ⟨_,_,_,rfl,hI.pick [false,false,true],Ext.refl _ _ _,rfl,rfl,_,rfl,hkc⟩
 refine ⟨fun q w'=>q=.bool (!iF (.mk k n s ks) (.mk k' n' s' ks'))/\Inv w X [.blk b1 (.cells #[.int .i64 k,.int .i64 n,.string s,kv] ab),.blk b2 (.cells #[.int .i64 k',.int .i64 n',.string s',kv'] ab),.blk kb (.cells kc ab)] S w',?_,?_⟩
 ·refine ad hI 0 rfl aE av rfl ?_
  refine ad hI 1 rfl aE av rfl ?_
  refine cD ?_
  by_cases e1:k=k'
  ·rw [decide_eq_true e1]
   refine rpG ?_
   refine ad hI 0 rfl aM av rfl ?_
   refine ad hI 1 rfl aM av rfl ?_
   refine cD ?_
   by_cases e2:n=n'
   ·rw [decide_eq_true e2]
    refine rpG ?_
    refine ad hI 0 rfl aO aJ rfl ?_
    refine ad hI 1 rfl aO aJ rfl ?_
    refine yM ?_
    by_cases e3:s=s'
    ·rw [decide_eq_true e3]
     refine rpG ?_
     refine ad hI 0 rfl al ah rfl ?_
     refine aC hks af ?_
     refine ad hI 1 rfl al ah rfl ?_
     refine aC hks' af ?_
     refine cD ?_
     refine rpG ?_
     exact ⟨by rw [dz,decide_eq_true e1,decide_eq_true e2,decide_eq_true e3,Jn]; rfl,hI⟩
    ·rw [decide_eq_false e3]
     refine rpG ?_
     exact ⟨by rw [dz,decide_eq_true e1,decide_eq_true e2,decide_eq_false e3]; rfl,hI⟩
   ·rw [decide_eq_false e2]
    refine rpG ?_
    exact ⟨by rw [dz,decide_eq_true e1,decide_eq_false e2]; rfl,hI⟩
  ·rw [decide_eq_false e1]
   refine rpG ?_
   exact ⟨by rw [dz,decide_eq_false e1]; rfl,hI⟩

 intro q _ _ _ _ _ _ _ _ _ _ _ _ _ _ _ _ _ _ _ _ _ _ _ _ _ _ _ w'
 rintro ⟨rfl,hI⟩
 cases hd:iF (.mk k n s ks) (.mk k' n' s' ks')
 ·refine az (fun _=>?_) (fun hb=>by cases hb)
  have hm:cw (.mk k n s ks) (.mk k' n' s' ks') st=(false,st):=by rw [cw,if_neg hk1,if_neg (by rw [hd]; decide)]
  rw [hm]
  exact ⟨_,_,_,rfl,hI.pick [false,false,true],Ext.refl _ _ _,rfl,rfl,_,rfl,hkc⟩
 refine az (fun hb=>by cases hb) (fun _=>?_)
 have hle:ks.length=ks'.length:=by
  rw [dz] at hd
  simp only [Bool.and_eq_true,decide_eq_true_eq] at hd
  exact hd.2.2.2
 have hm:cw (.mk k n s ks) (.mk k' n' s' ks') st=gY ks ks' st:=by rw [cw,if_neg hk1,if_pos hd]; rfl
 rw [hm]
 have hu2:=hu.2
 refine ⟨fun i w'=>∃ (j:Nat) (st':aF) (kc':Array Value),j<=ks.length/\i=.int .i64 j/\gY (ks.drop j) (ks'.drop j) st'=gY ks ks' st/\yF st'/\KnownC S kc' st'/\Inv w X [.blk b1 (.cells #[.int .i64 k,.int .i64 n,.string s,kv] ab),.blk b2 (.cells #[.int .i64 k',.int .i64 n',.string s',kv'] ab),.blk kb (.cells kc' ab)] S w',fun i _=>ks.length - (intOf i).toNat,⟨0,st,kc,Nat.zero_le _,rfl,rfl,hst,hkc,hI⟩,?_⟩
 intro t5 _ _ _ _ _ _ _ _ _ _ _ _ _ _ _ _ _ _ _ _ _ w'
 rintro ⟨j,st',kc',hj,rfl,hrel,hst',hkc',hI⟩
 refine ad hI 0 rfl al ah rfl ?_
 refine aC hks af ?_
 refine bq ?_
 refine aI (fun hji=>?_) (fun hji=>?_)
 ·have hj1:j<ks.length:=by omega
  have hj2:j<ks'.length:=by omega
  obtain ⟨c1,o1,cap1,a1,E1,fz1,rfl,hS1,hR1⟩:=hks.at_ hj1
  obtain ⟨c2,o2,cap2,a2,E2,fz2,rfl,hS2,hR2⟩:=hks'.at_ hj2
  rw [zl ks ks' st' j hj1 hj2] at hrel
  have hcall:=ih _ (List.getElem_mem hj1) ks'[j] S _ _ kb kc' st' hR1 hR2 (od hv2 _ (List.getElem_mem hj1)) (qp hu2 _ (List.getElem_mem hj2)) hst' hkc'
  have hsn:=jI ks[j] ks'[j] st' hst' (qp hu2 _ (List.getElem_mem hj2))
  generalize hr:cw ks[j] ks'[j] st'=r at hrel hcall hsn
  refine ⟨fun D pM zr Bc A5 Dp CD Bn Bb AU Is OE OB FZ w_=>Fx D 0 [FZ=.pointer (some ⟨b1,3,none⟩),OB=.slice (some ⟨c1,o1,none⟩) ks.length cap1,OE=.int .i64 j,Is=.pointer (some ⟨c1,o1+j * 4,none⟩),AU=.agg (aH a1 (o1+j * 4) 4).toArray,Bb=.pointer (some ⟨b2,3,none⟩),Bn=.slice (some ⟨c2,o2,none⟩) ks'.length cap2,CD=.int .i64 j,Dp=.pointer (some ⟨c2,o2+j * 4,none⟩),A5=.agg (aH a2 (o2+j * 4) 4).toArray,Bc=kvn kb kp,zr=.bool r.1,pM=.bool (!r.1)]/\(D 11=false->Inv w X [.blk b1 (.cells #[.int .i64 k,.int .i64 n,.string s,.slice (some ⟨c1,o1,none⟩) ks.length cap1] ab),.blk b2 (.cells #[.int .i64 k',.int .i64 n',.string s',.slice (some ⟨c2,o2,none⟩) ks'.length cap2] ab),.blk kb (.cells kc' ab)] S w_)/\(D 11=true->∃ kc2,KnownC S kc2 r.2/\Inv w X [.blk b1 (.cells #[.int .i64 k,.int .i64 n,.string s,.slice (some ⟨c1,o1,none⟩) ks.length cap1] ab),.blk b2 (.cells #[.int .i64 k',.int .i64 n',.string s',.slice (some ⟨c2,o2,none⟩) ks'.length cap2] ab),.blk kb (.cells kc2 ab)] S w_)/\∃ kc3,Inv w X [.blk b1 (.cells #[.int .i64 k,.int .i64 n,.string s,.slice (some ⟨c1,o1,none⟩) ks.length cap1] ab),.blk b2 (.cells #[.int .i64 k',.int .i64 n',.string s',.slice (some ⟨c2,o2,none⟩) ks'.length cap2] ab),.blk kb (.cells kc3 ab)] S w_,⟨Fx.nil _ _,⟨fun _=>hI.draw,aV,kc',hI.draw⟩⟩,⟨?_,?_,?_,?_,?_,?_,?_,?_,?_,?_,?_,?_,?_,trivial⟩,?_⟩
  all_goals (intro D bn; intros; rename_i pM zr Bc A5 Dp CD Bn Bb AU Is OE OB FZ w_ hA_; have hF_:=hA_.1; obtain ⟨⟨bR,bQ,bG,bS,bU,bB,bD,cq,ci,cL,bH,bT,cH,_⟩,⟨hI0,hI1,kc3,hI⟩⟩:=hA_)
  ·refine ai al ?_
   exact ⟨hF_.set 0 rfl,⟨hI0,hI1,kc3,hI⟩⟩
  ·obtain rfl:=bR ‹_›
   refine aA hI 0 ah rfl rfl ?_
   exact ⟨hF_.set 1 rfl,⟨hI0,hI1,kc3,hI⟩⟩
  ·exact ⟨hF_.set 2 rfl,⟨hI0,hI1,kc3,hI⟩⟩
  ·obtain rfl:=bQ ‹_›
   obtain rfl:=bG ‹_›
   refine ar af hj1 ?_
   exact ⟨hF_.set 3 rfl,⟨hI0,hI1,kc3,hI⟩⟩
  ·obtain rfl:=bS ‹_›
   refine bE ac hR1.length (fun j v hj=>by rw [hI.cellS hS1]; exact au rfl j v hj) ?_
   exact ⟨hF_.set 4 rfl,⟨hI0,hI1,kc3,hI⟩⟩
  ·refine ai al ?_
   exact ⟨hF_.set 5 rfl,⟨hI0,hI1,kc3,hI⟩⟩
  ·obtain rfl:=bB ‹_›
   refine aA hI 1 ah rfl rfl ?_
   exact ⟨hF_.set 6 rfl,⟨hI0,hI1,kc3,hI⟩⟩
  ·exact ⟨hF_.set 7 rfl,⟨hI0,hI1,kc3,hI⟩⟩
  ·obtain rfl:=bD ‹_›
   obtain rfl:=cq ‹_›
   refine ar af hj2 ?_
   exact ⟨hF_.set 8 rfl,⟨hI0,hI1,kc3,hI⟩⟩
  ·obtain rfl:=ci ‹_›
   refine bE ac hR2.length (fun j v hj=>by rw [hI.cellS hS2]; exact au rfl j v hj) ?_
   exact ⟨hF_.set 9 rfl,⟨hI0,hI1,kc3,hI⟩⟩
  ·exact ⟨hF_.set 10 rfl,⟨hI0,hI1,kc3,hI⟩⟩
  ·obtain rfl:=bU ‹_›
   obtain rfl:=cL ‹_›
   obtain rfl:=bH ‹_›
   refine Run.call (A:=[_,_]) oO oF (hI0 bn) hcall fun v' I' S w_=>?_
   rintro ⟨rfl,rfl,kc2,rfl,hk2⟩ _ hI
   have hI0:=fun (h:aG D 11 11=false)=>(Bool.noConfusion h:Inv w X [.blk b1 (.cells #[.int .i64 k,.int .i64 n,.string s,.slice (some ⟨c1,o1,none⟩) ks.length cap1] ab),.blk b2 (.cells #[.int .i64 k',.int .i64 n',.string s',.slice (some ⟨c2,o2,none⟩) ks'.length cap2] ab),.blk kb (.cells kc' ab)] S w_)
   have hI1:=fun (_:aG D 11 11=true)=>(⟨kc2,hk2,hI⟩:∃ kc2,KnownC S kc2 r.2/\Inv w X [.blk b1 (.cells #[.int .i64 k,.int .i64 n,.string s,.slice (some ⟨c1,o1,none⟩) ks.length cap1] ab),.blk b2 (.cells #[.int .i64 k',.int .i64 n',.string s',.slice (some ⟨c2,o2,none⟩) ks'.length cap2] ab),.blk kb (.cells kc2 ab)] S w_)
   obtain ⟨kc3,hI⟩:∃ kc3,Inv w X [.blk b1 (.cells #[.int .i64 k,.int .i64 n,.string s,.slice (some ⟨c1,o1,none⟩) ks.length cap1] ab),.blk b2 (.cells #[.int .i64 k',.int .i64 n',.string s',.slice (some ⟨c2,o2,none⟩) ks'.length cap2] ab),.blk kb (.cells kc3 ab)] S w_:=⟨kc2,hI⟩
   exact ⟨hF_.set 11 rfl,⟨hI0,hI1,kc3,hI⟩⟩
  ·obtain rfl:=bT ‹_›
   refine bK ?_
   exact ⟨hF_.set 12 rfl,⟨hI0,hI1,kc3,hI⟩⟩
  obtain ⟨rfl,rfl,rfl,rfl,rfl,rfl,rfl,rfl,rfl,rfl,rfl,rfl,rfl,_⟩:=hF_.all
  have jV:D 11=true:=by assumption
  clear hF_ bR bQ bG bS bU bB bD cq ci cL bH bT cH
  obtain ⟨kc2,hk2,hI⟩:=hI1 jV
  clear hI0 hI1
  refine az (fun hne=>?_) (fun he'=>?_)
  ·simp only [Bool.not_eq_true'] at hne
   rw [hne,if_neg (by decide)] at hrel
   rw [<- hrel]
   exact ⟨_,_,_,rfl,hI.pick [false,false,true],Ext.refl _ _ _,rfl,rfl,_,rfl,hk2⟩
  ·simp only [Bool.not_eq_false'] at he'
   rw [he',if_pos rfl] at hrel
   refine bl (by omega) ?_
   exact ⟨⟨j+1,r.2,kc2,hj1,rfl,hrel,hsn,hk2,hI⟩,by simp [intOf]; omega⟩
 ·have:j=ks.length:=by omega
  subst this
  rw [List.drop_length,hle,List.drop_length] at hrel
  rw [<- hrel]
  exact ⟨_,_,_,rfl,hI.pick [false,false,true],Ext.refl _ _ _,rfl,rfl,_,rfl,hkc'⟩
end
end
section
open Go Go.RowKit
section
variable {P:Program} {w w0:World} {X:List Nat} {L:List Item} {S:ae} {K:Value->World->Prop}
attribute [local irreducible] Run CondV aB aS
theorem OO {T:TypeId} {cx cy:Bool} {a b:Int} (hb:b≠0) (hk:K (.int .i64 (a.tmod b)) w):Run P (cS .rem T cx cy (.int .i64 a) (.int .i64 b)) w K:=
 Run.of (by simp [cS,cP,binOp,Op.intDiv,hb]) hk
theorem RP {T:TypeId} {cx cy:Bool} {a b:Int} (hb:b≠0) (hr:-9223372036854775808<=a.tdiv b/\a.tdiv b<=9223372036854775807) (hk:K (.int .i64 (a.tdiv b)) w):Run P (cS .quo T cx cy (.int .i64 a) (.int .i64 b)) w K:=
 Run.of (by simp [cS,cP,binOp,Op.intDiv,hb,IntWalk.i64_in _ hr]) hk
end

section
attribute [local irreducible] Run CondV aB aS
end
end
section
open Go Go.RowKit

theorem Part.upd {α:Type} {k:Nat} {R:bh->List Value->α->Prop} {c c':Array Value} {Ls:List bh} {xs:List α} (h:Part k R c Ls xs) {i:Nat} {L':bh} {x:α} (hx:R L' (aH c' (i * k) k) x)
  (hne:∀ j,j≠i->aH c' (j * k) k=aH c (j * k) k):Part k R c' (Ls.set i L') (xs.set i x):=by
 refine ⟨by simp [h.1],fun j h1 h2=>?_⟩
 by_cases e:i=j
 ·subst e
  rw [List.getElem_set_self,List.getElem_set_self]
  exact hx
 ·rw [List.getElem_set_ne e,List.getElem_set_ne e,hne j fun e'=>e e'.symm]
  exact h.2 j (by simpa using h1) (by simpa using h2)
section
attribute [local irreducible] Run CondV aB aS
end
end
section
open Go Go.RowKit

section
attribute [local irreducible] Run CondV aB aS
theorem TrC.parts {L:bh} {cs:List Value} {c:C} (h:TrC L cs c):∃ kv ks L1 L2,cs=[.int .i64 c.head.kind,.int .i64 c.head.n,.string c.head.name,kv,ks]/\L=L1++L2/\TrSl 4 TrT L1 kv c.head.kids/\TrSl 4 TrT L2 ks c.body:=by
 obtain ⟨hd,ks,L1,L2,rfl,rfl,h1,h2⟩:=h
 obtain ⟨kv,rfl,_,_,_,hkT⟩:=TrT.iff.1 h1
 exact ⟨kv,ks,L1,L2,rfl,rfl,hkT,h2⟩
end
end
section
open Go Go.RowKit

section
attribute [local irreducible] Run CondV aB aS
end
end
section
open Go Go.RowKit

section
variable {w:World} {K:Value->World->Prop}
attribute [local irreducible] Run
end

attribute [local irreducible] Run CondV aB aS
structure Pd where
 name:ByteArray
 arity:Int
deriving DecidableEq
def Pd.cells (x:Pd):List Value:=[.string x.name,.int .i64 x.arity]
def iG (t:T):Pd:=⟨t.name,t.kids.length⟩
def Hg (x y:Pd):Bool:=decide (x.name=y.name) && decide (x.arity=y.arity)
def lX (f:C->Bool):List C->Nat->List Int
 | [],_=>[]
 | c::cs,k=>if f c=true then (k:Int)::lX f cs (k+1) else lX f cs (k+1)
theorem JD (f:C->Bool):∀ (p:List C) (k:Nat) (n:Int),n∈lX f p k->∃ i:Nat,(k:Int)<=n/\n=k+i/\∃ h:i<p.length,f p[i]=true
 | [],k,n,h=>by simp [lX] at h
 | c::cs,k,n,h=>by
  have hrec:n∈lX f cs (k+1)->∃ i:Nat,(k:Int)<=n/\n=k+i/\∃ h:i<(c::cs).length,f (c::cs)[i]=true:=by
   intro h
   obtain ⟨i,h1,h2,h3,h4⟩:=JD f cs (k+1) n h
   exact ⟨i+1,by omega,by omega,by simpa using h3,by simpa using h4⟩
  rw [lX] at h
  split at h
  ·rcases List.mem_cons.1 h with rfl|h
   ·exact ⟨0,by omega,by omega,by simp,by simpa using ‹f c=true›⟩
   ·exact hrec h
  ·exact hrec h
end
section
open Go Go.RowKit
attribute [local irreducible] Run CondV aB aS

theorem Mj (f:C->Bool) (p:List C) (k:Nat) (h:k<p.length) (l:List Int):(if f p[k]=true then l++[(k:Int)] else l)++lX f (p.drop (k+1)) (k+1)=l++lX f (p.drop k) k:=by
 rw [List.drop_eq_getElem_cons h,lX]
 split
 ·rw [List.append_assoc]; rfl
 ·rfl

theorem JN {p:List C} {g:T} {S:ae} {v:Value} {cs:List Value} (h:RdSl S 5 (RdC S) v p) (hg:RdT S cs g) (hp:p.length<=2000000) :
  Tri Tryz.prog Oz [v,.agg cs.toArray] [] S (IU S (lX (fun c=>Hg (iG c.head) (iG g)) p 0)):=by
 intro w hI
 obtain ⟨gv,rfl,_,_,hgs,hgk⟩:=RdT.iff.1 hg
 obtain ⟨gk,gn,gs,gks⟩:=g
 simp only [T.name,T.kids,T.kind,T.n] at hgs hgk ⊢
 refine Cx.2 ?_
 dsimp only[Cx,aW]
 refine bf hI fun b3 w' hI=>?_
 refine dD hI ip fun v0 w' hI=>?_
 refine ⟨fun i t w'=>∃ (k:Nat) (l:List Int),k<=p.length/\i=.int .i64 k/\l++lX (fun c=>Hg (iG c.head) (iG (.mk gk gn gs gks))) (p.drop k) k=lX (fun c=>Hg (iG c.head) (iG (.mk gk gn gs gks))) p 0/\l.length<=k/\
   Inv w [] [.blk b3 (.cells #[.int .i64 gk,.int .i64 gn,.string gs,gv] ab),ed t l] S w',fun i _ _=>p.length - (intOf i).toNat,⟨0,[],Nat.zero_le _,rfl,rfl,Nat.le_refl _,hI⟩,?_⟩
 intro t6 _ _ t5 _ _ _ _ t35 t34 t33 t32 t31 t30 t29 t28 t27 t26 t25 t24 t23 t22 t21 t20 t19 t18 t17 t16 t15 t14 _ _ _ _ w'
 rintro ⟨k,l,hk,rfl,hrel,hl,hI⟩
 refine aC h bL ?_
 refine bq ?_
 refine aI (fun hki=>?_) (fun hki=>?_)
 ·have hk':k<p.length:=by omega
  refine ⟨fun t w'=>Inv w [] [.blk b3 (.cells #[.int .i64 gk,.int .i64 gn,.string gs,gv] ab),ed t (if Hg (iG p[k].head) (iG (.mk gk gn gs gks))=true then l++[(k:Int)] else l)] S w',?_,?_⟩
  ·obtain ⟨b,o,cap,c,E,fz,rfl,hS,hR⟩:=h.at_ hk'
   obtain ⟨hd,ks2,hcs,h1,h2⟩:=hR
   obtain ⟨kv,rfl,_,_,hs1,hk1⟩:=RdT.iff.1 h1
   have hf0:Hg (iG p[k].head) (iG (.mk gk gn gs gks))=(decide (p[k].head.name=gs) && decide ((p[k].head.kids.length:Int)=gks.length)):=rfl
   cases hq:decide (p[k].head.name=gs)
   ·have hf:Hg (iG p[k].head) (iG (.mk gk gn gs gks))=false:=by rw [hf0,hq]; rfl
    refine ⟨fun D ji nU j9 mD iE ia jM gI lq lw fT j4 pw og lR jN lM qZ mO ur AD uo w_=>Fx D 0 [uo=.slice (some ⟨b,o,none⟩) p.length cap,AD=.int .i64 k,ur=.pointer (some ⟨b,o+k * 5,none⟩),mO=.pointer (some ⟨b,o+k * 5,none⟩),qZ=.pointer (some ⟨b,o+k * 5+2,none⟩),lM=.string p[k].head.name,jN=.pointer (some ⟨b3,2,none⟩),lR=.string gs,og=.bool false,pw=.bool false,j4=undef,fT=undef,lw=undef,lq=undef,gI=undef,jM=undef,ia=undef,iE=undef,mD=undef,j9=undef,nU=undef,ji=.bool false]/\Inv w [] [.blk b3 (.cells #[.int .i64 gk,.int .i64 gn,.string gs,gv] ab),ed t5 l] S w_,⟨Fx.nil _ _,hI.draw⟩,⟨?_,?_,?_,?_,?_,?_,?_,?_,?_,?_,?_,?_,?_,?_,?_,?_,?_,?_,?_,?_,?_,?_,trivial⟩,?_⟩
    all_goals (intro D bn; intros; rename_i ji nU j9 mD iE ia jM gI lq lw fT j4 pw og lR jN lM qZ mO ur AD uo w_ hA_; have hF_:=hA_.1; obtain ⟨⟨bR,bQ,bG,bS,bU,bB,bD,cq,ci,cL,bH,bT,cH,de,cB,dk,dw,dH,eE,dS,fl,iz,_⟩,hI⟩:=hA_)
    ·exact ⟨hF_.set 0 rfl,hI⟩
    ·exact ⟨hF_.set 1 rfl,hI⟩
    ·obtain rfl:=bR ‹_›
     obtain rfl:=bQ ‹_›
     refine ar bL hk' ?_
     exact ⟨hF_.set 2 rfl,hI⟩
    ·obtain rfl:=bG ‹_›
     refine ai cG ?_
     exact ⟨hF_.set 3 rfl,hI⟩
    ·obtain rfl:=bS ‹_›
     refine ai aO ?_
     exact ⟨hF_.set 4 rfl,hI⟩
    ·obtain rfl:=bU ‹_›
     refine ce aJ (by rw [hI.cellS hS]; exact au hcs 2 _ rfl) ?_
     exact ⟨hF_.set 5 rfl,hI⟩
    ·refine ai aO ?_
     exact ⟨hF_.set 6 rfl,hI⟩
    ·obtain rfl:=bD ‹_›
     refine aA hI 0 aJ rfl rfl ?_
     exact ⟨hF_.set 7 rfl,hI⟩
    ·obtain rfl:=bB ‹_›
     obtain rfl:=cq ‹_›
     refine bg ?_; rw [hq]
     exact ⟨hF_.set 8 rfl,hI⟩
    ·obtain rfl:=ci ‹_›
     exact ⟨hF_.set 9 rfl,hI⟩
    ·obtain rfl:=cL ‹_›
     refine co (c:=false) (b:=true) (by decide) ?_
     exact ⟨hF_.set 10 rfl,hI⟩
    ·obtain rfl:=cL ‹_›
     refine co (c:=false) (b:=true) (by decide) ?_
     exact ⟨hF_.set 11 rfl,hI⟩
    ·obtain rfl:=bH ‹_›
     obtain rfl:=bT ‹_›
     obtain rfl:=cL ‹_›
     refine co (c:=false) (b:=true) (by decide) ?_
     exact ⟨hF_.set 12 rfl,hI⟩
    ·obtain rfl:=cH ‹_›
     obtain rfl:=cL ‹_›
     refine co (c:=false) (b:=true) (by decide) ?_
     exact ⟨hF_.set 13 rfl,hI⟩
    ·obtain rfl:=de ‹_›
     obtain rfl:=cL ‹_›
     refine co (c:=false) (b:=true) (by decide) ?_
     exact ⟨hF_.set 14 rfl,hI⟩
    ·obtain rfl:=cB ‹_›
     obtain rfl:=cL ‹_›
     refine co (c:=false) (b:=true) (by decide) ?_
     exact ⟨hF_.set 15 rfl,hI⟩
    ·obtain rfl:=dk ‹_›
     obtain rfl:=cL ‹_›
     refine co (c:=false) (b:=true) (by decide) ?_
     exact ⟨hF_.set 16 rfl,hI⟩
    ·obtain rfl:=cL ‹_›
     refine co (c:=false) (b:=true) (by decide) ?_
     exact ⟨hF_.set 17 rfl,hI⟩
    ·obtain rfl:=dH ‹_›
     obtain rfl:=cL ‹_›
     refine co (c:=false) (b:=true) (by decide) ?_
     exact ⟨hF_.set 18 rfl,hI⟩
    ·obtain rfl:=eE ‹_›
     obtain rfl:=cL ‹_›
     refine co (c:=false) (b:=true) (by decide) ?_
     exact ⟨hF_.set 19 rfl,hI⟩
    ·obtain rfl:=dw ‹_›
     obtain rfl:=dS ‹_›
     obtain rfl:=cL ‹_›
     refine co (c:=false) (b:=true) (by decide) ?_
     exact ⟨hF_.set 20 rfl,hI⟩
    ·obtain rfl:=cL ‹_›
     obtain rfl:=fl ‹_›
     refine oD ?_
     exact ⟨hF_.set 21 rfl,hI⟩
    obtain ⟨rfl,rfl,rfl,rfl,rfl,rfl,rfl,rfl,rfl,rfl,rfl,rfl,rfl,rfl,rfl,rfl,rfl,rfl,rfl,rfl,rfl,rfl,_⟩:=hF_.all
    clear hF_ bR bQ bG bS bU bB bD cq ci cL bH bT cH de cB dk dw dH eE dS fl iz
    refine az (fun hb=>by cases hb) (fun hb=>?_)
    rw [hf,if_neg (by decide)]
    exact hI
   ·have hf:Hg (iG p[k].head) (iG (.mk gk gn gs gks))=decide ((p[k].head.kids.length:Int)=gks.length):=by rw [hf0,hq]; rfl
    refine ⟨fun D ji nU j9 mD iE ia jM gI lq lw fT j4 pw og lR jN lM qZ mO ur AD uo w_=>Fx D 0 [uo=.slice (some ⟨b,o,none⟩) p.length cap,AD=.int .i64 k,ur=.pointer (some ⟨b,o+k * 5,none⟩),mO=.pointer (some ⟨b,o+k * 5,none⟩),qZ=.pointer (some ⟨b,o+k * 5+2,none⟩),lM=.string p[k].head.name,jN=.pointer (some ⟨b3,2,none⟩),lR=.string gs,og=.bool true,pw=.bool true,j4=.slice (some ⟨b,o,none⟩) p.length cap,fT=.int .i64 k,lw=.pointer (some ⟨b,o+k * 5,none⟩),lq=.pointer (some ⟨b,o+k * 5,none⟩),gI=.pointer (some ⟨b,o+k * 5+3,none⟩),jM=kv,ia=.int .i64 p[k].head.kids.length,iE=.pointer (some ⟨b3,3,none⟩),mD=gv,j9=.int .i64 gks.length,nU=.bool (decide ((p[k].head.kids.length:Int)=gks.length)),ji=.bool (decide ((p[k].head.kids.length:Int)=gks.length))]/\Inv w [] [.blk b3 (.cells #[.int .i64 gk,.int .i64 gn,.string gs,gv] ab),ed t5 l] S w_,⟨Fx.nil _ _,hI.draw⟩,⟨?_,?_,?_,?_,?_,?_,?_,?_,?_,?_,?_,?_,?_,?_,?_,?_,?_,?_,?_,?_,?_,?_,trivial⟩,?_⟩
    all_goals (intro D bn; intros; rename_i ji nU j9 mD iE ia jM gI lq lw fT j4 pw og lR jN lM qZ mO ur AD uo w_ hA_; have hF_:=hA_.1; obtain ⟨⟨bR,bQ,bG,bS,bU,bB,bD,cq,ci,cL,bH,bT,cH,de,cB,dk,dw,dH,eE,dS,fl,iz,_⟩,hI⟩:=hA_)
    ·exact ⟨hF_.set 0 rfl,hI⟩
    ·exact ⟨hF_.set 1 rfl,hI⟩
    ·obtain rfl:=bR ‹_›
     obtain rfl:=bQ ‹_›
     refine ar bL hk' ?_
     exact ⟨hF_.set 2 rfl,hI⟩
    ·obtain rfl:=bG ‹_›
     refine ai cG ?_
     exact ⟨hF_.set 3 rfl,hI⟩
    ·obtain rfl:=bS ‹_›
     refine ai aO ?_
     exact ⟨hF_.set 4 rfl,hI⟩
    ·obtain rfl:=bU ‹_›
     refine ce aJ (by rw [hI.cellS hS]; exact au hcs 2 _ rfl) ?_
     exact ⟨hF_.set 5 rfl,hI⟩
    ·refine ai aO ?_
     exact ⟨hF_.set 6 rfl,hI⟩
    ·obtain rfl:=bD ‹_›
     refine aA hI 0 aJ rfl rfl ?_
     exact ⟨hF_.set 7 rfl,hI⟩
    ·obtain rfl:=bB ‹_›
     obtain rfl:=cq ‹_›
     refine bg ?_; rw [hq]
     exact ⟨hF_.set 8 rfl,hI⟩
    ·obtain rfl:=ci ‹_›
     exact ⟨hF_.set 9 rfl,hI⟩
    ·obtain rfl:=cL ‹_›
     refine bj ?_
     exact ⟨hF_.set 10 rfl,hI⟩
    ·obtain rfl:=cL ‹_›
     refine bj ?_
     exact ⟨hF_.set 11 rfl,hI⟩
    ·obtain rfl:=bH ‹_›
     obtain rfl:=bT ‹_›
     obtain rfl:=cL ‹_›
     refine bj ?_; refine ar bL hk' ?_
     exact ⟨hF_.set 12 rfl,hI⟩
    ·obtain rfl:=cH ‹_›
     obtain rfl:=cL ‹_›
     refine bj ?_; refine ai cG ?_
     exact ⟨hF_.set 13 rfl,hI⟩
    ·obtain rfl:=de ‹_›
     obtain rfl:=cL ‹_›
     refine bj ?_; refine ai al ?_
     exact ⟨hF_.set 14 rfl,hI⟩
    ·obtain rfl:=cB ‹_›
     obtain rfl:=cL ‹_›
     refine bj ?_; refine ce ah (by rw [hI.cellS hS]; exact au hcs 3 _ rfl) ?_
     exact ⟨hF_.set 15 rfl,hI⟩
    ·obtain rfl:=dk ‹_›
     obtain rfl:=cL ‹_›
     refine bj ?_; refine aC hk1 af ?_
     exact ⟨hF_.set 16 rfl,hI⟩
    ·obtain rfl:=cL ‹_›
     refine bj ?_; refine ai al ?_
     exact ⟨hF_.set 17 rfl,hI⟩
    ·obtain rfl:=dH ‹_›
     obtain rfl:=cL ‹_›
     refine bj ?_; refine aA hI 0 ah rfl rfl ?_
     exact ⟨hF_.set 18 rfl,hI⟩
    ·obtain rfl:=eE ‹_›
     obtain rfl:=cL ‹_›
     refine bj ?_; refine aC hgk af ?_
     exact ⟨hF_.set 19 rfl,hI⟩
    ·obtain rfl:=dw ‹_›
     obtain rfl:=dS ‹_›
     obtain rfl:=cL ‹_›
     refine bj ?_; refine aZ ?_
     exact ⟨hF_.set 20 rfl,hI⟩
    ·obtain rfl:=cL ‹_›
     obtain rfl:=fl ‹_›
     refine xm ?_
     exact ⟨hF_.set 21 rfl,hI⟩
    obtain ⟨rfl,rfl,rfl,rfl,rfl,rfl,rfl,rfl,rfl,rfl,rfl,rfl,rfl,rfl,rfl,rfl,rfl,rfl,rfl,rfl,rfl,rfl,_⟩:=hF_.all
    clear hF_ bR bQ bG bS bU bB bD cq ci cL bH bT cH de cB dk dw dH eE dS fl iz
    refine az (fun hb=>?_) (fun hb=>?_)
    ·refine dT hI ip rfl (by omega) (by omega) fun b w' hI=>?_
     refine eU hI 1 (k:=1) [.int .i64 k] ip (by omega) rfl rfl ?_ ?_ (by omega) (by omega) fun v' w' hI=>?_
     ·intro j u hj
      rw [hI.cellL (i:=2) rfl]
      match j with
      | 0=>simpa [Value.cells] using hj
      | j+1=>simp at hj
     ·simp [Value.oneCell']
     ·rw [yf] at hI
      have hI:=hI.pick [true,true,false]
      rw [hf,if_pos hb]
      have e:Item.row v' bZ 1 (l.length+1) (ints (l++[(k:Int)]))=ed v' (l++[(k:Int)]):=by simp [ed]
      rw [show List.length l+1=l.length+1 from rfl,e] at hI
      exact hI
    ·rw [hf,if_neg (by rw [hb]; decide)]
     exact hI
  intro t5 _ _ _ _ _ _ _ _ _ _ _ _ _ _ _ _ _ _ _ _ _ _ _ _ _ _ w' hI
  refine bl (by omega) ?_
  refine ⟨⟨k+1,_,hk',rfl,?_,?_,hI⟩,by simp [intOf]; omega⟩
  ·rw [Mj (fun c=>Hg (iG c.head) (iG (.mk gk gn gs gks))) p k hk' l,hrel]
  ·split
   ·simp; omega
   ·omega
 ·have:k=p.length:=by omega
  subst this
  rw [List.drop_length,lX,List.append_nil] at hrel
  subst hrel
  exact ⟨_,_,_,rfl,hI.pick [false,true],Ext.refl _ _ _,rfl,rfl⟩
end
section
open Go Go.RowKit
attribute [local irreducible] Run CondV aB aS
end
section
open Go Go.RowKit

theorem Inv.lendAll {w0 w:World} {X:List Nat} {A:List Item} (M:bh) {S:ae} (h:Inv w0 X (A++bt M) S w) :
  ∃ S',Sle S S'/\Ins S' M/\Inv w0 X A S' w/\∀ B w',Inv w0 X B S' w'->Inv w0 X (B++bt M) S w':=by
 obtain ⟨S',h1,h2,h3,h4⟩:=Inv.publishAll M h
 have hnd:=h.nd
 rw [cE,List.nodup_append] at hnd
 refine ⟨S',h2,h3,h1,fun B w' hB=>⟨hB.size,hB.os,hB.tape,hB.output,hB.old,fun it hit=>?_,?_,fun b hb=>?_,fun b o hb=>⟨(hB.pub b o (h2 b o hb)).1,fun hb'=>?_⟩⟩⟩
 ·rcases List.mem_append.1 hit with hit|hit
  ·exact hB.its it hit
  ·obtain ⟨p,hp,rfl⟩:=List.mem_map.1 hit
   exact (hB.pub _ _ (h3 p hp)).1
 ·rw [cE,List.nodup_append]
  refine ⟨hB.nd,hnd.2.1,fun a ha b hb e=>?_⟩
  subst e
  obtain ⟨p,hp,rfl⟩:=je.1 hb
  exact (hB.pub _ _ (h3 p hp)).2 ha
 ·rw [cE] at hb
  rcases List.mem_append.1 hb with hb|hb
  ·exact hB.new b hb
  ·exact h.new b (by rw [cE]; exact List.mem_append_right _ hb)
 ·rw [cE] at hb'
  rcases List.mem_append.1 hb' with hb'|hb'
  ·exact (hB.pub b o (h2 b o hb)).2 hb'
  ·exact (h.pub b o hb).2 (by rw [cE]; exact List.mem_append_right _ hb')
theorem Inv.openRow {w0 w:World} {X:List Nat} {A:List Item} {S:ae} {v:Value} {e:TypeId} {k n:Nat} {xs:List Value} (h:Inv w0 X (A++[.row v e k n xs]) S w) :
  xs.length=n * k/\((v=.slice none 0 0/\n=0) ∨ ∃ g cap cur,v=.slice (some ⟨g,0,none⟩) n cap/\n<=cap/\cap<=maxLen/\cur.size=cap * k/\cur.toList.take (n * k)=xs/\Inv w0 X (A++[.blk g (.cells cur e)]) S w):=by
 have hm:w.ownsRow 0 e k v n xs:=h.its (.row v e k n xs) (by simp)
 obtain ⟨hl,hm⟩:=hm
 refine ⟨hl,?_⟩
 rcases hm with hn|⟨g,cap,cur,rfl,_,hg,hnc,hcm,hcs,ht⟩
 ·exact .inl hn
 ·have hf:bC (A++[Item.blk g (.cells cur e)])=bC (A++[Item.row (.slice (some ⟨g,0,none⟩) n cap) e k n xs]):=by
   simp [bC,Item.foot,Value.ownBlock]
  refine .inr ⟨g,cap,cur,rfl,hnc,hcm,hcs,ht,h.size,h.os,h.tape,h.output,h.old,fun it hit=>?_,by rw [hf]; exact h.nd,by rw [hf]; exact h.new,by rw [hf]; exact h.pub⟩
  rcases List.mem_append.1 hit with hit|hit
  ·exact h.its it (List.mem_append_left _ hit)
  ·simp at hit
   subst hit
   exact hg
theorem Inv.closeRow {w0 w:World} {X:List Nat} {A:List Item} {S:ae} {g cap k n:Nat} {cur:Array Value} {e:TypeId} (h:Inv w0 X (A++[.blk g (.cells cur e)]) S w) (hn:n<=cap) (hc:cap<=maxLen) (hs:cur.size=cap * k) :
  Inv w0 X (A++[.row (.slice (some ⟨g,0,none⟩) n cap) e k n (cur.toList.take (n * k))]) S w:=by
 have hg:w.heap[g]?=some (.cells cur e):=h.its (.blk g (.cells cur e)) (by simp)
 have hf:bC (A++[Item.row (.slice (some ⟨g,0,none⟩) n cap) e k n (cur.toList.take (n * k))])=bC (A++[Item.blk g (.cells cur e)]):=by
  simp [bC,Item.foot,Value.ownBlock]
 refine ⟨h.size,h.os,h.tape,h.output,h.old,fun it hit=>?_,by rw [hf]; exact h.nd,by rw [hf]; exact h.new,by rw [hf]; exact h.pub⟩
 rcases List.mem_append.1 hit with hit|hit
 ·exact h.its it (List.mem_append_left _ hit)
 ·simp at hit
  subst hit
  refine ⟨?_,.inr ⟨g,cap,cur,rfl,Nat.zero_le _,hg,hn,hc,hs,rfl⟩⟩
  rw [List.length_take,Array.length_toList,hs]
  exact Nat.min_eq_left (Nat.mul_le_mul_right k hn)

section
attribute [local irreducible] Run CondV aB aS
end
end
end Go.Proofs.YtfcbhfjomgopbaaGreat

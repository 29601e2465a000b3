/- impl.mapVars with a function that only reads, and is known on the variables of the term alone: the result is published. (Printed by gen_mapv.py.) -/
import Derived.Test.YtgllldjiaglkcaaGreatDoorZMa5
import Derived.Test.YtgllldjiaglkcaaGreatDoorZMa1
import Derived.Test.YtgllldjiaglkcaaGreatDoorZMa4
import Derived.Test.YtgllldjiaglkcaaGreatDoorZMa2
import Derived.Test.YtgllldjiaglkcaaGreatDoorZMa3
namespace Go.Proofs.YtgllldjiaglkcaaGreatDoor
section
open Go Go.RowKit
def FunV (f:FuncId) (cap:List Value) (S:af) (φ:Int->T) (vs:List Int):Prop:=∀ S',Sle S S'->∀ n∈vs,0<=n->n<=25->∃ cs,RdT S' cs (φ n)/\Pure Tryz.prog f (.int .i64 n::cap) S' (.agg cs.toArray)
theorem FunV.mono {f:FuncId} {cap:List Value} {S S':af} {φ:Int->T} {vs:List Int} (h:FunV f cap S φ vs) (hs:Sle S S'):FunV f cap S' φ vs:=fun S2 h2=>h S2 (hs.trans h2)
theorem Oc {vs:List Int}:∀ {ts:List T},inL vs ts->∀ t∈ts,inT vs t
 | t::ts,h,x,hx=>by
  rw [inL] at h
  rcases bG.1 hx with rfl|hx
  ·exact h.1
  ·exact Oc h.2 x hx
section
attribute [local irreducible] Run CondV aw aN
theorem SD {f:FuncId} {fn:Func} (cap:List Value) (φ:Int->T) (vs:List Int) (hf:Tryz.prog.funcs[f]?=some fn) (hn:(fn.name == "runtime.NumGoroutine" || fn.body.isNone)=false) :
  ∀ (t:T) (S:af) (cs:List Value),RdT S cs t->okV t->inT vs t->wT t<=1048576->FunV f cap S φ vs->Tri Tryz.prog nJ [.agg cs.toArray,fv f cap] [] S (aaq (qq φ t)):=by
 refine T.ind fun k n s ks ih S cs h hv hin hw hφ=>?_
 intro w hI
 obtain ⟨kv,rfl,h1,h2,hs,hks⟩:=RdT.iff.1 h
 simp only [T.name,T.kids,T.kind,T.n] at h1 h2 hs hks ⊢
 simp only [wT] at hw
 rw [okV] at hv
 have hvk:=hv.2
 rw [inT] at hin
 have hink:=hin.2
 refine ig.2 ?_
 dsimp only[ig,aZ]
 refine bt hI fun b2 w' hI=>?_
 refine aV hI aY fun b4 w' hI=>?_
 refine ag hI 0 rfl aP aH rfl ?_
 refine bo ?_
 rw [qq]
 refine aI (fun hk1=>?_) (fun hk1=>?_)
 ·rw [ai hk1]
  obtain ⟨hn0,hn25⟩:=hv.1 hk1
  refine ag hI 0 rfl bh aH rfl ?_
  obtain ⟨ds,hds,hp⟩:=hφ S (Sle.refl S) n (hin.1 hk1) hn0 hn25
  refine Run.callVPure hf hn hI hp fun w' hI=>?_
  refine aA hI 1 rfl ad (by simpa using hds.length) rfl (by simpa using hds.one) fun w' hI=>?_
  refine bC hI 1 ad rfl (by simpa using hds.length) ?_
  exact ⟨_,_,_,rfl,hI.pick [false,false],Ext.refl _ _ _,rfl,ds,rfl,hds⟩
 rw [ah hk1]
 refine ag hI 0 rfl al aj rfl ?_
 refine dh hI 0 rfl al aj rfl rfl rfl fun w' hI=>?_
 refine aC hks ae ?_
 have hI:Inv w [] [.blk b4 (.cells #[.int .i64 0,.int .i64 0,.string ⟨#[]⟩,.slice none 0 0] ac),.blk b2 (.cells #[.int .i64 k,.int .i64 n,.string s,.slice none 0 0] ac)] S w':=hI.perm (List.Perm.swap _ _ _)
 have hI:=hI.rowNil ac 4
 refine ⟨fun i w'=>∃ (j:Nat) (kvc:Value) (css:List (List Value)) (S1:af),j<=ks.length/\i=.int .i64 j/\Ext w.heap.size [] S S1/\Rows 4 (RdT S1) css (pf φ (ks.take j))/\
   Inv w [] [.blk b4 (.cells #[.int .i64 0,.int .i64 0,.string ⟨#[]⟩,.slice none 0 0] ac),.blk b2 (.cells #[.int .i64 k,.int .i64 n,.string s,kvc] ac),aJ kvc ac 4 css] S1 w',
  fun i _=>ks.length - (intOf i).toNat,⟨0,_,[],S,be _,rfl,Ext.refl _ _ _,Rows.nil _ _,hI⟩,?_⟩
 intro t20 _ _ _ _ _ _ _ _ _ _ _ _ _ w'
 rintro ⟨j,kvc,css,S1,hj,rfl,hE,hg,hI⟩
 refine bF ?_
 refine aI (fun hji=>?_) (fun hji=>?_)
 ·have hj':j<ks.length:=by omega
  have hjl:(ks.take j).length=j:=by simp; omega
  have hcl:=hg.hc
  rw [l7,jH] at hcl
  have hm:=bA hj'
  have hwm:=jI hm
  refine cE hI (hks.monoT hE.1) ae ad hj' (fun _ _=>RdT.length) fun cs0 hcs0=>?_
  refine aV hI aY fun b7 w' hI=>?_
  have hI:=hI.perm (M:=.blk b7 _::[.blk b4 (.cells #[.int .i64 0,.int .i64 0,.string ⟨#[]⟩,.slice none 0 0] ac),.blk b2 (.cells #[.int .i64 k,.int .i64 n,.string s,kvc] ac),aJ kvc ac 4 css]) (cu (l₁:=[_]))
  refine aA hI 0 rfl ad (by simpa using hcs0.length) rfl (by simpa using hcs0.one) fun w' hI=>?_
  refine ⟨fun D v9 iq qs jL r2 lE fF kU w_=>Fx D 0 [kU=.pointer (some ⟨b2,3,none⟩),fF=kvc,lE=.agg cs0.toArray,r2=fv f cap,True,True,True,v9=.pointer (some ⟨b2,3,none⟩),True]/\∃ SN cs7 b8,Ext w.heap.size [] S1 SN/\(D 4=true->jL=.agg cs7.toArray/\RdT SN cs7 (qq φ ks[j]))/\(D 5=true->qs=.slice (some ⟨b8,0,none⟩) 1 1)/\(D 5=true->D 4=true)/\(D 6=true->D 5=true)/\(D 8=true->D 6=true)/\(D 8=true->D 1=true)/\Inv w [] (bf (.blk b7 (.cells cs0.toArray ac)) (.blk b4 (.cells #[.int .i64 0,.int .i64 0,.string ⟨#[]⟩,.slice none 0 0] ac)) (.blk b2 (.cells #[.int .i64 k,.int .i64 n,.string s,kvc] ac)) (.blk b2 (.cells #[.int .i64 k,.int .i64 n,.string s,iq] ac)) (aJ kvc ac 4 css) (aJ iq ac 4 (css++[cs7])) [] [] (.blk b8 (.cells cs7.toArray ac)) false (D 5) (D 6) (D 8)) SN w_,⟨Fx.nil _ _,⟨S1,[],0,Ext.refl _ _ _,ba,ba,ba,ba,ba,ba,by simpa [bf] using hI.draw⟩⟩,⟨?_,?_,?_,?_,?_,?_,?_,?_,?_,trivial⟩,?_⟩
  all_goals (intro D bP; intros; rename_i v9 iq qs jL r2 lE fF kU w_ hA_; have hF_:=hA_.1; obtain ⟨⟨cm,cj,cd,ci,bT,ct,bZ,cR,dq,_⟩,⟨SN,cs7,b8,hN,e7,e8,k8,k9,k11,k1,hI⟩⟩:=hA_)
  ·refine aB al ?_
   exact ⟨hF_.set 0 rfl,⟨SN,cs7,b8,hN,e7,e8,k8,k9,k11,k1,hI⟩⟩
  ·obtain rfl:=cm ‹_›
   have f11:D 8=false:=bH.2 fun h=>by rw [k1 h] at bP; cases bP
   refine aX (b:=b2) hI 2 (c:=(#[.int .i64 k,.int .i64 n,.string s,kvc])) aj (by rw [f11]; rfl) rfl ?_
   have k1:=fun (_:aF D 1 8=true)=>(rfl:aF D 1 1=true)
   exact ⟨hF_.set 1 rfl,⟨SN,cs7,b8,hN,e7,e8,k8,k9,k11,k1,hI⟩⟩
  ·refine ar hI 0 ad rfl (by simpa using hcs0.length) ?_
   exact ⟨hF_.set 2 rfl,⟨SN,cs7,b8,hN,e7,e8,k8,k9,k11,k1,hI⟩⟩
  ·exact ⟨hF_.set 3 rfl,⟨SN,cs7,b8,hN,e7,e8,k8,k9,k11,k1,hI⟩⟩
  ·obtain rfl:=cd ‹_›
   obtain rfl:=ci ‹_›
   have f8:D 5=false:=bH.2 fun h=>by rw [k8 h] at bP; cases bP
   have f9:D 6=false:=bH.2 fun h=>by rw [k9 h] at f8; cases f8
   have f11:D 8=false:=bH.2 fun h=>by rw [k11 h] at f9; cases f9
   rw [f8,f9,f11] at hI
   refine Run.callE (I:=[]) ft fy (by simpa using hI) (ih _ (bA hj') SN cs0 (hcs0.mono hN.1) (qi hvk _ (bA hj')) (Oc hink _ (bA hj')) (by omega) ((hφ.mono hE.1).mono hN.1)) fun v' I' SN w_=>?_
   rintro ⟨rfl,cs7,rfl,hT⟩ hE2 hI
   have hN:=hN.trans hE2
   have e7:aF D 4 4=true->Value.agg cs7.toArray=Value.agg cs7.toArray/\RdT SN cs7 (qq φ ks[j]):=fun _=>⟨rfl,hT⟩
   have k8:=fun (_:aF D 4 5=true)=>(rfl:aF D 4 4=true)
   have hI:Inv w [] (bf (.blk b7 (.cells cs0.toArray ac)) (.blk b4 (.cells #[.int .i64 0,.int .i64 0,.string ⟨#[]⟩,.slice none 0 0] ac)) (.blk b2 (.cells #[.int .i64 k,.int .i64 n,.string s,kvc] ac)) (.blk b2 (.cells #[.int .i64 k,.int .i64 n,.string s,iq] ac)) (aJ kvc ac 4 css) (aJ iq ac 4 (css++[cs7])) [] [] (.blk b8 (.cells cs7.toArray ac)) false (D 5) (D 6) (D 8)) SN w_:=by
    rw [f8,f9,f11]
    simpa [bf] using hI
   exact ⟨hF_.set 4 (by first|assumption|trivial),⟨SN,cs7,b8,hN,e7,e8,k8,k9,k11,k1,hI⟩⟩
  ·have Q1:=bT ‹_›
   have f9:D 6=false:=bH.2 fun h=>by rw [k9 h] at bP; cases bP
   have f11:D 8=false:=bH.2 fun h=>by rw [k11 h] at f9; cases f9
   obtain ⟨q7,hT⟩:=e7 ‹D 4=true›
   subst q7
   rw [bP,f9,f11] at hI
   refine d5 hI bj (by simp [Value.cells,hT.length]) (by omega) (by omega) fun b8 w_ hI=>?_
   have e7:aF D 5 4=true->Value.agg cs7.toArray=Value.agg cs7.toArray/\RdT SN cs7 (qq φ ks[j]):=fun _=>⟨rfl,hT⟩
   have e8:=fun (_:aF D 5 5=true)=>(rfl:Value.slice (some ⟨b8,0,none⟩) 1 1=_)
   have k8:=fun (_:aF D 5 5=true)=>‹D 4=true›
   have k9:=fun (_:aF D 5 6=true)=>(rfl:aF D 5 5=true)
   have hI:Inv w [] (bf (.blk b7 (.cells cs0.toArray ac)) (.blk b4 (.cells #[.int .i64 0,.int .i64 0,.string ⟨#[]⟩,.slice none 0 0] ac)) (.blk b2 (.cells #[.int .i64 k,.int .i64 n,.string s,kvc] ac)) (.blk b2 (.cells #[.int .i64 k,.int .i64 n,.string s,iq] ac)) (aJ kvc ac 4 css) (aJ iq ac 4 (css++[cs7])) [] [] (.blk b8 (.cells cs7.toArray ac)) false true (D 6) (D 8)) SN w_:=by
    rw [f9,f11]
    simpa [bf,Value.cells] using hI
   exact ⟨hF_.set 5 (by first|assumption|trivial),⟨SN,cs7,b8,hN,e7,e8,k8,k9,k11,k1,hI⟩⟩
  ·obtain rfl:=cj ‹_›
   have VA:=ct ‹_›
   have f11:D 8=false:=bH.2 fun h=>by rw [k11 h] at bP; cases bP
   have q8:=e8 ‹D 5=true›
   subst q8
   obtain ⟨_,hT⟩:=e7 ‹D 4=true›
   rw [‹D 5=true›,bP,f11] at hI
   have hblk:((bf (.blk b7 (.cells cs0.toArray ac)) (.blk b4 (.cells #[.int .i64 0,.int .i64 0,.string ⟨#[]⟩,.slice none 0 0] ac)) (.blk b2 (.cells #[.int .i64 k,.int .i64 n,.string s,fF] ac)) (.blk b2 (.cells #[.int .i64 k,.int .i64 n,.string s,iq] ac)) (aJ fF ac 4 css) (aJ iq ac 4 (css++[cs7])) [] [] (.blk b8 (.cells cs7.toArray ac)) false true false false))[4]?=some (.blk b8 (.cells cs7.toArray ac)):=rfl
   refine dQ hI 3 cs7 bj (by omega) rfl (by rw [hT.length]) (m:=1) (o:=0) ?_ hT.one (by omega) (by omega) fun v' w_ hI=>?_
   ·intro i u hi
    rw [hI.cellL hblk,bR]
    simpa using hi
   rw [eG] at hI
   have k9:=fun (_:aF D 6 6=true)=>‹D 5=true›
   have k11:=fun (_:aF D 6 8=true)=>(rfl:aF D 6 6=true)
   have hI:Inv w [] (bf (.blk b7 (.cells cs0.toArray ac)) (.blk b4 (.cells #[.int .i64 0,.int .i64 0,.string ⟨#[]⟩,.slice none 0 0] ac)) (.blk b2 (.cells #[.int .i64 k,.int .i64 n,.string s,fF] ac)) (.blk b2 (.cells #[.int .i64 k,.int .i64 n,.string s,v'] ac)) (aJ fF ac 4 css) (aJ v' ac 4 (css++[cs7])) [] [] (.blk b8 (.cells cs7.toArray ac)) false (D 5) true (D 8)) SN w_:=by
    rw [‹D 5=true›,f11]
    exact hI
   exact ⟨hF_.set 6 (by first|assumption|trivial),⟨SN,cs7,b8,hN,e7,e8,k8,k9,k11,k1,hI⟩⟩
  ·refine aB al ?_
   exact ⟨hF_.set 7 rfl,⟨SN,cs7,b8,hN,e7,e8,k8,k9,k11,k1,hI⟩⟩
  ·obtain rfl:=cR ‹_›
   have Q4:=bZ ‹_›
   rw [‹D 5=true›,‹D 6=true›,bP] at hI
   obtain ⟨va,vn,vc,hv9⟩:=Inv.rowSlice hI 3 rfl
   refine c8 hI 2 (n:=1) (by rw [hv9]; rfl) (by decide +kernel) rfl (by simp) (by rw [hv9]; simp [Value.cells,Value.oneCell']) fun w_ hI=>?_
   have hcl9:Value.cells iq=#[iq]:=by rw [hv9]; rfl
   rw [hcl9] at hI
   have k1:=fun (_:aF D 8 8=true)=>‹D 1=true›
   have k11:=fun (_:aF D 8 8=true)=>‹D 6=true›
   have hI:Inv w [] (bf (.blk b7 (.cells cs0.toArray ac)) (.blk b4 (.cells #[.int .i64 0,.int .i64 0,.string ⟨#[]⟩,.slice none 0 0] ac)) (.blk b2 (.cells #[.int .i64 k,.int .i64 n,.string s,kvc] ac)) (.blk b2 (.cells #[.int .i64 k,.int .i64 n,.string s,iq] ac)) (aJ kvc ac 4 css) (aJ iq ac 4 (css++[cs7])) [] [] (.blk b8 (.cells cs7.toArray ac)) false (D 5) (D 6) true) SN w_:=by
    rw [‹D 5=true›,‹D 6=true›]
    exact hI
   exact ⟨hF_.set 8 trivial,⟨SN,cs7,b8,hN,e7,e8,k8,k9,k11,k1,hI⟩⟩
  obtain ⟨rfl,rfl,rfl,rfl,Q1,VA,Q4,rfl,_,_⟩:=hF_.all
  have d4_:D 4=true:=by assumption
  have ZS:D 5=true:=by assumption
  have TH:D 6=true:=by assumption
  have LK:D 8=true:=by assumption
  clear hF_ cm cj cd ci bT ct bZ cR dq
  obtain ⟨_,hT⟩:=e7 d4_
  rw [ZS,TH,LK] at hI
  refine bq (by omega) ?_
  refine ⟨⟨j+1,iq,css++[cs7],SN,hj',rfl,hE.trans hN,?_,?_⟩,by simp [intOf]; omega⟩
  ·rw [Hl φ ks j hj']
   exact (Rows.monoR hg fun _ _ h=>h.mono hN.1).snoc hT hT.length
  ·refine hI.sub ?_
   simp only [bf]
   exact ((((MH _).cons_cons _).cons_cons _).cons_cons _).cons _
 ·have:j=ks.length:=by omega
  subst this
  rw [fk] at hg
  obtain ⟨va,vn,vc,hvk'⟩:=hI.rowSlice 2 rfl
  have hv1:kvc.oneCell'=true:=by rw [hvk']; rfl
  refine ar hI 1 ad rfl rfl ?_
  refine aA hI 0 rfl ad rfl rfl ?_ fun w' hI=>?_
  ·intro u hu
   have hu':u∈([.int .i64 k,.int .i64 n,.string s,kvc]:List Value):=hu
   simp at hu'
   rcases hu' with rfl|rfl|rfl|rfl <;> first|rfl|exact hv1
  refine bC hI 0 ad rfl rfl ?_
  have hI:Inv w [] ([]++[aJ kvc ac 4 css]) S1 w':=hI.sub (dX [_,_] _)
  obtain ⟨S2,hE2,hrd,hI⟩:=hI.lendExt
  exact ⟨_,_,_,rfl,hI,hE.trans hE2,rfl,_,rfl,RdT.iff.2 ⟨kvc,rfl,h1,h2,hs,(RowRd.rows hg hrd).mono (Sle.refl _) fun _ _ h=>h.mono hE2.1⟩⟩
end
end
section
open Go Go.RowKit
attribute [local irreducible] Run CondV aw aN
end
section
open Go Go.RowKit
attribute [local irreducible] Run CondV aw aN
end
section
open Go Go.RowKit
section
attribute [local irreducible] Run CondV aw aN
end
end
section
open Go Go.RowKit
section
variable {w:World} {K:Value->World->Prop}
attribute [local irreducible] Run
end
section
attribute [local irreducible] Run CondV aw aN
theorem RdC.zero (S:af):RdC S [.int .i64 0,.int .i64 0,.string ⟨#[]⟩,.slice none 0 0,.slice none 0 0] ⟨⟨0,0,⟨#[]⟩,[]⟩,[]⟩:=
 ⟨[.int .i64 0,.int .i64 0,.string ⟨#[]⟩,.slice none 0 0],.slice none 0 0,rfl,RdT.iff.2 ⟨_,rfl,by simp [inI,T.kind],by simp [inI,T.n],by rw [T.name]; decide +kernel,⟨none,0,rfl,aR _,be _,.inl rfl⟩⟩,⟨none,0,rfl,aR _,be _,.inl rfl⟩⟩
end
end
section
open Go Go.RowKit
mutual
def okU (N:Nat):T->Prop
 | .mk k n s ks=>k≠0/\(k=1->0<=n/\n<N/\s=emptyB/\ks=[])/\de N ks/\s.size<=6
def de (N:Nat):List T->Prop
 | []=>True
 | t::ts=>okU N t/\de N ts
end
mutual
def vT:T->List Nat
 | .mk k n _ ks=>if k=1 then [n.toNat] else vTL ks
def vTL:List T->List Nat
 | []=>[]
 | t::ts=>vT t++vTL ts
end
theorem kV {N:Nat}:∀ {ts:List T},de N ts->∀ t∈ts,okU N t
 | t::ts,h,x,hx=>by
  rw [de] at h
  rcases bG.1 hx with rfl|hx
  ·exact h.1
  ·exact kV h.2 x hx
theorem qP {N:Nat}:∀ {ts:List T},(∀ t∈ts,okU N t)->de N ts
 | [],_=>by rw [de]; trivial
 | t::ts,h=>by rw [de]; exact ⟨h t (aT ..),qP fun u hu=>h u (aS _ hu)⟩
theorem nU:∀ {ts:List T} {m:Nat},m∈vTL ts↔∃ t∈ts,m∈vT t
 | [],m=>by simp [vTL]
 | t::ts,m=>by rw [vTL,bJ,nU]; simp
theorem okU.kids {N:Nat} {t:T} (h:okU N t):de N t.kids:=by cases t; rw [okU] at h; exact h.2.2.1
theorem okU.var {N:Nat} {t:T} (h:okU N t) (hk:t.kind=1):0<=t.n/\t.n<N/\t.name=emptyB/\t.kids=[]:=by cases t; rw [okU] at h; exact h.2.1 hk
theorem okU.kind {N:Nat} {t:T} (h:okU N t):t.kind≠0:=by cases t; rw [okU] at h; exact h.1
theorem jx {t:T} (h:t.kind=1):vT t=[t.n.toNat]:=by cases t; rw [vT]; exact ai h
theorem qr {t:T} (h:t.kind≠1):vT t=vTL t.kids:=by cases t; rw [vT]; exact ah h
mutual
theorem act {N:Nat}:∀ (t:T),okU N t->∀ m∈vT t,m<N
 | .mk k n s ks,h,m,hm=>by
  rw [okU] at h
  rw [vT] at hm
  split at hm
  ·rename_i hk
   have:=h.2.1 hk
   simp at hm
   omega
  ·exact Sv ks h.2.2.1 m hm
theorem Sv {N:Nat}:∀ (ts:List T),de N ts->∀ m∈vTL ts,m<N
 | [],_,m,hm=>by simp [vTL] at hm
 | t::ts,h,m,hm=>by
  rw [de] at h
  rw [vTL,bJ] at hm
  rcases hm with hm|hm
  ·exact act t h.1 m hm
  ·exact Sv ts h.2 m hm
end
def look (st:ao) (t:T):Option T:=if t.kind=1 then (st[t.n.toNat]?).join else none
theorem dp {st:ao} {t u:T}:look st t=some u↔t.kind=1/\st[t.n.toNat]?=some (some u):=by
 unfold look
 split
 ·rename_i h
  simp only [Option.join_eq_some_iff]
  exact ⟨fun e=>⟨h,e⟩,fun e=>e.2⟩
 ·rename_i h
  simp [h]
theorem u9 {st:ao} {t:T}:look st t=none↔(t.kind=1->st[t.n.toNat]?=none ∨ st[t.n.toNat]?=some none):=by
 unfold look
 split
 ·rename_i h
  rw [Option.join_eq_none_iff]
  constructor
  ·intro e _
   rcases e with e|e
   ·exact .inl e
   ·exact .inr e
  ·intro e
   rcases e h with e|e
   ·exact .inl e
   ·exact .inr e
 ·rename_i h
  simp [h]
inductive dA (st:ao):T->T->Prop
 | stop {t:T}:look st t=none->dA st t t
 | step {t u v:T}:look st t=some u->dA st u v->dA st t v
inductive Rch (st:ao):Nat->Nat->Prop
 | refl (m:Nat):Rch st m m
 | step {m k n:Nat} {u:T}:st[m]?=some (some u)->k∈vT u->Rch st k n->Rch st m n
theorem Rch.trans {st:ao} {a b c:Nat} (h:Rch st a b) (h':Rch st b c):Rch st a c:=by
 induction h with
 | refl=>exact h'
 | step h1 h2 _ ih=>exact .step h1 h2 (ih h')
def iA (st:ao) (n:Nat) (t:T):Prop:=∃ m∈vT t,Rch st m n
structure Good (N:Nat) (st:ao):Prop where
 len:st.length=N
 ok:∀ t,some t∈st->okU N t
 w:∀ t,some t∈st->wT t<=1048576
 rk:∃ r:Nat->Nat,∀ (n:Nat) (u:T),st[n]?=some (some u)->∀ m∈vT u,r m<r n
theorem Good.look_ok {N:Nat} {st:ao} (h:Good N st) {t u:T} (hl:look st t=some u):okU N u/\wT u<=1048576:=by
 have:=b0 (dp.1 hl).2
 exact ⟨h.ok u this,h.w u this⟩
theorem ek {N:Nat} {st:ao} {t v:T} (h:Good N st) (hw:dA st t v) (ht:okU N t/\wT t<=1048576):okU N v/\wT v<=1048576:=by
 induction hw with
 | stop=>exact ht
 | step hl _ ih=>exact ih (h.look_ok hl)
theorem iZ {st:ao} {t v:T} (hw:dA st t v):look st v=none:=by
 induction hw with
 | stop h=>exact h
 | step _ _ ih=>exact ih
theorem U2 {N:Nat} {st:ao} (h:Good N st) (t:T):∃ v,dA st t v:=by
 obtain ⟨r,hr⟩:=h.rk
 have:∀ (k:Nat) (t:T),(∀ u,look st t=some u->r t.n.toNat<k)->∃ v,dA st t v:=by
  intro k
  induction k with
  | zero=>
   intro t ht
   cases hl:look st t with
   | none=>exact ⟨t,.stop hl⟩
   | some u=>have:=ht u hl; omega
  | succ k ih=>
   intro t ht
   cases hl:look st t with
   | none=>exact ⟨t,.stop hl⟩
   | some u=>
    have h1:=ht u hl
    obtain ⟨v,hv⟩:=ih u fun u' hu'=>by
     obtain ⟨hk,_⟩:=dp.1 hu'
     have:=hr _ _ (dp.1 hl).2 u.n.toNat (by rw [jx hk]; simp)
     omega
    exact ⟨v,.step hl hv⟩
 exact this (r t.n.toNat+1) t fun _ _=>Tw _
theorem Xx {st:ao} {t v:T} (hw:dA st t v) {n:Nat} (hn:∀ u,st[n]?≠some (some u)):iA st n t↔iA st n v:=by
 induction hw with
 | stop=>exact Iff.rfl
 | step hl _ ih=>
  rename_i t u v
  rw [<- ih]
  obtain ⟨hk,hs⟩:=dp.1 hl
  constructor
  ·rintro ⟨m,hm,hr⟩
   rw [jx hk,bL] at hm
   subst hm
   cases hr with
   | refl=>exact absurd hs (hn _)
   | step h1 h2 h3=>
    rw [hs,bg,bg] at h1
    subst h1
    exact ⟨_,h2,h3⟩
  ·rintro ⟨m,hm,hr⟩
   exact ⟨_,by rw [jx hk]; exact bL.2 rfl,.step hs hm hr⟩
def unb:ao->Nat
 | []=>0
 | none::st=>unb st+1
 | some _::st=>unb st
theorem u7:∀ (st:ao) (n:Nat) (t:T),st[n]?=some none->unb (st.set n (some t))+1=unb st
 | [],n,t,h=>by simp at h
 | x::st,0,t,h=>by
  simp only [LA,bg] at h
  subst h
  rfl
 | x::st,n+1,t,h=>by
  have h':st[n]?=some none:=by simpa using h
  have:=u7 st n t h'
  cases x <;> simp only [Nf,unb] <;> omega
open Classical in
theorem Good.set {N:Nat} {st:ao} (h:Good N st) {n:Nat} {t:T} (hn:st[n]?=some none) (ht:okU N t) (hw:wT t<=1048576) (ho:¬ iA st n t):Good N (st.set n (some t)):=by
 have hnl:n<st.length:=(fG.1 hn).1
 refine ⟨by rw [oc]; exact h.len,fun u hu=>?_,fun u hu=>?_,?_⟩
 ·rcases xi hu with hu|hu
  ·exact h.ok u hu
  ·rw [bg] at hu
   rw [hu]; exact ht
 ·rcases xi hu with hu|hu
  ·exact h.w u hu
  ·rw [bg] at hu
   rw [hu]; exact hw
 ·obtain ⟨r,hr⟩:=h.rk
  have hM:∀ l:List Nat,∃ M,∀ m∈l,r m<=M:=by
   intro l
   induction l with
   | nil=>exact ⟨0,by simp⟩
   | cons x l ih=>
    obtain ⟨M,hM⟩:=ih
    refine ⟨M+r x,fun m hm=>?_⟩
    rcases bG.1 hm with rfl|hm
    ·omega
    ·have:=hM m hm; omega
  obtain ⟨M,hM⟩:=hM (vT t)
  refine ⟨fun m=>if Rch st m n then r m+M+1 else r m,fun k u hku m hm=>?_⟩
  by_cases hkn:n=k
  ·subst hkn
   rw [F3 hnl,bg,bg] at hku
   subst hku
   have h1:¬ Rch st m n:=fun e=>ho ⟨m,hm,e⟩
   have h2:=hM m hm
   simp only [ah h1,ai (Rch.refl (st:=st) n)]
   omega
  ·rw [vR hkn] at hku
   have h1:=hr k u hku m hm
   by_cases hmn:Rch st m n
   ·have h2:Rch st k n:=.step hku hm hmn
    simp only [ai hmn,ai h2]
    omega
   ·simp only [ah hmn]
    split <;> omega
inductive Job where
 | one (a b:T)
 | list (xs ys:List T)
inductive Uni:ao->Job->Bool->ao->Prop
 | same {st:ao} {a b a' b':T}:dA st a a'->dA st b b'->a'.kind=1->b'.kind=1->a'.n=b'.n->Uni st (.one a b) true st
 | bindA {st:ao} {a b a' b':T}:dA st a a'->dA st b b'->a'.kind=1->¬ (b'.kind=1/\a'.n=b'.n)->¬ iA st a'.n.toNat b'->Uni st (.one a b) true (st.set a'.n.toNat (some b'))
 | occA {st:ao} {a b a' b':T}:dA st a a'->dA st b b'->a'.kind=1->¬ (b'.kind=1/\a'.n=b'.n)->iA st a'.n.toNat b'->Uni st (.one a b) false st
 | bindB {st:ao} {a b a' b':T}:dA st a a'->dA st b b'->a'.kind≠1->b'.kind=1->¬ iA st b'.n.toNat a'->Uni st (.one a b) true (st.set b'.n.toNat (some a'))
 | occB {st:ao} {a b a' b':T}:dA st a a'->dA st b b'->a'.kind≠1->b'.kind=1->iA st b'.n.toNat a'->Uni st (.one a b) false st
 | clash {st:ao} {a b a' b':T}:dA st a a'->dA st b b'->a'.kind≠1->b'.kind≠1->jM a' b'=false->Uni st (.one a b) false st
 | kids {st st':ao} {a b a' b':T} {r:Bool}:dA st a a'->dA st b b'->a'.kind≠1->b'.kind≠1->jM a' b'=true->Uni st (.list a'.kids b'.kids) r st'->Uni st (.one a b) r st'
 | nil {st:ao}:Uni st (.list [] []) true st
 | stop {st st':ao} {a b:T} {xs ys:List T}:Uni st (.one a b) false st'->Uni st (.list (a::xs) (b::ys)) false st'
 | go {st st1 st':ao} {a b:T} {xs ys:List T} {r:Bool}:Uni st (.one a b) true st1->Uni st1 (.list xs ys) r st'->Uni st (.list (a::xs) (b::ys)) r st'
def okJ (N:Nat):Job->Prop
 | .one a b=>(okU N a/\wT a<=1048576)/\(okU N b/\wT b<=1048576)
 | .list xs ys=>(∀ a∈xs,okU N a/\wT a<=1048576)/\(∀ b∈ys,okU N b/\wT b<=1048576)/\xs.length=ys.length
theorem kP {N:Nat} {t:T} (h:okU N t/\wT t<=1048576):∀ x∈t.kids,okU N x/\wT x<=1048576:=by
 intro x hx
 refine ⟨kV h.1.kids x hx,?_⟩
 have h1:=jI hx
 have h2:=h.2
 cases t
 rw [wT] at h2
 simp only [T.kids] at h1
 omega
theorem tk {a b:T} (h:jM a b=true):a.kids.length=b.kids.length:=by
 rw [jM] at h
 simp only [bw,bk] at h
 exact h.2.2.2
theorem qn {N:Nat} {st:ao} (h:Good N st) {a:T} (hk:a.kind=1) (hl:look st a=none) (ho:okU N a):st[a.n.toNat]?=some none:=by
 obtain ⟨h0,h1,_⟩:=ho.var hk
 rcases u9.1 hl hk with e|e
 ·have:=List.getElem?_eq_none_iff.1 e
  have:=h.len
  omega
 ·exact e
theorem Uni.good {N:Nat} {st st':ao} {j:Job} {r:Bool} (hu:Uni st j r st'):Good N st->okJ N j->Good N st'/\(st'=st ∨ unb st'<unb st):=by
 induction hu with
 | same=>exact fun h _=>⟨h,.inl rfl⟩
 | occA=>exact fun h _=>⟨h,.inl rfl⟩
 | occB=>exact fun h _=>⟨h,.inl rfl⟩
 | clash=>exact fun h _=>⟨h,.inl rfl⟩
 | nil=>exact fun h _=>⟨h,.inl rfl⟩
 | bindA ha hb hk hns ho=>
  rename_i a' b'
  intro h hj
  have h1:=ek h ha hj.1
  have h2:=ek h hb hj.2
  have hf:=qn h hk (iZ ha) h1.1
  have:=u7 _ _ b' hf
  exact ⟨h.set hf h2.1 h2.2 ho,.inr (by omega)⟩
 | bindB ha hb hns hk ho=>
  rename_i a' b'
  intro h hj
  have h1:=ek h ha hj.1
  have h2:=ek h hb hj.2
  have hf:=qn h hk (iZ hb) h2.1
  have:=u7 _ _ a' hf
  exact ⟨h.set hf h1.1 h1.2 ho,.inr (by omega)⟩
 | kids ha hb _ _ hd _ ih=>
  intro h hj
  exact ih h ⟨kP (ek h ha hj.1),kP (ek h hb hj.2),tk hd⟩
 | stop _ ih=>
  intro h hj
  exact ih h ⟨hj.1 _ (aT ..),hj.2.1 _ (aT ..)⟩
 | go _ _ ih1 ih2=>
  intro h hj
  obtain ⟨h1,h2⟩:=ih1 h ⟨hj.1 _ (aT ..),hj.2.1 _ (aT ..)⟩
  obtain ⟨h3,h4⟩:=ih2 h1 ⟨fun a ha=>hj.1 a (aS _ ha),fun b hb=>hj.2.1 b (aS _ hb),by have:=hj.2.2; simpa using this⟩
  refine ⟨h3,?_⟩
  rcases h2 with rfl|h2
  ·exact h4
  ·rcases h4 with rfl|h4
   ·exact .inr h2
   ·exact .inr (by omega)
open Classical in
theorem H0 {N:Nat}:∀ (U:Nat) (st:ao),Good N st->unb st<=U->∀ j,okJ N j->∃ r st',Uni st j r st':=by
 intro U
 induction U using Nat.strongRecOn with
 | _ U ihU=>
  intro st hg hU
  -- lists of terms of which each is known to have an answer
  have hlist:∀ (xs ys:List T),okJ N (.list xs ys)->(∀ a∈xs,∀ b,okJ N (.one a b)->∃ r st',Uni st (.one a b) r st')->∃ r st',Uni st (.list xs ys) r st':=by
   intro xs
   induction xs with
   | nil=>
    intro ys hj _
    have:ys=[]:=gr hj.2.2.symm
    subst this
    exact ⟨true,st,.nil⟩
   | cons a xs ih=>
    intro ys hj hP
    cases ys with
    | nil=>have:=hj.2.2; simp at this
    | cons b ys=>
     have hjab:okJ N (.one a b):=⟨hj.1 _ (aT ..),hj.2.1 _ (aT ..)⟩
     have hjl:okJ N (.list xs ys):=⟨fun a ha=>hj.1 a (aS _ ha),fun b hb=>hj.2.1 b (aS _ hb),by have:=hj.2.2; simpa using this⟩
     obtain ⟨r,st1,h1⟩:=hP a (aT ..) b hjab
     cases r with
     | false=>exact ⟨false,st1,.stop h1⟩
     | true=>
      obtain ⟨hg1,hu1⟩:=h1.good hg hjab
      rcases hu1 with rfl|hu1
      ·obtain ⟨r,st2,h2⟩:=ih ys hjl fun a ha=>hP a (aS _ ha)
       exact ⟨r,st2,.go h1 h2⟩
      ·obtain ⟨r,st2,h2⟩:=ihU (unb st1) (by omega) st1 hg1 (aR _) _ hjl
       exact ⟨r,st2,.go h1 h2⟩
  obtain ⟨rk,hrk⟩:=hg.rk
  have hone:∀ (m:Nat) (a:T),(∀ x∈vT a,∀ u,st[x]?=some (some u)->rk x<m)->∀ b,okJ N (.one a b)->∃ r st',Uni st (.one a b) r st':=by
   intro m
   induction m using Nat.strongRecOn with
   | _ m ihm=>
    refine T.ind fun k n s ks ih hr b hj=>?_
    obtain ⟨b',hb⟩:=U2 hg b
    have hbo:=ek hg hb hj.2
    cases hl:look st (.mk k n s ks) with
    | some u=>
     obtain ⟨hk,hs⟩:=dp.1 hl
     have hlt:=hr _ (by rw [jx hk]; exact bL.2 rfl) u hs
     have hju:okJ N (.one u b):=⟨hg.look_ok hl,hj.2⟩
     obtain ⟨r,st',hu⟩:=ihm _ hlt u (fun x hx _ _=>hrk _ _ hs x hx) b hju
     refine ⟨r,st',?_⟩
     cases hu with
     | same h1 h2 h3 h4 h5=>exact .same (.step hl h1) h2 h3 h4 h5
     | bindA h1 h2 h3 h4 h5=>exact .bindA (.step hl h1) h2 h3 h4 h5
     | occA h1 h2 h3 h4 h5=>exact .occA (.step hl h1) h2 h3 h4 h5
     | bindB h1 h2 h3 h4 h5=>exact .bindB (.step hl h1) h2 h3 h4 h5
     | occB h1 h2 h3 h4 h5=>exact .occB (.step hl h1) h2 h3 h4 h5
     | clash h1 h2 h3 h4 h5=>exact .clash (.step hl h1) h2 h3 h4 h5
     | kids h1 h2 h3 h4 h5 h6=>exact .kids (.step hl h1) h2 h3 h4 h5 h6
    | none=>
     have ha:dA st (.mk k n s ks) (.mk k n s ks):=.stop hl
     by_cases hk:(T.mk k n s ks).kind=1
     ·by_cases hsame:b'.kind=1/\(T.mk k n s ks).n=b'.n
      ·exact ⟨_,_,.same ha hb hk hsame.1 hsame.2⟩
      ·by_cases ho:iA st (T.mk k n s ks).n.toNat b'
       ·exact ⟨_,_,.occA ha hb hk hsame ho⟩
       ·exact ⟨_,_,.bindA ha hb hk hsame ho⟩
     ·by_cases hkb:b'.kind=1
      ·by_cases ho:iA st b'.n.toNat (T.mk k n s ks)
       ·exact ⟨_,_,.occB ha hb hk hkb ho⟩
       ·exact ⟨_,_,.bindB ha hb hk hkb ho⟩
      ·cases hd:jM (T.mk k n s ks) b' with
       | false=>exact ⟨_,_,.clash ha hb hk hkb hd⟩
       | true=>
        obtain ⟨r,st',hu⟩:=hlist ks b'.kids ⟨kP hj.1,kP hbo,tk hd⟩ fun a ha' b2 hj2=>
         ih a ha' (fun x hx u hs=>hr x (by rw [qr hk]; exact nU.2 ⟨a,ha',hx⟩) u hs) b2 hj2
        exact ⟨r,st',.kids ha hb hk hkb hd hu⟩
  have hall:∀ a b,okJ N (.one a b)->∃ r st',Uni st (.one a b) r st':=by
   intro a b hj
   have hM:∀ l:List Nat,∃ M,∀ m∈l,rk m<M:=by
    intro l
    induction l with
    | nil=>exact ⟨0,by simp⟩
    | cons x l ih=>
     obtain ⟨M,hM⟩:=ih
     refine ⟨M+rk x+1,fun m hm=>?_⟩
     rcases bG.1 hm with rfl|hm
     ·omega
     ·have:=hM m hm; omega
   obtain ⟨M,hM⟩:=hM (vT a)
   exact hone M a (fun x hx _ _=>hM x hx) b hj
  intro j hj
  cases j with
  | one a b=>exact hall a b hj
  | list xs ys=>exact hlist xs ys hj fun a _ b hjb=>hall a b hjb
inductive Ra where
 | one (t u:T)
 | list (ts us:List T)
inductive Res (st:ao):Ra->Prop
 | one {t v:T} {us:List T}:dA st t v->Res st (.list v.kids us)->Res st (.one t (.mk v.kind v.n v.name us))
 | nil:Res st (.list [] [])
 | cons {t u:T} {ts us:List T}:Res st (.one t u)->Res st (.list ts us)->Res st (.list (t::ts) (u::us))
theorem SR {N:Nat} {st:ao} (h:Good N st) (t:T) (ho:okU N t):∃ u,Res st (.one t u):=by
 obtain ⟨rk,hrk⟩:=h.rk
 have hlist:∀ ts:List T,(∀ t∈ts,∃ u,Res st (.one t u))->∃ us,Res st (.list ts us):=by
  intro ts
  induction ts with
  | nil=>exact fun _=>⟨[],.nil⟩
  | cons t ts ih=>
   intro hP
   obtain ⟨u,hu⟩:=hP t (aT ..)
   obtain ⟨us,hus⟩:=ih fun x hx=>hP x (aS _ hx)
   exact ⟨u::us,.cons hu hus⟩
 have hone:∀ (m:Nat) (a:T),(∀ x∈vT a,∀ u,st[x]?=some (some u)->rk x<m)->(okU N a)->∃ u,Res st (.one a u):=by
  intro m
  induction m using Nat.strongRecOn with
  | _ m ihm=>
   refine T.ind fun k n s ks ih hr ho=>?_
   cases hl:look st (.mk k n s ks) with
   | some u=>
    obtain ⟨hk,hs⟩:=dp.1 hl
    have hlt:=hr _ (by rw [jx hk]; exact bL.2 rfl) u hs
    obtain ⟨u',hu⟩:=ihm _ hlt u (fun x hx _ _=>hrk _ _ hs x hx) (h.look_ok hl).1
    refine ⟨u',?_⟩
    cases hu with
    | one h1 h2=>exact .one (.step hl h1) h2
   | none=>
    by_cases hk:(T.mk k n s ks).kind=1
    ·have:=(ho.var hk).2.2.2
     have e:ks=[]:=this
     subst e
     exact ⟨_,.one (.stop hl) .nil⟩
    ·obtain ⟨us,hus⟩:=hlist ks fun a ha=>ih a ha (fun x hx u hs=>hr x (by rw [qr hk]; exact nU.2 ⟨a,ha,hx⟩) u hs) (kV ho.kids a ha)
     exact ⟨_,.one (.stop hl) hus⟩
 have hM:∀ l:List Nat,∃ M,∀ m∈l,rk m<M:=by
  intro l
  induction l with
  | nil=>exact ⟨0,by simp⟩
  | cons x l ih=>
   obtain ⟨M,hM⟩:=ih
   refine ⟨M+rk x+1,fun m hm=>?_⟩
   rcases bG.1 hm with rfl|hm
   ·omega
   ·have:=hM m hm; omega
 obtain ⟨M,hM⟩:=hM (vT t)
 exact hone M t (fun x hx _ _=>hM x hx) ho
end
section
open Go Go.RowKit
def KnU (S:af) (c:Array Value) (st:ao):Prop:=st.length * 4<=c.size/\∀ i (h:i<st.length),(st[i]=none->aO c (i * 4) 4=ot)/\(∀ t,st[i]=some t->RdT S (aO c (i * 4) 4) t)
abbrev kvU (kb N kp:Nat):Value:=.slice (some ⟨kb,0,none⟩) N kp
theorem KnU.set {S:af} {c:Array Value} {st:ao} (h:KnU S c st) {n:Nat} (hn:n<st.length) {cs:List Value} {u:T} (hu:RdT S cs u):KnU S (bl c (n * 4) cs) (st.set n (some u)):=by
 have hlc:=hu.length
 have h1:=h.1
 have hs:st.length * 4<=(bl c (n * 4) cs).size:=by rw [eV _ _ _ (by omega)]; exact h1
 refine ⟨by rw [oc]; exact hs,fun i hi=>?_⟩
 rw [oc] at hi
 by_cases e:n=i
 ·subst e
  rw [QP]
  refine ⟨fun h=>(by cases h),fun t ht=>?_⟩
  simp only [bg] at ht
  subst ht
  have:=ie (c:=c) (o:=n * 4) (vs:=cs) (by omega)
  rw [hlc] at this
  rw [this]
  exact hu
 ·rw [UH e,fN (by omega) (by omega)]
  exact h.2 i hi
theorem KnU.mono {S S':af} {c:Array Value} {st:ao} (h:KnU S c st) (hs:Sle S S'):KnU S' c st:=⟨h.1,fun i hi=>⟨(h.2 i hi).1,fun t ht=>((h.2 i hi).2 t ht).mono hs⟩⟩
def QC (b:Nat) (r:Nat->Nat) (st:ao) (w:World):Nat:=
 match w.heap[b]? with
 | some (Obj.cells c _ _)=>(match c[0]?,c[1]? with
  | some (Value.int _ k),some (Value.int _ n)=>if (look st (.mk k n emptyB [])).isSome=true then r n.toNat+1 else 0
  | _,_=>0)
 | _=>0
theorem Qi {w0 w:World} {X:List Nat} {L:List Item} {S S0:af} {cs:List Value} {t:T} {E:TypeId} {b i:Nat} (hI:Inv w0 X L S w) (hi:L[i]?=some (.blk b (.cells cs.toArray E))) (h:RdT S0 cs t) (r:Nat->Nat) (st:ao) :
  QC b r st w=if (look st t).isSome=true then r t.n.toNat+1 else 0:=by
 obtain ⟨kv,rfl,_⟩:=RdT.iff.1 h
 have hb:w.heap[b]?=_:=hI.its _ (b0 hi)
 unfold QC
 rw [hb]
 obtain ⟨k,n,s,ks⟩:=t
 rfl
section
attribute [local irreducible] Run CondV aw aN
end
theorem VW (l:List Int) (n x:Int):x∈jd l n↔x∈l ∨ x=n:=by
 unfold jd
 split
 ·rename_i h
  rw [FS] at h
  constructor
  ·exact .inl
  ·rintro (h1|rfl)
   ·exact h1
   ·exact h
 ·simp
mutual
theorem Hk {N:Nat}:∀ (t:T) (l:List Int),okU N t->∀ x,x∈gF t l↔x∈l ∨ ∃ m∈vT t,x=(m:Int)
 | .mk k n s ks,l,h,x=>by
  rw [okU] at h
  rw [gF,vT]
  by_cases hk:k=1
  ·rw [ai hk,ai hk,VW]
   have:=(h.2.1 hk).1
   constructor
   ·rintro (h1|h1)
    ·exact .inl h1
    ·exact .inr ⟨n.toNat,bL.2 rfl,by omega⟩
   ·rintro (h1|⟨m,hm,e⟩)
    ·exact .inl h1
    ·rw [bL] at hm
     exact .inr (by omega)
  ·rw [ah hk,ah hk]
   exact xI ks l h.2.2.1 x
theorem xI {N:Nat}:∀ (ts:List T) (l:List Int),de N ts->∀ x,x∈dY ts l↔x∈l ∨ ∃ m∈vTL ts,x=(m:Int)
 | [],l,_,x=>by simp [dY,vTL]
 | t::ts,l,h,x=>by
  rw [de] at h
  rw [dY,vTL,xI ts _ h.2,Hk t l h.1]
  simp only [bJ]
  constructor
  ·rintro ((h|⟨m,h,e⟩)|⟨m,h,e⟩)
   ·exact .inl h
   ·exact .inr ⟨m,.inl h,e⟩
   ·exact .inr ⟨m,.inr h,e⟩
  ·rintro (h|⟨m,h|h,e⟩)
   ·exact .inl (.inl h)
   ·exact .inl (.inr ⟨m,h,e⟩)
   ·exact .inr ⟨m,h,e⟩
end
section
attribute [local irreducible] Run CondV aw aN
end
end
section
open Go Go.RowKit
def RdO (S:af) (cs:List Value):Option T->Prop
 | none=>cs=ot
 | some t=>RdT S cs t
theorem RdO.length {S:af} {cs:List Value}:∀ {x:Option T},RdO S cs x->cs.length=4
 | none,h=>by rw [h]; rfl
 | some _,h=>RdT.length h
theorem RdO.one {S:af} {cs:List Value}:∀ {x:Option T},RdO S cs x->∀ u∈cs,u.oneCell'=true
 | none,h=>by rw [h]; simp [ot,Value.oneCell']
 | some _,h=>RdT.one h
theorem RdO.mono {S S':af} {cs:List Value} (hs:Sle S S'):∀ {x:Option T},RdO S cs x->RdO S' cs x
 | none,h=>h
 | some _,h=>RdT.mono hs h
theorem KnU.rdO {S:af} {c:Array Value} {st:ao} (h:KnU S c st) (i:Nat) (hi:i<st.length):RdO S (aO c (i * 4) 4) st[i]:=by
 cases hs:st[i] with
 | none=>exact (h.2 i hi).1 hs
 | some t=>exact (h.2 i hi).2 t hs
theorem KnU.of {S:af} {c:Array Value} {st:ao} (hs:st.length * 4<=c.size) (h:∀ i (hi:i<st.length),RdO S (aO c (i * 4) 4) st[i]):KnU S c st:=
 ⟨hs,fun i hi=>⟨fun e=>by have:=h i hi; rw [e] at this; exact this,fun t e=>by have:=h i hi; rw [e] at this; exact this⟩⟩
theorem KnU.rd {S S':af} {c:Array Value} {st:ao} {b cap:Nat} {E:TypeId} {fz:Nat × Nat} (h:KnU S c st) (hS:S' b=some (.cells c E fz)) (h1:st.length<=cap) (h2:cap<=maxLen):RdSl S' 4 (RdO S) (.slice (some ⟨b,0,none⟩) st.length cap) st:=
 ⟨_,cap,rfl,h1,h2,.inr ⟨b,0,c,E,fz,rfl,hS,fun i hi=>by rw [bR]; exact h.rdO i hi⟩⟩
theorem Rows.knu {S:af} {css:List (List Value)} {st:ao} {c:Array Value} (h:Rows 4 (RdO S) css st) (hs:st.length * 4<=c.size) (hc:c.toList.take (css.length * 4)=css.flatten):KnU S c st:=by
 refine KnU.of hs fun i hi=>?_
 have hcy:=h.hc
 have:=gK 4 css i h.hk (by omega)
 rw [<- hc,Lc,mJ,kD (by omega)] at this
 rw [aO,this]
 exact h.hR i hi (by omega)
section
variable {w w0:World} {X:List Nat} {A:List Item} {S:af}
theorem Inv.tab {v:Value} {e:TypeId} {css:List (List Value)} {S1:af} {st:ao} (h:Inv w0 X (A++[aJ v e 4 css]) S w) (hR:Rows 4 (RdO S1) css st) (h0:0<st.length) :
  ∃ g cap cur,v=kvU g st.length cap/\st.length<=cap/\cap<=maxLen/\KnU S1 cur st/\Inv w0 X (A++[.blk g (.cells cur e)]) S w:=by
 have hcy:=hR.hc
 obtain ⟨hl,ho⟩:=Inv.openRow h
 rcases ho with ⟨rfl,h1⟩|⟨g,cap,cur,rfl,hnc,hcm,hcs,ht,hI⟩
 ·omega
 ·rw [hcy] at hnc
  exact ⟨g,cap,cur,by rw [hcy],hnc,hcm,hR.knu (by rw [hcs]; exact jr 4 hnc) ht,hI⟩
end
end
section
open Go Go.RowKit
def wN:List Int->Int->Int
 | [],m=>m
 | x::xs,m=>wN xs (if m<=x then x+1 else m)
def tH (c:C):Int:=wN (dY (c.head::c.body) []) 0
theorem K6:∀ (l:List Int) (m:Int),m<=wN l m/\∀ x∈l,x<wN l m
 | [],m=>⟨KE _,fun _ h=>by cases h⟩
 | y::l,m=>by
  have hm:m<=(if m<=y then y+1 else m)/\y<(if m<=y then y+1 else m):=by split <;> omega
  rw [wN]
  generalize (if m<=y then y+1 else m)=m' at hm ⊢
  obtain ⟨h1,h2⟩:=K6 l m'
  refine ⟨by omega,fun x hx=>?_⟩
  rcases bG.1 hx with rfl|hx
  ·omega
  ·exact h2 x hx
theorem KN (N:Int):∀ (l:List Int) (m:Int),m<=N->(∀ x∈l,x<N)->wN l m<=N
 | [],m,h,_=>h
 | y::l,m,h,hx=>by
  rw [wN]
  refine KN N l _ ?_ fun x h=>hx x (aS _ h)
  have:=hx y (aT ..)
  split <;> omega
section
attribute [local irreducible] Run CondV aw aN
end
end
section
open Go Go.RowKit
inductive Chain (Call:ao->T->T->Bool->ao->Prop):ao->List T->List T->Bool->ao->Prop
 | nil {st:ao}:Chain Call st [] [] true st
 | stop {st st':ao} {a b:T} {xs ys:List T}:Call st a b false st'->Chain Call st (a::xs) (b::ys) false st'
 | go {st st1 st':ao} {a b:T} {xs ys:List T} {r:Bool}:Call st a b true st1->Chain Call st1 xs ys r st'->Chain Call st (a::xs) (b::ys) r st'
theorem Chain.head {Call:ao->T->T->Bool->ao->Prop} {st st':ao} {a b:T} {xs ys:List T} {r:Bool} (h:Chain Call st (a::xs) (b::ys) r st') :
  ∃ r1 st1,Call st a b r1 st1/\(r1=false->r=false/\st'=st1)/\(r1=true->Chain Call st1 xs ys r st'):=by
 cases h with
 | stop h=>exact ⟨false,_,h,fun _=>⟨rfl,rfl⟩,fun e=>(by cases e)⟩
 | go h h'=>exact ⟨true,_,h,fun e=>(by cases e),fun _=>h'⟩
theorem Chain.done {Call:ao->T->T->Bool->ao->Prop} {st st':ao} {r:Bool} (h:Chain Call st [] [] r st'):r=true/\st'=st:=by
 cases h
 exact ⟨rfl,rfl⟩
def aaB (Call:ao->T->T->Bool->ao->Prop) (st:ao) (a' b':T) (r:Bool) (st':ao):Prop:=
 (a'.kind=1/\b'.kind=1/\a'.n=b'.n/\r=true/\st'=st) ∨
 (a'.kind=1/\¬ (b'.kind=1/\a'.n=b'.n)/\((¬ iA st a'.n.toNat b'/\r=true/\st'=st.set a'.n.toNat (some b')) ∨ (iA st a'.n.toNat b'/\r=false/\st'=st))) ∨
 (a'.kind≠1/\b'.kind=1/\((¬ iA st b'.n.toNat a'/\r=true/\st'=st.set b'.n.toNat (some a')) ∨ (iA st b'.n.toNat a'/\r=false/\st'=st))) ∨
 (a'.kind≠1/\b'.kind≠1/\((jM a' b'=false/\r=false/\st'=st) ∨ (jM a' b'=true/\Chain Call st a'.kids b'.kids r st')))
theorem Uni.calls {N:Nat} {Call:ao->T->T->Bool->ao->Prop} (hcall:∀ st a b a' b' r st',Good N st->okJ N (.one a b)->dA st a a'->dA st b b'->aaB Call st a' b' r st'->Call st a b r st') {st st':ao} {j:Job} {r:Bool} (hu:Uni st j r st') :
  Good N st->okJ N j->match j with
   | .one a b=>Call st a b r st'
   | .list xs ys=>Chain Call st xs ys r st':=by
 induction hu with
 | same h1 h2 h3 h4 h5=>exact fun hg hj=>hcall _ _ _ _ _ _ _ hg hj h1 h2 (.inl ⟨h3,h4,h5,rfl,rfl⟩)
 | bindA h1 h2 h3 h4 h5=>exact fun hg hj=>hcall _ _ _ _ _ _ _ hg hj h1 h2 (.inr (.inl ⟨h3,h4,.inl ⟨h5,rfl,rfl⟩⟩))
 | occA h1 h2 h3 h4 h5=>exact fun hg hj=>hcall _ _ _ _ _ _ _ hg hj h1 h2 (.inr (.inl ⟨h3,h4,.inr ⟨h5,rfl,rfl⟩⟩))
 | bindB h1 h2 h3 h4 h5=>exact fun hg hj=>hcall _ _ _ _ _ _ _ hg hj h1 h2 (.inr (.inr (.inl ⟨h3,h4,.inl ⟨h5,rfl,rfl⟩⟩)))
 | occB h1 h2 h3 h4 h5=>exact fun hg hj=>hcall _ _ _ _ _ _ _ hg hj h1 h2 (.inr (.inr (.inl ⟨h3,h4,.inr ⟨h5,rfl,rfl⟩⟩)))
 | clash h1 h2 h3 h4 h5=>exact fun hg hj=>hcall _ _ _ _ _ _ _ hg hj h1 h2 (.inr (.inr (.inr ⟨h3,h4,.inl ⟨h5,rfl,rfl⟩⟩)))
 | kids h1 h2 h3 h4 h5 _ ih=>
  exact fun hg hj=>hcall _ _ _ _ _ _ _ hg hj h1 h2 (.inr (.inr (.inr ⟨h3,h4,.inr ⟨h5,ih hg ⟨kP (ek hg h1 hj.1),kP (ek hg h2 hj.2),tk h5⟩⟩⟩)))
 | nil=>exact fun _ _=>.nil
 | stop _ ih=>exact fun hg hj=>.stop (ih hg ⟨hj.1 _ (aT ..),hj.2.1 _ (aT ..)⟩)
 | go h1 _ ih1 ih2=>
  intro hg hj
  have hj1:okJ N (.one _ _):=⟨hj.1 _ (aT ..),hj.2.1 _ (aT ..)⟩
  exact .go (ih1 hg hj1) (ih2 (h1.good hg hj1).1 ⟨fun a ha=>hj.1 a (aS _ ha),fun b hb=>hj.2.1 b (aS _ hb),by have:=hj.2.2; simpa using this⟩)
section
attribute [local irreducible] Run CondV aw aN
set_option maxHeartbeats 1000000 in
end
end
section
open Go Go.RowKit
mutual
def V1:T->Int->Bool
 | .mk _ _ _ ks,d=>if d<1 then false else Vc ks (d - 1)
def Vc:List T->Int->Bool
 | [],_=>true
 | t::ts,d=>V1 t d && Vc ts d
end
theorem HZ:∀ (ts:List T) (d:Int),Vc ts d=ts.all fun t=>V1 t d
 | [],_=>rfl
 | t::ts,d=>by rw [Vc,HZ ts d]; rfl
def cq (u:T):Bool:=decide (eq u<=120) && V1 u 30
theorem V5 (us:List T) (j:Nat) (h:j<us.length):cY (us.take (j+1))=cY (us.take j)+eq us[j]:=by
 induction us generalizing j with
 | nil=>simp at h
 | cons u us ih=>
  cases j with
  | zero=>simp only [mN,ML,mF,cY]; omega
  | succ j=>
   have:=ih j (by simpa using h)
   simp only [mN,Kj,cY] at *
   omega
theorem LO (us:List T) (j:Nat):cY (us.take j)<=cY us:=by
 induction us generalizing j with
 | nil=>simp
 | cons u us ih=>
  cases j with
  | zero=>simp only [ML]; exact eN _
  | succ j=>
   have:=ih j
   simp only [mN,cY]
   omega
theorem NK (k n:Int) (s:ByteArray) (ks:List T):eq (.mk k n s ks)=1+cY ks:=rfl
theorem FU {w:World} {v:Value} {e:TypeId} {k n:Nat} {xs:List Value} (h:(Item.row v e k n xs).holds w):v.cells=#[v]/\v.oneCell'=true:=by
 have h:w.ownsRow 0 e k v n xs:=h
 rcases h.2 with ⟨rfl,_⟩|⟨g,cap,cur,rfl,_⟩ <;> exact ⟨rfl,rfl⟩
section
attribute [local irreducible] Run CondV aw aN
theorem yu {K:Value->World->Prop} {w:World} (hk:K (.agg #[.int .i64 0,.int .i64 0,.string ⟨#[]⟩,.slice none 0 0]) w):Run Tryz.prog (cU ac []) w K:=by
 refine Run.of ?_ hk
 kernel_rfl
theorem yq:∀ x∈([.int .i64 0,.int .i64 0,.string ⟨#[]⟩,.slice none 0 0]:List Value),x.oneCell'=true:=by simp [Value.oneCell']
end
end
section
open Go Go.RowKit
mutual
def cW (m:Int):T->T
 | .mk k n s ks=>.mk k (if k=1 then n+m else n) s (gj m ks)
def gj (m:Int):List T->List T
 | []=>[]
 | t::ts=>cW m t::gj m ts
end
theorem qI (m:Int):∀ ts:List T,gj m ts=ts.map (cW m)
 | []=>rfl
 | t::ts=>by rw [gj,qI m ts]; rfl
section
attribute [local irreducible] Run CondV aw aN
end
end
section
open Go Go.RowKit
def RdG (S:af) (cs:List Value) (g:T × Int):Prop:=∃ hd,cs=hd++[.int .i64 g.2]/\RdT S hd g.1
theorem RdG.length {S:af} {cs:List Value} {g:T × Int} (h:RdG S cs g):cs.length=5:=by
 obtain ⟨hd,rfl,h⟩:=h; simp [h.length]
theorem RdG.one {S:af} {cs:List Value} {g:T × Int} (h:RdG S cs g):∀ u∈cs,u.oneCell'=true:=by
 obtain ⟨hd,rfl,h⟩:=h
 intro u hu
 rcases bJ.1 hu with hu|hu
 ·exact h.one u hu
 ·rw [bL] at hu; subst hu; rfl
theorem RdG.mono {S S':af} {cs:List Value} {g:T × Int} (hs:Sle S S') (h:RdG S cs g):RdG S' cs g:=by
 obtain ⟨hd,rfl,h⟩:=h; exact ⟨hd,rfl,h.mono hs⟩
theorem RdSl.monoG {S S':af} {v:Value} {gs:List (T × Int)} (hs:Sle S S') (h:RdSl S 5 (RdG S) v gs):RdSl S' 5 (RdG S') v gs:=h.mono hs fun _ _=>RdG.mono hs
section
variable {w:World} {K:Value->World->Prop}
attribute [local irreducible] Run
end
section
attribute [local irreducible] Run CondV aw aN
end
end
section
open Go Go.RowKit
theorem Po {s:ByteArray} (h:lN s=true):s.size<=6:=by
 rw [lN,jC] at h
 rcases h with h|h
 ·rw [mM] at h
  simp only [bw,bk] at h
  exact h.2.2
 ·simp only [Gq,bk] at h
  obtain ⟨x,hx,rfl⟩:=h
  have:∀ y∈signs,y.size<=6:=by decide +kernel
  exact this x hx
theorem Rc {t:T} (h:dS t=true):t.name.size<=6:=by
 unfold dS at h
 have he:emptyB.size=0:=by decide +kernel
 by_cases e1:t.kind=1
 ·rw [ai e1] at h
  simp only [bw,bk] at h
  rw [h.2.2.1]; omega
 ·rw [ah e1] at h
  by_cases e2:t.kind=2
  ·rw [ai e2] at h
   simp only [bw,bk] at h
   rw [h.2.2.1]; omega
  ·rw [ah e2] at h
   by_cases e3:t.kind=3
   ·rw [ai e3] at h
    simp only [bw,bk] at h
    exact Po h.2.1
   ·rw [ah e3] at h
    cases h
theorem Ee:emptyB.size<=6:=by decide +kernel
mutual
theorem Ke:∀ (t:T) (d:Int),d6 t d=true->okU 26 t
 | .mk k n s ks,d,h=>by
  rw [d6] at h
  split at h
  ·cases h
  ·rw [bw] at h
   have h1:=HV h.1
   have h2:=fun hk=>WG h.1 hk
   have h3:=Rc h.1
   rw [okU]
   refine ⟨h1.2,fun hk=>?_,Hg ks _ h.2,h3⟩
   have h4:=h1.1 hk
   have h5:=h2 hk
   simp only [T.n] at h4
   simp only [T.name,T.kids] at h5
   exact ⟨h4.1,by omega,h5.1,gr h5.2⟩
theorem Hg:∀ (ts:List T) (d:Int),d4 ts d=true->de 26 ts
 | [],_,_=>by rw [de]; trivial
 | t::ts,d,h=>by
  rw [d4,bw] at h
  rw [de]
  exact ⟨Ke t d h.1,Hg ts d h.2⟩
end
theorem jZ {t:T} (h:cn t=true):okU 26 t:=Ke t 30 (lk h)
theorem gc {c:C} (h:bN c=true):okU 26 c.head/\(∀ t∈c.body,okU 26 t)/\c.body.length<=6:=by
 rw [bN] at h
 simp only [bw,dE,bk] at h
 refine ⟨jZ h.2.2.1,fun t ht=>?_,h.1⟩
 have:=h.2.1 t ht
 rw [eX,bw] at this
 exact jZ this.1
mutual
theorem gZ {N M:Nat} (h:N<=M):∀ t:T,okU N t->okU M t
 | .mk k n s ks,ht=>by
  rw [okU] at ht ⊢
  refine ⟨ht.1,fun hk=>?_,T0 h ks ht.2.2.1,ht.2.2.2⟩
  have:=ht.2.1 hk
  exact ⟨this.1,by omega,this.2.2⟩
theorem T0 {N M:Nat} (h:N<=M):∀ ts:List T,de N ts->de M ts
 | [],_=>by rw [de]; trivial
 | t::ts,ht=>by
  rw [de] at ht ⊢
  exact ⟨gZ h t ht.1,T0 h ts ht.2⟩
end
mutual
theorem md {N:Nat} (m:Nat):∀ t:T,okU N t->okU (N+m) (cW m t)
 | .mk k n s ks,ht=>by
  rw [okU] at ht
  rw [cW,okU]
  refine ⟨ht.1,fun hk=>?_,xd m ks ht.2.2.1,ht.2.2.2⟩
  have:=ht.2.1 hk
  rw [ai hk]
  refine ⟨by omega,by omega,this.2.2.1,?_⟩
  rw [this.2.2.2,gj]
theorem xd {N:Nat} (m:Nat):∀ ts:List T,de N ts->de (N+m) (gj m ts)
 | [],_=>by rw [gj,de]; trivial
 | t::ts,ht=>by
  rw [de] at ht
  rw [gj,de]
  exact ⟨md m t ht.1,xd m ts ht.2⟩
end
mutual
theorem pz (m:Int):∀ t:T,wT (cW m t)=wT t
 | .mk k n s ks=>by
  rw [cW,wT,wT,OQ m ks]
  rw [qI,jH]
theorem OQ (m:Int):∀ ts:List T,wL (gj m ts)=wL ts
 | []=>rfl
 | t::ts=>by rw [gj,wL,wL,pz m t,OQ m ts]
end
mutual
theorem RU {N:Nat}:∀ t:T,okU N t->(wT t:Int)+1<=7 * eq t
 | .mk k n s ks,h=>by
  rw [okU] at h
  have h1:=XN ks h.2.2.1
  rw [wT,NK]
  omega
theorem XN {N:Nat}:∀ ts:List T,de N ts->(wL ts:Int)+ts.length<=7 * cY ts
 | [],_=>by simp [wL,cY]
 | t::ts,h=>by
  rw [de] at h
  have h1:=RU t h.1
  have h2:=XN ts h.2
  rw [wL,cY,bu]
  omega
end
theorem Ih {N:Nat} {st:ao} {t v:T} (h:Good N st) (hw:dA st t v) (ht:okU N t):okU N v:=by
 induction hw with
 | stop=>exact ht
 | step hl _ ih=>exact ih (h.look_ok hl).1
theorem l0 {N:Nat} {st:ao} (hg:Good N st) {j:Ra} (hr:Res st j):match j with
  | .one t u=>okU N t->okU N u
  | .list ts us=>de N ts->de N us/\us.length=ts.length:=by
 induction hr with
 | one hw hl ih=>
  rename_i t v us
  intro ho
  have hv:=Ih hg hw ho
  obtain ⟨h1,h2⟩:=ih hv.kids
  obtain ⟨k,n,s,ks⟩:=v
  have hv2:=hv
  rw [okU] at hv2
  show okU N (.mk k n s us)
  rw [okU]
  refine ⟨hv2.1,fun hk=>?_,h1,hv2.2.2.2⟩
  have h3:=hv2.2.1 hk
  refine ⟨h3.1,h3.2.1,h3.2.2.1,?_⟩
  simp only [T.kids] at h2
  exact gr (by rw [h2,h3.2.2.2]; rfl)
 | nil=>exact fun h=>⟨h,rfl⟩
 | cons _ _ ih1 ih2=>
  intro ho
  rw [de] at ho
  obtain ⟨h1,h2⟩:=ih2 ho.2
  rw [de]
  exact ⟨⟨ih1 ho.1,h1⟩,by simp [h2]⟩
theorem yR {N:Nat} {st:ao} (h:Good N st):∀ ts:List T,de N ts->∃ us,Res st (.list ts us)
 | [],_=>⟨[],.nil⟩
 | t::ts,ho=>by
  rw [de] at ho
  obtain ⟨u,hu⟩:=SR h t ho.1
  obtain ⟨us,hus⟩:=yR h ts ho.2
  exact ⟨u::us,.cons hu hus⟩
theorem Ij {st:ao}:∀ {ts us:List T},Res st (.list ts us)->∀ i (h:i<ts.length) (h':i<us.length),Res st (.one ts[i] us[i])
 | _,_,.cons hu _,0,_,_=>hu
 | _,_,.cons _ hus,i+1,h,h'=>Ij hus i (by simpa using h) (by simpa using h')
mutual
theorem Le {N:Nat}:∀ (t:T) (l:List Int),okU N t->gF t l=eI t l
 | .mk k n s ks,l,h=>by
  rw [okU] at h
  rw [gF,eI]
  split
  ·rename_i hk
   rw [(h.2.1 hk).2.2.2,bM]
  ·exact Gn ks l h.2.2.1
theorem Gn {N:Nat}:∀ (ts:List T) (l:List Int),de N ts->dY ts l=bM ts l
 | [],l,_=>by rw [dY,bM]
 | t::ts,l,h=>by
  rw [de] at h
  rw [dY,bM,Le t l h.1,Gn ts _ h.2]
end
def stU:ao:=List.replicate 52 none
theorem GN:Good 52 stU:=⟨by simp [stU],fun t ht=>by simp [stU] at ht,fun t ht=>by simp [stU] at ht,fun n=>n,fun n u hu=>by
 have:=b0 hu
 simp [stU] at this⟩
def Kd (c d:C):List T:=c.head::(gj 26 d.body++c.body.drop 1)
def ofL:List T->C
 | []=>⟨⟨0,0,⟨#[]⟩,[]⟩,[]⟩
 | t::ts=>⟨t,ts⟩
def RO (c d:C) (o:Option (Option C)):Prop:=∃ r st,Uni stU (.one (c.body.headD ⟨0,0,⟨#[]⟩,[]⟩) (cW 26 d.head)) r st/\
 ((r=false/\o=none) ∨ (r=true/\∃ us,Res st (.list (Kd c d) us)/\((us.all cq=false/\o=some none) ∨ (us.all cq=true/\o=some (some (Zf (aal (ofL us)) (ofL us)))))))
theorem P4 {N:Nat} {ts us:List T} (h:de N ts) (h':de N us):de N (ts++us):=
 qP fun t ht=>by
  rcases bJ.1 ht with ht|ht
  ·exact kV h t ht
  ·exact kV h' t ht
theorem Od {c d:C} (hc:bN c=true) (hd:bN d=true):de 52 (Kd c d):=by
 obtain ⟨c1,c2,_⟩:=gc hc
 obtain ⟨d1,d2,_⟩:=gc hd
 rw [Kd,de]
 exact ⟨gZ (by decide) _ c1,P4 (xd 26 _ (qP d2)) (qP fun t ht=>gZ (by decide) _ (c2 t (xt ht)))⟩
theorem Lq {c d:C} (hc:bN c=true) (hd:bN d=true) (hwc:wC c<=1048576) (hwd:wC d<=1048576) (hb:c.body≠[]):okJ 52 (.one (c.body.headD ⟨0,0,⟨#[]⟩,[]⟩) (cW 26 d.head)):=by
 obtain ⟨c1,c2,_⟩:=gc hc
 obtain ⟨d1,d2,_⟩:=gc hd
 unfold wC at hwc hwd
 cases hcb:c.body with
 | nil=>exact absurd hcb hb
 | cons t ts=>
  rw [List.headD_cons]
  have hm:t∈c.body:=by rw [hcb]; exact aT ..
  have:=Uy hm
  exact ⟨⟨gZ (by decide) _ (c2 t hm),by omega⟩,⟨md 26 _ d1,by rw [pz]; omega⟩⟩
theorem RO.ex {c d:C} (hc:bN c=true) (hd:bN d=true) (hwc:wC c<=1048576) (hwd:wC d<=1048576) (hb:c.body≠[]):∃ o,RO c d o:=by
 have hj:=Lq hc hd hwc hwd hb
 obtain ⟨r,st,hu⟩:=H0 (unb stU) stU GN (aR _) _ hj
 cases r with
 | false=>exact ⟨none,false,st,hu,.inl ⟨rfl,rfl⟩⟩
 | true=>
  obtain ⟨us,hus⟩:=yR (hu.good GN hj).1 (Kd c d) (Od hc hd)
  cases hs:us.all cq with
  | false=>exact ⟨some none,true,st,hu,.inr ⟨rfl,us,hus,.inl ⟨hs,rfl⟩⟩⟩
  | true=>exact ⟨_,true,st,hu,.inr ⟨rfl,us,hus,.inr ⟨hs,rfl⟩⟩⟩
theorem gG {N:Nat} {u:T} (h:cq u=true) (ho:okU N u):wT u<=840:=by
 rw [cq,bw,bk] at h
 have:=RU u ho
 omega
theorem N5 {N:Nat}:∀ {us:List T},us.all cq=true->de N us->wL us<=us.length * 840
 | [],_,_=>by simp [wL]
 | u::us,h,ho=>by
  rw [Pp,bw] at h
  rw [de] at ho
  have h1:=gG h.1 ho.1
  have h2:=N5 h.2 ho.2
  rw [wL,bu,lu]
  omega
theorem Vf {c d:C} (hc:bN c=true) (hd:bN d=true):(Kd c d).length<=13:=by
 obtain ⟨_,_,c3⟩:=gc hc
 obtain ⟨_,_,d3⟩:=gc hd
 rw [Kd,bu,bx,qI,jH,vY]
 omega
end
end Go.Proofs.YtgllldjiaglkcaaGreatDoor

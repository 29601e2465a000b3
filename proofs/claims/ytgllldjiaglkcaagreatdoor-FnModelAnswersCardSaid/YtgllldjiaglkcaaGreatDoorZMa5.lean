/- spec.l16Put, l16Has. -/
import Derived.Test.YtgllldjiaglkcaaGreatDoorZMa3
import Derived.Test.YtgllldjiaglkcaaGreatDoorZMa4
import Derived.Test.YtgllldjiaglkcaaGreatDoorZMa0
import Derived.Test.YtgllldjiaglkcaaGreatDoorZMa2
namespace Go.Proofs.YtgllldjiaglkcaaGreatDoor
section
open Go Go.RowKit
abbrev WJ (ys:List T):Value->List Item->af->Prop:=fun r I' S'=>I'=[]/\RdSl S' 4 (RdT S') r ys
theorem GY (l:List T) (t:T) (j:Nat) (h:j<l.length) (hc:dH l[j] t<0):fg (l.drop j) t=l[j]::fg (l.drop (j+1)) t:=by
 rw [cZ h,fg,ai hc]
theorem Cc (l:List T) (t:T) (j:Nat) (h:j<l.length) (hc:¬ dH l[j] t<0):fg (l.drop j) t=if eqT l[j] t=true then l.drop j else t::l.drop j:=by
 rw [cZ h,fg,ah hc]
section
attribute [local irreducible] Run CondV aw aN
theorem OJ {l:List T} {t:T} {S:af} {v:Value} {cs:List Value} {w w0:World} {b3:Nat} {K:Value->World->Prop} (j:Nat) (hI:Inv w0 [] [.blk b3 (.cells cs.toArray ac)] S w) (h:RdSl S 4 (RdT S) v l) (hcs:RdT S cs t) (hj:j<=l.length) (hn:l.length<=1000000)
  (hk:∀ r S' w',Ext w0.heap.size [] S S'->RdSl S' 4 (RdT S') r (l.take j++t::l.drop j)->Inv w0 [] [] S' w'->K r w') :
  Run Tryz.prog (bE cr 0 []) w fun t35 w52=>
  Run Tryz.prog (sOp (.slice cr (.const v) none (some (.const (.int .i64 j))) none) cr) w52 fun t38 w53=>
  Run Tryz.prog (bD .append #[cr,cr] cr [false,false] [t35,t38]) w53 fun t39 w54=>
  Run Tryz.prog (sOp (.load ac (.const (.pointer (some ⟨b3,0,none⟩)))) ac) w54 fun t41 w55=>
  Run Tryz.prog (bE cr 1 [(0,t41)]) w55 fun t42 w56=>
  Run Tryz.prog (bD .append #[cr,cr] cr [false,false] [t39,t42]) w56 fun t43 w57=>
  Run Tryz.prog (sOp (.slice cr (.const v) (some (.const (.int .i64 j))) none none) cr) w57 fun t47 w58=>
  Run Tryz.prog (bD .append #[cr,cr] cr [false,false] [t43,t47]) w58 fun t48 w59=>
  K t48 w59:=by
 have hlc:=hcs.length
 refine eQ hI bj fun v0 w hI=>?_
 refine VK ae h hj fun v1 h1=>?_
 refine mt hI 1 (css:=[]) bj (by omega) rfl h1 (fun _ _=>RdT.length) (fun _ _=>RdT.one) (by simp; omega) (by omega) fun v2 w c1 hR1 hI=>?_
 have hI:Inv w0 [] [.blk b3 (.cells cs.toArray ac),aJ v2 ac 4 c1] S w:=by simpa using hI
 have hc1:=hR1.hc
 simp only [dK] at hc1
 refine ar hI 0 ad rfl (by simpa using hlc) ?_
 refine dD hI 1 cs bj (by omega) (by omega) rfl hlc hcs.one (by omega) (by omega) fun v3 w hI=>?_
 have hR2:=hR1.snoc hcs hlc
 refine uR ae h hj fun v4 h4=>?_
 refine mt hI 1 (css:=c1++[cs]) bj (by omega) rfl h4 (fun _ _=>RdT.length) (fun _ _=>RdT.one) (by simp; omega) (by omega) fun v5 w c2 hR3 hI=>?_
 have hR:=hR2.append hR3
 have hI:Inv w0 [] ([.blk b3 (.cells cs.toArray ac)]++[aJ v5 ac 4 ((c1++[cs])++c2)]) S w:=hI
 obtain ⟨S',hE,hrd,hI⟩:=hI.lendExt
 have hr:RdSl S' 4 (RdT S') v5 ((l.take j++[t])++l.drop j):=(RowRd.rows hR hrd).mono (Sle.refl _) fun _ _ h=>h.mono hE.1
 rw [eW] at hr
 exact hk _ _ _ hE hr (hI.pick [false])
theorem NH {l:List T} {t:T} {S:af} {v:Value} {cs:List Value} (h:RdSl S 4 (RdT S) v l) (hcs:RdT S cs t) (hl:∀ x∈l,okO x) (ht:okO t) (hn:l.length<=1000000) :
  Tri Tryz.prog Ru [v,.agg cs.toArray] [] S (WJ (fg l t)):=by
 intro w hI
 have hlc:=hcs.length
 refine DC.2 ?_
 dsimp only[DC,aZ]
 refine bt hI fun b3 w' hI=>?_
 have hI:Inv w [] [.blk b3 (.cells cs.toArray ac)] S w':=hI
 refine ⟨fun i w'=>∃ j:Nat,j<=l.length/\i=.int .i64 j/\l.take j++fg (l.drop j) t=fg l t/\Inv w [] [.blk b3 (.cells cs.toArray ac)] S w',
  fun i _=>l.length - (intOf i).toNat,⟨0,be _,rfl,rfl,hI⟩,?_⟩
 intro t5 _ _ _ _ _ _ _ _ _ _ _ _ _ _ _ w'
 rintro ⟨j,hj,rfl,hrel,hI⟩
 by_cases hj':j<l.length
 ·obtain ⟨b,o,cap,c,E,fz,rfl,hS,hR⟩:=h.at_ hj'
  have hox:=hl _ (bA hj')
  refine ⟨fun D lS rK jY l5 sQ Ap wH vZ CL DB x9 x8 x7 w_=>Fx D 0 [x7=.int .i64 j,x8=.slice (some ⟨b,o,none⟩) l.length cap,x9=.int .i64 l.length,DB=.bool true,CL=.bool true,vZ=.slice (some ⟨b,o,none⟩) l.length cap,wH=.int .i64 j,Ap=.pointer (some ⟨b,o+j * 4,none⟩),sQ=.agg (aO c (o+j * 4) 4).toArray,l5=.agg cs.toArray,jY=.int .i64 (dH l[j] t),rK=.bool (decide (dH l[j] t<0)),lS=.bool (decide (dH l[j] t<0))]/\Inv w [] [.blk b3 (.cells cs.toArray ac)] S w_,⟨Fx.nil _ _,hI.draw⟩,⟨?_,?_,?_,?_,?_,?_,?_,?_,?_,?_,?_,?_,?_,trivial⟩,?_⟩
  all_goals (intro D bP; intros; rename_i lS rK jY l5 sQ Ap wH vZ CL DB x9 x8 x7 w_ hA_; have hF_:=hA_.1; obtain ⟨⟨cm,cj,cd,ci,bT,ct,bZ,cR,dq,er,co,cG,dJ,_⟩,hI⟩:=hA_)
  ·exact ⟨hF_.set 0 rfl,hI⟩
  ·exact ⟨hF_.set 1 rfl,hI⟩
  ·obtain rfl:=cj ‹_›
   refine eP ae ?_
   exact ⟨hF_.set 2 rfl,hI⟩
  ·obtain rfl:=cm ‹_›
   obtain rfl:=cd ‹_›
   refine bF ?_; rw [aM (show (j:Int)<(l.length:Int) by omega)]
   exact ⟨hF_.set 3 rfl,hI⟩
  ·obtain rfl:=ci ‹_›
   exact ⟨hF_.set 4 rfl,hI⟩
  ·obtain rfl:=bT ‹_›
   refine rpG ?_
   exact ⟨hF_.set 5 rfl,hI⟩
  ·obtain rfl:=bT ‹_›
   refine rpG ?_
   exact ⟨hF_.set 6 rfl,hI⟩
  ·obtain rfl:=ct ‹_›
   obtain rfl:=bZ ‹_›
   obtain rfl:=bT ‹_›
   refine rpG ?_
   refine aD ae hj' ?_
   exact ⟨hF_.set 7 rfl,hI⟩
  ·obtain rfl:=cR ‹_›
   obtain rfl:=bT ‹_›
   refine rpG ?_
   refine bK ad hR.length (fun j v hj=>by rw [hI.cellS hS]; exact aK rfl j v hj) ?_
   exact ⟨hF_.set 8 rfl,hI⟩
  ·obtain rfl:=bT ‹_›
   refine rpG ?_
   refine ar hI 0 ad rfl (by simpa using hlc) ?_
   exact ⟨hF_.set 9 rfl,hI⟩
  ·obtain rfl:=dq ‹_›
   obtain rfl:=er ‹_›
   obtain rfl:=bT ‹_›
   refine rpG ?_
   refine Run.callPure ug tT hI (EM _ _ S _ _ hR hcs hox ht) fun w_ hI=>?_
   exact ⟨hF_.set 10 rfl,hI⟩
  ·obtain rfl:=co ‹_›
   obtain rfl:=bT ‹_›
   refine rpG ?_
   refine bF ?_
   exact ⟨hF_.set 11 rfl,hI⟩
  ·obtain rfl:=bT ‹_›
   obtain rfl:=cG ‹_›
   refine rpG ?_
   exact ⟨hF_.set 12 rfl,hI⟩
  obtain ⟨rfl,rfl,rfl,rfl,rfl,rfl,rfl,rfl,rfl,rfl,rfl,rfl,rfl,_⟩:=hF_.all
  clear hF_ cm cj cd ci bT ct bZ cR dq er co cG dJ
  refine aI (fun hc=>?_) (fun hc=>?_)
  ·refine bq (by omega) ?_
   refine ⟨⟨j+1,hj',rfl,?_,hI⟩,by simp [intOf]; omega⟩
   rw [<- hrel,GY l t j hj' hc,fj hj',eW]
   rfl
  rw [Cc l t j hj' hc] at hrel
  refine ⟨fun D GE LH v9 iq qs jL r2 lE fF kU tA tR w_=>Fx D 0 [tR=.int .i64 j,tA=.slice (some ⟨b,o,none⟩) l.length cap,kU=.int .i64 l.length,fF=.bool true,lE=.bool true,r2=.slice (some ⟨b,o,none⟩) l.length cap,jL=.int .i64 j,qs=.pointer (some ⟨b,o+j * 4,none⟩),iq=.agg (aO c (o+j * 4) 4).toArray,v9=.agg cs.toArray,LH=.bool (eqT l[j] t),GE=.bool (eqT l[j] t)]/\Inv w [] [.blk b3 (.cells cs.toArray ac)] S w_,⟨Fx.nil _ _,hI.draw⟩,⟨?_,?_,?_,?_,?_,?_,?_,?_,?_,?_,?_,?_,trivial⟩,?_⟩
  all_goals (intro D bP; intros; rename_i GE LH v9 iq qs jL r2 lE fF kU tA tR w_ hA_; have hF_:=hA_.1; obtain ⟨⟨cm,cj,cd,ci,bT,ct,bZ,cR,dq,er,co,cG,_⟩,hI⟩:=hA_)
  ·exact ⟨hF_.set 0 rfl,hI⟩
  ·exact ⟨hF_.set 1 rfl,hI⟩
  ·obtain rfl:=cj ‹_›
   refine eP ae ?_
   exact ⟨hF_.set 2 rfl,hI⟩
  ·obtain rfl:=cm ‹_›
   obtain rfl:=cd ‹_›
   refine bF ?_; rw [aM (show (j:Int)<(l.length:Int) by omega)]
   exact ⟨hF_.set 3 rfl,hI⟩
  ·obtain rfl:=ci ‹_›
   exact ⟨hF_.set 4 rfl,hI⟩
  ·obtain rfl:=bT ‹_›
   refine rpG ?_
   exact ⟨hF_.set 5 rfl,hI⟩
  ·obtain rfl:=bT ‹_›
   refine rpG ?_
   exact ⟨hF_.set 6 rfl,hI⟩
  ·obtain rfl:=ct ‹_›
   obtain rfl:=bZ ‹_›
   obtain rfl:=bT ‹_›
   refine rpG ?_
   refine aD ae hj' ?_
   exact ⟨hF_.set 7 rfl,hI⟩
  ·obtain rfl:=cR ‹_›
   obtain rfl:=bT ‹_›
   refine rpG ?_
   refine bK ad hR.length (fun j v hj=>by rw [hI.cellS hS]; exact aK rfl j v hj) ?_
   exact ⟨hF_.set 8 rfl,hI⟩
  ·obtain rfl:=bT ‹_›
   refine rpG ?_
   refine ar hI 0 ad rfl (by simpa using hlc) ?_
   exact ⟨hF_.set 9 rfl,hI⟩
  ·obtain rfl:=dq ‹_›
   obtain rfl:=er ‹_›
   obtain rfl:=bT ‹_›
   refine rpG ?_
   refine Run.callPure oJ oV hI (ph _ _ S _ _ hR hcs) fun w_ hI=>?_
   exact ⟨hF_.set 10 rfl,hI⟩
  ·obtain rfl:=bT ‹_›
   obtain rfl:=co ‹_›
   refine rpG ?_
   exact ⟨hF_.set 11 rfl,hI⟩
  obtain ⟨rfl,rfl,rfl,rfl,rfl,rfl,rfl,rfl,rfl,rfl,rfl,rfl,_⟩:=hF_.all
  clear hF_ cm cj cd ci bT ct bZ cR dq er co cG
  refine az (fun he=>?_) (fun he=>?_)
  ·rw [ai he,xg] at hrel
   rw [<- hrel]
   exact ⟨_,_,_,rfl,hI.pick [false],Ext.refl _ _ _,rfl,h⟩
  ·rw [ah (by rw [he]; decide)] at hrel
   rw [<- hrel]
   exact OJ j hI h hcs hj hn fun r S' w' hE hr hI=>⟨_,_,_,rfl,hI,hE,rfl,hr⟩
 ·have hje:j=l.length:=by omega
  have hv:∃ a m,v=.slice a l.length m:=by
   obtain ⟨a,m,e,_⟩:=h
   exact ⟨a,m,e⟩
  obtain ⟨a,m,rfl⟩:=hv
  rw [jQ (by omega),fg] at hrel
  refine ⟨fun D lS rK jY l5 sQ Ap wH vZ CL DB x9 x8 x7 w_=>Fx D 0 [x7=.int .i64 j,x8=.slice a l.length m,x9=.int .i64 l.length,DB=.bool false,CL=.bool false,vZ=undef,wH=undef,Ap=undef,sQ=undef,l5=undef,jY=undef,rK=undef,lS=.bool false]/\Inv w [] [.blk b3 (.cells cs.toArray ac)] S w_,⟨Fx.nil _ _,hI.draw⟩,⟨?_,?_,?_,?_,?_,?_,?_,?_,?_,?_,?_,?_,?_,trivial⟩,?_⟩
  all_goals (intro D bP; intros; rename_i lS rK jY l5 sQ Ap wH vZ CL DB x9 x8 x7 w_ hA_; have hF_:=hA_.1; obtain ⟨⟨cm,cj,cd,ci,bT,ct,bZ,cR,dq,er,co,cG,dJ,_⟩,hI⟩:=hA_)
  ·exact ⟨hF_.set 0 rfl,hI⟩
  ·exact ⟨hF_.set 1 rfl,hI⟩
  ·obtain rfl:=cj ‹_›
   refine eP ae ?_
   exact ⟨hF_.set 2 rfl,hI⟩
  ·obtain rfl:=cm ‹_›
   obtain rfl:=cd ‹_›
   refine bF ?_; rw [aW (show ¬ (j:Int)<(l.length:Int) by omega)]
   exact ⟨hF_.set 3 rfl,hI⟩
  ·obtain rfl:=ci ‹_›
   exact ⟨hF_.set 4 rfl,hI⟩
  ·obtain rfl:=bT ‹_›
   refine rpG ?_
   exact ⟨hF_.set 5 rfl,hI⟩
  ·obtain rfl:=bT ‹_›
   refine rpG ?_
   exact ⟨hF_.set 6 rfl,hI⟩
  ·obtain rfl:=ct ‹_›
   obtain rfl:=bZ ‹_›
   obtain rfl:=bT ‹_›
   refine rpG ?_
   exact ⟨hF_.set 7 rfl,hI⟩
  ·obtain rfl:=cR ‹_›
   obtain rfl:=bT ‹_›
   refine rpG ?_
   exact ⟨hF_.set 8 rfl,hI⟩
  ·obtain rfl:=bT ‹_›
   refine rpG ?_
   exact ⟨hF_.set 9 rfl,hI⟩
  ·obtain rfl:=dq ‹_›
   obtain rfl:=er ‹_›
   obtain rfl:=bT ‹_›
   refine rpG ?_
   exact ⟨hF_.set 10 rfl,hI⟩
  ·obtain rfl:=co ‹_›
   obtain rfl:=bT ‹_›
   refine rpG ?_
   exact ⟨hF_.set 11 rfl,hI⟩
  ·obtain rfl:=bT ‹_›
   obtain rfl:=cG ‹_›
   refine rpG ?_
   exact ⟨hF_.set 12 rfl,hI⟩
  obtain ⟨rfl,rfl,rfl,rfl,rfl,rfl,rfl,rfl,rfl,rfl,rfl,rfl,rfl,_⟩:=hF_.all
  clear hF_ cm cj cd ci bT ct bZ cR dq er co cG dJ
  refine az (fun hb=>by cases hb) (fun _=>?_)
  refine ⟨fun D GE LH v9 iq qs jL r2 lE fF kU tA tR w_=>Fx D 0 [tR=.int .i64 j,tA=.slice a l.length m,kU=.int .i64 l.length,fF=.bool false,lE=.bool false,r2=undef,jL=undef,qs=undef,iq=undef,v9=undef,LH=undef,GE=.bool false]/\Inv w [] [.blk b3 (.cells cs.toArray ac)] S w_,⟨Fx.nil _ _,hI.draw⟩,⟨?_,?_,?_,?_,?_,?_,?_,?_,?_,?_,?_,?_,trivial⟩,?_⟩
  all_goals (intro D bP; intros; rename_i GE LH v9 iq qs jL r2 lE fF kU tA tR w_ hA_; have hF_:=hA_.1; obtain ⟨⟨cm,cj,cd,ci,bT,ct,bZ,cR,dq,er,co,cG,_⟩,hI⟩:=hA_)
  ·exact ⟨hF_.set 0 rfl,hI⟩
  ·exact ⟨hF_.set 1 rfl,hI⟩
  ·obtain rfl:=cj ‹_›
   refine eP ae ?_
   exact ⟨hF_.set 2 rfl,hI⟩
  ·obtain rfl:=cm ‹_›
   obtain rfl:=cd ‹_›
   refine bF ?_; rw [aW (show ¬ (j:Int)<(l.length:Int) by omega)]
   exact ⟨hF_.set 3 rfl,hI⟩
  ·obtain rfl:=ci ‹_›
   exact ⟨hF_.set 4 rfl,hI⟩
  ·obtain rfl:=bT ‹_›
   refine rpG ?_
   exact ⟨hF_.set 5 rfl,hI⟩
  ·obtain rfl:=bT ‹_›
   refine rpG ?_
   exact ⟨hF_.set 6 rfl,hI⟩
  ·obtain rfl:=ct ‹_›
   obtain rfl:=bZ ‹_›
   obtain rfl:=bT ‹_›
   refine rpG ?_
   exact ⟨hF_.set 7 rfl,hI⟩
  ·obtain rfl:=cR ‹_›
   obtain rfl:=bT ‹_›
   refine rpG ?_
   exact ⟨hF_.set 8 rfl,hI⟩
  ·obtain rfl:=bT ‹_›
   refine rpG ?_
   exact ⟨hF_.set 9 rfl,hI⟩
  ·obtain rfl:=dq ‹_›
   obtain rfl:=er ‹_›
   obtain rfl:=bT ‹_›
   refine rpG ?_
   exact ⟨hF_.set 10 rfl,hI⟩
  ·obtain rfl:=bT ‹_›
   obtain rfl:=co ‹_›
   refine rpG ?_
   exact ⟨hF_.set 11 rfl,hI⟩
  obtain ⟨rfl,rfl,rfl,rfl,rfl,rfl,rfl,rfl,rfl,rfl,rfl,rfl,_⟩:=hF_.all
  clear hF_ cm cj cd ci bT ct bZ cR dq er co cG
  refine az (fun hb=>by cases hb) (fun _=>?_)
  rw [<- hrel]
  refine OJ j hI h hcs hj hn fun r S' w' hE hr hI=>⟨_,_,_,rfl,hI,hE,rfl,?_⟩
  rw [jQ (by omega)] at hr
  exact hr
end
end
section
open Go Go.RowKit
def VV (l:List T) (t:T):Bool:=l.any fun x=>eqT x t
def yc:T:=.mk 0 0 ⟨#[]⟩ []
def vj (st:ao) (n:Int):T:=match st[n.toNat]? with
 | some (some t)=>t
 | _=>yc
def jF (st:ao) (x:T):T:=if x.kind=1 then vj st x.n else x
def r5 (g:T) (st:ao):T:=.mk g.kind 0 g.name (g.kids.map (jF st))
def stW (st:ao):Prop:=∀ t,some t∈st->wT t<=1048576
theorem Yj (st:ao) (n:Int):vj st n=yc ∨ some (vj st n)∈st:=by
 rw [vj]
 split
 ·rename_i t h
  exact .inr (b0 h)
 ·exact .inl rfl
theorem ZO:wT yc<=1048576:=by
 have:wT yc=0:=rfl
 omega
theorem Xi {st:ao} (h:stW st) {ks:List T} {j:Nat} (hj:j<ks.length) (hw:wL ks<=1048576):wT (jF st ks[j])<=1048576:=by
 rw [jF]
 split
 ·rcases Yj st ks[j].n with e|e
  ·rw [e]; exact ZO
  ·exact h _ e
 ·have:=jI (bA hj)
  omega
theorem RW (st:ao) (ks:List T) (j:Nat) (h:j<ks.length):(ks.take (j+1)).map (jF st)=(ks.take j).map (jF st)++[jF st ks[j]]:=by
 rw [fj h,BD]; rfl
theorem RdT.zero (S:af):RdT S ot yc:=RdT.iff.2 ⟨_,rfl,by simp [inI,T.kind,yc],by simp [inI,T.n,yc],by rw [yc,T.name]; decide +kernel,none,0,rfl,aR _,be _,.inl rfl⟩
theorem KnownC.get {S:af} {kc:Array Value} {st:ao} (h:KnownC S kc st) (hst:st.length=26) {j:Nat} (hj:j<26):RdT S (aO kc (j * 4) 4) (vj st j):=by
 obtain ⟨h1,h2⟩:=h.2 j (by omega)
 rw [vj,cV,fT (show j<st.length by omega)]
 cases e:st[j] with
 | none=>
  rw [h1 e]
  exact RdT.zero S
 | some t=>exact h2 t e
def KRel (S:af) (cs:List Value) (o:Option T):Prop:=cs.length=4/\(o=none->cs=ot)/\∀ t,o=some t->RdT S cs t
theorem KRel.one {S:af} {cs:List Value} {o:Option T} (h:KRel S cs o):∀ u∈cs,u.oneCell'=true:=by
 cases o with
 | none=>rw [h.2.1 rfl]; simp [ot,Value.oneCell']
 | some t=>exact (h.2.2 t rfl).one
theorem KnownC.rd {S:af} {kb kp:Nat} {kc:Array Value} {st:ao} {E:TypeId} (hS:S kb=some (.cells kc E)) (h:KnownC S kc st) (hst:st.length=26) (hkp:26<=kp) (hkm:kp<=maxLen):RdSl S 4 (KRel S) (kvn kb kp) st:=by
 refine ⟨some ⟨kb,0,none⟩,kp,by rw [hst],by omega,hkm,.inr ⟨kb,0,kc,E,(0,0),rfl,hS,fun i hi=>?_⟩⟩
 obtain ⟨h1,h2⟩:=h.2 i hi
 rw [bR]
 refine ⟨?_,h1,h2⟩
 have:=h.1
 rw [aO,dK,vY,IV]
 omega
theorem KnownC.of_rows {S:af} {cur:Array Value} {css:List (List Value)} {st:ao} (h:Rows 4 (KRel S) css st) (hst:st.length=26) {cap:Nat} (hcap:26<=cap) (hs:cur.size=cap * 4) (ht:cur.toList.take (css.length * 4)=css.flatten):KnownC S cur st:=by
 have hc:=h.hc
 refine ⟨by omega,fun i hi=>?_⟩
 have hi':i<css.length:=by omega
 have hfl:=gK 4 css i h.hk hi'
 have e:aO cur (i * 4) 4=css[i]:=by
  rw [<- hfl,<- ht,Lc,mJ,kD (by omega)]
  rfl
 have hr:=h.hR i hi hi'
 rw [<- e] at hr
 exact ⟨hr.2.1,hr.2.2⟩
section
attribute [local irreducible] Run CondV aw aN
abbrev abU (r:Bool × ao):Value->List Item->af->Prop:=fun v I' S'=>I'=[]/\∃ kb kp kc,v=.tuple #[kvn kb kp,.bool r.1]/\26<=kp/\kp<=maxLen/\S' kb=some (.cells kc ac)/\KnownC S' kc r.2
theorem KnownC.mono {S S':af} {kc:Array Value} {st:ao} (h:KnownC S kc st) (hs:Sle S S'):KnownC S' kc st:=
 ⟨h.1,fun i hi=>⟨(h.2 i hi).1,fun t ht=>((h.2 i hi).2 t ht).mono hs⟩⟩
theorem Hv {g f:T} {S:af} {cs ds:List Value} {kb kp:Nat} {kc:Array Value} {st:ao} (hg:RdT S cs g) (hf:RdT S ds f) (hv:okV g) (hk:okK f) (hst:z2 st) (hkp:26<=kp) (hkm:kp<=maxLen)
  (hS:S kb=some (.cells kc ac)) (hkc:KnownC S kc st):Tri Tryz.prog Mo [.agg cs.toArray,.agg ds.toArray,kvn kb kp] [] S (abU (bm g f st)):=by
 intro w hI
 have hlg:=hg.length
 have hlf:=hf.length
 refine vI.2 ?_
 dsimp only[vI,dV]
 refine bt hI fun b3 w' hI=>?_
 refine bt hI fun b4 w' hI=>?_
 refine eQ hI bj fun v0 w' hI=>?_
 have hI:Inv w [] [.blk b3 (.cells cs.toArray ac),.blk b4 (.cells ds.toArray ac),aJ v0 ac 4 []] S w':=hI
 have hrd:=hkc.rd hS hst.1 hkp hkm
 refine mt hI 2 (css:=[]) bj (by omega) rfl hrd (fun _ _ h=>h.1) (fun _ _=>KRel.one) (by simp [hst.1]) (by omega) fun v1 w' css hR hI=>?_
 have hI:Inv w [] ([.blk b3 (.cells cs.toArray ac),.blk b4 (.cells ds.toArray ac)]++[aJ v1 ac 4 css]) S w':=by simpa using hI
 have hcl:css.length=26:=by rw [hR.hc]; exact hst.1
 obtain ⟨_,ho⟩:=hI.openRow
 rcases ho with ⟨_,h0⟩|⟨nb,cap,cur,rfl,hnc,hcm,hcs,ht,hI⟩
 ·omega
 rw [hcl] at hnc
 have hkc':=KnownC.of_rows hR hst.1 hnc hcs ht
 rw [hcl]
 refine ar hI 0 ad rfl (by simpa using hlg) ?_
 refine ar hI 1 ad rfl (by simpa using hlf) ?_
 refine Run.call (A:=[_,_]) zI yV hI (Iz cap _ _ S _ _ nb cur st hg hf hv hk hst hkc') fun v' I' S' w'=>?_
 rintro ⟨rfl,rfl,kc2,rfl,hk2⟩ _ hI
 obtain ⟨S',hI,hE,hins⟩:=Inv.pubExt (A:=[.blk b3 (.cells cs.toArray ac),.blk b4 (.cells ds.toArray ac)]) (L:=[(nb,.cells kc2 ac)]) hI
 exact ⟨_,_,_,rfl,hI.pick [false,false],hE,rfl,nb,cap,kc2,rfl,hnc,hcm,hins _ (bL.2 rfl),hk2.mono hE.1⟩
theorem IG {g:T} {S:af} {cs:List Value} {kb kp:Nat} {kc:Array Value} {st:ao} (hg:RdT S cs g) (hv:okV g) (hw:wT g<=1048576) (hst:z2 st) (hsw:stW st)
  (hS:S kb=some (.cells kc ac)) (hkc:KnownC S kc st):Tri Tryz.prog Oe [.agg cs.toArray,kvn kb kp] [] S (G4 S (r5 g st)):=by
 intro w hI
 obtain ⟨kv,rfl,h1,h2,hs,hks⟩:=RdT.iff.1 hg
 obtain ⟨k,n,s,ks⟩:=g
 simp only [T.name,T.kids,T.kind,T.n] at h1 h2 hs hks ⊢
 simp only [wT] at hw
 rw [okV] at hv
 have hvk:=hv.2
 refine zP.2 ?_
 dsimp only[zP,aZ]
 refine bt hI fun b2 w' hI=>?_
 obtain ⟨hI,hle⟩:=Inv.publishLast (L:=[]) hI
 have hb2:jj S b2 (.cells (Value.agg #[.int .i64 k,.int .i64 n,.string s,kv]).cells ac) b2=some (.cells #[.int .i64 k,.int .i64 n,.string s,kv] ac):=by simp [jj,Value.cells]
 generalize jj S b2 (.cells (Value.agg #[.int .i64 k,.int .i64 n,.string s,kv]).cells ac)=S1 at hI hle hb2
 have hks1:=hks.monoT hle
 have hS1:=hle _ _ hS
 have hkc1:=hkc.mono hle
 refine aV hI aY fun b4 w' hI=>?_
 refine aB aP ?_
 refine cw aH (by rw [hI.cellS hb2]; rfl) ?_
 refine aB bb ?_
 refine cw aQ (by rw [hI.cellS hb2]; rfl) ?_
 have hb:∀ {K:Value->World->Prop} {w':World},K (.agg #[.int .i64 k,.int .i64 0,.string s,.slice none 0 0]) w'->Run Tryz.prog (cU ac [(0,.int .i64 k),(2,.string s)]) w' K:=by
  intro K w' hk
  refine Run.of (v:=.agg #[.int .i64 k,.int .i64 0,.string s,.slice none 0 0]) (w':=w') ?_ hk
  unfold cU
  rw [Sem.run_bind,run_build w' ac _ #[.int .i64 k,.int .i64 0,.string s,.slice none 0 0] (by kernel_rfl),Result.andThen_ok]
  rfl
 refine hb ?_
 refine aV hI aY fun b5 w' hI=>?_
 refine aA hI 1 rfl ad rfl rfl (by simp [Value.oneCell']) fun w' hI=>?_
 have hI:=hI.rowNil ac 4
 refine ⟨fun i w'=>∃ (j:Nat) (kvc:Value) (Ls:List bn) (css:List (List Value)),j<=ks.length/\i=.int .i64 j/\Grown 4 TrT Ls css ((ks.take j).map (jF st))/\
   Inv w [] (.blk b4 (.cells #[.int .i64 0,.int .i64 0,.string ⟨#[]⟩,.slice none 0 0] ac)::.blk b5 (.cells #[.int .i64 k,.int .i64 0,.string s,kvc] ac)::aJ kvc ac 4 css::bv Ls.flatten) S1 w',
  fun i _=>ks.length - (intOf i).toNat,⟨0,_,[],[],be _,rfl,Grown.nil _ _,hI⟩,?_⟩
 intro t6 _ _ _ _ _ _ _ _ _ _ _ _ _ _ _ _ _ _ _ _ _ _ _ _ _ _ _ _ w'
 rintro ⟨j,kvc,Ls,css,hj,rfl,hg',hI⟩
 refine aB al ?_
 refine cw aj (by rw [hI.cellS hb2]; rfl) ?_
 refine aC hks1 ae ?_
 refine bF ?_
 refine aI (fun hji=>?_) (fun hji=>?_)
 ·have hj':j<ks.length:=by omega
  have hjl:(ks.take j).length=j:=by simp; omega
  have hcl:=hg'.hc
  rw [jH] at hcl
  have hm:=bA hj'
  have hwm:=jI hm
  have hvj:=qi hvk _ hm
  refine aB al ?_
  refine cw aj (by rw [hI.cellS hb2]; rfl) ?_
  refine cE hI hks1 ae ad hj' (fun _ _=>RdT.length) fun cs0 hcs0=>?_
  refine aV hI aY fun b7 w' hI=>?_
  have hI:=hI.perm (M:=.blk b7 _::(.blk b4 (.cells #[.int .i64 0,.int .i64 0,.string ⟨#[]⟩,.slice none 0 0] ac)::.blk b5 (.cells #[.int .i64 k,.int .i64 0,.string s,kvc] ac)::aJ kvc ac 4 css::bv Ls.flatten)) (cu (l₁:=[_]))
  refine aA hI 0 rfl ad (by simpa using hcs0.length) rfl (by simpa using hcs0.one) fun w' hI=>?_
  refine ⟨fun w'=>∃ c7,RdT S1 c7 (jF st ks[j])/\Inv w [] (.blk b7 (.cells c7.toArray ac)::.blk b4 (.cells #[.int .i64 0,.int .i64 0,.string ⟨#[]⟩,.slice none 0 0] ac)::.blk b5 (.cells #[.int .i64 k,.int .i64 0,.string s,kvc] ac)::aJ kvc ac 4 css::bv Ls.flatten) S1 w',?_,?_⟩
  ·obtain ⟨x0,hc0,_⟩:=RdT.iff.1 hcs0
   refine ag hI 0 (u:=.int .i64 ks[j].kind) rfl aP aH (by rw [hc0]; rfl) ?_
   refine bo ?_
   refine aI (fun hk1=>?_) (fun hk1=>?_)
   ·have hvn:0<=ks[j].n/\ks[j].n<=25:=by
     have hx:=hvj
     generalize ks[j]=x at hx hk1
     cases x
     rw [okV] at hx
     exact hx.1 hk1
    obtain ⟨m,hm'⟩:∃ m:Nat,ks[j].n=m:=⟨ks[j].n.toNat,by omega⟩
    have hm26:m<26:=by omega
    have hget:=hkc1.get hst.1 hm26
    rw [jF,ai hk1,hm']
    refine ag hI 0 (u:=.int .i64 ks[j].n) rfl bh aH (by rw [hc0]; rfl) ?_
    rw [hm']
    refine aD ae hm26 ?_
    refine bK (cs:=aO kc (m * 4) 4) ad hget.length (fun i v hi=>by rw [hI.cellS hS1,bR]; exact aK rfl i v hi) ?_
    refine aA hI 0 rfl ad (by simpa using hget.length) (by simpa using hcs0.length) (by simpa using hget.one) fun w' hI=>?_
    exact ⟨_,hget,hI⟩
   ·rw [jF,ah hk1]
    exact ⟨_,hcs0,hI⟩
  intro _ _ _ _ _ _ _ _ w'
  rintro ⟨c7,hc7,hI⟩
  refine ⟨fun D CY oM CP zE yH JJ GE w_=>Fx D 0 [GE=.pointer (some ⟨b5,3,none⟩),JJ=kvc,yH=.agg c7.toArray,True,True,True,CY=.pointer (some ⟨b5,3,none⟩),True]/\∃ M cs7 b8,(D 3=true->zE=.agg cs7.toArray/\TrT M cs7 (jF st ks[j]))/\(D 4=true->CP=.slice (some ⟨b8,0,none⟩) 1 1)/\(D 4=true->D 3=true)/\(D 5=true->D 4=true)/\(D 7=true->D 5=true)/\(D 7=true->D 1=true)/\Inv w [] (bf (.blk b7 (.cells c7.toArray ac)) (.blk b4 (.cells #[.int .i64 0,.int .i64 0,.string ⟨#[]⟩,.slice none 0 0] ac)) (.blk b5 (.cells #[.int .i64 k,.int .i64 0,.string s,kvc] ac)) (.blk b5 (.cells #[.int .i64 k,.int .i64 0,.string s,oM] ac)) (aJ kvc ac 4 css) (aJ oM ac 4 (css++[cs7])) (bv Ls.flatten) M (.blk b8 (.cells cs7.toArray ac)) (D 3) (D 4) (D 5) (D 7)) S1 w_,⟨Fx.nil _ _,⟨[],[],0,ba,ba,ba,ba,ba,ba,by simpa [bf,bv] using hI.draw⟩⟩,⟨?_,?_,?_,?_,?_,?_,?_,?_,trivial⟩,?_⟩
  all_goals (intro D bP; intros; rename_i CY oM CP zE yH JJ GE w_ hA_; have hF_:=hA_.1; obtain ⟨⟨cm,cj,cd,ci,bT,ct,bZ,cR,_⟩,⟨M,cs7,b8,e7,e8,k8,k9,k11,k1,hI⟩⟩:=hA_)
  ·refine aB al ?_
   exact ⟨hF_.set 0 rfl,⟨M,cs7,b8,e7,e8,k8,k9,k11,k1,hI⟩⟩
  ·obtain rfl:=cm ‹_›
   have f11:D 7=false:=bH.2 fun h=>by rw [k1 h] at bP; cases bP
   refine aX (b:=b5) hI 2 (c:=(#[.int .i64 k,.int .i64 0,.string s,kvc])) aj (by rw [f11]; rfl) rfl ?_
   have k1:=fun (_:aF D 1 7=true)=>(rfl:aF D 1 1=true)
   exact ⟨hF_.set 1 rfl,⟨M,cs7,b8,e7,e8,k8,k9,k11,k1,hI⟩⟩
  ·refine ar hI 0 ad rfl (by simpa using hc7.length) ?_
   exact ⟨hF_.set 2 rfl,⟨M,cs7,b8,e7,e8,k8,k9,k11,k1,hI⟩⟩
  ·obtain rfl:=cd ‹_›
   have f8:D 4=false:=bH.2 fun h=>by rw [k8 h] at bP; cases bP
   have f9:D 5=false:=bH.2 fun h=>by rw [k9 h] at f8; cases f8
   have f11:D 7=false:=bH.2 fun h=>by rw [k11 h] at f9; cases f9
   rw [bP,f8,f9,f11] at hI
   refine Run.call0 fq fp hI (fY _ S1 _ hc7 (Xi hsw hj' (by omega))) fun v' I' S1 w_=>?_
   rintro ⟨rfl,cs7,M,rfl,rfl,hT⟩ _ hI
   have e7:aF D 3 3=true->Value.agg cs7.toArray=Value.agg cs7.toArray/\TrT M cs7 (jF st ks[j]):=fun _=>⟨rfl,hT⟩
   have k8:=fun (_:aF D 3 4=true)=>(rfl:aF D 3 3=true)
   have hI:Inv w [] (bf (.blk b7 (.cells c7.toArray ac)) (.blk b4 (.cells #[.int .i64 0,.int .i64 0,.string ⟨#[]⟩,.slice none 0 0] ac)) (.blk b5 (.cells #[.int .i64 k,.int .i64 0,.string s,kvc] ac)) (.blk b5 (.cells #[.int .i64 k,.int .i64 0,.string s,oM] ac)) (aJ kvc ac 4 css) (aJ oM ac 4 (css++[cs7])) (bv Ls.flatten) M (.blk b8 (.cells cs7.toArray ac)) true (D 4) (D 5) (D 7)) S1 w_:=by
    rw [f8,f9,f11]
    simpa [bf] using hI
   exact ⟨hF_.set 3 (by first|assumption|trivial),⟨M,cs7,b8,e7,e8,k8,k9,k11,k1,hI⟩⟩
  ·have g3_:=ci ‹_›
   have f9:D 5=false:=bH.2 fun h=>by rw [k9 h] at bP; cases bP
   have f11:D 7=false:=bH.2 fun h=>by rw [k11 h] at f9; cases f9
   obtain ⟨q7,hT⟩:=e7 ‹D 3=true›
   subst q7
   rw [‹D 3=true›,bP,f9,f11] at hI
   refine d5 hI bj (by simp [Value.cells,hT.length]) (by omega) (by omega) fun b8 w_ hI=>?_
   have e7:aF D 4 3=true->Value.agg cs7.toArray=Value.agg cs7.toArray/\TrT M cs7 (jF st ks[j]):=fun _=>⟨rfl,hT⟩
   have e8:=fun (_:aF D 4 4=true)=>(rfl:Value.slice (some ⟨b8,0,none⟩) 1 1=_)
   have k8:=fun (_:aF D 4 4=true)=>‹D 3=true›
   have k9:=fun (_:aF D 4 5=true)=>(rfl:aF D 4 4=true)
   have hI:Inv w [] (bf (.blk b7 (.cells c7.toArray ac)) (.blk b4 (.cells #[.int .i64 0,.int .i64 0,.string ⟨#[]⟩,.slice none 0 0] ac)) (.blk b5 (.cells #[.int .i64 k,.int .i64 0,.string s,kvc] ac)) (.blk b5 (.cells #[.int .i64 k,.int .i64 0,.string s,oM] ac)) (aJ kvc ac 4 css) (aJ oM ac 4 (css++[cs7])) (bv Ls.flatten) M (.blk b8 (.cells cs7.toArray ac)) (D 3) true (D 5) (D 7)) S1 w_:=by
    rw [‹D 3=true›,f9,f11]
    simpa [bf,Value.cells] using hI
   exact ⟨hF_.set 4 (by first|assumption|trivial),⟨M,cs7,b8,e7,e8,k8,k9,k11,k1,hI⟩⟩
  ·obtain rfl:=cj ‹_›
   have Q1:=bT ‹_›
   have f11:D 7=false:=bH.2 fun h=>by rw [k11 h] at bP; cases bP
   have q8:=e8 ‹D 4=true›
   subst q8
   obtain ⟨_,hT⟩:=e7 ‹D 3=true›
   rw [‹D 3=true›,‹D 4=true›,bP,f11] at hI
   have hblk:((bf (.blk b7 (.cells c7.toArray ac)) (.blk b4 (.cells #[.int .i64 0,.int .i64 0,.string ⟨#[]⟩,.slice none 0 0] ac)) (.blk b5 (.cells #[.int .i64 k,.int .i64 0,.string s,JJ] ac)) (.blk b5 (.cells #[.int .i64 k,.int .i64 0,.string s,oM] ac)) (aJ JJ ac 4 css) (aJ oM ac 4 (css++[cs7])) (bv Ls.flatten) M (.blk b8 (.cells cs7.toArray ac)) true true false false))[4+(bv Ls.flatten).length+(bv M).length]?=some (.blk b8 (.cells cs7.toArray ac)):=by
    have e4:4+(bv Ls.flatten).length+(bv M).length=((bv Ls.flatten).length+(bv M).length)+1+1+1+1:=by omega
    rw [e4]
    simp only [bf,mL]
    rw [ir (by omega),oR,ir (aR _),eD]; rfl
   refine dQ hI 3 cs7 bj (by omega) rfl (by rw [hT.length]) (m:=1) (o:=0) ?_ hT.one (by omega) (by omega) fun v' w_ hI=>?_
   ·intro i u hi
    rw [hI.cellL hblk,bR]
    simpa using hi
   rw [eG] at hI
   have k9:=fun (_:aF D 5 5=true)=>‹D 4=true›
   have k11:=fun (_:aF D 5 7=true)=>(rfl:aF D 5 5=true)
   have hI:Inv w [] (bf (.blk b7 (.cells c7.toArray ac)) (.blk b4 (.cells #[.int .i64 0,.int .i64 0,.string ⟨#[]⟩,.slice none 0 0] ac)) (.blk b5 (.cells #[.int .i64 k,.int .i64 0,.string s,JJ] ac)) (.blk b5 (.cells #[.int .i64 k,.int .i64 0,.string s,v'] ac)) (aJ JJ ac 4 css) (aJ v' ac 4 (css++[cs7])) (bv Ls.flatten) M (.blk b8 (.cells cs7.toArray ac)) (D 3) (D 4) true (D 7)) S1 w_:=by
    rw [‹D 3=true›,‹D 4=true›,f11]
    exact hI
   exact ⟨hF_.set 5 (by first|assumption|trivial),⟨M,cs7,b8,e7,e8,k8,k9,k11,k1,hI⟩⟩
  ·refine aB al ?_
   exact ⟨hF_.set 6 rfl,⟨M,cs7,b8,e7,e8,k8,k9,k11,k1,hI⟩⟩
  ·obtain rfl:=bZ ‹_›
   have VA:=ct ‹_›
   rw [‹D 3=true›,‹D 4=true›,‹D 5=true›,bP] at hI
   obtain ⟨va,vn,vc,hv9⟩:=Inv.rowSlice hI 3 rfl
   refine c8 hI 2 (n:=1) (by rw [hv9]; rfl) (by decide +kernel) rfl (by simp) (by rw [hv9]; simp [Value.cells,Value.oneCell']) fun w_ hI=>?_
   have hcl9:Value.cells oM=#[oM]:=by rw [hv9]; rfl
   rw [hcl9] at hI
   have k1:=fun (_:aF D 7 7=true)=>‹D 1=true›
   have k11:=fun (_:aF D 7 7=true)=>‹D 5=true›
   have hI:Inv w [] (bf (.blk b7 (.cells c7.toArray ac)) (.blk b4 (.cells #[.int .i64 0,.int .i64 0,.string ⟨#[]⟩,.slice none 0 0] ac)) (.blk b5 (.cells #[.int .i64 k,.int .i64 0,.string s,kvc] ac)) (.blk b5 (.cells #[.int .i64 k,.int .i64 0,.string s,oM] ac)) (aJ kvc ac 4 css) (aJ oM ac 4 (css++[cs7])) (bv Ls.flatten) M (.blk b8 (.cells cs7.toArray ac)) (D 3) (D 4) (D 5) true) S1 w_:=by
    rw [‹D 3=true›,‹D 4=true›,‹D 5=true›]
    exact hI
   exact ⟨hF_.set 7 trivial,⟨M,cs7,b8,e7,e8,k8,k9,k11,k1,hI⟩⟩
  obtain ⟨rfl,rfl,rfl,g3_,Q1,VA,rfl,_,_⟩:=hF_.all
  have d3_:D 3=true:=by assumption
  have d4_:D 4=true:=by assumption
  have ZS:D 5=true:=by assumption
  have EA:D 7=true:=by assumption
  clear hF_ cm cj cd ci bT ct bZ cR
  obtain ⟨_,hT⟩:=e7 d3_
  rw [d3_,d4_,ZS,EA] at hI
  refine bq (by omega) ?_
  refine ⟨⟨j+1,oM,Ls++[M],css++[cs7],hj',rfl,?_,?_⟩,by simp [intOf]; omega⟩
  ·rw [RW st ks j hj']
   exact hg'.snoc hT hT.length
  ·simp only [wc,iE,tM,dB,eC]
   refine hI.sub ?_
   simp only [bf]
   rw [<- eW]
   exact ((((dr _ _).cons_cons _).cons_cons _).cons_cons _).cons _
 ·have:j=ks.length:=by omega
  subst this
  rw [fk] at hg'
  obtain ⟨va,vn,vc,hvk'⟩:=hI.rowSlice 2 rfl
  have hv1:kvc.oneCell'=true:=by rw [hvk']; rfl
  refine ar hI 1 ad rfl rfl ?_
  refine aA hI 0 rfl ad rfl rfl ?_ fun w' hI=>?_
  ·intro u hu
   have hu':u∈([.int .i64 k,.int .i64 0,.string s,kvc]:List Value):=hu
   simp at hu'
   rcases hu' with rfl|rfl|rfl|rfl <;> first|rfl|exact hv1
  refine bC hI 0 ad rfl rfl ?_
  have hI:Inv w [] ([]++(aJ kvc ac 4 css::bv Ls.flatten)) S1 w':=hI.sub (dX [_,_] _)
  obtain ⟨L,hT,hI⟩:=Inv.rowTree hI hg'
  exact ⟨_,_,_,rfl,hI.less hle,Ext.refl _ _ _,rfl,_,L,rfl,rfl,TrT.iff.2 ⟨kvc,rfl,h1,by simp [inI,r5,T.n],hs,hT⟩⟩
end
end
section
open Go Go.RowKit
section
variable {P:Program} {w w0:World} {X:List Nat} {L:List Item} {S:af} {K:Value->World->Prop}
attribute [local irreducible] Run CondV aw aN
theorem YL (h:Inv w0 X L S w) {T ty e E:TypeId} {k by_ n g o cp:Nat} {z:Value} {cs:List Bool} {cur:Array Value} (i:Nat)
  (hT:nq P T=some (e,k,by_,z)) (hi:L[i]?=some (.blk g (.cells cur E))) (hfit:o+n * k<=cur.size) (hn:0<n) (h1:∀ u∈(Builtin.zeroCells z.cells n).toList,u.oneCell'=true)
  (hk:∀ w',Inv w0 X (L.set i (.blk g (.cells (bl cur o (Builtin.zeroCells z.cells n).toList) E))) S w'->K (.tuple #[]) w') :
  Run P (bD .clear #[T] ty cs [.slice (some ⟨g,o,none⟩) n cp]) w K:=by
 obtain ⟨hu,inf,hi',hz,hs,hb,hzs⟩:=iW hT
 have hg:=h.its _ (b0 hi)
 simp only [Item.holds] at hg
 obtain ⟨n',rfl⟩:∃ n',n=n'+1:=⟨n - 1,by omega⟩
 have hst:=run_storeCells_at P g o E (Builtin.zeroCells z.cells (n'+1)).toList 0 cur w hg (by rw [IV,size_zeroCells,hzs]; simpa using hfit) h1
 simp only [ud] at hst
 refine Run.of (v:=.tuple #[]) (w':=w.setRow g (bl cur o (Builtin.zeroCells z.cells (n'+1)).toList)) ?_ (hk _ (h.setBlk hi _ (Bp hg)))
 simp [bD,builtin,Builtin.clear_,run_underlying hu,zeroValue,typeInfo,hi',hz,hst,bl]
end
end
section
open Go Go.RowKit

theorem CS {α:Type} (p:α->Bool):∀ (xs:List α) (k:Nat),((ce (σ:=Unit) (fun _ x=>(p x,())) () xs k).1=-1/\xs.filter (fun x=>!p x)=xs) ∨
  ∃ j,∃ h:j<xs.length,(ce (σ:=Unit) (fun _ x=>(p x,())) () xs k).1=((k+j:Nat):Int)/\p xs[j]=true/\(xs.take j).filter (fun x=>!p x)=xs.take j
 | [],k=>.inl ⟨rfl,rfl⟩
 | x::xs,k=>by
  rw [ce]
  cases hp:p x with
  | true=>exact .inr ⟨0,by simp,by simp,by simpa using hp,by simp⟩
  | false=>
   rcases CS p xs (k+1) with ⟨h1,h2⟩|⟨j,hj,h1,h2,h3⟩
   ·refine .inl ⟨by simpa using h1,?_⟩
    rw [lK,hp]
    simp [h2]
   ·refine .inr ⟨j+1,by simpa using hj,?_,by simpa using h2,?_⟩
    ·simp only [F0,if_false]
     rw [h1]
     congr 1
     omega
    ·rw [mN,lK,hp]
     simp [h3]
section
variable {P:Program} {w w0:World} {X:List Nat} {L:List Item} {S:af} {K:Value->World->Prop}
attribute [local irreducible] Run CondV aw aN
theorem Zy {T e:TypeId} {k n c:Nat} {cx cy:Bool} {a:Option Addr} (hT:cL P T=some (e,k)) (hk:K (.bool a.isNone) w):Run P (cN .eql T cx cy (.slice a n c) (.slice none 0 0)) w K:=by
 obtain ⟨hu,_⟩:=ij hT
 refine Run.of (v:=.bool a.isNone) (w':=w) ?_ hk
 have he:(Op.equal T (.slice a n c) (.slice none 0 0)).run P w=.ok a.isNone w:=by
  rw [Op.equal,Op.maxDepth,Op.equalIn.eq_def]
  cases a <;> simp [run_underlying hu]
 have hg:∀ x y,(eqGuard .eql T x y (.slice a n c) (.slice none 0 0)).run P w=.ok () w:=fun x y=>by unfold eqGuard; simp
 simp only [cN,binOp,Sem.run_bind,hg,Result.andThen_ok,he,Sem.run_pure]
theorem Run.callVPure {f:FuncId} {fn:Func} {cap args:List Value} {r:Value} (hf:P.funcs[f]?=some fn) (hn:(fn.name == "runtime.NumGoroutine" || fn.body.isNone)=false) (h:Inv w0 X L S w) (hc:Pure P f (args++cap) S r)
  (hk:∀ w',Inv w0 X L S w'->K r w'):Run P (eO (fv f cap) args) w K:=by
 refine Run.callV (A:=L) (I:=[]) hf hn (by simpa using h) (Post:=fun v I' S'=>v=r/\I'=[]/\S'=S) ?_ fun v' I' S' w'=>?_
 ·intro w1 hI
  exact (hc w1 hI).mono fun e w' ⟨he,hI⟩=>⟨_,_,_,he,hI,Ext.refl _ _ _,rfl,rfl,rfl⟩
 ·rintro ⟨rfl,rfl,rfl⟩ _ hI
  exact hk _ (by simpa using hI)
end
section
attribute [local irreducible] Run CondV aw aN
theorem p6 {xs:List T} {S:af} {v:Value} (h:RdSl S 4 (RdT S) v xs) (hl:xs.length<=4000000000):Tri Tryz.prog FA [v] [] S fun r I' S'=>S'=S/\∃ css,I'=[aJ r ac 4 css]/\Rows 4 (RdT S) css xs:=by
 intro w hI
 obtain ⟨a,cap,rfl,hlc,hcm,hx⟩:=id h
 refine ry.2 ?_
 dsimp only[ry,aL]
 refine Zy ae ?_
 cases a with
 | none=>
  refine az (fun _=>?_) (fun hb=>by cases hb)
  rcases hx with rfl|⟨b,o,c,E,fz,hc,_⟩
  ·exact ⟨_,_,_,rfl,hI.rowNil ac 4,Ext.refl _ _ _,rfl,[],rfl,Rows.nil _ _⟩
  ·cases hc
 | some a=>
  refine az (fun hb=>by cases hb) (fun _=>?_)
  refine eQ hI bj fun v0 w' hI=>?_
  refine mt (css:=[]) hI 0 bj (by omega) rfl h (fun _ _=>RdT.length) (fun _ _=>RdT.one) (by simp; omega) (by omega) fun v1 w' css2 hR hI=>?_
  exact ⟨_,_,_,rfl,hI,Ext.refl _ _ _,rfl,css2,rfl,hR⟩
theorem sq {f:FuncId} {fn:Func} {cap:List Value} {S:af} {p:T->Bool} {xs:List T} {v:Value} {css:List (List Value)} (hf:Tryz.prog.funcs[f]?=some fn) (hn:(fn.name == "runtime.NumGoroutine" || fn.body.isNone)=false)
  (hcall:∀ (S':af),Sle S S'->∀ x∈xs,∀ cs,RdT S' cs x->Pure Tryz.prog f (.agg cs.toArray::cap) S' (.bool (p x))) (hR:Rows 4 (RdT S) css xs) (hl:xs.length<=1000000000) :
  Tri Tryz.prog vo [v,fv f cap] [aJ v ac 4 css] S fun r I' S'=>I'=[]/\RdSl S' 4 (RdT S') r (xs.filter fun x=>!p x):=by
 intro w hI
 obtain ⟨X,hX⟩:∃ X,X=bI [aJ v ac 4 css]:=⟨_,rfl⟩
 rw [<- hX] at hI ⊢
 have hcl:=hR.hc
 refine kZ.2 ?_
 dsimp only[kZ,aZ]
 obtain ⟨hfl,ho⟩:=Inv.openRow (A:=[]) hI
 rcases ho with ⟨rfl,h0⟩|⟨g,cp,cur,rfl,hnc,hcm,hcs,ht,hI⟩
 ·have:xs=[]:=gr (by omega)
  subst this
  have hrr:RdSl S 4 (RdT S) (.slice none 0 0) ([]:List T):=⟨none,0,rfl,aR _,be _,.inl rfl⟩
  have hcb:Cb Tryz.prog f fn cap S (fun _:Unit=>[]) (fun _=>True) (fun _ x=>(p x,())) (fun v x=>∃ cs,v=.agg cs.toArray/\RdT S cs x) ([]:List T):=
   Cb.pure [] hf hn fun x u hx=>by simp at hx
  refine Run.call0 fH fJ hI (jA hcb hrr (st:=()) trivial) fun t10 I' S' w'=>?_
  rintro ⟨rfl,rfl,rfl⟩ _ hI
  refine bo ?_
  refine aI (fun _=>?_) (fun hb=>absurd rfl hb)
  exact ⟨_,_,_,rfl,hI.nil,Ext.refl _ _ _,rfl,hrr⟩
 have hgX:g∈X:=by rw [hX]; simp [bI,Item.foot,Value.ownBlock]
 rw [hcl] at hnc
 have hcell:∀ i (h:i<xs.length),RdT S (aO cur (i * 4) 4) xs[i]:=by
  intro i hi
  have h1:=gK 4 css i hR.hk (by omega)
  have hik:i * 4+4<=css.length * 4:=by omega
  rw [<- ht,Lc,mJ,kD (by omega)] at h1
  rw [aO,h1]
  exact hR.hR i hi (by omega)
 simp only [maxLen] at hcm
 have hfin:∀ (w':World) (c':Array Value) (m:Nat) (ys:List T),Inv w X [.blk g (.cells c' ac)] S w'->m=ys.length->m<=cp->(∀ i (h:i<ys.length),RdT S (aO c' (i * 4) 4) ys[i])->
   ∃ v' I' S',Ending.returned (.slice (some ⟨g,0,none⟩) m cp)=Ending.returned v'/\Inv w X I' S' w'/\Ext w.heap.size X S S'/\I'=[]/\RdSl S' 4 (RdT S') v' ys:=by
  intro w' c' m ys hI hm hmc hy
  subst hm
  obtain ⟨h1,h2⟩:=Inv.publishLast (L:=[]) hI
  refine ⟨_,[],jj S g (.cells c' ac),rfl,h1,⟨h2,fun b o hb=>?_⟩,rfl,some ⟨g,0,none⟩,cp,rfl,hmc,by simp only [maxLen]; omega,.inr ⟨g,0,c',ac,(0,0),rfl,by simp [jj],fun i hi=>?_⟩⟩
  ·simp only [jj] at hb
   split at hb
   ·rename_i e; subst e; exact .inr (.inl hgX)
   ·exact .inl hb
  ·rw [bR]
   exact (hy i hi).mono h2
 have hI:Inv w X ([]++bv [(g,.cells cur ac)]) S w:=hI
 obtain ⟨S1,hle,hins,hI1,hback⟩:=Inv.lendAll _ hI
 have hrr:RdSl S1 4 (RdT S1) (.slice (some ⟨g,0,none⟩) css.length cp) xs:=by
  rw [hcl]
  exact ⟨_,cp,rfl,hnc,by simp only [maxLen]; omega,.inr ⟨g,0,cur,ac,(0,0),rfl,hins _ (aT ..),fun i hi=>by rw [bR]; exact (hcell i hi).mono hle⟩⟩
 have hcb:Cb Tryz.prog f fn cap S1 (fun _:Unit=>[]) (fun _=>True) (fun _ x=>(p x,())) (fun v x=>∃ cs,v=.agg cs.toArray/\RdT S1 cs x) xs:=
  Cb.pure [] hf hn fun x u hx=>by
   rintro ⟨cs,rfl,hcs⟩ w1 hI
   exact (hcall S1 hle x hx cs hcs w1 hI).mono fun e w' ⟨he,hI⟩=>⟨_,_,_,he,hI,Ext.refl _ _ _,rfl,rfl,rfl⟩
 refine Run.call (A:=[]) fH fJ hI1 (jA hcb hrr (st:=()) trivial) fun t10 I' S' w'=>?_
 rintro ⟨rfl,rfl,rfl⟩ _ hI1
 have hI:Inv w X [.blk g (.cells cur ac)] S w':=hback _ _ hI1
 rw [hcl]
 refine bo ?_
 rcases CS p xs 0 with ⟨h1,h2⟩|⟨j0,hj0,h1,h2,h3⟩
 ·rw [h1]
  refine aI (fun _=>?_) (fun hb=>absurd rfl hb)
  rw [h2]
  exact hfin _ _ _ _ hI rfl hnc hcell
 rw [h1,bR]
 refine aI (fun hb=>by omega) (fun _=>?_)
 refine bq (by omega) ?_
 have htk:(xs.take (j0+1)).filter (fun x=>!p x)=xs.take j0:=by
  rw [fj hj0,UT,h3,lK,h2]
  simp
 refine ⟨fun a b w'=>∃ (j m:Nat) (c':Array Value),j0<j/\j<=xs.length/\a=.int .i64 j/\b=.int .i64 m/\m<j/\m=((xs.take j).filter fun x=>!p x).length/\c'.size=cur.size/\
   (∀ i (h:i<((xs.take j).filter fun x=>!p x).length),RdT S (aO c' (i * 4) 4) ((xs.take j).filter fun x=>!p x)[i])/\(∀ i (h:i<xs.length),j<=i->RdT S (aO c' (i * 4) 4) xs[i])/\Inv w X [.blk g (.cells c' ac)] S w',
  fun a _ _=>xs.length - (intOf a).toNat,⟨j0+1,j0,cur,by omega,by omega,by congr 1,rfl,by omega,by rw [htk,dK]; omega,rfl,?_,fun i hi _=>hcell i hi,hI⟩,?_⟩
 ·rw [htk]
  intro i hi
  rw [DP]
  exact hcell i (by simp at hi; omega)
 intro t6 _ _ t5 _ _ _ _ _ _ _ _ _ _ _ _ _ _ _ _ _ _ _ w'
 rintro ⟨j,m,c',hj0j,hj,rfl,rfl,hmj,hm,hcsz,hA,hB,hI⟩
 refine eP ae ?_
 refine bF ?_
 refine aI (fun hji=>?_) (fun hji=>?_)
 ·have hj':j<xs.length:=by omega
  have hts:(xs.take (j+1)).filter (fun x=>!p x)=(xs.take j).filter (fun x=>!p x)++(if p xs[j]=true then [] else [xs[j]]):=by
   rw [fj hj',UT,lK]
   cases p xs[j] <;> simp
  have hRj:=hB j hj' (aR _)
  have hlj:=hRj.length
  refine ⟨fun b w'=>∃ (m':Nat) (c2:Array Value),b=.int .i64 m'/\m'<j+1/\m'=((xs.take (j+1)).filter fun x=>!p x).length/\c2.size=cur.size/\
    (∀ i (h:i<((xs.take (j+1)).filter fun x=>!p x).length),RdT S (aO c2 (i * 4) 4) ((xs.take (j+1)).filter fun x=>!p x)[i])/\(∀ i (h:i<xs.length),j+1<=i->RdT S (aO c2 (i * 4) 4) xs[i])/\Inv w X [.blk g (.cells c2 ac)] S w',?_,?_⟩
  ·refine aD ae hj' ?_
   rw [bR]
   refine eE hI 0 (aO c' (j * 4) 4) ad rfl hlj (fun i v hi=>aK rfl i v hi) ?_
   refine aV hI aY fun b7 w' hI=>?_
   refine aA hI 1 rfl ad (by simpa using hlj) rfl (by simpa using hRj.one) fun w' hI=>?_
   refine ar hI 1 ad rfl (by simpa using hlj) ?_
   refine Run.callVPure hf hn hI (hcall S (Sle.refl S) xs[j] (bA hj') _ hRj) fun w' hI=>?_
   refine bX ?_
   cases hp:p xs[j]
   ·refine az (fun _=>?_) (fun hb=>by cases hb)
    have htl:(xs.take (j+1)).filter (fun x=>!p x)=(xs.take j).filter (fun x=>!p x)++[xs[j]]:=by rw [hts,hp]; rfl
    refine ar hI 1 ad rfl (by simpa using hlj) ?_
    refine aD ae (show m<xs.length by omega) ?_
    rw [bR]
    refine FI hI 0 rfl ad (by simpa [Value.cells] using hlj) (Nat.ble_eq_true_of_le (by omega)) (by simpa [Value.cells] using hRj.one) fun w' hI=>?_
    refine bq (by omega) ?_
    refine ⟨m+1,bl c' (m * 4) (aO c' (j * 4) 4),by congr 1,by omega,by rw [htl]; simp; omega,?_,?_,?_,hI.pick [true,false]⟩
    ·rw [eV _ _ _ (by omega)]; exact hcsz
    ·rw [htl]
     intro i hi
     by_cases hi2:i<((xs.take j).filter fun x=>!p x).length
     ·rw [gt hi2,fN (by omega) (by omega)]
      exact hA i hi2
     ·have hie:i=m:=by simp at hi; omega
      subst hie
      rw [fP (by omega)]
      have hps:=ie (c:=c') (o:=i * 4) (vs:=aO c' (j * 4) 4) (by omega)
      rw [hlj] at hps
      rw [hps]
      simpa using hRj
    ·intro i hi hji2
     rw [fN (by omega) (by omega)]
     exact hB i hi (by omega)
   ·refine az (fun hb=>by cases hb) (fun _=>?_)
    have htl:(xs.take (j+1)).filter (fun x=>!p x)=(xs.take j).filter (fun x=>!p x):=by rw [hts,hp]; simp
    refine ⟨m,c',rfl,by omega,by rw [htl]; exact hm,hcsz,by rw [htl]; exact hA,fun i hi h2=>hB i hi (by omega),hI.pick [true,false]⟩
  ·intro t5 _ _ _ _ _ _ _ _ _ _ _ _ _ _ _ w'
   rintro ⟨m',c2,rfl,hm1,hm2,hcs2,hA2,hB2,hI⟩
   refine bq (by omega) ?_
   exact ⟨⟨j+1,m',c2,by omega,hj',by congr 1,rfl,hm1,hm2,hcs2,hA2,hB2,hI⟩,by simp [intOf]; omega⟩
 ·have:j=xs.length:=by omega
  subst this
  rw [fk] at hm hA
  refine tN ae (show m<=xs.length by omega) ?_
  rw [ah (by omega)]
  have ead:(some (⟨g,0,none⟩:Addr)).map (·.add (m * 4))=some ⟨g,m * 4,none⟩:=by rw [rj,fx,bR]
  rw [ead]
  have hzl:(Builtin.zeroCells (Value.agg #[.int .i64 0,.int .i64 0,.string ⟨#[]⟩,.slice none 0 0]).cells (xs.length - m)).toList.length=(xs.length - m) * 4:=by
   rw [IV,size_zeroCells]; rfl
  refine YL (n:=xs.length - m) (o:=m * 4) hI 0 bj rfl (by omega) (by omega) ?_ fun w' hI=>?_
  ·intro u hu
   simp only [Builtin.zeroCells,Array.toList_map,eF] at hu
   obtain ⟨q,_,rfl⟩:=hu
   have hq4:q % (Value.agg #[.int .i64 0,.int .i64 0,.string ⟨#[]⟩,.slice none 0 0]).cells.size<4:=ue _ (by decide)
   generalize q % (Value.agg #[.int .i64 0,.int .i64 0,.string ⟨#[]⟩,.slice none 0 0]).cells.size=r at hq4
   match r,hq4 with
   | 0,_|1,_|2,_|3,_=>rfl
  refine xV ae (show m<=cp by omega) ?_
  rw [ah (by omega)]
  have ead0:(some (⟨g,0,none⟩:Addr)).map (·.add (0 * 4))=some ⟨g,0,none⟩:=by rw [rj,fx]
  rw [ead0]
  refine hfin _ _ _ _ hI hm (by omega) fun i hi=>?_
  rw [fN (by omega) (by omega)]
  exact hA i hi
end
end
section
open Go Go.RowKit
mutual
def qq (φ:Int->T):T->T
 | .mk k n s ks=>if k=1 then φ n else .mk k n s (pf φ ks)
def pf (φ:Int->T):List T->List T
 | []=>[]
 | t::ts=>qq φ t::pf φ ts
end
theorem l7 (φ:Int->T):∀ ts:List T,pf φ ts=ts.map (qq φ)
 | []=>rfl
 | t::ts=>by rw [pf,l7 φ ts]; rfl
theorem Hl (φ:Int->T) (ks:List T) (j:Nat) (h:j<ks.length):pf φ (ks.take (j+1))=pf φ (ks.take j)++[qq φ ks[j]]:=by
 rw [l7,l7,fj h,BD]; rfl
def Fun (f:FuncId) (cap:List Value) (S:af) (φ:Int->T):Prop:=∀ S',Sle S S'->∀ n:Int,0<=n->n<=25->∃ cs,RdT S' cs (φ n)/\Pure Tryz.prog f (.int .i64 n::cap) S' (.agg cs.toArray)
theorem Fun.mono {f:FuncId} {cap:List Value} {S S':af} {φ:Int->T} (h:Fun f cap S φ) (hs:Sle S S'):Fun f cap S' φ:=fun S2 h2=>h S2 (hs.trans h2)
abbrev aaq (t:T):Value->List Item->af->Prop:=fun v I' S'=>I'=[]/\∃ cs,v=.agg cs.toArray/\RdT S' cs t
section
attribute [local irreducible] Run CondV aw aN
theorem wY {f:FuncId} {fn:Func} (cap:List Value) (φ:Int->T) (hf:Tryz.prog.funcs[f]?=some fn) (hn:(fn.name == "runtime.NumGoroutine" || fn.body.isNone)=false) :
  ∀ (t:T) (S:af) (cs:List Value),RdT S cs t->okV t->wT t<=1048576->Fun f cap S φ->Tri Tryz.prog nJ [.agg cs.toArray,fv f cap] [] S (aaq (qq φ t)):=by
 refine T.ind fun k n s ks ih S cs h hv hw hφ=>?_
 intro w hI
 obtain ⟨kv,rfl,h1,h2,hs,hks⟩:=RdT.iff.1 h
 simp only [T.name,T.kids,T.kind,T.n] at h1 h2 hs hks ⊢
 simp only [wT] at hw
 rw [okV] at hv
 have hvk:=hv.2
 refine ig.2 ?_
 dsimp only[ig,aZ]
 refine bt hI fun b2 w' hI=>?_
 refine aV hI aY fun b4 w' hI=>?_
 refine ag hI 0 rfl aP aH rfl ?_
 refine bo ?_
 rw [qq]
 refine aI (fun hk1=>?_) (fun hk1=>?_)
 ·rw [ai hk1]
  obtain ⟨hn0,hn25⟩:=hv.1 hk1
  refine ag hI 0 rfl bh aH rfl ?_
  obtain ⟨ds,hds,hp⟩:=hφ S (Sle.refl S) n hn0 hn25
  refine Run.callVPure hf hn hI hp fun w' hI=>?_
  refine aA hI 1 rfl ad (by simpa using hds.length) rfl (by simpa using hds.one) fun w' hI=>?_
  refine bC hI 1 ad rfl (by simpa using hds.length) ?_
  exact ⟨_,_,_,rfl,hI.pick [false,false],Ext.refl _ _ _,rfl,ds,rfl,hds⟩
 rw [ah hk1]
 refine ag hI 0 rfl al aj rfl ?_
 refine dh hI 0 rfl al aj rfl rfl rfl fun w' hI=>?_
 refine aC hks ae ?_
 have hI:Inv w [] [.blk b4 (.cells #[.int .i64 0,.int .i64 0,.string ⟨#[]⟩,.slice none 0 0] ac),.blk b2 (.cells #[.int .i64 k,.int .i64 n,.string s,.slice none 0 0] ac)] S w':=hI.perm (List.Perm.swap _ _ _)
 have hI:=hI.rowNil ac 4
 refine ⟨fun i w'=>∃ (j:Nat) (kvc:Value) (css:List (List Value)) (S1:af),j<=ks.length/\i=.int .i64 j/\Ext w.heap.size [] S S1/\Rows 4 (RdT S1) css (pf φ (ks.take j))/\
   Inv w [] [.blk b4 (.cells #[.int .i64 0,.int .i64 0,.string ⟨#[]⟩,.slice none 0 0] ac),.blk b2 (.cells #[.int .i64 k,.int .i64 n,.string s,kvc] ac),aJ kvc ac 4 css] S1 w',
  fun i _=>ks.length - (intOf i).toNat,⟨0,_,[],S,be _,rfl,Ext.refl _ _ _,Rows.nil _ _,hI⟩,?_⟩
 intro t20 _ _ _ _ _ _ _ _ _ _ _ _ _ w'
 rintro ⟨j,kvc,css,S1,hj,rfl,hE,hg,hI⟩
 refine bF ?_
 refine aI (fun hji=>?_) (fun hji=>?_)
 ·have hj':j<ks.length:=by omega
  have hjl:(ks.take j).length=j:=by simp; omega
  have hcl:=hg.hc
  rw [l7,jH] at hcl
  have hm:=bA hj'
  have hwm:=jI hm
  refine cE hI (hks.monoT hE.1) ae ad hj' (fun _ _=>RdT.length) fun cs0 hcs0=>?_
  refine aV hI aY fun b7 w' hI=>?_
  have hI:=hI.perm (M:=.blk b7 _::[.blk b4 (.cells #[.int .i64 0,.int .i64 0,.string ⟨#[]⟩,.slice none 0 0] ac),.blk b2 (.cells #[.int .i64 k,.int .i64 n,.string s,kvc] ac),aJ kvc ac 4 css]) (cu (l₁:=[_]))
  refine aA hI 0 rfl ad (by simpa using hcs0.length) rfl (by simpa using hcs0.one) fun w' hI=>?_
  refine ⟨fun D v9 iq qs jL r2 lE fF kU w_=>Fx D 0 [kU=.pointer (some ⟨b2,3,none⟩),fF=kvc,lE=.agg cs0.toArray,r2=fv f cap,True,True,True,v9=.pointer (some ⟨b2,3,none⟩),True]/\∃ SN cs7 b8,Ext w.heap.size [] S1 SN/\(D 4=true->jL=.agg cs7.toArray/\RdT SN cs7 (qq φ ks[j]))/\(D 5=true->qs=.slice (some ⟨b8,0,none⟩) 1 1)/\(D 5=true->D 4=true)/\(D 6=true->D 5=true)/\(D 8=true->D 6=true)/\(D 8=true->D 1=true)/\Inv w [] (bf (.blk b7 (.cells cs0.toArray ac)) (.blk b4 (.cells #[.int .i64 0,.int .i64 0,.string ⟨#[]⟩,.slice none 0 0] ac)) (.blk b2 (.cells #[.int .i64 k,.int .i64 n,.string s,kvc] ac)) (.blk b2 (.cells #[.int .i64 k,.int .i64 n,.string s,iq] ac)) (aJ kvc ac 4 css) (aJ iq ac 4 (css++[cs7])) [] [] (.blk b8 (.cells cs7.toArray ac)) false (D 5) (D 6) (D 8)) SN w_,⟨Fx.nil _ _,⟨S1,[],0,Ext.refl _ _ _,ba,ba,ba,ba,ba,ba,by simpa [bf] using hI.draw⟩⟩,⟨?_,?_,?_,?_,?_,?_,?_,?_,?_,trivial⟩,?_⟩
  all_goals (intro D bP; intros; rename_i v9 iq qs jL r2 lE fF kU w_ hA_; have hF_:=hA_.1; obtain ⟨⟨cm,cj,cd,ci,bT,ct,bZ,cR,dq,_⟩,⟨SN,cs7,b8,hN,e7,e8,k8,k9,k11,k1,hI⟩⟩:=hA_)
  ·refine aB al ?_
   exact ⟨hF_.set 0 rfl,⟨SN,cs7,b8,hN,e7,e8,k8,k9,k11,k1,hI⟩⟩
  ·obtain rfl:=cm ‹_›
   have f11:D 8=false:=bH.2 fun h=>by rw [k1 h] at bP; cases bP
   refine aX (b:=b2) hI 2 (c:=(#[.int .i64 k,.int .i64 n,.string s,kvc])) aj (by rw [f11]; rfl) rfl ?_
   have k1:=fun (_:aF D 1 8=true)=>(rfl:aF D 1 1=true)
   exact ⟨hF_.set 1 rfl,⟨SN,cs7,b8,hN,e7,e8,k8,k9,k11,k1,hI⟩⟩
  ·refine ar hI 0 ad rfl (by simpa using hcs0.length) ?_
   exact ⟨hF_.set 2 rfl,⟨SN,cs7,b8,hN,e7,e8,k8,k9,k11,k1,hI⟩⟩
  ·exact ⟨hF_.set 3 rfl,⟨SN,cs7,b8,hN,e7,e8,k8,k9,k11,k1,hI⟩⟩
  ·obtain rfl:=cd ‹_›
   obtain rfl:=ci ‹_›
   have f8:D 5=false:=bH.2 fun h=>by rw [k8 h] at bP; cases bP
   have f9:D 6=false:=bH.2 fun h=>by rw [k9 h] at f8; cases f8
   have f11:D 8=false:=bH.2 fun h=>by rw [k11 h] at f9; cases f9
   rw [f8,f9,f11] at hI
   refine Run.callE (I:=[]) ft fy (by simpa using hI) (ih _ (bA hj') SN cs0 (hcs0.mono hN.1) (qi hvk _ (bA hj')) (by omega) ((hφ.mono hE.1).mono hN.1)) fun v' I' SN w_=>?_
   rintro ⟨rfl,cs7,rfl,hT⟩ hE2 hI
   have hN:=hN.trans hE2
   have e7:aF D 4 4=true->Value.agg cs7.toArray=Value.agg cs7.toArray/\RdT SN cs7 (qq φ ks[j]):=fun _=>⟨rfl,hT⟩
   have k8:=fun (_:aF D 4 5=true)=>(rfl:aF D 4 4=true)
   have hI:Inv w [] (bf (.blk b7 (.cells cs0.toArray ac)) (.blk b4 (.cells #[.int .i64 0,.int .i64 0,.string ⟨#[]⟩,.slice none 0 0] ac)) (.blk b2 (.cells #[.int .i64 k,.int .i64 n,.string s,kvc] ac)) (.blk b2 (.cells #[.int .i64 k,.int .i64 n,.string s,iq] ac)) (aJ kvc ac 4 css) (aJ iq ac 4 (css++[cs7])) [] [] (.blk b8 (.cells cs7.toArray ac)) false (D 5) (D 6) (D 8)) SN w_:=by
    rw [f8,f9,f11]
    simpa [bf] using hI
   exact ⟨hF_.set 4 (by first|assumption|trivial),⟨SN,cs7,b8,hN,e7,e8,k8,k9,k11,k1,hI⟩⟩
  ·have Q1:=bT ‹_›
   have f9:D 6=false:=bH.2 fun h=>by rw [k9 h] at bP; cases bP
   have f11:D 8=false:=bH.2 fun h=>by rw [k11 h] at f9; cases f9
   obtain ⟨q7,hT⟩:=e7 ‹D 4=true›
   subst q7
   rw [bP,f9,f11] at hI
   refine d5 hI bj (by simp [Value.cells,hT.length]) (by omega) (by omega) fun b8 w_ hI=>?_
   have e7:aF D 5 4=true->Value.agg cs7.toArray=Value.agg cs7.toArray/\RdT SN cs7 (qq φ ks[j]):=fun _=>⟨rfl,hT⟩
   have e8:=fun (_:aF D 5 5=true)=>(rfl:Value.slice (some ⟨b8,0,none⟩) 1 1=_)
   have k8:=fun (_:aF D 5 5=true)=>‹D 4=true›
   have k9:=fun (_:aF D 5 6=true)=>(rfl:aF D 5 5=true)
   have hI:Inv w [] (bf (.blk b7 (.cells cs0.toArray ac)) (.blk b4 (.cells #[.int .i64 0,.int .i64 0,.string ⟨#[]⟩,.slice none 0 0] ac)) (.blk b2 (.cells #[.int .i64 k,.int .i64 n,.string s,kvc] ac)) (.blk b2 (.cells #[.int .i64 k,.int .i64 n,.string s,iq] ac)) (aJ kvc ac 4 css) (aJ iq ac 4 (css++[cs7])) [] [] (.blk b8 (.cells cs7.toArray ac)) false true (D 6) (D 8)) SN w_:=by
    rw [f9,f11]
    simpa [bf,Value.cells] using hI
   exact ⟨hF_.set 5 (by first|assumption|trivial),⟨SN,cs7,b8,hN,e7,e8,k8,k9,k11,k1,hI⟩⟩
  ·obtain rfl:=cj ‹_›
   have VA:=ct ‹_›
   have f11:D 8=false:=bH.2 fun h=>by rw [k11 h] at bP; cases bP
   have q8:=e8 ‹D 5=true›
   subst q8
   obtain ⟨_,hT⟩:=e7 ‹D 4=true›
   rw [‹D 5=true›,bP,f11] at hI
   have hblk:((bf (.blk b7 (.cells cs0.toArray ac)) (.blk b4 (.cells #[.int .i64 0,.int .i64 0,.string ⟨#[]⟩,.slice none 0 0] ac)) (.blk b2 (.cells #[.int .i64 k,.int .i64 n,.string s,fF] ac)) (.blk b2 (.cells #[.int .i64 k,.int .i64 n,.string s,iq] ac)) (aJ fF ac 4 css) (aJ iq ac 4 (css++[cs7])) [] [] (.blk b8 (.cells cs7.toArray ac)) false true false false))[4]?=some (.blk b8 (.cells cs7.toArray ac)):=rfl
   refine dQ hI 3 cs7 bj (by omega) rfl (by rw [hT.length]) (m:=1) (o:=0) ?_ hT.one (by omega) (by omega) fun v' w_ hI=>?_
   ·intro i u hi
    rw [hI.cellL hblk,bR]
    simpa using hi
   rw [eG] at hI
   have k9:=fun (_:aF D 6 6=true)=>‹D 5=true›
   have k11:=fun (_:aF D 6 8=true)=>(rfl:aF D 6 6=true)
   have hI:Inv w [] (bf (.blk b7 (.cells cs0.toArray ac)) (.blk b4 (.cells #[.int .i64 0,.int .i64 0,.string ⟨#[]⟩,.slice none 0 0] ac)) (.blk b2 (.cells #[.int .i64 k,.int .i64 n,.string s,fF] ac)) (.blk b2 (.cells #[.int .i64 k,.int .i64 n,.string s,v'] ac)) (aJ fF ac 4 css) (aJ v' ac 4 (css++[cs7])) [] [] (.blk b8 (.cells cs7.toArray ac)) false (D 5) true (D 8)) SN w_:=by
    rw [‹D 5=true›,f11]
    exact hI
   exact ⟨hF_.set 6 (by first|assumption|trivial),⟨SN,cs7,b8,hN,e7,e8,k8,k9,k11,k1,hI⟩⟩
  ·refine aB al ?_
   exact ⟨hF_.set 7 rfl,⟨SN,cs7,b8,hN,e7,e8,k8,k9,k11,k1,hI⟩⟩
  ·obtain rfl:=cR ‹_›
   have Q4:=bZ ‹_›
   rw [‹D 5=true›,‹D 6=true›,bP] at hI
   obtain ⟨va,vn,vc,hv9⟩:=Inv.rowSlice hI 3 rfl
   refine c8 hI 2 (n:=1) (by rw [hv9]; rfl) (by decide +kernel) rfl (by simp) (by rw [hv9]; simp [Value.cells,Value.oneCell']) fun w_ hI=>?_
   have hcl9:Value.cells iq=#[iq]:=by rw [hv9]; rfl
   rw [hcl9] at hI
   have k1:=fun (_:aF D 8 8=true)=>‹D 1=true›
   have k11:=fun (_:aF D 8 8=true)=>‹D 6=true›
   have hI:Inv w [] (bf (.blk b7 (.cells cs0.toArray ac)) (.blk b4 (.cells #[.int .i64 0,.int .i64 0,.string ⟨#[]⟩,.slice none 0 0] ac)) (.blk b2 (.cells #[.int .i64 k,.int .i64 n,.string s,kvc] ac)) (.blk b2 (.cells #[.int .i64 k,.int .i64 n,.string s,iq] ac)) (aJ kvc ac 4 css) (aJ iq ac 4 (css++[cs7])) [] [] (.blk b8 (.cells cs7.toArray ac)) false (D 5) (D 6) true) SN w_:=by
    rw [‹D 5=true›,‹D 6=true›]
    exact hI
   exact ⟨hF_.set 8 trivial,⟨SN,cs7,b8,hN,e7,e8,k8,k9,k11,k1,hI⟩⟩
  obtain ⟨rfl,rfl,rfl,rfl,Q1,VA,Q4,rfl,_,_⟩:=hF_.all
  have d4_:D 4=true:=by assumption
  have ZS:D 5=true:=by assumption
  have TH:D 6=true:=by assumption
  have LK:D 8=true:=by assumption
  clear hF_ cm cj cd ci bT ct bZ cR dq
  obtain ⟨_,hT⟩:=e7 d4_
  rw [ZS,TH,LK] at hI
  refine bq (by omega) ?_
  refine ⟨⟨j+1,iq,css++[cs7],SN,hj',rfl,hE.trans hN,?_,?_⟩,by simp [intOf]; omega⟩
  ·rw [Hl φ ks j hj']
   exact (Rows.monoR hg fun _ _ h=>h.mono hN.1).snoc hT hT.length
  ·refine hI.sub ?_
   simp only [bf]
   exact ((((MH _).cons_cons _).cons_cons _).cons_cons _).cons _
 ·have:j=ks.length:=by omega
  subst this
  rw [fk] at hg
  obtain ⟨va,vn,vc,hvk'⟩:=hI.rowSlice 2 rfl
  have hv1:kvc.oneCell'=true:=by rw [hvk']; rfl
  refine ar hI 1 ad rfl rfl ?_
  refine aA hI 0 rfl ad rfl rfl ?_ fun w' hI=>?_
  ·intro u hu
   have hu':u∈([.int .i64 k,.int .i64 n,.string s,kvc]:List Value):=hu
   simp at hu'
   rcases hu' with rfl|rfl|rfl|rfl <;> first|rfl|exact hv1
  refine bC hI 0 ad rfl rfl ?_
  have hI:Inv w [] ([]++[aJ kvc ac 4 css]) S1 w':=hI.sub (dX [_,_] _)
  obtain ⟨S2,hE2,hrd,hI⟩:=hI.lendExt
  exact ⟨_,_,_,rfl,hI,hE.trans hE2,rfl,_,rfl,RdT.iff.2 ⟨kvc,rfl,h1,h2,hs,(RowRd.rows hg hrd).mono (Sle.refl _) fun _ _ h=>h.mono hE2.1⟩⟩
end
end
section
open Go Go.RowKit

def Z1:List Int->Int->Int->Nat->Int
 | [],_,cur,_=>cur
 | x::xs,n,cur,k=>Z1 xs n (if x=n then (k:Int) else cur) (k+1)
def sS (vs:List Int) (n:Int):Int:=(ce (σ:=Unit) (fun _ x=>(decide (n=x),())) () vs 0).1
mutual
def UL (vs:List Int):T->T
 | .mk k n s ks=>.mk k (if k=1 then Z1 vs n n 0 else n) s (Id vs ks)
def Id (vs:List Int):List T->List T
 | []=>[]
 | t::ts=>UL vs t::Id vs ts
end
mutual
def pk (vs:List Int):T->T
 | .mk k n s ks=>if k=1 then .mk 1 (sS vs n) ⟨#[]⟩ [] else .mk k n s (gn vs ks)
def gn (vs:List Int):List T->List T
 | []=>[]
 | t::ts=>pk vs t::gn vs ts
end
theorem XQ (vs:List Int) (n:Int):-1<=sS vs n/\sS vs n<vs.length+1:=by
 have:∀ (xs:List Int) (k:Nat),-1<=(ce (σ:=Unit) (fun _ x=>(decide (n=x),())) () xs k).1/\(ce (σ:=Unit) (fun _ x=>(decide (n=x),())) () xs k).1<k+xs.length+1:=by
  intro xs
  induction xs with
  | nil=>intro k; simp [ce]; omega
  | cons x xs ih=>
   intro k
   rw [ce]
   have:=ih (k+1)
   split
   ·simp; omega
   ·simp only [bu]; omega
 have h:=this vs 0
 rw [sS]
 omega
mutual
def inT (vs:List Int):T->Prop
 | .mk k n _ ks=>(k=1->n∈vs)/\inL vs ks
def inL (vs:List Int):List T->Prop
 | []=>True
 | t::ts=>inT vs t/\inL vs ts
end
theorem FS (l:List Int) (n:Int):jO l n=true↔n∈l:=by
 simp [jO]
theorem PV (l:List Int) (n:Int):n∈jd l n/\∀ m∈l,m∈jd l n:=by
 unfold jd
 split
 ·rename_i h; exact ⟨(FS l n).1 h,fun m h=>h⟩
 ·exact ⟨by simp,fun m h=>by simp [h]⟩
theorem Sq {l:List Int} (n:Int) (h:l.Nodup):(jd l n).Nodup:=by
 unfold jd
 split
 ·exact h
 ·rename_i hn
  rw [oN]
  refine ⟨h,by simp,fun a ha b hb e=>hn ((FS l n).2 ?_)⟩
  simp at hb
  rw [<- hb,<- e]
  exact ha
mutual
theorem Vr:∀ (t:T) (l:List Int),∀ m∈l,m∈eI t l
 | .mk k n s ks,l,m,h=>by
  rw [eI]
  refine vg ks _ m ?_
  split
  ·exact (PV l n).2 m h
  ·exact h
theorem vg:∀ (ts:List T) (l:List Int),∀ m∈l,m∈bM ts l
 | [],l,m,h=>h
 | t::ts,l,m,h=>by
  rw [bM]
  exact vg ts _ m (Vr t l m h)
end
mutual
theorem Ov:∀ (t:T) (l:List Int),l.Nodup->(eI t l).Nodup
 | .mk k n s ks,l,h=>by
  rw [eI]
  refine te ks _ ?_
  split
  ·exact Sq n h
  ·exact h
theorem te:∀ (ts:List T) (l:List Int),l.Nodup->(bM ts l).Nodup
 | [],l,h=>h
 | t::ts,l,h=>by
  rw [bM]
  exact te ts _ (Ov t l h)
end
mutual
theorem O0 {vs ws:List Int} (h:∀ m∈vs,m∈ws):∀ t:T,inT vs t->inT ws t
 | .mk k n s ks,hi=>by
  rw [inT] at hi ⊢
  exact ⟨fun e=>h _ (hi.1 e),OD h ks hi.2⟩
theorem OD {vs ws:List Int} (h:∀ m∈vs,m∈ws):∀ ts:List T,inL vs ts->inL ws ts
 | [],_=>by simp [inL]
 | t::ts,hi=>by
  rw [inL] at hi ⊢
  exact ⟨O0 h t hi.1,OD h ts hi.2⟩
end
mutual
theorem XF:∀ (t:T) (l:List Int),inT (eI t l) t
 | .mk k n s ks,l=>by
  rw [eI,inT]
  refine ⟨fun e=>vg ks _ n ?_,pF ks _⟩
  rw [ai e]
  exact (PV l n).1
theorem pF:∀ (ts:List T) (l:List Int),inL (bM ts l) ts
 | [],l=>by simp [inL]
 | t::ts,l=>by
  rw [bM,inL]
  exact ⟨O0 (vg ts _) t (XF t l),pF ts _⟩
end
theorem WG {t:T} (h:dS t=true) (hk:t.kind=1):t.name=emptyB/\t.kids.length=0:=by
 unfold dS at h
 rw [ai hk] at h
 simp only [bw,bk] at h
 exact ⟨h.2.2.1,h.2.2.2⟩
theorem Cj (vs:List Int):∀ ts:List T,(Id vs ts).length=ts.length
 | []=>rfl
 | t::ts=>by rw [Id]; simp [Cj vs ts]
theorem l8 (vs:List Int):∀ ts:List T,(gn vs ts).length=ts.length
 | []=>rfl
 | t::ts=>by rw [gn]; simp [l8 vs ts]
theorem G8 (vs:List Int) (ts:List T) (j:Nat) (h:j<ts.length):gn vs (ts.take (j+1))=gn vs (ts.take j)++[pk vs ts[j]]:=by
 have:∀ (xs ys:List T),gn vs (xs++ys)=gn vs xs++gn vs ys:=by
  intro xs ys
  induction xs with
  | nil=>rfl
  | cons x xs ih=>simp [gn,ih]
 rw [fj h,this]; rfl
def Zf (vs:List Int) (c:C):C:=⟨UL vs c.head,Id vs c.body⟩
def aal (c:C):List Int:=dY (c.head::c.body) []
end
end Go.Proofs.YtgllldjiaglkcaaGreatDoor

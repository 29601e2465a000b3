/- What calls what, and what can be reached: both sides. -/
import Derived.Test.YtcpgagfdeflbkaaGreatDoorZMv4
import Derived.Test.YtcpgagfdeflbkaaGreatDoorZMv3
import Derived.Test.YtcpgagfdeflbkaaGreatDoorZMv14
import Derived.Test.YtcpgagfdeflbkaaGreatDoorZMv5
import Derived.Test.YtcpgagfdeflbkaaGreatDoorZMv6
import Derived.Test.YtcpgagfdeflbkaaGreatDoorZMv13
import Derived.Test.YtcpgagfdeflbkaaGreatDoorZMv8
namespace Go.Proofs.YtcpgagfdeflbkaaGreatDoor
section
open Go Go.RowKit
attribute [local irreducible] Run CondV ao aI

def iS (B blk rA rB rC:Item) (d0 d2 d4 d5:Bool):List Item:=
 B::((match d4 with|true=>[blk]|false=>[])++(match d5,d2,d0 with|true,_,_=>[rC]|false,true,_=>[rB]|false,false,true=>[rA]|false,false,false=>[]))
theorem CA (x:Pd) (l:List Pd) (v:Value) (S:ad) (hl:l.length<=1000000000):Tri Tryz.prog Gr [v,.agg x.cells.toArray] [fe v l] S (MO S (sc l x)):=by
 intro w hJ
 obtain ⟨xs,xn⟩:=x
 obtain ⟨X,hX⟩:∃ X,X=bp [fe v l]:=⟨_,rfl⟩
 rw [<- hX] at hJ ⊢
 refine uI.2 ?_
 dsimp only[uI,aR]
 refine bl hJ fun b3 w' hJ=>?_
 have hJ:=hJ.perm (M:=[.blk b3 (.cells #[.string xs,.int .i64 xn] aS),fe v l]) (List.Perm.swap _ _ _)
 refine aw hJ 0 bZ rfl rfl ?_
 obtain ⟨S1,hle,hrd,hI,hback⟩:=Inv.lend (A:=[_]) hJ
 have h:=hrd.preds
 refine Run.callPure Eu DQ hI (Cz ⟨xs,xn⟩ h) fun w' hI=>?_
 refine av (fun hb=>?_) (fun hb=>?_)
 ·rw [sc,if_pos hb]
  exact ⟨_,_,_,rfl,Inv.pick (hback _ _ hI) [false,true],Ext.refl _ _ _,rfl,rfl⟩
 ·rw [sc,if_neg (by rw [hb]; decide)]
  refine ⟨fun D x4 zp DU E3 GJ KZ x9 w_=>Fx D 0 [True,KZ=v,True,E3=.agg #[.string xs,.int .i64 xn],True,True,True]/\∃ b13:Nat,(D 4=true->DU=.slice (some ⟨b13,0,none⟩) 1 1)/\(D 2=true->D 0=true)/\(D 5=true->D 2=true)/\(D 5=true->D 4=true)/\(D 6=true->D 5=true/\x4=zp)/\Inv w X (iS (.blk b3 (.cells #[.string xs,.int .i64 xn] aS)) (.blk b13 (.cells #[.string xs,.int .i64 xn] aS)) (fe x9 []) (fe GJ l) (fe zp (l++[⟨xs,xn⟩])) (D 0) (D 2) (D 4) (D 5)) S1 w_,⟨Fx.nil _ _,⟨0,aM,aM,aM,aM,aM,hI.draw⟩⟩,⟨?_,?_,?_,?_,?_,?_,?_,trivial⟩,?_⟩
  all_goals (intro D bv; intros; rename_i x4 zp DU E3 GJ KZ x9 w_ hA_; have hF_:=hA_.1; obtain ⟨⟨ci,cd,cj,cc,cm,cr,bO,_⟩,⟨b13,k4,k2,k5,k54,k6,hI⟩⟩:=hA_)
  ·have e2:D 2=false:=Bool.eq_false_iff.2 fun h=>by rw [k2 h] at bv; cases bv
   have e5:D 5=false:=Bool.eq_false_iff.2 fun h=>by rw [k5 h] at e2; cases e2
   refine di hI ic fun v9 w_ hI=>?_
   have k2:=fun (h:az D 0 2=true)=>(show az D 0 0=true from rfl)
   have hI:Inv w X (iS (.blk b3 (.cells #[.string xs,.int .i64 xn] aS)) (.blk b13 (.cells #[.string xs,.int .i64 xn] aS)) (fe v9 []) (fe GJ l) (fe zp (l++[⟨xs,xn⟩])) true (D 2) (D 4) (D 5)) S1 w_:=by
    rw [e2,e5] at hI ⊢
    rw [bv] at hI
    cases h4:D 4 <;> rw [h4] at hI <;> exact hI
   exact ⟨hF_.set 0 (by first|assumption|trivial),⟨b13,k4,k2,k5,k54,k6,hI⟩⟩
  ·exact ⟨hF_.set 1 rfl,⟨b13,k4,k2,k5,k54,k6,hI⟩⟩
  ·have P6:=ci ‹_›
   obtain rfl:=cd ‹_›
   have e5:D 5=false:=Bool.eq_false_iff.2 fun h=>by rw [k5 h] at bv; cases bv
   have hI:Inv w X (iS (.blk b3 (.cells #[.string xs,.int .i64 xn] aS)) (.blk b13 (.cells #[.string xs,.int .i64 xn] aS)) (fe x9 []) (fe GJ l) (fe zp (l++[⟨xs,xn⟩])) true false (D 4) false) S1 w_:=by
    rw [e5,bv,‹D 0=true›] at hI
    exact hI
   have k2:=fun (h:az D 2 2=true)=>(show az D 2 0=true from ‹D 0=true›)
   have k5:=fun (h:az D 2 5=true)=>(show az D 2 2=true from rfl)
   cases h4:D 4
   ·rw [h4] at hI
    refine yz (f:=Pd.cells) hI 1 ic (by omega) rfl h (fun _ _ h=>h) (fun _=>rfl) (fun y c hc=>by simp [Pd.cells] at hc; rcases hc with rfl|rfl <;> rfl) (by simp; omega) (by omega) fun v' w_ hI=>?_
    have hI:Inv w X (iS (.blk b3 (.cells #[.string xs,.int .i64 xn] aS)) (.blk b13 (.cells #[.string xs,.int .i64 xn] aS)) (fe x9 []) (fe v' l) (fe zp (l++[⟨xs,xn⟩])) (D 0) true (D 4) (D 5)) S1 w_:=by
     rw [‹D 0=true›,h4,e5]
     have e:Item.row v' aS 2 (([]:List Pd).length+l.length) (pds []++l.flatMap Pd.cells)=fe v' l:=by simp [fe,pds]
     exact e ▸ hI
    exact ⟨hF_.set 2 trivial,⟨b13,k4,k2,k5,k54,k6,hI⟩⟩
   rw [h4] at hI
   refine yz (f:=Pd.cells) hI 2 ic (by omega) rfl h (fun _ _ h=>h) (fun _=>rfl) (fun y c hc=>by simp [Pd.cells] at hc; rcases hc with rfl|rfl <;> rfl) (by simp; omega) (by omega) fun v' w_ hI=>?_
   have hI:Inv w X (iS (.blk b3 (.cells #[.string xs,.int .i64 xn] aS)) (.blk b13 (.cells #[.string xs,.int .i64 xn] aS)) (fe x9 []) (fe v' l) (fe zp (l++[⟨xs,xn⟩])) (D 0) true (D 4) (D 5)) S1 w_:=by
    rw [‹D 0=true›,h4,e5]
    have e:Item.row v' aS 2 (([]:List Pd).length+l.length) (pds []++l.flatMap Pd.cells)=fe v' l:=by simp [fe,pds]
    exact e ▸ hI
   exact ⟨hF_.set 2 (by first|assumption|trivial),⟨b13,k4,k2,k5,k54,k6,hI⟩⟩
  ·refine aw hI 0 bZ rfl rfl ?_
   exact ⟨hF_.set 3 rfl,⟨b13,k4,k2,k5,k54,k6,hI⟩⟩
  ·obtain rfl:=cc ‹_›
   have e5:D 5=false:=Bool.eq_false_iff.2 fun h=>by rw [k54 h] at bv; cases bv
   refine du hI ic rfl (by omega) (by omega) fun b13 w_ hI=>?_
   have k4:=fun (_:az D 4 4=true)=>(rfl:Value.slice (some ⟨b13,0,none⟩) 1 1=_)
   have k54:=fun (_:az D 4 5=true)=>(rfl:az D 4 4=true)
   have hI:Inv w X (iS (.blk b3 (.cells #[.string xs,.int .i64 xn] aS)) (.blk b13 (.cells #[.string xs,.int .i64 xn] aS)) (fe x9 []) (fe GJ l) (fe zp (l++[⟨xs,xn⟩])) (D 0) (D 2) true (D 5)) S1 w_:=by
    rw [e5,bv] at hI
    rw [e5]
    cases h0:D 0 <;> cases h2:D 2 <;> rw [h0,h2] at hI
    ·exact hI
    ·exact hI.perm ((List.Perm.swap _ _ _).cons _)
    ·exact hI.perm ((List.Perm.swap _ _ _).cons _)
    ·exact hI.perm ((List.Perm.swap _ _ _).cons _)
   exact ⟨hF_.set 4 (by first|assumption|trivial),⟨b13,k4,k2,k5,k54,k6,hI⟩⟩
  ·have NA:=cj ‹_›
   have Ej:=cm ‹_›
   obtain rfl:=k4 ‹D 4=true›
   rw [‹D 4=true›,‹D 2=true›,bv] at hI
   refine cN hI 2 (k:=2) [.string xs,.int .i64 xn] ic (by omega) rfl rfl ?_ ?_ (by omega) (by omega) fun v' w_ hI=>?_
   ·intro j u hj
    rw [hI.cellL (i:=1) rfl]
    match j with
    | 0|1=>simpa [Value.cells] using hj
    | j+2=>simp at hj
   ·simp [Value.oneCell']
   have e:Item.row v' aS 2 (l.length+1) (pds l++[.string xs,.int .i64 xn])=fe v' (l++[⟨xs,xn⟩]):=by
    rw [show ([.string xs,.int .i64 xn]:List Value)=Pd.cells ⟨xs,xn⟩ from rfl,KO]; simp [fe]
   have hI:Inv w X (iS (.blk b3 (.cells #[.string xs,.int .i64 xn] aS)) (.blk b13 (.cells #[.string xs,.int .i64 xn] aS)) (fe x9 []) (fe GJ l) (fe v' (l++[⟨xs,xn⟩])) (D 0) (D 2) (D 4) true) S1 w_:=by
    rw [‹D 4=true›]
    exact e ▸ hI
   have k5:=fun (_:az D 5 5=true)=>‹D 2=true›
   have k54:=fun (_:az D 5 5=true)=>‹D 4=true›
   have k6:az D 5 6=true->az D 5 5=true/\x4=v':=fun h=>absurd (k6 h).1 (by rw [bv]; decide)
   exact ⟨hF_.set 5 (by first|assumption|trivial),⟨b13,k4,k2,k5,k54,k6,hI⟩⟩
  ·have IZ:=cr ‹_›
   have k6:=fun (_:az D 6 6=true)=>(⟨‹D 5=true›,rfl⟩:D 5=true/\zp=zp)
   exact ⟨hF_.set 6 (by first|assumption|trivial),⟨b13,k4,k2,k5,k54,k6,hI⟩⟩
  obtain ⟨P6,rfl,NA,rfl,Ej,IZ,Jc,_⟩:=hF_.all
  have N3:D 4=true:=by assumption
  have Lz:D 5=true:=by assumption
  have IB:D 6=true:=by assumption
  clear hF_ ci cd cj cc cm cr bO
  obtain ⟨_,rfl⟩:=k6 IB
  rw [Lz,N3] at hI
  exact ⟨_,_,_,rfl,(hI.less hle).pick [false,false,true],Ext.refl _ _ _,rfl,rfl⟩
end
section
open Go Go.RowKit
attribute [local irreducible] Run CondV ao aI

def Nv (l:List Pd) (ts:List T):List Pd:=ts.foldl (fun l t=>if fP t=true then sc l (dF t) else l) l
def IO (l:List Pd) (p:List C) (x:Pd):List Pd:=p.foldl (fun l c=>if mN (dF c.head) x=true then Nv l c.body else l) l
def JR (p:List C) (x:Pd):List Pd:=IO [] p x
theorem K5 (l:List Pd) (x:Pd):(sc l x).length<=l.length+1:=by
 unfold sc
 split
 ·omega
 ·simp
section
variable {P:Program} {w w0:World} {X:List Nat} {L:List Item} {S:ad} {K:Value->World->Prop}
end
end
section
open Go Go.RowKit
attribute [local irreducible] Run CondV ao aI
end
section
open Go Go.RowKit
attribute [local irreducible] Run CondV ao aI
end
section
open Go Go.RowKit
attribute [local irreducible] Run CondV ao aI
end
section
open Go Go.RowKit
attribute [local irreducible] Run CondV ao aI

def ce (l:List Pd) (p:List C):List Pd:=p.foldl (fun l c=>sc l (dF c.head)) l
def wI (p:List C):List Pd:=if cS p=true then ce [] p else []
def PM (p:List C) (x:Pd):List Pd:=if cS p=true then JR p x else []
theorem yv (l:List Pd) (p:List C) (k:Nat) (h:k<p.length):ce l (p.drop k)=ce (sc l (dF p[k].head)) (p.drop (k+1)):=by
 rw [List.drop_eq_getElem_cons h]; rfl
theorem tp {p:List C} {S:ad} {v:Value} (h:RdSl S 5 (RdC S) v p) (hp:p.length<=1100000):Tri Tryz.prog Cs [v] [] S (MO S (ce [] p)):=by
 intro w hI
 refine pn.2 ?_
 dsimp only[pn,aC]
 refine di hI ic fun v0 w' hI=>?_
 refine ⟨fun i t w'=>∃ (k:Nat) (l:List Pd),k<=p.length/\i=.int .i64 k/\ce l (p.drop k)=ce [] p/\l.length<=k/\Inv w [] [fe t l] S w',fun i _ _=>p.length - (intOf i).toNat,⟨0,[],Nat.zero_le _,rfl,rfl,Nat.le_refl _,hI⟩,?_⟩
 intro t4 _ _ t3 _ _ _ _ _ _ _ _ _ _ _ _ w'
 rintro ⟨k,l,hk,rfl,hrel,hl,hI⟩
 refine aD h aY ?_
 refine bC ?_
 refine aH (fun hki=>?_) (fun hki=>?_)
 ·have hk':k<p.length:=by omega
  rw [yv l p k hk'] at hrel
  have hal:=K5 l (dF p[k].head)
  obtain ⟨b,o,cap,c,E,fz,rfl,hS,hR⟩:=h.at_ hk'
  obtain ⟨hd,ks2,hcs,h1,h2⟩:=hR
  obtain ⟨kv,rfl,_,_,hs1,hk1⟩:=RdT.iff.1 h1
  refine aE aY hk' ?_
  refine aA bF ?_
  rw [Nat.add_zero]
  refine bK (cs:=[.int .i64 p[k].head.kind,.int .i64 p[k].head.n,.string p[k].head.name,kv]) ac rfl (fun j v hj=>by rw [hI.cellS hS]; exact aJ hcs j v (by match j,hj with|0,hj=>exact hj|1,hj=>exact hj|2,hj=>exact hj|3,hj=>exact hj|j+4,hj=>simp at hj)) ?_
  refine Run.callPure ze wX hI (pU h1) fun w' hI=>?_
  refine Run.call (A:=[]) Dy FK hI (CA (dF p[k].head) l t3 S (by omega)) fun v' I' S' w'=>?_
  rintro ⟨rfl,rfl⟩ _ hI
  refine bi (by omega) ?_
  exact ⟨⟨k+1,_,hk',rfl,hrel,by omega,hI⟩,by simp [intOf]; omega⟩
 ·have:k=p.length:=by omega
  subst this
  rw [List.drop_length] at hrel
  have hrel:l=ce [] p:=hrel
  rw [<- hrel]
  exact ⟨_,_,_,rfl,hI,Ext.refl _ _ _,rfl,rfl⟩
end
section
open Go Go.ChangeShapes Go.WideShapes Go.ChangeAt Go.RowKit
section
attribute [local irreducible] Run CondV ao aI
end
theorem two {cs:List Value} (h:cs.length=2):∃ a b,cs=[a,b]:=by
 match cs,h with
 | [a,b],_=>exact ⟨a,b,rfl⟩
end
section
open Go Go.RowKit
theorem Inv.lendRow {w0 w:World} {X:List Nat} {A:List Item} {S:ad} {v:Value} {e:TypeId} {k n:Nat} {xs:List Value} (h:Inv w0 X (A++[.row v e k n xs]) S w) :
  ∃ S',Ext w0.heap.size X S S'/\RowRd S' v e k n xs/\Inv w0 X A S' w:=by
 obtain ⟨hl,ho⟩:=h.openRow
 rcases ho with ⟨rfl,h0⟩|⟨g,cap,cur,rfl,hnc,hcm,hcs,ht,hI⟩
 ·exact ⟨S,Ext.refl _ _ _,⟨hl,.inl ⟨rfl,h0⟩⟩,h.sub (List.sublist_append_left _ _)⟩
 ·obtain ⟨S',h1,h2,h3⟩:=Inv.pub1 (A:=A) hI
  exact ⟨S',h2,⟨hl,.inr ⟨g,cap,cur,rfl,h3,hnc,hcm,hcs,ht⟩⟩,h1⟩
abbrev Nh (br:Nat) (sl:Value) (p k:Nat):Value->List Item->ad->Prop:=fun v I' _=>∃ p',p'<=p+k/\I'=[rdI br sl p']/\∃ x:Pd,v=.agg x.cells.toArray
section
variable {br:Nat} {sl:Value} {ys:List Nat}
attribute [local irreducible] Run CondV ao aI
theorem Pd.one (x:Pd):∀ u∈x.cells,u.oneCell'=true:=by
 intro u hu
 have hu':u∈([.string x.name,.int .i64 x.arity]:List Value):=hu
 simp at hu'
 rcases hu' with rfl|rfl <;> rfl
theorem zu {p m:Nat} {S:ad} {v:Value} {q:List C} (hrd:RdSl S 1 fR sl ys) (h:RdSl S 5 (RdC S) v q) (hq:Light 30 m q) (hp:p<=100000000) :
  Tri Tryz.prog DY [rdP br,v] [rdI br sl p] S (Nh br sl p 5):=by
 intro w hI
 have hql:=hq.1
 refine sC.2 ?_
 dsimp only[sC,aR]
 refine aL hI kE fun b4 w' hI=>?_
 have hI:Inv w [br] [.blk b4 (.cells #[.string ⟨#[]⟩,.int .i64 0] aS),rdI br sl p] S w':=hI.last 0 rfl
 refine Run.call0E z0 z5 hI (tp h (by omega)) fun v' I' S1 w'=>?_
 rintro ⟨rfl,rfl⟩ _ hI
 obtain ⟨S2,hE2,hrow,hI⟩:=Inv.lendRow (A:=[_,_]) hI
 have hr:=hrow.preds
 have hI:Inv w [br] [.blk b4 (.cells #[.string ⟨#[]⟩,.int .i64 0] aS),rdI br sl p] S2 w':=hI
 refine ⟨fun t w'=>∃ (c:Bool) (p1:Nat),t=.bool c/\p1<=p+1/\(c=false->0<(ce [] q).length)/\Inv w [br] [.blk b4 (.cells #[.string ⟨#[]⟩,.int .i64 0] aS),rdI br sl p1] S2 w',?_,?_⟩
 ·refine aD hr kl ?_
  by_cases h0:((ce [] q).length:Int)=0
  ·refine dA h0 ?_
   refine rpG ?_
   exact ⟨true,p,rfl,by omega,(fun h=>by cases h),hI⟩
  ·refine dh h0 ?_
   refine rpG ?_
   refine Run.callL bh bg hI (bS (n:=6) (hrd.monoU hE2.1) (by omega) (by omega)) rfl fun v' I' S2 w'=>?_
   rintro ⟨rfl,rfl,k,hk,rfl⟩ _ hI
   refine ba ?_
   refine rpG ?_
   exact ⟨_,p+1,rfl,by omega,fun _=>by omega,hI⟩
 intro t15 _ _ _ _ _ _ _ w'
 rintro ⟨c,p1,rfl,hp1,hc,hI⟩
 refine av (fun _=>?_) (fun hc'=>?_)
 ·refine dG hI (by kernel_rfl) rfl (by omega) fun v S3 w' hE3 hv hI=>?_
  refine Run.callL fa eZ hI (n6 (p:=p1) (hrd.monoU (hE2.trans hE3).1) hv (by decide) (by omega)) rfl fun v' I' S3 w'=>?_
  rintro ⟨rfl,rfl,s,hs,rfl⟩ _ hI
  refine Run.callL bh bg hI (bS (n:=4) (p:=p1+1) (hrd.monoU (hE2.trans hE3).1) (by omega) (by omega)) rfl fun v' I' S3 w'=>?_
  rintro ⟨rfl,rfl,k,hk,rfl⟩ _ hI
  refine ol ?_
  refine au hI 0 rfl bZ rfl rfl (Pd.one ⟨s,k⟩) fun w' hI=>?_
  refine be hI 0 bZ rfl rfl ?_
  exact ⟨_,_,S3,rfl,hI.pick [false,true],hE2.trans hE3,p1+2,by omega,rfl,⟨s,k⟩,rfl⟩
 ·have h0:=hc hc'
  refine aD hr kl ?_
  refine Run.callL bh bg hI (bS (n:=(ce [] q).length) (hrd.monoU hE2.1) (by omega) h0) rfl fun v' I' S2 w'=>?_
  rintro ⟨rfl,rfl,k,hk,rfl⟩ _ hI
  refine bM hI hr kl bZ hk (fun cs x hx=>by rw [hx]; rfl) fun cs hcs=>?_
  have hcs:cs=Pd.cells _:=hcs
  subst hcs
  refine au hI 0 rfl bZ rfl rfl (Pd.one _) fun w' hI=>?_
  refine be hI 0 bZ rfl rfl ?_
  exact ⟨_,_,S2,rfl,hI.pick [false,true],hE2,p1+1,by omega,rfl,_,rfl⟩
abbrev KN (v':Value) (I':List Item) (S':ad):Prop:=I'=[]/\∃ u q x,v'=.tuple #[u,.agg (Pd.cells x).toArray]/\RdSl S' 5 (RdC S') u q/\Light 30 900 q
theorem sQ {S:ad} {v:Value} (h:RdSl S 1 fR v ys):Tri Tryz.prog wF [v] [] S KN:=by
 intro w hI
 refine kH.2 ?_
 dsimp only[kH,aC]
 refine aL hI kE fun b3 w' hI=>?_
 refine Run.call0E qy qP hI (xl h) fun v1 I' S1 w'=>?_
 rintro ⟨rfl,br,sl,ys',rfl,rfl,hrd⟩ _ hI
 have hI:Inv w [] [.blk b3 (.cells #[.string ⟨#[]⟩,.int .i64 0] aS),rdI br sl 0] S1 w':=hI
 refine Run.callL DD Ee hI (C6 (p:=0) hrd (by omega)) rfl fun v2 I' S2 w'=>?_
 rintro ⟨p1,css,q,hp1,rfl,hR,hq,h0,_⟩ hE2 hI
 have hI:Inv w [] [aB v2 af 5 css,rdI br sl p1,.blk b3 (.cells #[.string ⟨#[]⟩,.int .i64 0] aS)] S2 w':=hI.last 0 rfl
 obtain ⟨S3,hE3,hI,hr⟩:=ip hI hR
 have hI:Inv w [] [.blk b3 (.cells #[.string ⟨#[]⟩,.int .i64 0] aS),rdI br sl p1] S3 w':=hI.last 0 rfl
 refine Run.callL kZ kG hI (ji (m:=200) (hrd.monoU (hE2.trans hE3).1) hr ⟨by have:=hq.1; omega,hq.2⟩ h0 (by omega) (by omega)) rfl fun v3 I' S4 w'=>?_
 rintro ⟨p2,hp2,rfl,q2,hr2,hq2⟩ hE4 hI
 have hE4:=(hE2.trans hE3).trans hE4
 refine Run.callL B6 BI hI (zu (p:=p2) (hrd.monoU hE4.1) hr2 hq2 (by omega)) rfl fun v4 I' S5 w'=>?_
 rintro ⟨p3,hp3,rfl,x,rfl⟩ hE5 hI
 refine au hI 0 rfl bZ rfl rfl (Pd.one _) fun w' hI=>?_
 refine be hI 0 bZ rfl rfl ?_
 exact ⟨_,[],S5,rfl,hI.nil,hE4.trans hE5,rfl,_,q2,x,rfl,hr2.monoC hE5.1,hq2⟩
end
end
section
open Go Go.ChangeShapes Go.WideShapes Go.ChangeAt Go.RowKit
theorem Oa:Tryz.prog.underlying CV=some (.int .u8):=by kernel_rfl
theorem LB {H:Type} {enc:TypeId × Value->H} {W:World} {sp:Nat->Bool} {held:Bool} {fuel:Nat} {cs:List Value} {x:DataW H × List MemPlace} (h:DataW.trod enc Tryz.prog W 0 sp held fuel CV cs=some x) :
  ∃ n,fR cs n:=by
 cases fuel with
 | zero=>simp [DataW.trod] at h
 | succ n=>
  unfold DataW.trod at h
  rw [Oa] at h
  split at h <;> simp_all
  rename_i k1 k2 m he
  subst he
  obtain ⟨⟨_,h⟩,_⟩:=h
  simp only [Lit.wf,Bool.and_eq_true,decide_eq_true_eq] at h
  have h1:0<=m/\m<=255:=h
  exact ⟨m.toNat,by rw [fR,Int.toNat_of_nonneg (by omega)]; exact ⟨rfl,by omega⟩⟩
theorem yB {H:Type} {enc:TypeId × Value->H} {W:World} {sp:Nat->Bool} {held:Bool} {fuel:Nat} {v:Value} {x:DataW H × List MemPlace} (h:DataW.trod enc Tryz.prog W 0 sp held fuel EC [v]=some x) :
  ∃ ys,RdSl (Ic W) 1 fR v ys:=Mu cQ (by omega) h fun _ _ _ _ hy=>LB hy
section
variable {w0 w:World} {X:List Nat} {L:List Item} {S:ad} {K:Value->World->Prop}
attribute [local irreducible] Run CondV ao aI
theorem NQ {P:Program} {T:TypeId} {cx cy:Bool} {a b:Bool} (hu:P.underlying T=some .bool) (hk:K (.bool (a == b)) w):Run P (bN .eql T cx cy (.bool a) (.bool b)) w K:=
 Run.of (by
  have he:(Op.equal T (.bool a) (.bool b)).run P w=.ok (a == b) w:=by
   rw [Op.equal,Op.maxDepth,Op.equalIn.eq_def]
   simp [run_underlying hu]
  simp only [bN,binOp,Sem.run_bind,qu,Result.andThen_ok,he,Sem.run_pure]) hk
theorem Lp (t:T):eqT t t=true:=(H3 t t).2 rfl
theorem qp {c0 d0:C} {cs ds:List Value} (h:RdC S cs c0) (g:RdC S ds d0):Pure Tryz.prog nI [.agg cs.toArray,.agg ds.toArray] S (.bool (eqT c0.head d0.head && eqL c0.body d0.body)):=by
 intro w hI
 obtain ⟨hd,kb,rfl,h1,h2⟩:=h
 obtain ⟨hd',kb',rfl,g1,g2⟩:=g
 have h1':=h1
 have g1':=g1
 obtain ⟨kv,rfl,_⟩:=RdT.iff.1 h1
 obtain ⟨kv',rfl,_⟩:=RdT.iff.1 g1
 refine my.2 ?_
 dsimp only[my,aR]
 refine bl hI fun b1 w' hI=>?_
 refine bl hI fun b2 w' hI=>?_
 have hI:Inv w [] [.blk b1 (.cells #[.int .i64 c0.head.kind,.int .i64 c0.head.n,.string c0.head.name,kv,kb] af),.blk b2 (.cells #[.int .i64 d0.head.kind,.int .i64 d0.head.n,.string d0.head.name,kv',kb'] af)] S w':=hI
 refine aA bF ?_
 refine dw hI 0 [.int .i64 c0.head.kind,.int .i64 c0.head.n,.string c0.head.name,kv] ac rfl rfl FJ ?_
 refine aA bF ?_
 refine dw hI 1 [.int .i64 d0.head.kind,.int .i64 d0.head.n,.string d0.head.name,kv'] ac rfl rfl FJ ?_
 refine Run.callPure jO jG hI (eK _ _ S _ _ h1' g1') fun w' hI=>?_
 cases he:eqT c0.head d0.head
 ·refine rpG ?_
  exact done hI (by rw [Bool.false_and])
 ·refine rpG ?_
  refine ae hI 0 rfl bf aj rfl ?_
  refine ae hI 1 rfl bf aj rfl ?_
  refine Run.callPure eW eR hI (lJ (fun t _=>eK t) h2 g2) fun w' hI=>?_
  refine rpG ?_
  exact done hI (by rw [Bool.true_and])
theorem wq {c0:C} {cs ds:List Value} (h:RdC S cs c0) (g:RdC S ds c0):Pure Tryz.prog nI [.agg cs.toArray,.agg ds.toArray] S (.bool true):=by
 have:=qp h g
 rwa [Lp,(rp _ _).2 rfl] at this
theorem me {p:List C} {u v:Value} (h:RdSl S 5 (RdC S) u p) (g:RdSl S 5 (RdC S) v p):Pure Tryz.prog zw [u,v] S (.bool true):=by
 intro w hI
 have hlen:=h.le
 simp only [maxLen] at hlen
 refine oG.2 ?_
 dsimp only[oG,aR]
 refine aD h aY ?_
 refine aD g aY ?_
 refine fN ?_
 refine av (fun hb=>by simp at hb) (fun _=>?_)
 refine ⟨fun i w'=>∃ k:Nat,k<=p.length/\i=.int .i64 k/\Inv w [] [] S w',fun i _=>p.length - (intOf i).toNat,⟨0,Nat.zero_le _,rfl,hI⟩,?_⟩
 intro t5 _ _ _ t26 t25 t24 t23 t22 t21 t20 t19 t18 t17 _ _ _ _ w'
 rintro ⟨k,hk,rfl,hI⟩
 refine aD h aY ?_
 refine bC ?_
 refine aH (fun hki=>?_) (fun hki=>done hI rfl)
 have hk':k<p.length:=by omega
 obtain ⟨b,o,cap,c,E,fz,rfl,hS,hR⟩:=h.at_ hk'
 obtain ⟨b2,o2,cap2,c2,E2,fz2,rfl,hS2,hR2⟩:=g.at_ hk'
 refine ⟨fun D mu eH mw s3 rD pe mQ od AF mL w_=>Fx D 0 [mL=.slice (some ⟨b,o,none⟩) p.length cap,AF=.int .i64 k,od=.pointer (some ⟨b,o+k * 5,none⟩),mQ=.agg (aV c (o+k * 5) 5).toArray,pe=.slice (some ⟨b2,o2,none⟩) p.length cap2,rD=.int .i64 k,s3=.pointer (some ⟨b2,o2+k * 5,none⟩),mw=.agg (aV c2 (o2+k * 5) 5).toArray,eH=.bool true,mu=.bool false]/\Inv w [] [] S w_,⟨Fx.nil _ _,hI.draw⟩,⟨?_,?_,?_,?_,?_,?_,?_,?_,?_,?_,trivial⟩,?_⟩
 all_goals (intro D bv; intros; rename_i mu eH mw s3 rD pe mQ od AF mL w_ hA_; have hF_:=hA_.1; obtain ⟨⟨ci,cd,cj,cc,cm,cr,bO,cR,dt,eP,_⟩,hI⟩:=hA_)
 ·exact ⟨hF_.set 0 rfl,hI⟩
 ·exact ⟨hF_.set 1 rfl,hI⟩
 ·obtain rfl:=ci ‹_›
  obtain rfl:=cd ‹_›
  refine aE aY hk' ?_
  exact ⟨hF_.set 2 rfl,hI⟩
 ·obtain rfl:=cj ‹_›
  refine bK aO hR.length (fun j v hj=>by rw [hI.cellS hS]; exact aJ rfl j v hj) ?_
  exact ⟨hF_.set 3 rfl,hI⟩
 ·exact ⟨hF_.set 4 rfl,hI⟩
 ·exact ⟨hF_.set 5 rfl,hI⟩
 ·obtain rfl:=cm ‹_›
  obtain rfl:=cr ‹_›
  refine aE aY hk' ?_
  exact ⟨hF_.set 6 rfl,hI⟩
 ·obtain rfl:=bO ‹_›
  refine bK aO hR2.length (fun j v hj=>by rw [hI.cellS hS2]; exact aJ rfl j v hj) ?_
  exact ⟨hF_.set 7 rfl,hI⟩
 ·obtain rfl:=cc ‹_›
  obtain rfl:=cR ‹_›
  refine Run.callPure wn wa hI (wq hR hR2) fun w_ hI=>?_
  exact ⟨hF_.set 8 rfl,hI⟩
 ·obtain rfl:=dt ‹_›
  refine bU ?_
  exact ⟨hF_.set 9 rfl,hI⟩
 obtain ⟨rfl,rfl,rfl,rfl,rfl,rfl,rfl,rfl,rfl,rfl,_⟩:=hF_.all
 clear hF_ ci cd cj cc cm cr bO cR dt eP
 refine av (fun hb=>by cases hb) (fun _=>?_)
 refine bi (by omega) ?_
 exact ⟨⟨k+1,hk',rfl,hI⟩,by simp [intOf]; omega⟩
end
end
section
open Go Go.RowKit
def Kf (a b:Int):Int:=if a.tmod b≠0/\(decide (a.tmod b<0) != decide (b<0))=true then a.tmod b+b else a.tmod b
def jK (n:Int):Int × Int:=if n < -999 ∨ 999<n then (0,5) else (n,0)
def opA (s:ByteArray) (a b:Int):Int × Int:=
 if s=⟨#[43]⟩ then jK (a+b)
 else if s=⟨#[45]⟩ then jK (a - b)
 else if s=⟨#[42]⟩ then jK (a * b)
 else if b=0 then (0,4)
 else if s=⟨#[109,111,100]⟩ then (Kf a b,0)
 else (a.tdiv b,0)
def lz (s:ByteArray):List (Int × Int)->Int × Int
 | [a,b]=>if bE s=1 ∨ bE s=2 then (if a.2≠0 then (0,a.2) else if b.2≠0 then (0,b.2) else opA s a.1 b.1) else (0,3)
 | _=>(0,3)
mutual
def cC:T->Int × Int
 | .mk k n s ks=>if k=1 then (0,2) else if k=2 then (n,0) else lz s (ed ks)
def ed:List T->List (Int × Int)
 | []=>[]
 | t::ts=>cC t::ed ts
end
theorem yn:∀ ts:List T,ed ts=ts.map cC
 | []=>rfl
 | t::ts=>by rw [ed,yn ts,List.map_cons]
mutual
def okN:T->Prop
 | .mk k n _ ks=>(k=2->-999<=n/\n<=999)/\BK ks
def BK:List T->Prop
 | []=>True
 | t::ts=>okN t/\BK ts
end
theorem gC:∀ {ts:List T},BK ts->∀ t∈ts,okN t
 | t::ts,h,x,hx=>by
  rw [BK] at h
  rcases List.mem_cons.1 hx with rfl|hx
  ·exact h.1
  ·exact gC h.2 x hx
theorem okN.kids {t:T} (h:okN t):BK t.kids:=by cases t; rw [okN] at h; exact h.2
def Sm (n:Int):Prop:=-999<=n/\n<=999
theorem ul (n:Int):Sm (jK n).1:=by
 unfold jK Sm
 split
 ·simp
 ·simp only []; omega
theorem Il {a b:Int} (ha:Sm a):Sm (a.tdiv b):=by
 unfold Sm at *
 have h1:(a.tdiv b).natAbs<=a.natAbs:=by
  rw [Int.natAbs_tdiv]
  exact Nat.div_le_self _ _
 omega
theorem Is {a b:Int} (_:Sm b) (h0:b≠0):(a.tmod b).natAbs<b.natAbs:=by
 rw [Int.natAbs_tmod]
 exact Nat.mod_lt _ (by omega)
theorem Ix {a b:Int} (hb:Sm b) (h0:b≠0):Sm (Kf a b):=by
 have h:=Is (a:=a) hb h0
 unfold Kf
 split
 ·rename_i h1
  obtain ⟨h1,h2⟩:=h1
  unfold Sm at *
  by_cases h3:a.tmod b<0
  ·by_cases h4:b<0
   ·simp [h3,h4] at h2
   ·omega
  ·by_cases h4:b<0
   ·omega
   ·simp [h3,h4] at h2
 ·unfold Sm at *; omega
theorem NL {s:ByteArray} {a b:Int} (ha:Sm a) (hb:Sm b):Sm (opA s a b).1:=by
 unfold opA
 split
 ·exact ul _
 split
 ·exact ul _
 split
 ·exact ul _
 split
 ·simp [Sm]
 split
 ·rename_i h0 _; exact Ix hb h0
 ·exact Il ha
theorem sZ:∀ t:T,okN t->Sm (cC t).1:=by
 refine T.ind fun k n s ks ih h=>?_
 rw [okN] at h
 rw [cC]
 split
 ·simp [Sm]
 split
 ·rename_i hk; exact h.1 hk
 rw [yn]
 match ks,ih,h.2 with
 | [],_,_=>simp [lz,Sm]
 | [x],_,_=>simp [lz,Sm]
 | [x,y],ih,h2=>
  have hx:=ih x (by simp) (gC h2 x (by simp))
  have hy:=ih y (by simp) (gC h2 y (by simp))
  simp only [List.map_cons,List.map_nil,lz]
  split
  ·split
   ·simp [Sm]
   ·split
    ·simp [Sm]
    ·exact NL hx hy
  ·simp [Sm]
 | _::_::_::_,_,_=>simp [lz,Sm]
theorem yf {x b:Int} (h:x.natAbs<b.natAbs):x.tmod b=x:=by
 have h1:=Int.tmod_add_mul_tdiv x b
 have h2:(x.tdiv b).natAbs=0:=by rw [Int.natAbs_tdiv]; exact Nat.div_eq_of_lt h
 have h3:x.tdiv b=0:=by omega
 rw [h3] at h1
 simpa using h1
theorem DJ {m b:Int} (h0:0<=m) (h:m<b):(m+b).tmod b=m:=by
 rw [Int.tmod_eq_emod_of_nonneg (by omega),Int.add_emod_right,Int.emod_eq_of_lt h0 h]
theorem JC {m b:Int} (h0:m<=0) (h:b<m):(m+b).tmod b=m:=by
 have h1:=DJ (m:=-m) (b:=-b) (by omega) (by omega)
 rw [Int.tmod_neg,show -m+-b=-(m+b) by omega,Int.neg_tmod] at h1
 omega
theorem Mn {a b:Int} (h0:b≠0):(a.tmod b+b).tmod b=Kf a b:=by
 have hlt:(a.tmod b).natAbs<b.natAbs:=by
  rw [Int.natAbs_tmod]
  exact Nat.mod_lt _ (by omega)
 obtain ⟨m,hm⟩:∃ m,m=a.tmod b:=⟨_,rfl⟩
 unfold Kf
 rw [<- hm] at hlt ⊢
 by_cases h3:m<0
 ·by_cases h4:b<0
  ·rw [if_neg (by simp [h3,h4]),JC (by omega) (by omega)]
  ·rw [if_pos (by simp [h3,h4]; omega),yf (by omega)]
 ·by_cases h4:b<0
  ·by_cases h5:m=0
   ·subst h5; simp
   ·rw [if_pos (by simp [h3,h4,h5]),yf (by omega)]
  ·rw [if_neg (by simp [h3,h4]),DJ (by omega) (by omega)]
def mY (s:ByteArray) (a b:Int):Bool:=
 if s=⟨#[60]⟩ then decide (a<b)
 else if s=⟨#[62]⟩ then decide (b<a)
 else if s=⟨#[61,60]⟩ then decide (a<=b)
 else if s=⟨#[62,61]⟩ then decide (b<=a)
 else decide (a=b)
def fm (b:Bool):Int:=if b=true then 0 else 1
def LX (s:ByteArray):List (Int × Int)->Int
 | [a,b]=>if a.2≠0 then a.2 else if b.2≠0 then b.2 else fm (mY s a.1 b.1)
 | _=>0
def ey:List ByteArray:=[⟨#[60]⟩,⟨#[62]⟩,⟨#[61,60]⟩,⟨#[62,61]⟩,⟨#[61,58,61]⟩]
abbrev PW (p:Int × Int):Value:=.tuple #[.int .i64 p.1,.int .i64 p.2]
theorem DF (s:ByteArray) (l:List ByteArray):(l.any fun x=>decide (x=s))=bV s l:=by
 rw [bV]
 congr 1
 funext x
 rw [decide_eq_decide]
 exact eq_comm
theorem ur {l:List T} (h:l.length=2):∃ x y,l=[x,y]:=by
 match l,h with
 | [x,y],_=>exact ⟨x,y,rfl⟩
theorem IC (n:Int):jK n=if (decide (-999<=n) && decide (n<=999))=true then (n,0) else (0,5):=by
 unfold jK
 by_cases h:n < -999 ∨ 999<n
 ·rw [if_pos h,if_neg (by simp; omega)]
 ·rw [if_neg h,if_pos (by simp; omega)]
theorem Ll {n:Int} (h:Sm n):jK n=(n,0):=by
 unfold jK Sm at *
 rw [if_neg (by omega)]
section
attribute [local irreducible] Run CondV ao aI
theorem NV {a b:Int} (ha:Sm a) (hb:Sm b):-998001<=a * b/\a * b<=998001:=by
 unfold Sm at *
 have h1:(a * b).natAbs=a.natAbs * b.natAbs:=Int.natAbs_mul a b
 have h2:a.natAbs * b.natAbs<=999 * 999:=Nat.mul_le_mul (by omega) (by omega)
 omega
theorem cF (b:Bool) (S:ad):Pure Tryz.prog n_i_holds [.bool b] S (.int .i64 (fm b)):=by
 intro w hI
 refine sh_i_holds.2 ?_
 dsimp only[sh_i_holds,aC]
 refine av (fun h=>done hI ?_) (fun h=>done hI ?_) <;> rw [h] <;> rfl
theorem jR:∀ (t:T) (S:ad) (cs:List Value),RdT S cs t->okN t->Pure Tryz.prog Jr [.agg cs.toArray] S (PW (cC t)):=by
 refine T.ind fun k n s ks ih S0 cs h hn=>?_
 intro w hI
 obtain ⟨kv,rfl,_,_,_,hks⟩:=RdT.iff.1 h
 rw [okN] at hn
 simp only [T.name,T.kids,T.kind,T.n] at hks ⊢
 refine zo.2 ?_
 dsimp only[zo,aC]
 refine bl hI fun b1 w' hI=>?_
 refine ae hI 0 rfl aP aF rfl ?_
 refine ba ?_
 refine aH (fun h2=>?_) (fun h2=>?_)
 ·refine ae (u:=.int .i64 n) hI 0 rfl bb aF rfl ?_
  exact done hI (by rw [cC,if_neg (by omega),if_pos h2])
 refine ae hI 0 rfl aP aF rfl ?_
 refine ba ?_
 refine aH (fun h1=>done hI (by rw [cC,if_pos h1])) (fun h1=>?_)
 have e0:cC (.mk k n s ks)=lz s (ed ks):=by rw [cC,if_neg h1,if_neg h2]
 rw [e0]
 refine ⟨fun t w'=>t=.bool (!(decide (ks.length=2) && bV s (rO++jm)))/\∃ S,Sle S0 S/\Inv w [] [.blk b1 (.cells #[.int .i64 k,.int .i64 n,.string s,kv] ab)] S w',?_,?_⟩
 ·refine ae hI 0 rfl ar aj rfl ?_
  refine aD hks ag ?_
  refine fN ?_
  have el:decide ((ks.length:Int)=2)=decide (ks.length=2):=by rw [decide_eq_decide]; omega
  rw [el]
  cases hl:decide (ks.length=2)
  ·refine rpG ?_
   exact ⟨rfl,S0,Sle.refl _,hI⟩
  refine rpG ?_
  refine dG hI (by kernel_rfl) rfl (by omega) fun v S1 w' hE1 hv hI=>?_
  refine ae hI 0 rfl aQ aK rfl ?_
  refine Run.callPure eo eA hI (ec s hv) fun w' hI=>?_
  refine bU ?_
  refine rpG ?_
  refine ⟨?_,S1,hE1.1,hI⟩
  rw [DF]
  rfl
 intro q _ _ _ _ _ _ _ _ _ _ _ w'
 rintro ⟨rfl,S,hle,hI⟩
 have hks:=hks.monoT hle
 have hlev:bV s (rO++jm)=true↔bE s=1 ∨ bE s=2:=by
  have e1:bV s (rO++jm)=(bV s rO || bV s jm):=by rw [bV,List.any_append]; rfl
  rw [e1]
  unfold bE
  have hex:bV s mM=true->bV s rO=false/\bV s jm=false:=by
   intro hc
   rw [bV,List.any_eq_true] at hc
   obtain ⟨x,hx,hd⟩:=hc
   have hd:=of_decide_eq_true hd
   subst hd
   simp only [mM,List.mem_cons,List.not_mem_nil,or_false] at hx
   rcases hx with rfl|rfl|rfl|rfl|rfl|rfl|rfl|rfl|rfl <;> exact ⟨by decide +kernel,by decide +kernel⟩
  cases hc:bV s mM
  ·cases hs:bV s rO <;> cases hp:bV s jm <;> simp
  ·simp [hex hc]
 refine av (fun hc=>iy hI hle ?_) (fun hc=>?_)
 ·match ks,hc with
  | [],_|[_],_|_::_::_::_,_=>rfl
  | [x,y],hc=>
   have hc:bV s (rO++jm)=false:=by simpa using hc
   rw [ed,ed,ed,lz,if_neg (by rw [<- hlev,hc]; decide)]
 simp only [Bool.not_eq_false',Bool.and_eq_true,decide_eq_true_eq] at hc
 obtain ⟨hl,hv⟩:=hc
 rw [hlev] at hv
 obtain ⟨x,y,rfl⟩:=ur hl
 have e1:lz s (ed [x,y])=if (cC x).2≠0 then (0,(cC x).2) else if (cC y).2≠0 then (0,(cC y).2) else opA s (cC x).1 (cC y).1:=by
  rw [ed,ed,ed,lz,if_pos hv]
 rw [e1]
 have nx:=gC hn.2 x (by simp)
 have ny:=gC hn.2 y (by simp)
 refine ae hI 0 rfl ar aj rfl ?_
 refine bM (i:=0) hI hks ag ac (by simp) (fun _ _=>RdT.length) fun cs' hcs'=>?_
 refine Run.callPure iL iu hI (ih x (by simp) S cs' hcs' nx) fun w' hI=>?_
 refine ai (v:=.int .i64 _) rfl ?_
 refine ai (v:=.int .i64 _) rfl ?_
 refine fN ?_
 refine av (fun h5=>iy hI hle ?_) (fun h5=>?_)
 ·simp at h5
  rw [if_pos h5]
 simp at h5
 rw [if_neg (by simp [h5])]
 refine ae hI 0 rfl ar aj rfl ?_
 refine bM (i:=1) hI hks ag ac (by simp) (fun _ _=>RdT.length) fun cs' hcs'=>?_
 refine Run.callPure iL iu hI (ih y (by simp) S cs' hcs' ny) fun w' hI=>?_
 refine ai (v:=.int .i64 _) rfl ?_
 refine ai (v:=.int .i64 _) rfl ?_
 refine fN ?_
 refine av (fun h6=>iy hI hle ?_) (fun h6=>?_)
 ·simp at h6
  rw [if_pos h6]
 simp at h6
 rw [if_neg (by simp [h6])]
 have ax:=sZ x nx
 have ay:=sZ y ny
 obtain ⟨a,ha⟩:∃ a,a=(cC x).1:=⟨_,rfl⟩
 obtain ⟨b,hb⟩:∃ b,b=(cC y).1:=⟨_,rfl⟩
 rw [<- ha] at ax ⊢
 rw [<- hb] at ay ⊢
 have hmul:=NV ax ay
 have ax':=ax
 have ay':=ay
 unfold Sm at ax ay
 refine ⟨fun q w'=>∃ m:Int,q=.int .i64 m/\opA s a b=jK m/\Inv w [] [.blk b1 (.cells #[.int .i64 k,.int .i64 n,.string s,kv] ab)] S w',?_,?_⟩
 ·refine ae hI 0 rfl aQ aK rfl ?_
  refine bj ?_
  refine aH (fun h=>?_) (fun h1=>?_)
  ·exact bi (by omega) ⟨_,rfl,by rw [opA,if_pos h],hI⟩
  refine bj ?_
  refine aH (fun h=>?_) (fun h2=>?_)
  ·exact jk (by omega) ⟨_,rfl,by rw [opA,if_neg h1,if_pos h],hI⟩
  refine bj ?_
  refine aH (fun h=>?_) (fun h3=>?_)
  ·exact yE (by omega) ⟨_,rfl,by rw [opA,if_neg h1,if_neg h2,if_pos h],hI⟩
  refine ba ?_
  refine aH (fun h=>?_) (fun h4=>?_)
  ·exact iy hI hle (by rw [opA,if_neg h1,if_neg h2,if_neg h3,if_pos h])
  have hd:=Il (b:=b) ax'
  have hd':=hd
  unfold Sm at hd
  refine OG h4 (by omega) ?_
  refine ae hI 0 rfl aQ aK rfl ?_
  refine bj ?_
  refine aH (fun h=>?_) (fun h5=>?_)
  ·have hm:=Is (a:=a) ay' h4
   refine MV h4 ?_
   refine bi (by omega) ?_
   refine MV h4 ?_
   refine ⟨_,rfl,?_,hI⟩
   rw [opA,if_neg h1,if_neg h2,if_neg h3,if_neg h4,if_pos h,Mn h4,Ll (Ix ay' h4)]
  ·refine ⟨_,rfl,?_,hI⟩
   rw [opA,if_neg h1,if_neg h2,if_neg h3,if_neg h4,if_neg h5,Ll hd']
 intro _ _ _ _ _ _ _ _ _ _ _ _ _ _ _ _ _ _ _ _ _ _ _ _ _ _ _ q _ _ _ _ _ _ _ w'
 rintro ⟨m,rfl,hop,hI⟩
 refine Run.callPure ek eD hI (dX _ _ _ S) fun w' hI=>?_
 refine bU ?_
 rw [hop,IC]
 refine av (fun hc=>iy hI hle ?_) (fun hc=>iy hI hle ?_)
 ·rw [Bool.not_eq_true'] at hc
  rw [hc]; rfl
 ·rw [Bool.not_eq_false'] at hc
  rw [hc]; rfl
def Mo (t:T):Bool:=decide (t.kind=3) && (decide (t.kids.length=2) && bV t.name ey)
theorem uj {t:T} {S0:ad} {cs:List Value} (h:RdT S0 cs t):Pure Tryz.prog CF [.agg cs.toArray] S0 (.bool (Mo t)):=by
 intro w hI
 obtain ⟨kv,rfl,_,_,_,hks⟩:=RdT.iff.1 h
 refine pP.2 ?_
 dsimp only[pP,aC]
 unfold Mo
 refine bl hI fun b1 w' hI=>?_
 refine ae hI 0 rfl aP aF rfl ?_
 refine ba ?_
 have el:decide ((t.kids.length:Int)=2)=decide (t.kids.length=2):=by rw [decide_eq_decide]; omega
 cases hk:decide (t.kind=3)
 ·refine rpG ?_
  exact done hI rfl
 refine rpG ?_
 refine ae hI 0 rfl ar aj rfl ?_
 refine aD hks ag ?_
 refine ba ?_
 rw [el]
 refine rpG ?_
 cases hl:decide (t.kids.length=2)
 ·refine rpG ?_
  exact done hI rfl
 refine rpG ?_
 refine dG hI (by kernel_rfl) rfl (by omega) fun v S1 w' hE1 hv hI=>?_
 refine ae hI 0 rfl aQ aK rfl ?_
 refine Run.callPure eo eA hI (ec t.name hv) fun w' hI=>?_
 refine rpG ?_
 refine iy hI hE1.1 ?_
 rw [DF]
 rfl
theorem ue {s:ByteArray} {k n:Int} {ks:List T} {S:ad} {cs:List Value} (h:RdT S cs (.mk k n s ks)) (hl:ks.length=2) (hn:BK ks):Pure Tryz.prog Ca [.agg cs.toArray] S (.int .i64 (LX s (ed ks))):=by
 intro w hI
 obtain ⟨kv,rfl,_,_,_,hks⟩:=RdT.iff.1 h
 simp only [T.name,T.kids,T.kind,T.n] at hks ⊢
 obtain ⟨x,y,rfl⟩:=ur hl
 have nx:=gC hn x (by simp)
 have ny:=gC hn y (by simp)
 rw [ed,ed,ed,LX]
 refine pK.2 ?_
 dsimp only[pK,aC]
 refine bl hI fun b1 w' hI=>?_
 refine ae hI 0 rfl ar aj rfl ?_
 refine bM (i:=0) hI hks ag ac (by simp) (fun _ _=>RdT.length) fun cs' hcs'=>?_
 refine Run.callPure iL iu hI (jR x S cs' hcs' nx) fun w' hI=>?_
 refine ai (v:=.int .i64 _) rfl ?_
 refine ai (v:=.int .i64 _) rfl ?_
 refine fN ?_
 refine av (fun h5=>done hI ?_) (fun h5=>?_)
 ·simp at h5
  rw [if_pos h5]
 simp at h5
 rw [if_neg (by simp [h5])]
 refine ae hI 0 rfl ar aj rfl ?_
 refine bM (i:=1) hI hks ag ac (by simp) (fun _ _=>RdT.length) fun cs' hcs'=>?_
 refine Run.callPure iL iu hI (jR y S cs' hcs' ny) fun w' hI=>?_
 refine ai (v:=.int .i64 _) rfl ?_
 refine ai (v:=.int .i64 _) rfl ?_
 refine fN ?_
 refine av (fun h6=>done hI ?_) (fun h6=>?_)
 ·simp at h6
  rw [if_pos h6]
 simp at h6
 rw [if_neg (by simp [h6])]
 refine ae hI 0 rfl aQ aK rfl ?_
 have hcode:∀ (b:Bool) {w':World} {L:List Item},Inv w [] L S w'->mY s (cC x).1 (cC y).1=b->Run Tryz.prog (dy (.func (.func n_i_holds) #[] #[]) [.bool b]) w' fun v w''=>Ending.returned v=.returned (.int .i64 (fm (mY s (cC x).1 (cC y).1)))/\Inv w [] [] S w'':=fun b w' L hI e=>
  Run.callPure fn_i_holds nm_i_holds hI (cF b S) fun w' hI=>done hI (by rw [e])
 refine bj ?_
 refine aH (fun h=>bC (hcode _ hI (by rw [mY,if_pos h]))) (fun h1=>?_)
 refine bj ?_
 refine aH (fun h=>dK (hcode _ hI (by rw [mY,if_neg h1,if_pos h]))) (fun h2=>?_)
 refine bj ?_
 refine aH (fun h=>dI (hcode _ hI (by rw [mY,if_neg h1,if_neg h2,if_pos h]))) (fun h3=>?_)
 refine bj ?_
 refine aH (fun h=>li (hcode _ hI (by rw [mY,if_neg h1,if_neg h2,if_neg h3,if_pos h]))) (fun h4=>?_)
 exact ba (hcode _ hI (by rw [mY,if_neg h1,if_neg h2,if_neg h3,if_neg h4]))
end
end
section
open Go Go.RowKit
def zT:T:=.mk 0 0 ⟨#[]⟩ []
def kd (g:T) (i:Nat):T:=g.kids.getD i zT
inductive BJ where
 | done (c:Int)
 | uni (a b:T)
 | not (a b:T)
def B9 (n t u:T):BJ:=if n.kind=1 ∨ t.kind=1 then .done 2 else if n.kind≠2 ∨ t.kind≠3 ∨ t.kids.length=0 then .done 3
 else if n.n<1 ∨ (t.kids.length:Int)<n.n then .done 1 else .uni u (kd t (n.n.toNat - 1))
def sj (s:ByteArray) (t:T):Bool:=if s=⟨#[118,97,114]⟩ then decide (t.kind=1) else if s=⟨#[110,111,110,118,97,114]⟩ then !decide (t.kind=1)
 else if s=⟨#[105,110,116]⟩ then decide (t.kind=2) else decide (t.kind=3) && decide (t.kids.length=0)
abbrev i7:ByteArray:=⟨#[116,114,117,101]⟩
abbrev j8:ByteArray:=⟨#[102,97,105,108]⟩
abbrev nEq:ByteArray:=⟨#[61]⟩
abbrev nNe:ByteArray:=⟨#[92,61]⟩
abbrev pT:ByteArray:=⟨#[61,61]⟩
abbrev nIs:ByteArray:=⟨#[105,115]⟩
abbrev Ag:ByteArray:=⟨#[97,114,103]⟩
def FT (n:Int):T:=.mk 2 n emptyB []
def fL (g:T):BJ:=
 if g.name=i7 then .done 0
 else if g.name=j8 then .done 1
 else if g.name=nEq then .uni (kd g 0) (kd g 1)
 else if g.name=nNe then .not (kd g 0) (kd g 1)
 else if g.name=pT then .done (fm (eqT (kd g 0) (kd g 1)))
 else if g.name=nIs then (if (cC (kd g 1)).2≠0 then .done (cC (kd g 1)).2 else .uni (kd g 0) (FT (cC (kd g 1)).1))
 else if g.name=Ag then B9 (kd g 0) (kd g 1) (kd g 2)
 else if bV g.name ey=true then .done (LX g.name (ed g.kids))
 else .done (fm (sj g.name (kd g 0)))
def BltJ (st:ah) (j:BJ) (code:Int) (st':ah):Prop:=match j with
 | .done c=>code=c/\st'=st
 | .uni a b=>∃ r,Uni st (.one a b) r st'/\code=fm r
 | .not a b=>st'=st/\∃ r st1,Uni st (.one a b) r st1/\code=fm (!r)
def Blt (st:ah) (g:T) (code:Int) (st':ah):Prop:=BltJ st (fL g) code st'
theorem i6 {s:ByteArray} {n:Int} (hs:bV s mM=true) (h:dq s n=true):n=2:=by
 rw [dq,if_pos hs] at h
 exact of_decide_eq_true h
theorem LZ {n:Int} (h:dq Ag n=true):n=3:=by
 rw [dq,if_neg (by decide +kernel),if_neg (by decide +kernel),if_neg (by decide +kernel),if_pos rfl] at h
 exact of_decide_eq_true h
theorem zk {s:ByteArray} {l:List ByteArray}:bV s l=false↔∀ x∈l,s≠x:=by
 rw [bV,List.any_eq_false]
 simp
theorem MC {s:ByteArray} (h:bV s ey=true):bV s mM=true:=by
 rw [bV,List.any_eq_true] at h ⊢
 obtain ⟨x,hx,hd⟩:=h
 refine ⟨x,?_,hd⟩
 simp only [ey,List.mem_cons,List.not_mem_nil,or_false] at hx
 rcases hx with rfl|rfl|rfl|rfl|rfl <;> simp [mM]
theorem nK {s:ByteArray} {n:Int} (h:dq s n=true) (h1:s≠i7) (h2:s≠j8) (h3:s≠nEq) (h4:s≠nNe) (h5:s≠pT) (h6:s≠nIs) (hc:bV s ey=false) :
  (bV s pB=true/\n=1) ∨ (s=Ag/\n=3):=by
 have hk:bV s mM=false:=by
  rw [zk] at hc ⊢
  intro x hx
  simp only [mM,List.mem_cons,List.not_mem_nil,or_false] at hx
  rcases hx with rfl|rfl|rfl|rfl|rfl|rfl|rfl|rfl|rfl <;> first|assumption|exact hc _ (by simp [ey])
 have hk2:bV s lx=false:=by
  rw [zk]
  intro x hx
  simp only [lx,List.mem_cons,List.not_mem_nil,or_false] at hx
  rcases hx with rfl|rfl <;> assumption
 rw [dq,hk,hk2,if_neg (by decide),if_neg (by decide)] at h
 cases ht:bV s pB
 ·rw [ht,if_neg (by decide)] at h
  split at h
  ·rename_i e; exact .inr ⟨e,of_decide_eq_true h⟩
  ·cases h
 ·rw [ht,if_pos rfl] at h
  exact .inl ⟨rfl,of_decide_eq_true h⟩
theorem Ct {l:List T} (h:l.length=1):∃ x,l=[x]:=by
 match l,h with
 | [x],_=>exact ⟨x,rfl⟩
theorem Kv {l:List T} (h:l.length=3):∃ x y z,l=[x,y,z]:=by
 match l,h with
 | [x,y,z],_=>exact ⟨x,y,z,rfl⟩
def PC (N:Nat):BJ->Prop
 | .done _=>True
 | .uni a b=>okJ N (.one a b)
 | .not a b=>okJ N (.one a b)
theorem BltJ.ex {N:Nat} {st:ah} {j:BJ} (hg:Good N st) (hj:PC N j):∃ c st',BltJ st j c st':=by
 match j,hj with
 | .done c,_=>exact ⟨c,st,rfl,rfl⟩
 | .uni a b,hj=>
  have hj:okJ N (.one a b):=hj
  obtain ⟨r,st',hu⟩:=xC (unb st) st hg (Nat.le_refl _) _ hj
  exact ⟨_,st',r,hu,rfl⟩
 | .not a b,hj=>
  have hj:okJ N (.one a b):=hj
  obtain ⟨r,st',hu⟩:=xC (unb st) st hg (Nat.le_refl _) _ hj
  exact ⟨_,st,rfl,r,st',hu,rfl⟩
theorem Mh (N:Nat) (n:Int):okU N (FT n):=by
 rw [FT,okU,cD]
 exact ⟨by decide,(fun h=>by cases h),trivial,by decide +kernel⟩
theorem Ny {g:T} {i:Nat} (h:i<g.kids.length):kd g i∈g.kids:=by
 rw [kd,List.getD_eq_getElem?_getD,List.getElem?_eq_getElem h]
 exact List.getElem_mem h
theorem vm {N:Nat} {g:T} {i:Nat} (ho:okU N g/\wT g<=1048576) (h:i<g.kids.length):okU N (kd g i)/\wT (kd g i)<=1048576:=jx ho _ (Ny h)
theorem Ce {N:Nat} {g:T} (hb:cn g=true) (ho:okU N g/\wT g<=1048576):PC N (fL g):=by
 rw [cn,Bool.and_eq_true] at hb
 have hb:=hb.2
 have hlen:∀ m:Nat,((g.kids.length:Nat):Int)=m->g.kids.length=m:=fun m h=>by omega
 unfold fL
 split
 ·trivial
 split
 ·trivial
 split
 ·rename_i h; rw [h] at hb
  have:=i6 (by decide +kernel) hb
  exact ⟨vm ho (by omega),vm ho (by omega)⟩
 split
 ·rename_i h; rw [h] at hb
  have:=i6 (by decide +kernel) hb
  exact ⟨vm ho (by omega),vm ho (by omega)⟩
 split
 ·trivial
 split
 ·rename_i h; rw [h] at hb
  have:=i6 (by decide +kernel) hb
  split
  ·trivial
  ·exact ⟨vm ho (by omega),Mh N _,by have e:emptyB.size=0:=rfl; simp only [FT,wT,wL,List.length_nil]; omega⟩
 split
 ·rename_i h; rw [h] at hb
  have:=LZ hb
  unfold B9
  split
  ·trivial
  split
  ·trivial
  split
  ·trivial
  ·rename_i h1 h2 h3
   have k1:=vm (i:=1) ho (by omega)
   exact ⟨vm ho (by omega),vm k1 (by omega)⟩
 split
 ·trivial
 ·trivial
theorem Blt.ex {N:Nat} {st:ah} {g:T} (hg:Good N st) (hb:cn g=true) (ho:okU N g/\wT g<=1048576):∃ c st',Blt st g c st':=BltJ.ex hg (Ce hb ho)
theorem Blt.good {N:Nat} {st st':ah} {g:T} {c:Int} (hg:Good N st) (hb:cn g=true) (ho:okU N g/\wT g<=1048576) (h:Blt st g c st'):Good N st':=by
 have hj:=Ce hb ho
 unfold Blt at h
 match hb:fL g,h,hj with
 | .done c,h,_=>exact h.2 ▸ hg
 | .uni a b,⟨r,hu,_⟩,hj=>exact (hu.good hg hj).1
 | .not a b,h,_=>exact h.1 ▸ hg
theorem RdSl.ptr {α:Type} {S:ad} {k:Nat} {R:List Value->α->Prop} {v:Value} {xs:List α} (h:RdSl S k R v xs) (hi:0<xs.length) :
  ∃ b o cap c E fz,v=.slice (some ⟨b,o,none⟩) xs.length cap/\S b=some (.cells c E fz)/\∀ i (h:i<xs.length),R (aV c (o+i * k) k) xs[i]:=by
 obtain ⟨a,cap,rfl,hl,hc,h⟩:=h
 rcases h with h|⟨b,o,c,E,fz,rfl,hS,h⟩
 ·subst h; simp at hi
 ·exact ⟨b,o,cap,c,E,fz,rfl,hS,h⟩
section
attribute [local irreducible] Run CondV ao aI
end
end
section
open Go Go.RowKit
section
attribute [local irreducible] Run CondV ao aI
def neSt (w0:World) (X:List Nat) (A:List Item) (S:ad) (N:Nat) (st:ah) (r:Bool) (FU GA Dx:Value) (w':World):Nat->Prop
 | 0=>Inv w0 X A S w'
 | 1=>Inv w0 X (A++[.row FU ab 4 0 []]) S w'
 | 2=>∃ g cap cur,GA=kvU g N cap/\KnU S cur st/\Inv w0 X (A++[.blk g (.cells cur ab)]) S w'
 | _=>Dx=.bool r/\∃ R,Inv w0 X (A++R) S w'
theorem neSt.inv {w0 w':World} {X:List Nat} {A:List Item} {S:ad} {N:Nat} {st:ah} {r:Bool} {FU GA Dx:Value}:∀ {n:Nat},neSt w0 X A S N st r FU GA Dx w' n->∃ R,Inv w0 X (A++R) S w'
 | 0,h=>⟨[],by rw [List.append_nil]; exact h⟩
 | 1,h=>⟨_,h⟩
 | 2,⟨_,_,_,_,_,h⟩=>⟨_,h⟩
 | _+3,h=>h.2
end
end
end Go.Proofs.YtcpgagfdeflbkaaGreatDoor

/- slices.BinarySearchFunc in facts that stand in order. -/
import Derived.Test.YtemmhhdnlbmicaaGreatZMg10
import Derived.Test.YtemmhhdnlbmicaaGreatZMg9
import Derived.Test.YtemmhhdnlbmicaaGreatZMg3
namespace Go.Proofs.YtemmhhdnlbmicaaGreat
open Go Go.RowKit
section
variable {P:Program} {w:World} {K:Value->World->Prop}
attribute [local irreducible] Run
theorem NN {T:TypeId} {cx cy:Bool} {a:Int} (hk:K (.int .u64 (a / 2)) w):Run P (aq .shr T cx cy (.int .u64 a) (.int .u64 1)) w K:=by
 refine Run.of ?_ hk
 have h1:Op.shift .shr .u64 a .u64 1=pure (.int .u64 (a / 2)):=by
  have e:min (1:Int).toNat IntKind.u64.bits=1:=by decide
  simp only [Op.shift,e]
  rw [if_neg (by decide),Int.fdiv_eq_ediv_of_nonneg _ (by decide)]
  rfl
 simp [aq,binOp,eqGuard,h1]
end
/- where a fact belongs -/
def zj (l:List T) (t:T) (i:Nat):Prop:=i<=l.length/\(∀ j (h:j<l.length),j<i->dU l[j] t<0)/\(∀ j (h:j<l.length),i<=j->¬ dU l[j] t<0)
theorem Dd {l:List T} (h:Sorted l):∀ (a b:Nat) (ha:a<l.length) (hb:b<l.length),a<b->dU l[a] l[b]<0:=by
 induction l with
 | nil=>intro a b ha; simp at ha
 | cons x xs ih=>
  intro a b ha hb hab
  rw [Sorted] at h
  match a,b with
  | 0,b+1=>
   simp only [List.getElem_cons_zero,List.getElem_cons_succ]
   exact h.1 _ (List.getElem_mem _)
  | a+1,b+1=>
   simp only [List.getElem_cons_succ]
   exact ih h.2 a b (by simpa using ha) (by simpa using hb) (by omega)
  | _,0=>omega
theorem JO {l:List T} {t:T} {i:Nat} (h:zj l t i):eJ l t=l.take i++eJ (l.drop i) t:=by
 obtain ⟨h1,h2,_⟩:=h
 have:∀ k,k<=i->l.take k++eJ (l.drop k) t=eJ l t:=by
  intro k
  induction k with
  | zero=>intro _; rfl
  | succ k ih=>
   intro hk
   have hkl:k<l.length:=by omega
   rw [<- ih (by omega),zu l t k hkl (h2 k hkl (by omega)),List.take_succ_eq_append_getElem hkl,List.append_assoc]
   rfl
 exact (this i (Nat.le_refl _)).symm
theorem M2 {l:List T} {t:T} {i:Nat} (h:zj l t i) (hn:∀ hi:i<l.length,eqT l[i] t=false):eJ l t=l.take i++t::l.drop i:=by
 rw [JO h]
 by_cases hi:i<l.length
 ·rw [uK l t i hi (h.2.2 i hi (Nat.le_refl _)),if_neg (by rw [hn hi]; decide)]
 ·rw [List.drop_eq_nil_of_le (by omega),eJ]
theorem L0 {l:List T} {t:T} {i:Nat} (h:zj l t i) (hi:i<l.length) (he:eqT l[i] t=true):eJ l t=l:=by
 rw [JO h,uK l t i hi (h.2.2 i hi (Nat.le_refl _)),if_pos he,List.take_append_drop]
theorem Lf {a b:T} (ha:okO a) (hb:okO b):decide (dU a b=0)=eqT a b:=by
 rw [Bool.eq_iff_iff,decide_eq_true_eq,pJ]
 exact ⟨DT a b ha hb,fun h=>by rw [h]; exact Dp b⟩
def rz (l:List T) (t:T) (i:Nat):Bool:=if h:i<l.length then eqT l[i] t else false
section
attribute [local irreducible] Run CondV aj bd
theorem rA {l:List T} {t:T} {S:az} {v:Value} {cs:List Value} (h:RdSl S 4 (RdT S) v l) (hcs:RdT S cs t) (hl:∀ x∈l,okO x) (ht:okO t) (hs:Sorted l) (hn:l.length<=100000000) :
  ∃ i,zj l t i/\Pure Tryz.prog ky [v,.agg cs.toArray,fv gP []] S (.tuple #[.int .i64 i,.bool (rz l t i)]):=by
 obtain ⟨i0,hi0⟩:∃ i,zj l t i:=by
  have:∀ l:List T,Sorted l->(∀ x∈l,okO x)->∃ i,zj l t i:=by
   intro l
   induction l with
   | nil=>intro _ _; exact ⟨0,Nat.le_refl _,fun j h=>by simp at h,fun j h=>by simp at h⟩
   | cons x xs ih=>
    intro hs hl
    rw [Sorted] at hs
    by_cases hc:dU x t<0
    ·obtain ⟨i,h1,h2,h3⟩:=ih hs.2 fun y hy=>hl y (List.mem_cons_of_mem _ hy)
     refine ⟨i+1,by simpa using h1,fun j hj hji=>?_,fun j hj hji=>?_⟩
     ·match j with
      | 0=>exact hc
      | j+1=>simpa using h2 j (by simpa using hj) (by omega)
     ·match j with
      | 0=>omega
      | j+1=>simpa using h3 j (by simpa using hj) (by omega)
    ·refine ⟨0,Nat.zero_le _,fun j _ hji=>by omega,fun j hj _=>?_⟩
     match j with
     | 0=>exact hc
     | j+1=>
      intro hlt
      simp only [List.getElem_cons_succ] at hlt
      exact hc (yD (hs.1 _ (List.getElem_mem _)) hlt)
  exact this l hs hl
 have huniq:∀ i,zj l t i->i=i0:=by
  intro i hi
  rcases Nat.lt_trichotomy i i0 with h1|h1|h1
  ·exact absurd (hi0.2.1 i (by have:=hi0.1; omega) h1) (hi.2.2 i (by have:=hi0.1; omega) (Nat.le_refl _))
  ·exact h1
  ·exact absurd (hi.2.1 i0 (by have:=hi.1; omega) h1) (hi0.2.2 i0 (by have:=hi.1; omega) (Nat.le_refl _))
 refine ⟨i0,hi0,fun w hI=>?_⟩
 have hlc:=hcs.length
 have hun:Tryz.prog.underlying ff=some (.int .i64):=by kernel_rfl
 refine iX ?_
 unfold gh
 refine bM hI fun b4 w' hI=>?_
 have hI:Inv w [] [.blk b4 (.cells cs.toArray ab)] S w':=hI
 refine a9 h av ?_
 refine ⟨fun jv iv w'=>∃ i j:Nat,i<=j/\j<=l.length/\jv=.int .i64 j/\iv=.int .i64 i/\(∀ k (h:k<l.length),k<i->dU l[k] t<0)/\(∀ k (h:k<l.length),j<=k->¬ dU l[k] t<0)/\Inv w [] [.blk b4 (.cells cs.toArray ab)] S w',
  fun jv iv _=>(intOf jv).toNat - (intOf iv).toNat,⟨0,l.length,Nat.zero_le _,Nat.le_refl _,rfl,rfl,fun k _ hk=>by omega,fun k hk hk2=>by omega,hI⟩,?_⟩
 intro t10 _ t9 _ _ _ _ _ _ _ _ _ _ _ _ _ _ _ _ _ _ _ _ w'
 rintro ⟨i,j,hij,hjl,rfl,rfl,hlo,hhi,hI⟩
 refine bR ?_
 refine bk (fun hlt=>?_) (fun hlt=>?_)
 ·obtain ⟨m,hm⟩:∃ m:Nat,(((i:Int)+(j:Int)) / 2)=(m:Int):=⟨(i+j) / 2,by omega⟩
  have hm1:i<=m/\m<j:=by omega
  have hml:m<l.length:=by omega
  refine bL (by omega) ?_
  refine JS (k:=.u64) (k':=.i64) (by kernel_rfl) (by kernel_rfl) ?_
  rw [IntWalk.u64_in _ (by omega)]
  refine NN ?_
  rw [hm]
  refine JS (k:=.i64) (k':=.u64) (by kernel_rfl) (by kernel_rfl) ?_
  rw [IntWalk.i64_in _ (by omega)]
  obtain ⟨b,o,cap,c,E,fz,rfl,hS,hR⟩:=h.at_ hml
  have hox:=hl _ (List.getElem_mem hml)
  refine ⟨fun D dZ dP c5 cE cM bW bQ bU w_=>(D 0=true->bU=fv gP [])/\(D 1=true->bQ=.slice (some ⟨b,o,none⟩) l.length cap)/\(D 2=true->bW=.int .i64 m)/\(D 3=true->cM=.pointer (some ⟨b,o+m * 4,none⟩))/\(D 4=true->cE=.agg (bu c (o+m * 4) 4).toArray)/\(D 5=true->c5=.agg cs.toArray)/\(D 6=true->dP=.int .i64 (dU l[m] t))/\(D 7=true->dZ=.bool (decide (dU l[m] t<0)))/\Inv w [] [.blk b4 (.cells cs.toArray ab)] S w_,⟨ae,ae,ae,ae,ae,ae,ae,ae,hI.draw⟩,⟨?_,?_,?_,?_,?_,?_,?_,?_,trivial⟩,?_⟩
  ·intro D aY  dZ dP c5 cE cM bW bQ bU w_
   rintro ⟨aA,aB,aC,aD,aw,aE,aF,aJ,hI⟩
   exact ⟨fun _=>rfl,aB,aC,aD,aw,aE,aF,aJ,hI⟩
  ·intro D aY  dZ dP c5 cE cM bW bQ bU w_
   rintro ⟨aA,aB,aC,aD,aw,aE,aF,aJ,hI⟩
   exact ⟨aA,fun _=>rfl,aC,aD,aw,aE,aF,aJ,hI⟩
  ·intro D aY  dZ dP c5 cE cM bW bQ bU w_
   rintro ⟨aA,aB,aC,aD,aw,aE,aF,aJ,hI⟩
   exact ⟨aA,aB,fun _=>rfl,aD,aw,aE,aF,aJ,hI⟩
  ·intro D aY dC gA dZ dP c5 cE cM bW bQ bU w_
   rintro ⟨aA,aB,aC,aD,aw,aE,aF,aJ,hI⟩
   obtain rfl:=aB dC
   obtain rfl:=aC gA
   refine bi av hml ?_
   exact ⟨aA,aB,aC,fun _=>rfl,aw,aE,aF,aJ,hI⟩
  ·intro D aY dB dZ dP c5 cE cM bW bQ bU w_
   rintro ⟨aA,aB,aC,aD,aw,aE,aF,aJ,hI⟩
   obtain rfl:=aD dB
   refine cV ai hR.length (fun j v hj=>by rw [hI.cellS hS]; exact bm rfl j v hj) ?_
   exact ⟨aA,aB,aC,aD,fun _=>rfl,aE,aF,aJ,hI⟩
  ·intro D aY  dZ dP c5 cE cM bW bQ bU w_
   rintro ⟨aA,aB,aC,aD,aw,aE,aF,aJ,hI⟩
   refine ba hI 0 ai rfl (by simpa using hlc) ?_
   exact ⟨aA,aB,aC,aD,aw,fun _=>rfl,aF,aJ,hI⟩
  ·intro D aY cc dJ Fr dZ dP c5 cE cM bW bQ bU w_
   rintro ⟨aA,aB,aC,aD,aw,aE,aF,aJ,hI⟩
   obtain rfl:=aA cc
   obtain rfl:=aw dJ
   obtain rfl:=aE Fr
   refine Run.callVPure (cap:=[]) mD mK hI (qK _ _ S _ _ hR hcs hox ht) fun w_ hI=>?_
   exact ⟨aA,aB,aC,aD,aw,aE,fun _=>rfl,aJ,hI⟩
  ·intro D aY c4 dZ dP c5 cE cM bW bQ bU w_
   rintro ⟨aA,aB,aC,aD,aw,aE,aF,aJ,hI⟩
   obtain rfl:=aF c4
   refine bR ?_
   exact ⟨aA,aB,aC,aD,aw,aE,aF,fun _=>rfl,hI⟩
  intro D fT fY fE fm fw fF fC fD dZ dP c5 cE cM bW bQ bU w_
  rintro ⟨aA,aB,aC,aD,aw,aE,aF,aJ,hI⟩
  obtain rfl:=aJ fT
  obtain rfl:=aF fY
  obtain rfl:=aE fE
  obtain rfl:=aw fm
  obtain rfl:=aD fw
  obtain rfl:=aC fF
  obtain rfl:=aB fC
  obtain rfl:=aA fD
  clear aA aB aC aD aw aE aF aJ
  refine bk (fun hc=>?_) (fun hc=>?_)
  ·refine bL (by omega) ?_
   refine ⟨⟨m+1,j,by omega,hjl,rfl,rfl,fun k hk hk2=>?_,hhi,hI⟩,by simp [intOf]; omega⟩
   by_cases e:k=m
   ·subst e; exact hc
   ·exact yD (Dd hs k m hk hml (by omega)) hc
  ·refine ⟨⟨i,m,hm1.1,by omega,rfl,rfl,hlo,fun k hk hk2 hc2=>?_,hI⟩,by simp [intOf]; omega⟩
   by_cases e:k=m
   ·subst e; exact hc hc2
   ·exact hc (yD (Dd hs m k hml hk (by omega)) hc2)
 ·have e:j=i:=by omega
  subst e
  have e:j=i0:=huniq j ⟨hjl,hlo,hhi⟩
  subst e
  clear huniq hi0 hlo hhi
  by_cases hi:j<l.length
  ·obtain ⟨b,o,cap,c,E,fz,rfl,hS,hR⟩:=h.at_ hi
   have hox:=hl _ (List.getElem_mem hi)
   have hfb:rz l t j=eqT l[j] t:=dif_pos hi
   rw [hfb]
   refine ⟨fun D x7 x6 bT bS cW dr du dq dt dp gC eE ek eF dX dY w_=>(D 0=true->dY=.int .i64 j)/\(D 1=true->dX=.int .i64 j)/\(D 2=true->eF=.int .i64 l.length)/\(D 3=true->ek=.bool true)/\(D 4=true->eE=.bool true)/\(D 5=true->gC=fv gP [])/\(D 6=true->dp=.slice (some ⟨b,o,none⟩) l.length cap)/\(D 7=true->dt=.int .i64 j)/\(D 8=true->dq=.pointer (some ⟨b,o+j * 4,none⟩))/\(D 9=true->du=.agg (bu c (o+j * 4) 4).toArray)/\(D 10=true->dr=.agg cs.toArray)/\(D 11=true->cW=.int .i64 (dU l[j] t))/\(D 12=true->bS=.bool (eqT l[j] t))/\(D 13=true->bT=.bool (eqT l[j] t))/\(D 14=true->x6=.int .i64 j)/\(D 15=true->x7=.bool (eqT l[j] t))/\Inv w [] [.blk b4 (.cells cs.toArray ab)] S w_,⟨ae,ae,ae,ae,ae,ae,ae,ae,ae,ae,ae,ae,ae,ae,ae,ae,hI.draw⟩,⟨?_,?_,?_,?_,?_,?_,?_,?_,?_,?_,?_,?_,?_,?_,?_,?_,trivial⟩,?_⟩
   ·intro D aY  x7 x6 bT bS cW dr du dq dt dp gC eE ek eF dX dY w_
    rintro ⟨aA,aB,aC,aD,aw,aE,aF,aJ,aL,aQ,al,ao,aG,aM,aO,aN,hI⟩
    exact ⟨fun _=>rfl,aB,aC,aD,aw,aE,aF,aJ,aL,aQ,al,ao,aG,aM,aO,aN,hI⟩
   ·intro D aY  x7 x6 bT bS cW dr du dq dt dp gC eE ek eF dX dY w_
    rintro ⟨aA,aB,aC,aD,aw,aE,aF,aJ,aL,aQ,al,ao,aG,aM,aO,aN,hI⟩
    exact ⟨aA,fun _=>rfl,aC,aD,aw,aE,aF,aJ,aL,aQ,al,ao,aG,aM,aO,aN,hI⟩
   ·intro D aY  x7 x6 bT bS cW dr du dq dt dp gC eE ek eF dX dY w_
    rintro ⟨aA,aB,aC,aD,aw,aE,aF,aJ,aL,aQ,al,ao,aG,aM,aO,aN,hI⟩
    exact ⟨aA,aB,fun _=>rfl,aD,aw,aE,aF,aJ,aL,aQ,al,ao,aG,aM,aO,aN,hI⟩
   ·intro D aY dC gA x7 x6 bT bS cW dr du dq dt dp gC eE ek eF dX dY w_
    rintro ⟨aA,aB,aC,aD,aw,aE,aF,aJ,aL,aQ,al,ao,aG,aM,aO,aN,hI⟩
    obtain rfl:=aB dC
    obtain rfl:=aC gA
    refine bR ?_; rw [decide_eq_true (show (j:Int)<(l.length:Int) by omega)]
    exact ⟨aA,aB,aC,fun _=>rfl,aw,aE,aF,aJ,aL,aQ,al,ao,aG,aM,aO,aN,hI⟩
   ·intro D aY dB x7 x6 bT bS cW dr du dq dt dp gC eE ek eF dX dY w_
    rintro ⟨aA,aB,aC,aD,aw,aE,aF,aJ,aL,aQ,al,ao,aG,aM,aO,aN,hI⟩
    obtain rfl:=aD dB
    exact ⟨aA,aB,aC,aD,fun _=>rfl,aE,aF,aJ,aL,aQ,al,ao,aG,aM,aO,aN,hI⟩
   ·intro D aY cR x7 x6 bT bS cW dr du dq dt dp gC eE ek eF dX dY w_
    rintro ⟨aA,aB,aC,aD,aw,aE,aF,aJ,aL,aQ,al,ao,aG,aM,aO,aN,hI⟩
    obtain rfl:=aw cR
    repeat (first|refine ad ?_|refine af (by decide) ?_|refine ac ?_|refine ah ?_|refine ag ?_)
    exact ⟨aA,aB,aC,aD,aw,fun _=>rfl,aF,aJ,aL,aQ,al,ao,aG,aM,aO,aN,hI⟩
   ·intro D aY cR x7 x6 bT bS cW dr du dq dt dp gC eE ek eF dX dY w_
    rintro ⟨aA,aB,aC,aD,aw,aE,aF,aJ,aL,aQ,al,ao,aG,aM,aO,aN,hI⟩
    obtain rfl:=aw cR
    repeat (first|refine ad ?_|refine af (by decide) ?_|refine ac ?_|refine ah ?_|refine ag ?_)
    exact ⟨aA,aB,aC,aD,aw,aE,fun _=>rfl,aJ,aL,aQ,al,ao,aG,aM,aO,aN,hI⟩
   ·intro D aY cR x7 x6 bT bS cW dr du dq dt dp gC eE ek eF dX dY w_
    rintro ⟨aA,aB,aC,aD,aw,aE,aF,aJ,aL,aQ,al,ao,aG,aM,aO,aN,hI⟩
    obtain rfl:=aw cR
    repeat (first|refine ad ?_|refine af (by decide) ?_|refine ac ?_|refine ah ?_|refine ag ?_)
    exact ⟨aA,aB,aC,aD,aw,aE,aF,fun _=>rfl,aL,aQ,al,ao,aG,aM,aO,aN,hI⟩
   ·intro D aY c4 jZ jg x7 x6 bT bS cW dr du dq dt dp gC eE ek eF dX dY w_
    rintro ⟨aA,aB,aC,aD,aw,aE,aF,aJ,aL,aQ,al,ao,aG,aM,aO,aN,hI⟩
    obtain rfl:=aF c4
    obtain rfl:=aJ jZ
    obtain rfl:=aw jg
    repeat (first|refine ad ?_|refine af (by decide) ?_|refine ac ?_|refine ah ?_|refine ag ?_)
    refine bi av hi ?_
    exact ⟨aA,aB,aC,aD,aw,aE,aF,aJ,fun _=>rfl,aQ,al,ao,aG,aM,aO,aN,hI⟩
   ·intro D aY jh dJ x7 x6 bT bS cW dr du dq dt dp gC eE ek eF dX dY w_
    rintro ⟨aA,aB,aC,aD,aw,aE,aF,aJ,aL,aQ,al,ao,aG,aM,aO,aN,hI⟩
    obtain rfl:=aL jh
    obtain rfl:=aw dJ
    repeat (first|refine ad ?_|refine af (by decide) ?_|refine ac ?_|refine ah ?_|refine ag ?_)
    refine cV ai hR.length (fun j v hj=>by rw [hI.cellS hS]; exact bm rfl j v hj) ?_
    exact ⟨aA,aB,aC,aD,aw,aE,aF,aJ,aL,fun _=>rfl,al,ao,aG,aM,aO,aN,hI⟩
   ·intro D aY cR x7 x6 bT bS cW dr du dq dt dp gC eE ek eF dX dY w_
    rintro ⟨aA,aB,aC,aD,aw,aE,aF,aJ,aL,aQ,al,ao,aG,aM,aO,aN,hI⟩
    obtain rfl:=aw cR
    repeat (first|refine ad ?_|refine af (by decide) ?_|refine ac ?_|refine ah ?_|refine ag ?_)
    refine ba hI 0 ai rfl (by simpa using hlc) ?_
    exact ⟨aA,aB,aC,aD,aw,aE,aF,aJ,aL,aQ,fun _=>rfl,ao,aG,aM,aO,aN,hI⟩
   ·intro D aY d3 fj Am IG zp x7 x6 bT bS cW dr du dq dt dp gC eE ek eF dX dY w_
    rintro ⟨aA,aB,aC,aD,aw,aE,aF,aJ,aL,aQ,al,ao,aG,aM,aO,aN,hI⟩
    obtain rfl:=aE d3
    obtain rfl:=aQ fj
    obtain rfl:=al Am
    obtain rfl:=aw IG
    repeat (first|refine ad ?_|refine af (by decide) ?_|refine ac ?_|refine ah ?_|refine ag ?_)
    refine Run.callVPure (cap:=[]) mD mK hI (qK _ _ S _ _ hR hcs hox ht) fun w_ hI=>?_
    exact ⟨aA,aB,aC,aD,aw,aE,aF,aJ,aL,aQ,al,fun _=>rfl,aG,aM,aO,aN,hI⟩
   ·intro D aY g8 dJ x7 x6 bT bS cW dr du dq dt dp gC eE ek eF dX dY w_
    rintro ⟨aA,aB,aC,aD,aw,aE,aF,aJ,aL,aQ,al,ao,aG,aM,aO,aN,hI⟩
    obtain rfl:=ao g8
    obtain rfl:=aw dJ
    repeat (first|refine ad ?_|refine af (by decide) ?_|refine ac ?_|refine ah ?_|refine ag ?_)
    refine bO ?_
    rw [Lf hox ht]
    exact ⟨aA,aB,aC,aD,aw,aE,aF,aJ,aL,aQ,al,ao,fun _=>rfl,aM,aO,aN,hI⟩
   ·intro D aY cR Li x7 x6 bT bS cW dr du dq dt dp gC eE ek eF dX dY w_
    rintro ⟨aA,aB,aC,aD,aw,aE,aF,aJ,aL,aQ,al,ao,aG,aM,aO,aN,hI⟩
    obtain rfl:=aw cR
    obtain rfl:=aG Li
    repeat (first|refine ad ?_|refine af (by decide) ?_|refine ac ?_|refine ah ?_|refine ag ?_)
    exact ⟨aA,aB,aC,aD,aw,aE,aF,aJ,aL,aQ,al,ao,aG,fun _=>rfl,aO,aN,hI⟩
   ·intro D aY cc GL oI x7 x6 bT bS cW dr du dq dt dp gC eE ek eF dX dY w_
    rintro ⟨aA,aB,aC,aD,aw,aE,aF,aJ,aL,aQ,al,ao,aG,aM,aO,aN,hI⟩
    obtain rfl:=aA cc
    exact ⟨aA,aB,aC,aD,aw,aE,aF,aJ,aL,aQ,al,ao,aG,aM,fun _=>rfl,aN,hI⟩
   ·intro D aY ib wb oI sL ui rQ tD x3 xE Bo Dn C9 uD zz AW Ei Eh x7 x6 bT bS cW dr du dq dt dp gC eE ek eF dX dY w_
    rintro ⟨aA,aB,aC,aD,aw,aE,aF,aJ,aL,aQ,al,ao,aG,aM,aO,aN,hI⟩
    obtain rfl:=aM ib
    exact ⟨aA,aB,aC,aD,aw,aE,aF,aJ,aL,aQ,al,ao,aG,aM,aO,fun _=>rfl,hI⟩
   intro D nu nF ov je fi fp jt gK fT fY fE fm fw fF fC fD x7 x6 bT bS cW dr du dq dt dp gC eE ek eF dX dY w_
   rintro ⟨aA,aB,aC,aD,aw,aE,aF,aJ,aL,aQ,al,ao,aG,aM,aO,aN,hI⟩
   obtain rfl:=aN nu
   obtain rfl:=aO nF
   obtain rfl:=aM ov
   obtain rfl:=aG je
   obtain rfl:=ao fi
   obtain rfl:=al fp
   obtain rfl:=aQ jt
   obtain rfl:=aL gK
   obtain rfl:=aJ fT
   obtain rfl:=aF fY
   obtain rfl:=aE fE
   obtain rfl:=aw fm
   obtain rfl:=aD fw
   obtain rfl:=aC fF
   obtain rfl:=aB fC
   obtain rfl:=aA fD
   clear aA aB aC aD aw aE aF aJ aL aQ al ao aG aM aO aN
   exact done hI rfl
  ·have hfb:rz l t j=false:=dif_neg hi
   rw [hfb]
   refine ⟨fun D x7 x6 bT bS cW dr du dq dt dp gC eE ek eF dX dY w_=>(D 0=true->dY=.int .i64 j)/\(D 1=true->dX=.int .i64 j)/\(D 2=true->eF=.int .i64 l.length)/\(D 3=true->ek=.bool false)/\(D 4=true->eE=.bool false)/\(D 5=true->gC=undef)/\(D 6=true->dp=undef)/\(D 7=true->dt=undef)/\(D 8=true->dq=undef)/\(D 9=true->du=undef)/\(D 10=true->dr=undef)/\(D 11=true->cW=undef)/\(D 12=true->bS=undef)/\(D 13=true->bT=.bool false)/\(D 14=true->x6=.int .i64 j)/\(D 15=true->x7=.bool false)/\Inv w [] [.blk b4 (.cells cs.toArray ab)] S w_,⟨ae,ae,ae,ae,ae,ae,ae,ae,ae,ae,ae,ae,ae,ae,ae,ae,hI.draw⟩,⟨?_,?_,?_,?_,?_,?_,?_,?_,?_,?_,?_,?_,?_,?_,?_,?_,trivial⟩,?_⟩
   ·intro D aY  x7 x6 bT bS cW dr du dq dt dp gC eE ek eF dX dY w_
    rintro ⟨aA,aB,aC,aD,aw,aE,aF,aJ,aL,aQ,al,ao,aG,aM,aO,aN,hI⟩
    exact ⟨fun _=>rfl,aB,aC,aD,aw,aE,aF,aJ,aL,aQ,al,ao,aG,aM,aO,aN,hI⟩
   ·intro D aY  x7 x6 bT bS cW dr du dq dt dp gC eE ek eF dX dY w_
    rintro ⟨aA,aB,aC,aD,aw,aE,aF,aJ,aL,aQ,al,ao,aG,aM,aO,aN,hI⟩
    exact ⟨aA,fun _=>rfl,aC,aD,aw,aE,aF,aJ,aL,aQ,al,ao,aG,aM,aO,aN,hI⟩
   ·intro D aY  x7 x6 bT bS cW dr du dq dt dp gC eE ek eF dX dY w_
    rintro ⟨aA,aB,aC,aD,aw,aE,aF,aJ,aL,aQ,al,ao,aG,aM,aO,aN,hI⟩
    exact ⟨aA,aB,fun _=>rfl,aD,aw,aE,aF,aJ,aL,aQ,al,ao,aG,aM,aO,aN,hI⟩
   ·intro D aY dC gA x7 x6 bT bS cW dr du dq dt dp gC eE ek eF dX dY w_
    rintro ⟨aA,aB,aC,aD,aw,aE,aF,aJ,aL,aQ,al,ao,aG,aM,aO,aN,hI⟩
    obtain rfl:=aB dC
    obtain rfl:=aC gA
    refine bR ?_; rw [decide_eq_false (show ¬ (j:Int)<(l.length:Int) by omega)]
    exact ⟨aA,aB,aC,fun _=>rfl,aw,aE,aF,aJ,aL,aQ,al,ao,aG,aM,aO,aN,hI⟩
   ·intro D aY dB x7 x6 bT bS cW dr du dq dt dp gC eE ek eF dX dY w_
    rintro ⟨aA,aB,aC,aD,aw,aE,aF,aJ,aL,aQ,al,ao,aG,aM,aO,aN,hI⟩
    obtain rfl:=aD dB
    exact ⟨aA,aB,aC,aD,fun _=>rfl,aE,aF,aJ,aL,aQ,al,ao,aG,aM,aO,aN,hI⟩
   ·intro D aY cR x7 x6 bT bS cW dr du dq dt dp gC eE ek eF dX dY w_
    rintro ⟨aA,aB,aC,aD,aw,aE,aF,aJ,aL,aQ,al,ao,aG,aM,aO,aN,hI⟩
    obtain rfl:=aw cR
    repeat (first|refine ad ?_|refine af (by decide) ?_|refine ac ?_|refine ah ?_|refine ag ?_)
    exact ⟨aA,aB,aC,aD,aw,fun _=>rfl,aF,aJ,aL,aQ,al,ao,aG,aM,aO,aN,hI⟩
   ·intro D aY cR x7 x6 bT bS cW dr du dq dt dp gC eE ek eF dX dY w_
    rintro ⟨aA,aB,aC,aD,aw,aE,aF,aJ,aL,aQ,al,ao,aG,aM,aO,aN,hI⟩
    obtain rfl:=aw cR
    repeat (first|refine ad ?_|refine af (by decide) ?_|refine ac ?_|refine ah ?_|refine ag ?_)
    exact ⟨aA,aB,aC,aD,aw,aE,fun _=>rfl,aJ,aL,aQ,al,ao,aG,aM,aO,aN,hI⟩
   ·intro D aY cR x7 x6 bT bS cW dr du dq dt dp gC eE ek eF dX dY w_
    rintro ⟨aA,aB,aC,aD,aw,aE,aF,aJ,aL,aQ,al,ao,aG,aM,aO,aN,hI⟩
    obtain rfl:=aw cR
    repeat (first|refine ad ?_|refine af (by decide) ?_|refine ac ?_|refine ah ?_|refine ag ?_)
    exact ⟨aA,aB,aC,aD,aw,aE,aF,fun _=>rfl,aL,aQ,al,ao,aG,aM,aO,aN,hI⟩
   ·intro D aY c4 jZ jg x7 x6 bT bS cW dr du dq dt dp gC eE ek eF dX dY w_
    rintro ⟨aA,aB,aC,aD,aw,aE,aF,aJ,aL,aQ,al,ao,aG,aM,aO,aN,hI⟩
    obtain rfl:=aF c4
    obtain rfl:=aJ jZ
    obtain rfl:=aw jg
    repeat (first|refine ad ?_|refine af (by decide) ?_|refine ac ?_|refine ah ?_|refine ag ?_)
    exact ⟨aA,aB,aC,aD,aw,aE,aF,aJ,fun _=>rfl,aQ,al,ao,aG,aM,aO,aN,hI⟩
   ·intro D aY jh dJ x7 x6 bT bS cW dr du dq dt dp gC eE ek eF dX dY w_
    rintro ⟨aA,aB,aC,aD,aw,aE,aF,aJ,aL,aQ,al,ao,aG,aM,aO,aN,hI⟩
    obtain rfl:=aL jh
    obtain rfl:=aw dJ
    repeat (first|refine ad ?_|refine af (by decide) ?_|refine ac ?_|refine ah ?_|refine ag ?_)
    exact ⟨aA,aB,aC,aD,aw,aE,aF,aJ,aL,fun _=>rfl,al,ao,aG,aM,aO,aN,hI⟩
   ·intro D aY cR x7 x6 bT bS cW dr du dq dt dp gC eE ek eF dX dY w_
    rintro ⟨aA,aB,aC,aD,aw,aE,aF,aJ,aL,aQ,al,ao,aG,aM,aO,aN,hI⟩
    obtain rfl:=aw cR
    repeat (first|refine ad ?_|refine af (by decide) ?_|refine ac ?_|refine ah ?_|refine ag ?_)
    exact ⟨aA,aB,aC,aD,aw,aE,aF,aJ,aL,aQ,fun _=>rfl,ao,aG,aM,aO,aN,hI⟩
   ·intro D aY d3 fj Am IG zp x7 x6 bT bS cW dr du dq dt dp gC eE ek eF dX dY w_
    rintro ⟨aA,aB,aC,aD,aw,aE,aF,aJ,aL,aQ,al,ao,aG,aM,aO,aN,hI⟩
    obtain rfl:=aE d3
    obtain rfl:=aQ fj
    obtain rfl:=al Am
    obtain rfl:=aw IG
    repeat (first|refine ad ?_|refine af (by decide) ?_|refine ac ?_|refine ah ?_|refine ag ?_)
    exact ⟨aA,aB,aC,aD,aw,aE,aF,aJ,aL,aQ,al,fun _=>rfl,aG,aM,aO,aN,hI⟩
   ·intro D aY g8 dJ x7 x6 bT bS cW dr du dq dt dp gC eE ek eF dX dY w_
    rintro ⟨aA,aB,aC,aD,aw,aE,aF,aJ,aL,aQ,al,ao,aG,aM,aO,aN,hI⟩
    obtain rfl:=ao g8
    obtain rfl:=aw dJ
    repeat (first|refine ad ?_|refine af (by decide) ?_|refine ac ?_|refine ah ?_|refine ag ?_)
    exact ⟨aA,aB,aC,aD,aw,aE,aF,aJ,aL,aQ,al,ao,fun _=>rfl,aM,aO,aN,hI⟩
   ·intro D aY cR Li x7 x6 bT bS cW dr du dq dt dp gC eE ek eF dX dY w_
    rintro ⟨aA,aB,aC,aD,aw,aE,aF,aJ,aL,aQ,al,ao,aG,aM,aO,aN,hI⟩
    obtain rfl:=aw cR
    obtain rfl:=aG Li
    repeat (first|refine ad ?_|refine af (by decide) ?_|refine ac ?_|refine ah ?_|refine ag ?_)
    exact ⟨aA,aB,aC,aD,aw,aE,aF,aJ,aL,aQ,al,ao,aG,fun _=>rfl,aO,aN,hI⟩
   ·intro D aY cc GL oI x7 x6 bT bS cW dr du dq dt dp gC eE ek eF dX dY w_
    rintro ⟨aA,aB,aC,aD,aw,aE,aF,aJ,aL,aQ,al,ao,aG,aM,aO,aN,hI⟩
    obtain rfl:=aA cc
    exact ⟨aA,aB,aC,aD,aw,aE,aF,aJ,aL,aQ,al,ao,aG,aM,fun _=>rfl,aN,hI⟩
   ·intro D aY ib wb oI sL ui rQ tD x3 xE Bo Dn C9 uD zz AW Ei Eh x7 x6 bT bS cW dr du dq dt dp gC eE ek eF dX dY w_
    rintro ⟨aA,aB,aC,aD,aw,aE,aF,aJ,aL,aQ,al,ao,aG,aM,aO,aN,hI⟩
    obtain rfl:=aM ib
    exact ⟨aA,aB,aC,aD,aw,aE,aF,aJ,aL,aQ,al,ao,aG,aM,aO,fun _=>rfl,hI⟩
   intro D nu nF ov je fi fp jt gK fT fY fE fm fw fF fC fD x7 x6 bT bS cW dr du dq dt dp gC eE ek eF dX dY w_
   rintro ⟨aA,aB,aC,aD,aw,aE,aF,aJ,aL,aQ,al,ao,aG,aM,aO,aN,hI⟩
   obtain rfl:=aN nu
   obtain rfl:=aO nF
   obtain rfl:=aM ov
   obtain rfl:=aG je
   obtain rfl:=ao fi
   obtain rfl:=al fp
   obtain rfl:=aQ jt
   obtain rfl:=aL gK
   obtain rfl:=aJ fT
   obtain rfl:=aF fY
   obtain rfl:=aE fE
   obtain rfl:=aw fm
   obtain rfl:=aD fw
   obtain rfl:=aC fF
   obtain rfl:=aB fC
   obtain rfl:=aA fD
   clear aA aB aC aD aw aE aF aJ aL aQ al ao aG aM aO aN
   exact done hI rfl
end

end Go.Proofs.YtemmhhdnlbmicaaGreat

/- impl.mapVars with a function that only reads: the result is published. -/
namespace Go.Proofs.YtemmhhdnlbmicaaGreat
open Go Go.RowKit
mutual
def A8 (φ:Int->T):T->T
 | .mk k n s ks=>if k=1 then φ n else .mk k n s (xb φ ks)
def xb (φ:Int->T):List T->List T
 | []=>[]
 | t::ts=>A8 φ t::xb φ ts
end
theorem lS (φ:Int->T):∀ ts:List T,xb φ ts=ts.map (A8 φ)
 | []=>rfl
 | t::ts=>by rw [xb,lS φ ts]; rfl
theorem HJ (φ:Int->T) (ks:List T) (j:Nat) (h:j<ks.length):xb φ (ks.take (j+1))=xb φ (ks.take j)++[A8 φ ks[j]]:=by
 rw [lS,lS,List.take_succ_eq_append_getElem h,List.map_append]; rfl
/- a function from numbers to terms that only reads -/
def Fun (f:FuncId) (cap:List Value) (S:az) (φ:Int->T):Prop:=∀ S',Sle S S'->∀ n:Int,0<=n->n<=25->∃ cs,RdT S' cs (φ n)/\Pure Tryz.prog f (.int .i64 n::cap) S' (.agg cs.toArray)
theorem Fun.mono {f:FuncId} {cap:List Value} {S S':az} {φ:Int->T} (h:Fun f cap S φ) (hs:Sle S S'):Fun f cap S' φ:=fun S2 h2=>h S2 (hs.trans h2)
abbrev Oy (t:T):Value->List Item->az->Prop:=fun v I' S'=>I'=[]/\∃ cs,v=.agg cs.toArray/\RdT S' cs t
section
attribute [local irreducible] Run CondV aj bd
theorem IR {f:FuncId} {fn:Func} (cap:List Value) (φ:Int->T) (hf:Tryz.prog.funcs[f]?=some fn) (hn:(fn.name == "runtime.NumGoroutine" || fn.body.isNone)=false) :
  ∀ (t:T) (S:az) (cs:List Value),RdT S cs t->okV t->wT t<=1048576->Fun f cap S φ->Tri Tryz.prog Ho [.agg cs.toArray,fv f cap] [] S (Oy (A8 φ t)):=by
 refine T.ind fun k n s ks ih S cs h hv hw hφ=>?_
 intro w hI
 obtain ⟨kv,rfl,h1,h2,hs,hks⟩:=RdT.iff.1 h
 simp only [T.name,T.kids,T.kind,T.n] at h1 h2 hs hks ⊢
 simp only [wT] at hw
 rw [okV] at hv
 have hvk:=hv.2
 refine yf ?_
 unfold ul
 refine bM hI fun b2 w' hI=>?_
 refine bw hI bG fun b4 w' hI=>?_
 refine aI hI 0 rfl bx bn rfl ?_
 refine bO ?_
 rw [A8]
 refine bk (fun hk1=>?_) (fun hk1=>?_)
 ·rw [if_pos hk1]
  obtain ⟨hn0,hn25⟩:=hv.1 hk1
  refine aI hI 0 rfl bJ bn rfl ?_
  obtain ⟨ds,hds,hp⟩:=hφ S (Sle.refl S) n hn0 hn25
  refine Run.callVPure hf hn hI hp fun w' hI=>?_
  refine bf hI 1 rfl ai (by simpa using hds.length) rfl (by simpa using hds.one) fun w' hI=>?_
  refine bZ hI 1 ai rfl (by simpa using hds.length) ?_
  exact ⟨_,_,_,rfl,hI.pick [false,false],Ext.refl _ _ _,rfl,ds,rfl,hds⟩
 rw [if_neg hk1]
 refine aI hI 0 rfl aT aP rfl ?_
 refine jL hI 0 rfl aT aP rfl rfl rfl fun w' hI=>?_
 refine a9 hks av ?_
 have hI:Inv w [] [.blk b4 (.cells #[.int .i64 0,.int .i64 0,.string ⟨#[]⟩,.slice none 0 0] ab),.blk b2 (.cells #[.int .i64 k,.int .i64 n,.string s,.slice none 0 0] ab)] S w':=hI.perm (List.Perm.swap _ _ _)
 have hI:=hI.rowNil ab 4
 refine ⟨fun i w'=>∃ (j:Nat) (kvc:Value) (css:List (List Value)) (S1:az),j<=ks.length/\i=.int .i64 j/\Ext w.heap.size [] S S1/\Rows 4 (RdT S1) css (xb φ (ks.take j))/\
   Inv w [] [.blk b4 (.cells #[.int .i64 0,.int .i64 0,.string ⟨#[]⟩,.slice none 0 0] ab),.blk b2 (.cells #[.int .i64 k,.int .i64 n,.string s,kvc] ab),bj kvc ab 4 css] S1 w',
  fun i _=>ks.length - (intOf i).toNat,⟨0,_,[],S,Nat.zero_le _,rfl,Ext.refl _ _ _,Rows.nil _ _,hI⟩,?_⟩
 intro t20 _ _ _ _ _ _ _ _ _ _ _ _ _ w'
 rintro ⟨j,kvc,css,S1,hj,rfl,hE,hg,hI⟩
 refine bR ?_
 refine bk (fun hji=>?_) (fun hji=>?_)
 ·have hj':j<ks.length:=by omega
  have hjl:(ks.take j).length=j:=by simp; omega
  have hcl:=hg.hc
  rw [lS,List.length_map] at hcl
  have hm:=List.getElem_mem hj'
  have hwm:=iB hm
  refine dG hI (hks.monoT hE.1) av ai hj' (fun _ _=>RdT.length) fun cs0 hcs0=>?_
  refine bw hI bG fun b7 w' hI=>?_
  have hI:=hI.perm (M:=.blk b7 _::[.blk b4 (.cells #[.int .i64 0,.int .i64 0,.string ⟨#[]⟩,.slice none 0 0] ab),.blk b2 (.cells #[.int .i64 k,.int .i64 n,.string s,kvc] ab),bj kvc ab 4 css]) (List.perm_append_comm (l₁:=[_]))
  refine bf hI 0 rfl ai (by simpa using hcs0.length) rfl (by simpa using hcs0.one) fun w' hI=>?_
  refine ⟨fun D dZ dP c5 cE cM bW bQ bU w_=>(D 0=true->bU=.pointer (some ⟨b2,3,none⟩))/\(D 1=true->bQ=kvc)/\(D 2=true->bW=.agg cs0.toArray)/\(D 3=true->cM=fv f cap)/\(D 4=true->True)/\(D 5=true->True)/\(D 6=true->True)/\(D 7=true->dZ=.pointer (some ⟨b2,3,none⟩))/\(D 8=true->True)/\∃ SN cs7 b8,Ext w.heap.size [] S1 SN/\(D 4=true->cE=.agg cs7.toArray/\RdT SN cs7 (A8 φ ks[j]))/\(D 5=true->c5=.slice (some ⟨b8,0,none⟩) 1 1)/\(D 5=true->D 4=true)/\(D 6=true->D 5=true)/\(D 8=true->D 6=true)/\(D 8=true->D 1=true)/\Inv w [] (bv (.blk b7 (.cells cs0.toArray ab)) (.blk b4 (.cells #[.int .i64 0,.int .i64 0,.string ⟨#[]⟩,.slice none 0 0] ab)) (.blk b2 (.cells #[.int .i64 k,.int .i64 n,.string s,kvc] ab)) (.blk b2 (.cells #[.int .i64 k,.int .i64 n,.string s,dP] ab)) (bj kvc ab 4 css) (bj dP ab 4 (css++[cs7])) [] [] (.blk b8 (.cells cs7.toArray ab)) false (D 5) (D 6) (D 8)) SN w_,⟨ae,ae,ae,ae,ae,ae,ae,ae,ae,⟨S1,[],0,Ext.refl _ _ _,ae,ae,ae,ae,ae,ae,by simpa [bv] using hI.draw⟩⟩,⟨?_,?_,?_,?_,?_,?_,?_,?_,?_,trivial⟩,?_⟩
  ·intro D aY  dZ dP c5 cE cM bW bQ bU w_
   rintro ⟨aA,aB,aC,aD,aw,aE,aF,aJ,aL,⟨SN,cs7,b8,hN,e7,e8,k8,k9,k11,k1,hI⟩⟩
   refine bh aT ?_
   exact ⟨fun _=>rfl,aB,aC,aD,aw,aE,aF,aJ,aL,⟨SN,cs7,b8,hN,e7,e8,k8,k9,k11,k1,hI⟩⟩
  ·intro D aY cc dZ dP c5 cE cM bW bQ bU w_
   rintro ⟨aA,aB,aC,aD,aw,aE,aF,aJ,aL,⟨SN,cs7,b8,hN,e7,e8,k8,k9,k11,k1,hI⟩⟩
   obtain rfl:=aA cc
   have f11:D 8=false:=Bool.eq_false_iff.2 fun h=>by rw [k1 h] at aY; cases aY
   refine bH (b:=b2) hI 2 (c:=(#[.int .i64 k,.int .i64 n,.string s,kvc])) aP (by rw [f11]; rfl) rfl ?_
   have k1:=fun (_:ay D 1 8=true)=>(rfl:ay D 1 1=true)
   exact ⟨aA,fun _=>rfl,aC,aD,aw,aE,aF,aJ,aL,⟨SN,cs7,b8,hN,e7,e8,k8,k9,k11,k1,hI⟩⟩
  ·intro D aY  dZ dP c5 cE cM bW bQ bU w_
   rintro ⟨aA,aB,aC,aD,aw,aE,aF,aJ,aL,⟨SN,cs7,b8,hN,e7,e8,k8,k9,k11,k1,hI⟩⟩
   refine ba hI 0 ai rfl (by simpa using hcs0.length) ?_
   exact ⟨aA,aB,fun _=>rfl,aD,aw,aE,aF,aJ,aL,⟨SN,cs7,b8,hN,e7,e8,k8,k9,k11,k1,hI⟩⟩
  ·intro D aY  dZ dP c5 cE cM bW bQ bU w_
   rintro ⟨aA,aB,aC,aD,aw,aE,aF,aJ,aL,⟨SN,cs7,b8,hN,e7,e8,k8,k9,k11,k1,hI⟩⟩
   exact ⟨aA,aB,aC,fun _=>rfl,aw,aE,aF,aJ,aL,⟨SN,cs7,b8,hN,e7,e8,k8,k9,k11,k1,hI⟩⟩
  ·intro D aY eq mO dZ dP c5 cE cM bW bQ bU w_
   rintro ⟨aA,aB,aC,aD,aw,aE,aF,aJ,aL,⟨SN,cs7,b8,hN,e7,e8,k8,k9,k11,k1,hI⟩⟩
   obtain rfl:=aC eq
   obtain rfl:=aD mO
   have f8:D 5=false:=Bool.eq_false_iff.2 fun h=>by rw [k8 h] at aY; cases aY
   have f9:D 6=false:=Bool.eq_false_iff.2 fun h=>by rw [k9 h] at f8; cases f8
   have f11:D 8=false:=Bool.eq_false_iff.2 fun h=>by rw [k11 h] at f9; cases f9
   rw [f8,f9,f11] at hI
   refine Run.callE (I:=[]) rZ se (by simpa using hI) (ih _ (List.getElem_mem hj') SN cs0 (hcs0.mono hN.1) (oB hvk _ (List.getElem_mem hj')) (by omega) ((hφ.mono hE.1).mono hN.1)) fun v' I' SN w_=>?_
   rintro ⟨rfl,cs7,rfl,hT⟩ hE2 hI
   have hN:=hN.trans hE2
   have e7:ay D 4 4=true->Value.agg cs7.toArray=Value.agg cs7.toArray/\RdT SN cs7 (A8 φ ks[j]):=fun _=>⟨rfl,hT⟩
   have k8:=fun (_:ay D 4 5=true)=>(rfl:ay D 4 4=true)
   have hI:Inv w [] (bv (.blk b7 (.cells cs0.toArray ab)) (.blk b4 (.cells #[.int .i64 0,.int .i64 0,.string ⟨#[]⟩,.slice none 0 0] ab)) (.blk b2 (.cells #[.int .i64 k,.int .i64 n,.string s,kvc] ab)) (.blk b2 (.cells #[.int .i64 k,.int .i64 n,.string s,dP] ab)) (bj kvc ab 4 css) (bj dP ab 4 (css++[cs7])) [] [] (.blk b8 (.cells cs7.toArray ab)) false (D 5) (D 6) (D 8)) SN w_:=by
    rw [f8,f9,f11]
    simpa [bv] using hI
   exact ⟨aA,aB,aC,aD,fun _=>by first|assumption|trivial,aE,aF,aJ,aL,⟨SN,cs7,b8,hN,e7,e8,k8,k9,k11,k1,hI⟩⟩
  ·intro D aY cR dZ dP c5 cE cM bW bQ bU w_
   rintro ⟨aA,aB,aC,aD,aw,aE,aF,aJ,aL,⟨SN,cs7,b8,hN,e7,e8,k8,k9,k11,k1,hI⟩⟩
   have NR:=aw cR
   have f9:D 6=false:=Bool.eq_false_iff.2 fun h=>by rw [k9 h] at aY; cases aY
   have f11:D 8=false:=Bool.eq_false_iff.2 fun h=>by rw [k11 h] at f9; cases f9
   obtain ⟨q7,hT⟩:=e7 cR
   subst q7
   rw [aY,f9,f11] at hI
   refine fb hI bD (by simp [Value.cells,hT.length]) (by omega) (by omega) fun b8 w_ hI=>?_
   have e7:ay D 5 4=true->Value.agg cs7.toArray=Value.agg cs7.toArray/\RdT SN cs7 (A8 φ ks[j]):=fun _=>⟨rfl,hT⟩
   have e8:=fun (_:ay D 5 5=true)=>(rfl:Value.slice (some ⟨b8,0,none⟩) 1 1=_)
   have k8:=fun (_:ay D 5 5=true)=>cR
   have k9:=fun (_:ay D 5 6=true)=>(rfl:ay D 5 5=true)
   have hI:Inv w [] (bv (.blk b7 (.cells cs0.toArray ab)) (.blk b4 (.cells #[.int .i64 0,.int .i64 0,.string ⟨#[]⟩,.slice none 0 0] ab)) (.blk b2 (.cells #[.int .i64 k,.int .i64 n,.string s,kvc] ab)) (.blk b2 (.cells #[.int .i64 k,.int .i64 n,.string s,dP] ab)) (bj kvc ab 4 css) (bj dP ab 4 (css++[cs7])) [] [] (.blk b8 (.cells cs7.toArray ab)) false true (D 6) (D 8)) SN w_:=by
    rw [f9,f11]
    simpa [bv,Value.cells] using hI
   exact ⟨aA,aB,aC,aD,aw,fun _=>by first|assumption|trivial,aF,aJ,aL,⟨SN,cs7,b8,hN,e7,e8,k8,k9,k11,k1,hI⟩⟩
  ·intro D aY dC km jg dZ dP c5 cE cM bW bQ bU w_
   rintro ⟨aA,aB,aC,aD,aw,aE,aF,aJ,aL,⟨SN,cs7,b8,hN,e7,e8,k8,k9,k11,k1,hI⟩⟩
   obtain rfl:=aB dC
   have NA:=aE km
   have f11:D 8=false:=Bool.eq_false_iff.2 fun h=>by rw [k11 h] at aY; cases aY
   have q8:=e8 km
   subst q8
   obtain ⟨_,hT⟩:=e7 jg
   rw [km,aY,f11] at hI
   have hblk:((bv (.blk b7 (.cells cs0.toArray ab)) (.blk b4 (.cells #[.int .i64 0,.int .i64 0,.string ⟨#[]⟩,.slice none 0 0] ab)) (.blk b2 (.cells #[.int .i64 k,.int .i64 n,.string s,bQ] ab)) (.blk b2 (.cells #[.int .i64 k,.int .i64 n,.string s,dP] ab)) (bj bQ ab 4 css) (bj dP ab 4 (css++[cs7])) [] [] (.blk b8 (.cells cs7.toArray ab)) false true false false))[4]?=some (.blk b8 (.cells cs7.toArray ab)):=rfl
   refine fo hI 3 cs7 bD (by omega) rfl (by rw [hT.length]) (m:=1) (o:=0) ?_ hT.one (by omega) (by omega) fun v' w_ hI=>?_
   ·intro i u hi
    rw [hI.cellL hblk,Nat.zero_add]
    simpa using hi
   rw [fW] at hI
   have k9:=fun (_:ay D 6 6=true)=>km
   have k11:=fun (_:ay D 6 8=true)=>(rfl:ay D 6 6=true)
   have hI:Inv w [] (bv (.blk b7 (.cells cs0.toArray ab)) (.blk b4 (.cells #[.int .i64 0,.int .i64 0,.string ⟨#[]⟩,.slice none 0 0] ab)) (.blk b2 (.cells #[.int .i64 k,.int .i64 n,.string s,bQ] ab)) (.blk b2 (.cells #[.int .i64 k,.int .i64 n,.string s,v'] ab)) (bj bQ ab 4 css) (bj v' ab 4 (css++[cs7])) [] [] (.blk b8 (.cells cs7.toArray ab)) false (D 5) true (D 8)) SN w_:=by
    rw [km,f11]
    exact hI
   exact ⟨aA,aB,aC,aD,aw,aE,fun _=>by first|assumption|trivial,aJ,aL,⟨SN,cs7,b8,hN,e7,e8,k8,k9,k11,k1,hI⟩⟩
  ·intro D aY cc ij zW E9 zp IB KS dZ dP c5 cE cM bW bQ bU w_
   rintro ⟨aA,aB,aC,aD,aw,aE,aF,aJ,aL,⟨SN,cs7,b8,hN,e7,e8,k8,k9,k11,k1,hI⟩⟩
   refine bh aT ?_
   exact ⟨aA,aB,aC,aD,aw,aE,aF,fun _=>rfl,aL,⟨SN,cs7,b8,hN,e7,e8,k8,k9,k11,k1,hI⟩⟩
  ·intro D aY ed ge mo Dr mv Dx zf Av Eu KU dZ dP c5 cE cM bW bQ bU w_
   rintro ⟨aA,aB,aC,aD,aw,aE,aF,aJ,aL,⟨SN,cs7,b8,hN,e7,e8,k8,k9,k11,k1,hI⟩⟩
   obtain rfl:=aJ ed
   have M5:=aF ge
   rw [Eu,ge,aY] at hI
   obtain ⟨va,vn,vc,hv9⟩:=Inv.rowSlice hI 3 rfl
   refine el hI 2 (n:=1) (by rw [hv9]; rfl) (by decide +kernel) rfl (by simp) (by rw [hv9]; simp [Value.cells,Value.oneCell']) fun w_ hI=>?_
   have hcl9:Value.cells dP=#[dP]:=by rw [hv9]; rfl
   rw [hcl9] at hI
   have k1:=fun (_:ay D 8 8=true)=>mv
   have k11:=fun (_:ay D 8 8=true)=>ge
   have hI:Inv w [] (bv (.blk b7 (.cells cs0.toArray ab)) (.blk b4 (.cells #[.int .i64 0,.int .i64 0,.string ⟨#[]⟩,.slice none 0 0] ab)) (.blk b2 (.cells #[.int .i64 k,.int .i64 n,.string s,kvc] ab)) (.blk b2 (.cells #[.int .i64 k,.int .i64 n,.string s,dP] ab)) (bj kvc ab 4 css) (bj dP ab 4 (css++[cs7])) [] [] (.blk b8 (.cells cs7.toArray ab)) false (D 5) (D 6) true) SN w_:=by
    rw [Eu,ge]
    exact hI
   exact ⟨aA,aB,aC,aD,aw,aE,aF,aJ,fun _=>trivial,⟨SN,cs7,b8,hN,e7,e8,k8,k9,k11,k1,hI⟩⟩
  intro D gK fT fY fE fm fw fF fC fD dZ dP c5 cE cM bW bQ bU w_
  rintro ⟨aA,aB,aC,aD,aw,aE,aF,aJ,aL,⟨SN,cs7,b8,hN,e7,e8,k8,k9,k11,k1,hI⟩⟩
  obtain rfl:=aJ fT
  have M5:=aF fY
  have NA:=aE fE
  have NR:=aw fm
  obtain rfl:=aD fw
  obtain rfl:=aC fF
  obtain rfl:=aB fC
  obtain rfl:=aA fD
  clear aA aB aC aD aw aE aF aJ aL
  obtain ⟨_,hT⟩:=e7 fm
  rw [fE,fY,gK] at hI
  refine bL (by omega) ?_
  refine ⟨⟨j+1,dP,css++[cs7],SN,hj',rfl,hE.trans hN,?_,?_⟩,by simp [intOf]; omega⟩
  ·rw [HJ φ ks j hj']
   exact (Rows.monoR hg fun _ _ h=>h.mono hN.1).snoc hT hT.length
  ·refine hI.sub ?_
   simp only [bv]
   exact ((((List.nil_sublist _).cons_cons _).cons_cons _).cons_cons _).cons _
 ·have:j=ks.length:=by omega
  subst this
  rw [List.take_length] at hg
  obtain ⟨va,vn,vc,hvk'⟩:=hI.rowSlice 2 rfl
  have hv1:kvc.oneCell'=true:=by rw [hvk']; rfl
  refine ba hI 1 ai rfl rfl ?_
  refine bf hI 0 rfl ai rfl rfl ?_ fun w' hI=>?_
  ·intro u hu
   have hu':u∈([.int .i64 k,.int .i64 n,.string s,kvc]:List Value):=hu
   simp at hu'
   rcases hu' with rfl|rfl|rfl|rfl <;> first|rfl|exact hv1
  refine bZ hI 0 ai rfl rfl ?_
  have hI:Inv w [] ([]++[bj kvc ab 4 css]) S1 w':=hI.sub (List.sublist_append_right [_,_] _)
  obtain ⟨S2,hE2,hrd,hI⟩:=hI.lendExt
  exact ⟨_,_,_,rfl,hI,hE.trans hE2,rfl,_,rfl,RdT.iff.2 ⟨kvc,rfl,h1,h2,hs,(RowRd.rows hg hrd).mono (Sle.refl _) fun _ _ h=>h.mono hE2.1⟩⟩
end

end Go.Proofs.YtemmhhdnlbmicaaGreat

/- maps.Clone of maps from numbers to terms; reading a published map. -/
namespace Go.Proofs.YtemmhhdnlbmicaaGreat
open Go Go.RowKit
section
variable {P:Program} {w w0:World} {X:List Nat} {L:List Item} {S:az} {K:Value->World->Prop}
attribute [local irreducible] Run CondV aj bd
theorem Kb (h:Inv w0 X L S w) {T kt et ty:TypeId} {b clock:Nat} {es:Array MapEntry} {n:Int} {z v:Value} (hT:P.underlying T=some (.map kt et)) (hkt:P.underlying kt=some (.int .i64))
  (hz:iq P et=some z) (hS:S b=some (.map es clock))
  (hf:(∃ j,Instr.findNow (.int .i64) (.int .i64 n) es.toList 0=some (some (j,v))) ∨ (Instr.findNow (.int .i64) (.int .i64 n) es.toList 0=some none/\v=z))
  (hk:K v w):Run P (sOp (.lookup T (.const (.map (some b))) (.const (.int .i64 n)) false) ty) w K:=by
 have hb:w.heap[b]?=some (.map es clock):=(h.pub _ _ hS).1
 have hck:∀ e,(Instr.checkKey e 10000 kt (.int .i64 n)).run P w=.ok () w:=fun e=>by
  rw [show (10000:Nat)=9999+1 from rfl,Instr.checkKey]
  simp [run_underlying hkt]
 obtain ⟨inf,hi1,hi2⟩:∃ inf,P.info? et=some inf/\inf.zero=some z:=by
  unfold iq at hz
  cases hinf:P.info? et with
  | none=>rw [hinf] at hz; simp at hz
  | some inf=>rw [hinf] at hz; exact ⟨inf,rfl,by simpa using hz⟩
 have hzv:(zeroValue et).run P w=.ok z w:=by simp [zeroValue,typeInfo,hi1,hi2]
 refine Run.of ?_ hk
 have hg:(getObj b).run P w=.ok (.map es clock) w:=by simp [getObj,Sem.run,hb]
 rcases hf with ⟨j,hf⟩|⟨hf,rfl⟩
 ·have hfk:=gV (P:=P) (w:=w) hkt hf
  simp [sOp,execOp,ev0,evE,Instr.lookup,run_underlying hT,hg,hck,hfk]
 ·have hfk:=gV (P:=P) (w:=w) hkt hf
  simp [sOp,execOp,ev0,evE,Instr.lookup,run_underlying hT,hg,hck,hfk,hzv]
theorem Mo {T kt et:TypeId} {cx cy:Bool} {b:Nat} (hT:P.underlying T=some (.map kt et)) (hk:K (.bool false) w):Run P (aq .eql T cx cy (.map (some b)) (.map none)) w K:=by
 refine Run.of (v:=.bool false) (w':=w) ?_ hk
 have he:(Op.equal T (.map (some b)) (.map none)).run P w=.ok false w:=by
  rw [Op.equal,Op.maxDepth,Op.equalIn.eq_def]
  simp [run_underlying hT]
 have hg:∀ x y,(eqGuard .eql T x y (.map (some b)) (.map none)).run P w=.ok () w:=fun x y=>by unfold eqGuard; simp
 simp only [aq,binOp,Sem.run_bind,hg,Result.andThen_ok,he,Sem.run_pure]
theorem MD {T ty kt et:TypeId} {v:Value} (hT:P.underlying T=some (.map kt et)) (hk:K (.iface T v) w):Run P (sOp (.makeInterface T (.const v)) ty) w K:=by
 refine Run.of ?_ hk
 simp [sOp,execOp,ev0,evE,Instr.makeInterface,run_underlying hT]
theorem LV {T U ty kt et:TypeId} {v:Value} (hT:P.underlying T=some (.map kt et)) (hk:K v w):Run P (sOp (.typeAssert (.const (.iface T v)) U T false) ty) w K:=by
 refine Run.of ?_ hk
 simp [sOp,execOp,ev0,evE,Instr.typeAssert,run_underlying hT]
theorem LN (h:Inv w0 X L S w) {f:FuncId} {fn:Func} {t b clock:Nat} {es:Array MapEntry} (hf:P.funcs[f]?=some fn) (hn:(fn.name == "runtime.NumGoroutine")=false) (hb:fn.body.isNone=true)
  (hx:(Extern.findNext fn).isNone=true) (hy:Extern.find fn=some Extern.MapsClone.clone) (hS:S b=some (.map es clock))
  (hk:∀ nb w',Inv w0 X (L++[.blk nb (.map es clock)]) S w'->K (.iface t (.map (some nb))) w'):Run P (aH (.func (.func f) #[] #[]) [.iface t (.map (some b))]) w K:=by
 have hbw:w.heap[b]?=some (.map es clock):=(h.pub _ _ hS).1
 refine Run.of (v:=.iface t (.map (some w.heap.size))) (w':={ w with heap:=w.heap.push (.map es clock) }) ?_ (hk _ _ (h.alloc _))
 have h1:¬ fn.name = "runtime.NumGoroutine" := by simpa using hn
 have h2:fn.body=none:=by simpa using hb
 have h3:Extern.findNext fn=none:=by simpa using hx
 have hg:(getObj b).run P w=.ok (.map es clock) w:=by simp [getObj,Sem.run,hbw]
 have hc:(Extern.MapsClone.clone #[.iface t (.map (some b))]).run P w=.ok (.iface t (.map (some w.heap.size))) { w with heap:=w.heap.push (.map es clock) }:=by
  have e:Extern.MapsClone.clone #[.iface t (.map (some b))]=(getObj b >>= fun o=>match o with
   | .map entries clock=>(newObj (.map entries clock) >>= fun n=>pure (.iface t (.map (some n))))
   | _=>stuck "maps.clone: a map expected"):=rfl
  rw [e]
  simp [hg,newObj,Sem.run,Result.andThen]
 simp [aH,Deferred.ofValue,invoke,callFunc,hf,h1,h2,h3,hy,hc]
end
section
attribute [local irreducible] Run CondV aj bd
theorem ED {S:az} {mb ck:Nat} {es:Array MapEntry} (hS:S mb=some (.map es ck)):Tri Tryz.prog xQ [.map (some mb)] [] S fun r I' S'=>S'=S/\∃ nb,r=.map (some nb)/\I'=[.blk nb (.map es ck)]:=by
 intro w hI
 refine qf ?_
 unfold lQ
 refine Mo (kt:=ff) (et:=ab) (by kernel_rfl) ?_
 refine a8 (fun hb=>by cases hb) (fun _=>?_)
 refine MD (kt:=ff) (et:=ab) (by kernel_rfl) ?_
 refine LN hI Tryz.func144 (by kernel_rfl) (by kernel_rfl) (by kernel_rfl) (by kernel_rfl) hS fun nb w' hI=>?_
 refine LV (kt:=ff) (et:=ab) (by kernel_rfl) ?_
 exact ⟨_,_,_,rfl,hI,Ext.refl _ _ _,rfl,nb,rfl,rfl⟩
end

end Go.Proofs.YtemmhhdnlbmicaaGreat

/- spec.l16Body. -/
namespace Go.Proofs.YtemmhhdnlbmicaaGreat
open Go Go.RowKit
def IsM (S:az) (v:Value) (r:Bool × bt):Prop:=∃ kb kp kc,v=.tuple #[kvn kb kp,.bool r.1]/\26<=kp/\kp<=maxLen/\S kb=some (.cells kc ab)/\KnownC S kc r.2
def IsKn (S:az) (v:Value) (st:bt):Prop:=∃ kb kp kc,v=kvn kb kp/\26<=kp/\kp<=maxLen/\S kb=some (.cells kc ab)/\KnownC S kc st
theorem IsM.mono {S S':az} {v:Value} {r:Bool × bt} (h:IsM S v r) (hs:Sle S S'):IsM S' v r:=by
 obtain ⟨kb,kp,kc,h1,h2,h3,h4,h5⟩:=h
 exact ⟨kb,kp,kc,h1,h2,h3,hs _ _ h4,h5.mono hs⟩
theorem IsKn.mono {S S':az} {v:Value} {st:bt} (h:IsKn S v st) (hs:Sle S S'):IsKn S' v st:=by
 obtain ⟨kb,kp,kc,h1,h2,h3,h4,h5⟩:=h
 exact ⟨kb,kp,kc,h1,h2,h3,hs _ _ h4,h5.mono hs⟩
theorem IsM.parts {S:az} {v:Value} {r:Bool × bt} (h:IsM S v r):∃ u,v=.tuple #[u,.bool r.1]/\IsKn S u r.2:=by
 obtain ⟨kb,kp,kc,h1,h2⟩:=h
 exact ⟨_,h1,kb,kp,kc,rfl,h2⟩
theorem My {hd:T} {facts gs out:List T} {st:bt} (hh:Gl hd) (hfs:∀ f∈facts,Fct f) (hgs:∀ g∈gs,Gl g) (hst:StF st) (hc:ir hd gs st) (ho:∀ x∈out,okO x) (hn:out.length<=1000000) :
  (∀ x∈ia hd facts gs out st,okO x)/\(ia hd facts gs out st).length<=1000000:=by
 rw [pE]
 refine ⟨fun x hx=>?_,?_⟩
 ·rcases nP _ _ x hx with h|h
  ·exact ho x h
  ·exact (rO hh hfs gs st hgs hst hc x h).ok.2.2.1
 ·have:=tT (eM hd facts gs st) out
  omega
theorem Na {hd f g:T} {facts gs out:List T} {st:bt} (hh:Gl hd) (hfs:∀ f∈facts,Fct f) (hf:Fct f) (hg:Gl g) (hgs:∀ g∈gs,Gl g) (hst:StF st) (hc:ir hd (g::gs) st) (ho:∀ x∈out,okO x) (hn:out.length<=1000000) :
  (∀ x∈(if (bK g f st).1=true then ia hd facts gs out (bK g f st).2 else out),okO x)/\(if (bK g f st).1=true then ia hd facts gs out (bK g f st).2 else out).length<=1000000:=by
 split
 ·rename_i hm
  exact My hh hfs hgs (j2 hg hf hst).1 (kH hc hg hf hst hm) ho hn
 ·exact ⟨ho,hn⟩
section
attribute [local irreducible] Run CondV aj bd
theorem qL (c0:C) (facts:List T) (hh:Gl c0.head) (hfs:∀ f∈facts,Fct f) (hbs:∀ g∈c0.body,Gl g):∀ (gs:List T) (i:Nat),i+gs.length=c0.body.length->c0.body.drop i=gs->
  ∀ (S:az) (cs:List Value) (v fv kn:Value) (out:List T) (st:bt),RdC S cs c0->RdSl S 4 (RdT S) v out->RdSl S 4 (RdT S) fv facts->IsKn S kn st->StF st->ir c0.head gs st->(∀ x∈out,okO x)->out.length<=1000000->
  Tri Tryz.prog G0 [v,.agg cs.toArray,.int .i64 i,fv,kn] [] S (La (ia c0.head facts gs out st)):=by
 intro gs
 induction gs with
 | nil=>
  intro i hi hdr S cs v fv kn out st h hv hf hkn hst hc ho hn w hI
  obtain ⟨kb,kp,kc,rfl,hkp,hkm,hS,hkc⟩:=hkn
  obtain ⟨hd,ks,rfl,h1,h2⟩:=h
  have h1':=h1
  obtain ⟨kv,rfl,g1,g2,g3,g4⟩:=RdT.iff.1 h1
  simp only [List.length_nil,Nat.add_zero] at hi
  refine ng ?_
  unfold mC
  refine bM hI fun b6 w' hI=>?_
  refine a9 hv av ?_
  refine d6 ?_
  rw [ia]
  refine bk (fun hb=>?_) (fun hb=>?_)
  ·rw [if_pos (by omega)]
   exact ⟨_,_,_,rfl,hI.pick [false],Ext.refl _ _ _,rfl,hv⟩
  rw [if_neg (by omega)]
  refine aI hI 0 rfl bq aP rfl ?_
  refine a9 h2 av ?_
  refine bO ?_
  refine bk (fun _=>?_) (fun hb=>absurd (by omega) hb)
  refine bh dh ?_
  refine fe hI 0 [.int .i64 c0.head.kind,.int .i64 c0.head.n,.string c0.head.name,kv] ai rfl rfl Lk ?_
  have hok:=hh.ok
  refine Run.call0 DX Ds hI (Ci h1' hok.1 (by omega) hst.ok.1 hst.ok.2 hS hkc) fun v' I' S' w'=>?_
  rintro ⟨rfl,cs1,L,rfl,rfl,hT⟩ _ hI
  obtain ⟨S1,hI,hE,hins⟩:=hI.pubExt
  have hct:=zl hh hst (fun y hy hk=>by
   rcases hc y hy hk with h|⟨g,hg,_⟩
   ·exact h
   ·cases hg)
  refine Run.call0E Gp FO hI (DR (hv.monoT hE.1) (hT.rd hins) ho hct.ok.2.2.1 hn) fun v' I' S2 w'=>?_
  rintro ⟨rfl,hr⟩ hE2 hI
  exact ⟨_,_,_,rfl,hI.pick [false],hE.trans hE2,rfl,hr⟩
 | cons g gs ih=>
  intro i hi hdr S cs v fv kn out st h hv hf hkn hst hc ho hn w hI
  obtain ⟨kb,kp,kc,rfl,hkp,hkm,hS,hkc⟩:=hkn
  have h0:=h
  obtain ⟨hd,ks,rfl,h1,h2⟩:=h
  obtain ⟨kv,rfl,g1,g2,g3,g4⟩:=RdT.iff.1 h1
  simp only [List.length_cons] at hi
  have hib:i<c0.body.length:=by omega
  have hlen2:=h2.le
  have hlenf:=hf.le
  simp only [maxLen] at hlen2 hlenf
  have hge:c0.body[i]=g/\c0.body.drop (i+1)=gs:=by
   rw [List.drop_eq_getElem_cons hib,List.cons.injEq] at hdr
   exact hdr
  have hg:Gl g:=by rw [<- hge.1]; exact hbs _ (List.getElem_mem hib)
  have hgs:∀ x∈gs,Gl x:=fun x hx=>hbs x (by rw [<- hge.2] at hx; exact List.mem_of_mem_drop hx)
  refine ng ?_
  unfold mC
  refine bM hI fun b6 w' hI=>?_
  refine a9 hv av ?_
  refine d6 ?_
  rw [ia]
  refine bk (fun hb=>?_) (fun hb=>?_)
  ·rw [if_pos (by omega)]
   exact ⟨_,_,_,rfl,hI.pick [false],Ext.refl _ _ _,rfl,hv⟩
  rw [if_neg (by omega)]
  refine aI hI 0 rfl bq aP rfl ?_
  refine a9 h2 av ?_
  refine bO ?_
  refine bk (fun hb=>by omega) (fun _=>?_)
  generalize hF:(fun (out:List T) (f:T)=>if (bK g f st).1=true then ia c0.head facts gs out (bK g f st).2 else out)=F
  have hF2:∀ o f,F o f=if (bK g f st).1=true then ia c0.head facts gs o (bK g f st).2 else o:=fun o f=>by rw [<- hF]
  refine ⟨fun j t w'=>∃ (k:Nat) (o:List T) (S':az),k<=facts.length/\j=.int .i64 k/\(facts.drop k).foldl F o=facts.foldl F out/\(∀ x∈o,okO x)/\o.length<=1000000/\Ext w.heap.size [] S S'/\RdSl S' 4 (RdT S') t o/\
    Inv w [] [.blk b6 (.cells #[.int .i64 c0.head.kind,.int .i64 c0.head.n,.string c0.head.name,kv,ks] aR)] S' w',
   fun j _ _=>facts.length - (intOf j).toNat,⟨0,out,S,Nat.zero_le _,rfl,rfl,ho,hn,Ext.refl _ _ _,hv,hI⟩,?_⟩
  intro t11 _ _ t0 _ _ _ _ _ _ _ _ _ _ _ _ _ _ _ _ _ _ _ _ _ _ _ _ _ _ _ _ w'
  rintro ⟨k,o,S',hk,rfl,hrel,hoo,hno,hE,hv',hI⟩
  have hf':=hf.monoT hE.1
  refine a9 hf' av ?_
  refine bR ?_
  refine bk (fun hki=>?_) (fun hki=>?_)
  ·have hk':k<facts.length:=by omega
   rw [List.drop_eq_getElem_cons hk',List.foldl_cons] at hrel
   have hfk:=hfs _ (List.getElem_mem hk')
   have hso:=Na hh hfs hfk hg hgs hst hc hoo hno
   obtain ⟨b1,o1,cap1,c1,E1,fz1,rfl,hS1,hR1⟩:=(h2.monoT hE.1).at_ hib
   obtain ⟨b2,o2,cap2,c2,E2,fz2,rfl,hS2,hR2⟩:=hf'.at_ hk'
   rw [hge.1] at hR1
   obtain ⟨r,hr⟩:∃ r,r=bK g facts[k] st:=⟨_,rfl⟩
   refine ⟨fun t w'=>∃ S2,Ext w.heap.size [] S S2/\RdSl S2 4 (RdT S2) t (F o facts[k])/\Inv w [] [.blk b6 (.cells #[.int .i64 c0.head.kind,.int .i64 c0.head.n,.string c0.head.name,kv,.slice (some ⟨b1,o1,none⟩) c0.body.length cap1] aR)] S2 w',?_,?_⟩
   ·have hkd:=hkc.1
    refine ⟨fun D eh ei bT bS dY cW dr du dq dt dp gC eE ek eF dX w_=>(D 0=true->dX=.pointer (some ⟨b6,4,none⟩))/\(D 1=true->eF=.slice (some ⟨b1,o1,none⟩) c0.body.length cap1)/\(D 2=true->ek=.int .i64 i)/\(D 3=true->eE=.pointer (some ⟨b1,o1+i * 4,none⟩))/\(D 4=true->gC=.agg (bu c1 (o1+i * 4) 4).toArray)/\(D 5=true->dp=.slice (some ⟨b2,o2,none⟩) facts.length cap2)/\(D 6=true->dt=.int .i64 k)/\(D 7=true->dq=.pointer (some ⟨b2,o2+k * 4,none⟩))/\(D 8=true->du=.agg (bu c2 (o2+k * 4) 4).toArray)/\(D 9=true->dr=kvn kb kp)/\(D 10=true->True)/\(D 11=true->True)/\(D 12=true->True)/\(D 13=true->True)/\(D 14=true->True)/\(D 15=true->True)/\∃ SN,Ext w.heap.size [] S' SN/\(D 10=true->IsM SN cW r)/\(D 11=true->IsM SN dY r)/\(D 12=true->IsKn SN bS r.2)/\(D 13=true->bT=.bool r.1)/\(D 14=true->IsKn SN ei r.2)/\(D 15=true->eh=.bool r.1)/\Inv w [] [.blk b6 (.cells #[.int .i64 c0.head.kind,.int .i64 c0.head.n,.string c0.head.name,kv,.slice (some ⟨b1,o1,none⟩) c0.body.length cap1] aR)] SN w_,⟨ae,ae,ae,ae,ae,ae,ae,ae,ae,ae,ae,ae,ae,ae,ae,ae,⟨S',Ext.refl _ _ _,ae,ae,ae,ae,ae,ae,hI.draw⟩⟩,⟨?_,?_,?_,?_,?_,?_,?_,?_,?_,?_,?_,?_,?_,?_,?_,?_,trivial⟩,?_⟩
    ·intro D aY  eh ei bT bS dY cW dr du dq dt dp gC eE ek eF dX w_
     rintro ⟨aA,aB,aC,aD,aw,aE,aF,aJ,aL,aQ,al,ao,aG,aM,aO,aN,⟨SN,hN,e10,e11,e12,e13,e14,e15,hI⟩⟩
     refine bh bq ?_
     exact ⟨fun _=>rfl,aB,aC,aD,aw,aE,aF,aJ,aL,aQ,al,ao,aG,aM,aO,aN,⟨SN,hN,e10,e11,e12,e13,e14,e15,hI⟩⟩
    ·intro D aY cc eh ei bT bS dY cW dr du dq dt dp gC eE ek eF dX w_
     rintro ⟨aA,aB,aC,aD,aw,aE,aF,aJ,aL,aQ,al,ao,aG,aM,aO,aN,⟨SN,hN,e10,e11,e12,e13,e14,e15,hI⟩⟩
     obtain rfl:=aA cc
     refine bH hI 0 aP rfl rfl ?_
     exact ⟨aA,fun _=>rfl,aC,aD,aw,aE,aF,aJ,aL,aQ,al,ao,aG,aM,aO,aN,⟨SN,hN,e10,e11,e12,e13,e14,e15,hI⟩⟩
    ·intro D aY  eh ei bT bS dY cW dr du dq dt dp gC eE ek eF dX w_
     rintro ⟨aA,aB,aC,aD,aw,aE,aF,aJ,aL,aQ,al,ao,aG,aM,aO,aN,⟨SN,hN,e10,e11,e12,e13,e14,e15,hI⟩⟩
     exact ⟨aA,aB,fun _=>rfl,aD,aw,aE,aF,aJ,aL,aQ,al,ao,aG,aM,aO,aN,⟨SN,hN,e10,e11,e12,e13,e14,e15,hI⟩⟩
    ·intro D aY dC gA eh ei bT bS dY cW dr du dq dt dp gC eE ek eF dX w_
     rintro ⟨aA,aB,aC,aD,aw,aE,aF,aJ,aL,aQ,al,ao,aG,aM,aO,aN,⟨SN,hN,e10,e11,e12,e13,e14,e15,hI⟩⟩
     obtain rfl:=aB dC
     obtain rfl:=aC gA
     refine bi av hib ?_
     exact ⟨aA,aB,aC,fun _=>rfl,aw,aE,aF,aJ,aL,aQ,al,ao,aG,aM,aO,aN,⟨SN,hN,e10,e11,e12,e13,e14,e15,hI⟩⟩
    ·intro D aY dB eh ei bT bS dY cW dr du dq dt dp gC eE ek eF dX w_
     rintro ⟨aA,aB,aC,aD,aw,aE,aF,aJ,aL,aQ,al,ao,aG,aM,aO,aN,⟨SN,hN,e10,e11,e12,e13,e14,e15,hI⟩⟩
     obtain rfl:=aD dB
     refine cV ai hR1.length (fun j v hj=>by rw [hI.cellS (hN.1 _ _ hS1)]; exact bm rfl j v hj) ?_
     exact ⟨aA,aB,aC,aD,fun _=>rfl,aE,aF,aJ,aL,aQ,al,ao,aG,aM,aO,aN,⟨SN,hN,e10,e11,e12,e13,e14,e15,hI⟩⟩
    ·intro D aY  eh ei bT bS dY cW dr du dq dt dp gC eE ek eF dX w_
     rintro ⟨aA,aB,aC,aD,aw,aE,aF,aJ,aL,aQ,al,ao,aG,aM,aO,aN,⟨SN,hN,e10,e11,e12,e13,e14,e15,hI⟩⟩
     exact ⟨aA,aB,aC,aD,aw,fun _=>rfl,aF,aJ,aL,aQ,al,ao,aG,aM,aO,aN,⟨SN,hN,e10,e11,e12,e13,e14,e15,hI⟩⟩
    ·intro D aY  eh ei bT bS dY cW dr du dq dt dp gC eE ek eF dX w_
     rintro ⟨aA,aB,aC,aD,aw,aE,aF,aJ,aL,aQ,al,ao,aG,aM,aO,aN,⟨SN,hN,e10,e11,e12,e13,e14,e15,hI⟩⟩
     exact ⟨aA,aB,aC,aD,aw,aE,fun _=>rfl,aJ,aL,aQ,al,ao,aG,aM,aO,aN,⟨SN,hN,e10,e11,e12,e13,e14,e15,hI⟩⟩
    ·intro D aY d3 ge eh ei bT bS dY cW dr du dq dt dp gC eE ek eF dX w_
     rintro ⟨aA,aB,aC,aD,aw,aE,aF,aJ,aL,aQ,al,ao,aG,aM,aO,aN,⟨SN,hN,e10,e11,e12,e13,e14,e15,hI⟩⟩
     obtain rfl:=aE d3
     obtain rfl:=aF ge
     refine bi av hk' ?_
     exact ⟨aA,aB,aC,aD,aw,aE,aF,fun _=>rfl,aL,aQ,al,ao,aG,aM,aO,aN,⟨SN,hN,e10,e11,e12,e13,e14,e15,hI⟩⟩
    ·intro D aY ed eh ei bT bS dY cW dr du dq dt dp gC eE ek eF dX w_
     rintro ⟨aA,aB,aC,aD,aw,aE,aF,aJ,aL,aQ,al,ao,aG,aM,aO,aN,⟨SN,hN,e10,e11,e12,e13,e14,e15,hI⟩⟩
     obtain rfl:=aJ ed
     refine cV ai hR2.length (fun j v hj=>by rw [hI.cellS (hN.1 _ _ hS2)]; exact bm rfl j v hj) ?_
     exact ⟨aA,aB,aC,aD,aw,aE,aF,aJ,fun _=>rfl,aQ,al,ao,aG,aM,aO,aN,⟨SN,hN,e10,e11,e12,e13,e14,e15,hI⟩⟩
    ·intro D aY  eh ei bT bS dY cW dr du dq dt dp gC eE ek eF dX w_
     rintro ⟨aA,aB,aC,aD,aw,aE,aF,aJ,aL,aQ,al,ao,aG,aM,aO,aN,⟨SN,hN,e10,e11,e12,e13,e14,e15,hI⟩⟩
     exact ⟨aA,aB,aC,aD,aw,aE,aF,aJ,aL,fun _=>rfl,al,ao,aG,aM,aO,aN,⟨SN,hN,e10,e11,e12,e13,e14,e15,hI⟩⟩
    ·intro D aY cR gp K2 eh ei bT bS dY cW dr du dq dt dp gC eE ek eF dX w_
     rintro ⟨aA,aB,aC,aD,aw,aE,aF,aJ,aL,aQ,al,ao,aG,aM,aO,aN,⟨SN,hN,e10,e11,e12,e13,e14,e15,hI⟩⟩
     obtain rfl:=aw cR
     obtain rfl:=aL gp
     obtain rfl:=aQ K2
     refine Run.call0E BW Cr hI (z4 (hR1.mono hN.1) (hR2.mono hN.1) hg.ok.1 hfk.ok.2.1 hst.ok.1 hkp hkm (hN.1 _ _ (hE.1 _ _ hS)) ((hkc.mono hE.1).mono hN.1)) fun v' I' SN w_=>?_
     rw [<- hr]
     rintro ⟨rfl,kb',kp',kc',rfl,hk1,hk2,hk3,hk4⟩ hE3 hI
     have e10:=fun (_:ay D 10 10=true)=>(⟨kb',kp',kc',rfl,hk1,hk2,hk3,hk4⟩:IsM SN (.tuple #[kvn kb' kp',.bool r.1]) r)
     have e11:=fun (e:ay D 10 11=true)=>(e11 e).mono hE3.1
     have e12:=fun (e:ay D 10 12=true)=>(e12 e).mono hE3.1
     have e14:=fun (e:ay D 10 14=true)=>(e14 e).mono hE3.1
     have hN:=hN.trans hE3
     exact ⟨aA,aB,aC,aD,aw,aE,aF,aJ,aL,aQ,fun _=>by first|assumption|trivial,ao,aG,aM,aO,aN,⟨SN,hN,e10,e11,e12,e13,e14,e15,hI⟩⟩
    ·intro D aY gx eh ei bT bS dY cW dr du dq dt dp gC eE ek eF dX w_
     rintro ⟨aA,aB,aC,aD,aw,aE,aF,aJ,aL,aQ,al,ao,aG,aM,aO,aN,⟨SN,hN,e10,e11,e12,e13,e14,e15,hI⟩⟩
     have OZ:=al gx
     have e11:=fun (_:ay D 11 11=true)=>e10 gx
     exact ⟨aA,aB,aC,aD,aw,aE,aF,aJ,aL,aQ,al,fun _=>by first|assumption|trivial,aG,aM,aO,aN,⟨SN,hN,e10,e11,e12,e13,e14,e15,hI⟩⟩
    ·intro D aY g8 eh ei bT bS dY cW dr du dq dt dp gC eE ek eF dX w_
     rintro ⟨aA,aB,aC,aD,aw,aE,aF,aJ,aL,aQ,al,ao,aG,aM,aO,aN,⟨SN,hN,e10,e11,e12,e13,e14,e15,hI⟩⟩
     have Of:=ao g8
     obtain ⟨u,rfl,hu⟩:=(e11 g8).parts
     refine bb rfl ?_
     have e12:=fun (_:ay D 12 12=true)=>hu
     exact ⟨aA,aB,aC,aD,aw,aE,aF,aJ,aL,aQ,al,ao,fun _=>by first|assumption|trivial,aM,aO,aN,⟨SN,hN,e10,e11,e12,e13,e14,e15,hI⟩⟩
    ·intro D aY g8 eh ei bT bS dY cW dr du dq dt dp gC eE ek eF dX w_
     rintro ⟨aA,aB,aC,aD,aw,aE,aF,aJ,aL,aQ,al,ao,aG,aM,aO,aN,⟨SN,hN,e10,e11,e12,e13,e14,e15,hI⟩⟩
     have Of:=ao g8
     obtain ⟨u,rfl,hu⟩:=(e11 g8).parts
     refine bb rfl ?_
     have e13:=fun (_:ay D 13 13=true)=>(rfl:Value.bool r.1=.bool r.1)
     exact ⟨aA,aB,aC,aD,aw,aE,aF,aJ,aL,aQ,al,ao,aG,fun _=>by first|assumption|trivial,aO,aN,⟨SN,hN,e10,e11,e12,e13,e14,e15,hI⟩⟩
    ·intro D aY kK lJ oI sL ui rQ tD x3 xE Bo Dn C9 uD zz AW eh ei bT bS dY cW dr du dq dt dp gC eE ek eF dX w_
     rintro ⟨aA,aB,aC,aD,aw,aE,aF,aJ,aL,aQ,al,ao,aG,aM,aO,aN,⟨SN,hN,e10,e11,e12,e13,e14,e15,hI⟩⟩
     have Pk:=aG kK
     have e14:=fun (_:ay D 14 14=true)=>e12 kK
     exact ⟨aA,aB,aC,aD,aw,aE,aF,aJ,aL,aQ,al,ao,aG,aM,fun _=>by first|assumption|trivial,aN,⟨SN,hN,e10,e11,e12,e13,e14,e15,hI⟩⟩
    ·intro D aY ib wb oI sL ui rQ tD x3 xE Bo Dn C9 uD zz AW Ei Eh eh ei bT bS dY cW dr du dq dt dp gC eE ek eF dX w_
     rintro ⟨aA,aB,aC,aD,aw,aE,aF,aJ,aL,aQ,al,ao,aG,aM,aO,aN,⟨SN,hN,e10,e11,e12,e13,e14,e15,hI⟩⟩
     have Ph:=aM ib
     have e15:=fun (_:ay D 15 15=true)=>e13 ib
     exact ⟨aA,aB,aC,aD,aw,aE,aF,aJ,aL,aQ,al,ao,aG,aM,aO,fun _=>by first|assumption|trivial,⟨SN,hN,e10,e11,e12,e13,e14,e15,hI⟩⟩
    intro D nu nF ov je fi fp jt gK fT fY fE fm fw fF fC fD eh ei bT bS dY cW dr du dq dt dp gC eE ek eF dX w_
    rintro ⟨aA,aB,aC,aD,aw,aE,aF,aJ,aL,aQ,al,ao,aG,aM,aO,aN,⟨SN,hN,e10,e11,e12,e13,e14,e15,hI⟩⟩
    have PS:=aN nu
    have PX:=aO nF
    have Ph:=aM ov
    have Pk:=aG je
    have Of:=ao fi
    have OZ:=al fp
    obtain rfl:=aQ jt
    obtain rfl:=aL gK
    obtain rfl:=aJ fT
    obtain rfl:=aF fY
    obtain rfl:=aE fE
    obtain rfl:=aw fm
    obtain rfl:=aD fw
    obtain rfl:=aC fF
    obtain rfl:=aB fC
    obtain rfl:=aA fD
    clear aA aB aC aD aw aE aF aJ aL aQ al ao aG aM aO aN
    have hx12:=e14 nF
    have hx13:=e15 nu
    subst hx13
    have hE3:=hE.trans hN
    clear e10 e11 e12 e13 e14 e15
    refine a8 (fun hb=>?_) (fun hb=>?_)
    ·have hFo:F o facts[k]=ia c0.head facts gs o r.2:=by rw [hF2,<- hr,if_pos hb]
     rw [hFo]
     refine ba hI 0 bF rfl rfl ?_
     refine bL (by omega) ?_
     have hst2:StF r.2:=by rw [hr]; exact (j2 hg hfk hst).1
     have hc2:ir c0.head gs r.2:=by rw [hr]; exact kH hc hg hfk hst (by rw [<- hr]; exact hb)
     refine Run.call0E mw mS hI (ih (i+1) (by omega) hge.2 SN _ t0 _ _ o r.2 (h0.mono hE3.1) (hv'.monoT hN.1) (hf.monoT hE3.1) hx12 hst2 hc2 hoo hno) fun v' I' S2 w'=>?_
     rintro ⟨rfl,hr2⟩ hE4 hI
     exact ⟨S2,hE3.trans hE4,hr2,hI.pick [true]⟩
    ·have hFo:F o facts[k]=o:=by rw [hF2,<- hr,if_neg (by rw [hb]; decide)]
     rw [hFo]
     exact ⟨SN,hE3,hv'.monoT hN.1,hI⟩
   intro t0' _ _ _ _ _ _ _ _ _ _ _ _ _ _ _ _ _ _ _ _ _ _ _ _ w'
   rintro ⟨S2,hE2,hv2,hI⟩
   refine bL (by omega) ?_
   have hFo:=hF2 o facts[k]
   refine ⟨⟨k+1,_,S2,hk',rfl,hrel,?_,?_,hE2,hv2,hI⟩,by simp [intOf]; omega⟩
   ·rw [hFo]; exact hso.1
   ·rw [hFo]; exact hso.2
  ·have:k=facts.length:=by omega
   subst this
   rw [List.drop_length,List.foldl_nil] at hrel
   rw [<- hrel]
   exact ⟨_,_,_,rfl,hI.pick [false],hE,rfl,hv'⟩
end

end Go.Proofs.YtemmhhdnlbmicaaGreat

/- spec.ModelClosed. -/
namespace Go.Proofs.YtemmhhdnlbmicaaGreat
open Go Go.RowKit
theorem Di {t:T} {d:Int} (h:fh t d=true):eC t=true/\eX t.kids (d - 1)=true:=by
 cases t
 rw [fh] at h
 split at h
 ·cases h
 ·rw [Bool.and_eq_true] at h
  exact h
theorem AX:∀ {ts:List T} {d:Int},eX ts d=true->∀ t∈ts,fh t d=true
 | [],_,_,t,ht=>by cases ht
 | x::ts,d,h,t,ht=>by
  rw [eX,Bool.and_eq_true] at h
  rcases List.mem_cons.1 ht with rfl|ht
  ·exact h.1
  ·exact AX h.2 t ht
theorem Eq {t:T} (hv:ez t=true) (hf:ex t=true):Gl t:=by
 rw [ex,Bool.and_eq_true,List.all_eq_true] at hf
 obtain ⟨hk,hp⟩:=hf
 rw [fZ,Bool.and_eq_true,decide_eq_true_eq] at hp
 obtain ⟨h1,h2⟩:=Di (lm hv)
 refine ⟨hp.1,h1,fun y hy=>⟨(Di (AX h2 y hy)).1,?_⟩⟩
 have:=hk y hy
 rw [ix,decide_eq_true_eq] at this
 exact List.eq_nil_of_length_eq_zero this
theorem Ml {l:List Int} {n m:Int} (h:m∈kw l n):m∈l ∨ m=n:=by
 unfold kw at h
 split at h
 ·exact .inl h
 ·simpa using h
theorem C2 (t:T) (l:List Int):f2 t l=eK t.kids (if t.kind=1 then kw l t.n else l):=by cases t; rw [f2]; rfl
theorem zh:∀ (ks:List T) (l:List Int),(∀ y∈ks,y.kids=[])->∀ n,n∈eK ks l↔n∈l ∨ ∃ z∈ks,z.kind=1/\z.n=n
 | [],l,_,n=>by simp [eK]
 | k::ks,l,hk,n=>by
  rw [eK,zh ks _ (fun y hy=>hk y (List.mem_cons_of_mem _ hy)),C2,hk k (List.mem_cons_self ..),eK]
  have hsrc:(n∈if k.kind=1 then kw l k.n else l)↔n∈l ∨ (k.kind=1/\k.n=n):=by
   split
   ·rename_i h
    constructor
    ·intro hm
     rcases Ml hm with h1|h1
     ·exact .inl h1
     ·exact .inr ⟨h,h1.symm⟩
    ·rintro (h1|⟨_,rfl⟩)
     ·exact (show ∀ m∈l,m∈kw l k.n from fun m hm=>by unfold kw; split; exact hm; simp [hm]) n h1
     ·unfold kw
      split
      ·rename_i h2
       simpa [i6] using h2
      ·simp
   ·rename_i h
    exact ⟨.inl,fun h1=>h1.elim id fun h2=>absurd h2.1 h⟩
  rw [hsrc]
  constructor
  ·rintro ((h|⟨h1,h2⟩)|⟨z,hz,h⟩)
   ·exact .inl h
   ·exact .inr ⟨k,List.mem_cons_self ..,h1,h2⟩
   ·exact .inr ⟨z,List.mem_cons_of_mem _ hz,h⟩
  ·rintro (h|⟨z,hz,h⟩)
   ·exact .inl (.inl h)
   ·rcases List.mem_cons.1 hz with rfl|hz
    ·exact .inl (.inr h)
    ·exact .inr ⟨z,hz,h⟩
theorem tq {g:T} (h:Gl g) (l:List Int) (n:Int):n∈f2 g l↔n∈l ∨ ∃ z∈g.kids,z.kind=1/\z.n=n:=by
 rw [C2,if_neg (by have:=h.1; omega)]
 exact zh g.kids l (fun y hy=>(h.2.2 y hy).2) n
theorem FI:∀ (gs:List T) (l:List Int),(∀ g∈gs,Gl g)->∀ n,n∈eK gs l->n∈l ∨ ∃ g∈gs,∃ z∈g.kids,z.kind=1/\z.n=n
 | [],l,_,n,h=>.inl h
 | g::gs,l,hg,n,h=>by
  rw [eK] at h
  rcases FI gs _ (fun x hx=>hg x (List.mem_cons_of_mem _ hx)) n h with h|⟨x,hx,h⟩
  ·rcases (tq (hg g (List.mem_cons_self ..)) l n).1 h with h|h
   ·exact .inl h
   ·exact .inr ⟨g,List.mem_cons_self ..,h⟩
  ·exact .inr ⟨x,List.mem_cons_of_mem _ hx,h⟩
theorem H4 {c:C} (hv:dD c=true) (hf:gF c=true):Gl c.head/\(∀ g∈c.body,Gl g)/\ir c.head c.body st0:=by
 rw [dD] at hv
 simp only [Bool.and_eq_true,List.all_eq_true] at hv
 rw [gF] at hf
 simp only [Bool.and_eq_true,List.all_eq_true] at hf
 have hb:∀ g∈c.body,Gl g:=fun g hg=>by
  have h1:=hv.2.1 g hg
  rw [ic,Bool.and_eq_true] at h1
  exact Eq h1.1 (hf.2.2.1 g hg)
 have hh:=Eq hv.2.2.1 hf.1
 refine ⟨hh,hb,fun y hy hk=>?_⟩
 right
 have h1:=hf.2.2.2 y.n ((tq hh [] y.n).2 (.inr ⟨y,hy,hk,rfl⟩))
 have h2:y.n∈eK c.body []:=by simpa [i6] using h1
 rcases FI c.body [] hb y.n h2 with h|h
 ·cases h
 ·exact h
theorem pu {p:List C} (h:f1 p=true):∀ c∈p,Gl c.head/\(∀ g∈c.body,Gl g)/\ir c.head c.body st0:=by
 intro c hc
 rw [f1,Bool.and_eq_true,List.all_eq_true] at h
 have h1:=h.1
 rw [n4] at h1
 simp only [Bool.and_eq_true,List.all_eq_true] at h1
 exact H4 (h1.2 c hc) (h.2 c hc)
/- facts -/
def iT (t:T):Bool:=ez t && (ex t && decide ((f2 t []).length=0))
theorem KD {t:T} (h:iT t=true):Fct t:=by
 rw [iT] at h
 simp only [Bool.and_eq_true,decide_eq_true_eq] at h
 have hg:=Eq h.1 h.2.1
 refine ⟨hg.1,hg.2.1,fun y hy=>⟨(hg.2.2 y hy).1,(hg.2.2 y hy).2,fun hk=>?_⟩⟩
 have h1:=(tq hg [] y.n).2 (.inr ⟨y,hy,hk,rfl⟩)
 rw [List.eq_nil_of_length_eq_zero h.2.2] at h1
 cases h1
def jT (l:List T):Bool:=l.all iT && decide (l.length<=60)
theorem rF {l:List T} (h:jT l=true):(∀ f∈l,Fct f)/\l.length<=60:=by
 rw [jT,Bool.and_eq_true,List.all_eq_true,decide_eq_true_eq] at h
 exact ⟨fun f hf=>KD (h.1 f hf),h.2⟩
def f3 (facts:List T) (c:C):Bool:=(eM c.head facts c.body st0).all (kx facts)
def ja (p:List C) (facts:List T):Bool:=f1 p && (jT facts && p.all (f3 facts))
theorem Fu {c:C} {facts:List T} (hg:Gl c.head/\(∀ g∈c.body,Gl g)/\ir c.head c.body st0) (hf:jT facts=true):(ia c.head facts c.body [] st0).all (kx facts)=f3 facts c:=by
 obtain ⟨h1,h2⟩:=rF hf
 rw [pE,f3]
 exact K4 h2 fun x hx=>(rO hg.1 h1 c.body st0 hg.2.1 AN hg.2.2 x hx).ok.2.2.1
section
attribute [local irreducible] Run CondV aj bd
theorem A1 {l:List T} {S:az} {v:Value} (h:RdSl S 4 (RdT S) v l) (hw:wL l<=1048576):Pure Tryz.prog DP [v] S (.bool (jT l)):=by
 intro w hI
 have hlen:=h.le
 simp only [maxLen] at hlen
 refine uW ?_
 unfold qs;dsimp only
 refine ⟨fun i w'=>∃ j:Nat,j<=l.length/\i=.int .i64 j/\(l.drop j).all iT=l.all iT/\Inv w [] [] S w',fun i _=>l.length - (intOf i).toNat,⟨0,Nat.zero_le _,rfl,rfl,hI⟩,?_⟩
 intro t3 _ _ _ _ _ _ _ _ _ _ _ _ _ _ _ _ _ _ _ _ _ _ _ _ _ _ _ _ _ _ w'
 rintro ⟨j,hj,rfl,hall,hI⟩
 refine a9 h av ?_
 refine bR ?_
 refine bk (fun hji=>?_) (fun hji=>?_)
 ·have hj':j<l.length:=by omega
  have hstep:=gT iT l j hj'
  have hwm:=iB (List.getElem_mem hj')
  have hcn:=vz l[j]
  refine ⟨fun t w'=>t=.bool (!iT l[j])/\Inv w [] [] S w',?_,?_⟩
  ·refine dG hI h av ai hj' (fun _ _=>RdT.length) fun cs hcs=>?_
   refine Run.callPure gS gY hI (gr hcs (by omega)) fun w' hI=>?_
   refine cF ?_
   rw [iT]
   cases hv:ez l[j]
   ·repeat (first|refine ad ?_|refine af (by decide) ?_|refine ac ?_|refine ah ?_|refine ag ?_)
    exact ⟨rfl,hI⟩
   ·repeat (first|refine ad ?_|refine af (by decide) ?_|refine ac ?_|refine ah ?_|refine ag ?_)
    refine dG hI h av ai hj' (fun _ _=>RdT.length) fun cs hcs=>?_
    refine Run.callPure ms mW hI (lr hcs) fun w' hI=>?_
    refine cF ?_
    cases hf:ex l[j]
    ·repeat (first|refine ad ?_|refine af (by decide) ?_|refine ac ?_|refine ah ?_|refine ag ?_)
     exact ⟨rfl,hI⟩
    ·repeat (first|refine ad ?_|refine af (by decide) ?_|refine ac ?_|refine ah ?_|refine ag ?_)
     refine dG hI h av ai hj' (fun _ _=>RdT.length) fun cs hcs=>?_
     have hI:=hI.rowNil ff 1
     refine Run.call (A:=[]) kX kB hI (mG _ S cs (.slice none 0 0) [] hcs (by simp only [List.length_nil]; omega)) fun v' I' S' w'=>?_
     rintro ⟨rfl,rfl⟩ _ hI
     rw [AB _ 30 _ (lm hv)] at hI
     obtain ⟨S1,hle1,hrd,hI,_⟩:=Inv.lend (A:=[]) hI
     refine a9 hrd.ints fl ?_
     refine d6 ?_
     repeat (first|refine ad ?_|refine af (by decide) ?_|refine ac ?_|refine ah ?_|refine ag ?_)
     refine ⟨?_,hI.less hle1⟩
     congr 1
     by_cases h0:(f2 l[j] []).length=0
     ·rw [decide_eq_true h0,decide_eq_false (by omega)]; rfl
     ·rw [decide_eq_false h0,decide_eq_true (by omega)]; rfl
  intro t _ _ _ _ _ _ _ _ _ _ _ _ _ _ _ _ _ _ _ _ _ _ w'
  rintro ⟨rfl,hI⟩
  refine a8 (fun hne=>done hI ?_) (fun he=>?_)
  ·have hne':iT l[j]=false:=by simpa using hne
   rw [jT,<- hall,hstep,hne']; rfl
  ·have he':iT l[j]=true:=by simpa using he
   refine bL (by omega) ?_
   exact ⟨⟨j+1,hj',rfl,by rw [<- hall,hstep,he']; rfl,hI⟩,by simp [intOf]; omega⟩
 ·have:j=l.length:=by omega
  subst this
  refine a9 h av ?_
  refine fK ?_
  refine done hI ?_
  rw [jT,<- hall,List.drop_length,List.all_nil,Bool.true_and]
  congr 1
  rw [Bool.eq_iff_iff,decide_eq_true_eq,decide_eq_true_eq]
  omega
theorem ji {p:List C} {facts:List T} {S:az} {v u:Value} (h:RdSl S 5 (RdC S) v p) (hq:RdSl S 4 (RdT S) u facts) (hw:wP p<=1048576) (hw2:wL facts<=1048576) :
  Pure Tryz.prog xK [v,u] S (.bool (ja p facts)):=by
 intro w hI
 have hlen:=h.le
 simp only [maxLen] at hlen
 refine pW ?_
 unfold mh
 refine ⟨fun t w'=>t=.bool (!(f1 p && jT facts))/\Inv w [] [] S w',?_,?_⟩
 ·refine Run.callPure l3 lL hI (jW h hw) fun w' hI=>?_
  refine cF ?_
  cases hv:f1 p
  ·repeat (first|refine ad ?_|refine af (by decide) ?_|refine ac ?_|refine ah ?_|refine ag ?_)
   exact ⟨rfl,hI⟩
  ·repeat (first|refine ad ?_|refine af (by decide) ?_|refine ac ?_|refine ah ?_|refine ag ?_)
   refine Run.callPure BB B7 hI (A1 hq hw2) fun w' hI=>?_
   refine cF ?_
   repeat (first|refine ad ?_|refine af (by decide) ?_|refine ac ?_|refine ah ?_|refine ag ?_)
   exact ⟨rfl,hI⟩
 intro t _ _ _ _ _ _ _ w'
 rintro ⟨rfl,hI⟩
 refine a8 (fun hb=>done hI ?_) (fun hb=>?_)
 ·rw [Bool.not_eq_true'] at hb
  rw [ja,<- Bool.and_assoc,hb]; rfl
 rw [Bool.not_eq_false',Bool.and_eq_true] at hb
 have hm:ja p facts=p.all (f3 facts):=by rw [ja,hb.1,hb.2]; rfl
 have hparts:=pu hb.1
 obtain ⟨hfs,hfl⟩:=rF hb.2
 refine ⟨fun i w'=>∃ (j:Nat) (S':az),j<=p.length/\i=.int .i64 j/\(p.drop j).all (f3 facts)=p.all (f3 facts)/\Ext w.heap.size [] S S'/\Inv w [] [] S' w',fun i _=>p.length - (intOf i).toNat,⟨0,S,Nat.zero_le _,rfl,rfl,Ext.refl _ _ _,hI⟩,?_⟩
 intro t5 _ _ _ _ _ _ _ _ _ _ _ _ _ _ _ _ _ t6 _ _ _ _ _ _ _ _ _ _ _ _ w'
 rintro ⟨j,S',hj,rfl,hall,hE,hI⟩
 have h':=h.monoC hE.1
 have hq':=hq.monoT hE.1
 refine a9 h' cC ?_
 refine bR ?_
 refine bk (fun hji=>?_) (fun hji=>?_)
 ·have hj':j<p.length:=by omega
  have hstep:=gT (f3 facts) p j hj'
  have hpj:=hparts _ (List.getElem_mem hj')
  have hbc:=Fu hpj hb.2
  obtain ⟨l,hl⟩:∃ l,l=ia p[j].head facts p[j].body [] st0:=⟨_,rfl⟩
  have hok:=My hpj.1 hfs hpj.2.1 AN hpj.2.2 (out:=[]) (by simp) (by simp)
  rw [<- hl] at hbc hok
  obtain ⟨b,o,cap,c,E,fz,rfl,hS,hR⟩:=h'.at_ hj'
  refine ⟨fun D x6 c5 cE cM bW bQ bU cA ce w_=>(D 0=true->True)/\(D 1=true->cA=.slice (some ⟨b,o,none⟩) p.length cap)/\(D 2=true->bU=.int .i64 j)/\(D 3=true->bQ=.pointer (some ⟨b,o+j * 5,none⟩))/\(D 4=true->bW=.agg (bu c (o+j * 5) 5).toArray)/\(D 5=true->cM=u)/\(D 6=true->True)/\(D 7=true->True)/\(D 8=true->True)/\∃ SN,Ext w.heap.size [] S' SN/\(D 0=true->RdSl SN 4 (RdT SN) ce [])/\(D 6=true->IsKn SN cE st0)/\(D 7=true->RdSl SN 4 (RdT SN) c5 l)/\(D 8=true->RdSl SN 4 (RdT SN) x6 l)/\Inv w [] [] SN w_,⟨ae,ae,ae,ae,ae,ae,ae,ae,ae,⟨S',Ext.refl _ _ _,ae,ae,ae,ae,hI.draw⟩⟩,⟨?_,?_,?_,?_,?_,?_,?_,?_,?_,trivial⟩,?_⟩
  ·intro D aY  x6 c5 cE cM bW bQ bU cA ce w_
   rintro ⟨aA,aB,aC,aD,aw,aE,aF,aJ,aL,⟨SN,hN,e0,e6,e7,e8,hI⟩⟩
   refine eB hI bD fun v0 w_ hI=>?_
   obtain ⟨SN,hE2,hrd,hI⟩:=Inv.lendExt (A:=[]) (css:=[]) hI
   have e6:=fun (e:ay D 0 6=true)=>(e6 e).mono hE2.1
   have e7:=fun (e:ay D 0 7=true)=>(e7 e).monoT hE2.1
   have e8:=fun (e:ay D 0 8=true)=>(e8 e).monoT hE2.1
   have hN:=hN.trans hE2
   have e0:=fun (_:ay D 0 0=true)=>RowRd.rows (Rows.nil 4 (RdT SN)) hrd
   exact ⟨fun _=>by first|assumption|trivial,aB,aC,aD,aw,aE,aF,aJ,aL,⟨SN,hN,e0,e6,e7,e8,hI⟩⟩
  ·intro D aY  x6 c5 cE cM bW bQ bU cA ce w_
   rintro ⟨aA,aB,aC,aD,aw,aE,aF,aJ,aL,⟨SN,hN,e0,e6,e7,e8,hI⟩⟩
   exact ⟨aA,fun _=>rfl,aC,aD,aw,aE,aF,aJ,aL,⟨SN,hN,e0,e6,e7,e8,hI⟩⟩
  ·intro D aY  x6 c5 cE cM bW bQ bU cA ce w_
   rintro ⟨aA,aB,aC,aD,aw,aE,aF,aJ,aL,⟨SN,hN,e0,e6,e7,e8,hI⟩⟩
   exact ⟨aA,aB,fun _=>rfl,aD,aw,aE,aF,aJ,aL,⟨SN,hN,e0,e6,e7,e8,hI⟩⟩
  ·intro D aY dC gA x6 c5 cE cM bW bQ bU cA ce w_
   rintro ⟨aA,aB,aC,aD,aw,aE,aF,aJ,aL,⟨SN,hN,e0,e6,e7,e8,hI⟩⟩
   obtain rfl:=aB dC
   obtain rfl:=aC gA
   refine bi cC hj' ?_
   exact ⟨aA,aB,aC,fun _=>rfl,aw,aE,aF,aJ,aL,⟨SN,hN,e0,e6,e7,e8,hI⟩⟩
  ·intro D aY dB x6 c5 cE cM bW bQ bU cA ce w_
   rintro ⟨aA,aB,aC,aD,aw,aE,aF,aJ,aL,⟨SN,hN,e0,e6,e7,e8,hI⟩⟩
   obtain rfl:=aD dB
   refine cV bF hR.length (fun j v hj=>by rw [hI.cellS (hN.1 _ _ hS)]; exact bm rfl j v hj) ?_
   exact ⟨aA,aB,aC,aD,fun _=>rfl,aE,aF,aJ,aL,⟨SN,hN,e0,e6,e7,e8,hI⟩⟩
  ·intro D aY  x6 c5 cE cM bW bQ bU cA ce w_
   rintro ⟨aA,aB,aC,aD,aw,aE,aF,aJ,aL,⟨SN,hN,e0,e6,e7,e8,hI⟩⟩
   exact ⟨aA,aB,aC,aD,aw,fun _=>rfl,aF,aJ,aL,⟨SN,hN,e0,e6,e7,e8,hI⟩⟩
  ·intro D aY  x6 c5 cE cM bW bQ bU cA ce w_
   rintro ⟨aA,aB,aC,aD,aw,aE,aF,aJ,aL,⟨SN,hN,e0,e6,e7,e8,hI⟩⟩
   refine sE (n:=26) hI bD (by omega) (by omega) (by omega) fun kb w_ hI=>?_
   have hkc0:=JE _ rfl SN
   obtain ⟨kc,hkce⟩:∃ kc,kc=(Array.range 104).map ((#[.int .i64 0,.int .i64 0,.string ⟨#[]⟩,.slice none 0 0]:Array Value)[· % (#[.int .i64 0,.int .i64 0,.string ⟨#[]⟩,.slice none 0 0]:Array Value).size]!):=⟨_,rfl⟩
   rw [<- hkce] at hkc0
   have hI:Inv w [] ([]++bP [(kb,.cells kc ab)]) SN w_:=by rw [hkce]; exact hI
   obtain ⟨SN,hI,hE2,hins⟩:=hI.pubExt
   have e0:=fun (e:ay D 6 0=true)=>(e0 e).monoT hE2.1
   have e7:=fun (e:ay D 6 7=true)=>(e7 e).monoT hE2.1
   have e8:=fun (e:ay D 6 8=true)=>(e8 e).monoT hE2.1
   have hN:=hN.trans hE2
   have e6:=fun (_:ay D 6 6=true)=>(⟨kb,26,kc,rfl,Nat.le_refl _,by simp [maxLen],hins _ (List.mem_singleton.2 rfl),hkc0.mono hE2.1⟩:IsKn SN (kvn kb 26) st0)
   exact ⟨aA,aB,aC,aD,aw,aE,fun _=>by first|assumption|trivial,aJ,aL,⟨SN,hN,e0,e6,e7,e8,hI⟩⟩
  ·intro D aY cc dJ Fr AV x6 c5 cE cM bW bQ bU cA ce w_
   rintro ⟨aA,aB,aC,aD,aw,aE,aF,aJ,aL,⟨SN,hN,e0,e6,e7,e8,hI⟩⟩
   have OB:=aA cc
   obtain rfl:=aw dJ
   obtain rfl:=aE Fr
   have M5:=aF AV
   refine Run.call0E mw mS hI (qL p[j] facts hpj.1 hfs hpj.2.1 p[j].body 0 (by simp) rfl SN _ _ _ _ [] st0 (hR.mono hN.1) (e0 cc) (hq'.monoT hN.1) (e6 AV) AN hpj.2.2 (by simp) (by simp)) fun v' I' SN w_=>?_
   rw [<- hl]
   rintro ⟨rfl,hr⟩ hE2 hI
   have e0:=fun (e:ay D 7 0=true)=>(e0 e).monoT hE2.1
   have e6:=fun (e:ay D 7 6=true)=>(e6 e).mono hE2.1
   have e8:=fun (e:ay D 7 8=true)=>(e8 e).monoT hE2.1
   have hN:=hN.trans hE2
   have e7:=fun (_:ay D 7 7=true)=>hr
   exact ⟨aA,aB,aC,aD,aw,aE,aF,fun _=>by first|assumption|trivial,aL,⟨SN,hN,e0,e6,e7,e8,hI⟩⟩
  ·intro D aY ed jZ oI sL ui rQ tD x3 xE Bo x6 c5 cE cM bW bQ bU cA ce w_
   rintro ⟨aA,aB,aC,aD,aw,aE,aF,aJ,aL,⟨SN,hN,e0,e6,e7,e8,hI⟩⟩
   have K6:=aJ ed
   have e8:=fun (_:ay D 8 8=true)=>e7 ed
   exact ⟨aA,aB,aC,aD,aw,aE,aF,aJ,fun _=>by first|assumption|trivial,⟨SN,hN,e0,e6,e7,e8,hI⟩⟩
  intro D gK fT fY fE fm fw fF fC fD x6 c5 cE cM bW bQ bU cA ce w_
  rintro ⟨aA,aB,aC,aD,aw,aE,aF,aJ,aL,⟨SN,hN,e0,e6,e7,e8,hI⟩⟩
  have MZ:=aL gK
  have K6:=aJ fT
  have M5:=aF fY
  obtain rfl:=aE fE
  obtain rfl:=aw fm
  obtain rfl:=aD fw
  obtain rfl:=aC fF
  obtain rfl:=aB fC
  have OB:=aA fD
  clear aA aB aC aD aw aE aF aJ aL
  have hx:=e8 gK
  have hE2:=hE.trans hN
  clear e0 e6 e7 e8
  have hlx:=hx.le
  simp only [maxLen] at hlx
  refine ⟨fun i w'=>∃ k:Nat,k<=l.length/\i=.int .i64 k/\(l.drop k).all (kx facts)=l.all (kx facts)/\Inv w [] [] SN w',fun i _=>l.length - (intOf i).toNat,⟨0,Nat.zero_le _,rfl,rfl,hI⟩,?_⟩
  intro t7 _ _ _ _ _ _ _ _ _ _ _ _ _ _ w'
  rintro ⟨k,hk,rfl,hall2,hI⟩
  refine a9 hx av ?_
  refine bR ?_
  refine bk (fun hki=>?_) (fun hki=>?_)
  ·have hk':k<l.length:=by omega
   have hstep2:=gT (kx facts) l k hk'
   refine dG hI hx av ai hk' (fun _ _=>RdT.length) fun cs hcs=>?_
   refine Run.callPure G2 Gu hI (Ey (hq'.monoT hN.1) hcs) fun w' hI=>?_
   refine cF ?_
   refine a8 (fun hne=>iR hI hE2.1 ?_) (fun he=>?_)
   ·have hne':kx facts l[k]=false:=by simpa using hne
    rw [hm,<- hall,hstep,<- hbc,<- hall2,hstep2,hne']; rfl
   ·have he':kx facts l[k]=true:=by simpa using he
    refine bL (by omega) ?_
    exact ⟨⟨k+1,hk',rfl,by rw [<- hall2,hstep2,he']; rfl,hI⟩,by simp [intOf]; omega⟩
  ·have:k=l.length:=by omega
   subst this
   rw [List.drop_length,List.all_nil] at hall2
   refine bL (by omega) ?_
   exact ⟨⟨j+1,SN,hj',rfl,by rw [<- hall,hstep,<- hbc,<- hall2]; rfl,hE2,hI⟩,by simp [intOf]; omega⟩
 ·have:j=p.length:=by omega
  subst this
  exact iR hI hE.1 (by rw [hm,<- hall,List.drop_length]; rfl)
end

end Go.Proofs.YtemmhhdnlbmicaaGreat

/- Goals, clauses, programs, queries: which are valid, on both sides. -/
import Derived.Test.YtmnnpgdeecnfpaaGreatZPg0
import Derived.Test.YtmnnpgdeecnfpaaGreatRows
import Derived.ProofKit
import Derived.ReadAgain
import Derived.Carry
import Derived.Test.YtmnnpgdeecnfpaaGreatData
import Derived.Test.YtmnnpgdeecnfpaaGreatZPgF
import Derived.Test.YtmnnpgdeecnfpaaGreatZPgh1
import Derived.Laws.BytesArg
import Derived.Laws.StructEq
import Derived.Laws.Tables
namespace Go.Proofs.YtmnnpgdeecnfpaaGreat
open Go Go.RowKit
section
variable {P:Program} {w:World} {K:Value->World->Prop} {ty:TypeId}
theorem ad {b:Bool} {A B:Prop} (h:B):GuardV undef b A B:=by unfold GuardV; exact h
theorem ai {v u:Value} (hk:K v w):Run P (sOp (.pick (.const (.bool true)) (.const v) (.const u)) ty) w K:=r_pick hk
theorem ah {v u:Value} (hk:K u w):Run P (sOp (.pick (.const (.bool false)) (.const v) (.const u)) ty) w K:=r_pick hk
end
attribute [local irreducible] Run CondV GuardV LoadV

def vw:List ByteArray:=[⟨#[61]⟩,⟨#[92,61]⟩,⟨#[61,61]⟩,⟨#[60]⟩,⟨#[62]⟩,⟨#[61,60]⟩,⟨#[62,61]⟩,⟨#[61,58,61]⟩,⟨#[105,115]⟩]
def mv:List ByteArray:=[⟨#[116,114,117,101]⟩,⟨#[102,97,105,108]⟩]
def uf:List ByteArray:=[⟨#[118,97,114]⟩,⟨#[110,111,110,118,97,114]⟩,⟨#[97,116,111,109]⟩,⟨#[105,110,116]⟩]
def AX:List ByteArray:=[⟨#[43]⟩,⟨#[45]⟩]
def sZ:List ByteArray:=[⟨#[42]⟩,⟨#[47,47]⟩,⟨#[109,111,100]⟩]
def bX (s:ByteArray) (l:List ByteArray):Bool:=l.any fun x=>decide (s=x)
def cD (s:ByteArray) (n:Int):Bool:=
 if bX s vw=true then decide (n=2)
 else if bX s mv=true then decide (n=0)
 else if bX s uf=true then decide (n=1)
 else if s=⟨#[97,114,103]⟩ then decide (n=3)
 else false
def aU (s:ByteArray):Int:=if bX s vw=true then 3 else if bX s AX=true then 2 else if bX s sZ=true then 1 else 0
def rQ (t:T):Bool:=decide (t.kind=3) && (decide (t.name=⟨#[33]⟩) && decide (t.kids.length=0))
def Ei (t:T):Bool:=decide (t.kind=3) && decide (t.kids.length=0)
def mz (t:T):Bool:=decide (t.kind=3) && cD t.name t.kids.length
def cj (t:T):Bool:=decide (t.kind=3) && (eZ t.name && (!cD t.name t.kids.length && decide (aU t.name=0)))
def cw (t:T):Bool:=bz t && (rQ t || (cj t || mz t))
def aH (c:C):Bool:=decide (c.body.length<=6) && (c.body.all cw && (bz c.head && cj c.head))
def eU (l:List T):Bool:=decide (l.length<=6) && l.all cw
def cR (p:List C):Bool:=decide (p.length<=20) && p.all aH
theorem BU (s:ByteArray):(!decide (0<aU s))=decide (aU s=0):=by
 unfold aU
 split
 ·rfl
 ·split
  ·rfl
  ·split <;> rfl

theorem gi (s:ByteArray) (n:Int) (S:Store):Pure Tryz.prog vB [.string s,.int .i64 n] S (.bool (cD s n)):=by
 intro w hI
 refine mW ?_
 unfold iS
 obtain ⟨q,hq⟩:∃ q,bX s vw=q:=⟨_,rfl⟩
 have hq1:=hq
 refine ⟨fun t w'=>t=.bool q/\Inv w [] [] S w',?_,?_⟩
 ·unfold bX vw at hq
  iterate 8
   refine r_seql ?_
   refine condV (fun h=>⟨by rw [List.any_cons,h] at hq; rw [h,<- hq]; rfl,hI⟩) (fun h=>?_)
   rw [List.any_cons,h,Bool.false_or] at hq
  refine r_seql ⟨?_,hI⟩
  rw [<- hq]; simp
 intro t _ _ _ _ _ _ _ _ _ w'
 rintro ⟨rfl,hI⟩
 refine condV (fun h=>?_) (fun h=>?_)
 ·exact r_eql (done hI (by rw [cD,if_pos (hq1.trans h)]))
 have e1:cD s n=if bX s mv=true then decide (n=0) else if bX s uf=true then decide (n=1) else if s=⟨#[97,114,103]⟩ then decide (n=3) else false:=by
  rw [cD,if_neg (by rw [hq1,h]; decide)]
 clear hq hq1 h
 obtain ⟨q,hq⟩:∃ q,bX s mv=q:=⟨_,rfl⟩
 have hq1:=hq
 refine ⟨fun t w'=>t=.bool q/\Inv w [] [] S w',?_,?_⟩
 ·unfold bX mv at hq
  refine r_seql ?_
  refine condV (fun h=>⟨by rw [List.any_cons,h] at hq; rw [h,<- hq]; rfl,hI⟩) (fun h=>?_)
  rw [List.any_cons,h,Bool.false_or] at hq
  refine r_seql ⟨?_,hI⟩
  rw [<- hq]; simp
 intro _ t _ w'
 rintro ⟨rfl,hI⟩
 refine condV (fun h=>?_) (fun h=>?_)
 ·exact r_eql (done hI (by rw [e1,if_pos (hq1.trans h)]))
 rw [if_neg (by rw [hq1,h]; decide)] at e1
 clear hq hq1 h
 obtain ⟨q,hq⟩:∃ q,bX s uf=q:=⟨_,rfl⟩
 have hq1:=hq
 refine ⟨fun t w'=>t=.bool q/\Inv w [] [] S w',?_,?_⟩
 ·unfold bX uf at hq
  iterate 3
   refine r_seql ?_
   refine condV (fun h=>⟨by rw [List.any_cons,h] at hq; rw [h,<- hq]; rfl,hI⟩) (fun h=>?_)
   rw [List.any_cons,h,Bool.false_or] at hq
  refine r_seql ⟨?_,hI⟩
  rw [<- hq]; simp
 intro _ _ _ t _ w'
 rintro ⟨rfl,hI⟩
 refine condV (fun h=>?_) (fun h=>?_)
 ·exact r_eql (done hI (by rw [e1,if_pos (hq1.trans h)]))
 rw [if_neg (by rw [hq1,h]; decide)] at e1
 refine r_seql ?_
 refine condP (fun h=>?_) (fun h=>?_)
 ·exact r_eql (done hI (by rw [e1,if_pos h]))
 ·exact done hI (by rw [e1,if_neg h])
theorem pO (s:ByteArray) (n:Int) (S:Store):Pure Tryz.prog vG [.string s,.int .i64 n] S (.bool (cD s n)):=by
 intro w hI
 refine nu ?_
 unfold jk
 obtain ⟨q,hq⟩:∃ q,bX s vw=q:=⟨_,rfl⟩
 have hq1:=hq
 refine ⟨fun t w'=>t=.bool q/\Inv w [] [] S w',?_,?_⟩
 ·unfold bX vw at hq
  iterate 8
   refine r_seql ?_
   refine condV (fun h=>⟨by rw [List.any_cons,h] at hq; rw [h,<- hq]; rfl,hI⟩) (fun h=>?_)
   rw [List.any_cons,h,Bool.false_or] at hq
  refine r_seql ⟨?_,hI⟩
  rw [<- hq]; simp
 intro t _ _ _ _ _ _ _ _ _ w'
 rintro ⟨rfl,hI⟩
 refine condV (fun h=>?_) (fun h=>?_)
 ·exact r_eql (done hI (by rw [cD,if_pos (hq1.trans h)]))
 have e1:cD s n=if bX s mv=true then decide (n=0) else if bX s uf=true then decide (n=1) else if s=⟨#[97,114,103]⟩ then decide (n=3) else false:=by
  rw [cD,if_neg (by rw [hq1,h]; decide)]
 clear hq hq1 h
 obtain ⟨q,hq⟩:∃ q,bX s mv=q:=⟨_,rfl⟩
 have hq1:=hq
 refine ⟨fun t w'=>t=.bool q/\Inv w [] [] S w',?_,?_⟩
 ·unfold bX mv at hq
  refine r_seql ?_
  refine condV (fun h=>⟨by rw [List.any_cons,h] at hq; rw [h,<- hq]; rfl,hI⟩) (fun h=>?_)
  rw [List.any_cons,h,Bool.false_or] at hq
  refine r_seql ⟨?_,hI⟩
  rw [<- hq]; simp
 intro _ t _ w'
 rintro ⟨rfl,hI⟩
 refine condV (fun h=>?_) (fun h=>?_)
 ·exact r_eql (done hI (by rw [e1,if_pos (hq1.trans h)]))
 rw [if_neg (by rw [hq1,h]; decide)] at e1
 clear hq hq1 h
 obtain ⟨q,hq⟩:∃ q,bX s uf=q:=⟨_,rfl⟩
 have hq1:=hq
 refine ⟨fun t w'=>t=.bool q/\Inv w [] [] S w',?_,?_⟩
 ·unfold bX uf at hq
  iterate 3
   refine r_seql ?_
   refine condV (fun h=>⟨by rw [List.any_cons,h] at hq; rw [h,<- hq]; rfl,hI⟩) (fun h=>?_)
   rw [List.any_cons,h,Bool.false_or] at hq
  refine r_seql ⟨?_,hI⟩
  rw [<- hq]; simp
 intro _ _ _ t _ w'
 rintro ⟨rfl,hI⟩
 refine condV (fun h=>?_) (fun h=>?_)
 ·exact r_eql (done hI (by rw [e1,if_pos (hq1.trans h)]))
 rw [if_neg (by rw [hq1,h]; decide)] at e1
 refine r_seql ?_
 refine condP (fun h=>?_) (fun h=>?_)
 ·exact r_eql (done hI (by rw [e1,if_pos h]))
 ·exact done hI (by rw [e1,if_neg h])

theorem bn (s:ByteArray) (S:Store):Pure Tryz.prog zC [.string s] S (.int .i64 (aU s)):=by
 intro w hI
 refine r3 ?_
 unfold nY
 obtain ⟨q,hq⟩:∃ q,bX s vw=q:=⟨_,rfl⟩
 have hq1:=hq
 refine ⟨fun t w'=>t=.bool q/\Inv w [] [] S w',?_,?_⟩
 ·unfold bX vw at hq
  iterate 8
   refine r_seql ?_
   refine condV (fun h=>⟨by rw [List.any_cons,h] at hq; rw [h,<- hq]; rfl,hI⟩) (fun h=>?_)
   rw [List.any_cons,h,Bool.false_or] at hq
  refine r_seql ⟨?_,hI⟩
  rw [<- hq]; simp
 intro _ _ _ _ _ _ _ _ t _ w'
 rintro ⟨rfl,hI⟩
 refine condV (fun h=>?_) (fun h=>?_)
 ·exact done hI (by rw [show aU s=3 from if_pos (hq1.trans h)] <;> rfl)
 have e1:aU s=if bX s AX=true then 2 else if bX s sZ=true then 1 else 0:=by
  rw [aU,if_neg (by rw [hq1,h]; decide)]
 clear hq hq1 h
 obtain ⟨q,hq⟩:∃ q,bX s AX=q:=⟨_,rfl⟩
 have hq1:=hq
 refine ⟨fun t w'=>t=.bool q/\Inv w [] [] S w',?_,?_⟩
 ·unfold bX AX at hq
  refine r_seql ?_
  refine condV (fun h=>⟨by rw [List.any_cons,h] at hq; rw [h,<- hq]; rfl,hI⟩) (fun h=>?_)
  rw [List.any_cons,h,Bool.false_or] at hq
  refine r_seql ⟨?_,hI⟩
  rw [<- hq]; simp
 intro _ t _ w'
 rintro ⟨rfl,hI⟩
 refine condV (fun h=>?_) (fun h=>?_)
 ·exact done hI (by rw [show aU s=2 from e1.trans (if_pos (hq1.trans h))] <;> rfl)
 rw [if_neg (by rw [hq1,h]; decide)] at e1
 clear hq hq1 h
 obtain ⟨q,hq⟩:∃ q,bX s sZ=q:=⟨_,rfl⟩
 have hq1:=hq
 refine ⟨fun t w'=>t=.bool q/\Inv w [] [] S w',?_,?_⟩
 ·unfold bX sZ at hq
  iterate 2
   refine r_seql ?_
   refine condV (fun h=>⟨by rw [List.any_cons,h] at hq; rw [h,<- hq]; rfl,hI⟩) (fun h=>?_)
   rw [List.any_cons,h,Bool.false_or] at hq
  refine r_seql ⟨?_,hI⟩
  rw [<- hq]; simp
 intro _ _ t _ w'
 rintro ⟨rfl,hI⟩
 refine condV (fun h=>?_) (fun h=>?_)
 ·exact done hI (by rw [show aU s=1 from e1.trans (if_pos (hq1.trans h))] <;> rfl)
 ·exact done hI (by rw [show aU s=0 from e1.trans (if_neg (by rw [hq1,h]; decide))] <;> rfl)
theorem rR (s:ByteArray) (S:Store):Pure Tryz.prog yn [.string s] S (.tuple #[.int .i64 (aU s),.bool (decide (aU s=1) || decide (aU s=2))]):=by
 intro w hI
 refine rM ?_
 unfold nV
 obtain ⟨q,hq⟩:∃ q,bX s vw=q:=⟨_,rfl⟩
 have hq1:=hq
 refine ⟨fun t w'=>t=.bool q/\Inv w [] [] S w',?_,?_⟩
 ·unfold bX vw at hq
  iterate 8
   refine r_seql ?_
   refine condV (fun h=>⟨by rw [List.any_cons,h] at hq; rw [h,<- hq]; rfl,hI⟩) (fun h=>?_)
   rw [List.any_cons,h,Bool.false_or] at hq
  refine r_seql ⟨?_,hI⟩
  rw [<- hq]; simp
 intro _ _ _ _ _ _ _ _ t _ w'
 rintro ⟨rfl,hI⟩
 refine condV (fun h=>?_) (fun h=>?_)
 ·exact done hI (by rw [show aU s=3 from if_pos (hq1.trans h)] <;> rfl)
 have e1:aU s=if bX s AX=true then 2 else if bX s sZ=true then 1 else 0:=by
  rw [aU,if_neg (by rw [hq1,h]; decide)]
 clear hq hq1 h
 obtain ⟨q,hq⟩:∃ q,bX s AX=q:=⟨_,rfl⟩
 have hq1:=hq
 refine ⟨fun t w'=>t=.bool q/\Inv w [] [] S w',?_,?_⟩
 ·unfold bX AX at hq
  refine r_seql ?_
  refine condV (fun h=>⟨by rw [List.any_cons,h] at hq; rw [h,<- hq]; rfl,hI⟩) (fun h=>?_)
  rw [List.any_cons,h,Bool.false_or] at hq
  refine r_seql ⟨?_,hI⟩
  rw [<- hq]; simp
 intro _ t _ w'
 rintro ⟨rfl,hI⟩
 refine condV (fun h=>?_) (fun h=>?_)
 ·exact done hI (by rw [show aU s=2 from e1.trans (if_pos (hq1.trans h))] <;> rfl)
 rw [if_neg (by rw [hq1,h]; decide)] at e1
 clear hq hq1 h
 obtain ⟨q,hq⟩:∃ q,bX s sZ=q:=⟨_,rfl⟩
 have hq1:=hq
 refine ⟨fun t w'=>t=.bool q/\Inv w [] [] S w',?_,?_⟩
 ·unfold bX sZ at hq
  iterate 2
   refine r_seql ?_
   refine condV (fun h=>⟨by rw [List.any_cons,h] at hq; rw [h,<- hq]; rfl,hI⟩) (fun h=>?_)
   rw [List.any_cons,h,Bool.false_or] at hq
  refine r_seql ⟨?_,hI⟩
  rw [<- hq]; simp
 intro _ _ t _ w'
 rintro ⟨rfl,hI⟩
 refine condV (fun h=>?_) (fun h=>?_)
 ·exact done hI (by rw [show aU s=1 from e1.trans (if_pos (hq1.trans h))] <;> rfl)
 ·exact done hI (by rw [show aU s=0 from e1.trans (if_neg (by rw [hq1,h]; decide))] <;> rfl)

theorem qy {t:T} {S:Store} {cs:List Value} (h:RdT S cs t):Pure Tryz.prog Cd [.agg cs.toArray] S (.bool (rQ t)):=by
 intro w hI
 obtain ⟨kv,rfl,_,_,hs,hks⟩:=RdT.iff.1 h
 obtain ⟨k,n,s,ks⟩:=t
 simp only [T.name,T.kids,T.kind,T.n] at hs hks ⊢
 refine uE ?_
 unfold tu
 refine r_box hI fun b1 w' hI=>?_
 refine r_fieldL hI 0 rfl aI aC rfl ?_
 refine r_eql ?_
 rw [show rQ (.mk k n s ks)=(decide (k=3) && (decide (s=⟨#[33]⟩) && decide (ks.length=0))) from rfl]
 cases h1:decide (k=3)
 ·repeat (first|refine ac ?_|refine ae (by decide) ?_|refine ad ?_|refine ai ?_|refine ah ?_)
  exact done hI rfl
 ·repeat (first|refine ac ?_|refine ae (by decide) ?_|refine ad ?_|refine ai ?_|refine ah ?_)
  refine r_fieldL hI 0 rfl aF ay rfl ?_
  refine r_seql ?_
  cases h2:decide (s=⟨#[33]⟩)
  ·repeat (first|refine ac ?_|refine ae (by decide) ?_|refine ad ?_|refine ai ?_|refine ah ?_)
   exact done hI rfl
  ·repeat (first|refine ac ?_|refine ae (by decide) ?_|refine ad ?_|refine ai ?_|refine ah ?_)
   refine r_fieldL hI 0 rfl aq al rfl ?_
   refine r_lenSl hks aj ?_
   refine r_eql ?_
   repeat (first|refine ac ?_|refine ae (by decide) ?_|refine ad ?_|refine ai ?_|refine ah ?_)
   exact done hI (by simp)

theorem fF {t:T} {S:Store} {cs:List Value} (h:RdT S cs t):Pure Tryz.prog zq [.agg cs.toArray] S (.bool (cj t)):=by
 intro w hI
 obtain ⟨kv,rfl,_,_,hs,hks⟩:=RdT.iff.1 h
 obtain ⟨k,n,s,ks⟩:=t
 simp only [T.name,T.kids,T.kind,T.n] at hs hks ⊢
 refine rg ?_
 unfold oG
 refine r_box hI fun b1 w' hI=>?_
 refine r_fieldL hI 0 rfl aI aC rfl ?_
 refine r_eql ?_
 rw [show cj (.mk k n s ks)=(decide (k=3) && (eZ s && (!cD s ks.length && decide (aU s=0)))) from rfl]
 cases h1:decide (k=3)
 ·repeat (first|refine ac ?_|refine ae (by decide) ?_|refine ad ?_|refine ai ?_|refine ah ?_)
  exact done hI rfl
 ·repeat (first|refine ac ?_|refine ae (by decide) ?_|refine ad ?_|refine ai ?_|refine ah ?_)
  refine r_fieldL hI 0 rfl aF ay rfl ?_
  refine Run.callPure qh qd hI (nD s hs S) fun w' hI=>?_
  cases h2:eZ s
  ·repeat (first|refine ac ?_|refine ae (by decide) ?_|refine ad ?_|refine ai ?_|refine ah ?_)
   exact done hI rfl
  ·repeat (first|refine ac ?_|refine ae (by decide) ?_|refine ad ?_|refine ai ?_|refine ah ?_)
   refine r_fieldL hI 0 rfl aF ay rfl ?_
   refine r_fieldL hI 0 rfl aq al rfl ?_
   refine r_lenSl hks aj ?_
   refine Run.callPure jC km hI (gi s _ S) fun w' hI=>?_
   refine r_not ?_
   cases h3:cD s ks.length
   ·repeat (first|refine ac ?_|refine ae (by decide) ?_|refine ad ?_|refine ai ?_|refine ah ?_)
    refine r_fieldL hI 0 rfl aF ay rfl ?_
    refine Run.callPure bU bQ hI (bn s S) fun w' hI=>?_
    refine r_eql ?_
    repeat (first|refine ac ?_|refine ae (by decide) ?_|refine ad ?_|refine ai ?_|refine ah ?_)
    exact done hI rfl
   ·repeat (first|refine ac ?_|refine ae (by decide) ?_|refine ad ?_|refine ai ?_|refine ah ?_)
    exact done hI rfl

theorem xL {t:T} {S:Store} {cs:List Value} (h:RdT S cs t):Pure Tryz.prog AR [.agg cs.toArray] S (.bool (rQ t || (cj t || mz t))):=by
 intro w hI
 have h0:=h
 obtain ⟨kv,rfl,_,_,hs,hks⟩:=RdT.iff.1 h
 obtain ⟨k,n,s,ks⟩:=t
 simp only [T.name,T.kids,T.kind,T.n] at h0 hs hks ⊢
 refine sG ?_
 unfold qv
 refine r_box hI fun b1 w' hI=>?_
 refine r_loadW hI 0 ag rfl rfl ?_
 refine Run.callPure tL sr hI (qy h0) fun w' hI=>?_
 cases h1:rQ (.mk k n s ks)
 ·repeat (first|refine ac ?_|refine ae (by decide) ?_|refine ad ?_|refine ai ?_|refine ah ?_)
  refine r_loadW hI 0 ag rfl rfl ?_
  refine Run.callPure gM gy hI (fF h0) fun w' hI=>?_
  cases h2:cj (.mk k n s ks)
  ·repeat (first|refine ac ?_|refine ae (by decide) ?_|refine ad ?_|refine ai ?_|refine ah ?_)
   refine r_fieldL hI 0 rfl aI aC rfl ?_
   refine r_eql ?_
   rw [show mz (.mk k n s ks)=(decide (k=3) && cD s ks.length) from rfl]
   cases h3:decide (k=3)
   ·repeat (first|refine ac ?_|refine ae (by decide) ?_|refine ad ?_|refine ai ?_|refine ah ?_)
    exact done hI rfl
   ·repeat (first|refine ac ?_|refine ae (by decide) ?_|refine ad ?_|refine ai ?_|refine ah ?_)
    refine r_fieldL hI 0 rfl aF ay rfl ?_
    refine r_fieldL hI 0 rfl aq al rfl ?_
    refine r_lenSl hks aj ?_
    refine Run.callPure jC km hI (gi s _ S) fun w' hI=>?_
    repeat (first|refine ac ?_|refine ae (by decide) ?_|refine ad ?_|refine ai ?_|refine ah ?_)
    exact done hI rfl
  ·repeat (first|refine ac ?_|refine ae (by decide) ?_|refine ad ?_|refine ai ?_|refine ah ?_)
   exact done hI rfl
 ·repeat (first|refine ac ?_|refine ae (by decide) ?_|refine ad ?_|refine ai ?_|refine ah ?_)
  exact done hI rfl

theorem BI {t:T} (h:wT t<=1048576):bD t<=4611686018427387904:=by
 have:=CK t
 omega
theorem fI {t:T} {S:Store} {cs:List Value} (h:RdT S cs t) (hc:wT t<=1048576):Pure Tryz.prog uY [.agg cs.toArray] S (.bool (cw t)):=by
 intro w hI
 have hl:=h.length
 refine oq ?_
 unfold ja
 refine r_box hI fun b1 w' hI=>?_
 refine r_loadW hI 0 ag rfl (by simpa [Value.cells] using hl) ?_
 refine Run.callPure jR jq hI (fT h (BI hc)) fun w' hI=>?_
 rw [cw]
 cases h1:bz t
 ·repeat (first|refine ac ?_|refine ae (by decide) ?_|refine ad ?_|refine ai ?_|refine ah ?_)
  exact done hI rfl
 ·repeat (first|refine ac ?_|refine ae (by decide) ?_|refine ad ?_|refine ai ?_|refine ah ?_)
  refine r_loadW hI 0 ag rfl (by simpa [Value.cells] using hl) ?_
  refine Run.callPure zw yK hI (xL h) fun w' hI=>?_
  repeat (first|refine ac ?_|refine ae (by decide) ?_|refine ad ?_|refine ai ?_|refine ah ?_)
  exact done hI rfl


theorem kJ {ts:List T} {t:T} (h:t∈ts):wT t<=wL ts:=by
 induction ts with
 | nil=>simp at h
 | cons u us ih=>
  rw [wL]
  rcases List.mem_cons.1 h with rfl|h
  ·omega
  ·have:=ih h; omega
/- the loop of a list of goals, whatever comes behind it -/
theorem eA {c:C} {S:Store} {cs:List Value} (h:RdC S cs c) (hc:wC c<=1048576):Pure Tryz.prog rf [.agg cs.toArray] S (.bool (aH c)):=by
 intro w hI
 obtain ⟨hd,ks,rfl,h1,h2⟩:=h
 have h1':=h1
 obtain ⟨kv,rfl,g1,g2,g3,g4⟩:=RdT.iff.1 h1
 have hlen:=h2.le
 simp only [maxLen] at hlen
 unfold wC at hc
 refine kO ?_
 unfold fR
 refine r_box hI fun b1 w' hI=>?_
 refine ⟨fun i w'=>∃ k:Nat,k<=c.body.length/\k<=7/\i=.int .i64 k/\(∀ j (h:j<c.body.length),j<k->cw c.body[j]=true)/\Inv w [] [.blk b1 (.cells #[.int .i64 c.head.kind,.int .i64 c.head.n,.string c.head.name,kv,ks] af)] S w',
  fun i _=>c.body.length - (intOf i).toNat,⟨0,Nat.zero_le _,by omega,rfl,fun j _ h=>by omega,hI⟩,?_⟩
 intro t3 _ _ _ _ _ _ _ _ _ _ _ _ _ _ _ _ _ _ _ w'
 rintro ⟨k,hk,hk7,rfl,hrel,hI⟩
 refine ⟨fun t w'=>t=.bool (decide (k<c.body.length/\k<=6))/\Inv w [] [.blk b1 (.cells #[.int .i64 c.head.kind,.int .i64 c.head.n,.string c.head.name,kv,ks] af)] S w',?_,?_⟩
 ·refine r_fieldL hI 0 rfl ax al rfl ?_
  refine r_lenSl h2 aj ?_
  refine r_lss ?_
  by_cases hki:(k:Int)<c.body.length
  ·rw [decide_eq_true hki]
   repeat (first|refine ac ?_|refine ae (by decide) ?_|refine ad ?_|refine ai ?_|refine ah ?_)
   refine r_leq ?_
   repeat (first|refine ac ?_|refine ae (by decide) ?_|refine ad ?_|refine ai ?_|refine ah ?_)
   refine ⟨?_,hI⟩
   congr 1
   rw [Bool.eq_iff_iff]; simp; omega
  ·rw [decide_eq_false hki]
   repeat (first|refine ac ?_|refine ae (by decide) ?_|refine ad ?_|refine ai ?_|refine ah ?_)
   exact ⟨by rw [decide_eq_false (by omega)],hI⟩
 intro t _ _ _ _ _ _ _ _ w'
 rintro ⟨rfl,hI⟩
 refine condP (fun hki=>?_) (fun hki=>?_)
 ·obtain ⟨hk',hk6⟩:=hki
  refine r_fieldL hI 0 rfl ax al rfl ?_
  refine r_elem hI h2 aj ag hk' (fun _ _=>RdT.length) fun cs' hcs'=>?_
  have hwm:=kJ (List.getElem_mem hk')
  refine Run.callPure iL iP hI (fI hcs' (by omega)) fun w' hI=>?_
  refine r_not ?_
  refine condV (fun hb=>done hI ?_) (fun hb=>?_)
  ·have hb':cw c.body[k]=false:=by simpa using hb
   have:c.body.all cw=false:=by
    rw [<- Bool.not_eq_true,List.all_eq_true]
    intro hall
    rw [hall _ (List.getElem_mem hk')] at hb'
    cases hb'
   rw [aH,this]
   simp
  ·have hb':cw c.body[k]=true:=by simpa using hb
   refine r_add (by omega) ?_
   refine ⟨⟨k+1,hk',by omega,rfl,fun j hj hjk=>?_,hI⟩,by simp [intOf]; omega⟩
   by_cases e:j=k
   ·subst e; exact hb'
   ·exact hrel j hj (by omega)
 ·refine r_fieldL hI 0 rfl ax al rfl ?_
  refine r_lenSl h2 aj ?_
  refine r_leq ?_
  rw [aH]
  by_cases hle:c.body.length<=6
  ·have hall:c.body.all cw=true:=by
    rw [List.all_eq_true]
    intro x hx
    obtain ⟨j,hj,rfl⟩:=List.getElem_of_mem hx
    exact hrel j hj (by omega)
   rw [decide_eq_true (show (c.body.length:Int)<=6 by omega),decide_eq_true hle,hall]
   repeat (first|refine ac ?_|refine ae (by decide) ?_|refine ad ?_|refine ai ?_|refine ah ?_)
   refine r_field aP ?_
   refine r_loadLA hI 0 [.int .i64 c.head.kind,.int .i64 c.head.n,.string c.head.name,kv] ag rfl rfl ?_ ?_
   ·intro j v hj
    match j with
    | 0|1|2|3=>exact hj
    | j+4=>simp at hj
   refine Run.callPure jR jq hI (fT h1' (BI (by omega))) fun w' hI=>?_
   cases hv:bz c.head
   ·repeat (first|refine ac ?_|refine ae (by decide) ?_|refine ad ?_|refine ai ?_|refine ah ?_)
    exact done hI rfl
   ·repeat (first|refine ac ?_|refine ae (by decide) ?_|refine ad ?_|refine ai ?_|refine ah ?_)
    refine r_field aP ?_
    refine r_loadLA hI 0 [.int .i64 c.head.kind,.int .i64 c.head.n,.string c.head.name,kv] ag rfl rfl ?_ ?_
    ·intro j v hj
     match j with
     | 0|1|2|3=>exact hj
     | j+4=>simp at hj
    refine Run.callPure gM gy hI (fF h1') fun w' hI=>?_
    repeat (first|refine ac ?_|refine ae (by decide) ?_|refine ad ?_|refine ai ?_|refine ah ?_)
    exact done hI rfl
  ·rw [decide_eq_false (show ¬ (c.body.length:Int)<=6 by omega),decide_eq_false hle]
   repeat (first|refine ac ?_|refine ae (by decide) ?_|refine ad ?_|refine ai ?_|refine ah ?_)
   exact done hI rfl

theorem mt {xs:List T} {S:Store} {v:Value} (h:RdSl S 4 (RdT S) v xs) (hc:wL xs<=1048576):Pure Tryz.prog ub [v] S (.bool (eU xs)):=by
 intro w hI
 have hlen:=h.le
 simp only [maxLen] at hlen
 refine mu ?_
 unfold gU
 refine ⟨fun i w'=>∃ k:Nat,k<=xs.length/\k<=6+1/\i=.int .i64 k/\(∀ j (h:j<xs.length),j<k->cw xs[j]=true)/\Inv w [] [] S w',
  fun i _=>xs.length - (intOf i).toNat,⟨0,Nat.zero_le _,by omega,rfl,fun j _ h=>by omega,hI⟩,?_⟩
 intro t3 _ _ _ _ _ _ _ _ _ _ _ _ _ _ _ _ _ w'
 rintro ⟨k,hk,hk7,rfl,hrel,hI⟩
 refine ⟨fun t w'=>t=.bool (decide (k<xs.length/\k<=6))/\Inv w [] [] S w',?_,?_⟩
 ·refine r_lenSl h aj ?_
  refine r_lss ?_
  by_cases hki:(k:Int)<xs.length
  ·rw [decide_eq_true hki]
   repeat (first|refine ac ?_|refine ae (by decide) ?_|refine ad ?_|refine ai ?_|refine ah ?_)
   refine r_leq ?_
   repeat (first|refine ac ?_|refine ae (by decide) ?_|refine ad ?_|refine ai ?_|refine ah ?_)
   refine ⟨?_,hI⟩
   congr 1
   rw [Bool.eq_iff_iff]; simp; omega
  ·rw [decide_eq_false hki]
   repeat (first|refine ac ?_|refine ae (by decide) ?_|refine ad ?_|refine ai ?_|refine ah ?_)
   exact ⟨by rw [decide_eq_false (by omega)],hI⟩
 intro t _ _ _ _ _ _ _ w'
 rintro ⟨rfl,hI⟩
 refine condP (fun hki=>?_) (fun hki=>?_)
 ·obtain ⟨hk',hk6⟩:=hki
  refine r_elem hI h aj ag hk' (fun _ _=>RdT.length) fun cs' hcs'=>?_
  have hwm:=kJ (List.getElem_mem hk')
  refine Run.callPure iL iP hI (fI hcs' (by omega)) fun w' hI=>?_
  refine r_not ?_
  refine condV (fun hb=>done hI ?_) (fun hb=>?_)
  ·have hb':cw xs[k]=false:=by simpa using hb
   have:xs.all cw=false:=by
    rw [<- Bool.not_eq_true,List.all_eq_true]
    intro hall
    rw [hall _ (List.getElem_mem hk')] at hb'
    cases hb'
   rw [eU,this,Bool.and_false]
  ·have hb':cw xs[k]=true:=by simpa using hb
   refine r_add (by omega) ?_
   refine ⟨⟨k+1,hk',by omega,rfl,fun j hj hjk=>?_,hI⟩,by simp [intOf]; omega⟩
   by_cases e:j=k
   ·subst e; exact hb'
   ·exact hrel j hj (by omega)
 ·refine r_lenSl h aj ?_
  refine r_leq ?_
  rw [eU]
  refine done hI ?_
  by_cases hle:xs.length<=6
  ·have hall:xs.all cw=true:=by
    rw [List.all_eq_true]
    intro x hx
    obtain ⟨j,hj,rfl⟩:=List.getElem_of_mem hx
    exact hrel j hj (by omega)
   rw [decide_eq_true (show (xs.length:Int)<=6 by omega),decide_eq_true hle,hall]; rfl
  ·rw [decide_eq_false (show ¬ (xs.length:Int)<=6 by omega),decide_eq_false hle]; rfl
theorem jP {xs:List C} {S:Store} {v:Value} (h:RdSl S 5 (RdC S) v xs) (hc:wP xs<=1048576):Pure Tryz.prog pN [v] S (.bool (cR xs)):=by
 intro w hI
 have hlen:=h.le
 simp only [maxLen] at hlen
 refine jp ?_
 unfold fi
 refine ⟨fun i w'=>∃ k:Nat,k<=xs.length/\k<=20+1/\i=.int .i64 k/\(∀ j (h:j<xs.length),j<k->aH xs[j]=true)/\Inv w [] [] S w',
  fun i _=>xs.length - (intOf i).toNat,⟨0,Nat.zero_le _,by omega,rfl,fun j _ h=>by omega,hI⟩,?_⟩
 intro t3 _ _ _ _ _ _ _ _ _ _ _ _ _ _ _ _ _ w'
 rintro ⟨k,hk,hk7,rfl,hrel,hI⟩
 refine ⟨fun t w'=>t=.bool (decide (k<xs.length/\k<=20))/\Inv w [] [] S w',?_,?_⟩
 ·refine r_lenSl h aB ?_
  refine r_lss ?_
  by_cases hki:(k:Int)<xs.length
  ·rw [decide_eq_true hki]
   repeat (first|refine ac ?_|refine ae (by decide) ?_|refine ad ?_|refine ai ?_|refine ah ?_)
   refine r_leq ?_
   repeat (first|refine ac ?_|refine ae (by decide) ?_|refine ad ?_|refine ai ?_|refine ah ?_)
   refine ⟨?_,hI⟩
   congr 1
   rw [Bool.eq_iff_iff]; simp; omega
  ·rw [decide_eq_false hki]
   repeat (first|refine ac ?_|refine ae (by decide) ?_|refine ad ?_|refine ai ?_|refine ah ?_)
   exact ⟨by rw [decide_eq_false (by omega)],hI⟩
 intro t _ _ _ _ _ _ _ w'
 rintro ⟨rfl,hI⟩
 refine condP (fun hki=>?_) (fun hki=>?_)
 ·obtain ⟨hk',hk6⟩:=hki
  refine r_elem hI h aB av hk' (fun _ _=>RdC.length) fun cs' hcs'=>?_
  have hwm:=Aq (List.getElem_mem hk')
  refine Run.callPure fM fL hI (eA hcs' (by omega)) fun w' hI=>?_
  refine r_not ?_
  refine condV (fun hb=>done hI ?_) (fun hb=>?_)
  ·have hb':aH xs[k]=false:=by simpa using hb
   have:xs.all aH=false:=by
    rw [<- Bool.not_eq_true,List.all_eq_true]
    intro hall
    rw [hall _ (List.getElem_mem hk')] at hb'
    cases hb'
   rw [cR,this,Bool.and_false]
  ·have hb':aH xs[k]=true:=by simpa using hb
   refine r_add (by omega) ?_
   refine ⟨⟨k+1,hk',by omega,rfl,fun j hj hjk=>?_,hI⟩,by simp [intOf]; omega⟩
   by_cases e:j=k
   ·subst e; exact hb'
   ·exact hrel j hj (by omega)
 ·refine r_lenSl h aB ?_
  refine r_leq ?_
  rw [cR]
  refine done hI ?_
  by_cases hle:xs.length<=20
  ·have hall:xs.all aH=true:=by
    rw [List.all_eq_true]
    intro x hx
    obtain ⟨j,hj,rfl⟩:=List.getElem_of_mem hx
    exact hrel j hj (by omega)
   rw [decide_eq_true (show (xs.length:Int)<=20 by omega),decide_eq_true hle,hall]; rfl
  ·rw [decide_eq_false (show ¬ (xs.length:Int)<=20 by omega),decide_eq_false hle]; rfl

/- the program's side -/
theorem Bn (s:ByteArray) (S:Store):Pure Tryz.prog DR [.string s] S (.bool (decide (0<aU s))):=by
 intro w hI
 refine xO ?_
 unfold vW
 refine Run.callPure xW xj hI (rR s S) fun w' hI=>?_
 refine r_extract rfl ?_
 refine r_extract rfl ?_
 refine r_gtr ?_
 exact done hI rfl
theorem lE {t:T} {S:Store} {cs:List Value} (h:RdT S cs t):Pure Tryz.prog zW [.agg cs.toArray] S (.bool (mz t)):=by
 intro w hI
 obtain ⟨kv,rfl,_,_,hs,hks⟩:=RdT.iff.1 h
 obtain ⟨k,n,s,ks⟩:=t
 simp only [T.name,T.kids,T.kind,T.n] at hs hks ⊢
 refine rN ?_
 unfold oo
 refine r_box hI fun b1 w' hI=>?_
 refine r_fieldL hI 0 rfl aI aC rfl ?_
 refine r_eql ?_
 rw [show mz (.mk k n s ks)=(decide (k=3) && cD s ks.length) from rfl]
 cases h3:decide (k=3)
 ·repeat (first|refine ac ?_|refine ae (by decide) ?_|refine ad ?_|refine ai ?_|refine ah ?_)
  exact done hI rfl
 ·repeat (first|refine ac ?_|refine ae (by decide) ?_|refine ad ?_|refine ai ?_|refine ah ?_)
  refine r_fieldL hI 0 rfl aF ay rfl ?_
  refine r_fieldL hI 0 rfl aq al rfl ?_
  refine r_lenSl hks aj ?_
  refine Run.callPure ud un hI (pO s _ S) fun w' hI=>?_
  repeat (first|refine ac ?_|refine ae (by decide) ?_|refine ad ?_|refine ai ?_|refine ah ?_)
  exact done hI rfl
theorem dB {t:T} {S:Store} {cs:List Value} (h:RdT S cs t):Pure Tryz.prog yP [.agg cs.toArray] S (.bool (cj t)):=by
 intro w hI
 have h0:=h
 obtain ⟨kv,rfl,_,_,hs,hks⟩:=RdT.iff.1 h
 obtain ⟨k,n,s,ks⟩:=t
 simp only [T.name,T.kids,T.kind,T.n] at h0 hs hks ⊢
 refine rT ?_
 unfold nK
 refine r_box hI fun b1 w' hI=>?_
 refine r_fieldL hI 0 rfl aI aC rfl ?_
 refine r_eql ?_
 have hb:mz (.mk k n s ks)=(decide (k=3) && cD s ks.length):=rfl
 rw [show cj (.mk k n s ks)=(decide (k=3) && (eZ s && (!cD s ks.length && decide (aU s=0)))) from rfl]
 cases h1:decide (k=3)
 ·repeat (first|refine ac ?_|refine ae (by decide) ?_|refine ad ?_|refine ai ?_|refine ah ?_)
  exact done hI rfl
 ·rw [h1] at hb
  repeat (first|refine ac ?_|refine ae (by decide) ?_|refine ad ?_|refine ai ?_|refine ah ?_)
  refine r_fieldL hI 0 rfl aF ay rfl ?_
  refine Run.callPure jW jw hI (gV s hs S) fun w' hI=>?_
  cases h2:eZ s
  ·repeat (first|refine ac ?_|refine ae (by decide) ?_|refine ad ?_|refine ai ?_|refine ah ?_)
   exact done hI rfl
  ·repeat (first|refine ac ?_|refine ae (by decide) ?_|refine ad ?_|refine ai ?_|refine ah ?_)
   refine r_fieldL hI 0 rfl aF ay rfl ?_
   refine Run.callPure Ct Cy hI (Bn s S) fun w' hI=>?_
   refine r_not ?_
   rw [BU]
   cases h3:decide (aU s=0)
   ·repeat (first|refine ac ?_|refine ae (by decide) ?_|refine ad ?_|refine ai ?_|refine ah ?_)
    exact done hI (by simp)
   ·repeat (first|refine ac ?_|refine ae (by decide) ?_|refine ad ?_|refine ai ?_|refine ah ?_)
    refine r_loadW hI 0 ag rfl rfl ?_
    refine Run.callPure mG mT hI (lE h0) fun w' hI=>?_
    refine r_not ?_
    repeat (first|refine ac ?_|refine ae (by decide) ?_|refine ad ?_|refine ai ?_|refine ah ?_)
    exact done hI (by rw [hb]; simp)
theorem wS {t:T} {S:Store} {cs:List Value} (h:RdT S cs t):Pure Tryz.prog AZ [.agg cs.toArray] S (.bool (Ei t)):=by
 intro w hI
 obtain ⟨kv,rfl,_,_,hs,hks⟩:=RdT.iff.1 h
 obtain ⟨k,n,s,ks⟩:=t
 simp only [T.name,T.kids,T.kind,T.n] at hs hks ⊢
 refine tJ ?_
 unfold qO
 refine r_box hI fun b1 w' hI=>?_
 refine r_fieldL hI 0 rfl aI aC rfl ?_
 refine r_eql ?_
 rw [show Ei (.mk k n s ks)=(decide (k=3) && decide (ks.length=0)) from rfl]
 cases h3:decide (k=3)
 ·repeat (first|refine ac ?_|refine ae (by decide) ?_|refine ad ?_|refine ai ?_|refine ah ?_)
  exact done hI rfl
 ·repeat (first|refine ac ?_|refine ae (by decide) ?_|refine ad ?_|refine ai ?_|refine ah ?_)
  refine r_fieldL hI 0 rfl aq al rfl ?_
  refine r_lenSl hks aj ?_
  refine r_eql ?_
  repeat (first|refine ac ?_|refine ae (by decide) ?_|refine ad ?_|refine ai ?_|refine ah ?_)
  exact done hI (by simp)
theorem qq {t:T} {S:Store} {cs:List Value} (h:RdT S cs t):Pure Tryz.prog vU [.agg cs.toArray] S (.bool (rQ t)):=by
 intro w hI
 have h0:=h
 obtain ⟨kv,rfl,_,_,hs,hks⟩:=RdT.iff.1 h
 obtain ⟨k,n,s,ks⟩:=t
 simp only [T.name,T.kids,T.kind,T.n] at h0 hs hks ⊢
 refine uB ?_
 unfold tc
 refine r_box hI fun b1 w' hI=>?_
 refine r_loadW hI 0 ag rfl rfl ?_
 refine Run.callPure yz zU hI (wS h0) fun w' hI=>?_
 rw [show rQ (.mk k n s ks)=(decide (k=3) && (decide (s=⟨#[33]⟩) && decide (ks.length=0))) from rfl]
 cases h1:Ei (.mk k n s ks)
 ·repeat (first|refine ac ?_|refine ae (by decide) ?_|refine ad ?_|refine ai ?_|refine ah ?_)
  refine done hI ?_
  replace h1:(decide (k=3) && decide (ks.length=0))=false:=h1
  cases h2:decide (k=3)
  ·rfl
  ·rw [h2,Bool.true_and] at h1
   rw [h1,Bool.and_false]; rfl
 ·repeat (first|refine ac ?_|refine ae (by decide) ?_|refine ad ?_|refine ai ?_|refine ah ?_)
  refine r_fieldL hI 0 rfl aF ay rfl ?_
  refine r_seql ?_
  repeat (first|refine ac ?_|refine ae (by decide) ?_|refine ad ?_|refine ai ?_|refine ah ?_)
  refine done hI ?_
  replace h1:(decide (k=3) && decide (ks.length=0))=true:=h1
  rw [Bool.and_eq_true] at h1
  rw [h1.1,h1.2]; simp
theorem p6 {t:T} {S:Store} {cs:List Value} (h:RdT S cs t):Pure Tryz.prog uF [.agg cs.toArray] S (.bool (cw t)):=by
 intro w hI
 have hl:=h.length
 refine mY ?_
 unfold iX
 refine r_box hI fun b1 w' hI=>?_
 refine r_loadW hI 0 ag rfl (by simpa [Value.cells] using hl) ?_
 refine Run.callPure eM eH hI (dv h) fun w' hI=>?_
 rw [cw]
 cases h1:bz t
 ·repeat (first|refine ac ?_|refine ae (by decide) ?_|refine ad ?_|refine ai ?_|refine ah ?_)
  exact done hI rfl
 ·repeat (first|refine ac ?_|refine ae (by decide) ?_|refine ad ?_|refine ai ?_|refine ah ?_)
  refine r_loadW hI 0 ag rfl (by simpa [Value.cells] using hl) ?_
  refine Run.callPure eh ek hI (dB h) fun w' hI=>?_
  cases h2:cj t
  ·repeat (first|refine ac ?_|refine ae (by decide) ?_|refine ad ?_|refine ai ?_|refine ah ?_)
   refine r_loadW hI 0 ag rfl (by simpa [Value.cells] using hl) ?_
   refine Run.callPure mG mT hI (lE h) fun w' hI=>?_
   cases h3:mz t
   ·repeat (first|refine ac ?_|refine ae (by decide) ?_|refine ad ?_|refine ai ?_|refine ah ?_)
    refine r_loadW hI 0 ag rfl (by simpa [Value.cells] using hl) ?_
    refine Run.callPure uh sF hI (qq h) fun w' hI=>?_
    repeat (first|refine ac ?_|refine ae (by decide) ?_|refine ad ?_|refine ai ?_|refine ah ?_)
    exact done hI (by simp)
   ·repeat (first|refine ac ?_|refine ae (by decide) ?_|refine ad ?_|refine ai ?_|refine ah ?_)
    exact done hI (by simp)
  ·repeat (first|refine ac ?_|refine ae (by decide) ?_|refine ad ?_|refine ai ?_|refine ah ?_)
   exact done hI (by simp)

theorem r7 {α:Type} (p:α->Bool):∀ xs:List α,(!xs.any fun x=>!p x)=xs.all p
 | []=>rfl
 | x::xs=>by
  rw [List.any_cons,List.all_cons,<- r7 p xs]
  cases p x <;> simp

theorem la {x:T} {S:Store} {cs:List Value} (h:RdT S cs x):Pure Tryz.prog fS [.agg cs.toArray] S (.bool (!cw x)):=by
 intro w hI
 have hl:=h.length
 refine kq ?_
 unfold fa
 refine r_box hI fun b1 w' hI=>?_
 refine r_loadW hI 0 ag rfl (by simpa [Value.cells] using hl) ?_
 refine Run.callPure tj sQ hI (p6 h) fun w' hI=>?_
 refine r_not (done hI rfl)
theorem oh {xs:List T} {S:Store} {v:Value} (h:RdSl S 4 (RdT S) v xs):Pure Tryz.prog sV [v] S (.bool (eU xs)):=by
 intro w hI
 refine lM ?_
 unfold ia
 refine r_lenSl h aj ?_
 refine r_leq ?_
 rw [eU]
 by_cases hle:xs.length<=6
 ·rw [decide_eq_true (show (xs.length:Int)<=6 by omega),decide_eq_true hle]
  repeat (first|refine ac ?_|refine ae (by decide) ?_|refine ad ?_|refine ai ?_|refine ah ?_)
  have hcb:Cb Tryz.prog fS _ [] S (fun _:Unit=>[]) (fun _=>True) (fun _ x=>(!cw x,())) (fun v x=>∃ cs,v=.agg cs.toArray/\RdT S cs x) xs:=
   Cb.pure [] nU ni fun x v _=>by
    rintro ⟨cs,rfl,hcs⟩ w1 hI
    exact (la hcs w1 hI).mono fun e w' ⟨he,hI⟩=>⟨_,_,_,he,hI,Ext.refl _ _ _,rfl,rfl,rfl⟩
  refine Run.call0 bq bt hI (ch hcb h (st:=()) trivial) fun v' I' S' w'=>?_
  rintro ⟨rfl,rfl,rfl⟩ _ hI
  refine r_not ?_
  repeat (first|refine ac ?_|refine ae (by decide) ?_|refine ad ?_|refine ai ?_|refine ah ?_)
  refine done hI ?_
  rw [du (fun x=>!cw x) xs,r7]; rfl
 ·rw [decide_eq_false (show ¬ (xs.length:Int)<=6 by omega),decide_eq_false hle]
  repeat (first|refine ac ?_|refine ae (by decide) ?_|refine ad ?_|refine ai ?_|refine ah ?_)
  exact done hI rfl
theorem eT {c:C} {S:Store} {cs:List Value} (h:RdC S cs c):Pure Tryz.prog ro [.agg cs.toArray] S (.bool (aH c)):=by
 intro w hI
 obtain ⟨hd,ks,rfl,h1,h2⟩:=h
 have h1':=h1
 obtain ⟨kv,rfl,g1,g2,g3,g4⟩:=RdT.iff.1 h1
 have hfin:aH c=(bz c.head && (cj c.head && eU c.body)):=by
  unfold aH eU
  cases bz c.head <;> cases cj c.head <;> simp
 refine kU ?_
 unfold fX
 rw [hfin]
 refine r_box hI fun b1 w' hI=>?_
 refine r_field aP ?_
 refine r_loadLA hI 0 [.int .i64 c.head.kind,.int .i64 c.head.n,.string c.head.name,kv] ag rfl rfl ?_ ?_
 ·intro j v hj
  match j with
  | 0|1|2|3=>exact hj
  | j+4=>simp at hj
 refine Run.callPure eM eH hI (dv h1') fun w' hI=>?_
 cases hv:bz c.head
 ·repeat (first|refine ac ?_|refine ae (by decide) ?_|refine ad ?_|refine ai ?_|refine ah ?_)
  exact done hI rfl
 ·repeat (first|refine ac ?_|refine ae (by decide) ?_|refine ad ?_|refine ai ?_|refine ah ?_)
  refine r_field aP ?_
  refine r_loadLA hI 0 [.int .i64 c.head.kind,.int .i64 c.head.n,.string c.head.name,kv] ag rfl rfl ?_ ?_
  ·intro j v hj
   match j with
   | 0|1|2|3=>exact hj
   | j+4=>simp at hj
  refine Run.callPure eh ek hI (dB h1') fun w' hI=>?_
  cases hp:cj c.head
  ·repeat (first|refine ac ?_|refine ae (by decide) ?_|refine ad ?_|refine ai ?_|refine ah ?_)
   exact done hI rfl
  ·repeat (first|refine ac ?_|refine ae (by decide) ?_|refine ad ?_|refine ai ?_|refine ah ?_)
   refine r_fieldL hI 0 rfl ax al rfl ?_
   refine Run.callPure rl rz hI (oh h2) fun w' hI=>?_
   repeat (first|refine ac ?_|refine ae (by decide) ?_|refine ad ?_|refine ai ?_|refine ah ?_)
   exact done hI rfl

theorem iE {x:C} {S:Store} {cs:List Value} (h:RdC S cs x):Pure Tryz.prog eL [.agg cs.toArray] S (.bool (!aH x)):=by
 intro w hI
 have hl:=h.length
 refine gB ?_
 unfold dS
 refine r_box hI fun b1 w' hI=>?_
 refine r_loadW hI 0 av rfl (by simpa [Value.cells] using hl) ?_
 refine Run.callPure gd fY hI (eT h) fun w' hI=>?_
 refine r_not (done hI rfl)
theorem cE {xs:List C} {S:Store} {v:Value} (h:RdSl S 5 (RdC S) v xs):Pure Tryz.prog p5 [v] S (.bool (cR xs)):=by
 intro w hI
 refine jt ?_
 unfold fq
 refine r_lenSl h aB ?_
 refine r_leq ?_
 rw [cR]
 by_cases hle:xs.length<=20
 ·rw [decide_eq_true (show (xs.length:Int)<=20 by omega),decide_eq_true hle]
  repeat (first|refine ac ?_|refine ae (by decide) ?_|refine ad ?_|refine ai ?_|refine ah ?_)
  have hcb:Cb Tryz.prog eL _ [] S (fun _:Unit=>[]) (fun _=>True) (fun _ x=>(!aH x,())) (fun v x=>∃ cs,v=.agg cs.toArray/\RdC S cs x) xs:=
   Cb.pure [] lf kS fun x v _=>by
    rintro ⟨cs,rfl,hcs⟩ w1 hI
    exact (iE hcs w1 hI).mono fun e w' ⟨he,hI⟩=>⟨_,_,_,he,hI,Ext.refl _ _ _,rfl,rfl,rfl⟩
  refine Run.call0 fG fB hI (gA hcb h (st:=()) trivial) fun v' I' S' w'=>?_
  rintro ⟨rfl,rfl,rfl⟩ _ hI
  refine r_not ?_
  repeat (first|refine ac ?_|refine ae (by decide) ?_|refine ad ?_|refine ai ?_|refine ah ?_)
  refine done hI ?_
  rw [du (fun x=>!aH x) xs,r7]; rfl
 ·rw [decide_eq_false (show ¬ (xs.length:Int)<=20 by omega),decide_eq_false hle]
  repeat (first|refine ac ?_|refine ae (by decide) ?_|refine ad ?_|refine ai ?_|refine ah ?_)
  exact done hI rfl
end Go.Proofs.YtmnnpgdeecnfpaaGreat

/- A row of a function's own, handed to a function that only reads; rows of numbers. -/
namespace Go.Proofs.YtmnnpgdeecnfpaaGreat
open Go Go.RowKit
attribute [local irreducible] Run CondV GuardV LoadV

def RowRd (S:Store) (v:Value) (e:TypeId) (k n:Nat) (xs:List Value):Prop:=
 xs.length=n * k/\((v=.slice none 0 0/\n=0) ∨ ∃ g cap cur,v=.slice (some ⟨g,0,none⟩) n cap/\S g=some (.cells cur e)/\n<=cap/\cap<=maxLen/\cur.size=cap * k/\cur.toList.take (n * k)=xs)
theorem Inv.lend {w0 w:World} {X:List Nat} {A:List Item} {S:Store} {v:Value} {e:TypeId} {k n:Nat} {xs:List Value} (h:Inv w0 X (A++[.row v e k n xs]) S w) :
  ∃ S',Sle S S'/\RowRd S' v e k n xs/\Inv w0 X A S' w/\∀ B w',Inv w0 X B S' w'->Inv w0 X (B++[.row v e k n xs]) S w':=by
 have hm:w.ownsRow 0 e k v n xs:=h.its (.row v e k n xs) (by simp)
 obtain ⟨hl,hm⟩:=hm
 rcases hm with ⟨rfl,rfl⟩|⟨g,cap,cur,rfl,_,hg,hnc,hcm,hcs,ht⟩
 ·have:xs=[]:=List.eq_nil_of_length_eq_zero (by rw [hl,Nat.zero_mul])
  subst this
  exact ⟨S,Sle.refl S,⟨hl,.inl ⟨rfl,rfl⟩⟩,h.sub (List.sublist_append_left _ _),fun B w' hB=>hB.rowNil e k⟩
 ·have hf:feet (A++[Item.blk g (.cells cur e)])=feet (A++[Item.row (.slice (some ⟨g,0,none⟩) n cap) e k n xs]):=by
   simp [feet,Item.foot,Value.ownBlock]
  have hg':g∈feet (A++[Item.row (.slice (some ⟨g,0,none⟩) n cap) e k n xs]):=by simp [feet,Item.foot,Value.ownBlock]
  have h':Inv w0 X (A++[Item.blk g (.cells cur e)]) S w:=by
   refine ⟨h.size,h.os,h.tape,h.output,h.old,fun it hit=>?_,by rw [hf]; exact h.nd,by rw [hf]; exact h.new,by rw [hf]; exact h.pub⟩
   rcases List.mem_append.1 hit with hit|hit
   ·exact h.its it (List.mem_append_left _ hit)
   ·simp at hit
    subst hit
    exact hg
  obtain ⟨h1,h2⟩:=h'.publishLast
  refine ⟨addS S g (.cells cur e),h2,⟨hl,.inr ⟨g,cap,cur,rfl,by simp [addS],hnc,hcm,hcs,ht⟩⟩,h1,fun B w' hB=>?_⟩
  have hpg:=hB.pub g (.cells cur e) (by simp [addS])
  have hfB:feet (B++[Item.row (.slice (some ⟨g,0,none⟩) n cap) e k n xs])=feet B++[g]:=by simp [feet,Item.foot,Value.ownBlock]
  refine ⟨hB.size,hB.os,hB.tape,hB.output,hB.old,fun it hit=>?_,?_,?_,?_⟩
  ·rcases List.mem_append.1 hit with hit|hit
   ·exact hB.its it hit
   ·simp at hit
    subst hit
    exact ⟨hl,.inr ⟨g,cap,cur,rfl,Nat.zero_le _,hpg.1,hnc,hcm,hcs,ht⟩⟩
  ·rw [hfB,List.nodup_append]
   refine ⟨hB.nd,by simp,fun a ha b hb=>?_⟩
   simp at hb
   subst hb
   intro e'
   subst e'
   exact hpg.2 ha
  ·intro c hc
   rw [hfB] at hc
   rcases List.mem_append.1 hc with hc|hc
   ·exact hB.new c hc
   ·simp at hc
    subst hc
    exact h.new _ hg'
  ·intro c o hc
   have hne:c≠g:=fun e'=>by
    subst e'
    exact (h.pub c o hc).2 hg'
   have:=hB.pub c o (by simp only [addS]; rw [if_neg hne]; exact hc)
   refine ⟨this.1,?_⟩
   rw [hfB]
   intro hc'
   rcases List.mem_append.1 hc' with hc'|hc'
   ·exact this.2 hc'
   ·simp at hc'
    exact hne hc'
theorem BH {α:Type} (f:α->List Value) (k:Nat) (hf:∀ y,(f y).length=k):∀ (ys:List α) (i:Nat) (h:i<ys.length),((ys.flatMap f).drop (i * k)).take k=f ys[i]
 | [],i,h=>by simp at h
 | y::ys,0,h=>by
  rw [List.flatMap_cons,Nat.zero_mul,List.drop_zero,List.take_append_of_le_length (by rw [hf]; exact Nat.le_refl _),List.take_of_length_le (by rw [hf]; exact Nat.le_refl _)]
  rfl
 | y::ys,i+1,h=>by
  rw [List.flatMap_cons,Nat.succ_mul,Nat.add_comm,<- List.drop_drop,List.drop_left' (hf y)]
  exact BH f k hf ys i (by simpa using h)
theorem RowRd.rd {α:Type} {S:Store} {v:Value} {e:TypeId} {k:Nat} {f:α->List Value} {R:List Value->α->Prop} {ys:List α} (hf:∀ y,(f y).length=k) (hR:∀ y∈ys,R (f y) y)
  (h:RowRd S v e k ys.length (ys.flatMap f)):RdSl S k R v ys:=by
 obtain ⟨hl,h⟩:=h
 rcases h with ⟨rfl,h0⟩|⟨g,cap,cur,rfl,hS,hnc,hcm,hcs,ht⟩
 ·have:ys=[]:=List.eq_nil_of_length_eq_zero h0
  subst this
  exact ⟨none,0,rfl,Nat.le_refl _,Nat.zero_le _,.inl rfl⟩
 ·refine ⟨_,cap,rfl,hnc,hcm,.inr ⟨g,0,cur,e,(0,0),rfl,hS,fun i hi=>?_⟩⟩
  have:=BH f k hf ys i hi
  have hik:i * k+k<=ys.length * k:=by rw [<- Nat.succ_mul]; exact Nat.mul_le_mul_right k hi
  rw [<- ht,List.drop_take,List.take_take,Nat.min_eq_left (by omega)] at this
  rw [cellsAt,Nat.zero_add,this]
  exact hR _ (List.getElem_mem hi)

/- rows of numbers -/
def ints (ns:List Int):List Value:=ns.flatMap fun n=>[.int .i64 n]
abbrev bv (v:Value) (ns:List Int):Item:=.row v aV 1 ns.length (ints ns)
theorem kC (ns:List Int) (n:Int):ints ns++[.int .i64 n]=ints (ns++[n]):=by simp [ints]
theorem RowRd.ints {S:Store} {v:Value} {e:TypeId} {ns:List Int} (h:RowRd S v e 1 ns.length (ints ns)):RdSl S 1 gr v ns:=
 RowRd.rd (f:=fun n=>[Value.int .i64 n]) (fun _=>rfl) (fun _ _=>rfl) h
def kr (l:List Int) (n:Int):Bool:=l.any fun x=>decide (n=x)
def iY (l:List Int) (n:Int):List Int:=if kr l n=true then l else l++[n]
theorem BL (l:List Int) (n:Int):(iY l n).length<=l.length+1:=by
 unfold iY
 split <;> simp

theorem ip (s:Int) {xs:List Int} {S:Store} {v:Value} (h:RdSl S 1 gr v xs) :
  Pure Tryz.prog uA [v,.int .i64 s] S (.int .i64 (aO (σ:=Unit) (fun _ x=>(decide (s=x),())) () xs 0).1):=by
 intro w hI
 have hlen:=h.le
 simp only [maxLen] at hlen
 refine na ?_
 unfold jm
 refine r_lenSl h bI ?_
 refine ⟨fun i w'=>∃ k:Nat,k<=xs.length/\i=.int .i64 k/\aO (σ:=Unit) (fun _ x=>(decide (s=x),())) () (xs.drop k) k=aO (σ:=Unit) (fun _ x=>(decide (s=x),())) () xs 0/\Inv w [] [] S w',
  fun i _=>xs.length - (intOf i).toNat,⟨0,Nat.zero_le _,rfl,rfl,hI⟩,?_⟩
 intro t8 _ _ _ _ _ _ _ _ _ _ _ _ w'
 rintro ⟨k,hk,rfl,hrel,hI⟩
 refine r_lss ?_
 refine condP (fun hki=>?_) (fun hki=>?_)
 ·have hk':k<xs.length:=by omega
  rw [List.drop_eq_getElem_cons hk',aO] at hrel
  refine dg hI h bI aC hk' (fun cs hcs=>hcs) ?_
  refine r_eql ?_
  refine condP (fun he=>done hI ?_) (fun he=>?_)
  ·rw [<- hrel,if_pos (by simpa using he)]
  ·refine r_add (by omega) ?_
   rw [if_neg (by simpa using he)] at hrel
   exact ⟨⟨k+1,hk',rfl,hrel,hI⟩,by simp [intOf]; omega⟩
 ·have:k=xs.length:=by omega
  subst this
  rw [List.drop_length,aO] at hrel
  exact done hI (by rw [<- hrel])
theorem eD (s:Int) {xs:List Int} {S:Store} {v:Value} (h:RdSl S 1 gr v xs):Pure Tryz.prog pq [v,.int .i64 s] S (.bool (kr xs s)):=by
 intro w hI
 refine jd ?_
 unfold fp
 refine Run.callPure jD jM hI (ip s h) fun w' hI=>?_
 refine r_geq (done hI ?_)
 rw [(dz _ xs () 0).1,du]; rfl
theorem pz {σ:Type} {f:FuncId} {fn:Func} {cap:List Value} {S:Store} {It:σ->List Item} {ok:σ->Prop} {step:σ->Int->Bool × σ} {xs:List Int} {v:Value}
  (hcb:Cb Tryz.prog f fn cap S It ok step (fun v x=>v=.int .i64 x) xs) (h:RdSl S 1 gr v xs) {st:σ} (hok:ok st) :
  Tri Tryz.prog np [v,fv f cap] (It st) S fun r I' S'=>r=.int .i64 (aO step st xs 0).1/\I'=It (aO step st xs 0).2/\S'=S:=by
 intro w hI
 have hlen:=h.le
 simp only [maxLen] at hlen
 refine iv ?_
 unfold eN
 refine r_lenSl h bI ?_
 refine ⟨fun i w'=>∃ (k:Nat) (st':σ),k<=xs.length/\i=.int .i64 k/\ok st'/\aO step st' (xs.drop k) k=aO step st xs 0/\Inv w (feet (It st)) (It st') S w',fun i _=>xs.length - (intOf i).toNat,
  ⟨0,st,Nat.zero_le _,rfl,hok,rfl,hI⟩,?_⟩
 intro t8 _ _ _ _ _ _ _ _ _ _ _ _ w'
 rintro ⟨k,st',hk,rfl,hok',hrel,hI⟩
 refine r_lss ?_
 refine condP (fun hki=>?_) (fun hki=>?_)
 ·have hk':k<xs.length:=by omega
  have hm:=List.getElem_mem hk'
  have hstep:aO step st' (xs.drop k) k=if (step st' xs[k]).1 then ((k:Int),(step st' xs[k]).2) else aO step (step st' xs[k]).2 (xs.drop (k+1)) (k+1):=by
   rw [List.drop_eq_getElem_cons hk',aO]
  refine dg hI h bI aC hk' (fun cs hcs=>hcs) ?_
  refine Run.callV (A:=[]) (args:=[.int .i64 xs[k]]) hcb.hf hcb.hn (by simpa using hI) (hcb.call st' _ _ hm hok' rfl) fun v' I' S' w'=>?_
  rintro ⟨rfl,rfl,rfl⟩ _ hI
  refine condV (fun hb=>?_) (fun hb=>?_)
  ·rw [if_pos hb] at hstep
   refine ⟨_,_,_,rfl,by simpa using hI,Ext.refl _ _ _,?_,?_,rfl⟩
   ·rw [<- hrel,hstep]
   ·rw [<- hrel,hstep]
  ·refine r_add (by omega) ?_
   rw [hb] at hstep
   refine ⟨⟨k+1,_,hk',rfl,hcb.keep st' _ hm hok' hb,?_,by simpa using hI⟩,by simp [intOf]; omega⟩
   rw [<- hrel,hstep]
   rfl
 ·have:k=xs.length:=by omega
  subst this
  rw [List.drop_length,aO] at hrel
  exact ⟨_,_,_,rfl,hI,Ext.refl _ _ _,by rw [<- hrel],by rw [<- hrel],rfl⟩
theorem lb {σ:Type} {f:FuncId} {fn:Func} {cap:List Value} {S:Store} {It:σ->List Item} {ok:σ->Prop} {step:σ->Int->Bool × σ} {xs:List Int} {v:Value}
  (hcb:Cb Tryz.prog f fn cap S It ok step (fun v x=>v=.int .i64 x) xs) (h:RdSl S 1 gr v xs) {st:σ} (hok:ok st) :
  Tri Tryz.prog iK [v,fv f cap] (It st) S fun r I' S'=>r=.bool (iB step st xs).1/\I'=It (iB step st xs).2/\S'=S:=by
 intro w hI
 refine fE ?_
 unfold dl
 refine Run.call (A:=[]) my mB (by simpa using hI) (pz hcb h hok) fun v' I' S' w'=>?_
 rintro ⟨rfl,rfl,rfl⟩ _ hI
 refine r_geq ?_
 have he:=dz step xs st 0
 exact ⟨_,_,_,rfl,by simpa using hI,Ext.refl _ _ _,by rw [he.1],by rw [he.2],rfl⟩
end Go.Proofs.YtmnnpgdeecnfpaaGreat

/- The variables of terms, on both sides: lists of numbers that grow. -/
namespace Go.Proofs.YtmnnpgdeecnfpaaGreat
open Go Go.RowKit
attribute [local irreducible] Run CondV GuardV LoadV

mutual
def eJ:T->List Int->List Int
 | .mk k n _ ks,l=>bC ks (if k=1 then iY l n else l)
def bC:List T->List Int->List Int
 | [],l=>l
 | t::ts,l=>bC ts (eJ t l)
end
mutual
def Ay:T->List Int->List Int
 | .mk k n _ ks,l=>if k=1 then iY l n else pW ks l
def pW:List T->List Int->List Int
 | [],l=>l
 | t::ts,l=>pW ts (Ay t l)
end
mutual
theorem ss:∀ (t:T) (l:List Int),((eJ t l).length:Int)<=l.length+bD t
 | .mk k n s ks,l=>by
  rw [eJ,show bD (T.mk k n s ks)=1+bf ks from rfl]
  have h1:=BL l n
  have:=tC ks (if k=1 then iY l n else l)
  split at this <;> rename_i hk <;> simp only [hk,if_true,if_false] at this ⊢ <;> omega
theorem tC:∀ (ts:List T) (l:List Int),((bC ts l).length:Int)<=l.length+bf ts
 | [],l=>by simp [bC,bf]
 | t::ts,l=>by
  rw [bC,show bf (t::ts)=bD t+bf ts from rfl]
  have:=ss t l
  have:=tC ts (eJ t l)
  omega
end
/- on valid terms the two are one -/
theorem yH {t:T} (h:bz t=true):dd t 30=true:=by
 rw [bz,Bool.and_eq_true] at h
 exact h.1
abbrev yL (S:Store) (r:List Int):Value->List Item->Store->Prop:=fun v I' S'=>I'=[bv v r]/\S'=S

theorem uo:∀ (t:T) (S:Store) (cs:List Value) (v:Value) (l:List Int),RdT S cs t->l.length+bD t<=1000000000->Tri Tryz.prog yM [.agg cs.toArray,v] [bv v l] S (yL S (eJ t l)):=by
 refine T.ind fun k n s ks ih S cs v l h hl=>?_
 intro w hI
 obtain ⟨kv,rfl,_,_,hs,hks⟩:=RdT.iff.1 h
 simp only [T.name,T.kids,T.kind,T.n] at hs hks ⊢
 have hlen:=hks.le
 simp only [maxLen] at hlen
 rw [show bD (T.mk k n s ks)=1+bf ks from rfl] at hl
 have hcp:=bW ks
 have hal:=BL l n
 refine rB ?_
 unfold ny
 refine r_box hI fun b2 w' hI=>?_
 have hI:=hI.perm (M:=[.blk b2 (.cells #[.int .i64 k,.int .i64 n,.string s,kv] ab),bv v l]) (List.Perm.swap _ _ _)
 refine ⟨fun t w'=>Inv w (feet [bv v l]) [.blk b2 (.cells #[.int .i64 k,.int .i64 n,.string s,kv] ab),bv t (if k=1 then iY l n else l)] S w',?_,?_⟩
 ·refine ⟨fun t w'=>t=.bool (decide (k=1) && !kr l n)/\Inv w (feet [bv v l]) [.blk b2 (.cells #[.int .i64 k,.int .i64 n,.string s,kv] ab),bv v l] S w',?_,?_⟩
  ·refine r_fieldL hI 0 rfl aI aC rfl ?_
   refine r_eql ?_
   cases h1:decide (k=1)
   ·repeat (first|refine ac ?_|refine ae (by decide) ?_|refine ad ?_|refine ai ?_|refine ah ?_)
    exact ⟨rfl,hI⟩
   ·repeat (first|refine ac ?_|refine ae (by decide) ?_|refine ad ?_|refine ai ?_|refine ah ?_)
    refine r_fieldL hI 0 rfl aK aC rfl ?_
    obtain ⟨S1,hle,hrd,hI,hback⟩:=Inv.lend (A:=[_]) hI
    refine Run.callPure fk fe hI (eD n hrd.ints) fun w' hI=>?_
    refine r_not ?_
    repeat (first|refine ac ?_|refine ae (by decide) ?_|refine ad ?_|refine ai ?_|refine ah ?_)
    exact ⟨rfl,hback _ _ hI⟩
  intro t16 _ _ _ _ _ _ _ _ _ w'
  rintro ⟨rfl,hI⟩
  refine condV (fun hb=>?_) (fun hb=>?_)
  ·simp only [Bool.and_eq_true,decide_eq_true_eq,Bool.not_eq_true'] at hb
   refine r_fieldL hI 0 rfl aK aC rfl ?_
   refine r_slice1 hI el rfl (by omega) (by omega) fun b w' hI=>?_
   refine r_append hI 1 (k:=1) [.int .i64 n] el (by omega) rfl rfl ?_ ?_ (by omega) (by omega) fun v' w' hI=>?_
   ·intro j u hj
    rw [hI.cellL (i:=2) rfl]
    match j with
    | 0=>simpa [Value.cells] using hj
    | j+1=>simp at hj
   ·simp [Value.oneCell']
   ·rw [kC] at hI
    have hI:=hI.pick [true,true,false]
    rw [if_pos hb.1,iY,if_neg (by rw [hb.2]; decide)]
    have e:Item.row v' aV 1 (l.length+1) (ints (l++[n]))=bv v' (l++[n]):=by simp [bv]
    rw [show List.length l+1=l.length+1 from rfl,e] at hI
    exact hI
  ·have:(if k=1 then iY l n else l)=l:=by
    split
    ·rename_i hk
     rw [iY]
     simp [hk] at hb
     rw [if_pos hb]
    ·rfl
   rw [this]
   exact hI
 intro t1 _ _ _ _ _ _ _ _ _ _ _ _ _ _ _ w' hI
 have hl1:((if k=1 then iY l n else l).length:Int)+bf ks<=1000000000:=by split <;> omega
 rw [show eJ (.mk k n s ks) l=bC ks (if k=1 then iY l n else l) from by rw [eJ]]
 generalize (if k=1 then iY l n else l)=l1 at hI hl1 ⊢
 refine r_fieldL hI 0 rfl aq al rfl ?_
 refine r_lenSl hks aj ?_
 refine ⟨fun i t w'=>∃ (j:Nat) (l':List Int),j<=ks.length/\i=.int .i64 j/\bC (ks.drop j) l'=bC ks l1/\l'.length+bf (ks.drop j)<=1000000000/\Inv w (feet [bv v l]) [.blk b2 (.cells #[.int .i64 k,.int .i64 n,.string s,kv] ab),bv t l'] S w',
  fun i _ _=>ks.length - (intOf i).toNat,⟨0,l1,Nat.zero_le _,rfl,rfl,by rw [List.drop_zero]; omega,hI⟩,?_⟩
 intro t25 _ t1 _ _ _ _ _ _ _ w'
 rintro ⟨j,l',hj,rfl,hrel,hl',hI⟩
 refine r_lss ?_
 refine condP (fun hji=>?_) (fun hji=>?_)
 ·have hj':j<ks.length:=by omega
  rw [mj ks j hj'] at hl'
  rw [List.drop_eq_getElem_cons hj',bC] at hrel
  have hc1:=bW (ks.drop (j+1))
  have hc2:=ss ks[j] l'
  refine r_elem hI hks aj ag hj' (fun _ _=>RdT.length) fun cs' hcs'=>?_
  have hlc:=hcs'.length
  refine r_alloc hI aE fun b6 w' hI=>?_
  refine ao hI 2 rfl ag (by simpa using hlc) rfl (by simpa using hcs'.one) fun w' hI=>?_
  refine r_loadW hI 2 ag rfl (by simpa using hlc) ?_
  have hI:=hI.pick [true,true,false]
  refine Run.call (A:=[_]) nI mU hI (ih _ (List.getElem_mem hj') S cs' t1 l' hcs' (by omega)) fun v' I' S' w'=>?_
  rintro ⟨rfl,rfl⟩ _ hI
  refine r_add (by omega) ?_
  exact ⟨⟨j+1,_,hj',rfl,hrel,by omega,hI⟩,by simp [intOf]; omega⟩
 ·have:j=ks.length:=by omega
  subst this
  rw [List.drop_length,bC] at hrel
  subst hrel
  exact ⟨_,_,_,rfl,hI.pick [false,true],Ext.refl _ _ _,rfl,rfl⟩
theorem xx {ts:List T} {S:Store} {v:Value} (h:RdSl S 4 (RdT S) v ts) (hl:bf ts<=1000000000):Tri Tryz.prog Ab [v] [] S (yL S (bC ts [])):=by
 intro w hI
 have hlen:=h.le
 simp only [maxLen] at hlen
 refine sM ?_
 unfold qP
 refine r_lenSl h aj ?_
 refine ⟨fun i t w'=>∃ (j:Nat) (l':List Int),j<=ts.length/\i=.int .i64 j/\bC (ts.drop j) l'=bC ts []/\l'.length+bf (ts.drop j)<=1000000000/\Inv w [] [bv t l'] S w',
  fun i _ _=>ts.length - (intOf i).toNat,⟨0,[],Nat.zero_le _,rfl,rfl,by simpa using hl,hI.rowNil aV 1⟩,?_⟩
 intro t8 _ t3 _ _ _ _ _ _ _ w'
 rintro ⟨j,l',hj,rfl,hrel,hl',hI⟩
 refine r_lss ?_
 refine condP (fun hji=>?_) (fun hji=>?_)
 ·have hj':j<ts.length:=by omega
  rw [mj ts j hj'] at hl'
  rw [List.drop_eq_getElem_cons hj',bC] at hrel
  have hc1:=bW (ts.drop (j+1))
  have hc2:=ss ts[j] l'
  refine r_elem hI h aj ag hj' (fun _ _=>RdT.length) fun cs' hcs'=>?_
  have hlc:=hcs'.length
  refine r_alloc hI aE fun b6 w' hI=>?_
  refine ao hI 1 rfl ag (by simpa using hlc) rfl (by simpa using hcs'.one) fun w' hI=>?_
  refine r_loadW hI 1 ag rfl (by simpa using hlc) ?_
  have hI:=hI.pick [true,false]
  refine Run.call (A:=[]) nI mU hI (uo _ S cs' t3 l' hcs' (by omega)) fun v' I' S' w'=>?_
  rintro ⟨rfl,rfl⟩ _ hI
  refine r_add (by omega) ?_
  exact ⟨⟨j+1,_,hj',rfl,hrel,by omega,hI⟩,by simp [intOf]; omega⟩
 ·have:j=ts.length:=by omega
  subst this
  rw [List.drop_length,bC] at hrel
  subst hrel
  exact ⟨_,_,_,rfl,hI,Ext.refl _ _ _,rfl,rfl⟩

end Go.Proofs.YtmnnpgdeecnfpaaGreat

/- Flat clauses and programs, on both sides. -/
namespace Go.Proofs.YtmnnpgdeecnfpaaGreat
open Go Go.RowKit
attribute [local irreducible] Run CondV GuardV LoadV

section
variable {P:Program} {w w0:World} {X:List Nat} {L:List Item} {S:Store} {K:Value->World->Prop}
theorem BS {α:Type} {T Tf U ty ty' ty'' E:TypeId} {k f d:Nat} {R:List Value->α->Prop} {v:Value} {xs:List α} (hI:Inv w0 X L S w) (h:RdSl S k R v xs) (hu:sliceOf P T=some (E,k)) (hf:fieldOff P Tf f=some d) (hU:isSc P U=true)
  {i:Nat} (hi:i<xs.length) (hk:∀ cs,R cs xs[i]->∃ u,cs[d]?=some u/\K u w) :
  Run P (sOp (.indexAddr T (.const v) (.const (.int .i64 i))) ty) w fun p w'=>Run P (sOp (.fieldAddr Tf (.const p) f) ty') w' fun q w''=>Run P (sOp (.load U (.const q)) ty'') w'' K:=by
 obtain ⟨b,o,cap,c,E',fz,rfl,hS,hR⟩:=h.at_ hi
 obtain ⟨u,hu',hK⟩:=hk _ hR
 refine r_indexAddr hu hi ?_
 refine r_field hf ?_
 refine r_load hU ?_ hK
 rw [hI.cellS hS]
 exact cellsAt_get rfl d u hu'
end
end Go.Proofs.YtmnnpgdeecnfpaaGreat

/- The row's reading of the arguments gives the reading of this proof; and what a law that returns true owes. -/
namespace Go.Proofs.YtmnnpgdeecnfpaaGreat
open Go Go.ChangeShapes Go.WideShapes Go.ChangeAt Go.RowKit

def BQ (W:World):Store:=fun b=>W.heap[b]?
section
variable {H:Type} {enc:TypeId × Value->H} {P:Program} {W:World} {sp:Nat->Bool} {held:Bool}
theorem Cv {a:Addr} {v:Value} (h:W.cell? a=some v):∃ b o c E fz,a=⟨b,o,none⟩/\W.heap[b]?=some (.cells c E fz)/\c[o]?=some v:=by
 obtain ⟨b,o,s⟩:=a
 simp only [World.cell?] at h
 split at h
 ·rename_i c E fz hb
  cases s with
  | none=>exact ⟨b,o,c,E,fz,rfl,hb,by simpa using h⟩
  | some s=>simp at h
 ·cases h
theorem D9 {b o k:Nat} {cs:List Value} {c:Array Value} {E:TypeId} {fz:Nat × Nat} (hb:W.heap[b]?=some (.cells c E fz)) (h:W.cells? 0 ⟨b,o,none⟩ k=some cs):cellsAt c o k=cs:=by
 unfold World.cells? at h
 rw [if_pos (Nat.zero_le _)] at h
 have hl:cs.length=k:=by simpa using mapM_some_length h
 apply List.ext_getElem?
 intro i
 rw [cellsAt,List.getElem?_take]
 by_cases hi:i<k
 ·rw [if_pos hi,List.getElem?_drop]
  have:=mapM_some_get h i i (by simp [hi])
  rw [<- this,add_lit]
  simp [World.cell?,hb]
 ·rw [if_neg hi,List.getElem?_eq_none (by omega)]
theorem qs {α:Type} (p:Nat->α->Prop):∀ n:Nat,(∀ i,i<n->∃ t,p i t)->∃ xs:List α,xs.length=n/\∀ i (h:i<xs.length),p i xs[i]
 | 0,_=>⟨[],rfl,fun i h=>by simp at h⟩
 | n+1,h=>by
  obtain ⟨xs,hl,hx⟩:=qs p n fun i hi=>h i (by omega)
  obtain ⟨t,ht⟩:=h n (by omega)
  refine ⟨xs++[t],by simp [hl],fun i hi=>?_⟩
  by_cases e:i<xs.length
  ·rw [List.getElem_append_left e]
   exact hx i e
  ·have:i=xs.length:=by simp at hi; omega
   subst this
   simp only [List.getElem_append_right (Nat.le_refl _),Nat.sub_self,List.getElem_cons_zero]
   rw [hl]
   exact ht
theorem qi {T e:TypeId} {k:Nat} (h:sliceOf P T=some (e,k)):P.underlying T=some (.slice e)/\P.cellsOf e=k:=by
 unfold sliceOf at h
 split at h
 ·rename_i e' he
  rw [Option.map_eq_some_iff] at h
  obtain ⟨i,hi,hx⟩:=h
  simp only [Prod.mk.injEq] at hx
  obtain ⟨rfl,rfl⟩:=hx
  exact ⟨he,by simp [Program.cellsOf,hi]⟩
 ·cases h
theorem EG {α:Type} {R:List Value->α->Prop} {T e:TypeId} {k fuel:Nat} {v:Value} {x:DataW H × List MemPlace} (hu:sliceOf P T=some (e,k)) (hk0:0<k)
  (h:DataW.trod enc P W 0 sp held fuel T [v]=some x) (hel:∀ n cs y,fuel=n+1->DataW.trod enc P W 0 sp held n e cs=some y->∃ t:α,R cs t):∃ xs,RdSl (BQ W) k R v xs:=by
 obtain ⟨hu1,hk⟩:=qi hu
 rcases DataW.trod_slice hu1 h with ⟨hcs,_⟩|⟨a,len,cap,elems,rest,n,hf,hcs,_,_,hl,hc,hlen,hE,_⟩
 ·simp only [List.cons.injEq,and_true] at hcs
  subst hcs
  exact ⟨[],none,0,rfl,Nat.le_refl _,Nat.zero_le _,.inl rfl⟩
 ·simp only [List.cons.injEq,and_true] at hcs
  subst hcs
  have hE':∀ i,i<len->∃ t:α,∃ cs,W.cells? 0 (a.add (i * k)) k=some cs/\R cs t:=by
   intro i hi
   have:=hE i hi
   rw [hk,List.getElem?_eq_getElem (by omega),Option.bind_eq_some_iff] at this
   obtain ⟨cs,h1,h2⟩:=this
   obtain ⟨t,ht⟩:=hel n cs _ hf h2
   exact ⟨t,cs,h1,ht⟩
  obtain ⟨xs,hxl,hxs⟩:=qs _ len hE'
  subst hxl
  refine ⟨xs,some a,cap,rfl,hl,hc,?_⟩
  by_cases h0:xs.length=0
  ·exact .inl (List.eq_nil_of_length_eq_zero h0)
  ·obtain ⟨cs0,h1,_⟩:=hxs 0 (by omega)
   have e0:a.add (0 * k)=a:=by rw [Nat.zero_mul]; simp [Addr.add]
   rw [e0] at h1
   have hc0:∃ u,W.cell? a=some u:=by
    unfold World.cells? at h1
    rw [if_pos (Nat.zero_le _)] at h1
    have hl0:cs0.length=k:=by simpa using mapM_some_length h1
    have:=mapM_some_get h1 0 0 (by simp [hk0])
    rw [List.getElem?_eq_getElem (by omega)] at this
    have e1:a.add 0=a:=by simp [Addr.add]
    rw [e1] at this
    exact ⟨_,this⟩
   obtain ⟨u,hu0⟩:=hc0
   obtain ⟨b,o,c,E,fz,rfl,hb,_⟩:=Cv hu0
   refine .inr ⟨b,o,c,E,fz,rfl,hb,fun i hi=>?_⟩
   obtain ⟨cs,h2,hR⟩:=hxs i hi
   rw [add_lit] at h2
   rw [D9 hb h2]
   exact hR
end

section
variable {H:Type} {enc:TypeId × Value->H} {W:World} {sp:Nat->Bool} {held:Bool}
end

theorem Inv.entry (W:World):Inv W [] [] (BQ W) W:=Inv.start (L:=[]) (by simp) (by simp [feet]) fun b o hb=>⟨hb,by simp [feet]⟩
theorem Inv.same {W W':World} {L:List Item} {S:Store} (h:Inv W [] L S W') (b:Nat) (hb:b<W.heap.size):W'.heap[b]?=W.heap[b]?:=h.old b hb (by simp)
theorem CE {W W':World} {may:MemPlace->Prop} (ho:W'.os=W.os) (hp:W'.output=W.output) (h:∀ b,b<W.heap.size->W'.heap[b]?=W.heap[b]?):W.keptBut W' may:=by
 refine ⟨ho,hp,fun i hi=>?_⟩
 rw [h i hi]
 split
 ·rename_i e1 e2
  rw [e1] at e2
  simp only [Option.some.injEq,Obj.cells.injEq] at e2
  obtain ⟨rfl,rfl,rfl⟩:=e2
  exact ⟨rfl,rfl,rfl,fun _ _=>rfl⟩
 ·rename_i e1 e2
  rw [e1] at e2
  simp only [Option.some.injEq,Obj.map.injEq] at e2
  obtain ⟨rfl,rfl⟩:=e2
  exact .inr ⟨rfl,rfl⟩
 ·rfl

end Go.Proofs.YtmnnpgdeecnfpaaGreat

/- The sizes: laws.szTerm and its kin. -/
namespace Go.Proofs.YtmnnpgdeecnfpaaGreat
open Go Go.RowKit
attribute [local irreducible] Run CondV GuardV LoadV


end Go.Proofs.YtmnnpgdeecnfpaaGreat

/- Equality of terms and clauses as the laws ask it. -/
namespace Go.Proofs.YtmnnpgdeecnfpaaGreat
open Go Go.RowKit
attribute [local irreducible] Run CondV GuardV LoadV

theorem yR {a b c d e:Value}:∀ (j:Nat) (v:Value),([a,b,c,d]:List Value)[j]?=some v->(#[a,b,c,d,e]:Array Value)[0+j]?=some v
 | 0,_,h|1,_,h|2,_,h|3,_,h=>h
 | j+4,_,h=>by simp at h

end Go.Proofs.YtmnnpgdeecnfpaaGreat

/- The sizes of clauses and of programs, and what they bound. -/
namespace Go.Proofs.YtmnnpgdeecnfpaaGreat
open Go Go.RowKit
attribute [local irreducible] Run CondV GuardV LoadV

/- toClauseS, and what it made published -/
end Go.Proofs.YtmnnpgdeecnfpaaGreat

/- The laws' marks: laws.markText. -/
namespace Go.Proofs.YtmnnpgdeecnfpaaGreat
open Go Go.RowKit
section
variable {P:Program} {w w0:World} {X:List Nat} {L:List Item} {S:Store} {K:Value->World->Prop}
attribute [local irreducible] Run CondV GuardV LoadV
end

section
attribute [local irreducible] Run CondV GuardV LoadV
end

end Go.Proofs.YtmnnpgdeecnfpaaGreat

/- The laws' marks, written into trees of the function's own. -/
namespace Go.Proofs.YtmnnpgdeecnfpaaGreat
open Go Go.RowKit

section
attribute [local irreducible] Run CondV GuardV LoadV
end

end Go.Proofs.YtmnnpgdeecnfpaaGreat

/- The laws' marks, written into clauses of the function's own. -/
namespace Go.Proofs.YtmnnpgdeecnfpaaGreat
open Go Go.RowKit

section
attribute [local irreducible] Run CondV GuardV LoadV
end

end Go.Proofs.YtmnnpgdeecnfpaaGreat

/- The laws' marks, read again. -/
namespace Go.Proofs.YtmnnpgdeecnfpaaGreat
open Go Go.RowKit

section
attribute [local irreducible] Run CondV GuardV LoadV
end

end Go.Proofs.YtmnnpgdeecnfpaaGreat

/- Names of goals with their numbers of arguments: built, compared; the clauses for one. -/
namespace Go.Proofs.YtmnnpgdeecnfpaaGreat
open Go Go.RowKit

theorem xw:Tryz.prog.underlying aY=some (.struct (Tryz.prog.fieldsOf aY)):=by kernel_rfl
theorem Ak:Tryz.prog.stoodInHeld aY=false:=by kernel_rfl
theorem yA:Tryz.prog.eqGuardType Tryz.prog.depth aY=false:=by kernel_rfl
theorem gx {P:Program} {w:World} {T:TypeId} {cs:Array Value} {off:Nat} {v:Value} (h:isSc P T=true) (hx:cs[off]?=some v):(part T cs off).run P w=.ok v w:=by
 simp [part,(isSc_true (w:=w) h).1,hx]
theorem Dk {w:World} (s s':ByteArray) (n n':Int) :
  (Op.equalIn 10000 aY (.agg #[.string s,.int .i64 n]) (.agg #[.string s',.int .i64 n'])).run Tryz.prog w=.ok (decide (s=s') && decide (n=n')) w:=by
 rw [show (10000:Nat)=9999+1 from rfl,run_equalIn_struct w 9999 aY _ _ xw Ak]
 have hf:(Tryz.prog.fieldsOf aY).toList=[(Tryz.prog.fieldsOf aY)[0]!,(Tryz.prog.fieldsOf aY)[1]!]:=by kernel_rfl
 have h0:((Tryz.prog.fieldsOf aY)[0]!).type=cn:=by kernel_rfl
 have h1:((Tryz.prog.fieldsOf aY)[1]!).type=aV:=by kernel_rfl
 have o0:((Tryz.prog.fieldsOf aY)[0]!).offset=0:=by kernel_rfl
 have o1:((Tryz.prog.fieldsOf aY)[1]!).offset=1:=by kernel_rfl
 have n0:((Tryz.prog.fieldsOf aY)[0]!).name≠"_" := by decide +kernel
 have n1:((Tryz.prog.fieldsOf aY)[1]!).name≠"_" := by decide +kernel
 rw [hf]
 have e0:(Op.equalIn (9998+1) cn (.string s) (.string s')).run Tryz.prog w=.ok (decide (s=s')) w:=by
  rw [run_equalIn_string w 9998 cn s s' ar,bytes_eq]
 have e1:(Op.equalIn (9998+1) aV (.int .i64 n) (.int .i64 n')).run Tryz.prog w=.ok (decide (n=n')) w:=by
  rw [run_equalIn_int w 9998 aV .i64 .i64 n n' db]; rfl
 rw [show (9999:Nat)=9998+1 from rfl]
 generalize hg0:(Tryz.prog.fieldsOf aY)[0]! = g0 at *
 generalize hg1:(Tryz.prog.fieldsOf aY)[1]! = g1 at *
 simp only [Op.eqFields,n0,n1,ne_eq,not_false_eq_true,if_true,Sem.run_bind,h0,h1,o0,o1]
 rw [gx ay (v:=.string s) rfl,Result.andThen_ok,gx ay (v:=.string s') rfl,Result.andThen_ok,e0,Result.andThen_ok]
 cases decide (s=s') with
 | false=>rfl
 | true=>
  simp only [Bool.not_true,Bool.false_eq_true,if_false,Sem.run_bind]
  rw [gx aC (v:=.int .i64 n) rfl,Result.andThen_ok,gx aC (v:=.int .i64 n') rfl,Result.andThen_ok,e1,Result.andThen_ok]
  cases decide (n=n') with
  | false=>rfl
  | true=>rfl
section
variable {w:World} {K:Value->World->Prop}
attribute [local irreducible] Run
theorem Dr {cx cy:Bool} {s s':ByteArray} {n n':Int} :
  (sBin .eql aY cx cy (.agg #[.string s,.int .i64 n]) (.agg #[.string s',.int .i64 n'])).run Tryz.prog w=.ok (.value (.bool (decide (s=s') && decide (n=n')))) w:=by
 unfold sBin
 rw [Sem.run_bind,run_eqGuard_agg w .eql aY _ _ _ _ yA,Result.andThen_ok,Sem.run_bind,run_eql_struct,Dk,Result.andThen_ok,Result.andThen_ok]
 rfl
theorem vE {s:ByteArray} {n:Int}:(sBuild aY [(0,.string s),(1,.int .i64 n)]).run Tryz.prog w=.ok (.value (.agg #[.string s,.int .i64 n])) w:=by
 unfold sBuild
 rw [Sem.run_bind,run_build w aY _ #[.string s,.int .i64 n] (by kernel_rfl),Result.andThen_ok]
 rfl
theorem Fk {cx cy:Bool} {s s':ByteArray} {n n':Int} (hk:K (.bool (decide (s=s') && decide (n=n'))) w):Run Tryz.prog (sBin .eql aY cx cy (.agg #[.string s,.int .i64 n]) (.agg #[.string s',.int .i64 n'])) w K:=
 Run.of Dr hk
theorem yF {s:ByteArray} {n:Int} (hk:K (.agg #[.string s,.int .i64 n]) w):Run Tryz.prog (sBuild aY [(0,.string s),(1,.int .i64 n)]) w K:=
 Run.of vE hk
end

attribute [local irreducible] Run CondV GuardV LoadV
structure Pd where
 name:ByteArray
 arity:Int
deriving DecidableEq
def Pd.cells (x:Pd):List Value:=[.string x.name,.int .i64 x.arity]
def bA (t:T):Pd:=⟨t.name,t.kids.length⟩
def kY (x y:Pd):Bool:=decide (x.name=y.name) && decide (x.arity=y.arity)
theorem ei {t:T} {S:Store} {cs:List Value} (h:RdT S cs t):Pure Tryz.prog Dq [.agg cs.toArray] S (.agg (bA t).cells.toArray):=by
 intro w hI
 obtain ⟨kv,rfl,_,_,hs,hks⟩:=RdT.iff.1 h
 obtain ⟨k,n,s,ks⟩:=t
 simp only [T.name,T.kids,T.kind,T.n] at hs hks ⊢
 refine wI ?_
 unfold ww
 refine r_box hI fun b1 w' hI=>?_
 refine r_alloc hI DJ fun b2 w' hI=>?_
 refine r_fieldL hI 0 rfl aF ay rfl ?_
 refine r_fieldL hI 0 rfl aq al rfl ?_
 refine r_lenSl hks aj ?_
 refine yF ?_
 refine ao hI 1 rfl tN rfl rfl (by simp [Value.oneCell']) fun w' hI=>?_
 refine loadV_W hI 1 tN rfl rfl ?_
 exact done hI rfl
def cH (f:C->Bool):List C->Nat->List Int
 | [],_=>[]
 | c::cs,k=>if f c=true then (k:Int)::cH f cs (k+1) else cH f cs (k+1)
theorem mN (f:C->Bool):∀ (p:List C) (k:Nat) (n:Int),n∈cH f p k->∃ i:Nat,(k:Int)<=n/\n=k+i/\∃ h:i<p.length,f p[i]=true
 | [],k,n,h=>by simp [cH] at h
 | c::cs,k,n,h=>by
  have hrec:n∈cH f cs (k+1)->∃ i:Nat,(k:Int)<=n/\n=k+i/\∃ h:i<(c::cs).length,f (c::cs)[i]=true:=by
   intro h
   obtain ⟨i,h1,h2,h3,h4⟩:=mN f cs (k+1) n h
   exact ⟨i+1,by omega,by omega,by simpa using h3,by simpa using h4⟩
  rw [cH] at h
  split at h
  ·rcases List.mem_cons.1 h with rfl|h
   ·exact ⟨0,by omega,by omega,by simp,by simpa using ‹f c=true›⟩
   ·exact hrec h
  ·exact hrec h
theorem kK (f:C->Bool):∀ (p:List C) (k:Nat),(cH f p k).length<=p.length
 | [],k=>by simp [cH]
 | c::cs,k=>by
  have:=kK f cs (k+1)
  rw [cH]
  split <;> simp <;> omega

end Go.Proofs.YtmnnpgdeecnfpaaGreat

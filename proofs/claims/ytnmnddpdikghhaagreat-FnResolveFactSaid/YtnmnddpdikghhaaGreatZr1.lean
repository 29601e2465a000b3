/- Goals, clauses, programs, queries: which are valid, on both sides. -/
import Derived.Test.YtnmnddpdikghhaaGreatZr0
import Derived.Test.YtnmnddpdikghhaaGreatRows
import Derived.ProofKit
import Derived.ReadAgain
import Derived.Carry
import Derived.Test.YtnmnddpdikghhaaGreatZrS
import Derived.Test.YtnmnddpdikghhaaGreatZrF
import Derived.Test.YtnmnddpdikghhaaGreatZrh1
import Derived.Laws.BytesArg
import Derived.Laws.StructEq
import Derived.Laws.Tables
namespace Go.Proofs.YtnmnddpdikghhaaGreat
open Go Go.RowKit
section
variable {P:Program} {w:World} {K:Value->World->Prop} {ty:TypeId}
theorem ad {b:Bool} {A B:Prop} (h:B):ai undef b A B:=by unfold ai; exact h
theorem al {v u:Value} (hk:K v w):Run P (sOp (.pick (.const (.bool true)) (.const v) (.const u)) ty) w K:=qo hk
theorem aj {v u:Value} (hk:K u w):Run P (sOp (.pick (.const (.bool false)) (.const v) (.const u)) ty) w K:=qo hk
end
attribute [local irreducible] Run CondV ai a4

def zM:List ByteArray:=[⟨#[61]⟩,⟨#[92,61]⟩,⟨#[61,61]⟩,⟨#[60]⟩,⟨#[62]⟩,⟨#[61,60]⟩,⟨#[62,61]⟩,⟨#[61,58,61]⟩,⟨#[105,115]⟩]
def qG:List ByteArray:=[⟨#[116,114,117,101]⟩,⟨#[102,97,105,108]⟩]
def zh:List ByteArray:=[⟨#[118,97,114]⟩,⟨#[110,111,110,118,97,114]⟩,⟨#[97,116,111,109]⟩,⟨#[105,110,116]⟩]
def HH:List ByteArray:=[⟨#[43]⟩,⟨#[45]⟩]
def y6:List ByteArray:=[⟨#[42]⟩,⟨#[47,47]⟩,⟨#[109,111,100]⟩]
def fS (s:ByteArray) (l:List ByteArray):Bool:=l.any fun x=>decide (s=x)
def gI (s:ByteArray) (n:Int):Bool:=
 if fS s zM=true then decide (n=2)
 else if fS s qG=true then decide (n=0)
 else if fS s zh=true then decide (n=1)
 else if s=⟨#[97,114,103]⟩ then decide (n=3)
 else false
def cV (s:ByteArray):Int:=if fS s zM=true then 3 else if fS s HH=true then 2 else if fS s y6=true then 1 else 0
def FK (t:T):Bool:=decide (t.kind=3) && (decide (t.name=⟨#[33]⟩) && decide (t.kids.length=0))
def Ko (t:T):Bool:=decide (t.kind=3) && decide (t.kids.length=0)
def pU (t:T):Bool:=decide (t.kind=3) && gI t.name t.kids.length
def im (t:T):Bool:=decide (t.kind=3) && (kl t.name && (!gI t.name t.kids.length && decide (cV t.name=0)))
def fo (t:T):Bool:=d6 t && (FK t || (im t || pU t))
def bG (c:C):Bool:=decide (c.body.length<=6) && (c.body.all fo && (d6 c.head && im c.head))
def jZ (l:List T):Bool:=decide (l.length<=6) && l.all fo
theorem I0 (s:ByteArray):(!decide (0<cV s))=decide (cV s=0):=by
 unfold cV
 split
 ·rfl
 ·split
  ·rfl
  ·split <;> rfl

theorem lh (s:ByteArray) (n:Int) (S:ay):Pure Tryz.prog zO [.string s,.int .i64 n] S (.bool (gI s n)):=by
 intro w hI
 refine qX ?_
 unfold nS
 obtain ⟨q,hq⟩:∃ q,fS s zM=q:=⟨_,rfl⟩
 have hq1:=hq
 refine ⟨fun t w'=>t=.bool q/\Inv w [] [] S w',?_,?_⟩
 ·unfold fS zM at hq
  iterate 8
   refine cK ?_
   refine a7 (fun h=>⟨by rw [List.any_cons,h] at hq; rw [h,<- hq]; rfl,hI⟩) (fun h=>?_)
   rw [List.any_cons,h,Bool.false_or] at hq
  refine cK ⟨?_,hI⟩
  rw [<- hq]; simp
 intro t _ _ _ _ _ _ _ _ _ w'
 rintro ⟨rfl,hI⟩
 refine a7 (fun h=>?_) (fun h=>?_)
 ·exact bO (done hI (by rw [gI,if_pos (hq1.trans h)]))
 have e1:gI s n=if fS s qG=true then decide (n=0) else if fS s zh=true then decide (n=1) else if s=⟨#[97,114,103]⟩ then decide (n=3) else false:=by
  rw [gI,if_neg (by rw [hq1,h]; decide)]
 clear hq hq1 h
 obtain ⟨q,hq⟩:∃ q,fS s qG=q:=⟨_,rfl⟩
 have hq1:=hq
 refine ⟨fun t w'=>t=.bool q/\Inv w [] [] S w',?_,?_⟩
 ·unfold fS qG at hq
  refine cK ?_
  refine a7 (fun h=>⟨by rw [List.any_cons,h] at hq; rw [h,<- hq]; rfl,hI⟩) (fun h=>?_)
  rw [List.any_cons,h,Bool.false_or] at hq
  refine cK ⟨?_,hI⟩
  rw [<- hq]; simp
 intro _ t _ w'
 rintro ⟨rfl,hI⟩
 refine a7 (fun h=>?_) (fun h=>?_)
 ·exact bO (done hI (by rw [e1,if_pos (hq1.trans h)]))
 rw [if_neg (by rw [hq1,h]; decide)] at e1
 clear hq hq1 h
 obtain ⟨q,hq⟩:∃ q,fS s zh=q:=⟨_,rfl⟩
 have hq1:=hq
 refine ⟨fun t w'=>t=.bool q/\Inv w [] [] S w',?_,?_⟩
 ·unfold fS zh at hq
  iterate 3
   refine cK ?_
   refine a7 (fun h=>⟨by rw [List.any_cons,h] at hq; rw [h,<- hq]; rfl,hI⟩) (fun h=>?_)
   rw [List.any_cons,h,Bool.false_or] at hq
  refine cK ⟨?_,hI⟩
  rw [<- hq]; simp
 intro _ _ _ t _ w'
 rintro ⟨rfl,hI⟩
 refine a7 (fun h=>?_) (fun h=>?_)
 ·exact bO (done hI (by rw [e1,if_pos (hq1.trans h)]))
 rw [if_neg (by rw [hq1,h]; decide)] at e1
 refine cK ?_
 refine bF (fun h=>?_) (fun h=>?_)
 ·exact bO (done hI (by rw [e1,if_pos h]))
 ·exact done hI (by rw [e1,if_neg h])
theorem tC (s:ByteArray) (n:Int) (S:ay):Pure Tryz.prog z3 [.string s,.int .i64 n] S (.bool (gI s n)):=by
 intro w hI
 refine qV ?_
 unfold n4
 obtain ⟨q,hq⟩:∃ q,fS s zM=q:=⟨_,rfl⟩
 have hq1:=hq
 refine ⟨fun t w'=>t=.bool q/\Inv w [] [] S w',?_,?_⟩
 ·unfold fS zM at hq
  iterate 8
   refine cK ?_
   refine a7 (fun h=>⟨by rw [List.any_cons,h] at hq; rw [h,<- hq]; rfl,hI⟩) (fun h=>?_)
   rw [List.any_cons,h,Bool.false_or] at hq
  refine cK ⟨?_,hI⟩
  rw [<- hq]; simp
 intro t _ _ _ _ _ _ _ _ _ w'
 rintro ⟨rfl,hI⟩
 refine a7 (fun h=>?_) (fun h=>?_)
 ·exact bO (done hI (by rw [gI,if_pos (hq1.trans h)]))
 have e1:gI s n=if fS s qG=true then decide (n=0) else if fS s zh=true then decide (n=1) else if s=⟨#[97,114,103]⟩ then decide (n=3) else false:=by
  rw [gI,if_neg (by rw [hq1,h]; decide)]
 clear hq hq1 h
 obtain ⟨q,hq⟩:∃ q,fS s qG=q:=⟨_,rfl⟩
 have hq1:=hq
 refine ⟨fun t w'=>t=.bool q/\Inv w [] [] S w',?_,?_⟩
 ·unfold fS qG at hq
  refine cK ?_
  refine a7 (fun h=>⟨by rw [List.any_cons,h] at hq; rw [h,<- hq]; rfl,hI⟩) (fun h=>?_)
  rw [List.any_cons,h,Bool.false_or] at hq
  refine cK ⟨?_,hI⟩
  rw [<- hq]; simp
 intro _ t _ w'
 rintro ⟨rfl,hI⟩
 refine a7 (fun h=>?_) (fun h=>?_)
 ·exact bO (done hI (by rw [e1,if_pos (hq1.trans h)]))
 rw [if_neg (by rw [hq1,h]; decide)] at e1
 clear hq hq1 h
 obtain ⟨q,hq⟩:∃ q,fS s zh=q:=⟨_,rfl⟩
 have hq1:=hq
 refine ⟨fun t w'=>t=.bool q/\Inv w [] [] S w',?_,?_⟩
 ·unfold fS zh at hq
  iterate 3
   refine cK ?_
   refine a7 (fun h=>⟨by rw [List.any_cons,h] at hq; rw [h,<- hq]; rfl,hI⟩) (fun h=>?_)
   rw [List.any_cons,h,Bool.false_or] at hq
  refine cK ⟨?_,hI⟩
  rw [<- hq]; simp
 intro _ _ _ t _ w'
 rintro ⟨rfl,hI⟩
 refine a7 (fun h=>?_) (fun h=>?_)
 ·exact bO (done hI (by rw [e1,if_pos (hq1.trans h)]))
 rw [if_neg (by rw [hq1,h]; decide)] at e1
 refine cK ?_
 refine bF (fun h=>?_) (fun h=>?_)
 ·exact bO (done hI (by rw [e1,if_pos h]))
 ·exact done hI (by rw [e1,if_neg h])

theorem ek (s:ByteArray) (S:ay):Pure Tryz.prog Dz [.string s] S (.int .i64 (cV s)):=by
 intro w hI
 refine xk ?_
 unfold q9
 obtain ⟨q,hq⟩:∃ q,fS s zM=q:=⟨_,rfl⟩
 have hq1:=hq
 refine ⟨fun t w'=>t=.bool q/\Inv w [] [] S w',?_,?_⟩
 ·unfold fS zM at hq
  iterate 8
   refine cK ?_
   refine a7 (fun h=>⟨by rw [List.any_cons,h] at hq; rw [h,<- hq]; rfl,hI⟩) (fun h=>?_)
   rw [List.any_cons,h,Bool.false_or] at hq
  refine cK ⟨?_,hI⟩
  rw [<- hq]; simp
 intro _ _ _ _ _ _ _ _ t _ w'
 rintro ⟨rfl,hI⟩
 refine a7 (fun h=>?_) (fun h=>?_)
 ·exact done hI (by rw [show cV s=3 from if_pos (hq1.trans h)] <;> rfl)
 have e1:cV s=if fS s HH=true then 2 else if fS s y6=true then 1 else 0:=by
  rw [cV,if_neg (by rw [hq1,h]; decide)]
 clear hq hq1 h
 obtain ⟨q,hq⟩:∃ q,fS s HH=q:=⟨_,rfl⟩
 have hq1:=hq
 refine ⟨fun t w'=>t=.bool q/\Inv w [] [] S w',?_,?_⟩
 ·unfold fS HH at hq
  refine cK ?_
  refine a7 (fun h=>⟨by rw [List.any_cons,h] at hq; rw [h,<- hq]; rfl,hI⟩) (fun h=>?_)
  rw [List.any_cons,h,Bool.false_or] at hq
  refine cK ⟨?_,hI⟩
  rw [<- hq]; simp
 intro _ t _ w'
 rintro ⟨rfl,hI⟩
 refine a7 (fun h=>?_) (fun h=>?_)
 ·exact done hI (by rw [show cV s=2 from e1.trans (if_pos (hq1.trans h))] <;> rfl)
 rw [if_neg (by rw [hq1,h]; decide)] at e1
 clear hq hq1 h
 obtain ⟨q,hq⟩:∃ q,fS s y6=q:=⟨_,rfl⟩
 have hq1:=hq
 refine ⟨fun t w'=>t=.bool q/\Inv w [] [] S w',?_,?_⟩
 ·unfold fS y6 at hq
  iterate 2
   refine cK ?_
   refine a7 (fun h=>⟨by rw [List.any_cons,h] at hq; rw [h,<- hq]; rfl,hI⟩) (fun h=>?_)
   rw [List.any_cons,h,Bool.false_or] at hq
  refine cK ⟨?_,hI⟩
  rw [<- hq]; simp
 intro _ _ t _ w'
 rintro ⟨rfl,hI⟩
 refine a7 (fun h=>?_) (fun h=>?_)
 ·exact done hI (by rw [show cV s=1 from e1.trans (if_pos (hq1.trans h))] <;> rfl)
 ·exact done hI (by rw [show cV s=0 from e1.trans (if_neg (by rw [hq1,h]; decide))] <;> rfl)
theorem wy (s:ByteArray) (S:ay):Pure Tryz.prog EF [.string s] S (.tuple #[.int .i64 (cV s),.bool (decide (cV s=1) || decide (cV s=2))]):=by
 intro w hI
 refine wq ?_
 unfold sj
 obtain ⟨q,hq⟩:∃ q,fS s zM=q:=⟨_,rfl⟩
 have hq1:=hq
 refine ⟨fun t w'=>t=.bool q/\Inv w [] [] S w',?_,?_⟩
 ·unfold fS zM at hq
  iterate 8
   refine cK ?_
   refine a7 (fun h=>⟨by rw [List.any_cons,h] at hq; rw [h,<- hq]; rfl,hI⟩) (fun h=>?_)
   rw [List.any_cons,h,Bool.false_or] at hq
  refine cK ⟨?_,hI⟩
  rw [<- hq]; simp
 intro _ _ _ _ _ _ _ _ t _ w'
 rintro ⟨rfl,hI⟩
 refine a7 (fun h=>?_) (fun h=>?_)
 ·exact done hI (by rw [show cV s=3 from if_pos (hq1.trans h)] <;> rfl)
 have e1:cV s=if fS s HH=true then 2 else if fS s y6=true then 1 else 0:=by
  rw [cV,if_neg (by rw [hq1,h]; decide)]
 clear hq hq1 h
 obtain ⟨q,hq⟩:∃ q,fS s HH=q:=⟨_,rfl⟩
 have hq1:=hq
 refine ⟨fun t w'=>t=.bool q/\Inv w [] [] S w',?_,?_⟩
 ·unfold fS HH at hq
  refine cK ?_
  refine a7 (fun h=>⟨by rw [List.any_cons,h] at hq; rw [h,<- hq]; rfl,hI⟩) (fun h=>?_)
  rw [List.any_cons,h,Bool.false_or] at hq
  refine cK ⟨?_,hI⟩
  rw [<- hq]; simp
 intro _ t _ w'
 rintro ⟨rfl,hI⟩
 refine a7 (fun h=>?_) (fun h=>?_)
 ·exact done hI (by rw [show cV s=2 from e1.trans (if_pos (hq1.trans h))] <;> rfl)
 rw [if_neg (by rw [hq1,h]; decide)] at e1
 clear hq hq1 h
 obtain ⟨q,hq⟩:∃ q,fS s y6=q:=⟨_,rfl⟩
 have hq1:=hq
 refine ⟨fun t w'=>t=.bool q/\Inv w [] [] S w',?_,?_⟩
 ·unfold fS y6 at hq
  iterate 2
   refine cK ?_
   refine a7 (fun h=>⟨by rw [List.any_cons,h] at hq; rw [h,<- hq]; rfl,hI⟩) (fun h=>?_)
   rw [List.any_cons,h,Bool.false_or] at hq
  refine cK ⟨?_,hI⟩
  rw [<- hq]; simp
 intro _ _ t _ w'
 rintro ⟨rfl,hI⟩
 refine a7 (fun h=>?_) (fun h=>?_)
 ·exact done hI (by rw [show cV s=1 from e1.trans (if_pos (hq1.trans h))] <;> rfl)
 ·exact done hI (by rw [show cV s=0 from e1.trans (if_neg (by rw [hq1,h]; decide))] <;> rfl)

theorem DE {t:T} {S:ay} {cs:List Value} (h:RdT S cs t):Pure Tryz.prog Ir [.agg cs.toArray] S (.bool (FK t)):=by
 intro w hI
 obtain ⟨kv,rfl,_,_,hs,hks⟩:=RdT.iff.1 h
 obtain ⟨k,n,s,ks⟩:=t
 simp only [T.name,T.kids,T.kind,T.n] at hs hks ⊢
 refine Ag ?_
 unfold yL;dsimp only
 refine bN hI fun b1 w' hI=>?_
 refine ar hI 0 rfl bv bg rfl ?_
 refine bO ?_
 rw [show FK (.mk k n s ks)=(decide (k=3) && (decide (s=⟨#[33]⟩) && decide (ks.length=0))) from rfl]
 cases h1:decide (k=3)
 ·repeat (first|refine ae ?_|refine ah (by decide) ?_|refine ad ?_|refine al ?_|refine aj ?_)
  exact done hI rfl
 ·repeat (first|refine ae ?_|refine ah (by decide) ?_|refine ad ?_|refine al ?_|refine aj ?_)
  refine ar hI 0 rfl bH bz rfl ?_
  refine cK ?_
  cases h2:decide (s=⟨#[33]⟩)
  ·repeat (first|refine ae ?_|refine ah (by decide) ?_|refine ad ?_|refine al ?_|refine aj ?_)
   exact done hI rfl
  ·repeat (first|refine ae ?_|refine ah (by decide) ?_|refine ad ?_|refine al ?_|refine aj ?_)
   refine ar hI 0 rfl aP aL rfl ?_
   refine bm hks aG ?_
   refine bO ?_
   repeat (first|refine ae ?_|refine ah (by decide) ?_|refine ad ?_|refine al ?_|refine aj ?_)
   exact done hI (by simp)

theorem kO {t:T} {S:ay} {cs:List Value} (h:RdT S cs t):Pure Tryz.prog Es [.agg cs.toArray] S (.bool (im t)):=by
 intro w hI
 obtain ⟨kv,rfl,_,_,hs,hks⟩:=RdT.iff.1 h
 obtain ⟨k,n,s,ks⟩:=t
 simp only [T.name,T.kids,T.kind,T.n] at hs hks ⊢
 refine wY ?_
 unfold sW;dsimp only
 refine bN hI fun b1 w' hI=>?_
 refine ar hI 0 rfl bv bg rfl ?_
 refine bO ?_
 rw [show im (.mk k n s ks)=(decide (k=3) && (kl s && (!gI s ks.length && decide (cV s=0)))) from rfl]
 cases h1:decide (k=3)
 ·repeat (first|refine ae ?_|refine ah (by decide) ?_|refine ad ?_|refine al ?_|refine aj ?_)
  exact done hI rfl
 ·repeat (first|refine ae ?_|refine ah (by decide) ?_|refine ad ?_|refine al ?_|refine aj ?_)
  refine ar hI 0 rfl bH bz rfl ?_
  refine Run.callPure vr vP hI (qS s hs S) fun w' hI=>?_
  cases h2:kl s
  ·repeat (first|refine ae ?_|refine ah (by decide) ?_|refine ad ?_|refine al ?_|refine aj ?_)
   exact done hI rfl
  ·repeat (first|refine ae ?_|refine ah (by decide) ?_|refine ad ?_|refine al ?_|refine aj ?_)
   refine ar hI 0 rfl bH bz rfl ?_
   refine ar hI 0 rfl aP aL rfl ?_
   refine bm hks aG ?_
   refine Run.callPure nY nn hI (lh s _ S) fun w' hI=>?_
   refine cN ?_
   cases h3:gI s ks.length
   ·repeat (first|refine ae ?_|refine ah (by decide) ?_|refine ad ?_|refine al ?_|refine aj ?_)
    refine ar hI 0 rfl bH bz rfl ?_
    refine Run.callPure fG fK hI (ek s S) fun w' hI=>?_
    refine bO ?_
    repeat (first|refine ae ?_|refine ah (by decide) ?_|refine ad ?_|refine al ?_|refine aj ?_)
    exact done hI rfl
   ·repeat (first|refine ae ?_|refine ah (by decide) ?_|refine ad ?_|refine al ?_|refine aj ?_)
    exact done hI rfl

theorem Db {t:T} {S:ay} {cs:List Value} (h:RdT S cs t):Pure Tryz.prog FT [.agg cs.toArray] S (.bool (FK t || (im t || pU t))):=by
 intro w hI
 have h0:=h
 obtain ⟨kv,rfl,_,_,hs,hks⟩:=RdT.iff.1 h
 obtain ⟨k,n,s,ks⟩:=t
 simp only [T.name,T.kids,T.kind,T.n] at h0 hs hks ⊢
 refine yk ?_
 unfold uY;dsimp only
 refine bN hI fun b1 w' hI=>?_
 refine aO hI 0 ag rfl rfl ?_
 refine Run.callPure Hf Hk hI (DE h0) fun w' hI=>?_
 cases h1:FK (.mk k n s ks)
 ·repeat (first|refine ae ?_|refine ah (by decide) ?_|refine ad ?_|refine al ?_|refine aj ?_)
  refine aO hI 0 ag rfl rfl ?_
  refine Run.callPure lS l3 hI (kO h0) fun w' hI=>?_
  cases h2:im (.mk k n s ks)
  ·repeat (first|refine ae ?_|refine ah (by decide) ?_|refine ad ?_|refine al ?_|refine aj ?_)
   refine ar hI 0 rfl bv bg rfl ?_
   refine bO ?_
   rw [show pU (.mk k n s ks)=(decide (k=3) && gI s ks.length) from rfl]
   cases h3:decide (k=3)
   ·repeat (first|refine ae ?_|refine ah (by decide) ?_|refine ad ?_|refine al ?_|refine aj ?_)
    exact done hI rfl
   ·repeat (first|refine ae ?_|refine ah (by decide) ?_|refine ad ?_|refine al ?_|refine aj ?_)
    refine ar hI 0 rfl bH bz rfl ?_
    refine ar hI 0 rfl aP aL rfl ?_
    refine bm hks aG ?_
    refine Run.callPure nY nn hI (lh s _ S) fun w' hI=>?_
    repeat (first|refine ae ?_|refine ah (by decide) ?_|refine ad ?_|refine al ?_|refine aj ?_)
    exact done hI rfl
  ·repeat (first|refine ae ?_|refine ah (by decide) ?_|refine ad ?_|refine al ?_|refine aj ?_)
   exact done hI rfl
 ·repeat (first|refine ae ?_|refine ah (by decide) ?_|refine ad ?_|refine al ?_|refine aj ?_)
  exact done hI rfl

theorem HL {t:T} (h:wT t<=1048576):dQ t<=4611686018427387904:=by
 have:=JE t
 omega
theorem lc {t:T} {S:ay} {cs:List Value} (h:RdT S cs t) (hc:wT t<=1048576):Pure Tryz.prog AK [.agg cs.toArray] S (.bool (fo t)):=by
 intro w hI
 have hl:=h.length
 refine rp ?_
 unfold ow
 refine bN hI fun b1 w' hI=>?_
 refine aO hI 0 ag rfl (by simpa [Value.cells] using hl) ?_
 refine Run.callPure ob nC hI (lx h (HL hc)) fun w' hI=>?_
 rw [fo]
 cases h1:d6 t
 ·repeat (first|refine ae ?_|refine ah (by decide) ?_|refine ad ?_|refine al ?_|refine aj ?_)
  exact done hI rfl
 ·repeat (first|refine ae ?_|refine ah (by decide) ?_|refine ad ?_|refine al ?_|refine aj ?_)
  refine aO hI 0 ag rfl (by simpa [Value.cells] using hl) ?_
  refine Run.callPure DD Fd hI (Db h) fun w' hI=>?_
  repeat (first|refine ae ?_|refine ah (by decide) ?_|refine ad ?_|refine al ?_|refine aj ?_)
  exact done hI rfl


theorem kf {ts:List T} {t:T} (h:t∈ts):wT t<=wL ts:=by
 induction ts with
 | nil=>simp at h
 | cons u us ih=>
  rw [wL]
  rcases List.mem_cons.1 h with rfl|h
  ·omega
  ·have:=ih h; omega
/- the loop of a list of goals, whatever comes behind it -/
theorem fH {c:C} {S:ay} {cs:List Value} (h:RdC S cs c) (hc:wC c<=1048576):Pure Tryz.prog wa [.agg cs.toArray] S (.bool (bG c)):=by
 intro w hI
 obtain ⟨hd,ks,rfl,h1,h2⟩:=h
 have h1':=h1
 obtain ⟨kv,rfl,g1,g2,g3,g4⟩:=RdT.iff.1 h1
 have hlen:=h2.le
 simp only [maxLen] at hlen
 unfold wC at hc
 refine o4 ?_
 unfold ly;dsimp only
 refine bN hI fun b1 w' hI=>?_
 refine ⟨fun i w'=>∃ k:Nat,k<=c.body.length/\k<=7/\i=.int .i64 k/\(∀ j (h:j<c.body.length),j<k->fo c.body[j]=true)/\Inv w [] [.blk b1 (.cells #[.int .i64 c.head.kind,.int .i64 c.head.n,.string c.head.name,kv,ks] ac)] S w',
  fun i _=>c.body.length - (intOf i).toNat,⟨0,Nat.zero_le _,by omega,rfl,fun j _ h=>by omega,hI⟩,?_⟩
 intro t3 _ _ _ _ _ _ _ _ _ _ _ _ _ _ _ _ _ _ _ w'
 rintro ⟨k,hk,hk7,rfl,hrel,hI⟩
 refine ⟨fun t w'=>t=.bool (decide (k<c.body.length/\k<=6))/\Inv w [] [.blk b1 (.cells #[.int .i64 c.head.kind,.int .i64 c.head.n,.string c.head.name,kv,ks] ac)] S w',?_,?_⟩
 ·refine ar hI 0 rfl bl aL rfl ?_
  refine bm h2 aG ?_
  refine cF ?_
  by_cases hki:(k:Int)<c.body.length
  ·rw [decide_eq_true hki]
   repeat (first|refine ae ?_|refine ah (by decide) ?_|refine ad ?_|refine al ?_|refine aj ?_)
   refine gO ?_
   repeat (first|refine ae ?_|refine ah (by decide) ?_|refine ad ?_|refine al ?_|refine aj ?_)
   refine ⟨?_,hI⟩
   congr 1
   rw [Bool.eq_iff_iff]; simp; omega
  ·rw [decide_eq_false hki]
   repeat (first|refine ae ?_|refine ah (by decide) ?_|refine ad ?_|refine al ?_|refine aj ?_)
   exact ⟨by rw [decide_eq_false (by omega)],hI⟩
 intro t _ _ _ _ _ _ _ _ w'
 rintro ⟨rfl,hI⟩
 refine bF (fun hki=>?_) (fun hki=>?_)
 ·obtain ⟨hk',hk6⟩:=hki
  refine ar hI 0 rfl bl aL rfl ?_
  refine dN hI h2 aG ag hk' (fun _ _=>RdT.length) fun cs' hcs'=>?_
  have hwm:=kf (List.getElem_mem hk')
  refine Run.callPure mT mU hI (lc hcs' (by omega)) fun w' hI=>?_
  refine cN ?_
  refine a7 (fun hb=>done hI ?_) (fun hb=>?_)
  ·have hb':fo c.body[k]=false:=by simpa using hb
   have:c.body.all fo=false:=by
    rw [<- Bool.not_eq_true,List.all_eq_true]
    intro hall
    rw [hall _ (List.getElem_mem hk')] at hb'
    cases hb'
   rw [bG,this]
   simp
  ·have hb':fo c.body[k]=true:=by simpa using hb
   refine bR (by omega) ?_
   refine ⟨⟨k+1,hk',by omega,rfl,fun j hj hjk=>?_,hI⟩,by simp [intOf]; omega⟩
   by_cases e:j=k
   ·subst e; exact hb'
   ·exact hrel j hj (by omega)
 ·refine ar hI 0 rfl bl aL rfl ?_
  refine bm h2 aG ?_
  refine gO ?_
  rw [bG]
  by_cases hle:c.body.length<=6
  ·have hall:c.body.all fo=true:=by
    rw [List.all_eq_true]
    intro x hx
    obtain ⟨j,hj,rfl⟩:=List.getElem_of_mem hx
    exact hrel j hj (by omega)
   rw [decide_eq_true (show (c.body.length:Int)<=6 by omega),decide_eq_true hle,hall]
   repeat (first|refine ae ?_|refine ah (by decide) ?_|refine ad ?_|refine al ?_|refine aj ?_)
   refine bj bQ ?_
   refine cY hI 0 [.int .i64 c.head.kind,.int .i64 c.head.n,.string c.head.name,kv] ag rfl rfl ?_ ?_
   ·intro j v hj
    match j with
    | 0|1|2|3=>exact hj
    | j+4=>simp at hj
   refine Run.callPure ob nC hI (lx h1' (HL (by omega))) fun w' hI=>?_
   cases hv:d6 c.head
   ·repeat (first|refine ae ?_|refine ah (by decide) ?_|refine ad ?_|refine al ?_|refine aj ?_)
    exact done hI rfl
   ·repeat (first|refine ae ?_|refine ah (by decide) ?_|refine ad ?_|refine al ?_|refine aj ?_)
    refine bj bQ ?_
    refine cY hI 0 [.int .i64 c.head.kind,.int .i64 c.head.n,.string c.head.name,kv] ag rfl rfl ?_ ?_
    ·intro j v hj
     match j with
     | 0|1|2|3=>exact hj
     | j+4=>simp at hj
    refine Run.callPure lS l3 hI (kO h1') fun w' hI=>?_
    repeat (first|refine ae ?_|refine ah (by decide) ?_|refine ad ?_|refine al ?_|refine aj ?_)
    exact done hI rfl
  ·rw [decide_eq_false (show ¬ (c.body.length:Int)<=6 by omega),decide_eq_false hle]
   repeat (first|refine ae ?_|refine ah (by decide) ?_|refine ad ?_|refine al ?_|refine aj ?_)
   exact done hI rfl

theorem qj {xs:List T} {S:ay} {v:Value} (h:RdSl S 4 (RdT S) v xs) (hc:wL xs<=1048576):Pure Tryz.prog yp [v] S (.bool (jZ xs)):=by
 intro w hI
 have hlen:=h.le
 simp only [maxLen] at hlen
 refine qI ?_
 unfold mt
 refine ⟨fun i w'=>∃ k:Nat,k<=xs.length/\k<=6+1/\i=.int .i64 k/\(∀ j (h:j<xs.length),j<k->fo xs[j]=true)/\Inv w [] [] S w',
  fun i _=>xs.length - (intOf i).toNat,⟨0,Nat.zero_le _,by omega,rfl,fun j _ h=>by omega,hI⟩,?_⟩
 intro t3 _ _ _ _ _ _ _ _ _ _ _ _ _ _ _ _ _ w'
 rintro ⟨k,hk,hk7,rfl,hrel,hI⟩
 refine ⟨fun t w'=>t=.bool (decide (k<xs.length/\k<=6))/\Inv w [] [] S w',?_,?_⟩
 ·refine bm h aG ?_
  refine cF ?_
  by_cases hki:(k:Int)<xs.length
  ·rw [decide_eq_true hki]
   repeat (first|refine ae ?_|refine ah (by decide) ?_|refine ad ?_|refine al ?_|refine aj ?_)
   refine gO ?_
   repeat (first|refine ae ?_|refine ah (by decide) ?_|refine ad ?_|refine al ?_|refine aj ?_)
   refine ⟨?_,hI⟩
   congr 1
   rw [Bool.eq_iff_iff]; simp; omega
  ·rw [decide_eq_false hki]
   repeat (first|refine ae ?_|refine ah (by decide) ?_|refine ad ?_|refine al ?_|refine aj ?_)
   exact ⟨by rw [decide_eq_false (by omega)],hI⟩
 intro t _ _ _ _ _ _ _ w'
 rintro ⟨rfl,hI⟩
 refine bF (fun hki=>?_) (fun hki=>?_)
 ·obtain ⟨hk',hk6⟩:=hki
  refine dN hI h aG ag hk' (fun _ _=>RdT.length) fun cs' hcs'=>?_
  have hwm:=kf (List.getElem_mem hk')
  refine Run.callPure mT mU hI (lc hcs' (by omega)) fun w' hI=>?_
  refine cN ?_
  refine a7 (fun hb=>done hI ?_) (fun hb=>?_)
  ·have hb':fo xs[k]=false:=by simpa using hb
   have:xs.all fo=false:=by
    rw [<- Bool.not_eq_true,List.all_eq_true]
    intro hall
    rw [hall _ (List.getElem_mem hk')] at hb'
    cases hb'
   rw [jZ,this,Bool.and_false]
  ·have hb':fo xs[k]=true:=by simpa using hb
   refine bR (by omega) ?_
   refine ⟨⟨k+1,hk',by omega,rfl,fun j hj hjk=>?_,hI⟩,by simp [intOf]; omega⟩
   by_cases e:j=k
   ·subst e; exact hb'
   ·exact hrel j hj (by omega)
 ·refine bm h aG ?_
  refine gO ?_
  rw [jZ]
  refine done hI ?_
  by_cases hle:xs.length<=6
  ·have hall:xs.all fo=true:=by
    rw [List.all_eq_true]
    intro x hx
    obtain ⟨j,hj,rfl⟩:=List.getElem_of_mem hx
    exact hrel j hj (by omega)
   rw [decide_eq_true (show (xs.length:Int)<=6 by omega),decide_eq_true hle,hall]; rfl
  ·rw [decide_eq_false (show ¬ (xs.length:Int)<=6 by omega),decide_eq_false hle]; rfl
/- the program's side -/
theorem G5 (s:ByteArray) (S:ay):Pure Tryz.prog Km [.string s] S (.bool (decide (0<cV s))):=by
 intro w hI
 refine Cf ?_
 unfold Be
 refine Run.callPure C1 CP hI (wy s S) fun w' hI=>?_
 refine aT rfl ?_
 refine aT rfl ?_
 refine ff ?_
 exact done hI rfl
theorem pC {t:T} {S:ay} {cs:List Value} (h:RdT S cs t):Pure Tryz.prog EU [.agg cs.toArray] S (.bool (pU t)):=by
 intro w hI
 obtain ⟨kv,rfl,_,_,hs,hks⟩:=RdT.iff.1 h
 obtain ⟨k,n,s,ks⟩:=t
 simp only [T.name,T.kids,T.kind,T.n] at hs hks ⊢
 refine wn ?_
 unfold sP
 refine bN hI fun b1 w' hI=>?_
 refine ar hI 0 rfl bv bg rfl ?_
 refine bO ?_
 rw [show pU (.mk k n s ks)=(decide (k=3) && gI s ks.length) from rfl]
 cases h3:decide (k=3)
 ·repeat (first|refine ae ?_|refine ah (by decide) ?_|refine ad ?_|refine al ?_|refine aj ?_)
  exact done hI rfl
 ·repeat (first|refine ae ?_|refine ah (by decide) ?_|refine ad ?_|refine al ?_|refine aj ?_)
  refine ar hI 0 rfl bH bz rfl ?_
  refine ar hI 0 rfl aP aL rfl ?_
  refine bm hks aG ?_
  refine Run.callPure yS ye hI (tC s _ S) fun w' hI=>?_
  repeat (first|refine ae ?_|refine ah (by decide) ?_|refine ad ?_|refine al ?_|refine aj ?_)
  exact done hI rfl
theorem kJ {t:T} {S:ay} {cs:List Value} (h:RdT S cs t):Pure Tryz.prog Ff [.agg cs.toArray] S (.bool (im t)):=by
 intro w hI
 have h0:=h
 obtain ⟨kv,rfl,_,_,hs,hks⟩:=RdT.iff.1 h
 obtain ⟨k,n,s,ks⟩:=t
 simp only [T.name,T.kids,T.kind,T.n] at h0 hs hks ⊢
 refine xh ?_
 unfold sr;dsimp only
 refine bN hI fun b1 w' hI=>?_
 refine ar hI 0 rfl bv bg rfl ?_
 refine bO ?_
 have hb:pU (.mk k n s ks)=(decide (k=3) && gI s ks.length):=rfl
 rw [show im (.mk k n s ks)=(decide (k=3) && (kl s && (!gI s ks.length && decide (cV s=0)))) from rfl]
 cases h1:decide (k=3)
 ·repeat (first|refine ae ?_|refine ah (by decide) ?_|refine ad ?_|refine al ?_|refine aj ?_)
  exact done hI rfl
 ·rw [h1] at hb
  repeat (first|refine ae ?_|refine ah (by decide) ?_|refine ad ?_|refine al ?_|refine aj ?_)
  refine ar hI 0 rfl bH bz rfl ?_
  refine Run.callPure od nr hI (mz s hs S) fun w' hI=>?_
  cases h2:kl s
  ·repeat (first|refine ae ?_|refine ah (by decide) ?_|refine ad ?_|refine al ?_|refine aj ?_)
   exact done hI rfl
  ·repeat (first|refine ae ?_|refine ah (by decide) ?_|refine ad ?_|refine al ?_|refine aj ?_)
   refine ar hI 0 rfl bH bz rfl ?_
   refine Run.callPure IH Jk hI (G5 s S) fun w' hI=>?_
   refine cN ?_
   rw [I0]
   cases h3:decide (cV s=0)
   ·repeat (first|refine ae ?_|refine ah (by decide) ?_|refine ad ?_|refine al ?_|refine aj ?_)
    exact done hI (by simp)
   ·repeat (first|refine ae ?_|refine ah (by decide) ?_|refine ad ?_|refine al ?_|refine aj ?_)
    refine aO hI 0 ag rfl rfl ?_
    refine Run.callPure sq sc hI (pC h0) fun w' hI=>?_
    refine cN ?_
    repeat (first|refine ae ?_|refine ah (by decide) ?_|refine ad ?_|refine al ?_|refine aj ?_)
    exact done hI (by rw [hb]; simp)
theorem BQ {t:T} {S:ay} {cs:List Value} (h:RdT S cs t):Pure Tryz.prog F8 [.agg cs.toArray] S (.bool (Ko t)):=by
 intro w hI
 obtain ⟨kv,rfl,_,_,hs,hks⟩:=RdT.iff.1 h
 obtain ⟨k,n,s,ks⟩:=t
 simp only [T.name,T.kids,T.kind,T.n] at hs hks ⊢
 refine xT ?_
 unfold vd
 refine bN hI fun b1 w' hI=>?_
 refine ar hI 0 rfl bv bg rfl ?_
 refine bO ?_
 rw [show Ko (.mk k n s ks)=(decide (k=3) && decide (ks.length=0)) from rfl]
 cases h3:decide (k=3)
 ·repeat (first|refine ae ?_|refine ah (by decide) ?_|refine ad ?_|refine al ?_|refine aj ?_)
  exact done hI rfl
 ·repeat (first|refine ae ?_|refine ah (by decide) ?_|refine ad ?_|refine al ?_|refine aj ?_)
  refine ar hI 0 rfl aP aL rfl ?_
  refine bm hks aG ?_
  refine bO ?_
  repeat (first|refine ae ?_|refine ah (by decide) ?_|refine ad ?_|refine al ?_|refine aj ?_)
  exact done hI (by simp)
theorem Fh {t:T} {S:ay} {cs:List Value} (h:RdT S cs t):Pure Tryz.prog IA [.agg cs.toArray] S (.bool (FK t)):=by
 intro w hI
 have h0:=h
 obtain ⟨kv,rfl,_,_,hs,hks⟩:=RdT.iff.1 h
 obtain ⟨k,n,s,ks⟩:=t
 simp only [T.name,T.kids,T.kind,T.n] at h0 hs hks ⊢
 refine z2 ?_
 unfold y7
 refine bN hI fun b1 w' hI=>?_
 refine aO hI 0 ag rfl rfl ?_
 refine Run.callPure EK DS hI (BQ h0) fun w' hI=>?_
 rw [show FK (.mk k n s ks)=(decide (k=3) && (decide (s=⟨#[33]⟩) && decide (ks.length=0))) from rfl]
 cases h1:Ko (.mk k n s ks)
 ·repeat (first|refine ae ?_|refine ah (by decide) ?_|refine ad ?_|refine al ?_|refine aj ?_)
  refine done hI ?_
  replace h1:(decide (k=3) && decide (ks.length=0))=false:=h1
  cases h2:decide (k=3)
  ·rfl
  ·rw [h2,Bool.true_and] at h1
   rw [h1,Bool.and_false]; rfl
 ·repeat (first|refine ae ?_|refine ah (by decide) ?_|refine ad ?_|refine al ?_|refine aj ?_)
  refine ar hI 0 rfl bH bz rfl ?_
  refine cK ?_
  repeat (first|refine ae ?_|refine ah (by decide) ?_|refine ad ?_|refine al ?_|refine aj ?_)
  refine done hI ?_
  replace h1:(decide (k=3) && decide (ks.length=0))=true:=h1
  rw [Bool.and_eq_true] at h1
  rw [h1.1,h1.2]; simp
theorem tN {t:T} {S:ay} {cs:List Value} (h:RdT S cs t):Pure Tryz.prog z7 [.agg cs.toArray] S (.bool (fo t)):=by
 intro w hI
 have hl:=h.length
 refine ra ?_
 unfold oh
 refine bN hI fun b1 w' hI=>?_
 refine aO hI 0 ag rfl (by simpa [Value.cells] using hl) ?_
 refine Run.callPure hZ ik hI (gt h) fun w' hI=>?_
 rw [fo]
 cases h1:d6 t
 ·repeat (first|refine ae ?_|refine ah (by decide) ?_|refine ad ?_|refine al ?_|refine aj ?_)
  exact done hI rfl
 ·repeat (first|refine ae ?_|refine ah (by decide) ?_|refine ad ?_|refine al ?_|refine aj ?_)
  refine aO hI 0 ag rfl (by simpa [Value.cells] using hl) ?_
  refine Run.callPure lV mc hI (kJ h) fun w' hI=>?_
  cases h2:im t
  ·repeat (first|refine ae ?_|refine ah (by decide) ?_|refine ad ?_|refine al ?_|refine aj ?_)
   refine aO hI 0 ag rfl (by simpa [Value.cells] using hl) ?_
   refine Run.callPure sq sc hI (pC h) fun w' hI=>?_
   cases h3:pU t
   ·repeat (first|refine ae ?_|refine ah (by decide) ?_|refine ad ?_|refine al ?_|refine aj ?_)
    refine aO hI 0 ag rfl (by simpa [Value.cells] using hl) ?_
    refine Run.callPure GE Hr hI (Fh h) fun w' hI=>?_
    repeat (first|refine ae ?_|refine ah (by decide) ?_|refine ad ?_|refine al ?_|refine aj ?_)
    exact done hI (by simp)
   ·repeat (first|refine ae ?_|refine ah (by decide) ?_|refine ad ?_|refine al ?_|refine aj ?_)
    exact done hI (by simp)
  ·repeat (first|refine ae ?_|refine ah (by decide) ?_|refine ad ?_|refine al ?_|refine aj ?_)
   exact done hI (by simp)

theorem H5 {α:Type} (p:α->Bool):∀ xs:List α,(!xs.any fun x=>!p x)=xs.all p
 | []=>rfl
 | x::xs=>by
  rw [List.any_cons,List.all_cons,<- H5 p xs]
  cases p x <;> simp

theorem pa {x:T} {S:ay} {cs:List Value} (h:RdT S cs x):Pure Tryz.prog lm [.agg cs.toArray] S (.bool (!fo x)):=by
 intro w hI
 have hl:=h.length
 refine oD ?_
 unfold j8
 refine bN hI fun b1 w' hI=>?_
 refine aO hI 0 ag rfl (by simpa [Value.cells] using hl) ?_
 refine Run.callPure yW xX hI (tN h) fun w' hI=>?_
 refine cN (done hI rfl)
theorem sA {xs:List T} {S:ay} {v:Value} (h:RdSl S 4 (RdT S) v xs):Pure Tryz.prog zv [v] S (.bool (jZ xs)):=by
 intro w hI
 refine p8 ?_
 unfold mB
 refine bm h aG ?_
 refine gO ?_
 rw [jZ]
 by_cases hle:xs.length<=6
 ·rw [decide_eq_true (show (xs.length:Int)<=6 by omega),decide_eq_true hle]
  repeat (first|refine ae ?_|refine ah (by decide) ?_|refine ad ?_|refine al ?_|refine aj ?_)
  have hcb:Cb Tryz.prog lm _ [] S (fun _:Unit=>[]) (fun _=>True) (fun _ x=>(!fo x,())) (fun v x=>∃ cs,v=.agg cs.toArray/\RdT S cs x) xs:=
   Cb.pure [] r7 rh fun x v _=>by
    rintro ⟨cs,rfl,hcs⟩ w1 hI
    exact (pa hcs w1 hI).mono fun e w' ⟨he,hI⟩=>⟨_,_,_,he,hI,Ext.refl _ _ _,rfl,rfl,rfl⟩
  refine Run.call0 fI fJ hI (iY hcb h (st:=()) trivial) fun v' I' S' w'=>?_
  rintro ⟨rfl,rfl,rfl⟩ _ hI
  refine cN ?_
  repeat (first|refine ae ?_|refine ah (by decide) ?_|refine ad ?_|refine al ?_|refine aj ?_)
  refine done hI ?_
  rw [oO (fun x=>!fo x) xs,H5]; rfl
 ·rw [decide_eq_false (show ¬ (xs.length:Int)<=6 by omega),decide_eq_false hle]
  repeat (first|refine ae ?_|refine ah (by decide) ?_|refine ad ?_|refine al ?_|refine aj ?_)
  exact done hI rfl
theorem eI {c:C} {S:ay} {cs:List Value} (h:RdC S cs c):Pure Tryz.prog wV [.agg cs.toArray] S (.bool (bG c)):=by
 intro w hI
 obtain ⟨hd,ks,rfl,h1,h2⟩:=h
 have h1':=h1
 obtain ⟨kv,rfl,g1,g2,g3,g4⟩:=RdT.iff.1 h1
 have hfin:bG c=(d6 c.head && (im c.head && jZ c.body)):=by
  unfold bG jZ
  cases d6 c.head <;> cases im c.head <;> simp
 refine oY ?_
 unfold kX;dsimp only
 rw [hfin]
 refine bN hI fun b1 w' hI=>?_
 refine bj bQ ?_
 refine cY hI 0 [.int .i64 c.head.kind,.int .i64 c.head.n,.string c.head.name,kv] ag rfl rfl ?_ ?_
 ·intro j v hj
  match j with
  | 0|1|2|3=>exact hj
  | j+4=>simp at hj
 refine Run.callPure hZ ik hI (gt h1') fun w' hI=>?_
 cases hv:d6 c.head
 ·repeat (first|refine ae ?_|refine ah (by decide) ?_|refine ad ?_|refine al ?_|refine aj ?_)
  exact done hI rfl
 ·repeat (first|refine ae ?_|refine ah (by decide) ?_|refine ad ?_|refine al ?_|refine aj ?_)
  refine bj bQ ?_
  refine cY hI 0 [.int .i64 c.head.kind,.int .i64 c.head.n,.string c.head.name,kv] ag rfl rfl ?_ ?_
  ·intro j v hj
   match j with
   | 0|1|2|3=>exact hj
   | j+4=>simp at hj
  refine Run.callPure lV mc hI (kJ h1') fun w' hI=>?_
  cases hp:im c.head
  ·repeat (first|refine ae ?_|refine ah (by decide) ?_|refine ad ?_|refine al ?_|refine aj ?_)
   exact done hI rfl
  ·repeat (first|refine ae ?_|refine ah (by decide) ?_|refine ad ?_|refine al ?_|refine aj ?_)
   refine ar hI 0 rfl bl aL rfl ?_
   refine Run.callPure xi we hI (sA h2) fun w' hI=>?_
   repeat (first|refine ae ?_|refine ah (by decide) ?_|refine ad ?_|refine al ?_|refine aj ?_)
   exact done hI rfl

end Go.Proofs.YtnmnddpdikghhaaGreat

/- A row of a function's own, handed to a function that only reads; rows of numbers. -/
namespace Go.Proofs.YtnmnddpdikghhaaGreat
open Go Go.RowKit
attribute [local irreducible] Run CondV ai a4

def RowRd (S:ay) (v:Value) (e:TypeId) (k n:Nat) (xs:List Value):Prop:=
 xs.length=n * k/\((v=.slice none 0 0/\n=0) ∨ ∃ g cap cur,v=.slice (some ⟨g,0,none⟩) n cap/\S g=some (.cells cur e)/\n<=cap/\cap<=maxLen/\cur.size=cap * k/\cur.toList.take (n * k)=xs)
theorem Inv.lend {w0 w:World} {X:List Nat} {A:List Item} {S:ay} {v:Value} {e:TypeId} {k n:Nat} {xs:List Value} (h:Inv w0 X (A++[.row v e k n xs]) S w) :
  ∃ S',Sle S S'/\RowRd S' v e k n xs/\Inv w0 X A S' w/\∀ B w',Inv w0 X B S' w'->Inv w0 X (B++[.row v e k n xs]) S w':=by
 have hm:w.ownsRow 0 e k v n xs:=h.its (.row v e k n xs) (by simp)
 obtain ⟨hl,hm⟩:=hm
 rcases hm with ⟨rfl,rfl⟩|⟨g,cap,cur,rfl,_,hg,hnc,hcm,hcs,ht⟩
 ·have:xs=[]:=List.eq_nil_of_length_eq_zero (by rw [hl,Nat.zero_mul])
  subst this
  exact ⟨S,Sle.refl S,⟨hl,.inl ⟨rfl,rfl⟩⟩,h.sub (List.sublist_append_left _ _),fun B w' hB=>hB.rowNil e k⟩
 ·have hf:bS (A++[Item.blk g (.cells cur e)])=bS (A++[Item.row (.slice (some ⟨g,0,none⟩) n cap) e k n xs]):=by
   simp [bS,Item.foot,Value.ownBlock]
  have hg':g∈bS (A++[Item.row (.slice (some ⟨g,0,none⟩) n cap) e k n xs]):=by simp [bS,Item.foot,Value.ownBlock]
  have h':Inv w0 X (A++[Item.blk g (.cells cur e)]) S w:=by
   refine ⟨h.size,h.os,h.tape,h.output,h.old,fun it hit=>?_,by rw [hf]; exact h.nd,by rw [hf]; exact h.new,by rw [hf]; exact h.pub⟩
   rcases List.mem_append.1 hit with hit|hit
   ·exact h.its it (List.mem_append_left _ hit)
   ·simp at hit
    subst hit
    exact hg
  obtain ⟨h1,h2⟩:=h'.publishLast
  refine ⟨la S g (.cells cur e),h2,⟨hl,.inr ⟨g,cap,cur,rfl,by simp [la],hnc,hcm,hcs,ht⟩⟩,h1,fun B w' hB=>?_⟩
  have hpg:=hB.pub g (.cells cur e) (by simp [la])
  have hfB:bS (B++[Item.row (.slice (some ⟨g,0,none⟩) n cap) e k n xs])=bS B++[g]:=by simp [bS,Item.foot,Value.ownBlock]
  refine ⟨hB.size,hB.os,hB.tape,hB.output,hB.old,fun it hit=>?_,?_,?_,?_⟩
  ·rcases List.mem_append.1 hit with hit|hit
   ·exact hB.its it hit
   ·simp at hit
    subst hit
    exact ⟨hl,.inr ⟨g,cap,cur,rfl,Nat.zero_le _,hpg.1,hnc,hcm,hcs,ht⟩⟩
  ·rw [hfB,List.nodup_append]
   refine ⟨hB.nd,by simp,fun a ha b hb=>?_⟩
   simp at hb
   subst hb
   intro e'
   subst e'
   exact hpg.2 ha
  ·intro c hc
   rw [hfB] at hc
   rcases List.mem_append.1 hc with hc|hc
   ·exact hB.new c hc
   ·simp at hc
    subst hc
    exact h.new _ hg'
  ·intro c o hc
   have hne:c≠g:=fun e'=>by
    subst e'
    exact (h.pub c o hc).2 hg'
   have:=hB.pub c o (by simp only [la]; rw [if_neg hne]; exact hc)
   refine ⟨this.1,?_⟩
   rw [hfB]
   intro hc'
   rcases List.mem_append.1 hc' with hc'|hc'
   ·exact this.2 hc'
   ·simp at hc'
    exact hne hc'
theorem HQ {α:Type} (f:α->List Value) (k:Nat) (hf:∀ y,(f y).length=k):∀ (ys:List α) (i:Nat) (h:i<ys.length),((ys.flatMap f).drop (i * k)).take k=f ys[i]
 | [],i,h=>by simp at h
 | y::ys,0,h=>by
  rw [List.flatMap_cons,Nat.zero_mul,List.drop_zero,List.take_append_of_le_length (by rw [hf]; exact Nat.le_refl _),List.take_of_length_le (by rw [hf]; exact Nat.le_refl _)]
  rfl
 | y::ys,i+1,h=>by
  rw [List.flatMap_cons,Nat.succ_mul,Nat.add_comm,<- List.drop_drop,List.drop_left' (hf y)]
  exact HQ f k hf ys i (by simpa using h)
theorem RowRd.rd {α:Type} {S:ay} {v:Value} {e:TypeId} {k:Nat} {f:α->List Value} {R:List Value->α->Prop} {ys:List α} (hf:∀ y,(f y).length=k) (hR:∀ y∈ys,R (f y) y)
  (h:RowRd S v e k ys.length (ys.flatMap f)):RdSl S k R v ys:=by
 obtain ⟨hl,h⟩:=h
 rcases h with ⟨rfl,h0⟩|⟨g,cap,cur,rfl,hS,hnc,hcm,hcs,ht⟩
 ·have:ys=[]:=List.eq_nil_of_length_eq_zero h0
  subst this
  exact ⟨none,0,rfl,Nat.le_refl _,Nat.zero_le _,.inl rfl⟩
 ·refine ⟨_,cap,rfl,hnc,hcm,.inr ⟨g,0,cur,e,(0,0),rfl,hS,fun i hi=>?_⟩⟩
  have:=HQ f k hf ys i hi
  have hik:i * k+k<=ys.length * k:=by rw [<- Nat.succ_mul]; exact Nat.mul_le_mul_right k hi
  rw [<- ht,List.drop_take,List.take_take,Nat.min_eq_left (by omega)] at this
  rw [bJ,Nat.zero_add,this]
  exact hR _ (List.getElem_mem hi)

/- rows of numbers -/
def ints (ns:List Int):List Value:=ns.flatMap fun n=>[.int .i64 n]
abbrev el (v:Value) (ns:List Int):Item:=.row v dw 1 ns.length (ints ns)
theorem uD (ns:List Int) (n:Int):ints ns++[.int .i64 n]=ints (ns++[n]):=by simp [ints]
theorem RowRd.ints {S:ay} {v:Value} {e:TypeId} {ns:List Int} (h:RowRd S v e 1 ns.length (ints ns)):RdSl S 1 rT v ns:=
 RowRd.rd (f:=fun n=>[Value.int .i64 n]) (fun _=>rfl) (fun _ _=>rfl) h
def wh (l:List Int) (n:Int):Bool:=l.any fun x=>decide (n=x)
def iA (l:List Int) (n:Int):List Int:=if wh l n=true then l else l++[n]
theorem BV (l:List Int) (n:Int):(iA l n).length<=l.length+1:=by
 unfold iA
 split <;> simp

theorem mi (s:Int) {xs:List Int} {S:ay} {v:Value} (h:RdSl S 1 rT v xs) :
  Pure Tryz.prog z0 [v,.int .i64 s] S (.int .i64 (c9 (σ:=Unit) (fun _ x=>(decide (s=x),())) () xs 0).1):=by
 intro w hI
 have hlen:=h.le
 simp only [maxLen] at hlen
 refine rB ?_
 unfold ol
 refine bm h gB ?_
 refine ⟨fun i w'=>∃ k:Nat,k<=xs.length/\i=.int .i64 k/\c9 (σ:=Unit) (fun _ x=>(decide (s=x),())) () (xs.drop k) k=c9 (σ:=Unit) (fun _ x=>(decide (s=x),())) () xs 0/\Inv w [] [] S w',
  fun i _=>xs.length - (intOf i).toNat,⟨0,Nat.zero_le _,rfl,rfl,hI⟩,?_⟩
 intro t8 _ _ _ _ _ _ _ _ _ _ _ _ w'
 rintro ⟨k,hk,rfl,hrel,hI⟩
 refine cF ?_
 refine bF (fun hki=>?_) (fun hki=>?_)
 ·have hk':k<xs.length:=by omega
  rw [List.drop_eq_getElem_cons hk',c9] at hrel
  refine iX hI h gB bg hk' (fun cs hcs=>hcs) ?_
  refine bO ?_
  refine bF (fun he=>done hI ?_) (fun he=>?_)
  ·rw [<- hrel,if_pos (by simpa using he)]
  ·refine bR (by omega) ?_
   rw [if_neg (by simpa using he)] at hrel
   exact ⟨⟨k+1,hk',rfl,hrel,hI⟩,by simp [intOf]; omega⟩
 ·have:k=xs.length:=by omega
  subst this
  rw [List.drop_length,c9] at hrel
  exact done hI (by rw [<- hrel])
theorem qg (s:Int) {xs:List Int} {S:ay} {v:Value} (h:RdSl S 1 rT v xs):Pure Tryz.prog tF [v,.int .i64 s] S (.bool (wh xs s)):=by
 intro w hI
 refine nh ?_
 unfold kF
 refine Run.callPure ni nP hI (mi s h) fun w' hI=>?_
 refine kT (done hI ?_)
 rw [(lI _ xs () 0).1,oO]; rfl
end Go.Proofs.YtnmnddpdikghhaaGreat

/- The variables of terms, on both sides: lists of numbers that grow. -/
namespace Go.Proofs.YtnmnddpdikghhaaGreat
open Go Go.RowKit
attribute [local irreducible] Run CondV ai a4

mutual
def ge:T->List Int->List Int
 | .mk k n _ ks,l=>dE ks (if k=1 then iA l n else l)
def dE:List T->List Int->List Int
 | [],l=>l
 | t::ts,l=>dE ts (ge t l)
end
mutual
def ew:T->List Int->List Int
 | .mk k n _ ks,l=>if k=1 then iA l n else cW ks l
def cW:List T->List Int->List Int
 | [],l=>l
 | t::ts,l=>cW ts (ew t l)
end
mutual
theorem zC:∀ (t:T) (l:List Int),((ge t l).length:Int)<=l.length+dQ t
 | .mk k n s ks,l=>by
  rw [ge,show dQ (T.mk k n s ks)=1+cZ ks from rfl]
  have h1:=BV l n
  have:=yx ks (if k=1 then iA l n else l)
  split at this <;> rename_i hk <;> simp only [hk,if_true,if_false] at this ⊢ <;> omega
theorem yx:∀ (ts:List T) (l:List Int),((dE ts l).length:Int)<=l.length+cZ ts
 | [],l=>by simp [dE,cZ]
 | t::ts,l=>by
  rw [dE,show cZ (t::ts)=dQ t+cZ ts from rfl]
  have:=zC t l
  have:=yx ts (ge t l)
  omega
end
mutual
theorem uL:∀ (t:T) (l:List Int),((ew t l).length:Int)<=l.length+dQ t
 | .mk k n s ks,l=>by
  rw [ew,show dQ (T.mk k n s ks)=1+cZ ks from rfl]
  have h1:=BV l n
  have:=dS ks
  split
  ·omega
  ·have:=A1 ks l
   omega
theorem A1:∀ (ts:List T) (l:List Int),((cW ts l).length:Int)<=l.length+cZ ts
 | [],l=>by simp [cW,cZ]
 | t::ts,l=>by
  rw [cW,show cZ (t::ts)=dQ t+cZ ts from rfl]
  have:=uL t l
  have:=A1 ts (ew t l)
  omega
end
/- on valid terms the two are one -/
mutual
theorem EH:∀ (t:T) (d:Int) (l:List Int),eT t d=true->ew t l=ge t l
 | .mk k n s ks,d,l,h=>by
  rw [eT] at h
  split at h
  ·cases h
  ·rw [Bool.and_eq_true] at h
   rw [ew,ge]
   split
   ·rw [Ef h.1 (.inl ‹k=1›)]; rfl
   ·exact xK ks (d - 1) l h.2
theorem xK:∀ (ts:List T) (d:Int) (l:List Int),eB ts d=true->cW ts l=dE ts l
 | [],d,l,h=>rfl
 | t::ts,d,l,h=>by
  rw [eB,Bool.and_eq_true] at h
  rw [cW,dE,EH t d l h.1]
  exact xK ts d _ h.2
end
theorem ng {t:T} (h:d6 t=true):eT t 30=true:=by
 rw [d6,Bool.and_eq_true] at h
 exact h.1
abbrev HN (S:ay) (r:List Int):Value->List Item->ay->Prop:=fun v I' S'=>I'=[el v r]/\S'=S

theorem l7:∀ (t:T) (S:ay) (cs:List Value) (v:Value) (l:List Int),RdT S cs t->l.length+dQ t<=1000000000->Tri Tryz.prog G9 [v,.agg cs.toArray] [el v l] S (HN S (ew t l)):=by
 refine T.ind fun k n s ks ih S cs v l h hl=>?_
 intro w hI
 obtain ⟨kv,rfl,_,_,hs,hks⟩:=RdT.iff.1 h
 simp only [T.name,T.kids,T.kind,T.n] at hs hks ⊢
 have hlen:=hks.le
 simp only [maxLen] at hlen
 rw [show dQ (T.mk k n s ks)=1+cZ ks from rfl] at hl
 have hcp:=dS ks
 have hend:∀ {w':World} {v':Value} {b:Nat} {o:Obj} (r:List Int),Inv w (bS [el v l]) [.blk b o,el v' r] S w'->r=ew (.mk k n s ks) l->
   ∃ v'' I' S',Ending.returned v'=.returned v''/\Inv w (bS [el v l]) I' S' w'/\Ext w.heap.size (bS [el v l]) S S'/\HN S (ew (.mk k n s ks) l) v'' I' S':=by
  intro w' v' b o r h1 h2
  subst h2
  exact ⟨_,_,_,rfl,h1.pick [false,true],Ext.refl _ _ _,rfl,rfl⟩
 refine xC ?_
 unfold vN
 refine bN hI fun b3 w' hI=>?_
 have hI:=hI.perm (M:=[.blk b3 (.cells #[.int .i64 k,.int .i64 n,.string s,kv] ab),el v l]) (List.Perm.swap _ _ _)
 refine ar hI 0 rfl bv bg rfl ?_
 refine bO ?_
 refine bF (fun hk=>?_) (fun hk=>?_)
 ·have hr:iA l n=ew (.mk k n s ks) l:=by rw [ew,if_pos hk]
  obtain ⟨S1,hle,hrd,hI,hback⟩:=Inv.lend (A:=[_]) hI
  have hrd:=hrd.ints
  refine ⟨fun i w'=>∃ j:Nat,j<=l.length/\i=.int .i64 j/\wh (l.drop j) n=wh l n/\Inv w (bS [el v l]) [.blk b3 (.cells #[.int .i64 k,.int .i64 n,.string s,kv] ab)] S1 w',
   fun i _=>l.length - (intOf i).toNat,⟨0,Nat.zero_le _,rfl,rfl,hI⟩,?_⟩
  intro t5 _ _ _ _ t22 t21 t20 t19 t18 t17 t16 _ _ _ _ w'
  rintro ⟨j,hj,rfl,hrel,hI⟩
  refine bm hrd gB ?_
  refine cF ?_
  refine bF (fun hji=>?_) (fun hji=>?_)
  ·have hj':j<l.length:=by omega
   have hstep:wh (l.drop j) n=(decide (n=l[j]) || wh (l.drop (j+1)) n):=Fg _ l j hj'
   obtain ⟨b,o,cap,c,E,fz,rfl,hS,hR⟩:=hrd.at_ hj'
   refine ⟨fun D dg df cC cz ef dD dV w_=>(D 0=true->dV=.slice (some ⟨b,o,none⟩) l.length cap)/\(D 1=true->dD=.int .i64 j)/\(D 2=true->ef=.pointer (some ⟨b,o+j * 1,none⟩))/\(D 3=true->cz=.int .i64 l[j])/\(D 4=true->cC=.pointer (some ⟨b3,1,none⟩))/\(D 5=true->df=.int .i64 n)/\(D 6=true->dg=.bool (decide (l[j]=n)))/\Inv w (bS [el (.slice (some ⟨b,o,none⟩) l.length cap) l]) [.blk b3 (.cells #[.int .i64 k,.int .i64 n,.string s,kv] ab)] S1 w_,⟨af,af,af,af,af,af,af,hI.draw⟩,⟨?_,?_,?_,?_,?_,?_,?_,trivial⟩,?_⟩
   ·intro D aS  dg df cC cz ef dD dV w_
    rintro ⟨aA,az,aB,ax,aD,aC,aw,hI⟩
    exact ⟨fun _=>rfl,az,aB,ax,aD,aC,aw,hI⟩
   ·intro D aS  dg df cC cz ef dD dV w_
    rintro ⟨aA,az,aB,ax,aD,aC,aw,hI⟩
    exact ⟨aA,fun _=>rfl,aB,ax,aD,aC,aw,hI⟩
   ·intro D aS cA iz dg df cC cz ef dD dV w_
    rintro ⟨aA,az,aB,ax,aD,aC,aw,hI⟩
    obtain rfl:=aA cA
    obtain rfl:=az iz
    refine bq gB hj' ?_
    exact ⟨aA,az,fun _=>rfl,ax,aD,aC,aw,hI⟩
   ·intro D aS cM dg df cC cz ef dD dV w_
    rintro ⟨aA,az,aB,ax,aD,aC,aw,hI⟩
    obtain rfl:=aB cM
    refine eE bg (by rw [hI.cellS hS]; exact bx hR 0 _ rfl) ?_
    exact ⟨aA,az,aB,fun _=>rfl,aD,aC,aw,hI⟩
   ·intro D aS  dg df cC cz ef dD dV w_
    rintro ⟨aA,az,aB,ax,aD,aC,aw,hI⟩
    refine bj bn ?_
    exact ⟨aA,az,aB,ax,fun _=>rfl,aC,aw,hI⟩
   ·intro D aS fO dg df cC cz ef dD dV w_
    rintro ⟨aA,az,aB,ax,aD,aC,aw,hI⟩
    obtain rfl:=aD fO
    refine bB hI 0 bg rfl rfl ?_
    exact ⟨aA,az,aB,ax,aD,fun _=>rfl,aw,hI⟩
   ·intro D aS dh eF dg df cC cz ef dD dV w_
    rintro ⟨aA,az,aB,ax,aD,aC,aw,hI⟩
    obtain rfl:=ax dh
    obtain rfl:=aC eF
    refine bO ?_
    exact ⟨aA,az,aB,ax,aD,aC,fun _=>rfl,hI⟩
   intro D fj ft fL fX fM fP fY dg df cC cz ef dD dV w_
   rintro ⟨aA,az,aB,ax,aD,aC,aw,hI⟩
   obtain rfl:=aw fj
   obtain rfl:=aC ft
   obtain rfl:=aD fL
   obtain rfl:=ax fX
   obtain rfl:=aB fM
   obtain rfl:=az fP
   obtain rfl:=aA fY
   clear aA az aB ax aD aC aw
   refine bF (fun he=>?_) (fun he=>?_)
   ·refine hend l (hback _ _ hI) ?_
    rw [<- hr,iA,if_pos (by rw [<- hrel,hstep,decide_eq_true he.symm]; rfl)]
   ·refine bR (by omega) ?_
    exact ⟨⟨j+1,hj',rfl,by rw [<- hrel,hstep,decide_eq_false (fun e=>he e.symm)]; rfl,hI⟩,by simp [intOf]; omega⟩
  ·have:j=l.length:=by omega
   subst this
   have hno:wh l n=false:=by rw [<- hrel,List.drop_length]; rfl
   have hI:Inv w (bS [el v l]) [.blk b3 (.cells #[.int .i64 k,.int .i64 n,.string s,kv] ab),el v l] S _:=hback _ _ hI
   refine ar hI 0 rfl bn bg rfl ?_
   refine dJ hI lM rfl (by omega) (by omega) fun b w' hI=>?_
   refine ev hI 1 (k:=1) [.int .i64 n] lM (by omega) rfl rfl ?_ ?_ (by omega) (by omega) fun v' w' hI=>?_
   ·intro j u hj
    rw [hI.cellL (i:=2) rfl]
    match j with
    | 0=>simpa [Value.cells] using hj
    | j+1=>simp at hj
   ·simp [Value.oneCell']
   ·rw [uD] at hI
    have hI:=hI.pick [true,true,false]
    refine hend (b:=b3) (o:=.cells #[.int .i64 k,.int .i64 n,.string s,kv] ab) (l++[n]) ?_ ?_
    ·have e:Item.row v' dw 1 (l.length+1) (ints (l++[n]))=el v' (l++[n]):=by simp [el]
     exact e ▸ hI
    ·rw [<- hr,iA,if_neg (by rw [hno]; decide)]
 ·have hr:cW ks l=ew (.mk k n s ks) l:=by rw [ew,if_neg hk]
  refine ⟨fun i t w'=>∃ (j:Nat) (l':List Int),j<=ks.length/\i=.int .i64 j/\cW (ks.drop j) l'=cW ks l/\l'.length+cZ (ks.drop j)<=1000000000/\Inv w (bS [el v l]) [.blk b3 (.cells #[.int .i64 k,.int .i64 n,.string s,kv] ab),el t l'] S w',
   fun i _ _=>ks.length - (intOf i).toNat,⟨0,l,Nat.zero_le _,rfl,rfl,by rw [List.drop_zero]; omega,hI⟩,?_⟩
  intro t6 _ _ t0 _ _ _ _ _ _ _ _ _ _ _ _ w'
  rintro ⟨j,l',hj,rfl,hrel,hl',hI⟩
  refine ar hI 0 rfl aP aL rfl ?_
  refine bm hks aG ?_
  refine cF ?_
  refine bF (fun hji=>?_) (fun hji=>?_)
  ·have hj':j<ks.length:=by omega
   rw [jE ks j hj'] at hl'
   rw [List.drop_eq_getElem_cons hj',cW] at hrel
   have hc1:=dS (ks.drop (j+1))
   have hc2:=uL ks[j] l'
   refine ar hI 0 rfl aP aL rfl ?_
   refine dN hI hks aG ag hj' (fun _ _=>RdT.length) fun cs' hcs'=>?_
   refine Run.call (A:=[_]) j9 kE hI (ih _ (List.getElem_mem hj') S cs' t0 l' hcs' (by omega)) fun v' I' S' w'=>?_
   rintro ⟨rfl,rfl⟩ _ hI
   refine bR (by omega) ?_
   exact ⟨⟨j+1,_,hj',rfl,hrel,by omega,hI⟩,by simp [intOf]; omega⟩
  ·have:j=ks.length:=by omega
   subst this
   rw [List.drop_length,cW] at hrel
   exact hend l' hI (by rw [hrel,hr])

theorem Aq:∀ (t:T) (S:ay) (cs:List Value) (v:Value) (l:List Int),RdT S cs t->l.length+dQ t<=1000000000->Tri Tryz.prog Ft [.agg cs.toArray,v] [el v l] S (HN S (ge t l)):=by
 refine T.ind fun k n s ks ih S cs v l h hl=>?_
 intro w hI
 obtain ⟨kv,rfl,_,_,hs,hks⟩:=RdT.iff.1 h
 simp only [T.name,T.kids,T.kind,T.n] at hs hks ⊢
 have hlen:=hks.le
 simp only [maxLen] at hlen
 rw [show dQ (T.mk k n s ks)=1+cZ ks from rfl] at hl
 have hcp:=dS ks
 have hal:=BV l n
 refine wA ?_
 unfold rJ
 refine bN hI fun b2 w' hI=>?_
 have hI:=hI.perm (M:=[.blk b2 (.cells #[.int .i64 k,.int .i64 n,.string s,kv] ab),el v l]) (List.Perm.swap _ _ _)
 refine ⟨fun t w'=>Inv w (bS [el v l]) [.blk b2 (.cells #[.int .i64 k,.int .i64 n,.string s,kv] ab),el t (if k=1 then iA l n else l)] S w',?_,?_⟩
 ·refine ⟨fun t w'=>t=.bool (decide (k=1) && !wh l n)/\Inv w (bS [el v l]) [.blk b2 (.cells #[.int .i64 k,.int .i64 n,.string s,kv] ab),el v l] S w',?_,?_⟩
  ·refine ar hI 0 rfl bv bg rfl ?_
   refine bO ?_
   cases h1:decide (k=1)
   ·repeat (first|refine ae ?_|refine ah (by decide) ?_|refine ad ?_|refine al ?_|refine aj ?_)
    exact ⟨rfl,hI⟩
   ·repeat (first|refine ae ?_|refine ah (by decide) ?_|refine ad ?_|refine al ?_|refine aj ?_)
    refine ar hI 0 rfl bn bg rfl ?_
    obtain ⟨S1,hle,hrd,hI,hback⟩:=Inv.lend (A:=[_]) hI
    refine Run.callPure rg sa hI (qg n hrd.ints) fun w' hI=>?_
    refine cN ?_
    repeat (first|refine ae ?_|refine ah (by decide) ?_|refine ad ?_|refine al ?_|refine aj ?_)
    exact ⟨rfl,hback _ _ hI⟩
  intro t16 _ _ _ _ _ _ _ _ _ w'
  rintro ⟨rfl,hI⟩
  refine a7 (fun hb=>?_) (fun hb=>?_)
  ·simp only [Bool.and_eq_true,decide_eq_true_eq,Bool.not_eq_true'] at hb
   refine ar hI 0 rfl bn bg rfl ?_
   refine dJ hI lM rfl (by omega) (by omega) fun b w' hI=>?_
   refine ev hI 1 (k:=1) [.int .i64 n] lM (by omega) rfl rfl ?_ ?_ (by omega) (by omega) fun v' w' hI=>?_
   ·intro j u hj
    rw [hI.cellL (i:=2) rfl]
    match j with
    | 0=>simpa [Value.cells] using hj
    | j+1=>simp at hj
   ·simp [Value.oneCell']
   ·rw [uD] at hI
    have hI:=hI.pick [true,true,false]
    rw [if_pos hb.1,iA,if_neg (by rw [hb.2]; decide)]
    have e:Item.row v' dw 1 (l.length+1) (ints (l++[n]))=el v' (l++[n]):=by simp [el]
    rw [show List.length l+1=l.length+1 from rfl,e] at hI
    exact hI
  ·have:(if k=1 then iA l n else l)=l:=by
    split
    ·rename_i hk
     rw [iA]
     simp [hk] at hb
     rw [if_pos hb]
    ·rfl
   rw [this]
   exact hI
 intro t1 _ _ _ _ _ _ _ _ _ _ _ _ _ _ _ w' hI
 have hl1:((if k=1 then iA l n else l).length:Int)+cZ ks<=1000000000:=by split <;> omega
 rw [show ge (.mk k n s ks) l=dE ks (if k=1 then iA l n else l) from by rw [ge]]
 generalize (if k=1 then iA l n else l)=l1 at hI hl1 ⊢
 refine ar hI 0 rfl aP aL rfl ?_
 refine bm hks aG ?_
 refine ⟨fun i t w'=>∃ (j:Nat) (l':List Int),j<=ks.length/\i=.int .i64 j/\dE (ks.drop j) l'=dE ks l1/\l'.length+cZ (ks.drop j)<=1000000000/\Inv w (bS [el v l]) [.blk b2 (.cells #[.int .i64 k,.int .i64 n,.string s,kv] ab),el t l'] S w',
  fun i _ _=>ks.length - (intOf i).toNat,⟨0,l1,Nat.zero_le _,rfl,rfl,by rw [List.drop_zero]; omega,hI⟩,?_⟩
 intro t25 _ t1 _ _ _ _ _ _ _ w'
 rintro ⟨j,l',hj,rfl,hrel,hl',hI⟩
 refine cF ?_
 refine bF (fun hji=>?_) (fun hji=>?_)
 ·have hj':j<ks.length:=by omega
  rw [jE ks j hj'] at hl'
  rw [List.drop_eq_getElem_cons hj',dE] at hrel
  have hc1:=dS (ks.drop (j+1))
  have hc2:=zC ks[j] l'
  refine dN hI hks aG ag hj' (fun _ _=>RdT.length) fun cs' hcs'=>?_
  have hlc:=hcs'.length
  refine a9 hI bt fun b6 w' hI=>?_
  refine aM hI 2 rfl ag (by simpa using hlc) rfl (by simpa using hcs'.one) fun w' hI=>?_
  refine aO hI 2 ag rfl (by simpa using hlc) ?_
  have hI:=hI.pick [true,true,false]
  refine Run.call (A:=[_]) tl rl hI (ih _ (List.getElem_mem hj') S cs' t1 l' hcs' (by omega)) fun v' I' S' w'=>?_
  rintro ⟨rfl,rfl⟩ _ hI
  refine bR (by omega) ?_
  exact ⟨⟨j+1,_,hj',rfl,hrel,by omega,hI⟩,by simp [intOf]; omega⟩
 ·have:j=ks.length:=by omega
  subst this
  rw [List.drop_length,dE] at hrel
  subst hrel
  exact ⟨_,_,_,rfl,hI.pick [false,true],Ext.refl _ _ _,rfl,rfl⟩
theorem Dd {ts:List T} {S:ay} {v:Value} (h:RdSl S 4 (RdT S) v ts) (hl:cZ ts<=1000000000):Tri Tryz.prog HF [v] [] S (HN S (dE ts [])):=by
 intro w hI
 have hlen:=h.le
 simp only [maxLen] at hlen
 refine yB ?_
 unfold vZ
 refine bm h aG ?_
 refine ⟨fun i t w'=>∃ (j:Nat) (l':List Int),j<=ts.length/\i=.int .i64 j/\dE (ts.drop j) l'=dE ts []/\l'.length+cZ (ts.drop j)<=1000000000/\Inv w [] [el t l'] S w',
  fun i _ _=>ts.length - (intOf i).toNat,⟨0,[],Nat.zero_le _,rfl,rfl,by simpa using hl,hI.rowNil dw 1⟩,?_⟩
 intro t8 _ t3 _ _ _ _ _ _ _ w'
 rintro ⟨j,l',hj,rfl,hrel,hl',hI⟩
 refine cF ?_
 refine bF (fun hji=>?_) (fun hji=>?_)
 ·have hj':j<ts.length:=by omega
  rw [jE ts j hj'] at hl'
  rw [List.drop_eq_getElem_cons hj',dE] at hrel
  have hc1:=dS (ts.drop (j+1))
  have hc2:=zC ts[j] l'
  refine dN hI h aG ag hj' (fun _ _=>RdT.length) fun cs' hcs'=>?_
  have hlc:=hcs'.length
  refine a9 hI bt fun b6 w' hI=>?_
  refine aM hI 1 rfl ag (by simpa using hlc) rfl (by simpa using hcs'.one) fun w' hI=>?_
  refine aO hI 1 ag rfl (by simpa using hlc) ?_
  have hI:=hI.pick [true,false]
  refine Run.call (A:=[]) tl rl hI (Aq _ S cs' t3 l' hcs' (by omega)) fun v' I' S' w'=>?_
  rintro ⟨rfl,rfl⟩ _ hI
  refine bR (by omega) ?_
  exact ⟨⟨j+1,_,hj',rfl,hrel,by omega,hI⟩,by simp [intOf]; omega⟩
 ·have:j=ts.length:=by omega
  subst this
  rw [List.drop_length,dE] at hrel
  subst hrel
  exact ⟨_,_,_,rfl,hI,Ext.refl _ _ _,rfl,rfl⟩

end Go.Proofs.YtnmnddpdikghhaaGreat

/- Flat clauses and programs, on both sides. -/
namespace Go.Proofs.YtnmnddpdikghhaaGreat
open Go Go.RowKit
attribute [local irreducible] Run CondV ai a4

section
variable {P:Program} {w w0:World} {X:List Nat} {L:List Item} {S:ay} {K:Value->World->Prop}
end
theorem GW {t:T} (h:fo t=true):eT t 30=true:=by
 rw [fo,Bool.and_eq_true] at h
 exact ng h.1
theorem u7:∀ {ts:List T},ts.all fo=true->eB ts 30=true
 | [],_=>rfl
 | t::ts,h=>by
  rw [List.all_cons,Bool.and_eq_true] at h
  rw [eB,GW h.1,u7 h.2]; rfl
theorem u9 {c:C} (h:bG c=true) (l:List Int):ew c.head l=ge c.head l/\cW c.body l=dE c.body l:=by
 simp only [bG,Bool.and_eq_true] at h
 exact ⟨EH _ 30 _ (ng h.2.2.1),xK _ 30 _ (u7 h.2.1)⟩
end Go.Proofs.YtnmnddpdikghhaaGreat

/- The row's reading of the arguments gives the reading of this proof; and what a law that returns true owes. -/
namespace Go.Proofs.YtnmnddpdikghhaaGreat
open Go Go.ChangeShapes Go.WideShapes Go.ChangeAt Go.RowKit

def Ig (W:World):ay:=fun b=>W.heap[b]?
section
variable {H:Type} {enc:TypeId × Value->H} {P:Program} {W:World} {sp:Nat->Bool} {held:Bool}
theorem Jb {a:Addr} {v:Value} (h:W.cell? a=some v):∃ b o c E fz,a=⟨b,o,none⟩/\W.heap[b]?=some (.cells c E fz)/\c[o]?=some v:=by
 obtain ⟨b,o,s⟩:=a
 simp only [World.cell?] at h
 split at h
 ·rename_i c E fz hb
  cases s with
  | none=>exact ⟨b,o,c,E,fz,rfl,hb,by simpa using h⟩
  | some s=>simp at h
 ·cases h
theorem Jv {b o k:Nat} {cs:List Value} {c:Array Value} {E:TypeId} {fz:Nat × Nat} (hb:W.heap[b]?=some (.cells c E fz)) (h:W.cells? 0 ⟨b,o,none⟩ k=some cs):bJ c o k=cs:=by
 unfold World.cells? at h
 rw [if_pos (Nat.zero_le _)] at h
 have hl:cs.length=k:=by simpa using mapM_some_length h
 apply List.ext_getElem?
 intro i
 rw [bJ,List.getElem?_take]
 by_cases hi:i<k
 ·rw [if_pos hi,List.getElem?_drop]
  have:=mapM_some_get h i i (by simp [hi])
  rw [<- this,lT]
  simp [World.cell?,hb]
 ·rw [if_neg hi,List.getElem?_eq_none (by omega)]
theorem uV {α:Type} (p:Nat->α->Prop):∀ n:Nat,(∀ i,i<n->∃ t,p i t)->∃ xs:List α,xs.length=n/\∀ i (h:i<xs.length),p i xs[i]
 | 0,_=>⟨[],rfl,fun i h=>by simp at h⟩
 | n+1,h=>by
  obtain ⟨xs,hl,hx⟩:=uV p n fun i hi=>h i (by omega)
  obtain ⟨t,ht⟩:=h n (by omega)
  refine ⟨xs++[t],by simp [hl],fun i hi=>?_⟩
  by_cases e:i<xs.length
  ·rw [List.getElem_append_left e]
   exact hx i e
  ·have:i=xs.length:=by simp at hi; omega
   subst this
   simp only [List.getElem_append_right (Nat.le_refl _),Nat.sub_self,List.getElem_cons_zero]
   rw [hl]
   exact ht
theorem nz {T e:TypeId} {k:Nat} (h:dY P T=some (e,k)):P.underlying T=some (.slice e)/\P.cellsOf e=k:=by
 unfold dY at h
 split at h
 ·rename_i e' he
  rw [Option.map_eq_some_iff] at h
  obtain ⟨i,hi,hx⟩:=h
  simp only [Prod.mk.injEq] at hx
  obtain ⟨rfl,rfl⟩:=hx
  exact ⟨he,by simp [Program.cellsOf,hi]⟩
 ·cases h
theorem KR {α:Type} {R:List Value->α->Prop} {T e:TypeId} {k fuel:Nat} {v:Value} {x:DataW H × List MemPlace} (hu:dY P T=some (e,k)) (hk0:0<k)
  (h:DataW.trod enc P W 0 sp held fuel T [v]=some x) (hel:∀ n cs y,fuel=n+1->DataW.trod enc P W 0 sp held n e cs=some y->∃ t:α,R cs t):∃ xs,RdSl (Ig W) k R v xs:=by
 obtain ⟨hu1,hk⟩:=nz hu
 rcases DataW.trod_slice hu1 h with ⟨hcs,_⟩|⟨a,len,cap,elems,rest,n,hf,hcs,_,_,hl,hc,hlen,hE,_⟩
 ·simp only [List.cons.injEq,and_true] at hcs
  subst hcs
  exact ⟨[],none,0,rfl,Nat.le_refl _,Nat.zero_le _,.inl rfl⟩
 ·simp only [List.cons.injEq,and_true] at hcs
  subst hcs
  have hE':∀ i,i<len->∃ t:α,∃ cs,W.cells? 0 (a.add (i * k)) k=some cs/\R cs t:=by
   intro i hi
   have:=hE i hi
   rw [hk,List.getElem?_eq_getElem (by omega),Option.bind_eq_some_iff] at this
   obtain ⟨cs,h1,h2⟩:=this
   obtain ⟨t,ht⟩:=hel n cs _ hf h2
   exact ⟨t,cs,h1,ht⟩
  obtain ⟨xs,hxl,hxs⟩:=uV _ len hE'
  subst hxl
  refine ⟨xs,some a,cap,rfl,hl,hc,?_⟩
  by_cases h0:xs.length=0
  ·exact .inl (List.eq_nil_of_length_eq_zero h0)
  ·obtain ⟨cs0,h1,_⟩:=hxs 0 (by omega)
   have e0:a.add (0 * k)=a:=by rw [Nat.zero_mul]; simp [Addr.add]
   rw [e0] at h1
   have hc0:∃ u,W.cell? a=some u:=by
    unfold World.cells? at h1
    rw [if_pos (Nat.zero_le _)] at h1
    have hl0:cs0.length=k:=by simpa using mapM_some_length h1
    have:=mapM_some_get h1 0 0 (by simp [hk0])
    rw [List.getElem?_eq_getElem (by omega)] at this
    have e1:a.add 0=a:=by simp [Addr.add]
    rw [e1] at this
    exact ⟨_,this⟩
   obtain ⟨u,hu0⟩:=hc0
   obtain ⟨b,o,c,E,fz,rfl,hb,_⟩:=Jb hu0
   refine .inr ⟨b,o,c,E,fz,rfl,hb,fun i hi=>?_⟩
   obtain ⟨cs,h2,hR⟩:=hxs i hi
   rw [lT] at h2
   rw [Jv hb h2]
   exact hR
end

section
variable {H:Type} {enc:TypeId × Value->H} {W:World} {sp:Nat->Bool} {held:Bool}
end

theorem Inv.entry (W:World):Inv W [] [] (Ig W) W:=Inv.start (L:=[]) (by simp) (by simp [bS]) fun b o hb=>⟨hb,by simp [bS]⟩
theorem Inv.same {W W':World} {L:List Item} {S:ay} (h:Inv W [] L S W') (b:Nat) (hb:b<W.heap.size):W'.heap[b]?=W.heap[b]?:=h.old b hb (by simp)
theorem I7 {W W':World} {may:MemPlace->Prop} (ho:W'.os=W.os) (hp:W'.output=W.output) (h:∀ b,b<W.heap.size->W'.heap[b]?=W.heap[b]?):W.keptBut W' may:=by
 refine ⟨ho,hp,fun i hi=>?_⟩
 rw [h i hi]
 split
 ·rename_i e1 e2
  rw [e1] at e2
  simp only [Option.some.injEq,Obj.cells.injEq] at e2
  obtain ⟨rfl,rfl,rfl⟩:=e2
  exact ⟨rfl,rfl,rfl,fun _ _=>rfl⟩
 ·rename_i e1 e2
  rw [e1] at e2
  simp only [Option.some.injEq,Obj.map.injEq] at e2
  obtain ⟨rfl,rfl⟩:=e2
  exact .inr ⟨rfl,rfl⟩
 ·rfl

end Go.Proofs.YtnmnddpdikghhaaGreat

/- The sizes: laws.szTerm and its kin. -/
namespace Go.Proofs.YtnmnddpdikghhaaGreat
open Go Go.RowKit
attribute [local irreducible] Run CondV ai a4


end Go.Proofs.YtnmnddpdikghhaaGreat

/- Equality of terms and clauses as the laws ask it. -/
namespace Go.Proofs.YtnmnddpdikghhaaGreat
open Go Go.RowKit
attribute [local irreducible] Run CondV ai a4

mutual
def eqT:T->T->Bool
 | .mk k n s ks,.mk k' n' s' ks'=>decide (k=k') && (decide (n=n') && (decide (s=s') && eqL ks ks'))
def eqL:List T->List T->Bool
 | [],[]=>true
 | t::ts,u::us=>eqT t u && eqL ts us
 | _,_=>false
end
mutual
theorem xo:∀ a b:T,eqT a b=true↔a=b
 | .mk k n s ks,.mk k' n' s' ks'=>by
  simp only [eqT,Bool.and_eq_true,decide_eq_true_eq,xm ks ks',T.mk.injEq]
theorem xm:∀ a b:List T,eqL a b=true↔a=b
 | [],[]=>by simp [eqL]
 | [],_::_=>by simp [eqL]
 | _::_,[]=>by simp [eqL]
 | t::ts,u::us=>by
  simp only [eqL,Bool.and_eq_true,xo t u,xm ts us,List.cons.injEq]
end
theorem KL:∀ {a b:List T},a.length≠b.length->eqL a b=false:=by
 intro a b h
 rw [<- Bool.not_eq_true,xm]
 rintro rfl
 exact h rfl
theorem n3 {a b c d e:Value}:∀ (j:Nat) (v:Value),([a,b,c,d]:List Value)[j]?=some v->(#[a,b,c,d,e]:Array Value)[0+j]?=some v
 | 0,_,h|1,_,h|2,_,h|3,_,h=>h
 | j+4,_,h=>by simp at h

end Go.Proofs.YtnmnddpdikghhaaGreat

/- The sizes of clauses and of programs, and what they bound. -/
namespace Go.Proofs.YtnmnddpdikghhaaGreat
open Go Go.RowKit
attribute [local irreducible] Run CondV ai a4

/- toClauseS, and what it made published -/
end Go.Proofs.YtnmnddpdikghhaaGreat

/- The laws' marks: laws.markText. -/
namespace Go.Proofs.YtnmnddpdikghhaaGreat
open Go Go.RowKit
section
variable {P:Program} {w w0:World} {X:List Nat} {L:List Item} {S:ay} {K:Value->World->Prop}
attribute [local irreducible] Run CondV ai a4
end

section
attribute [local irreducible] Run CondV ai a4
end

end Go.Proofs.YtnmnddpdikghhaaGreat

/- The laws' marks, written into trees of the function's own. -/
namespace Go.Proofs.YtnmnddpdikghhaaGreat
open Go Go.RowKit

theorem Part.upd {α:Type} {k:Nat} {R:bI->List Value->α->Prop} {c c':Array Value} {Ls:List bI} {xs:List α} (h:Part k R c Ls xs) {i:Nat} {L':bI} {x:α} (hx:R L' (bJ c' (i * k) k) x)
  (hne:∀ j,j≠i->bJ c' (j * k) k=bJ c (j * k) k):Part k R c' (Ls.set i L') (xs.set i x):=by
 refine ⟨by simp [h.1],fun j h1 h2=>?_⟩
 by_cases e:i=j
 ·subst e
  rw [List.getElem_set_self,List.getElem_set_self]
  exact hx
 ·rw [List.getElem_set_ne e,List.getElem_set_ne e,hne j fun e'=>e e'.symm]
  exact h.2 j (by simpa using h1) (by simpa using h2)
section
attribute [local irreducible] Run CondV ai a4
end

end Go.Proofs.YtnmnddpdikghhaaGreat

/- The laws' marks, written into clauses of the function's own. -/
namespace Go.Proofs.YtnmnddpdikghhaaGreat
open Go Go.RowKit

section
attribute [local irreducible] Run CondV ai a4
theorem TrC.parts {L:bI} {cs:List Value} {c:C} (h:TrC L cs c):∃ kv ks L1 L2,cs=[.int .i64 c.head.kind,.int .i64 c.head.n,.string c.head.name,kv,ks]/\L=L1++L2/\TrSl 4 TrT L1 kv c.head.kids/\TrSl 4 TrT L2 ks c.body:=by
 obtain ⟨hd,ks,L1,L2,rfl,rfl,h1,h2⟩:=h
 obtain ⟨kv,rfl,_,_,_,hkT⟩:=TrT.iff.1 h1
 exact ⟨kv,ks,L1,L2,rfl,rfl,hkT,h2⟩
end

end Go.Proofs.YtnmnddpdikghhaaGreat

/- The laws' marks, read again. -/
namespace Go.Proofs.YtnmnddpdikghhaaGreat
open Go Go.RowKit

section
attribute [local irreducible] Run CondV ai a4
end

end Go.Proofs.YtnmnddpdikghhaaGreat

/- Names of goals with their numbers of arguments: built, compared; the clauses for one. -/
namespace Go.Proofs.YtnmnddpdikghhaaGreat
open Go Go.RowKit

section
variable {w:World} {K:Value->World->Prop}
attribute [local irreducible] Run
end

attribute [local irreducible] Run CondV ai a4
structure Pd where
 name:ByteArray
 arity:Int
deriving DecidableEq
def Pd.cells (x:Pd):List Value:=[.string x.name,.int .i64 x.arity]
end Go.Proofs.YtnmnddpdikghhaaGreat

/- The clauses for a goal; which clauses can be unfolded: both sides. -/
namespace Go.Proofs.YtnmnddpdikghhaaGreat
open Go Go.RowKit
attribute [local irreducible] Run CondV ai a4

end Go.Proofs.YtnmnddpdikghhaaGreat

/- Lists of predicates: asked and grown, on both sides. -/
namespace Go.Proofs.YtnmnddpdikghhaaGreat
open Go Go.RowKit
attribute [local irreducible] Run CondV ai a4

end Go.Proofs.YtnmnddpdikghhaaGreat

/- Marks in rows of predicates; trees lent and taken back. -/
namespace Go.Proofs.YtnmnddpdikghhaaGreat
open Go Go.RowKit

/- a tree of the function's own, handed to readers, and taken back -/
theorem Inv.lendAll {w0 w:World} {X:List Nat} {A:List Item} (M:bI) {S:ay} (h:Inv w0 X (A++bw M) S w) :
  ∃ S',Sle S S'/\Ins S' M/\Inv w0 X A S' w/\∀ B w',Inv w0 X B S' w'->Inv w0 X (B++bw M) S w':=by
 obtain ⟨S',h1,h2,h3,h4⟩:=Inv.publishAll M h
 have hnd:=h.nd
 rw [cE,List.nodup_append] at hnd
 refine ⟨S',h2,h3,h1,fun B w' hB=>⟨hB.size,hB.os,hB.tape,hB.output,hB.old,fun it hit=>?_,?_,fun b hb=>?_,fun b o hb=>⟨(hB.pub b o (h2 b o hb)).1,fun hb'=>?_⟩⟩⟩
 ·rcases List.mem_append.1 hit with hit|hit
  ·exact hB.its it hit
  ·obtain ⟨p,hp,rfl⟩:=List.mem_map.1 hit
   exact (hB.pub _ _ (h3 p hp)).1
 ·rw [cE,List.nodup_append]
  refine ⟨hB.nd,hnd.2.1,fun a ha b hb e=>?_⟩
  subst e
  obtain ⟨p,hp,rfl⟩:=iT.1 hb
  exact (hB.pub _ _ (h3 p hp)).2 ha
 ·rw [cE] at hb
  rcases List.mem_append.1 hb with hb|hb
  ·exact hB.new b hb
  ·exact h.new b (by rw [cE]; exact List.mem_append_right _ hb)
 ·rw [cE] at hb'
  rcases List.mem_append.1 hb' with hb'|hb'
  ·exact (hB.pub b o (h2 b o hb)).2 hb'
  ·exact (h.pub b o hb).2 (by rw [cE]; exact List.mem_append_right _ hb')
/- a row seen as its block -/
theorem Inv.openRow {w0 w:World} {X:List Nat} {A:List Item} {S:ay} {v:Value} {e:TypeId} {k n:Nat} {xs:List Value} (h:Inv w0 X (A++[.row v e k n xs]) S w) :
  xs.length=n * k/\((v=.slice none 0 0/\n=0) ∨ ∃ g cap cur,v=.slice (some ⟨g,0,none⟩) n cap/\n<=cap/\cap<=maxLen/\cur.size=cap * k/\cur.toList.take (n * k)=xs/\Inv w0 X (A++[.blk g (.cells cur e)]) S w):=by
 have hm:w.ownsRow 0 e k v n xs:=h.its (.row v e k n xs) (by simp)
 obtain ⟨hl,hm⟩:=hm
 refine ⟨hl,?_⟩
 rcases hm with hn|⟨g,cap,cur,rfl,_,hg,hnc,hcm,hcs,ht⟩
 ·exact .inl hn
 ·have hf:bS (A++[Item.blk g (.cells cur e)])=bS (A++[Item.row (.slice (some ⟨g,0,none⟩) n cap) e k n xs]):=by
   simp [bS,Item.foot,Value.ownBlock]
  refine .inr ⟨g,cap,cur,rfl,hnc,hcm,hcs,ht,h.size,h.os,h.tape,h.output,h.old,fun it hit=>?_,by rw [hf]; exact h.nd,by rw [hf]; exact h.new,by rw [hf]; exact h.pub⟩
  rcases List.mem_append.1 hit with hit|hit
  ·exact h.its it (List.mem_append_left _ hit)
  ·simp at hit
   subst hit
   exact hg
theorem Inv.closeRow {w0 w:World} {X:List Nat} {A:List Item} {S:ay} {g cap k n:Nat} {cur:Array Value} {e:TypeId} (h:Inv w0 X (A++[.blk g (.cells cur e)]) S w) (hn:n<=cap) (hc:cap<=maxLen) (hs:cur.size=cap * k) :
  Inv w0 X (A++[.row (.slice (some ⟨g,0,none⟩) n cap) e k n (cur.toList.take (n * k))]) S w:=by
 have hg:w.heap[g]?=some (.cells cur e):=h.its (.blk g (.cells cur e)) (by simp)
 have hf:bS (A++[Item.row (.slice (some ⟨g,0,none⟩) n cap) e k n (cur.toList.take (n * k))])=bS (A++[Item.blk g (.cells cur e)]):=by
  simp [bS,Item.foot,Value.ownBlock]
 refine ⟨h.size,h.os,h.tape,h.output,h.old,fun it hit=>?_,by rw [hf]; exact h.nd,by rw [hf]; exact h.new,by rw [hf]; exact h.pub⟩
 rcases List.mem_append.1 hit with hit|hit
 ·exact h.its it (List.mem_append_left _ hit)
 ·simp at hit
  subst hit
  refine ⟨?_,.inr ⟨g,cap,cur,rfl,Nat.zero_le _,hg,hn,hc,hs,rfl⟩⟩
  rw [List.length_take,Array.length_toList,hs]
  exact Nat.min_eq_left (Nat.mul_le_mul_right k hn)

section
attribute [local irreducible] Run CondV ai a4
end

end Go.Proofs.YtnmnddpdikghhaaGreat

/- Trees grown by append; impl.own and its kin. -/
namespace Go.Proofs.YtnmnddpdikghhaaGreat
open Go Go.RowKit

structure Grown {α:Type} (k:Nat) (R:bI->List Value->α->Prop) (Ls:List bI) (css:List (List Value)) (ys:List α):Prop where
 hL:Ls.length=ys.length
 hc:css.length=ys.length
 hk:∀ cs∈css,cs.length=k
 hR:∀ i (h:i<ys.length) (h1:i<Ls.length) (h2:i<css.length),R Ls[i] css[i] ys[i]
theorem Grown.nil {α:Type} (k:Nat) (R:bI->List Value->α->Prop):Grown k R [] [] ([]:List α):=⟨rfl,rfl,by simp,fun i h=>by simp at h⟩
theorem Grown.snoc {α:Type} {k:Nat} {R:bI->List Value->α->Prop} {Ls:List bI} {css:List (List Value)} {ys:List α} (h:Grown k R Ls css ys) {L:bI} {cs:List Value} {y:α} (hR:R L cs y) (hl:cs.length=k) :
  Grown k R (Ls++[L]) (css++[cs]) (ys++[y]):=by
 refine ⟨by simp [h.hL],by simp [h.hc],fun c hc=>?_,fun i h0 h1 h2=>?_⟩
 ·rcases List.mem_append.1 hc with hc|hc
  ·exact h.hk c hc
  ·simp at hc; subst hc; exact hl
 ·have e1:=h.hL
  have e2:=h.hc
  by_cases hi:i<ys.length
  ·rw [List.getElem_append_left (by omega),List.getElem_append_left (by omega),List.getElem_append_left hi]
   exact h.hR i hi (by omega) (by omega)
  ·have:i=ys.length:=by simp at h0; omega
   subst this
   rw [List.getElem_append_right (by omega),List.getElem_append_right (by omega),List.getElem_append_right (by omega)]
   simp only [e1,e2,Nat.sub_self,List.getElem_cons_zero]
   exact hR
theorem jX (k:Nat):∀ (css:List (List Value)) (i:Nat) (_:∀ cs∈css,cs.length=k) (h:i<css.length),(css.flatten.drop (i * k)).take k=css[i]
 | [],i,_,h=>by simp at h
 | c::css,0,hk,_=>by
  have:=hk c (List.mem_cons_self ..)
  rw [List.flatten_cons,Nat.zero_mul,List.drop_zero,List.take_append_of_le_length (by omega),List.take_of_length_le (by omega)]
  rfl
 | c::css,i+1,hk,h=>by
  have:=hk c (List.mem_cons_self ..)
  rw [List.flatten_cons,Nat.succ_mul,Nat.add_comm,<- List.drop_drop,List.drop_left' this]
  exact jX k css i (fun cs hc=>hk cs (List.mem_cons_of_mem _ hc)) (by simpa using h)
abbrev a5 (v:Value) (e:TypeId) (k:Nat) (css:List (List Value)):Item:=.row v e k css.length css.flatten
theorem Inv.rowTree {α:Type} {w0 w:World} {X:List Nat} {A:List Item} {S:ay} {v:Value} {e:TypeId} {k:Nat} {R:bI->List Value->α->Prop} {Ls:List bI} {css:List (List Value)} {ys:List α}
  (h:Inv w0 X (A++(a5 v e k css::bw Ls.flatten)) S w) (hg:Grown k R Ls css ys):∃ L,TrSl k R L v ys/\Inv w0 X (A++bw L) S w:=by
 have hp:List.Perm ((A++bw Ls.flatten)++[a5 v e k css]) (A++(a5 v e k css::bw Ls.flatten)):=by
  rw [List.append_assoc]
  exact List.Perm.append_left _ List.perm_append_comm
 obtain ⟨hl,ho⟩:=(h.perm hp).openRow
 have hcy:=hg.hc
 have hLy:=hg.hL
 rcases ho with ⟨rfl,h0⟩|⟨g,cap,cur,rfl,hnc,hcm,hcs,ht,hI⟩
 ·have:ys=[]:=List.eq_nil_of_length_eq_zero (by omega)
  subst this
  refine ⟨[],TrSl.nil (by simp [maxLen]),?_⟩
  simpa [bw] using h.sub (List.sublist_append_left _ _)
 ·by_cases hy:ys=[]
  ·subst hy
   have:css=[]:=List.eq_nil_of_length_eq_zero (by simpa using hcy)
   subst this
   refine ⟨[],TrSl.nil hcm,?_⟩
   simpa [bw] using h.sub (List.sublist_append_left _ _)
  ·refine ⟨(g,.cells cur e)::Ls.flatten,⟨_,cap,by rw [hcy],by omega,hcm,.inr ⟨g,cur,e,Ls,rfl,rfl,hLy,by omega,fun i h1 h2=>?_⟩⟩,?_⟩
   ·have hik:i * k+k<=css.length * k:=by rw [<- Nat.succ_mul]; exact Nat.mul_le_mul_right k (by omega)
    have:=jX k css i hg.hk (by omega)
    rw [<- ht,List.drop_take,List.take_take,Nat.min_eq_left (by omega)] at this
    rw [bJ,this]
    exact hg.hR i h1 h2 (by omega)
   ·refine hI.perm ?_
    rw [List.append_assoc]
    exact List.Perm.append_left _ (List.perm_append_comm (l₁:=[Item.blk g (.cells cur e)]))
theorem eN (v:Value) (e:TypeId) (k:Nat) (css:List (List Value)) (cs:List Value):Item.row v e k (css.length+1) (css.flatten++cs)=a5 v e k (css++[cs]):=by
 simp [a5]
section
variable {P:Program} {w w0:World} {X:List Nat} {L:List Item} {S:ay} {K:Value->World->Prop}
attribute [local irreducible] Run CondV ai a4
/- append(row, x): x is put into a block of its own first -/
theorem eL (h:Inv w0 X L S w) {T ty e:TypeId} {k by_:Nat} {z v:Value} {cs:List Bool} {css:List (List Value)} (i:Nat) (xs:List Value)
  (hT:oQ P T=some (e,k,by_,z)) (hk0:0<k) (hk24:k<=65536) (hi:L[i]?=some (a5 v e k css)) (hl:xs.length=k) (h1:∀ u∈xs,u.oneCell'=true) (hfit:css.length+1<=4294967296) (hby:by_<=32768)
  (hk:∀ v' w',Inv w0 X (L.set i (a5 v' e k (css++[xs]))) S w'->K v' w') :
  Run P (aQ T 1 [(0,.agg xs.toArray)]) w fun u w'=>Run P (aE .append #[T,T] ty cs [v,u]) w' K:=by
 refine dJ h hT (by simp [Value.cells,hl]) hk24 hk0 fun b w' hI=>?_
 have hil:i<L.length:=(List.getElem?_eq_some_iff.1 hi).1
 refine ev hI i xs hT hk0 (by rw [List.getElem?_append_left hil]; exact hi) (by omega) (m:=1) (o:=0) ?_ h1 hfit hby fun v' w' hI=>?_
 ·intro j u hj
  rw [hI.cellL (i:=L.length) (by rw [List.getElem?_append_right (Nat.le_refl _),Nat.sub_self]; rfl)]
  rw [Nat.zero_add]
  simpa [Value.cells] using hj
 ·refine hk _ _ ?_
  rw [<- eN]
  rw [List.set_append_left _ _ hil] at hI
  exact hI.sub (List.sublist_append_left _ _)
end

section
attribute [local irreducible] Run CondV ai a4
theorem zr {ts:List T} (ih:∀ t∈ts,∀ (S:ay) (cs:List Value),RdT S cs t->wT t<=1048576->Tri Tryz.prog HU [.agg cs.toArray] [] S (vb S t))
  {S:ay} {v:Value} (h:RdSl S 4 (RdT S) v ts) (hw:ts.length+wL ts<=1048576):Tri Tryz.prog vy [v] [] S (H2 4 TrT S ts):=by
 intro w hI
 refine wk ?_
 unfold qQ
 refine bm h aG ?_
 refine ⟨fun i t w'=>∃ (k:Nat) (Ls:List bI) (css:List (List Value)),k<=ts.length/\i=.int .i64 k/\Grown 4 TrT Ls css (ts.take k)/\Inv w [] (a5 t ab 4 css::bw Ls.flatten) S w',
  fun i _ _=>ts.length - (intOf i).toNat,⟨0,[],[],Nat.zero_le _,rfl,Grown.nil _ _,hI.rowNil ab 4⟩,?_⟩
 intro t8 _ t3 _ _ _ _ _ _ _ _ _ w'
 rintro ⟨k,Ls,css,hk,rfl,hg,hI⟩
 refine cF ?_
 refine bF (fun hki=>?_) (fun hki=>?_)
 ·have hk':k<ts.length:=by omega
  have htl:(ts.take k).length=k:=by simp; omega
  have hcl:=hg.hc
  refine dN hI h aG ag hk' (fun _ _=>RdT.length) fun cs hcs=>?_
  have hm:=List.getElem_mem hk'
  have hwm:=gF hm
  have hlc:=hcs.length
  refine a9 hI bt fun b6 w' hI=>?_
  have hI:=hI.perm (M:=.blk b6 _::(a5 t3 ab 4 css::bw Ls.flatten)) (List.perm_append_comm (l₁:=[_]))
  refine aM hI 0 rfl ag (by simpa using hlc) rfl (by simpa using hcs.one) fun w' hI=>?_
  refine aO hI 0 ag rfl (by simpa using hlc) ?_
  have hI:Inv w [] (a5 t3 ab 4 css::bw Ls.flatten) S w':=hI.sub (List.sublist_cons_self _ _)
  refine Run.call0 EN DW hI (ih _ hm S cs hcs (by omega)) fun v' I' S' w'=>?_
  rintro ⟨rfl,cs',L,rfl,rfl,hT⟩ _ hI
  refine eL hI 0 cs' bC (by omega) (by omega) rfl hT.length hT.one (by omega) (by omega) fun v' w' hI=>?_
  refine bR (by omega) ?_
  refine ⟨⟨k+1,Ls++[L],css++[cs'],hk',rfl,?_,?_⟩,by simp [intOf]; omega⟩
  ·rw [List.take_succ_eq_append_getElem hk']
   exact hg.snoc hT hT.length
  ·simp only [List.flatten_append,List.flatten_cons,List.flatten_nil,List.append_nil,c8]
   exact hI
 ·have:k=ts.length:=by omega
  subst this
  rw [List.take_length] at hg
  obtain ⟨L,hT,hI⟩:=Inv.rowTree (A:=[]) hI hg
  exact ⟨_,_,_,rfl,hI,Ext.refl _ _ _,rfl,_,rfl,hT⟩
theorem BA:∀ (t:T) (S:ay) (cs:List Value),RdT S cs t->wT t<=1048576->Tri Tryz.prog HU [.agg cs.toArray] [] S (vb S t):=by
 refine T.ind fun k n s ks ih S cs h hw=>?_
 intro w hI
 obtain ⟨kv,rfl,h1,h2,hs,hks⟩:=RdT.iff.1 h
 simp only [T.name,T.kids,T.kind,T.n] at h1 h2 hs hks ⊢
 simp only [wT] at hw
 refine Ds ?_
 unfold DN
 refine bN hI fun b1 w' hI=>?_
 refine a9 hI bt fun b2 w' hI=>?_
 refine ar hI 0 rfl aP aL rfl ?_
 refine Run.call0 sv qZ hI (zr ih hks (by omega)) fun v' I' S' w'=>?_
 rintro ⟨rfl,L,rfl,hT⟩ _ hI
 have hv:v'.cells=#[v']/\v'.oneCell'=true:=by obtain ⟨a,cap,rfl,_⟩:=hT; exact ⟨rfl,rfl⟩
 refine eM hI 0 rfl aP aL rfl hv.1 hv.2 fun w' hI=>?_
 refine aO hI 0 ag rfl rfl ?_
 refine aM hI 1 rfl ag rfl rfl ?_ fun w' hI=>?_
 ·intro u hu
  have hu':u∈([.int .i64 k,.int .i64 n,.string s,v']:List Value):=hu
  simp at hu'
  rcases hu' with rfl|rfl|rfl|rfl <;> first|rfl|exact hv.2
 refine bA hI 1 ag rfl rfl ?_
 refine ⟨_,_,_,rfl,hI.sub (List.sublist_append_right [_,_] (bw L)),Ext.refl _ _ _,rfl,[.int .i64 k,.int .i64 n,.string s,v'],L,rfl,rfl,TrT.iff.2 ⟨v',rfl,h1,h2,hs,hT⟩⟩
theorem AF {ts:List T} {S:ay} {v:Value} (h:RdSl S 4 (RdT S) v ts) (hw:ts.length+wL ts<=1048576):Tri Tryz.prog vy [v] [] S (H2 4 TrT S ts):=
 zr (fun t _=>BA t) h hw
end

end Go.Proofs.YtnmnddpdikghhaaGreat

/- impl.ownClause, impl.ownProgram. -/
namespace Go.Proofs.YtnmnddpdikghhaaGreat
open Go Go.RowKit
section
variable {w:World} {K:Value->World->Prop}
attribute [local irreducible] Run
theorem iV {a b:Int} {s:ByteArray} {k v:Value} (hv:∃ p n m,v=.slice p n m) (hk:K (.agg #[.int .i64 a,.int .i64 b,.string s,k,v]) w):Run Tryz.prog (bP ac [(0,.agg #[.int .i64 a,.int .i64 b,.string s,k]),(1,v)]) w K:=by
 obtain ⟨p,n,m,rfl⟩:=hv
 refine Run.of (v:=.agg #[.int .i64 a,.int .i64 b,.string s,k,.slice p n m]) (w':=w) ?_ hk
 unfold bP
 rw [Sem.run_bind,run_build w ac _ #[.int .i64 a,.int .i64 b,.string s,k,.slice p n m] (by kernel_rfl),Result.andThen_ok]
 rfl
theorem i3 {a b:Int} {s:ByteArray} {k:Value} (hk:K (.agg #[.int .i64 a,.int .i64 b,.string s,k,.slice none 0 0]) w):Run Tryz.prog (bP ac [(0,.agg #[.int .i64 a,.int .i64 b,.string s,k])]) w K:=by
 refine Run.of (v:=.agg #[.int .i64 a,.int .i64 b,.string s,k,.slice none 0 0]) (w':=w) ?_ hk
 unfold bP
 rw [Sem.run_bind,run_build w ac _ #[.int .i64 a,.int .i64 b,.string s,k,.slice none 0 0] (by kernel_rfl),Result.andThen_ok]
 rfl
theorem g6 {a b:Int} {s:ByteArray} (hk:K (.agg #[.int .i64 a,.int .i64 b,.string s,.slice none 0 0]) w):Run Tryz.prog (bP ab [(0,.int .i64 a),(1,.int .i64 b),(2,.string s)]) w K:=by
 refine Run.of (v:=.agg #[.int .i64 a,.int .i64 b,.string s,.slice none 0 0]) (w':=w) ?_ hk
 unfold bP
 rw [Sem.run_bind,run_build w ab _ #[.int .i64 a,.int .i64 b,.string s,.slice none 0 0] (by kernel_rfl),Result.andThen_ok]
 rfl
end
section
attribute [local irreducible] Run CondV ai a4
def lb (B B2 B2':Item) (M1 M2:bI) (d2 d5 d7:Bool):List Item:=B::(match d7 with|true=>B2'|false=>B2)::((match d2 with|true=>bw M1|false=>[])++(match d5 with|true=>bw M2|false=>[]))
theorem mx {c:C} {S:ay} {cs:List Value} (h:RdC S cs c) (hw:wC c<=1048576):Tri Tryz.prog AQ [.agg cs.toArray] [] S (Js S c):=by
 intro w hI
 obtain ⟨hd,ks,rfl,h1,h2⟩:=h
 have h1':=h1
 obtain ⟨kv,rfl,g1,g2,g3,g4⟩:=RdT.iff.1 h1
 unfold wC at hw
 refine sO ?_
 unfold nt
 refine bN hI fun b1 w' hI=>?_
 refine a9 hI bM fun b2 w' hI=>?_
 have hI:Inv w [] [.blk b1 (.cells #[.int .i64 c.head.kind,.int .i64 c.head.n,.string c.head.name,kv,ks] ac),.blk b2 (.cells #[.int .i64 0,.int .i64 0,.string ⟨#[]⟩,.slice none 0 0,.slice none 0 0] ac)] S w':=hI
 refine ⟨fun D x9 x8 x7 x6 x5 x4 x3 w_=>(D 0=true->x3=.pointer (some ⟨b1,0,none⟩))/\(D 1=true->x4=.agg #[.int .i64 c.head.kind,.int .i64 c.head.n,.string c.head.name,kv])/\(D 2=true->True)/\(D 3=true->x6=.pointer (some ⟨b1,4,none⟩))/\(D 4=true->x7=ks)/\(D 5=true->True)/\(D 6=true->True)/\(D 7=true->True)/\∃ M1 M2 k1,(D 2=true->x5=.agg #[.int .i64 c.head.kind,.int .i64 c.head.n,.string c.head.name,k1]/\TrT M1 [.int .i64 c.head.kind,.int .i64 c.head.n,.string c.head.name,k1] c.head)/\(D 5=true->TrSl 4 TrT M2 x8 c.body)/\(D 6=true->x9=.agg #[.int .i64 c.head.kind,.int .i64 c.head.n,.string c.head.name,k1,x8])/\(D 5=true->D 2=true)/\(D 6=true->D 5=true)/\(D 7=true->D 6=true)/\Inv w [] (lb (.blk b1 (.cells #[.int .i64 c.head.kind,.int .i64 c.head.n,.string c.head.name,kv,ks] ac)) (.blk b2 (.cells #[.int .i64 0,.int .i64 0,.string ⟨#[]⟩,.slice none 0 0,.slice none 0 0] ac)) (.blk b2 (.cells #[.int .i64 c.head.kind,.int .i64 c.head.n,.string c.head.name,k1,x8] ac)) M1 M2 (D 2) (D 5) (D 7)) S w_,⟨af,af,af,af,af,af,af,af,⟨[],[],undef,af,af,af,af,af,af,hI.draw⟩⟩,⟨?_,?_,?_,?_,?_,?_,?_,?_,trivial⟩,?_⟩
 ·intro D aS  x9 x8 x7 x6 x5 x4 x3 w_
  rintro ⟨aA,az,aB,ax,aD,aC,aw,aJ,⟨M1,M2,k1,e2,e5,e6,k5,k6,k7,hI⟩⟩
  refine bj bQ ?_
  exact ⟨fun _=>rfl,az,aB,ax,aD,aC,aw,aJ,⟨M1,M2,k1,e2,e5,e6,k5,k6,k7,hI⟩⟩
 ·intro D aS cA x9 x8 x7 x6 x5 x4 x3 w_
  rintro ⟨aA,az,aB,ax,aD,aC,aw,aJ,⟨M1,M2,k1,e2,e5,e6,k5,k6,k7,hI⟩⟩
  obtain rfl:=aA cA
  refine cY hI 0 [.int .i64 c.head.kind,.int .i64 c.head.n,.string c.head.name,kv] ag rfl rfl n3 ?_
  exact ⟨aA,fun _=>rfl,aB,ax,aD,aC,aw,aJ,⟨M1,M2,k1,e2,e5,e6,k5,k6,k7,hI⟩⟩
 ·intro D aS dB x9 x8 x7 x6 x5 x4 x3 w_
  rintro ⟨aA,az,aB,ax,aD,aC,aw,aJ,⟨M1,M2,k1,e2,e5,e6,k5,k6,k7,hI⟩⟩
  obtain rfl:=az dB
  have f5:D 5=false:=Bool.eq_false_iff.2 fun h=>by rw [k5 h] at aS; cases aS
  have f6:D 6=false:=Bool.eq_false_iff.2 fun h=>by rw [k6 h] at f5; cases f5
  have f7:D 7=false:=Bool.eq_false_iff.2 fun h=>by rw [k7 h] at f6; cases f6
  rw [aS,f5,f7] at hI
  refine Run.call0 EN DW hI (BA c.head S _ h1' (by omega)) fun v' I' S w_=>?_
  rintro ⟨rfl,cs1,M1,rfl,rfl,hT1⟩ _ hI
  obtain ⟨k1,rfl,_⟩:=TrT.iff.1 hT1
  have e2:ao D 2 2=true->Value.agg #[.int .i64 c.head.kind,.int .i64 c.head.n,.string c.head.name,k1]=Value.agg #[.int .i64 c.head.kind,.int .i64 c.head.n,.string c.head.name,k1]/\TrT M1 [.int .i64 c.head.kind,.int .i64 c.head.n,.string c.head.name,k1] c.head:=fun _=>⟨rfl,hT1⟩
  have e6:=fun (h:D 6=true)=>(absurd h (by rw [f6]; decide):x9=.agg #[.int .i64 c.head.kind,.int .i64 c.head.n,.string c.head.name,k1,x8])
  have k5:=fun (_:ao D 2 5=true)=>(rfl:ao D 2 2=true)
  have hI:Inv w [] (lb (.blk b1 (.cells #[.int .i64 c.head.kind,.int .i64 c.head.n,.string c.head.name,kv,ks] ac)) (.blk b2 (.cells #[.int .i64 0,.int .i64 0,.string ⟨#[]⟩,.slice none 0 0,.slice none 0 0] ac)) (.blk b2 (.cells #[.int .i64 c.head.kind,.int .i64 c.head.n,.string c.head.name,k1,x8] ac)) M1 M2 true (D 5) (D 7)) S w_:=by
   rw [f5,f7]
   simpa [lb] using hI
  exact ⟨aA,az,fun _=>by first|assumption|trivial,ax,aD,aC,aw,aJ,⟨M1,M2,k1,e2,e5,e6,k5,k6,k7,hI⟩⟩
 ·intro D aS  x9 x8 x7 x6 x5 x4 x3 w_
  rintro ⟨aA,az,aB,ax,aD,aC,aw,aJ,⟨M1,M2,k1,e2,e5,e6,k5,k6,k7,hI⟩⟩
  refine bj bl ?_
  exact ⟨aA,az,aB,fun _=>rfl,aD,aC,aw,aJ,⟨M1,M2,k1,e2,e5,e6,k5,k6,k7,hI⟩⟩
 ·intro D aS dh x9 x8 x7 x6 x5 x4 x3 w_
  rintro ⟨aA,az,aB,ax,aD,aC,aw,aJ,⟨M1,M2,k1,e2,e5,e6,k5,k6,k7,hI⟩⟩
  obtain rfl:=ax dh
  refine bB hI 0 aL rfl rfl ?_
  exact ⟨aA,az,aB,ax,fun _=>by first|assumption|trivial,aC,aw,aJ,⟨M1,M2,k1,e2,e5,e6,k5,k6,k7,hI⟩⟩
 ·intro D aS fO EP x9 x8 x7 x6 x5 x4 x3 w_
  rintro ⟨aA,az,aB,ax,aD,aC,aw,aJ,⟨M1,M2,k1,e2,e5,e6,k5,k6,k7,hI⟩⟩
  have Dl:=aD fO
  have f6:D 6=false:=Bool.eq_false_iff.2 fun h=>by rw [k6 h] at aS; cases aS
  have f7:D 7=false:=Bool.eq_false_iff.2 fun h=>by rw [k7 h] at f6; cases f6
  rw [aS,EP,f7] at hI
  refine Run.call0 sv qZ hI (by rw [Dl]; exact AF h2 (by omega)) fun v' I' S w_=>?_
  rintro ⟨rfl,M2,rfl,hT2⟩ _ hI
  have e5:=fun (_:ao D 5 5=true)=>hT2
  have e6:=fun (h:D 6=true)=>(absurd h (by rw [f6]; decide):x9=.agg #[.int .i64 c.head.kind,.int .i64 c.head.n,.string c.head.name,k1,v'])
  have k6:=fun (_:ao D 5 6=true)=>(rfl:ao D 5 5=true)
  have k5:=fun (_:ao D 5 5=true)=>EP
  have hI:Inv w [] (lb (.blk b1 (.cells #[.int .i64 c.head.kind,.int .i64 c.head.n,.string c.head.name,kv,ks] ac)) (.blk b2 (.cells #[.int .i64 0,.int .i64 0,.string ⟨#[]⟩,.slice none 0 0,.slice none 0 0] ac)) (.blk b2 (.cells #[.int .i64 c.head.kind,.int .i64 c.head.n,.string c.head.name,k1,v'] ac)) M1 M2 (D 2) true (D 7)) S w_:=by
   rw [EP,f7]
   simpa [lb] using hI
  exact ⟨aA,az,aB,ax,aD,fun _=>by first|assumption|trivial,aw,aJ,⟨M1,M2,k1,e2,e5,e6,k5,k6,k7,hI⟩⟩
 ·intro D aS cM eF x9 x8 x7 x6 x5 x4 x3 w_
  rintro ⟨aA,az,aB,ax,aD,aC,aw,aJ,⟨M1,M2,k1,e2,e5,e6,k5,k6,k7,hI⟩⟩
  have LD:=aB cM
  have zK:=aC eF
  have q2:=(e2 cM).1
  subst q2
  refine iV (by obtain ⟨a8,cap8,hx8,_⟩:=e5 eF; exact ⟨_,_,_,hx8⟩) ?_
  have e6:ao D 6 6=true->Value.agg #[.int .i64 c.head.kind,.int .i64 c.head.n,.string c.head.name,k1,x8]=Value.agg #[.int .i64 c.head.kind,.int .i64 c.head.n,.string c.head.name,k1,x8]:=fun _=>rfl
  have k7:=fun (_:ao D 6 7=true)=>(rfl:ao D 6 6=true)
  have k6:=fun (_:ao D 6 6=true)=>eF
  exact ⟨aA,az,aB,ax,aD,aC,fun _=>by first|assumption|trivial,aJ,⟨M1,M2,k1,e2,e5,e6,k5,k6,k7,hI⟩⟩
 ·intro D aS bW eF kS mL kN qx oV th ug x9 x8 x7 x6 x5 x4 x3 w_
  rintro ⟨aA,az,aB,ax,aD,aC,aw,aJ,⟨M1,M2,k1,e2,e5,e6,k5,k6,k7,hI⟩⟩
  have Fw:=aw bW
  have q6:=e6 bW
  subst q6
  have q2:=(e2 kN).2
  have q5:=e5 eF
  rw [aS,kN,eF] at hI
  refine aM hI 1 rfl aI rfl rfl ?_ fun w_ hI=>?_
  ·intro u hu
   have hu':u∈([.int .i64 c.head.kind,.int .i64 c.head.n,.string c.head.name,k1,x8]:List Value):=hu
   simp at hu'
   have o1:k1.oneCell'=true:=q2.one k1 (by simp)
   have o2:x8.oneCell'=true:=by obtain ⟨a,cap,rfl,_⟩:=q5; rfl
   rcases hu' with rfl|rfl|rfl|rfl|rfl <;> first|rfl|exact o1|exact o2
  have k7:=fun (_:ao D 7 7=true)=>bW
  have hI:Inv w [] (lb (.blk b1 (.cells #[.int .i64 c.head.kind,.int .i64 c.head.n,.string c.head.name,kv,ks] ac)) (.blk b2 (.cells #[.int .i64 0,.int .i64 0,.string ⟨#[]⟩,.slice none 0 0,.slice none 0 0] ac)) (.blk b2 (.cells #[.int .i64 c.head.kind,.int .i64 c.head.n,.string c.head.name,k1,x8] ac)) M1 M2 (D 2) (D 5) true) S w_:=by
   rw [kN,eF]
   exact hI
  exact ⟨aA,az,aB,ax,aD,aC,aw,fun _=>trivial,⟨M1,M2,k1,e2,e5,e6,k5,k6,k7,hI⟩⟩
 intro D gc fj ft fL fX fM fP fY x9 x8 x7 x6 x5 x4 x3 w_
 rintro ⟨aA,az,aB,ax,aD,aC,aw,aJ,⟨M1,M2,k1,e2,e5,e6,k5,k6,k7,hI⟩⟩
 have Fw:=aw fj
 have zK:=aC ft
 have Dl:=aD fL
 obtain rfl:=ax fX
 have LD:=aB fM
 obtain rfl:=az fP
 obtain rfl:=aA fY
 clear aA az aB ax aD aC aw aJ
 have q2:=(e2 fM).2
 have q5:=e5 ft
 rw [fM,ft,gc] at hI
 refine bA hI 1 aI rfl rfl ?_
 refine ⟨_,_,_,rfl,hI.sub (List.sublist_append_right [_,_] (bw M1++bw M2)),Ext.refl _ _ _,rfl,_,M1++M2,rfl,by rw [c8],_,x8,M1,M2,rfl,rfl,q2,q5⟩
end

end Go.Proofs.YtnmnddpdikghhaaGreat

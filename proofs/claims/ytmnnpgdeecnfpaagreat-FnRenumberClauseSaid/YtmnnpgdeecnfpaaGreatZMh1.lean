/- Goals, clauses, programs, queries: which are valid, on both sides. -/
import Derived.Test.YtmnnpgdeecnfpaaGreatZMh0
import Derived.Test.YtmnnpgdeecnfpaaGreatRows
import Derived.ProofKit
import Derived.ReadAgain
import Derived.Carry
import Derived.Test.YtmnnpgdeecnfpaaGreatZMhS
import Derived.Test.YtmnnpgdeecnfpaaGreatZMhF
import Derived.Test.YtmnnpgdeecnfpaaGreatZMhh1
import Derived.Laws.BytesArg
import Derived.Laws.StructEq
import Derived.Laws.Tables
namespace Go.Proofs.YtmnnpgdeecnfpaaGreat
open Go Go.RowKit
section
variable {P:Program} {w:World} {K:Value->World->Prop} {ty:TypeId}
theorem ae {b:Bool} {A B:Prop} (h:B):ah undef b A B:=by unfold ah; exact h
theorem aq {v u:Value} (hk:K v w):Run P (sOp (.pick (.const (.bool true)) (.const v) (.const u)) ty) w K:=j2 hk
theorem al {v u:Value} (hk:K u w):Run P (sOp (.pick (.const (.bool false)) (.const v) (.const u)) ty) w K:=j2 hk
end
attribute [local irreducible] Run CondV ah ba

def u7:List ByteArray:=[⟨#[61]⟩,⟨#[92,61]⟩,⟨#[61,61]⟩,⟨#[60]⟩,⟨#[62]⟩,⟨#[61,60]⟩,⟨#[62,61]⟩,⟨#[61,58,61]⟩,⟨#[105,115]⟩]
def m9:List ByteArray:=[⟨#[116,114,117,101]⟩,⟨#[102,97,105,108]⟩]
def tJ:List ByteArray:=[⟨#[118,97,114]⟩,⟨#[110,111,110,118,97,114]⟩,⟨#[97,116,111,109]⟩,⟨#[105,110,116]⟩]
def At:List ByteArray:=[⟨#[43]⟩,⟨#[45]⟩]
def uE:List ByteArray:=[⟨#[42]⟩,⟨#[47,47]⟩,⟨#[109,111,100]⟩]
def eF (s:ByteArray) (l:List ByteArray):Bool:=l.any fun x=>decide (s=x)
def fj (s:ByteArray) (n:Int):Bool:=
 if eF s u7=true then decide (n=2)
 else if eF s m9=true then decide (n=0)
 else if eF s tJ=true then decide (n=1)
 else if s=⟨#[97,114,103]⟩ then decide (n=3)
 else false
def cG (s:ByteArray):Int:=if eF s u7=true then 3 else if eF s At=true then 2 else if eF s uE=true then 1 else 0
def yS (t:T):Bool:=decide (t.kind=3) && (decide (t.name=⟨#[33]⟩) && decide (t.kids.length=0))
def DI (t:T):Bool:=decide (t.kind=3) && decide (t.kids.length=0)
def kT (t:T):Bool:=decide (t.kind=3) && fj t.name t.kids.length
def fw (t:T):Bool:=decide (t.kind=3) && (iY t.name && (!fj t.name t.kids.length && decide (cG t.name=0)))
def eL (t:T):Bool:=dA t && (yS t || (fw t || kT t))
def bH (c:C):Bool:=decide (c.body.length<=6) && (c.body.all eL && (dA c.head && fw c.head))
def yc (l:List T):Bool:=decide (l.length<=6) && l.all eL
def FH (p:List C):Bool:=decide (p.length<=20) && p.all bH
theorem Cn (s:ByteArray):(!decide (0<cG s))=decide (cG s=0):=by
 unfold cG
 split
 ·rfl
 ·split
  ·rfl
  ·split <;> rfl

theorem jG (s:ByteArray) (n:Int) (S:ax):Pure Tryz.prog vj [.string s,.int .i64 n] S (.bool (fj s n)):=by
 intro w hI
 refine nY ?_
 unfold kI
 obtain ⟨q,hq⟩:∃ q,eF s u7=q:=⟨_,rfl⟩
 have hq1:=hq
 refine ⟨fun t w'=>t=.bool q/\Inv w [] [] S w',?_,?_⟩
 ·unfold eF u7 at hq
  iterate 8
   refine cr ?_
   refine bg (fun h=>⟨by rw [List.any_cons,h] at hq; rw [h,<- hq]; rfl,hI⟩) (fun h=>?_)
   rw [List.any_cons,h,Bool.false_or] at hq
  refine cr ⟨?_,hI⟩
  rw [<- hq]; simp
 intro t _ _ _ _ _ _ _ _ _ w'
 rintro ⟨rfl,hI⟩
 refine bg (fun h=>?_) (fun h=>?_)
 ·exact bK (done hI (by rw [fj,if_pos (hq1.trans h)]))
 have e1:fj s n=if eF s m9=true then decide (n=0) else if eF s tJ=true then decide (n=1) else if s=⟨#[97,114,103]⟩ then decide (n=3) else false:=by
  rw [fj,if_neg (by rw [hq1,h]; decide)]
 clear hq hq1 h
 obtain ⟨q,hq⟩:∃ q,eF s m9=q:=⟨_,rfl⟩
 have hq1:=hq
 refine ⟨fun t w'=>t=.bool q/\Inv w [] [] S w',?_,?_⟩
 ·unfold eF m9 at hq
  refine cr ?_
  refine bg (fun h=>⟨by rw [List.any_cons,h] at hq; rw [h,<- hq]; rfl,hI⟩) (fun h=>?_)
  rw [List.any_cons,h,Bool.false_or] at hq
  refine cr ⟨?_,hI⟩
  rw [<- hq]; simp
 intro _ t _ w'
 rintro ⟨rfl,hI⟩
 refine bg (fun h=>?_) (fun h=>?_)
 ·exact bK (done hI (by rw [e1,if_pos (hq1.trans h)]))
 rw [if_neg (by rw [hq1,h]; decide)] at e1
 clear hq hq1 h
 obtain ⟨q,hq⟩:∃ q,eF s tJ=q:=⟨_,rfl⟩
 have hq1:=hq
 refine ⟨fun t w'=>t=.bool q/\Inv w [] [] S w',?_,?_⟩
 ·unfold eF tJ at hq
  iterate 3
   refine cr ?_
   refine bg (fun h=>⟨by rw [List.any_cons,h] at hq; rw [h,<- hq]; rfl,hI⟩) (fun h=>?_)
   rw [List.any_cons,h,Bool.false_or] at hq
  refine cr ⟨?_,hI⟩
  rw [<- hq]; simp
 intro _ _ _ t _ w'
 rintro ⟨rfl,hI⟩
 refine bg (fun h=>?_) (fun h=>?_)
 ·exact bK (done hI (by rw [e1,if_pos (hq1.trans h)]))
 rw [if_neg (by rw [hq1,h]; decide)] at e1
 refine cr ?_
 refine bz (fun h=>?_) (fun h=>?_)
 ·exact bK (done hI (by rw [e1,if_pos h]))
 ·exact done hI (by rw [e1,if_neg h])
theorem qi (s:ByteArray) (n:Int) (S:ax):Pure Tryz.prog vA [.string s,.int .i64 n] S (.bool (fj s n)):=by
 intro w hI
 refine ov ?_
 unfold lR
 obtain ⟨q,hq⟩:∃ q,eF s u7=q:=⟨_,rfl⟩
 have hq1:=hq
 refine ⟨fun t w'=>t=.bool q/\Inv w [] [] S w',?_,?_⟩
 ·unfold eF u7 at hq
  iterate 8
   refine cr ?_
   refine bg (fun h=>⟨by rw [List.any_cons,h] at hq; rw [h,<- hq]; rfl,hI⟩) (fun h=>?_)
   rw [List.any_cons,h,Bool.false_or] at hq
  refine cr ⟨?_,hI⟩
  rw [<- hq]; simp
 intro t _ _ _ _ _ _ _ _ _ w'
 rintro ⟨rfl,hI⟩
 refine bg (fun h=>?_) (fun h=>?_)
 ·exact bK (done hI (by rw [fj,if_pos (hq1.trans h)]))
 have e1:fj s n=if eF s m9=true then decide (n=0) else if eF s tJ=true then decide (n=1) else if s=⟨#[97,114,103]⟩ then decide (n=3) else false:=by
  rw [fj,if_neg (by rw [hq1,h]; decide)]
 clear hq hq1 h
 obtain ⟨q,hq⟩:∃ q,eF s m9=q:=⟨_,rfl⟩
 have hq1:=hq
 refine ⟨fun t w'=>t=.bool q/\Inv w [] [] S w',?_,?_⟩
 ·unfold eF m9 at hq
  refine cr ?_
  refine bg (fun h=>⟨by rw [List.any_cons,h] at hq; rw [h,<- hq]; rfl,hI⟩) (fun h=>?_)
  rw [List.any_cons,h,Bool.false_or] at hq
  refine cr ⟨?_,hI⟩
  rw [<- hq]; simp
 intro _ t _ w'
 rintro ⟨rfl,hI⟩
 refine bg (fun h=>?_) (fun h=>?_)
 ·exact bK (done hI (by rw [e1,if_pos (hq1.trans h)]))
 rw [if_neg (by rw [hq1,h]; decide)] at e1
 clear hq hq1 h
 obtain ⟨q,hq⟩:∃ q,eF s tJ=q:=⟨_,rfl⟩
 have hq1:=hq
 refine ⟨fun t w'=>t=.bool q/\Inv w [] [] S w',?_,?_⟩
 ·unfold eF tJ at hq
  iterate 3
   refine cr ?_
   refine bg (fun h=>⟨by rw [List.any_cons,h] at hq; rw [h,<- hq]; rfl,hI⟩) (fun h=>?_)
   rw [List.any_cons,h,Bool.false_or] at hq
  refine cr ⟨?_,hI⟩
  rw [<- hq]; simp
 intro _ _ _ t _ w'
 rintro ⟨rfl,hI⟩
 refine bg (fun h=>?_) (fun h=>?_)
 ·exact bK (done hI (by rw [e1,if_pos (hq1.trans h)]))
 rw [if_neg (by rw [hq1,h]; decide)] at e1
 refine cr ?_
 refine bz (fun h=>?_) (fun h=>?_)
 ·exact bK (done hI (by rw [e1,if_pos h]))
 ·exact done hI (by rw [e1,if_neg h])

theorem dH (s:ByteArray) (S:ax):Pure Tryz.prog zM [.string s] S (.int .i64 (cG s)):=by
 intro w hI
 refine rP ?_
 unfold nJ
 obtain ⟨q,hq⟩:∃ q,eF s u7=q:=⟨_,rfl⟩
 have hq1:=hq
 refine ⟨fun t w'=>t=.bool q/\Inv w [] [] S w',?_,?_⟩
 ·unfold eF u7 at hq
  iterate 8
   refine cr ?_
   refine bg (fun h=>⟨by rw [List.any_cons,h] at hq; rw [h,<- hq]; rfl,hI⟩) (fun h=>?_)
   rw [List.any_cons,h,Bool.false_or] at hq
  refine cr ⟨?_,hI⟩
  rw [<- hq]; simp
 intro _ _ _ _ _ _ _ _ t _ w'
 rintro ⟨rfl,hI⟩
 refine bg (fun h=>?_) (fun h=>?_)
 ·exact done hI (by rw [show cG s=3 from if_pos (hq1.trans h)] <;> rfl)
 have e1:cG s=if eF s At=true then 2 else if eF s uE=true then 1 else 0:=by
  rw [cG,if_neg (by rw [hq1,h]; decide)]
 clear hq hq1 h
 obtain ⟨q,hq⟩:∃ q,eF s At=q:=⟨_,rfl⟩
 have hq1:=hq
 refine ⟨fun t w'=>t=.bool q/\Inv w [] [] S w',?_,?_⟩
 ·unfold eF At at hq
  refine cr ?_
  refine bg (fun h=>⟨by rw [List.any_cons,h] at hq; rw [h,<- hq]; rfl,hI⟩) (fun h=>?_)
  rw [List.any_cons,h,Bool.false_or] at hq
  refine cr ⟨?_,hI⟩
  rw [<- hq]; simp
 intro _ t _ w'
 rintro ⟨rfl,hI⟩
 refine bg (fun h=>?_) (fun h=>?_)
 ·exact done hI (by rw [show cG s=2 from e1.trans (if_pos (hq1.trans h))] <;> rfl)
 rw [if_neg (by rw [hq1,h]; decide)] at e1
 clear hq hq1 h
 obtain ⟨q,hq⟩:∃ q,eF s uE=q:=⟨_,rfl⟩
 have hq1:=hq
 refine ⟨fun t w'=>t=.bool q/\Inv w [] [] S w',?_,?_⟩
 ·unfold eF uE at hq
  iterate 2
   refine cr ?_
   refine bg (fun h=>⟨by rw [List.any_cons,h] at hq; rw [h,<- hq]; rfl,hI⟩) (fun h=>?_)
   rw [List.any_cons,h,Bool.false_or] at hq
  refine cr ⟨?_,hI⟩
  rw [<- hq]; simp
 intro _ _ t _ w'
 rintro ⟨rfl,hI⟩
 refine bg (fun h=>?_) (fun h=>?_)
 ·exact done hI (by rw [show cG s=1 from e1.trans (if_pos (hq1.trans h))] <;> rfl)
 ·exact done hI (by rw [show cG s=0 from e1.trans (if_neg (by rw [hq1,h]; decide))] <;> rfl)
theorem sc (s:ByteArray) (S:ax):Pure Tryz.prog zi [.string s] S (.tuple #[.int .i64 (cG s),.bool (decide (cG s=1) || decide (cG s=2))]):=by
 intro w hI
 refine sm ?_
 unfold o5
 obtain ⟨q,hq⟩:∃ q,eF s u7=q:=⟨_,rfl⟩
 have hq1:=hq
 refine ⟨fun t w'=>t=.bool q/\Inv w [] [] S w',?_,?_⟩
 ·unfold eF u7 at hq
  iterate 8
   refine cr ?_
   refine bg (fun h=>⟨by rw [List.any_cons,h] at hq; rw [h,<- hq]; rfl,hI⟩) (fun h=>?_)
   rw [List.any_cons,h,Bool.false_or] at hq
  refine cr ⟨?_,hI⟩
  rw [<- hq]; simp
 intro _ _ _ _ _ _ _ _ t _ w'
 rintro ⟨rfl,hI⟩
 refine bg (fun h=>?_) (fun h=>?_)
 ·exact done hI (by rw [show cG s=3 from if_pos (hq1.trans h)] <;> rfl)
 have e1:cG s=if eF s At=true then 2 else if eF s uE=true then 1 else 0:=by
  rw [cG,if_neg (by rw [hq1,h]; decide)]
 clear hq hq1 h
 obtain ⟨q,hq⟩:∃ q,eF s At=q:=⟨_,rfl⟩
 have hq1:=hq
 refine ⟨fun t w'=>t=.bool q/\Inv w [] [] S w',?_,?_⟩
 ·unfold eF At at hq
  refine cr ?_
  refine bg (fun h=>⟨by rw [List.any_cons,h] at hq; rw [h,<- hq]; rfl,hI⟩) (fun h=>?_)
  rw [List.any_cons,h,Bool.false_or] at hq
  refine cr ⟨?_,hI⟩
  rw [<- hq]; simp
 intro _ t _ w'
 rintro ⟨rfl,hI⟩
 refine bg (fun h=>?_) (fun h=>?_)
 ·exact done hI (by rw [show cG s=2 from e1.trans (if_pos (hq1.trans h))] <;> rfl)
 rw [if_neg (by rw [hq1,h]; decide)] at e1
 clear hq hq1 h
 obtain ⟨q,hq⟩:∃ q,eF s uE=q:=⟨_,rfl⟩
 have hq1:=hq
 refine ⟨fun t w'=>t=.bool q/\Inv w [] [] S w',?_,?_⟩
 ·unfold eF uE at hq
  iterate 2
   refine cr ?_
   refine bg (fun h=>⟨by rw [List.any_cons,h] at hq; rw [h,<- hq]; rfl,hI⟩) (fun h=>?_)
   rw [List.any_cons,h,Bool.false_or] at hq
  refine cr ⟨?_,hI⟩
  rw [<- hq]; simp
 intro _ _ t _ w'
 rintro ⟨rfl,hI⟩
 refine bg (fun h=>?_) (fun h=>?_)
 ·exact done hI (by rw [show cG s=1 from e1.trans (if_pos (hq1.trans h))] <;> rfl)
 ·exact done hI (by rw [show cG s=0 from e1.trans (if_neg (by rw [hq1,h]; decide))] <;> rfl)

theorem yy {t:T} {S:ax} {cs:List Value} (h:RdT S cs t):Pure Tryz.prog CJ [.agg cs.toArray] S (.bool (yS t)):=by
 intro w hI
 obtain ⟨kv,rfl,_,_,hs,hks⟩:=RdT.iff.1 h
 obtain ⟨k,n,s,ks⟩:=t
 simp only [T.name,T.kids,T.kind,T.n] at hs hks ⊢
 refine ve ?_
 unfold un;dsimp only
 refine co hI fun b1 w' hI=>?_
 refine aH hI 0 rfl bF bw rfl ?_
 refine bK ?_
 rw [show yS (.mk k n s ks)=(decide (k=3) && (decide (s=⟨#[33]⟩) && decide (ks.length=0))) from rfl]
 cases h1:decide (k=3)
 ·repeat (first|refine ad ?_|refine ag (by decide) ?_|refine ae ?_|refine aq ?_|refine al ?_)
  exact done hI rfl
 ·repeat (first|refine ad ?_|refine ag (by decide) ?_|refine ae ?_|refine aq ?_|refine al ?_)
  refine aH hI 0 rfl bu bq rfl ?_
  refine cr ?_
  cases h2:decide (s=⟨#[33]⟩)
  ·repeat (first|refine ad ?_|refine ag (by decide) ?_|refine ae ?_|refine aq ?_|refine al ?_)
   exact done hI rfl
  ·repeat (first|refine ad ?_|refine ag (by decide) ?_|refine ae ?_|refine aq ?_|refine al ?_)
   refine aH hI 0 rfl a9 aV rfl ?_
   refine bo hks aS ?_
   refine bK ?_
   repeat (first|refine ad ?_|refine ag (by decide) ?_|refine ae ?_|refine aq ?_|refine al ?_)
   exact done hI (by simp)

theorem mo {t:T} {S:ax} {cs:List Value} (h:RdT S cs t):Pure Tryz.prog yQ [.agg cs.toArray] S (.bool (fw t)):=by
 intro w hI
 obtain ⟨kv,rfl,_,_,hs,hks⟩:=RdT.iff.1 h
 obtain ⟨k,n,s,ks⟩:=t
 simp only [T.name,T.kids,T.kind,T.n] at hs hks ⊢
 refine sn ?_
 unfold nQ;dsimp only
 refine co hI fun b1 w' hI=>?_
 refine aH hI 0 rfl bF bw rfl ?_
 refine bK ?_
 rw [show fw (.mk k n s ks)=(decide (k=3) && (iY s && (!fj s ks.length && decide (cG s=0)))) from rfl]
 cases h1:decide (k=3)
 ·repeat (first|refine ad ?_|refine ag (by decide) ?_|refine ae ?_|refine aq ?_|refine al ?_)
  exact done hI rfl
 ·repeat (first|refine ad ?_|refine ag (by decide) ?_|refine ae ?_|refine aq ?_|refine al ?_)
  refine aH hI 0 rfl bu bq rfl ?_
  refine Run.callPure re rL hI (oO s hs S) fun w' hI=>?_
  cases h2:iY s
  ·repeat (first|refine ad ?_|refine ag (by decide) ?_|refine ae ?_|refine aq ?_|refine al ?_)
   exact done hI rfl
  ·repeat (first|refine ad ?_|refine ag (by decide) ?_|refine ae ?_|refine aq ?_|refine al ?_)
   refine aH hI 0 rfl bu bq rfl ?_
   refine aH hI 0 rfl a9 aV rfl ?_
   refine bo hks aS ?_
   refine Run.callPure lK lo hI (jG s _ S) fun w' hI=>?_
   refine dT ?_
   cases h3:fj s ks.length
   ·repeat (first|refine ad ?_|refine ag (by decide) ?_|refine ae ?_|refine aq ?_|refine al ?_)
    refine aH hI 0 rfl bu bq rfl ?_
    refine Run.callPure eC ez hI (dH s S) fun w' hI=>?_
    refine bK ?_
    repeat (first|refine ad ?_|refine ag (by decide) ?_|refine ae ?_|refine aq ?_|refine al ?_)
    exact done hI rfl
   ·repeat (first|refine ad ?_|refine ag (by decide) ?_|refine ae ?_|refine aq ?_|refine al ?_)
    exact done hI rfl

theorem xP {t:T} {S:ax} {cs:List Value} (h:RdT S cs t):Pure Tryz.prog AU [.agg cs.toArray] S (.bool (yS t || (fw t || kT t))):=by
 intro w hI
 have h0:=h
 obtain ⟨kv,rfl,_,_,hs,hks⟩:=RdT.iff.1 h
 obtain ⟨k,n,s,ks⟩:=t
 simp only [T.name,T.kids,T.kind,T.n] at h0 hs hks ⊢
 refine ud ?_
 unfold rF;dsimp only
 refine co hI fun b1 w' hI=>?_
 refine bb hI 0 aj rfl rfl ?_
 refine Run.callPure Ar Bp hI (yy h0) fun w' hI=>?_
 cases h1:yS (.mk k n s ks)
 ·repeat (first|refine ad ?_|refine ag (by decide) ?_|refine ae ?_|refine aq ?_|refine al ?_)
  refine bb hI 0 aj rfl rfl ?_
  refine Run.callPure oh nn hI (mo h0) fun w' hI=>?_
  cases h2:fw (.mk k n s ks)
  ·repeat (first|refine ad ?_|refine ag (by decide) ?_|refine ae ?_|refine aq ?_|refine al ?_)
   refine aH hI 0 rfl bF bw rfl ?_
   refine bK ?_
   rw [show kT (.mk k n s ks)=(decide (k=3) && fj s ks.length) from rfl]
   cases h3:decide (k=3)
   ·repeat (first|refine ad ?_|refine ag (by decide) ?_|refine ae ?_|refine aq ?_|refine al ?_)
    exact done hI rfl
   ·repeat (first|refine ad ?_|refine ag (by decide) ?_|refine ae ?_|refine aq ?_|refine al ?_)
    refine aH hI 0 rfl bu bq rfl ?_
    refine aH hI 0 rfl a9 aV rfl ?_
    refine bo hks aS ?_
    refine Run.callPure lK lo hI (jG s _ S) fun w' hI=>?_
    repeat (first|refine ad ?_|refine ag (by decide) ?_|refine ae ?_|refine aq ?_|refine al ?_)
    exact done hI rfl
  ·repeat (first|refine ad ?_|refine ag (by decide) ?_|refine ae ?_|refine aq ?_|refine al ?_)
   exact done hI rfl
 ·repeat (first|refine ad ?_|refine ag (by decide) ?_|refine ae ?_|refine aq ?_|refine al ?_)
  exact done hI rfl

theorem Ca {t:T} (h:wT t<=1048576):dN t<=4611686018427387904:=by
 have:=Da t
 omega
theorem qy {t:T} {S:ax} {cs:List Value} (h:RdT S cs t) (hc:wT t<=1048576):Pure Tryz.prog vC [.agg cs.toArray] S (.bool (eL t)):=by
 intro w hI
 have hl:=h.length
 refine nW ?_
 unfold kK
 refine co hI fun b1 w' hI=>?_
 refine bb hI 0 aj rfl (by simpa [Value.cells] using hl) ?_
 refine Run.callPure kP kJ hI (jK h (Ca hc)) fun w' hI=>?_
 rw [eL]
 cases h1:dA t
 ·repeat (first|refine ad ?_|refine ag (by decide) ?_|refine ae ?_|refine aq ?_|refine al ?_)
  exact done hI rfl
 ·repeat (first|refine ad ?_|refine ag (by decide) ?_|refine ae ?_|refine aq ?_|refine al ?_)
  refine bb hI 0 aj rfl (by simpa [Value.cells] using hl) ?_
  refine Run.callPure zF zl hI (xP h) fun w' hI=>?_
  repeat (first|refine ad ?_|refine ag (by decide) ?_|refine ae ?_|refine aq ?_|refine al ?_)
  exact done hI rfl


theorem Er {ts:List T} {t:T} (h:t∈ts):wT t<=wL ts:=by
 induction ts with
 | nil=>simp at h
 | cons u us ih=>
  rw [wL]
  rcases List.mem_cons.1 h with rfl|h
  ·omega
  ·have:=ih h; omega
/- the loop of a list of goals, whatever comes behind it -/
theorem iL {c:C} {S:ax} {cs:List Value} (h:RdC S cs c) (hc:wC c<=1048576):Pure Tryz.prog r3 [.agg cs.toArray] S (.bool (bH c)):=by
 intro w hI
 obtain ⟨hd,ks,rfl,h1,h2⟩:=h
 have h1':=h1
 obtain ⟨kv,rfl,g1,g2,g3,g4⟩:=RdT.iff.1 h1
 have hlen:=h2.le
 simp only [maxLen] at hlen
 unfold wC at hc
 refine l7 ?_
 unfold jF;dsimp only
 refine co hI fun b1 w' hI=>?_
 refine ⟨fun i w'=>∃ k:Nat,k<=c.body.length/\k<=7/\i=.int .i64 k/\(∀ j (h:j<c.body.length),j<k->eL c.body[j]=true)/\Inv w [] [.blk b1 (.cells #[.int .i64 c.head.kind,.int .i64 c.head.n,.string c.head.name,kv,ks] ai)] S w',
  fun i _=>c.body.length - (intOf i).toNat,⟨0,Nat.zero_le _,by omega,rfl,fun j _ h=>by omega,hI⟩,?_⟩
 intro t3 _ _ _ _ _ _ _ _ _ _ _ _ _ _ _ _ _ _ _ w'
 rintro ⟨k,hk,hk7,rfl,hrel,hI⟩
 refine ⟨fun t w'=>t=.bool (decide (k<c.body.length/\k<=6))/\Inv w [] [.blk b1 (.cells #[.int .i64 c.head.kind,.int .i64 c.head.n,.string c.head.name,kv,ks] ai)] S w',?_,?_⟩
 ·refine aH hI 0 rfl bi aV rfl ?_
  refine bo h2 aS ?_
  refine dh ?_
  by_cases hki:(k:Int)<c.body.length
  ·rw [decide_eq_true hki]
   repeat (first|refine ad ?_|refine ag (by decide) ?_|refine ae ?_|refine aq ?_|refine al ?_)
   refine fO ?_
   repeat (first|refine ad ?_|refine ag (by decide) ?_|refine ae ?_|refine aq ?_|refine al ?_)
   refine ⟨?_,hI⟩
   congr 1
   rw [Bool.eq_iff_iff]; simp; omega
  ·rw [decide_eq_false hki]
   repeat (first|refine ad ?_|refine ag (by decide) ?_|refine ae ?_|refine aq ?_|refine al ?_)
   exact ⟨by rw [decide_eq_false (by omega)],hI⟩
 intro t _ _ _ _ _ _ _ _ w'
 rintro ⟨rfl,hI⟩
 refine bz (fun hki=>?_) (fun hki=>?_)
 ·obtain ⟨hk',hk6⟩:=hki
  refine aH hI 0 rfl bi aV rfl ?_
  refine ei hI h2 aS aj hk' (fun _ _=>RdT.length) fun cs' hcs'=>?_
  have hwm:=Er (List.getElem_mem hk')
  refine Run.callPure tI sN hI (qy hcs' (by omega)) fun w' hI=>?_
  refine dT ?_
  refine bg (fun hb=>done hI ?_) (fun hb=>?_)
  ·have hb':eL c.body[k]=false:=by simpa using hb
   have:c.body.all eL=false:=by
    rw [<- Bool.not_eq_true,List.all_eq_true]
    intro hall
    rw [hall _ (List.getElem_mem hk')] at hb'
    cases hb'
   rw [bH,this]
   simp
  ·have hb':eL c.body[k]=true:=by simpa using hb
   refine ct (by omega) ?_
   refine ⟨⟨k+1,hk',by omega,rfl,fun j hj hjk=>?_,hI⟩,by simp [intOf]; omega⟩
   by_cases e:j=k
   ·subst e; exact hb'
   ·exact hrel j hj (by omega)
 ·refine aH hI 0 rfl bi aV rfl ?_
  refine bo h2 aS ?_
  refine fO ?_
  rw [bH]
  by_cases hle:c.body.length<=6
  ·have hall:c.body.all eL=true:=by
    rw [List.all_eq_true]
    intro x hx
    obtain ⟨j,hj,rfl⟩:=List.getElem_of_mem hx
    exact hrel j hj (by omega)
   rw [decide_eq_true (show (c.body.length:Int)<=6 by omega),decide_eq_true hle,hall]
   repeat (first|refine ad ?_|refine ag (by decide) ?_|refine ae ?_|refine aq ?_|refine al ?_)
   refine bh cm ?_
   refine dI hI 0 [.int .i64 c.head.kind,.int .i64 c.head.n,.string c.head.name,kv] aj rfl rfl ?_ ?_
   ·intro j v hj
    match j with
    | 0|1|2|3=>exact hj
    | j+4=>simp at hj
   refine Run.callPure kP kJ hI (jK h1' (Ca (by omega))) fun w' hI=>?_
   cases hv:dA c.head
   ·repeat (first|refine ad ?_|refine ag (by decide) ?_|refine ae ?_|refine aq ?_|refine al ?_)
    exact done hI rfl
   ·repeat (first|refine ad ?_|refine ag (by decide) ?_|refine ae ?_|refine aq ?_|refine al ?_)
    refine bh cm ?_
    refine dI hI 0 [.int .i64 c.head.kind,.int .i64 c.head.n,.string c.head.name,kv] aj rfl rfl ?_ ?_
    ·intro j v hj
     match j with
     | 0|1|2|3=>exact hj
     | j+4=>simp at hj
    refine Run.callPure oh nn hI (mo h1') fun w' hI=>?_
    repeat (first|refine ad ?_|refine ag (by decide) ?_|refine ae ?_|refine aq ?_|refine al ?_)
    exact done hI rfl
  ·rw [decide_eq_false (show ¬ (c.body.length:Int)<=6 by omega),decide_eq_false hle]
   repeat (first|refine ad ?_|refine ag (by decide) ?_|refine ae ?_|refine aq ?_|refine al ?_)
   exact done hI rfl

/- the program's side -/
theorem Bi (s:ByteArray) (S:ax):Pure Tryz.prog Dj [.string s] S (.bool (decide (0<cG s))):=by
 intro w hI
 refine xp ?_
 unfold wh
 refine Run.callPure wV xO hI (sc s S) fun w' hI=>?_
 refine bj rfl ?_
 refine bj rfl ?_
 refine eN ?_
 exact done hI rfl
theorem mu {t:T} {S:ax} {cs:List Value} (h:RdT S cs t):Pure Tryz.prog yE [.agg cs.toArray] S (.bool (kT t)):=by
 intro w hI
 obtain ⟨kv,rfl,_,_,hs,hks⟩:=RdT.iff.1 h
 obtain ⟨k,n,s,ks⟩:=t
 simp only [T.name,T.kids,T.kind,T.n] at hs hks ⊢
 refine se ?_
 unfold nT
 refine co hI fun b1 w' hI=>?_
 refine aH hI 0 rfl bF bw rfl ?_
 refine bK ?_
 rw [show kT (.mk k n s ks)=(decide (k=3) && fj s ks.length) from rfl]
 cases h3:decide (k=3)
 ·repeat (first|refine ad ?_|refine ag (by decide) ?_|refine ae ?_|refine aq ?_|refine al ?_)
  exact done hI rfl
 ·repeat (first|refine ad ?_|refine ag (by decide) ?_|refine ae ?_|refine aq ?_|refine al ?_)
  refine aH hI 0 rfl bu bq rfl ?_
  refine aH hI 0 rfl a9 aV rfl ?_
  refine bo hks aS ?_
  refine Run.callPure s4 ua hI (qi s _ S) fun w' hI=>?_
  repeat (first|refine ad ?_|refine ag (by decide) ?_|refine ae ?_|refine aq ?_|refine al ?_)
  exact done hI rfl
theorem mG {t:T} {S:ax} {cs:List Value} (h:RdT S cs t):Pure Tryz.prog zr [.agg cs.toArray] S (.bool (fw t)):=by
 intro w hI
 have h0:=h
 obtain ⟨kv,rfl,_,_,hs,hks⟩:=RdT.iff.1 h
 obtain ⟨k,n,s,ks⟩:=t
 simp only [T.name,T.kids,T.kind,T.n] at h0 hs hks ⊢
 refine rR ?_
 unfold n4;dsimp only
 refine co hI fun b1 w' hI=>?_
 refine aH hI 0 rfl bF bw rfl ?_
 refine bK ?_
 have hb:kT (.mk k n s ks)=(decide (k=3) && fj s ks.length):=rfl
 rw [show fw (.mk k n s ks)=(decide (k=3) && (iY s && (!fj s ks.length && decide (cG s=0)))) from rfl]
 cases h1:decide (k=3)
 ·repeat (first|refine ad ?_|refine ag (by decide) ?_|refine ae ?_|refine aq ?_|refine al ?_)
  exact done hI rfl
 ·rw [h1] at hb
  repeat (first|refine ad ?_|refine ag (by decide) ?_|refine ae ?_|refine aq ?_|refine al ?_)
  refine aH hI 0 rfl bu bq rfl ?_
  refine Run.callPure lB kW hI (km s hs S) fun w' hI=>?_
  cases h2:iY s
  ·repeat (first|refine ad ?_|refine ag (by decide) ?_|refine ae ?_|refine aq ?_|refine al ?_)
   exact done hI rfl
  ·repeat (first|refine ad ?_|refine ag (by decide) ?_|refine ae ?_|refine aq ?_|refine al ?_)
   refine aH hI 0 rfl bu bq rfl ?_
   refine Run.callPure Cg CD hI (Bi s S) fun w' hI=>?_
   refine dT ?_
   rw [Cn]
   cases h3:decide (cG s=0)
   ·repeat (first|refine ad ?_|refine ag (by decide) ?_|refine ae ?_|refine aq ?_|refine al ?_)
    exact done hI (by simp)
   ·repeat (first|refine ad ?_|refine ag (by decide) ?_|refine ae ?_|refine aq ?_|refine al ?_)
    refine bb hI 0 aj rfl rfl ?_
    refine Run.callPure oP o8 hI (mu h0) fun w' hI=>?_
    refine dT ?_
    repeat (first|refine ad ?_|refine ag (by decide) ?_|refine ae ?_|refine aq ?_|refine al ?_)
    exact done hI (by rw [hb]; simp)
theorem xF {t:T} {S:ax} {cs:List Value} (h:RdT S cs t):Pure Tryz.prog Be [.agg cs.toArray] S (.bool (DI t)):=by
 intro w hI
 obtain ⟨kv,rfl,_,_,hs,hks⟩:=RdT.iff.1 h
 obtain ⟨k,n,s,ks⟩:=t
 simp only [T.name,T.kids,T.kind,T.n] at hs hks ⊢
 refine sS ?_
 unfold ri
 refine co hI fun b1 w' hI=>?_
 refine aH hI 0 rfl bF bw rfl ?_
 refine bK ?_
 rw [show DI (.mk k n s ks)=(decide (k=3) && decide (ks.length=0)) from rfl]
 cases h3:decide (k=3)
 ·repeat (first|refine ad ?_|refine ag (by decide) ?_|refine ae ?_|refine aq ?_|refine al ?_)
  exact done hI rfl
 ·repeat (first|refine ad ?_|refine ag (by decide) ?_|refine ae ?_|refine aq ?_|refine al ?_)
  refine aH hI 0 rfl a9 aV rfl ?_
  refine bo hks aS ?_
  refine bK ?_
  repeat (first|refine ad ?_|refine ag (by decide) ?_|refine ae ?_|refine aq ?_|refine al ?_)
  exact done hI (by simp)
theorem zO {t:T} {S:ax} {cs:List Value} (h:RdT S cs t):Pure Tryz.prog CS [.agg cs.toArray] S (.bool (yS t)):=by
 intro w hI
 have h0:=h
 obtain ⟨kv,rfl,_,_,hs,hks⟩:=RdT.iff.1 h
 obtain ⟨k,n,s,ks⟩:=t
 simp only [T.name,T.kids,T.kind,T.n] at h0 hs hks ⊢
 refine uQ ?_
 unfold ug
 refine co hI fun b1 w' hI=>?_
 refine bb hI 0 aj rfl rfl ?_
 refine Run.callPure yZ zf hI (xF h0) fun w' hI=>?_
 rw [show yS (.mk k n s ks)=(decide (k=3) && (decide (s=⟨#[33]⟩) && decide (ks.length=0))) from rfl]
 cases h1:DI (.mk k n s ks)
 ·repeat (first|refine ad ?_|refine ag (by decide) ?_|refine ae ?_|refine aq ?_|refine al ?_)
  refine done hI ?_
  replace h1:(decide (k=3) && decide (ks.length=0))=false:=h1
  cases h2:decide (k=3)
  ·rfl
  ·rw [h2,Bool.true_and] at h1
   rw [h1,Bool.and_false]; rfl
 ·repeat (first|refine ad ?_|refine ag (by decide) ?_|refine ae ?_|refine aq ?_|refine al ?_)
  refine aH hI 0 rfl bu bq rfl ?_
  refine cr ?_
  repeat (first|refine ad ?_|refine ag (by decide) ?_|refine ae ?_|refine aq ?_|refine al ?_)
  refine done hI ?_
  replace h1:(decide (k=3) && decide (ks.length=0))=true:=h1
  rw [Bool.and_eq_true] at h1
  rw [h1.1,h1.2]; simp
theorem qn {t:T} {S:ax} {cs:List Value} (h:RdT S cs t):Pure Tryz.prog vQ [.agg cs.toArray] S (.bool (eL t)):=by
 intro w hI
 have hl:=h.length
 refine nU ?_
 unfold kV
 refine co hI fun b1 w' hI=>?_
 refine bb hI 0 aj rfl (by simpa [Value.cells] using hl) ?_
 refine Run.callPure fN fP hI (fc h) fun w' hI=>?_
 rw [eL]
 cases h1:dA t
 ·repeat (first|refine ad ?_|refine ag (by decide) ?_|refine ae ?_|refine aq ?_|refine al ?_)
  exact done hI rfl
 ·repeat (first|refine ad ?_|refine ag (by decide) ?_|refine ae ?_|refine aq ?_|refine al ?_)
  refine bb hI 0 aj rfl (by simpa [Value.cells] using hl) ?_
  refine Run.callPure nX pB hI (mG h) fun w' hI=>?_
  cases h2:fw t
  ·repeat (first|refine ad ?_|refine ag (by decide) ?_|refine ae ?_|refine aq ?_|refine al ?_)
   refine bb hI 0 aj rfl (by simpa [Value.cells] using hl) ?_
   refine Run.callPure oP o8 hI (mu h) fun w' hI=>?_
   cases h3:kT t
   ·repeat (first|refine ad ?_|refine ag (by decide) ?_|refine ae ?_|refine aq ?_|refine al ?_)
    refine bb hI 0 aj rfl (by simpa [Value.cells] using hl) ?_
    refine Run.callPure A5 Ap hI (zO h) fun w' hI=>?_
    repeat (first|refine ad ?_|refine ag (by decide) ?_|refine ae ?_|refine aq ?_|refine al ?_)
    exact done hI (by simp)
   ·repeat (first|refine ad ?_|refine ag (by decide) ?_|refine ae ?_|refine aq ?_|refine al ?_)
    exact done hI (by simp)
  ·repeat (first|refine ad ?_|refine ag (by decide) ?_|refine ae ?_|refine aq ?_|refine al ?_)
   exact done hI (by simp)

theorem BH {α:Type} (p:α->Bool):∀ xs:List α,(!xs.any fun x=>!p x)=xs.all p
 | []=>rfl
 | x::xs=>by
  rw [List.any_cons,List.all_cons,<- BH p xs]
  cases p x <;> simp

theorem l5 {x:T} {S:ax} {cs:List Value} (h:RdT S cs x):Pure Tryz.prog jq [.agg cs.toArray] S (.bool (!eL x)):=by
 intro w hI
 have hl:=h.length
 refine lC ?_
 unfold i9
 refine co hI fun b1 w' hI=>?_
 refine bb hI 0 aj rfl (by simpa [Value.cells] using hl) ?_
 refine Run.callPure tG tf hI (qn h) fun w' hI=>?_
 refine dT (done hI rfl)
theorem nD {xs:List T} {S:ax} {v:Value} (h:RdSl S 4 (RdT S) v xs):Pure Tryz.prog sP [v] S (.bool (yc xs)):=by
 intro w hI
 refine nj ?_
 unfold kr
 refine bo h aS ?_
 refine fO ?_
 rw [yc]
 by_cases hle:xs.length<=6
 ·rw [decide_eq_true (show (xs.length:Int)<=6 by omega),decide_eq_true hle]
  repeat (first|refine ad ?_|refine ag (by decide) ?_|refine ae ?_|refine aq ?_|refine al ?_)
  have hcb:Cb Tryz.prog jq _ [] S (fun _:Unit=>[]) (fun _=>True) (fun _ x=>(!eL x,())) (fun v x=>∃ cs,v=.agg cs.toArray/\RdT S cs x) xs:=
   Cb.pure [] oQ oo fun x v _=>by
    rintro ⟨cs,rfl,hcs⟩ w1 hI
    exact (l5 hcs w1 hI).mono fun e w' ⟨he,hI⟩=>⟨_,_,_,he,hI,Ext.refl _ _ _,rfl,rfl,rfl⟩
  refine Run.call0 fL fE hI (gj hcb h (st:=()) trivial) fun v' I' S' w'=>?_
  rintro ⟨rfl,rfl,rfl⟩ _ hI
  refine dT ?_
  repeat (first|refine ad ?_|refine ag (by decide) ?_|refine ae ?_|refine aq ?_|refine al ?_)
  refine done hI ?_
  rw [lZ (fun x=>!eL x) xs,BH]; rfl
 ·rw [decide_eq_false (show ¬ (xs.length:Int)<=6 by omega),decide_eq_false hle]
  repeat (first|refine ad ?_|refine ag (by decide) ?_|refine ae ?_|refine aq ?_|refine al ?_)
  exact done hI rfl
theorem iJ {c:C} {S:ax} {cs:List Value} (h:RdC S cs c):Pure Tryz.prog rS [.agg cs.toArray] S (.bool (bH c)):=by
 intro w hI
 obtain ⟨hd,ks,rfl,h1,h2⟩:=h
 have h1':=h1
 obtain ⟨kv,rfl,g1,g2,g3,g4⟩:=RdT.iff.1 h1
 have hfin:bH c=(dA c.head && (fw c.head && yc c.body)):=by
  unfold bH yc
  cases dA c.head <;> cases fw c.head <;> simp
 refine ma ?_
 unfold jE;dsimp only
 rw [hfin]
 refine co hI fun b1 w' hI=>?_
 refine bh cm ?_
 refine dI hI 0 [.int .i64 c.head.kind,.int .i64 c.head.n,.string c.head.name,kv] aj rfl rfl ?_ ?_
 ·intro j v hj
  match j with
  | 0|1|2|3=>exact hj
  | j+4=>simp at hj
 refine Run.callPure fN fP hI (fc h1') fun w' hI=>?_
 cases hv:dA c.head
 ·repeat (first|refine ad ?_|refine ag (by decide) ?_|refine ae ?_|refine aq ?_|refine al ?_)
  exact done hI rfl
 ·repeat (first|refine ad ?_|refine ag (by decide) ?_|refine ae ?_|refine aq ?_|refine al ?_)
  refine bh cm ?_
  refine dI hI 0 [.int .i64 c.head.kind,.int .i64 c.head.n,.string c.head.name,kv] aj rfl rfl ?_ ?_
  ·intro j v hj
   match j with
   | 0|1|2|3=>exact hj
   | j+4=>simp at hj
  refine Run.callPure nX pB hI (mG h1') fun w' hI=>?_
  cases hp:fw c.head
  ·repeat (first|refine ad ?_|refine ag (by decide) ?_|refine ae ?_|refine aq ?_|refine al ?_)
   exact done hI rfl
  ·repeat (first|refine ad ?_|refine ag (by decide) ?_|refine ae ?_|refine aq ?_|refine al ?_)
   refine aH hI 0 rfl bi aV rfl ?_
   refine Run.callPure r7 r6 hI (nD h2) fun w' hI=>?_
   repeat (first|refine ad ?_|refine ag (by decide) ?_|refine ae ?_|refine aq ?_|refine al ?_)
   exact done hI rfl

end Go.Proofs.YtmnnpgdeecnfpaaGreat

/- A row of a function's own, handed to a function that only reads; rows of numbers. -/
namespace Go.Proofs.YtmnnpgdeecnfpaaGreat
open Go Go.RowKit
attribute [local irreducible] Run CondV ah ba

def RowRd (S:ax) (v:Value) (e:TypeId) (k n:Nat) (xs:List Value):Prop:=
 xs.length=n * k/\((v=.slice none 0 0/\n=0) ∨ ∃ g cap cur,v=.slice (some ⟨g,0,none⟩) n cap/\S g=some (.cells cur e)/\n<=cap/\cap<=maxLen/\cur.size=cap * k/\cur.toList.take (n * k)=xs)
theorem Inv.lend {w0 w:World} {X:List Nat} {A:List Item} {S:ax} {v:Value} {e:TypeId} {k n:Nat} {xs:List Value} (h:Inv w0 X (A++[.row v e k n xs]) S w) :
  ∃ S',Sle S S'/\RowRd S' v e k n xs/\Inv w0 X A S' w/\∀ B w',Inv w0 X B S' w'->Inv w0 X (B++[.row v e k n xs]) S w':=by
 have hm:w.ownsRow 0 e k v n xs:=h.its (.row v e k n xs) (by simp)
 obtain ⟨hl,hm⟩:=hm
 rcases hm with ⟨rfl,rfl⟩|⟨g,cap,cur,rfl,_,hg,hnc,hcm,hcs,ht⟩
 ·have:xs=[]:=List.eq_nil_of_length_eq_zero (by rw [hl,Nat.zero_mul])
  subst this
  exact ⟨S,Sle.refl S,⟨hl,.inl ⟨rfl,rfl⟩⟩,h.sub (List.sublist_append_left _ _),fun B w' hB=>hB.rowNil e k⟩
 ·have hf:bJ (A++[Item.blk g (.cells cur e)])=bJ (A++[Item.row (.slice (some ⟨g,0,none⟩) n cap) e k n xs]):=by
   simp [bJ,Item.foot,Value.ownBlock]
  have hg':g∈bJ (A++[Item.row (.slice (some ⟨g,0,none⟩) n cap) e k n xs]):=by simp [bJ,Item.foot,Value.ownBlock]
  have h':Inv w0 X (A++[Item.blk g (.cells cur e)]) S w:=by
   refine ⟨h.size,h.os,h.tape,h.output,h.old,fun it hit=>?_,by rw [hf]; exact h.nd,by rw [hf]; exact h.new,by rw [hf]; exact h.pub⟩
   rcases List.mem_append.1 hit with hit|hit
   ·exact h.its it (List.mem_append_left _ hit)
   ·simp at hit
    subst hit
    exact hg
  obtain ⟨h1,h2⟩:=h'.publishLast
  refine ⟨ju S g (.cells cur e),h2,⟨hl,.inr ⟨g,cap,cur,rfl,by simp [ju],hnc,hcm,hcs,ht⟩⟩,h1,fun B w' hB=>?_⟩
  have hpg:=hB.pub g (.cells cur e) (by simp [ju])
  have hfB:bJ (B++[Item.row (.slice (some ⟨g,0,none⟩) n cap) e k n xs])=bJ B++[g]:=by simp [bJ,Item.foot,Value.ownBlock]
  refine ⟨hB.size,hB.os,hB.tape,hB.output,hB.old,fun it hit=>?_,?_,?_,?_⟩
  ·rcases List.mem_append.1 hit with hit|hit
   ·exact hB.its it hit
   ·simp at hit
    subst hit
    exact ⟨hl,.inr ⟨g,cap,cur,rfl,Nat.zero_le _,hpg.1,hnc,hcm,hcs,ht⟩⟩
  ·rw [hfB,List.nodup_append]
   refine ⟨hB.nd,by simp,fun a ha b hb=>?_⟩
   simp at hb
   subst hb
   intro e'
   subst e'
   exact hpg.2 ha
  ·intro c hc
   rw [hfB] at hc
   rcases List.mem_append.1 hc with hc|hc
   ·exact hB.new c hc
   ·simp at hc
    subst hc
    exact h.new _ hg'
  ·intro c o hc
   have hne:c≠g:=fun e'=>by
    subst e'
    exact (h.pub c o hc).2 hg'
   have:=hB.pub c o (by simp only [ju]; rw [if_neg hne]; exact hc)
   refine ⟨this.1,?_⟩
   rw [hfB]
   intro hc'
   rcases List.mem_append.1 hc' with hc'|hc'
   ·exact this.2 hc'
   ·simp at hc'
    exact hne hc'
theorem Cd {α:Type} (f:α->List Value) (k:Nat) (hf:∀ y,(f y).length=k):∀ (ys:List α) (i:Nat) (h:i<ys.length),((ys.flatMap f).drop (i * k)).take k=f ys[i]
 | [],i,h=>by simp at h
 | y::ys,0,h=>by
  rw [List.flatMap_cons,Nat.zero_mul,List.drop_zero,List.take_append_of_le_length (by rw [hf]; exact Nat.le_refl _),List.take_of_length_le (by rw [hf]; exact Nat.le_refl _)]
  rfl
 | y::ys,i+1,h=>by
  rw [List.flatMap_cons,Nat.succ_mul,Nat.add_comm,<- List.drop_drop,List.drop_left' (hf y)]
  exact Cd f k hf ys i (by simpa using h)
theorem RowRd.rd {α:Type} {S:ax} {v:Value} {e:TypeId} {k:Nat} {f:α->List Value} {R:List Value->α->Prop} {ys:List α} (hf:∀ y,(f y).length=k) (hR:∀ y∈ys,R (f y) y)
  (h:RowRd S v e k ys.length (ys.flatMap f)):RdSl S k R v ys:=by
 obtain ⟨hl,h⟩:=h
 rcases h with ⟨rfl,h0⟩|⟨g,cap,cur,rfl,hS,hnc,hcm,hcs,ht⟩
 ·have:ys=[]:=List.eq_nil_of_length_eq_zero h0
  subst this
  exact ⟨none,0,rfl,Nat.le_refl _,Nat.zero_le _,.inl rfl⟩
 ·refine ⟨_,cap,rfl,hnc,hcm,.inr ⟨g,0,cur,e,(0,0),rfl,hS,fun i hi=>?_⟩⟩
  have:=Cd f k hf ys i hi
  have hik:i * k+k<=ys.length * k:=by rw [<- Nat.succ_mul]; exact Nat.mul_le_mul_right k hi
  rw [<- ht,List.drop_take,List.take_take,Nat.min_eq_left (by omega)] at this
  rw [bB,Nat.zero_add,this]
  exact hR _ (List.getElem_mem hi)

/- rows of numbers -/
def ints (ns:List Int):List Value:=ns.flatMap fun n=>[.int .i64 n]
abbrev fB (v:Value) (ns:List Int):Item:=.row v gN 1 ns.length (ints ns)
theorem wj (ns:List Int) (n:Int):ints ns++[.int .i64 n]=ints (ns++[n]):=by simp [ints]
theorem RowRd.ints {S:ax} {v:Value} {e:TypeId} {ns:List Int} (h:RowRd S v e 1 ns.length (ints ns)):RdSl S 1 oH v ns:=
 RowRd.rd (f:=fun n=>[Value.int .i64 n]) (fun _=>rfl) (fun _ _=>rfl) h
def sw (l:List Int) (n:Int):Bool:=l.any fun x=>decide (n=x)
def gI (l:List Int) (n:Int):List Int:=if sw l n=true then l else l++[n]
theorem xw (l:List Int) (n:Int):(gI l n).length<=l.length+1:=by
 unfold gI
 split <;> simp

theorem kt (s:Int) {xs:List Int} {S:ax} {v:Value} (h:RdSl S 1 oH v xs) :
  Pure Tryz.prog vl [v,.int .i64 s] S (.int .i64 (cI (σ:=Unit) (fun _ x=>(decide (s=x),())) () xs 0).1):=by
 intro w hI
 have hlen:=h.le
 simp only [maxLen] at hlen
 refine oC ?_
 unfold lJ
 refine bo h iZ ?_
 refine ⟨fun i w'=>∃ k:Nat,k<=xs.length/\i=.int .i64 k/\cI (σ:=Unit) (fun _ x=>(decide (s=x),())) () (xs.drop k) k=cI (σ:=Unit) (fun _ x=>(decide (s=x),())) () xs 0/\Inv w [] [] S w',
  fun i _=>xs.length - (intOf i).toNat,⟨0,Nat.zero_le _,rfl,rfl,hI⟩,?_⟩
 intro t8 _ _ _ _ _ _ _ _ _ _ _ _ w'
 rintro ⟨k,hk,rfl,hrel,hI⟩
 refine dh ?_
 refine bz (fun hki=>?_) (fun hki=>?_)
 ·have hk':k<xs.length:=by omega
  rw [List.drop_eq_getElem_cons hk',cI] at hrel
  refine sJ hI h iZ bw hk' (fun cs hcs=>hcs) ?_
  refine bK ?_
  refine bz (fun he=>done hI ?_) (fun he=>?_)
  ·rw [<- hrel,if_pos (by simpa using he)]
  ·refine ct (by omega) ?_
   rw [if_neg (by simpa using he)] at hrel
   exact ⟨⟨k+1,hk',rfl,hrel,hI⟩,by simp [intOf]; omega⟩
 ·have:k=xs.length:=by omega
  subst this
  rw [List.drop_length,cI] at hrel
  exact done hI (by rw [<- hrel])
theorem mP (s:Int) {xs:List Int} {S:ax} {v:Value} (h:RdSl S 1 oH v xs):Pure Tryz.prog qe [v,.int .i64 s] S (.bool (sw xs s)):=by
 intro w hI
 refine lN ?_
 unfold i4
 refine Run.callPure lO lQ hI (kt s h) fun w' hI=>?_
 refine pg (done hI ?_)
 rw [(jO _ xs () 0).1,lZ]; rfl
end Go.Proofs.YtmnnpgdeecnfpaaGreat

/- The variables of terms, on both sides: lists of numbers that grow. -/
namespace Go.Proofs.YtmnnpgdeecnfpaaGreat
open Go Go.RowKit
attribute [local irreducible] Run CondV ah ba

mutual
def eE:T->List Int->List Int
 | .mk k n _ ks,l=>df ks (if k=1 then gI l n else l)
def df:List T->List Int->List Int
 | [],l=>l
 | t::ts,l=>df ts (eE t l)
end
mutual
def fl:T->List Int->List Int
 | .mk k n _ ks,l=>if k=1 then gI l n else dK ks l
def dK:List T->List Int->List Int
 | [],l=>l
 | t::ts,l=>dK ts (fl t l)
end
mutual
theorem uF:∀ (t:T) (l:List Int),((eE t l).length:Int)<=l.length+dN t
 | .mk k n s ks,l=>by
  rw [eE,show dN (T.mk k n s ks)=1+dk ks from rfl]
  have h1:=xw l n
  have:=uo ks (if k=1 then gI l n else l)
  split at this <;> rename_i hk <;> simp only [hk,if_true,if_false] at this ⊢ <;> omega
theorem uo:∀ (ts:List T) (l:List Int),((df ts l).length:Int)<=l.length+dk ts
 | [],l=>by simp [df,dk]
 | t::ts,l=>by
  rw [df,show dk (t::ts)=dN t+dk ts from rfl]
  have:=uF t l
  have:=uo ts (eE t l)
  omega
end
mutual
theorem pW:∀ (t:T) (l:List Int),((fl t l).length:Int)<=l.length+dN t
 | .mk k n s ks,l=>by
  rw [fl,show dN (T.mk k n s ks)=1+dk ks from rfl]
  have h1:=xw l n
  have:=eo ks
  split
  ·omega
  ·have:=wx ks l
   omega
theorem wx:∀ (ts:List T) (l:List Int),((dK ts l).length:Int)<=l.length+dk ts
 | [],l=>by simp [dK,dk]
 | t::ts,l=>by
  rw [dK,show dk (t::ts)=dN t+dk ts from rfl]
  have:=pW t l
  have:=wx ts (fl t l)
  omega
end
/- on valid terms the two are one -/
mutual
theorem ym:∀ (t:T) (d:Int) (l:List Int),dG t d=true->fl t l=eE t l
 | .mk k n s ks,d,l,h=>by
  rw [dG] at h
  split at h
  ·cases h
  ·rw [Bool.and_eq_true] at h
   rw [fl,eE]
   split
   ·rw [yL h.1 (.inl ‹k=1›)]; rfl
   ·exact tj ks (d - 1) l h.2
theorem tj:∀ (ts:List T) (d:Int) (l:List Int),dx ts d=true->dK ts l=df ts l
 | [],d,l,h=>rfl
 | t::ts,d,l,h=>by
  rw [dx,Bool.and_eq_true] at h
  rw [dK,df,ym t d l h.1]
  exact tj ts d _ h.2
end
theorem lp {t:T} (h:dA t=true):dG t 30=true:=by
 rw [dA,Bool.and_eq_true] at h
 exact h.1
abbrev BK (S:ax) (r:List Int):Value->List Item->ax->Prop:=fun v I' S'=>I'=[fB v r]/\S'=S

theorem wR:∀ (t:T) (S:ax) (cs:List Value) (v:Value) (l:List Int),RdT S cs t->l.length+dN t<=1000000000->Tri Tryz.prog AP [v,.agg cs.toArray] [fB v l] S (BK S (fl t l)):=by
 refine T.ind fun k n s ks ih S cs v l h hl=>?_
 intro w hI
 obtain ⟨kv,rfl,_,_,hs,hks⟩:=RdT.iff.1 h
 simp only [T.name,T.kids,T.kind,T.n] at hs hks ⊢
 have hlen:=hks.le
 simp only [maxLen] at hlen
 rw [show dN (T.mk k n s ks)=1+dk ks from rfl] at hl
 have hcp:=eo ks
 have hend:∀ {w':World} {v':Value} {b:Nat} {o:Obj} (r:List Int),Inv w (bJ [fB v l]) [.blk b o,fB v' r] S w'->r=fl (.mk k n s ks) l->
   ∃ v'' I' S',Ending.returned v'=.returned v''/\Inv w (bJ [fB v l]) I' S' w'/\Ext w.heap.size (bJ [fB v l]) S S'/\BK S (fl (.mk k n s ks) l) v'' I' S':=by
  intro w' v' b o r h1 h2
  subst h2
  exact ⟨_,_,_,rfl,h1.pick [false,true],Ext.refl _ _ _,rfl,rfl⟩
 refine uq ?_
 unfold rE
 refine co hI fun b3 w' hI=>?_
 have hI:=hI.perm (M:=[.blk b3 (.cells #[.int .i64 k,.int .i64 n,.string s,kv] ac),fB v l]) (List.Perm.swap _ _ _)
 refine aH hI 0 rfl bF bw rfl ?_
 refine bK ?_
 refine bz (fun hk=>?_) (fun hk=>?_)
 ·have hr:gI l n=fl (.mk k n s ks) l:=by rw [fl,if_pos hk]
  obtain ⟨S1,hle,hrd,hI,hback⟩:=Inv.lend (A:=[_]) hI
  have hrd:=hrd.ints
  refine ⟨fun i w'=>∃ j:Nat,j<=l.length/\i=.int .i64 j/\sw (l.drop j) n=sw l n/\Inv w (bJ [fB v l]) [.blk b3 (.cells #[.int .i64 k,.int .i64 n,.string s,kv] ac)] S1 w',
   fun i _=>l.length - (intOf i).toNat,⟨0,Nat.zero_le _,rfl,rfl,hI⟩,?_⟩
  intro t5 _ _ _ _ t22 t21 t20 t19 t18 t17 t16 _ _ _ _ w'
  rintro ⟨j,hj,rfl,hrel,hI⟩
  refine bo hrd iZ ?_
  refine dh ?_
  refine bz (fun hji=>?_) (fun hji=>?_)
  ·have hj':j<l.length:=by omega
   have hstep:sw (l.drop j) n=(decide (n=l[j]) || sw (l.drop (j+1)) n):=z2 _ l j hj'
   obtain ⟨b,o,cap,c,E,fz,rfl,hS,hR⟩:=hrd.at_ hj'
   refine ⟨fun D de cY cK c4 eI dQ dX w_=>(D 0=true->dX=.slice (some ⟨b,o,none⟩) l.length cap)/\(D 1=true->dQ=.int .i64 j)/\(D 2=true->eI=.pointer (some ⟨b,o+j * 1,none⟩))/\(D 3=true->c4=.int .i64 l[j])/\(D 4=true->cK=.pointer (some ⟨b3,1,none⟩))/\(D 5=true->cY=.int .i64 n)/\(D 6=true->de=.bool (decide (l[j]=n)))/\Inv w (bJ [fB (.slice (some ⟨b,o,none⟩) l.length cap) l]) [.blk b3 (.cells #[.int .i64 k,.int .i64 n,.string s,kv] ac)] S1 w_,⟨af,af,af,af,af,af,af,hI.draw⟩,⟨?_,?_,?_,?_,?_,?_,?_,trivial⟩,?_⟩
   ·intro D a6  de cY cK c4 eI dQ dX w_
    rintro ⟨aF,aC,aB,aE,aD,aG,az,hI⟩
    exact ⟨fun _=>rfl,aC,aB,aE,aD,aG,az,hI⟩
   ·intro D a6  de cY cK c4 eI dQ dX w_
    rintro ⟨aF,aC,aB,aE,aD,aG,az,hI⟩
    exact ⟨aF,fun _=>rfl,aB,aE,aD,aG,az,hI⟩
   ·intro D a6 dc gl de cY cK c4 eI dQ dX w_
    rintro ⟨aF,aC,aB,aE,aD,aG,az,hI⟩
    obtain rfl:=aF dc
    obtain rfl:=aC gl
    refine bv iZ hj' ?_
    exact ⟨aF,aC,fun _=>rfl,aE,aD,aG,az,hI⟩
   ·intro D a6 dy de cY cK c4 eI dQ dX w_
    rintro ⟨aF,aC,aB,aE,aD,aG,az,hI⟩
    obtain rfl:=aB dy
    refine d4 bw (by rw [hI.cellS hS]; exact bC hR 0 _ rfl) ?_
    exact ⟨aF,aC,aB,fun _=>rfl,aD,aG,az,hI⟩
   ·intro D a6  de cY cK c4 eI dQ dX w_
    rintro ⟨aF,aC,aB,aE,aD,aG,az,hI⟩
    refine bh bE ?_
    exact ⟨aF,aC,aB,aE,fun _=>rfl,aG,az,hI⟩
   ·intro D a6 jj de cY cK c4 eI dQ dX w_
    rintro ⟨aF,aC,aB,aE,aD,aG,az,hI⟩
    obtain rfl:=aD jj
    refine bG hI 0 bw rfl rfl ?_
    exact ⟨aF,aC,aB,aE,aD,fun _=>rfl,az,hI⟩
   ·intro D a6 ef gd de cY cK c4 eI dQ dX w_
    rintro ⟨aF,aC,aB,aE,aD,aG,az,hI⟩
    obtain rfl:=aE ef
    obtain rfl:=aG gd
    refine bK ?_
    exact ⟨aF,aC,aB,aE,aD,aG,fun _=>rfl,hI⟩
   intro D gM gT hO iR im iT iS de cY cK c4 eI dQ dX w_
   rintro ⟨aF,aC,aB,aE,aD,aG,az,hI⟩
   obtain rfl:=az gM
   obtain rfl:=aG gT
   obtain rfl:=aD hO
   obtain rfl:=aE iR
   obtain rfl:=aB im
   obtain rfl:=aC iT
   obtain rfl:=aF iS
   clear aF aC aB aE aD aG az
   refine bz (fun he=>?_) (fun he=>?_)
   ·refine hend l (hback _ _ hI) ?_
    rw [<- hr,gI,if_pos (by rw [<- hrel,hstep,decide_eq_true he.symm]; rfl)]
   ·refine ct (by omega) ?_
    exact ⟨⟨j+1,hj',rfl,by rw [<- hrel,hstep,decide_eq_false (fun e=>he e.symm)]; rfl,hI⟩,by simp [intOf]; omega⟩
  ·have:j=l.length:=by omega
   subst this
   have hno:sw l n=false:=by rw [<- hrel,List.drop_length]; rfl
   have hI:Inv w (bJ [fB v l]) [.blk b3 (.cells #[.int .i64 k,.int .i64 n,.string s,kv] ac),fB v l] S _:=hback _ _ hI
   refine aH hI 0 rfl bE bw rfl ?_
   refine dg hI nw rfl (by omega) (by omega) fun b w' hI=>?_
   refine dU hI 1 (k:=1) [.int .i64 n] nw (by omega) rfl rfl ?_ ?_ (by omega) (by omega) fun v' w' hI=>?_
   ·intro j u hj
    rw [hI.cellL (i:=2) rfl]
    match j with
    | 0=>simpa [Value.cells] using hj
    | j+1=>simp at hj
   ·simp [Value.oneCell']
   ·rw [wj] at hI
    have hI:=hI.pick [true,true,false]
    refine hend (b:=b3) (o:=.cells #[.int .i64 k,.int .i64 n,.string s,kv] ac) (l++[n]) ?_ ?_
    ·have e:Item.row v' gN 1 (l.length+1) (ints (l++[n]))=fB v' (l++[n]):=by simp [fB]
     exact e ▸ hI
    ·rw [<- hr,gI,if_neg (by rw [hno]; decide)]
 ·have hr:dK ks l=fl (.mk k n s ks) l:=by rw [fl,if_neg hk]
  refine ⟨fun i t w'=>∃ (j:Nat) (l':List Int),j<=ks.length/\i=.int .i64 j/\dK (ks.drop j) l'=dK ks l/\l'.length+dk (ks.drop j)<=1000000000/\Inv w (bJ [fB v l]) [.blk b3 (.cells #[.int .i64 k,.int .i64 n,.string s,kv] ac),fB t l'] S w',
   fun i _ _=>ks.length - (intOf i).toNat,⟨0,l,Nat.zero_le _,rfl,rfl,by rw [List.drop_zero]; omega,hI⟩,?_⟩
  intro t6 _ _ t0 _ _ _ _ _ _ _ _ _ _ _ _ w'
  rintro ⟨j,l',hj,rfl,hrel,hl',hI⟩
  refine aH hI 0 rfl a9 aV rfl ?_
  refine bo hks aS ?_
  refine dh ?_
  refine bz (fun hji=>?_) (fun hji=>?_)
  ·have hj':j<ks.length:=by omega
   rw [iI ks j hj'] at hl'
   rw [List.drop_eq_getElem_cons hj',dK] at hrel
   have hc1:=eo (ks.drop (j+1))
   have hc2:=pW ks[j] l'
   refine aH hI 0 rfl a9 aV rfl ?_
   refine ei hI hks aS aj hj' (fun _ _=>RdT.length) fun cs' hcs'=>?_
   refine Run.call (A:=[_]) qG rh hI (ih _ (List.getElem_mem hj') S cs' t0 l' hcs' (by omega)) fun v' I' S' w'=>?_
   rintro ⟨rfl,rfl⟩ _ hI
   refine ct (by omega) ?_
   exact ⟨⟨j+1,_,hj',rfl,hrel,by omega,hI⟩,by simp [intOf]; omega⟩
  ·have:j=ks.length:=by omega
   subst this
   rw [List.drop_length,dK] at hrel
   exact hend l' hI (by rw [hrel,hr])

theorem uW:∀ (t:T) (S:ax) (cs:List Value) (v:Value) (l:List Int),RdT S cs t->l.length+dN t<=1000000000->Tri Tryz.prog zn [.agg cs.toArray,v] [fB v l] S (BK S (eE t l)):=by
 refine T.ind fun k n s ks ih S cs v l h hl=>?_
 intro w hI
 obtain ⟨kv,rfl,_,_,hs,hks⟩:=RdT.iff.1 h
 simp only [T.name,T.kids,T.kind,T.n] at hs hks ⊢
 have hlen:=hks.le
 simp only [maxLen] at hlen
 rw [show dN (T.mk k n s ks)=1+dk ks from rfl] at hl
 have hcp:=eo ks
 have hal:=xw l n
 refine sB ?_
 unfold oR
 refine co hI fun b2 w' hI=>?_
 have hI:=hI.perm (M:=[.blk b2 (.cells #[.int .i64 k,.int .i64 n,.string s,kv] ac),fB v l]) (List.Perm.swap _ _ _)
 refine ⟨fun t w'=>Inv w (bJ [fB v l]) [.blk b2 (.cells #[.int .i64 k,.int .i64 n,.string s,kv] ac),fB t (if k=1 then gI l n else l)] S w',?_,?_⟩
 ·refine ⟨fun t w'=>t=.bool (decide (k=1) && !sw l n)/\Inv w (bJ [fB v l]) [.blk b2 (.cells #[.int .i64 k,.int .i64 n,.string s,kv] ac),fB v l] S w',?_,?_⟩
  ·refine aH hI 0 rfl bF bw rfl ?_
   refine bK ?_
   cases h1:decide (k=1)
   ·repeat (first|refine ad ?_|refine ag (by decide) ?_|refine ae ?_|refine aq ?_|refine al ?_)
    exact ⟨rfl,hI⟩
   ·repeat (first|refine ad ?_|refine ag (by decide) ?_|refine ae ?_|refine aq ?_|refine al ?_)
    refine aH hI 0 rfl bE bw rfl ?_
    obtain ⟨S1,hle,hrd,hI,hback⟩:=Inv.lend (A:=[_]) hI
    refine Run.callPure o7 oj hI (mP n hrd.ints) fun w' hI=>?_
    refine dT ?_
    repeat (first|refine ad ?_|refine ag (by decide) ?_|refine ae ?_|refine aq ?_|refine al ?_)
    exact ⟨rfl,hback _ _ hI⟩
  intro t16 _ _ _ _ _ _ _ _ _ w'
  rintro ⟨rfl,hI⟩
  refine bg (fun hb=>?_) (fun hb=>?_)
  ·simp only [Bool.and_eq_true,decide_eq_true_eq,Bool.not_eq_true'] at hb
   refine aH hI 0 rfl bE bw rfl ?_
   refine dg hI nw rfl (by omega) (by omega) fun b w' hI=>?_
   refine dU hI 1 (k:=1) [.int .i64 n] nw (by omega) rfl rfl ?_ ?_ (by omega) (by omega) fun v' w' hI=>?_
   ·intro j u hj
    rw [hI.cellL (i:=2) rfl]
    match j with
    | 0=>simpa [Value.cells] using hj
    | j+1=>simp at hj
   ·simp [Value.oneCell']
   ·rw [wj] at hI
    have hI:=hI.pick [true,true,false]
    rw [if_pos hb.1,gI,if_neg (by rw [hb.2]; decide)]
    have e:Item.row v' gN 1 (l.length+1) (ints (l++[n]))=fB v' (l++[n]):=by simp [fB]
    rw [show List.length l+1=l.length+1 from rfl,e] at hI
    exact hI
  ·have:(if k=1 then gI l n else l)=l:=by
    split
    ·rename_i hk
     rw [gI]
     simp [hk] at hb
     rw [if_pos hb]
    ·rfl
   rw [this]
   exact hI
 intro t1 _ _ _ _ _ _ _ _ _ _ _ _ _ _ _ w' hI
 have hl1:((if k=1 then gI l n else l).length:Int)+dk ks<=1000000000:=by split <;> omega
 rw [show eE (.mk k n s ks) l=df ks (if k=1 then gI l n else l) from by rw [eE]]
 generalize (if k=1 then gI l n else l)=l1 at hI hl1 ⊢
 refine aH hI 0 rfl a9 aV rfl ?_
 refine bo hks aS ?_
 refine ⟨fun i t w'=>∃ (j:Nat) (l':List Int),j<=ks.length/\i=.int .i64 j/\df (ks.drop j) l'=df ks l1/\l'.length+dk (ks.drop j)<=1000000000/\Inv w (bJ [fB v l]) [.blk b2 (.cells #[.int .i64 k,.int .i64 n,.string s,kv] ac),fB t l'] S w',
  fun i _ _=>ks.length - (intOf i).toNat,⟨0,l1,Nat.zero_le _,rfl,rfl,by rw [List.drop_zero]; omega,hI⟩,?_⟩
 intro t25 _ t1 _ _ _ _ _ _ _ w'
 rintro ⟨j,l',hj,rfl,hrel,hl',hI⟩
 refine dh ?_
 refine bz (fun hji=>?_) (fun hji=>?_)
 ·have hj':j<ks.length:=by omega
  rw [iI ks j hj'] at hl'
  rw [List.drop_eq_getElem_cons hj',df] at hrel
  have hc1:=eo (ks.drop (j+1))
  have hc2:=uF ks[j] l'
  refine ei hI hks aS aj hj' (fun _ _=>RdT.length) fun cs' hcs'=>?_
  have hlc:=hcs'.length
  refine bm hI bx fun b6 w' hI=>?_
  refine aX hI 2 rfl aj (by simpa using hlc) rfl (by simpa using hcs'.one) fun w' hI=>?_
  refine bb hI 2 aj rfl (by simpa using hlc) ?_
  have hI:=hI.pick [true,true,false]
  refine Run.call (A:=[_]) pk oa hI (ih _ (List.getElem_mem hj') S cs' t1 l' hcs' (by omega)) fun v' I' S' w'=>?_
  rintro ⟨rfl,rfl⟩ _ hI
  refine ct (by omega) ?_
  exact ⟨⟨j+1,_,hj',rfl,hrel,by omega,hI⟩,by simp [intOf]; omega⟩
 ·have:j=ks.length:=by omega
  subst this
  rw [List.drop_length,df] at hrel
  subst hrel
  exact ⟨_,_,_,rfl,hI.pick [false,true],Ext.refl _ _ _,rfl,rfl⟩
theorem xo {ts:List T} {S:ax} {v:Value} (h:RdSl S 4 (RdT S) v ts) (hl:dk ts<=1000000000):Tri Tryz.prog Ay [v] [] S (BK S (df ts [])):=by
 intro w hI
 have hlen:=h.le
 simp only [maxLen] at hlen
 refine tt ?_
 unfold rD
 refine bo h aS ?_
 refine ⟨fun i t w'=>∃ (j:Nat) (l':List Int),j<=ts.length/\i=.int .i64 j/\df (ts.drop j) l'=df ts []/\l'.length+dk (ts.drop j)<=1000000000/\Inv w [] [fB t l'] S w',
  fun i _ _=>ts.length - (intOf i).toNat,⟨0,[],Nat.zero_le _,rfl,rfl,by simpa using hl,hI.rowNil gN 1⟩,?_⟩
 intro t8 _ t3 _ _ _ _ _ _ _ w'
 rintro ⟨j,l',hj,rfl,hrel,hl',hI⟩
 refine dh ?_
 refine bz (fun hji=>?_) (fun hji=>?_)
 ·have hj':j<ts.length:=by omega
  rw [iI ts j hj'] at hl'
  rw [List.drop_eq_getElem_cons hj',df] at hrel
  have hc1:=eo (ts.drop (j+1))
  have hc2:=uF ts[j] l'
  refine ei hI h aS aj hj' (fun _ _=>RdT.length) fun cs' hcs'=>?_
  have hlc:=hcs'.length
  refine bm hI bx fun b6 w' hI=>?_
  refine aX hI 1 rfl aj (by simpa using hlc) rfl (by simpa using hcs'.one) fun w' hI=>?_
  refine bb hI 1 aj rfl (by simpa using hlc) ?_
  have hI:=hI.pick [true,false]
  refine Run.call (A:=[]) pk oa hI (uW _ S cs' t3 l' hcs' (by omega)) fun v' I' S' w'=>?_
  rintro ⟨rfl,rfl⟩ _ hI
  refine ct (by omega) ?_
  exact ⟨⟨j+1,_,hj',rfl,hrel,by omega,hI⟩,by simp [intOf]; omega⟩
 ·have:j=ts.length:=by omega
  subst this
  rw [List.drop_length,df] at hrel
  subst hrel
  exact ⟨_,_,_,rfl,hI,Ext.refl _ _ _,rfl,rfl⟩

end Go.Proofs.YtmnnpgdeecnfpaaGreat

/- Flat clauses and programs, on both sides. -/
namespace Go.Proofs.YtmnnpgdeecnfpaaGreat
open Go Go.RowKit
attribute [local irreducible] Run CondV ah ba

section
variable {P:Program} {w w0:World} {X:List Nat} {L:List Item} {S:ax} {K:Value->World->Prop}
end
theorem AB {t:T} (h:eL t=true):dG t 30=true:=by
 rw [eL,Bool.and_eq_true] at h
 exact lp h.1
theorem rM:∀ {ts:List T},ts.all eL=true->dx ts 30=true
 | [],_=>rfl
 | t::ts,h=>by
  rw [List.all_cons,Bool.and_eq_true] at h
  rw [dx,AB h.1,rM h.2]; rfl
theorem qC {c:C} (h:bH c=true) (l:List Int):fl c.head l=eE c.head l/\dK c.body l=df c.body l:=by
 simp only [bH,Bool.and_eq_true] at h
 exact ⟨ym _ 30 _ (lp h.2.2.1),tj _ 30 _ (rM h.2.1)⟩
end Go.Proofs.YtmnnpgdeecnfpaaGreat

/- The row's reading of the arguments gives the reading of this proof; and what a law that returns true owes. -/
namespace Go.Proofs.YtmnnpgdeecnfpaaGreat
open Go Go.ChangeShapes Go.WideShapes Go.ChangeAt Go.RowKit

def BG (W:World):ax:=fun b=>W.heap[b]?
section
variable {H:Type} {enc:TypeId × Value->H} {P:Program} {W:World} {sp:Nat->Bool} {held:Bool}
theorem CA {a:Addr} {v:Value} (h:W.cell? a=some v):∃ b o c E fz,a=⟨b,o,none⟩/\W.heap[b]?=some (.cells c E fz)/\c[o]?=some v:=by
 obtain ⟨b,o,s⟩:=a
 simp only [World.cell?] at h
 split at h
 ·rename_i c E fz hb
  cases s with
  | none=>exact ⟨b,o,c,E,fz,rfl,hb,by simpa using h⟩
  | some s=>simp at h
 ·cases h
theorem Ec {b o k:Nat} {cs:List Value} {c:Array Value} {E:TypeId} {fz:Nat × Nat} (hb:W.heap[b]?=some (.cells c E fz)) (h:W.cells? 0 ⟨b,o,none⟩ k=some cs):bB c o k=cs:=by
 unfold World.cells? at h
 rw [if_pos (Nat.zero_le _)] at h
 have hl:cs.length=k:=by simpa using mapM_some_length h
 apply List.ext_getElem?
 intro i
 rw [bB,List.getElem?_take]
 by_cases hi:i<k
 ·rw [if_pos hi,List.getElem?_drop]
  have:=mapM_some_get h i i (by simp [hi])
  rw [<- this,jV]
  simp [World.cell?,hb]
 ·rw [if_neg hi,List.getElem?_eq_none (by omega)]
theorem rr {α:Type} (p:Nat->α->Prop):∀ n:Nat,(∀ i,i<n->∃ t,p i t)->∃ xs:List α,xs.length=n/\∀ i (h:i<xs.length),p i xs[i]
 | 0,_=>⟨[],rfl,fun i h=>by simp at h⟩
 | n+1,h=>by
  obtain ⟨xs,hl,hx⟩:=rr p n fun i hi=>h i (by omega)
  obtain ⟨t,ht⟩:=h n (by omega)
  refine ⟨xs++[t],by simp [hl],fun i hi=>?_⟩
  by_cases e:i<xs.length
  ·rw [List.getElem_append_left e]
   exact hx i e
  ·have:i=xs.length:=by simp at hi; omega
   subst this
   simp only [List.getElem_append_right (Nat.le_refl _),Nat.sub_self,List.getElem_cons_zero]
   rw [hl]
   exact ht
theorem qR {T e:TypeId} {k:Nat} (h:dC P T=some (e,k)):P.underlying T=some (.slice e)/\P.cellsOf e=k:=by
 unfold dC at h
 split at h
 ·rename_i e' he
  rw [Option.map_eq_some_iff] at h
  obtain ⟨i,hi,hx⟩:=h
  simp only [Prod.mk.injEq] at hx
  obtain ⟨rfl,rfl⟩:=hx
  exact ⟨he,by simp [Program.cellsOf,hi]⟩
 ·cases h
theorem Ex {α:Type} {R:List Value->α->Prop} {T e:TypeId} {k fuel:Nat} {v:Value} {x:DataW H × List MemPlace} (hu:dC P T=some (e,k)) (hk0:0<k)
  (h:DataW.trod enc P W 0 sp held fuel T [v]=some x) (hel:∀ n cs y,fuel=n+1->DataW.trod enc P W 0 sp held n e cs=some y->∃ t:α,R cs t):∃ xs,RdSl (BG W) k R v xs:=by
 obtain ⟨hu1,hk⟩:=qR hu
 rcases DataW.trod_slice hu1 h with ⟨hcs,_⟩|⟨a,len,cap,elems,rest,n,hf,hcs,_,_,hl,hc,hlen,hE,_⟩
 ·simp only [List.cons.injEq,and_true] at hcs
  subst hcs
  exact ⟨[],none,0,rfl,Nat.le_refl _,Nat.zero_le _,.inl rfl⟩
 ·simp only [List.cons.injEq,and_true] at hcs
  subst hcs
  have hE':∀ i,i<len->∃ t:α,∃ cs,W.cells? 0 (a.add (i * k)) k=some cs/\R cs t:=by
   intro i hi
   have:=hE i hi
   rw [hk,List.getElem?_eq_getElem (by omega),Option.bind_eq_some_iff] at this
   obtain ⟨cs,h1,h2⟩:=this
   obtain ⟨t,ht⟩:=hel n cs _ hf h2
   exact ⟨t,cs,h1,ht⟩
  obtain ⟨xs,hxl,hxs⟩:=rr _ len hE'
  subst hxl
  refine ⟨xs,some a,cap,rfl,hl,hc,?_⟩
  by_cases h0:xs.length=0
  ·exact .inl (List.eq_nil_of_length_eq_zero h0)
  ·obtain ⟨cs0,h1,_⟩:=hxs 0 (by omega)
   have e0:a.add (0 * k)=a:=by rw [Nat.zero_mul]; simp [Addr.add]
   rw [e0] at h1
   have hc0:∃ u,W.cell? a=some u:=by
    unfold World.cells? at h1
    rw [if_pos (Nat.zero_le _)] at h1
    have hl0:cs0.length=k:=by simpa using mapM_some_length h1
    have:=mapM_some_get h1 0 0 (by simp [hk0])
    rw [List.getElem?_eq_getElem (by omega)] at this
    have e1:a.add 0=a:=by simp [Addr.add]
    rw [e1] at this
    exact ⟨_,this⟩
   obtain ⟨u,hu0⟩:=hc0
   obtain ⟨b,o,c,E,fz,rfl,hb,_⟩:=CA hu0
   refine .inr ⟨b,o,c,E,fz,rfl,hb,fun i hi=>?_⟩
   obtain ⟨cs,h2,hR⟩:=hxs i hi
   rw [jV] at h2
   rw [Ec hb h2]
   exact hR
end

section
variable {H:Type} {enc:TypeId × Value->H} {W:World} {sp:Nat->Bool} {held:Bool}
end

theorem Inv.entry (W:World):Inv W [] [] (BG W) W:=Inv.start (L:=[]) (by simp) (by simp [bJ]) fun b o hb=>⟨hb,by simp [bJ]⟩
theorem Inv.same {W W':World} {L:List Item} {S:ax} (h:Inv W [] L S W') (b:Nat) (hb:b<W.heap.size):W'.heap[b]?=W.heap[b]?:=h.old b hb (by simp)
theorem CI {W W':World} {may:MemPlace->Prop} (ho:W'.os=W.os) (hp:W'.output=W.output) (h:∀ b,b<W.heap.size->W'.heap[b]?=W.heap[b]?):W.keptBut W' may:=by
 refine ⟨ho,hp,fun i hi=>?_⟩
 rw [h i hi]
 split
 ·rename_i e1 e2
  rw [e1] at e2
  simp only [Option.some.injEq,Obj.cells.injEq] at e2
  obtain ⟨rfl,rfl,rfl⟩:=e2
  exact ⟨rfl,rfl,rfl,fun _ _=>rfl⟩
 ·rename_i e1 e2
  rw [e1] at e2
  simp only [Option.some.injEq,Obj.map.injEq] at e2
  obtain ⟨rfl,rfl⟩:=e2
  exact .inr ⟨rfl,rfl⟩
 ·rfl

end Go.Proofs.YtmnnpgdeecnfpaaGreat

/- The sizes: laws.szTerm and its kin. -/
namespace Go.Proofs.YtmnnpgdeecnfpaaGreat
open Go Go.RowKit
attribute [local irreducible] Run CondV ah ba


end Go.Proofs.YtmnnpgdeecnfpaaGreat

/- Equality of terms and clauses as the laws ask it. -/
namespace Go.Proofs.YtmnnpgdeecnfpaaGreat
open Go Go.RowKit
attribute [local irreducible] Run CondV ah ba

mutual
def eqT:T->T->Bool
 | .mk k n s ks,.mk k' n' s' ks'=>decide (k=k') && (decide (n=n') && (decide (s=s') && eqL ks ks'))
def eqL:List T->List T->Bool
 | [],[]=>true
 | t::ts,u::us=>eqT t u && eqL ts us
 | _,_=>false
end
mutual
theorem Cc:∀ a b:T,eqT a b=true↔a=b
 | .mk k n s ks,.mk k' n' s' ks'=>by
  simp only [eqT,Bool.and_eq_true,decide_eq_true_eq,sK ks ks',T.mk.injEq]
theorem sK:∀ a b:List T,eqL a b=true↔a=b
 | [],[]=>by simp [eqL]
 | [],_::_=>by simp [eqL]
 | _::_,[]=>by simp [eqL]
 | t::ts,u::us=>by
  simp only [eqL,Bool.and_eq_true,Cc t u,sK ts us,List.cons.injEq]
end
theorem ER:∀ {a b:List T},a.length≠b.length->eqL a b=false:=by
 intro a b h
 rw [<- Bool.not_eq_true,sK]
 rintro rfl
 exact h rfl
theorem tV {a b c d e:Value}:∀ (j:Nat) (v:Value),([a,b,c,d]:List Value)[j]?=some v->(#[a,b,c,d,e]:Array Value)[0+j]?=some v
 | 0,_,h|1,_,h|2,_,h|3,_,h=>h
 | j+4,_,h=>by simp at h

end Go.Proofs.YtmnnpgdeecnfpaaGreat

/- The sizes of clauses and of programs, and what they bound. -/
namespace Go.Proofs.YtmnnpgdeecnfpaaGreat
open Go Go.RowKit
attribute [local irreducible] Run CondV ah ba

/- toClauseS, and what it made published -/
end Go.Proofs.YtmnnpgdeecnfpaaGreat

/- The laws' marks: laws.markText. -/
namespace Go.Proofs.YtmnnpgdeecnfpaaGreat
open Go Go.RowKit
section
variable {P:Program} {w w0:World} {X:List Nat} {L:List Item} {S:ax} {K:Value->World->Prop}
attribute [local irreducible] Run CondV ah ba
end

section
attribute [local irreducible] Run CondV ah ba
end

end Go.Proofs.YtmnnpgdeecnfpaaGreat

/- The laws' marks, written into trees of the function's own. -/
namespace Go.Proofs.YtmnnpgdeecnfpaaGreat
open Go Go.RowKit

theorem Part.upd {α:Type} {k:Nat} {R:bn->List Value->α->Prop} {c c':Array Value} {Ls:List bn} {xs:List α} (h:Part k R c Ls xs) {i:Nat} {L':bn} {x:α} (hx:R L' (bB c' (i * k) k) x)
  (hne:∀ j,j≠i->bB c' (j * k) k=bB c (j * k) k):Part k R c' (Ls.set i L') (xs.set i x):=by
 refine ⟨by simp [h.1],fun j h1 h2=>?_⟩
 by_cases e:i=j
 ·subst e
  rw [List.getElem_set_self,List.getElem_set_self]
  exact hx
 ·rw [List.getElem_set_ne e,List.getElem_set_ne e,hne j fun e'=>e e'.symm]
  exact h.2 j (by simpa using h1) (by simpa using h2)
section
attribute [local irreducible] Run CondV ah ba
end

end Go.Proofs.YtmnnpgdeecnfpaaGreat

/- The laws' marks, written into clauses of the function's own. -/
namespace Go.Proofs.YtmnnpgdeecnfpaaGreat
open Go Go.RowKit

section
attribute [local irreducible] Run CondV ah ba
theorem TrC.parts {L:bn} {cs:List Value} {c:C} (h:TrC L cs c):∃ kv ks L1 L2,cs=[.int .i64 c.head.kind,.int .i64 c.head.n,.string c.head.name,kv,ks]/\L=L1++L2/\TrSl 4 TrT L1 kv c.head.kids/\TrSl 4 TrT L2 ks c.body:=by
 obtain ⟨hd,ks,L1,L2,rfl,rfl,h1,h2⟩:=h
 obtain ⟨kv,rfl,_,_,_,hkT⟩:=TrT.iff.1 h1
 exact ⟨kv,ks,L1,L2,rfl,rfl,hkT,h2⟩
end

end Go.Proofs.YtmnnpgdeecnfpaaGreat

/- The laws' marks, read again. -/
namespace Go.Proofs.YtmnnpgdeecnfpaaGreat
open Go Go.RowKit

section
attribute [local irreducible] Run CondV ah ba
end

end Go.Proofs.YtmnnpgdeecnfpaaGreat

/- Names of goals with their numbers of arguments: built, compared; the clauses for one. -/
namespace Go.Proofs.YtmnnpgdeecnfpaaGreat
open Go Go.RowKit

section
variable {w:World} {K:Value->World->Prop}
attribute [local irreducible] Run
end

attribute [local irreducible] Run CondV ah ba
structure Pd where
 name:ByteArray
 arity:Int
deriving DecidableEq
def Pd.cells (x:Pd):List Value:=[.string x.name,.int .i64 x.arity]
def EY (t:T):Pd:=⟨t.name,t.kids.length⟩
def F9 (x y:Pd):Bool:=decide (x.name=y.name) && decide (x.arity=y.arity)
end Go.Proofs.YtmnnpgdeecnfpaaGreat

/- The clauses for a goal; which clauses can be unfolded: both sides. -/
namespace Go.Proofs.YtmnnpgdeecnfpaaGreat
open Go Go.RowKit
attribute [local irreducible] Run CondV ah ba

end Go.Proofs.YtmnnpgdeecnfpaaGreat

/- Lists of predicates: asked and grown, on both sides. -/
namespace Go.Proofs.YtmnnpgdeecnfpaaGreat
open Go Go.RowKit
attribute [local irreducible] Run CondV ah ba

def G8 (l:List Pd) (x:Pd):Bool:=l.any fun y=>F9 x y
def GO (l:List Pd) (x:Pd):List Pd:=if G8 l x=true then l else l++[x]
end Go.Proofs.YtmnnpgdeecnfpaaGreat

/- Marks in rows of predicates; trees lent and taken back. -/
namespace Go.Proofs.YtmnnpgdeecnfpaaGreat
open Go Go.RowKit

/- a tree of the function's own, handed to readers, and taken back -/
theorem Inv.lendAll {w0 w:World} {X:List Nat} {A:List Item} (M:bn) {S:ax} (h:Inv w0 X (A++bk M) S w) :
  ∃ S',Sle S S'/\Ins S' M/\Inv w0 X A S' w/\∀ B w',Inv w0 X B S' w'->Inv w0 X (B++bk M) S w':=by
 obtain ⟨S',h1,h2,h3,h4⟩:=Inv.publishAll M h
 have hnd:=h.nd
 rw [cj,List.nodup_append] at hnd
 refine ⟨S',h2,h3,h1,fun B w' hB=>⟨hB.size,hB.os,hB.tape,hB.output,hB.old,fun it hit=>?_,?_,fun b hb=>?_,fun b o hb=>⟨(hB.pub b o (h2 b o hb)).1,fun hb'=>?_⟩⟩⟩
 ·rcases List.mem_append.1 hit with hit|hit
  ·exact hB.its it hit
  ·obtain ⟨p,hp,rfl⟩:=List.mem_map.1 hit
   exact (hB.pub _ _ (h3 p hp)).1
 ·rw [cj,List.nodup_append]
  refine ⟨hB.nd,hnd.2.1,fun a ha b hb e=>?_⟩
  subst e
  obtain ⟨p,hp,rfl⟩:=gi.1 hb
  exact (hB.pub _ _ (h3 p hp)).2 ha
 ·rw [cj] at hb
  rcases List.mem_append.1 hb with hb|hb
  ·exact hB.new b hb
  ·exact h.new b (by rw [cj]; exact List.mem_append_right _ hb)
 ·rw [cj] at hb'
  rcases List.mem_append.1 hb' with hb'|hb'
  ·exact (hB.pub b o (h2 b o hb)).2 hb'
  ·exact (h.pub b o hb).2 (by rw [cj]; exact List.mem_append_right _ hb')
/- a row seen as its block -/
theorem Inv.openRow {w0 w:World} {X:List Nat} {A:List Item} {S:ax} {v:Value} {e:TypeId} {k n:Nat} {xs:List Value} (h:Inv w0 X (A++[.row v e k n xs]) S w) :
  xs.length=n * k/\((v=.slice none 0 0/\n=0) ∨ ∃ g cap cur,v=.slice (some ⟨g,0,none⟩) n cap/\n<=cap/\cap<=maxLen/\cur.size=cap * k/\cur.toList.take (n * k)=xs/\Inv w0 X (A++[.blk g (.cells cur e)]) S w):=by
 have hm:w.ownsRow 0 e k v n xs:=h.its (.row v e k n xs) (by simp)
 obtain ⟨hl,hm⟩:=hm
 refine ⟨hl,?_⟩
 rcases hm with hn|⟨g,cap,cur,rfl,_,hg,hnc,hcm,hcs,ht⟩
 ·exact .inl hn
 ·have hf:bJ (A++[Item.blk g (.cells cur e)])=bJ (A++[Item.row (.slice (some ⟨g,0,none⟩) n cap) e k n xs]):=by
   simp [bJ,Item.foot,Value.ownBlock]
  refine .inr ⟨g,cap,cur,rfl,hnc,hcm,hcs,ht,h.size,h.os,h.tape,h.output,h.old,fun it hit=>?_,by rw [hf]; exact h.nd,by rw [hf]; exact h.new,by rw [hf]; exact h.pub⟩
  rcases List.mem_append.1 hit with hit|hit
  ·exact h.its it (List.mem_append_left _ hit)
  ·simp at hit
   subst hit
   exact hg
theorem Inv.closeRow {w0 w:World} {X:List Nat} {A:List Item} {S:ax} {g cap k n:Nat} {cur:Array Value} {e:TypeId} (h:Inv w0 X (A++[.blk g (.cells cur e)]) S w) (hn:n<=cap) (hc:cap<=maxLen) (hs:cur.size=cap * k) :
  Inv w0 X (A++[.row (.slice (some ⟨g,0,none⟩) n cap) e k n (cur.toList.take (n * k))]) S w:=by
 have hg:w.heap[g]?=some (.cells cur e):=h.its (.blk g (.cells cur e)) (by simp)
 have hf:bJ (A++[Item.row (.slice (some ⟨g,0,none⟩) n cap) e k n (cur.toList.take (n * k))])=bJ (A++[Item.blk g (.cells cur e)]):=by
  simp [bJ,Item.foot,Value.ownBlock]
 refine ⟨h.size,h.os,h.tape,h.output,h.old,fun it hit=>?_,by rw [hf]; exact h.nd,by rw [hf]; exact h.new,by rw [hf]; exact h.pub⟩
 rcases List.mem_append.1 hit with hit|hit
 ·exact h.its it (List.mem_append_left _ hit)
 ·simp at hit
  subst hit
  refine ⟨?_,.inr ⟨g,cap,cur,rfl,Nat.zero_le _,hg,hn,hc,hs,rfl⟩⟩
  rw [List.length_take,Array.length_toList,hs]
  exact Nat.min_eq_left (Nat.mul_le_mul_right k hn)

section
attribute [local irreducible] Run CondV ah ba
end

end Go.Proofs.YtmnnpgdeecnfpaaGreat

/- Trees grown by append; impl.own and its kin. -/
namespace Go.Proofs.YtmnnpgdeecnfpaaGreat
open Go Go.RowKit

structure Grown {α:Type} (k:Nat) (R:bn->List Value->α->Prop) (Ls:List bn) (css:List (List Value)) (ys:List α):Prop where
 hL:Ls.length=ys.length
 hc:css.length=ys.length
 hk:∀ cs∈css,cs.length=k
 hR:∀ i (h:i<ys.length) (h1:i<Ls.length) (h2:i<css.length),R Ls[i] css[i] ys[i]
theorem Grown.nil {α:Type} (k:Nat) (R:bn->List Value->α->Prop):Grown k R [] [] ([]:List α):=⟨rfl,rfl,by simp,fun i h=>by simp at h⟩
theorem Grown.snoc {α:Type} {k:Nat} {R:bn->List Value->α->Prop} {Ls:List bn} {css:List (List Value)} {ys:List α} (h:Grown k R Ls css ys) {L:bn} {cs:List Value} {y:α} (hR:R L cs y) (hl:cs.length=k) :
  Grown k R (Ls++[L]) (css++[cs]) (ys++[y]):=by
 refine ⟨by simp [h.hL],by simp [h.hc],fun c hc=>?_,fun i h0 h1 h2=>?_⟩
 ·rcases List.mem_append.1 hc with hc|hc
  ·exact h.hk c hc
  ·simp at hc; subst hc; exact hl
 ·have e1:=h.hL
  have e2:=h.hc
  by_cases hi:i<ys.length
  ·rw [List.getElem_append_left (by omega),List.getElem_append_left (by omega),List.getElem_append_left hi]
   exact h.hR i hi (by omega) (by omega)
  ·have:i=ys.length:=by simp at h0; omega
   subst this
   rw [List.getElem_append_right (by omega),List.getElem_append_right (by omega),List.getElem_append_right (by omega)]
   simp only [e1,e2,Nat.sub_self,List.getElem_cons_zero]
   exact hR
theorem jZ (k:Nat):∀ (css:List (List Value)) (i:Nat) (_:∀ cs∈css,cs.length=k) (h:i<css.length),(css.flatten.drop (i * k)).take k=css[i]
 | [],i,_,h=>by simp at h
 | c::css,0,hk,_=>by
  have:=hk c (List.mem_cons_self ..)
  rw [List.flatten_cons,Nat.zero_mul,List.drop_zero,List.take_append_of_le_length (by omega),List.take_of_length_le (by omega)]
  rfl
 | c::css,i+1,hk,h=>by
  have:=hk c (List.mem_cons_self ..)
  rw [List.flatten_cons,Nat.succ_mul,Nat.add_comm,<- List.drop_drop,List.drop_left' this]
  exact jZ k css i (fun cs hc=>hk cs (List.mem_cons_of_mem _ hc)) (by simpa using h)
abbrev be (v:Value) (e:TypeId) (k:Nat) (css:List (List Value)):Item:=.row v e k css.length css.flatten
theorem Inv.rowTree {α:Type} {w0 w:World} {X:List Nat} {A:List Item} {S:ax} {v:Value} {e:TypeId} {k:Nat} {R:bn->List Value->α->Prop} {Ls:List bn} {css:List (List Value)} {ys:List α}
  (h:Inv w0 X (A++(be v e k css::bk Ls.flatten)) S w) (hg:Grown k R Ls css ys):∃ L,TrSl k R L v ys/\Inv w0 X (A++bk L) S w:=by
 have hp:List.Perm ((A++bk Ls.flatten)++[be v e k css]) (A++(be v e k css::bk Ls.flatten)):=by
  rw [List.append_assoc]
  exact List.Perm.append_left _ List.perm_append_comm
 obtain ⟨hl,ho⟩:=(h.perm hp).openRow
 have hcy:=hg.hc
 have hLy:=hg.hL
 rcases ho with ⟨rfl,h0⟩|⟨g,cap,cur,rfl,hnc,hcm,hcs,ht,hI⟩
 ·have:ys=[]:=List.eq_nil_of_length_eq_zero (by omega)
  subst this
  refine ⟨[],TrSl.nil (by simp [maxLen]),?_⟩
  simpa [bk] using h.sub (List.sublist_append_left _ _)
 ·by_cases hy:ys=[]
  ·subst hy
   have:css=[]:=List.eq_nil_of_length_eq_zero (by simpa using hcy)
   subst this
   refine ⟨[],TrSl.nil hcm,?_⟩
   simpa [bk] using h.sub (List.sublist_append_left _ _)
  ·refine ⟨(g,.cells cur e)::Ls.flatten,⟨_,cap,by rw [hcy],by omega,hcm,.inr ⟨g,cur,e,Ls,rfl,rfl,hLy,by omega,fun i h1 h2=>?_⟩⟩,?_⟩
   ·have hik:i * k+k<=css.length * k:=by rw [<- Nat.succ_mul]; exact Nat.mul_le_mul_right k (by omega)
    have:=jZ k css i hg.hk (by omega)
    rw [<- ht,List.drop_take,List.take_take,Nat.min_eq_left (by omega)] at this
    rw [bB,this]
    exact hg.hR i h1 h2 (by omega)
   ·refine hI.perm ?_
    rw [List.append_assoc]
    exact List.Perm.append_left _ (List.perm_append_comm (l₁:=[Item.blk g (.cells cur e)]))
theorem el (v:Value) (e:TypeId) (k:Nat) (css:List (List Value)) (cs:List Value):Item.row v e k (css.length+1) (css.flatten++cs)=be v e k (css++[cs]):=by
 simp [be]
section
variable {P:Program} {w w0:World} {X:List Nat} {L:List Item} {S:ax} {K:Value->World->Prop}
attribute [local irreducible] Run CondV ah ba
/- append(row, x): x is put into a block of its own first -/
theorem gc (h:Inv w0 X L S w) {T ty e:TypeId} {k by_:Nat} {z v:Value} {cs:List Bool} {css:List (List Value)} (i:Nat) (xs:List Value)
  (hT:mX P T=some (e,k,by_,z)) (hk0:0<k) (hk24:k<=65536) (hi:L[i]?=some (be v e k css)) (hl:xs.length=k) (h1:∀ u∈xs,u.oneCell'=true) (hfit:css.length+1<=4294967296) (hby:by_<=32768)
  (hk:∀ v' w',Inv w0 X (L.set i (be v' e k (css++[xs]))) S w'->K v' w') :
  Run P (aR T 1 [(0,.agg xs.toArray)]) w fun u w'=>Run P (aA .append #[T,T] ty cs [v,u]) w' K:=by
 refine dg h hT (by simp [Value.cells,hl]) hk24 hk0 fun b w' hI=>?_
 have hil:i<L.length:=(List.getElem?_eq_some_iff.1 hi).1
 refine dU hI i xs hT hk0 (by rw [List.getElem?_append_left hil]; exact hi) (by omega) (m:=1) (o:=0) ?_ h1 hfit hby fun v' w' hI=>?_
 ·intro j u hj
  rw [hI.cellL (i:=L.length) (by rw [List.getElem?_append_right (Nat.le_refl _),Nat.sub_self]; rfl)]
  rw [Nat.zero_add]
  simpa [Value.cells] using hj
 ·refine hk _ _ ?_
  rw [<- el]
  rw [List.set_append_left _ _ hil] at hI
  exact hI.sub (List.sublist_append_left _ _)
end

section
attribute [local irreducible] Run CondV ah ba
theorem uJ {ts:List T} (ih:∀ t∈ts,∀ (S:ax) (cs:List Value),RdT S cs t->wT t<=1048576->Tri Tryz.prog B5 [.agg cs.toArray] [] S (rO S t))
  {S:ax} {v:Value} (h:RdSl S 4 (RdT S) v ts) (hw:ts.length+wL ts<=1048576):Tri Tryz.prog rm [v] [] S (yk 4 TrT S ts):=by
 intro w hI
 refine sk ?_
 unfold pE
 refine bo h aS ?_
 refine ⟨fun i t w'=>∃ (k:Nat) (Ls:List bn) (css:List (List Value)),k<=ts.length/\i=.int .i64 k/\Grown 4 TrT Ls css (ts.take k)/\Inv w [] (be t ac 4 css::bk Ls.flatten) S w',
  fun i _ _=>ts.length - (intOf i).toNat,⟨0,[],[],Nat.zero_le _,rfl,Grown.nil _ _,hI.rowNil ac 4⟩,?_⟩
 intro t8 _ t3 _ _ _ _ _ _ _ _ _ w'
 rintro ⟨k,Ls,css,hk,rfl,hg,hI⟩
 refine dh ?_
 refine bz (fun hki=>?_) (fun hki=>?_)
 ·have hk':k<ts.length:=by omega
  have htl:(ts.take k).length=k:=by simp; omega
  have hcl:=hg.hc
  refine ei hI h aS aj hk' (fun _ _=>RdT.length) fun cs hcs=>?_
  have hm:=List.getElem_mem hk'
  have hwm:=fV hm
  have hlc:=hcs.length
  refine bm hI bx fun b6 w' hI=>?_
  have hI:=hI.perm (M:=.blk b6 _::(be t3 ac 4 css::bk Ls.flatten)) (List.perm_append_comm (l₁:=[_]))
  refine aX hI 0 rfl aj (by simpa using hlc) rfl (by simpa using hcs.one) fun w' hI=>?_
  refine bb hI 0 aj rfl (by simpa using hlc) ?_
  have hI:Inv w [] (be t3 ac 4 css::bk Ls.flatten) S w':=hI.sub (List.sublist_cons_self _ _)
  refine Run.call0 yR yz hI (ih _ hm S cs hcs (by omega)) fun v' I' S' w'=>?_
  rintro ⟨rfl,cs',L,rfl,rfl,hT⟩ _ hI
  refine gc hI 0 cs' bt (by omega) (by omega) rfl hT.length hT.one (by omega) (by omega) fun v' w' hI=>?_
  refine ct (by omega) ?_
  refine ⟨⟨k+1,Ls++[L],css++[cs'],hk',rfl,?_,?_⟩,by simp [intOf]; omega⟩
  ·rw [List.take_succ_eq_append_getElem hk']
   exact hg.snoc hT hT.length
  ·simp only [List.flatten_append,List.flatten_cons,List.flatten_nil,List.append_nil,cH]
   exact hI
 ·have:k=ts.length:=by omega
  subst this
  rw [List.take_length] at hg
  obtain ⟨L,hT,hI⟩:=Inv.rowTree (A:=[]) hI hg
  exact ⟨_,_,_,rfl,hI,Ext.refl _ _ _,rfl,_,rfl,hT⟩
theorem vW:∀ (t:T) (S:ax) (cs:List Value),RdT S cs t->wT t<=1048576->Tri Tryz.prog B5 [.agg cs.toArray] [] S (rO S t):=by
 refine T.ind fun k n s ks ih S cs h hw=>?_
 intro w hI
 obtain ⟨kv,rfl,h1,h2,hs,hks⟩:=RdT.iff.1 h
 simp only [T.name,T.kids,T.kind,T.n] at h1 h2 hs hks ⊢
 simp only [wT] at hw
 refine yu ?_
 unfold y7
 refine co hI fun b1 w' hI=>?_
 refine bm hI bx fun b2 w' hI=>?_
 refine aH hI 0 rfl a9 aV rfl ?_
 refine Run.call0 o0 oi hI (uJ ih hks (by omega)) fun v' I' S' w'=>?_
 rintro ⟨rfl,L,rfl,hT⟩ _ hI
 have hv:v'.cells=#[v']/\v'.oneCell'=true:=by obtain ⟨a,cap,rfl,_⟩:=hT; exact ⟨rfl,rfl⟩
 refine ff hI 0 rfl a9 aV rfl hv.1 hv.2 fun w' hI=>?_
 refine bb hI 0 aj rfl rfl ?_
 refine aX hI 1 rfl aj rfl rfl ?_ fun w' hI=>?_
 ·intro u hu
  have hu':u∈([.int .i64 k,.int .i64 n,.string s,v']:List Value):=hu
  simp at hu'
  rcases hu' with rfl|rfl|rfl|rfl <;> first|rfl|exact hv.2
 refine bA hI 1 aj rfl rfl ?_
 refine ⟨_,_,_,rfl,hI.sub (List.sublist_append_right [_,_] (bk L)),Ext.refl _ _ _,rfl,[.int .i64 k,.int .i64 n,.string s,v'],L,rfl,rfl,TrT.iff.2 ⟨v',rfl,h1,h2,hs,hT⟩⟩
theorem vL {ts:List T} {S:ax} {v:Value} (h:RdSl S 4 (RdT S) v ts) (hw:ts.length+wL ts<=1048576):Tri Tryz.prog rm [v] [] S (yk 4 TrT S ts):=
 uJ (fun t _=>vW t) h hw
end

end Go.Proofs.YtmnnpgdeecnfpaaGreat

/- impl.ownClause, impl.ownProgram. -/
namespace Go.Proofs.YtmnnpgdeecnfpaaGreat
open Go Go.RowKit
section
variable {w:World} {K:Value->World->Prop}
attribute [local irreducible] Run
theorem mx {a b:Int} {s:ByteArray} {k v:Value} (hv:∃ p n m,v=.slice p n m) (hk:K (.agg #[.int .i64 a,.int .i64 b,.string s,k,v]) w):Run Tryz.prog (cg ai [(0,.agg #[.int .i64 a,.int .i64 b,.string s,k]),(1,v)]) w K:=by
 obtain ⟨p,n,m,rfl⟩:=hv
 refine Run.of (v:=.agg #[.int .i64 a,.int .i64 b,.string s,k,.slice p n m]) (w':=w) ?_ hk
 unfold cg
 rw [Sem.run_bind,run_build w ai _ #[.int .i64 a,.int .i64 b,.string s,k,.slice p n m] (by kernel_rfl),Result.andThen_ok]
 rfl
theorem fA {a b:Int} {s:ByteArray} {k:Value} (hk:K (.agg #[.int .i64 a,.int .i64 b,.string s,k,.slice none 0 0]) w):Run Tryz.prog (cg ai [(0,.agg #[.int .i64 a,.int .i64 b,.string s,k])]) w K:=by
 refine Run.of (v:=.agg #[.int .i64 a,.int .i64 b,.string s,k,.slice none 0 0]) (w':=w) ?_ hk
 unfold cg
 rw [Sem.run_bind,run_build w ai _ #[.int .i64 a,.int .i64 b,.string s,k,.slice none 0 0] (by kernel_rfl),Result.andThen_ok]
 rfl
theorem jc {a b:Int} {s:ByteArray} (hk:K (.agg #[.int .i64 a,.int .i64 b,.string s,.slice none 0 0]) w):Run Tryz.prog (cg ac [(0,.int .i64 a),(1,.int .i64 b),(2,.string s)]) w K:=by
 refine Run.of (v:=.agg #[.int .i64 a,.int .i64 b,.string s,.slice none 0 0]) (w':=w) ?_ hk
 unfold cg
 rw [Sem.run_bind,run_build w ac _ #[.int .i64 a,.int .i64 b,.string s,.slice none 0 0] (by kernel_rfl),Result.andThen_ok]
 rfl
end
section
attribute [local irreducible] Run CondV ah ba
def jv (B B2 B2':Item) (M1 M2:bn) (d2 d5 d7:Bool):List Item:=B::(match d7 with|true=>B2'|false=>B2)::((match d2 with|true=>bk M1|false=>[])++(match d5 with|true=>bk M2|false=>[]))
theorem r9 {c:C} {S:ax} {cs:List Value} (h:RdC S cs c) (hw:wC c<=1048576):Tri Tryz.prog vd [.agg cs.toArray] [] S (EZ S c):=by
 intro w hI
 obtain ⟨hd,ks,rfl,h1,h2⟩:=h
 have h1':=h1
 obtain ⟨kv,rfl,g1,g2,g3,g4⟩:=RdT.iff.1 h1
 unfold wC at hw
 refine nI ?_
 unfold kU
 refine co hI fun b1 w' hI=>?_
 refine bm hI bI fun b2 w' hI=>?_
 have hI:Inv w [] [.blk b1 (.cells #[.int .i64 c.head.kind,.int .i64 c.head.n,.string c.head.name,kv,ks] ai),.blk b2 (.cells #[.int .i64 0,.int .i64 0,.string ⟨#[]⟩,.slice none 0 0,.slice none 0 0] ai)] S w':=hI
 refine ⟨fun D x9 x8 x7 x6 x5 x4 x3 w_=>(D 0=true->x3=.pointer (some ⟨b1,0,none⟩))/\(D 1=true->x4=.agg #[.int .i64 c.head.kind,.int .i64 c.head.n,.string c.head.name,kv])/\(D 2=true->True)/\(D 3=true->x6=.pointer (some ⟨b1,4,none⟩))/\(D 4=true->x7=ks)/\(D 5=true->True)/\(D 6=true->True)/\(D 7=true->True)/\∃ M1 M2 k1,(D 2=true->x5=.agg #[.int .i64 c.head.kind,.int .i64 c.head.n,.string c.head.name,k1]/\TrT M1 [.int .i64 c.head.kind,.int .i64 c.head.n,.string c.head.name,k1] c.head)/\(D 5=true->TrSl 4 TrT M2 x8 c.body)/\(D 6=true->x9=.agg #[.int .i64 c.head.kind,.int .i64 c.head.n,.string c.head.name,k1,x8])/\(D 5=true->D 2=true)/\(D 6=true->D 5=true)/\(D 7=true->D 6=true)/\Inv w [] (jv (.blk b1 (.cells #[.int .i64 c.head.kind,.int .i64 c.head.n,.string c.head.name,kv,ks] ai)) (.blk b2 (.cells #[.int .i64 0,.int .i64 0,.string ⟨#[]⟩,.slice none 0 0,.slice none 0 0] ai)) (.blk b2 (.cells #[.int .i64 c.head.kind,.int .i64 c.head.n,.string c.head.name,k1,x8] ai)) M1 M2 (D 2) (D 5) (D 7)) S w_,⟨af,af,af,af,af,af,af,af,⟨[],[],undef,af,af,af,af,af,af,hI.draw⟩⟩,⟨?_,?_,?_,?_,?_,?_,?_,?_,trivial⟩,?_⟩
 ·intro D a6  x9 x8 x7 x6 x5 x4 x3 w_
  rintro ⟨aF,aC,aB,aE,aD,aG,az,aK,⟨M1,M2,k1,e2,e5,e6,k5,k6,k7,hI⟩⟩
  refine bh cm ?_
  exact ⟨fun _=>rfl,aC,aB,aE,aD,aG,az,aK,⟨M1,M2,k1,e2,e5,e6,k5,k6,k7,hI⟩⟩
 ·intro D a6 dc x9 x8 x7 x6 x5 x4 x3 w_
  rintro ⟨aF,aC,aB,aE,aD,aG,az,aK,⟨M1,M2,k1,e2,e5,e6,k5,k6,k7,hI⟩⟩
  obtain rfl:=aF dc
  refine dI hI 0 [.int .i64 c.head.kind,.int .i64 c.head.n,.string c.head.name,kv] aj rfl rfl tV ?_
  exact ⟨aF,fun _=>rfl,aB,aE,aD,aG,az,aK,⟨M1,M2,k1,e2,e5,e6,k5,k6,k7,hI⟩⟩
 ·intro D a6 eB x9 x8 x7 x6 x5 x4 x3 w_
  rintro ⟨aF,aC,aB,aE,aD,aG,az,aK,⟨M1,M2,k1,e2,e5,e6,k5,k6,k7,hI⟩⟩
  obtain rfl:=aC eB
  have f5:D 5=false:=Bool.eq_false_iff.2 fun h=>by rw [k5 h] at a6; cases a6
  have f6:D 6=false:=Bool.eq_false_iff.2 fun h=>by rw [k6 h] at f5; cases f5
  have f7:D 7=false:=Bool.eq_false_iff.2 fun h=>by rw [k7 h] at f6; cases f6
  rw [a6,f5,f7] at hI
  refine Run.call0 yR yz hI (vW c.head S _ h1' (by omega)) fun v' I' S w_=>?_
  rintro ⟨rfl,cs1,M1,rfl,rfl,hT1⟩ _ hI
  obtain ⟨k1,rfl,_⟩:=TrT.iff.1 hT1
  have e2:av D 2 2=true->Value.agg #[.int .i64 c.head.kind,.int .i64 c.head.n,.string c.head.name,k1]=Value.agg #[.int .i64 c.head.kind,.int .i64 c.head.n,.string c.head.name,k1]/\TrT M1 [.int .i64 c.head.kind,.int .i64 c.head.n,.string c.head.name,k1] c.head:=fun _=>⟨rfl,hT1⟩
  have e6:=fun (h:D 6=true)=>(absurd h (by rw [f6]; decide):x9=.agg #[.int .i64 c.head.kind,.int .i64 c.head.n,.string c.head.name,k1,x8])
  have k5:=fun (_:av D 2 5=true)=>(rfl:av D 2 2=true)
  have hI:Inv w [] (jv (.blk b1 (.cells #[.int .i64 c.head.kind,.int .i64 c.head.n,.string c.head.name,kv,ks] ai)) (.blk b2 (.cells #[.int .i64 0,.int .i64 0,.string ⟨#[]⟩,.slice none 0 0,.slice none 0 0] ai)) (.blk b2 (.cells #[.int .i64 c.head.kind,.int .i64 c.head.n,.string c.head.name,k1,x8] ai)) M1 M2 true (D 5) (D 7)) S w_:=by
   rw [f5,f7]
   simpa [jv] using hI
  exact ⟨aF,aC,fun _=>by first|assumption|trivial,aE,aD,aG,az,aK,⟨M1,M2,k1,e2,e5,e6,k5,k6,k7,hI⟩⟩
 ·intro D a6  x9 x8 x7 x6 x5 x4 x3 w_
  rintro ⟨aF,aC,aB,aE,aD,aG,az,aK,⟨M1,M2,k1,e2,e5,e6,k5,k6,k7,hI⟩⟩
  refine bh bi ?_
  exact ⟨aF,aC,aB,fun _=>rfl,aD,aG,az,aK,⟨M1,M2,k1,e2,e5,e6,k5,k6,k7,hI⟩⟩
 ·intro D a6 ef x9 x8 x7 x6 x5 x4 x3 w_
  rintro ⟨aF,aC,aB,aE,aD,aG,az,aK,⟨M1,M2,k1,e2,e5,e6,k5,k6,k7,hI⟩⟩
  obtain rfl:=aE ef
  refine bG hI 0 aV rfl rfl ?_
  exact ⟨aF,aC,aB,aE,fun _=>by first|assumption|trivial,aG,az,aK,⟨M1,M2,k1,e2,e5,e6,k5,k6,k7,hI⟩⟩
 ·intro D a6 jj Dx x9 x8 x7 x6 x5 x4 x3 w_
  rintro ⟨aF,aC,aB,aE,aD,aG,az,aK,⟨M1,M2,k1,e2,e5,e6,k5,k6,k7,hI⟩⟩
  have Dn:=aD jj
  have f6:D 6=false:=Bool.eq_false_iff.2 fun h=>by rw [k6 h] at a6; cases a6
  have f7:D 7=false:=Bool.eq_false_iff.2 fun h=>by rw [k7 h] at f6; cases f6
  rw [a6,Dx,f7] at hI
  refine Run.call0 o0 oi hI (by rw [Dn]; exact vL h2 (by omega)) fun v' I' S w_=>?_
  rintro ⟨rfl,M2,rfl,hT2⟩ _ hI
  have e5:=fun (_:av D 5 5=true)=>hT2
  have e6:=fun (h:D 6=true)=>(absurd h (by rw [f6]; decide):x9=.agg #[.int .i64 c.head.kind,.int .i64 c.head.n,.string c.head.name,k1,v'])
  have k6:=fun (_:av D 5 6=true)=>(rfl:av D 5 5=true)
  have k5:=fun (_:av D 5 5=true)=>Dx
  have hI:Inv w [] (jv (.blk b1 (.cells #[.int .i64 c.head.kind,.int .i64 c.head.n,.string c.head.name,kv,ks] ai)) (.blk b2 (.cells #[.int .i64 0,.int .i64 0,.string ⟨#[]⟩,.slice none 0 0,.slice none 0 0] ai)) (.blk b2 (.cells #[.int .i64 c.head.kind,.int .i64 c.head.n,.string c.head.name,k1,v'] ai)) M1 M2 (D 2) true (D 7)) S w_:=by
   rw [Dx,f7]
   simpa [jv] using hI
  exact ⟨aF,aC,aB,aE,aD,fun _=>by first|assumption|trivial,az,aK,⟨M1,M2,k1,e2,e5,e6,k5,k6,k7,hI⟩⟩
 ·intro D a6 dy gd x9 x8 x7 x6 x5 x4 x3 w_
  rintro ⟨aF,aC,aB,aE,aD,aG,az,aK,⟨M1,M2,k1,e2,e5,e6,k5,k6,k7,hI⟩⟩
  have Gs:=aB dy
  have C3:=aG gd
  have q2:=(e2 dy).1
  subst q2
  refine mx (by obtain ⟨a8,cap8,hx8,_⟩:=e5 gd; exact ⟨_,_,_,hx8⟩) ?_
  have e6:av D 6 6=true->Value.agg #[.int .i64 c.head.kind,.int .i64 c.head.n,.string c.head.name,k1,x8]=Value.agg #[.int .i64 c.head.kind,.int .i64 c.head.n,.string c.head.name,k1,x8]:=fun _=>rfl
  have k7:=fun (_:av D 6 7=true)=>(rfl:av D 6 6=true)
  have k6:=fun (_:av D 6 6=true)=>gd
  exact ⟨aF,aC,aB,aE,aD,aG,fun _=>by first|assumption|trivial,aK,⟨M1,M2,k1,e2,e5,e6,k5,k6,k7,hI⟩⟩
 ·intro D a6 cw gd CO Cq xx CT CN CC Cw x9 x8 x7 x6 x5 x4 x3 w_
  rintro ⟨aF,aC,aB,aE,aD,aG,az,aK,⟨M1,M2,k1,e2,e5,e6,k5,k6,k7,hI⟩⟩
  have C7:=az cw
  have q6:=e6 cw
  subst q6
  have q2:=(e2 xx).2
  have q5:=e5 gd
  rw [a6,xx,gd] at hI
  refine aX hI 1 rfl aW rfl rfl ?_ fun w_ hI=>?_
  ·intro u hu
   have hu':u∈([.int .i64 c.head.kind,.int .i64 c.head.n,.string c.head.name,k1,x8]:List Value):=hu
   simp at hu'
   have o1:k1.oneCell'=true:=q2.one k1 (by simp)
   have o2:x8.oneCell'=true:=by obtain ⟨a,cap,rfl,_⟩:=q5; rfl
   rcases hu' with rfl|rfl|rfl|rfl|rfl <;> first|rfl|exact o1|exact o2
  have k7:=fun (_:av D 7 7=true)=>cw
  have hI:Inv w [] (jv (.blk b1 (.cells #[.int .i64 c.head.kind,.int .i64 c.head.n,.string c.head.name,kv,ks] ai)) (.blk b2 (.cells #[.int .i64 0,.int .i64 0,.string ⟨#[]⟩,.slice none 0 0,.slice none 0 0] ai)) (.blk b2 (.cells #[.int .i64 c.head.kind,.int .i64 c.head.n,.string c.head.name,k1,x8] ai)) M1 M2 (D 2) (D 5) true) S w_:=by
   rw [xx,gd]
   exact hI
  exact ⟨aF,aC,aB,aE,aD,aG,az,fun _=>trivial,⟨M1,M2,k1,e2,e5,e6,k5,k6,k7,hI⟩⟩
 intro D ii gM gT hO iR im iT iS x9 x8 x7 x6 x5 x4 x3 w_
 rintro ⟨aF,aC,aB,aE,aD,aG,az,aK,⟨M1,M2,k1,e2,e5,e6,k5,k6,k7,hI⟩⟩
 have C7:=az gM
 have C3:=aG gT
 have Dn:=aD hO
 obtain rfl:=aE iR
 have Gs:=aB im
 obtain rfl:=aC iT
 obtain rfl:=aF iS
 clear aF aC aB aE aD aG az aK
 have q2:=(e2 im).2
 have q5:=e5 gT
 rw [im,gT,ii] at hI
 refine bA hI 1 aW rfl rfl ?_
 refine ⟨_,_,_,rfl,hI.sub (List.sublist_append_right [_,_] (bk M1++bk M2)),Ext.refl _ _ _,rfl,_,M1++M2,rfl,by rw [cH],_,x8,M1,M2,rfl,rfl,q2,q5⟩
end

end Go.Proofs.YtmnnpgdeecnfpaaGreat

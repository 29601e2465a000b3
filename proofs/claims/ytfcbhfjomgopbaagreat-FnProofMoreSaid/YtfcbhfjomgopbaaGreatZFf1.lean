/- Goals, clauses, programs, queries: which are valid, on both sides. -/
import Derived.Test.YtfcbhfjomgopbaaGreatZFf0
import Derived.Test.YtfcbhfjomgopbaaGreatRows
import Derived.ProofKit
import Derived.ReadAgain
import Derived.Carry
import Derived.Test.YtfcbhfjomgopbaaGreatZFfS
import Derived.Test.YtfcbhfjomgopbaaGreatZFfF
import Derived.Test.YtfcbhfjomgopbaaGreatZFfgz
import Derived.Laws.BytesArg
import Derived.Laws.StructEq
import Derived.Laws.Tables
namespace Go.Proofs.YtfcbhfjomgopbaaGreat
section
open Go Go.RowKit
attribute [local irreducible] Run CondV aB aS

def pi:List ByteArray:=[⟨#[61]⟩,⟨#[92,61]⟩,⟨#[61,61]⟩,⟨#[60]⟩,⟨#[62]⟩,⟨#[61,60]⟩,⟨#[62,61]⟩,⟨#[61,58,61]⟩,⟨#[105,115]⟩]
def og:List ByteArray:=[⟨#[116,114,117,101]⟩,⟨#[102,97,105,108]⟩]
def rG:List ByteArray:=[⟨#[118,97,114]⟩,⟨#[110,111,110,118,97,114]⟩,⟨#[97,116,111,109]⟩,⟨#[105,110,116]⟩]
def uv:List ByteArray:=[⟨#[43]⟩,⟨#[45]⟩]
def ma:List ByteArray:=[⟨#[42]⟩,⟨#[47,47]⟩,⟨#[109,111,100]⟩]
def cJ (s:ByteArray) (l:List ByteArray):Bool:=l.any fun x=>decide (s=x)
def dD (s:ByteArray) (n:Int):Bool:=
 if cJ s pi=true then decide (n=2)
 else if cJ s og=true then decide (n=0)
 else if cJ s rG=true then decide (n=1)
 else if s=⟨#[97,114,103]⟩ then decide (n=3)
 else false
def cn (s:ByteArray):Int:=if cJ s pi=true then 3 else if cJ s uv=true then 2 else if cJ s ma=true then 1 else 0
def jR (t:T):Bool:=decide (t.kind=3) && (decide (t.name=⟨#[33]⟩) && decide (t.kids.length=0))
def OD (t:T):Bool:=decide (t.kind=3) && decide (t.kids.length=0)
def cM (t:T):Bool:=decide (t.kind=3) && dD t.name t.kids.length
def iQ (t:T):Bool:=decide (t.kind=3) && (lS t.name && (!dD t.name t.kids.length && decide (cn t.name=0)))
def ef (t:T):Bool:=dd t && (jR t || (iQ t || cM t))
def ce (c:C):Bool:=decide (c.body.length<=6) && (c.body.all ef && (dd c.head && iQ c.head))
def iR (l:List T):Bool:=decide (l.length<=6) && l.all ef
def iA (p:List C):Bool:=decide (p.length<=20) && p.all ce
theorem MJ (s:ByteArray):(!decide (0<cn s))=decide (cn s=0):=by
 unfold cn
 split
 ·rfl
 ·split
  ·rfl
  ·split <;> rfl

theorem fh (s:ByteArray) (n:Int) (S:ae):Pure Tryz.prog DG [.string s,.int .i64 n] S (.bool (dD s n)):=by
 intro w hI
 refine pF.2 ?_
 dsimp only[pF,aX]
 obtain ⟨q,hq⟩:∃ q,cJ s pi=q:=⟨_,rfl⟩
 have hq1:=hq
 refine ⟨fun t w'=>t=.bool q/\Inv w [] [] S w',?_,?_⟩
 ·unfold cJ pi at hq
  iterate 8
   refine bf ?_
   refine az (fun h=>⟨by rw [List.any_cons,h] at hq; rw [h,<- hq]; rfl,hI⟩) (fun h=>?_)
   rw [List.any_cons,h,Bool.false_or] at hq
  refine bf ⟨?_,hI⟩
  rw [<- hq]; simp
 intro t _ _ _ _ _ _ _ _ _ w'
 rintro ⟨rfl,hI⟩
 refine az (fun h=>?_) (fun h=>?_)
 ·exact aY (done hI (by rw [dD,if_pos (hq1.trans h)]))
 have e1:dD s n=if cJ s og=true then decide (n=0) else if cJ s rG=true then decide (n=1) else if s=⟨#[97,114,103]⟩ then decide (n=3) else false:=by
  rw [dD,if_neg (by rw [hq1,h]; decide)]
 clear hq hq1 h
 obtain ⟨q,hq⟩:∃ q,cJ s og=q:=⟨_,rfl⟩
 have hq1:=hq
 refine ⟨fun t w'=>t=.bool q/\Inv w [] [] S w',?_,?_⟩
 ·unfold cJ og at hq
  refine bf ?_
  refine az (fun h=>⟨by rw [List.any_cons,h] at hq; rw [h,<- hq]; rfl,hI⟩) (fun h=>?_)
  rw [List.any_cons,h,Bool.false_or] at hq
  refine bf ⟨?_,hI⟩
  rw [<- hq]; simp
 intro _ t _ w'
 rintro ⟨rfl,hI⟩
 refine az (fun h=>?_) (fun h=>?_)
 ·exact aY (done hI (by rw [e1,if_pos (hq1.trans h)]))
 rw [if_neg (by rw [hq1,h]; decide)] at e1
 clear hq hq1 h
 obtain ⟨q,hq⟩:∃ q,cJ s rG=q:=⟨_,rfl⟩
 have hq1:=hq
 refine ⟨fun t w'=>t=.bool q/\Inv w [] [] S w',?_,?_⟩
 ·unfold cJ rG at hq
  iterate 3
   refine bf ?_
   refine az (fun h=>⟨by rw [List.any_cons,h] at hq; rw [h,<- hq]; rfl,hI⟩) (fun h=>?_)
   rw [List.any_cons,h,Bool.false_or] at hq
  refine bf ⟨?_,hI⟩
  rw [<- hq]; simp
 intro _ _ _ t _ w'
 rintro ⟨rfl,hI⟩
 refine az (fun h=>?_) (fun h=>?_)
 ·exact aY (done hI (by rw [e1,if_pos (hq1.trans h)]))
 rw [if_neg (by rw [hq1,h]; decide)] at e1
 refine bf ?_
 refine aI (fun h=>?_) (fun h=>?_)
 ·exact aY (done hI (by rw [e1,if_pos h]))
 ·exact done hI (by rw [e1,if_neg h])
theorem xf (s:ByteArray) (n:Int) (S:ae):Pure Tryz.prog CN [.string s,.int .i64 n] S (.bool (dD s n)):=by
 intro w hI
 refine pG.2 ?_
 dsimp only[pG,aX]
 obtain ⟨q,hq⟩:∃ q,cJ s pi=q:=⟨_,rfl⟩
 have hq1:=hq
 refine ⟨fun t w'=>t=.bool q/\Inv w [] [] S w',?_,?_⟩
 ·unfold cJ pi at hq
  iterate 8
   refine bf ?_
   refine az (fun h=>⟨by rw [List.any_cons,h] at hq; rw [h,<- hq]; rfl,hI⟩) (fun h=>?_)
   rw [List.any_cons,h,Bool.false_or] at hq
  refine bf ⟨?_,hI⟩
  rw [<- hq]; simp
 intro t _ _ _ _ _ _ _ _ _ w'
 rintro ⟨rfl,hI⟩
 refine az (fun h=>?_) (fun h=>?_)
 ·exact aY (done hI (by rw [dD,if_pos (hq1.trans h)]))
 have e1:dD s n=if cJ s og=true then decide (n=0) else if cJ s rG=true then decide (n=1) else if s=⟨#[97,114,103]⟩ then decide (n=3) else false:=by
  rw [dD,if_neg (by rw [hq1,h]; decide)]
 clear hq hq1 h
 obtain ⟨q,hq⟩:∃ q,cJ s og=q:=⟨_,rfl⟩
 have hq1:=hq
 refine ⟨fun t w'=>t=.bool q/\Inv w [] [] S w',?_,?_⟩
 ·unfold cJ og at hq
  refine bf ?_
  refine az (fun h=>⟨by rw [List.any_cons,h] at hq; rw [h,<- hq]; rfl,hI⟩) (fun h=>?_)
  rw [List.any_cons,h,Bool.false_or] at hq
  refine bf ⟨?_,hI⟩
  rw [<- hq]; simp
 intro _ t _ w'
 rintro ⟨rfl,hI⟩
 refine az (fun h=>?_) (fun h=>?_)
 ·exact aY (done hI (by rw [e1,if_pos (hq1.trans h)]))
 rw [if_neg (by rw [hq1,h]; decide)] at e1
 clear hq hq1 h
 obtain ⟨q,hq⟩:∃ q,cJ s rG=q:=⟨_,rfl⟩
 have hq1:=hq
 refine ⟨fun t w'=>t=.bool q/\Inv w [] [] S w',?_,?_⟩
 ·unfold cJ rG at hq
  iterate 3
   refine bf ?_
   refine az (fun h=>⟨by rw [List.any_cons,h] at hq; rw [h,<- hq]; rfl,hI⟩) (fun h=>?_)
   rw [List.any_cons,h,Bool.false_or] at hq
  refine bf ⟨?_,hI⟩
  rw [<- hq]; simp
 intro _ _ _ t _ w'
 rintro ⟨rfl,hI⟩
 refine az (fun h=>?_) (fun h=>?_)
 ·exact aY (done hI (by rw [e1,if_pos (hq1.trans h)]))
 rw [if_neg (by rw [hq1,h]; decide)] at e1
 refine bf ?_
 refine aI (fun h=>?_) (fun h=>?_)
 ·exact aY (done hI (by rw [e1,if_pos h]))
 ·exact done hI (by rw [e1,if_neg h])

theorem dI (s:ByteArray) (S:ae):Pure Tryz.prog Ip [.string s] S (.int .i64 (cn s)):=by
 intro w hI
 refine wc.2 ?_
 dsimp only[wc,aO]
 obtain ⟨q,hq⟩:∃ q,cJ s pi=q:=⟨_,rfl⟩
 have hq1:=hq
 refine ⟨fun t w'=>t=.bool q/\Inv w [] [] S w',?_,?_⟩
 ·unfold cJ pi at hq
  iterate 8
   refine bf ?_
   refine az (fun h=>⟨by rw [List.any_cons,h] at hq; rw [h,<- hq]; rfl,hI⟩) (fun h=>?_)
   rw [List.any_cons,h,Bool.false_or] at hq
  refine bf ⟨?_,hI⟩
  rw [<- hq]; simp
 intro _ _ _ _ _ _ _ _ t _ w'
 rintro ⟨rfl,hI⟩
 refine az (fun h=>?_) (fun h=>?_)
 ·exact done hI (by rw [show cn s=3 from if_pos (hq1.trans h)] <;> rfl)
 have e1:cn s=if cJ s uv=true then 2 else if cJ s ma=true then 1 else 0:=by
  rw [cn,if_neg (by rw [hq1,h]; decide)]
 clear hq hq1 h
 obtain ⟨q,hq⟩:∃ q,cJ s uv=q:=⟨_,rfl⟩
 have hq1:=hq
 refine ⟨fun t w'=>t=.bool q/\Inv w [] [] S w',?_,?_⟩
 ·unfold cJ uv at hq
  refine bf ?_
  refine az (fun h=>⟨by rw [List.any_cons,h] at hq; rw [h,<- hq]; rfl,hI⟩) (fun h=>?_)
  rw [List.any_cons,h,Bool.false_or] at hq
  refine bf ⟨?_,hI⟩
  rw [<- hq]; simp
 intro _ t _ w'
 rintro ⟨rfl,hI⟩
 refine az (fun h=>?_) (fun h=>?_)
 ·exact done hI (by rw [show cn s=2 from e1.trans (if_pos (hq1.trans h))] <;> rfl)
 rw [if_neg (by rw [hq1,h]; decide)] at e1
 clear hq hq1 h
 obtain ⟨q,hq⟩:∃ q,cJ s ma=q:=⟨_,rfl⟩
 have hq1:=hq
 refine ⟨fun t w'=>t=.bool q/\Inv w [] [] S w',?_,?_⟩
 ·unfold cJ ma at hq
  iterate 2
   refine bf ?_
   refine az (fun h=>⟨by rw [List.any_cons,h] at hq; rw [h,<- hq]; rfl,hI⟩) (fun h=>?_)
   rw [List.any_cons,h,Bool.false_or] at hq
  refine bf ⟨?_,hI⟩
  rw [<- hq]; simp
 intro _ _ t _ w'
 rintro ⟨rfl,hI⟩
 refine az (fun h=>?_) (fun h=>?_)
 ·exact done hI (by rw [show cn s=1 from e1.trans (if_pos (hq1.trans h))] <;> rfl)
 ·exact done hI (by rw [show cn s=0 from e1.trans (if_neg (by rw [hq1,h]; decide))] <;> rfl)
theorem zx (s:ByteArray) (S:ae):Pure Tryz.prog Ii [.string s] S (.tuple #[.int .i64 (cn s),.bool (decide (cn s=1) || decide (cn s=2))]):=by
 intro w hI
 refine vO.2 ?_
 dsimp only[vO,aO]
 obtain ⟨q,hq⟩:∃ q,cJ s pi=q:=⟨_,rfl⟩
 have hq1:=hq
 refine ⟨fun t w'=>t=.bool q/\Inv w [] [] S w',?_,?_⟩
 ·unfold cJ pi at hq
  iterate 8
   refine bf ?_
   refine az (fun h=>⟨by rw [List.any_cons,h] at hq; rw [h,<- hq]; rfl,hI⟩) (fun h=>?_)
   rw [List.any_cons,h,Bool.false_or] at hq
  refine bf ⟨?_,hI⟩
  rw [<- hq]; simp
 intro _ _ _ _ _ _ _ _ t _ w'
 rintro ⟨rfl,hI⟩
 refine az (fun h=>?_) (fun h=>?_)
 ·exact done hI (by rw [show cn s=3 from if_pos (hq1.trans h)] <;> rfl)
 have e1:cn s=if cJ s uv=true then 2 else if cJ s ma=true then 1 else 0:=by
  rw [cn,if_neg (by rw [hq1,h]; decide)]
 clear hq hq1 h
 obtain ⟨q,hq⟩:∃ q,cJ s uv=q:=⟨_,rfl⟩
 have hq1:=hq
 refine ⟨fun t w'=>t=.bool q/\Inv w [] [] S w',?_,?_⟩
 ·unfold cJ uv at hq
  refine bf ?_
  refine az (fun h=>⟨by rw [List.any_cons,h] at hq; rw [h,<- hq]; rfl,hI⟩) (fun h=>?_)
  rw [List.any_cons,h,Bool.false_or] at hq
  refine bf ⟨?_,hI⟩
  rw [<- hq]; simp
 intro _ t _ w'
 rintro ⟨rfl,hI⟩
 refine az (fun h=>?_) (fun h=>?_)
 ·exact done hI (by rw [show cn s=2 from e1.trans (if_pos (hq1.trans h))] <;> rfl)
 rw [if_neg (by rw [hq1,h]; decide)] at e1
 clear hq hq1 h
 obtain ⟨q,hq⟩:∃ q,cJ s ma=q:=⟨_,rfl⟩
 have hq1:=hq
 refine ⟨fun t w'=>t=.bool q/\Inv w [] [] S w',?_,?_⟩
 ·unfold cJ ma at hq
  iterate 2
   refine bf ?_
   refine az (fun h=>⟨by rw [List.any_cons,h] at hq; rw [h,<- hq]; rfl,hI⟩) (fun h=>?_)
   rw [List.any_cons,h,Bool.false_or] at hq
  refine bf ⟨?_,hI⟩
  rw [<- hq]; simp
 intro _ _ t _ w'
 rintro ⟨rfl,hI⟩
 refine az (fun h=>?_) (fun h=>?_)
 ·exact done hI (by rw [show cn s=1 from e1.trans (if_pos (hq1.trans h))] <;> rfl)
 ·exact done hI (by rw [show cn s=0 from e1.trans (if_neg (by rw [hq1,h]; decide))] <;> rfl)

theorem lU {t:T} {S:ae} {cs:List Value} (h:RdT S cs t):Pure Tryz.prog Nt [.agg cs.toArray] S (.bool (jR t)):=by
 intro w hI
 obtain ⟨kv,rfl,_,_,hs,hks⟩:=RdT.iff.1 h
 obtain ⟨k,n,s,ks⟩:=t
 simp only [T.name,T.kids,T.kind,T.n] at hs hks ⊢
 refine Bf.2 ?_
 dsimp only[Bf,aO]
 refine be hI fun b1 w' hI=>?_
 refine ad hI 0 rfl aE aw rfl ?_
 refine aY ?_
 rw [show jR (.mk k n s ks)=(decide (k=3) && (decide (s=⟨#[33]⟩) && decide (ks.length=0))) from rfl]
 cases h1:decide (k=3)
 ·refine rpG ?_
  exact done hI rfl
 ·refine rpG ?_
  refine ad hI 0 rfl aM aJ rfl ?_
  refine bf ?_
  cases h2:decide (s=⟨#[33]⟩)
  ·refine rpG ?_
   exact done hI rfl
  ·refine rpG ?_
   refine ad hI 0 rfl al ag rfl ?_
   refine aD hks af ?_
   refine aY ?_
   refine rpG ?_
   exact done hI (by simp)

theorem sy {t:T} {S:ae} {cs:List Value} (h:RdT S cs t):Pure Tryz.prog IB [.agg cs.toArray] S (.bool (iQ t)):=by
 intro w hI
 obtain ⟨kv,rfl,_,_,hs,hks⟩:=RdT.iff.1 h
 obtain ⟨k,n,s,ks⟩:=t
 simp only [T.name,T.kids,T.kind,T.n] at hs hks ⊢
 refine vm.2 ?_
 dsimp only[vm,aO]
 refine be hI fun b1 w' hI=>?_
 refine ad hI 0 rfl aE aw rfl ?_
 refine aY ?_
 rw [show iQ (.mk k n s ks)=(decide (k=3) && (lS s && (!dD s ks.length && decide (cn s=0)))) from rfl]
 cases h1:decide (k=3)
 ·refine rpG ?_
  exact done hI rfl
 ·refine rpG ?_
  refine ad hI 0 rfl aM aJ rfl ?_
  refine Run.callPure yo zn hI (uU s hs S) fun w' hI=>?_
  cases h2:lS s
  ·refine rpG ?_
   exact done hI rfl
  ·refine rpG ?_
   refine ad hI 0 rfl aM aJ rfl ?_
   refine ad hI 0 rfl al ag rfl ?_
   refine aD hks af ?_
   refine Run.callPure gj f1 hI (fh s _ S) fun w' hI=>?_
   refine bM ?_
   cases h3:dD s ks.length
   ·refine rpG ?_
    refine ad hI 0 rfl aM aJ rfl ?_
    refine Run.callPure eF eH hI (dI s S) fun w' hI=>?_
    refine aY ?_
    refine rpG ?_
    exact done hI rfl
   ·refine rpG ?_
    exact done hI rfl

theorem Gi {t:T} {S:ae} {cs:List Value} (h:RdT S cs t):Pure Tryz.prog KQ [.agg cs.toArray] S (.bool (jR t || (iQ t || cM t))):=by
 intro w hI
 have h0:=h
 obtain ⟨kv,rfl,_,_,hs,hks⟩:=RdT.iff.1 h
 obtain ⟨k,n,s,ks⟩:=t
 simp only [T.name,T.kids,T.kind,T.n] at h0 hs hks ⊢
 refine zi.2 ?_
 dsimp only[zi,aO]
 refine be hI fun b1 w' hI=>?_
 refine aq hI 0 ac rfl rfl ?_
 refine Run.callPure oi ox hI (lU h0) fun w' hI=>?_
 cases h1:jR (.mk k n s ks)
 ·refine rpG ?_
  refine aq hI 0 ac rfl rfl ?_
  refine Run.callPure uS u5 hI (sy h0) fun w' hI=>?_
  cases h2:iQ (.mk k n s ks)
  ·refine rpG ?_
   refine ad hI 0 rfl aE aw rfl ?_
   refine aY ?_
   rw [show cM (.mk k n s ks)=(decide (k=3) && dD s ks.length) from rfl]
   cases h3:decide (k=3)
   ·refine rpG ?_
    exact done hI rfl
   ·refine rpG ?_
    refine ad hI 0 rfl aM aJ rfl ?_
    refine ad hI 0 rfl al ag rfl ?_
    refine aD hks af ?_
    refine Run.callPure gj f1 hI (fh s _ S) fun w' hI=>?_
    refine rpG ?_
    exact done hI rfl
  ·refine rpG ?_
   exact done hI rfl
 ·refine rpG ?_
  exact done hI rfl

theorem Ah {t:T} (h:wT t<=1048576):dF t<=4611686018427387904:=by
 have:=N0 t
 omega
theorem i5 {t:T} {S:ae} {cs:List Value} (h:RdT S cs t) (hc:wT t<=1048576):Pure Tryz.prog Di [.agg cs.toArray] S (.bool (ef t)):=by
 intro w hI
 have hl:=h.length
 refine pI.2 ?_
 dsimp only[pI,aO]
 refine be hI fun b1 w' hI=>?_
 refine aq hI 0 ac rfl (by simpa [Value.cells] using hl) ?_
 refine Run.callPure fW gd hI (fi h (Ah hc)) fun w' hI=>?_
 rw [ef]
 cases h1:dd t
 ·refine rpG ?_
  exact done hI rfl
 ·refine rpG ?_
  refine aq hI 0 ac rfl (by simpa [Value.cells] using hl) ?_
  refine Run.callPure JA Hi hI (Gi h) fun w' hI=>?_
  refine rpG ?_
  exact done hI rfl


theorem Fe {ts:List T} {t:T} (h:t∈ts):wT t<=wL ts:=by
 induction ts with
 | nil=>simp at h
 | cons u us ih=>
  rw [wL]
  rcases List.mem_cons.1 h with rfl|h
  ·omega
  ·have:=ih h; omega
theorem lf {c:C} {S:ae} {cs:List Value} (h:RdC S cs c) (hc:wC c<=1048576):Pure Tryz.prog Ab [.agg cs.toArray] S (.bool (ce c)):=by
 intro w hI
 obtain ⟨hd,ks,rfl,h1,h2⟩:=h
 have h1':=h1
 obtain ⟨kv,rfl,g1,g2,g3,g4⟩:=RdT.iff.1 h1
 have hlen:=h2.le
 simp only [maxLen] at hlen
 unfold wC at hc
 refine nt.2 ?_
 dsimp only[nt,aO]
 refine be hI fun b1 w' hI=>?_
 refine ⟨fun i w'=>∃ k:Nat,k<=c.body.length/\k<=7/\i=.int .i64 k/\(∀ j (h:j<c.body.length),j<k->ef c.body[j]=true)/\Inv w [] [.blk b1 (.cells #[.int .i64 c.head.kind,.int .i64 c.head.n,.string c.head.name,kv,ks] av)] S w',
  fun i _=>c.body.length - (intOf i).toNat,⟨0,Nat.zero_le _,by omega,rfl,fun j _ h=>by omega,hI⟩,?_⟩
 intro t3 _ _ _ _ _ _ _ _ _ _ _ _ _ _ _ _ _ _ _ w'
 rintro ⟨k,hk,hk7,rfl,hrel,hI⟩
 refine ⟨fun t w'=>t=.bool (decide (k<c.body.length/\k<=6))/\Inv w [] [.blk b1 (.cells #[.int .i64 c.head.kind,.int .i64 c.head.n,.string c.head.name,kv,ks] av)] S w',?_,?_⟩
 ·refine ad hI 0 rfl bi ag rfl ?_
  refine aD h2 af ?_
  refine bA ?_
  by_cases hki:(k:Int)<c.body.length
  ·rw [decide_eq_true hki]
   refine rpG ?_
   refine eK ?_
   refine rpG ?_
   refine ⟨?_,hI⟩
   congr 1
   rw [Bool.eq_iff_iff]; simp; omega
  ·rw [decide_eq_false hki]
   refine rpG ?_
   exact ⟨by rw [decide_eq_false (by omega)],hI⟩
 intro t _ _ _ _ _ _ _ _ w'
 rintro ⟨rfl,hI⟩
 refine aI (fun hki=>?_) (fun hki=>?_)
 ·obtain ⟨hk',hk6⟩:=hki
  refine ad hI 0 rfl bi ag rfl ?_
  refine ch hI h2 af ac hk' (fun _ _=>RdT.length) fun cs' hcs'=>?_
  have hwm:=Fe (List.getElem_mem hk')
  refine Run.callPure kK kQ hI (i5 hcs' (by omega)) fun w' hI=>?_
  refine bM ?_
  refine az (fun hb=>done hI ?_) (fun hb=>?_)
  ·have hb':ef c.body[k]=false:=by simpa using hb
   have:c.body.all ef=false:=by
    rw [<- Bool.not_eq_true,List.all_eq_true]
    intro hall
    rw [hall _ (List.getElem_mem hk')] at hb'
    cases hb'
   rw [ce,this]
   simp
  ·have hb':ef c.body[k]=true:=by simpa using hb
   refine bn (by omega) ?_
   refine ⟨⟨k+1,hk',by omega,rfl,fun j hj hjk=>?_,hI⟩,by simp [intOf]; omega⟩
   by_cases e:j=k
   ·subst e; exact hb'
   ·exact hrel j hj (by omega)
 ·refine ad hI 0 rfl bi ag rfl ?_
  refine aD h2 af ?_
  refine eK ?_
  rw [ce]
  by_cases hle:c.body.length<=6
  ·have hall:c.body.all ef=true:=by
    rw [List.all_eq_true]
    intro x hx
    obtain ⟨j,hj,rfl⟩:=List.getElem_of_mem hx
    exact hrel j hj (by omega)
   rw [decide_eq_true (show (c.body.length:Int)<=6 by omega),decide_eq_true hle,hall]
   refine rpG ?_
   refine ai co ?_
   refine b0 hI 0 [.int .i64 c.head.kind,.int .i64 c.head.n,.string c.head.name,kv] ac rfl rfl ?_ ?_
   ·intro j v hj
    match j with
    | 0|1|2|3=>exact hj
    | j+4=>simp at hj
   refine Run.callPure fW gd hI (fi h1' (Ah (by omega))) fun w' hI=>?_
   cases hv:dd c.head
   ·refine rpG ?_
    exact done hI rfl
   ·refine rpG ?_
    refine ai co ?_
    refine b0 hI 0 [.int .i64 c.head.kind,.int .i64 c.head.n,.string c.head.name,kv] ac rfl rfl ?_ ?_
    ·intro j v hj
     match j with
     | 0|1|2|3=>exact hj
     | j+4=>simp at hj
    refine Run.callPure uS u5 hI (sy h1') fun w' hI=>?_
    refine rpG ?_
    exact done hI rfl
  ·rw [decide_eq_false (show ¬ (c.body.length:Int)<=6 by omega),decide_eq_false hle]
   refine rpG ?_
   exact done hI rfl

theorem te {xs:List T} {S:ae} {v:Value} (h:RdSl S 4 (RdT S) v xs) (hc:wL xs<=1048576):Pure Tryz.prog AJ [v] S (.bool (iR xs)):=by
 intro w hI
 have hlen:=h.le
 simp only [maxLen] at hlen
 refine o4.2 ?_
 dsimp only[o4,aO]
 refine ⟨fun i w'=>∃ k:Nat,k<=xs.length/\k<=6+1/\i=.int .i64 k/\(∀ j (h:j<xs.length),j<k->ef xs[j]=true)/\Inv w [] [] S w',
  fun i _=>xs.length - (intOf i).toNat,⟨0,Nat.zero_le _,by omega,rfl,fun j _ h=>by omega,hI⟩,?_⟩
 intro t3 _ _ _ _ _ _ _ _ _ _ _ _ _ _ _ _ _ w'
 rintro ⟨k,hk,hk7,rfl,hrel,hI⟩
 refine ⟨fun t w'=>t=.bool (decide (k<xs.length/\k<=6))/\Inv w [] [] S w',?_,?_⟩
 ·refine aD h af ?_
  refine bA ?_
  by_cases hki:(k:Int)<xs.length
  ·rw [decide_eq_true hki]
   refine rpG ?_
   refine eK ?_
   refine rpG ?_
   refine ⟨?_,hI⟩
   congr 1
   rw [Bool.eq_iff_iff]; simp; omega
  ·rw [decide_eq_false hki]
   refine rpG ?_
   exact ⟨by rw [decide_eq_false (by omega)],hI⟩
 intro t _ _ _ _ _ _ _ w'
 rintro ⟨rfl,hI⟩
 refine aI (fun hki=>?_) (fun hki=>?_)
 ·obtain ⟨hk',hk6⟩:=hki
  refine ch hI h af ac hk' (fun _ _=>RdT.length) fun cs' hcs'=>?_
  have hwm:=Fe (List.getElem_mem hk')
  refine Run.callPure kK kQ hI (i5 hcs' (by omega)) fun w' hI=>?_
  refine bM ?_
  refine az (fun hb=>done hI ?_) (fun hb=>?_)
  ·have hb':ef xs[k]=false:=by simpa using hb
   have:xs.all ef=false:=by
    rw [<- Bool.not_eq_true,List.all_eq_true]
    intro hall
    rw [hall _ (List.getElem_mem hk')] at hb'
    cases hb'
   rw [iR,this,Bool.and_false]
  ·have hb':ef xs[k]=true:=by simpa using hb
   refine bn (by omega) ?_
   refine ⟨⟨k+1,hk',by omega,rfl,fun j hj hjk=>?_,hI⟩,by simp [intOf]; omega⟩
   by_cases e:j=k
   ·subst e; exact hb'
   ·exact hrel j hj (by omega)
 ·refine aD h af ?_
  refine eK ?_
  rw [iR]
  refine done hI ?_
  by_cases hle:xs.length<=6
  ·have hall:xs.all ef=true:=by
    rw [List.all_eq_true]
    intro x hx
    obtain ⟨j,hj,rfl⟩:=List.getElem_of_mem hx
    exact hrel j hj (by omega)
   rw [decide_eq_true (show (xs.length:Int)<=6 by omega),decide_eq_true hle,hall]; rfl
  ·rw [decide_eq_false (show ¬ (xs.length:Int)<=6 by omega),decide_eq_false hle]; rfl
theorem pr {xs:List C} {S:ae} {v:Value} (h:RdSl S 5 (RdC S) v xs) (hc:wP xs<=1048576):Pure Tryz.prog xr [v] S (.bool (iA xs)):=by
 intro w hI
 have hlen:=h.le
 simp only [maxLen] at hlen
 refine lJ.2 ?_
 dsimp only[lJ,aO]
 refine ⟨fun i w'=>∃ k:Nat,k<=xs.length/\k<=20+1/\i=.int .i64 k/\(∀ j (h:j<xs.length),j<k->ce xs[j]=true)/\Inv w [] [] S w',
  fun i _=>xs.length - (intOf i).toNat,⟨0,Nat.zero_le _,by omega,rfl,fun j _ h=>by omega,hI⟩,?_⟩
 intro t3 _ _ _ _ _ _ _ _ _ _ _ _ _ _ _ _ _ w'
 rintro ⟨k,hk,hk7,rfl,hrel,hI⟩
 refine ⟨fun t w'=>t=.bool (decide (k<xs.length/\k<=20))/\Inv w [] [] S w',?_,?_⟩
 ·refine aD h bz ?_
  refine bA ?_
  by_cases hki:(k:Int)<xs.length
  ·rw [decide_eq_true hki]
   refine rpG ?_
   refine eK ?_
   refine rpG ?_
   refine ⟨?_,hI⟩
   congr 1
   rw [Bool.eq_iff_iff]; simp; omega
  ·rw [decide_eq_false hki]
   refine rpG ?_
   exact ⟨by rw [decide_eq_false (by omega)],hI⟩
 intro t _ _ _ _ _ _ _ w'
 rintro ⟨rfl,hI⟩
 refine aI (fun hki=>?_) (fun hki=>?_)
 ·obtain ⟨hk',hk6⟩:=hki
  refine ch hI h bz bl hk' (fun _ _=>RdC.length) fun cs' hcs'=>?_
  have hwm:=JS (List.getElem_mem hk')
  refine Run.callPure mH nS hI (lf hcs' (by omega)) fun w' hI=>?_
  refine bM ?_
  refine az (fun hb=>done hI ?_) (fun hb=>?_)
  ·have hb':ce xs[k]=false:=by simpa using hb
   have:xs.all ce=false:=by
    rw [<- Bool.not_eq_true,List.all_eq_true]
    intro hall
    rw [hall _ (List.getElem_mem hk')] at hb'
    cases hb'
   rw [iA,this,Bool.and_false]
  ·have hb':ce xs[k]=true:=by simpa using hb
   refine bn (by omega) ?_
   refine ⟨⟨k+1,hk',by omega,rfl,fun j hj hjk=>?_,hI⟩,by simp [intOf]; omega⟩
   by_cases e:j=k
   ·subst e; exact hb'
   ·exact hrel j hj (by omega)
 ·refine aD h bz ?_
  refine eK ?_
  rw [iA]
  refine done hI ?_
  by_cases hle:xs.length<=20
  ·have hall:xs.all ce=true:=by
    rw [List.all_eq_true]
    intro x hx
    obtain ⟨j,hj,rfl⟩:=List.getElem_of_mem hx
    exact hrel j hj (by omega)
   rw [decide_eq_true (show (xs.length:Int)<=20 by omega),decide_eq_true hle,hall]; rfl
  ·rw [decide_eq_false (show ¬ (xs.length:Int)<=20 by omega),decide_eq_false hle]; rfl

theorem KP (s:ByteArray) (S:ae):Pure Tryz.prog O4 [.string s] S (.bool (decide (0<cn s))):=by
 intro w hI
 refine Et.2 ?_
 dsimp only[Et,aO]
 refine Run.callPure Gr FZ hI (zx s S) fun w' hI=>?_
 refine aj rfl ?_
 refine aj rfl ?_
 refine dv ?_
 exact done hI rfl
theorem jm {t:T} {S:ae} {cs:List Value} (h:RdT S cs t):Pure Tryz.prog Ju [.agg cs.toArray] S (.bool (cM t)):=by
 intro w hI
 obtain ⟨kv,rfl,_,_,hs,hks⟩:=RdT.iff.1 h
 obtain ⟨k,n,s,ks⟩:=t
 simp only [T.name,T.kids,T.kind,T.n] at hs hks ⊢
 refine tS.2 ?_
 dsimp only[tS,aO]
 refine be hI fun b1 w' hI=>?_
 refine ad hI 0 rfl aE aw rfl ?_
 refine aY ?_
 rw [show cM (.mk k n s ks)=(decide (k=3) && dD s ks.length) from rfl]
 cases h3:decide (k=3)
 ·refine rpG ?_
  exact done hI rfl
 ·refine rpG ?_
  refine ad hI 0 rfl aM aJ rfl ?_
  refine ad hI 0 rfl al ag rfl ?_
  refine aD hks af ?_
  refine Run.callPure AO BH hI (xf s _ S) fun w' hI=>?_
  refine rpG ?_
  exact done hI rfl
theorem rS {t:T} {S:ae} {cs:List Value} (h:RdT S cs t):Pure Tryz.prog Jb [.agg cs.toArray] S (.bool (iQ t)):=by
 intro w hI
 have h0:=h
 obtain ⟨kv,rfl,_,_,hs,hks⟩:=RdT.iff.1 h
 obtain ⟨k,n,s,ks⟩:=t
 simp only [T.name,T.kids,T.kind,T.n] at h0 hs hks ⊢
 refine vl.2 ?_
 dsimp only[vl,aO]
 refine be hI fun b1 w' hI=>?_
 refine ad hI 0 rfl aE aw rfl ?_
 refine aY ?_
 have hb:cM (.mk k n s ks)=(decide (k=3) && dD s ks.length):=rfl
 rw [show iQ (.mk k n s ks)=(decide (k=3) && (lS s && (!dD s ks.length && decide (cn s=0)))) from rfl]
 cases h1:decide (k=3)
 ·refine rpG ?_
  exact done hI rfl
 ·rw [h1] at hb
  refine rpG ?_
  refine ad hI 0 rfl aM aJ rfl ?_
  refine Run.callPure pZ pk hI (oW s hs S) fun w' hI=>?_
  cases h2:lS s
  ·refine rpG ?_
   exact done hI rfl
  ·refine rpG ?_
   refine ad hI 0 rfl aM aJ rfl ?_
   refine Run.callPure MF Nm hI (KP s S) fun w' hI=>?_
   refine bM ?_
   rw [MJ]
   cases h3:decide (cn s=0)
   ·refine rpG ?_
    exact done hI (by simp)
   ·refine rpG ?_
    refine aq hI 0 ac rfl rfl ?_
    refine Run.callPure j6 j5 hI (jm h0) fun w' hI=>?_
    refine bM ?_
    refine rpG ?_
    exact done hI (by rw [hb]; simp)
theorem wA {t:T} {S:ae} {cs:List Value} (h:RdT S cs t):Pure Tryz.prog KZ [.agg cs.toArray] S (.bool (OD t)):=by
 intro w hI
 obtain ⟨kv,rfl,_,_,hs,hks⟩:=RdT.iff.1 h
 obtain ⟨k,n,s,ks⟩:=t
 simp only [T.name,T.kids,T.kind,T.n] at hs hks ⊢
 refine yl.2 ?_
 dsimp only[yl,aO]
 refine be hI fun b1 w' hI=>?_
 refine ad hI 0 rfl aE aw rfl ?_
 refine aY ?_
 rw [show OD (.mk k n s ks)=(decide (k=3) && decide (ks.length=0)) from rfl]
 cases h3:decide (k=3)
 ·refine rpG ?_
  exact done hI rfl
 ·refine rpG ?_
  refine ad hI 0 rfl al ag rfl ?_
  refine aD hks af ?_
  refine aY ?_
  refine rpG ?_
  exact done hI (by simp)
theorem lM {t:T} {S:ae} {cs:List Value} (h:RdT S cs t):Pure Tryz.prog MT [.agg cs.toArray] S (.bool (jR t)):=by
 intro w hI
 have h0:=h
 obtain ⟨kv,rfl,_,_,hs,hks⟩:=RdT.iff.1 h
 obtain ⟨k,n,s,ks⟩:=t
 simp only [T.name,T.kids,T.kind,T.n] at h0 hs hks ⊢
 refine Av.2 ?_
 dsimp only[Av,aO]
 refine be hI fun b1 w' hI=>?_
 refine aq hI 0 ac rfl rfl ?_
 refine Run.callPure yt yA hI (wA h0) fun w' hI=>?_
 rw [show jR (.mk k n s ks)=(decide (k=3) && (decide (s=⟨#[33]⟩) && decide (ks.length=0))) from rfl]
 cases h1:OD (.mk k n s ks)
 ·refine rpG ?_
  refine done hI ?_
  replace h1:(decide (k=3) && decide (ks.length=0))=false:=h1
  cases h2:decide (k=3)
  ·rfl
  ·rw [h2,Bool.true_and] at h1
   rw [h1,Bool.and_false]; rfl
 ·refine rpG ?_
  refine ad hI 0 rfl aM aJ rfl ?_
  refine bf ?_
  refine rpG ?_
  refine done hI ?_
  replace h1:(decide (k=3) && decide (ks.length=0))=true:=h1
  rw [Bool.and_eq_true] at h1
  rw [h1.1,h1.2]; simp
theorem mM {t:T} {S:ae} {cs:List Value} (h:RdT S cs t):Pure Tryz.prog Dm [.agg cs.toArray] S (.bool (ef t)):=by
 intro w hI
 have hl:=h.length
 refine qd.2 ?_
 dsimp only[qd,aO]
 refine be hI fun b1 w' hI=>?_
 refine aq hI 0 ac rfl (by simpa [Value.cells] using hl) ?_
 refine Run.callPure lu lq hI (i7 h) fun w' hI=>?_
 rw [ef]
 cases h1:dd t
 ·refine rpG ?_
  exact done hI rfl
 ·refine rpG ?_
  refine aq hI 0 ac rfl (by simpa [Value.cells] using hl) ?_
  refine Run.callPure wg wd hI (rS h) fun w' hI=>?_
  cases h2:iQ t
  ·refine rpG ?_
   refine aq hI 0 ac rfl (by simpa [Value.cells] using hl) ?_
   refine Run.callPure j6 j5 hI (jm h) fun w' hI=>?_
   cases h3:cM t
   ·refine rpG ?_
    refine aq hI 0 ac rfl (by simpa [Value.cells] using hl) ?_
    refine Run.callPure oe om hI (lM h) fun w' hI=>?_
    refine rpG ?_
    exact done hI (by simp)
   ·refine rpG ?_
    exact done hI (by simp)
  ·refine rpG ?_
   exact done hI (by simp)

theorem Gb {α:Type} (p:α->Bool):∀ xs:List α,(!xs.any fun x=>!p x)=xs.all p
 | []=>rfl
 | x::xs=>by
  rw [List.any_cons,List.all_cons,<- Gb p xs]
  cases p x <;> simp

theorem rF {x:T} {S:ae} {cs:List Value} (h:RdT S cs x):Pure Tryz.prog mP [.agg cs.toArray] S (.bool (!ef x)):=by
 intro w hI
 have hl:=h.length
 refine lR.2 ?_
 dsimp only[lR,aO]
 refine be hI fun b1 w' hI=>?_
 refine aq hI 0 ac rfl (by simpa [Value.cells] using hl) ?_
 refine Run.callPure pX qL hI (mM h) fun w' hI=>?_
 refine bM (done hI rfl)
theorem vK {xs:List T} {S:ae} {v:Value} (h:RdSl S 4 (RdT S) v xs):Pure Tryz.prog CB [v] S (.bool (iR xs)):=by
 intro w hI
 refine oF.2 ?_
 dsimp only[oF,aO]
 refine aD h af ?_
 refine eK ?_
 rw [iR]
 by_cases hle:xs.length<=6
 ·rw [decide_eq_true (show (xs.length:Int)<=6 by omega),decide_eq_true hle]
  refine rpG ?_
  have hcb:Cb Tryz.prog mP _ [] S (fun _:Unit=>[]) (fun _=>True) (fun _ x=>(!ef x,())) (fun v x=>∃ cs,v=.agg cs.toArray/\RdT S cs x) xs:=
   Cb.pure [] um ul fun x v _=>by
    rintro ⟨cs,rfl,hcs⟩ w1 hI
    exact (rF hcs w1 hI).mono fun e w' ⟨he,hI⟩=>⟨_,_,_,he,hI,Ext.refl _ _ _,rfl,rfl,rfl⟩
  refine Run.call0 ft fF hI (jt hcb h (st:=()) trivial) fun v' I' S' w'=>?_
  rintro ⟨rfl,rfl,rfl⟩ _ hI
  refine bM ?_
  refine rpG ?_
  refine done hI ?_
  rw [qV (fun x=>!ef x) xs,Gb]; rfl
 ·rw [decide_eq_false (show ¬ (xs.length:Int)<=6 by omega),decide_eq_false hle]
  refine rpG ?_
  exact done hI rfl
theorem ti {c:C} {S:ae} {cs:List Value} (h:RdC S cs c):Pure Tryz.prog zw [.agg cs.toArray] S (.bool (ce c)):=by
 intro w hI
 obtain ⟨hd,ks,rfl,h1,h2⟩:=h
 have h1':=h1
 obtain ⟨kv,rfl,g1,g2,g3,g4⟩:=RdT.iff.1 h1
 have hfin:ce c=(dd c.head && (iQ c.head && iR c.body)):=by
  unfold ce iR
  cases dd c.head <;> cases iQ c.head <;> simp
 refine nQ.2 ?_
 dsimp only[nQ,aO]
 rw [hfin]
 refine be hI fun b1 w' hI=>?_
 refine ai co ?_
 refine b0 hI 0 [.int .i64 c.head.kind,.int .i64 c.head.n,.string c.head.name,kv] ac rfl rfl ?_ ?_
 ·intro j v hj
  match j with
  | 0|1|2|3=>exact hj
  | j+4=>simp at hj
 refine Run.callPure lu lq hI (i7 h1') fun w' hI=>?_
 cases hv:dd c.head
 ·refine rpG ?_
  exact done hI rfl
 ·refine rpG ?_
  refine ai co ?_
  refine b0 hI 0 [.int .i64 c.head.kind,.int .i64 c.head.n,.string c.head.name,kv] ac rfl rfl ?_ ?_
  ·intro j v hj
   match j with
   | 0|1|2|3=>exact hj
   | j+4=>simp at hj
  refine Run.callPure wg wd hI (rS h1') fun w' hI=>?_
  cases hp:iQ c.head
  ·refine rpG ?_
   exact done hI rfl
  ·refine rpG ?_
   refine ad hI 0 rfl bi ag rfl ?_
   refine Run.callPure zD zG hI (vK h2) fun w' hI=>?_
   refine rpG ?_
   exact done hI rfl

theorem pd {x:C} {S:ae} {cs:List Value} (h:RdC S cs x):Pure Tryz.prog kV [.agg cs.toArray] S (.bool (!ce x)):=by
 intro w hI
 have hl:=h.length
 refine j2.2 ?_
 dsimp only[j2,aO]
 refine be hI fun b1 w' hI=>?_
 refine aq hI 0 bl rfl (by simpa [Value.cells] using hl) ?_
 refine Run.callPure wX xD hI (ti h) fun w' hI=>?_
 refine bM (done hI rfl)
theorem gH {xs:List C} {S:ae} {v:Value} (h:RdSl S 5 (RdC S) v xs):Pure Tryz.prog xp [v] S (.bool (iA xs)):=by
 intro w hI
 refine l4.2 ?_
 dsimp only[l4,aO]
 refine aD h bz ?_
 refine eK ?_
 rw [iA]
 by_cases hle:xs.length<=20
 ·rw [decide_eq_true (show (xs.length:Int)<=20 by omega),decide_eq_true hle]
  refine rpG ?_
  have hcb:Cb Tryz.prog kV _ [] S (fun _:Unit=>[]) (fun _=>True) (fun _ x=>(!ce x,())) (fun v x=>∃ cs,v=.agg cs.toArray/\RdC S cs x) xs:=
   Cb.pure [] rE rr fun x v _=>by
    rintro ⟨cs,rfl,hcs⟩ w1 hI
    exact (pd hcs w1 hI).mono fun e w' ⟨he,hI⟩=>⟨_,_,_,he,hI,Ext.refl _ _ _,rfl,rfl,rfl⟩
  refine Run.call0 mq mB hI (oh hcb h (st:=()) trivial) fun v' I' S' w'=>?_
  rintro ⟨rfl,rfl,rfl⟩ _ hI
  refine bM ?_
  refine rpG ?_
  refine done hI ?_
  rw [qV (fun x=>!ce x) xs,Gb]; rfl
 ·rw [decide_eq_false (show ¬ (xs.length:Int)<=20 by omega),decide_eq_false hle]
  refine rpG ?_
  exact done hI rfl
end
section
open Go Go.RowKit
attribute [local irreducible] Run CondV aB aS

def RowRd (S:ae) (v:Value) (e:TypeId) (k n:Nat) (xs:List Value):Prop:=
 xs.length=n * k/\((v=.slice none 0 0/\n=0) ∨ ∃ g cap cur,v=.slice (some ⟨g,0,none⟩) n cap/\S g=some (.cells cur e)/\n<=cap/\cap<=maxLen/\cur.size=cap * k/\cur.toList.take (n * k)=xs)
theorem Inv.lend {w0 w:World} {X:List Nat} {A:List Item} {S:ae} {v:Value} {e:TypeId} {k n:Nat} {xs:List Value} (h:Inv w0 X (A++[.row v e k n xs]) S w) :
  ∃ S',Sle S S'/\RowRd S' v e k n xs/\Inv w0 X A S' w/\∀ B w',Inv w0 X B S' w'->Inv w0 X (B++[.row v e k n xs]) S w':=by
 have hm:w.ownsRow 0 e k v n xs:=h.its (.row v e k n xs) (by simp)
 obtain ⟨hl,hm⟩:=hm
 rcases hm with ⟨rfl,rfl⟩|⟨g,cap,cur,rfl,_,hg,hnc,hcm,hcs,ht⟩
 ·have:xs=[]:=List.eq_nil_of_length_eq_zero (by rw [hl,Nat.zero_mul])
  subst this
  exact ⟨S,Sle.refl S,⟨hl,.inl ⟨rfl,rfl⟩⟩,h.sub (List.sublist_append_left _ _),fun B w' hB=>hB.rowNil e k⟩
 ·have hf:bE (A++[Item.blk g (.cells cur e)])=bE (A++[Item.row (.slice (some ⟨g,0,none⟩) n cap) e k n xs]):=by
   simp [bE,Item.foot,Value.ownBlock]
  have hg':g∈bE (A++[Item.row (.slice (some ⟨g,0,none⟩) n cap) e k n xs]):=by simp [bE,Item.foot,Value.ownBlock]
  have h':Inv w0 X (A++[Item.blk g (.cells cur e)]) S w:=by
   refine ⟨h.size,h.os,h.tape,h.output,h.old,fun it hit=>?_,by rw [hf]; exact h.nd,by rw [hf]; exact h.new,by rw [hf]; exact h.pub⟩
   rcases List.mem_append.1 hit with hit|hit
   ·exact h.its it (List.mem_append_left _ hit)
   ·simp at hit
    subst hit
    exact hg
  obtain ⟨h1,h2⟩:=h'.publishLast
  refine ⟨qv S g (.cells cur e),h2,⟨hl,.inr ⟨g,cap,cur,rfl,by simp [qv],hnc,hcm,hcs,ht⟩⟩,h1,fun B w' hB=>?_⟩
  have hpg:=hB.pub g (.cells cur e) (by simp [qv])
  have hfB:bE (B++[Item.row (.slice (some ⟨g,0,none⟩) n cap) e k n xs])=bE B++[g]:=by simp [bE,Item.foot,Value.ownBlock]
  refine ⟨hB.size,hB.os,hB.tape,hB.output,hB.old,fun it hit=>?_,?_,?_,?_⟩
  ·rcases List.mem_append.1 hit with hit|hit
   ·exact hB.its it hit
   ·simp at hit
    subst hit
    exact ⟨hl,.inr ⟨g,cap,cur,rfl,Nat.zero_le _,hpg.1,hnc,hcm,hcs,ht⟩⟩
  ·rw [hfB,List.nodup_append]
   refine ⟨hB.nd,by simp,fun a ha b hb=>?_⟩
   simp at hb
   subst hb
   intro e'
   subst e'
   exact hpg.2 ha
  ·intro c hc
   rw [hfB] at hc
   rcases List.mem_append.1 hc with hc|hc
   ·exact hB.new c hc
   ·simp at hc
    subst hc
    exact h.new _ hg'
  ·intro c o hc
   have hne:c≠g:=fun e'=>by
    subst e'
    exact (h.pub c o hc).2 hg'
   have:=hB.pub c o (by simp only [qv]; rw [if_neg hne]; exact hc)
   refine ⟨this.1,?_⟩
   rw [hfB]
   intro hc'
   rcases List.mem_append.1 hc' with hc'|hc'
   ·exact this.2 hc'
   ·simp at hc'
    exact hne hc'
theorem Me {α:Type} (f:α->List Value) (k:Nat) (hf:∀ y,(f y).length=k):∀ (ys:List α) (i:Nat) (h:i<ys.length),((ys.flatMap f).drop (i * k)).take k=f ys[i]
 | [],i,h=>by simp at h
 | y::ys,0,h=>by
  rw [List.flatMap_cons,Nat.zero_mul,List.drop_zero,List.take_append_of_le_length (by rw [hf]; exact Nat.le_refl _),List.take_of_length_le (by rw [hf]; exact Nat.le_refl _)]
  rfl
 | y::ys,i+1,h=>by
  rw [List.flatMap_cons,Nat.succ_mul,Nat.add_comm,<- List.drop_drop,List.drop_left' (hf y)]
  exact Me f k hf ys i (by simpa using h)
theorem RowRd.rd {α:Type} {S:ae} {v:Value} {e:TypeId} {k:Nat} {f:α->List Value} {R:List Value->α->Prop} {ys:List α} (hf:∀ y,(f y).length=k) (hR:∀ y∈ys,R (f y) y)
  (h:RowRd S v e k ys.length (ys.flatMap f)):RdSl S k R v ys:=by
 obtain ⟨hl,h⟩:=h
 rcases h with ⟨rfl,h0⟩|⟨g,cap,cur,rfl,hS,hnc,hcm,hcs,ht⟩
 ·have:ys=[]:=List.eq_nil_of_length_eq_zero h0
  subst this
  exact ⟨none,0,rfl,Nat.le_refl _,Nat.zero_le _,.inl rfl⟩
 ·refine ⟨_,cap,rfl,hnc,hcm,.inr ⟨g,0,cur,e,(0,0),rfl,hS,fun i hi=>?_⟩⟩
  have:=Me f k hf ys i hi
  have hik:i * k+k<=ys.length * k:=by rw [<- Nat.succ_mul]; exact Nat.mul_le_mul_right k hi
  rw [<- ht,List.drop_take,List.take_take,Nat.min_eq_left (by omega)] at this
  rw [aH,Nat.zero_add,this]
  exact hR _ (List.getElem_mem hi)

def ints (ns:List Int):List Value:=ns.flatMap fun n=>[.int .i64 n]
abbrev dZ (v:Value) (ns:List Int):Item:=.row v cD 1 ns.length (ints ns)
theorem wR (ns:List Int) (n:Int):ints ns++[.int .i64 n]=ints (ns++[n]):=by simp [ints]
theorem RowRd.ints {S:ae} {v:Value} {e:TypeId} {ns:List Int} (h:RowRd S v e 1 ns.length (ints ns)):RdSl S 1 ig v ns:=
 RowRd.rd (f:=fun n=>[Value.int .i64 n]) (fun _=>rfl) (fun _ _=>rfl) h
def HV (l:List Int) (n:Int):Bool:=l.any fun x=>decide (n=x)
def zF (l:List Int) (n:Int):List Int:=if HV l n=true then l else l++[n]
theorem PR (l:List Int) (n:Int):(zF l n).length<=l.length+1:=by
 unfold zF
 split <;> simp
end
section
open Go Go.RowKit
attribute [local irreducible] Run CondV aB aS

mutual
def fe:T->List Int->List Int
 | .mk k n _ ks,l=>if k=1 then zF l n else de ks l
def de:List T->List Int->List Int
 | [],l=>l
 | t::ts,l=>de ts (fe t l)
end
mutual
theorem mU:∀ (t:T) (l:List Int),((fe t l).length:Int)<=l.length+dF t
 | .mk k n s ks,l=>by
  rw [fe,show dF (T.mk k n s ks)=1+dc ks from rfl]
  have h1:=PR l n
  have:=dR ks
  split
  ·omega
  ·have:=Ex ks l
   omega
theorem Ex:∀ (ts:List T) (l:List Int),((de ts l).length:Int)<=l.length+dc ts
 | [],l=>by simp [de,dc]
 | t::ts,l=>by
  rw [de,show dc (t::ts)=dF t+dc ts from rfl]
  have:=mU t l
  have:=Ex ts (fe t l)
  omega
end
theorem qH {t:T} (h:dd t=true):eY t 30=true:=by
 rw [dd,Bool.and_eq_true] at h
 exact h.1
abbrev HO (S:ae) (r:List Int):Value->List Item->ae->Prop:=fun v I' S'=>I'=[dZ v r]/\S'=S

theorem kj:∀ (t:T) (S:ae) (cs:List Value) (v:Value) (l:List Int),RdT S cs t->l.length+dF t<=1000000000->Tri Tryz.prog Ki [v,.agg cs.toArray] [dZ v l] S (HO S (fe t l)):=by
 refine T.ind fun k n s ks ih S cs v l h hl=>?_
 intro w hI
 obtain ⟨kv,rfl,_,_,hs,hks⟩:=RdT.iff.1 h
 simp only [T.name,T.kids,T.kind,T.n] at hs hks ⊢
 have hlen:=hks.le
 simp only [maxLen] at hlen
 rw [show dF (T.mk k n s ks)=1+dc ks from rfl] at hl
 have hcp:=dR ks
 have hend:∀ {w':World} {v':Value} {b:Nat} {o:Obj} (r:List Int),Inv w (bE [dZ v l]) [.blk b o,dZ v' r] S w'->r=fe (.mk k n s ks) l->
   ∃ v'' I' S',Ending.returned v'=.returned v''/\Inv w (bE [dZ v l]) I' S' w'/\Ext w.heap.size (bE [dZ v l]) S S'/\HO S (fe (.mk k n s ks) l) v'' I' S':=by
  intro w' v' b o r h1 h2
  subst h2
  exact ⟨_,_,_,rfl,h1.pick [false,true],Ext.refl _ _ _,rfl,rfl⟩
 refine yw.2 ?_
 dsimp only[yw,aX]
 refine be hI fun b3 w' hI=>?_
 have hI:=hI.perm (M:=[.blk b3 (.cells #[.int .i64 k,.int .i64 n,.string s,kv] ab),dZ v l]) (List.Perm.swap _ _ _)
 refine ad hI 0 rfl aE aw rfl ?_
 refine aY ?_
 refine aI (fun hk=>?_) (fun hk=>?_)
 ·have hr:zF l n=fe (.mk k n s ks) l:=by rw [fe,if_pos hk]
  obtain ⟨S1,hle,hrd,hI,hback⟩:=Inv.lend (A:=[_]) hI
  have hrd:=hrd.ints
  refine ⟨fun i w'=>∃ j:Nat,j<=l.length/\i=.int .i64 j/\HV (l.drop j) n=HV l n/\Inv w (bE [dZ v l]) [.blk b3 (.cells #[.int .i64 k,.int .i64 n,.string s,kv] ab)] S1 w',
   fun i _=>l.length - (intOf i).toNat,⟨0,Nat.zero_le _,rfl,rfl,hI⟩,?_⟩
  intro t5 _ _ _ _ t22 t21 t20 t19 t18 t17 t16 _ _ _ _ w'
  rintro ⟨j,hj,rfl,hrel,hI⟩
  refine aD hrd cQ ?_
  refine bA ?_
  refine aI (fun hji=>?_) (fun hji=>?_)
  ·have hj':j<l.length:=by omega
   have hstep:HV (l.drop j) n=(decide (n=l[j]) || HV (l.drop (j+1)) n):=Iq _ l j hj'
   obtain ⟨b,o,cap,c,E,fz,rfl,hS,hR⟩:=hrd.at_ hj'
   refine ⟨fun D oZ mD ki ml rR nT wD w_=>Fx D 0 [wD=.slice (some ⟨b,o,none⟩) l.length cap,nT=.int .i64 j,rR=.pointer (some ⟨b,o+j * 1,none⟩),ml=.int .i64 l[j],ki=.pointer (some ⟨b3,1,none⟩),mD=.int .i64 n,oZ=.bool (decide (l[j]=n))]/\Inv w (bE [dZ (.slice (some ⟨b,o,none⟩) l.length cap) l]) [.blk b3 (.cells #[.int .i64 k,.int .i64 n,.string s,kv] ab)] S1 w_,⟨Fx.nil _ _,hI.draw⟩,⟨?_,?_,?_,?_,?_,?_,?_,trivial⟩,?_⟩
   all_goals (intro D bo; intros; rename_i oZ mD ki ml rR nT wD w_ hA_; have hF_:=hA_.1; obtain ⟨⟨bU,bV,bH,bR,bZ,bI,bB,_⟩,hI⟩:=hA_)
   ·exact ⟨hF_.set 0 rfl,hI⟩
   ·exact ⟨hF_.set 1 rfl,hI⟩
   ·obtain rfl:=bU ‹_›
    obtain rfl:=bV ‹_›
    refine au cQ hj' ?_
    exact ⟨hF_.set 2 rfl,hI⟩
   ·obtain rfl:=bH ‹_›
    refine cz aw (by rw [hI.cellS hS]; exact ar hR 0 _ rfl) ?_
    exact ⟨hF_.set 3 rfl,hI⟩
   ·refine ai aK ?_
    exact ⟨hF_.set 4 rfl,hI⟩
   ·obtain rfl:=bZ ‹_›
    refine aA hI 0 aw rfl rfl ?_
    exact ⟨hF_.set 5 rfl,hI⟩
   ·obtain rfl:=bR ‹_›
    obtain rfl:=bI ‹_›
    refine aY ?_
    exact ⟨hF_.set 6 rfl,hI⟩
   obtain ⟨rfl,rfl,rfl,rfl,rfl,rfl,rfl,_⟩:=hF_.all
   clear hF_ bU bV bH bR bZ bI bB
   refine aI (fun he=>?_) (fun he=>?_)
   ·refine hend l (hback _ _ hI) ?_
    rw [<- hr,zF,if_pos (by rw [<- hrel,hstep,decide_eq_true he.symm]; rfl)]
   ·refine bn (by omega) ?_
    exact ⟨⟨j+1,hj',rfl,by rw [<- hrel,hstep,decide_eq_false (fun e=>he e.symm)]; rfl,hI⟩,by simp [intOf]; omega⟩
  ·have:j=l.length:=by omega
   subst this
   have hno:HV l n=false:=by rw [<- hrel,List.drop_length]; rfl
   have hI:Inv w (bE [dZ v l]) [.blk b3 (.cells #[.int .i64 k,.int .i64 n,.string s,kv] ab),dZ v l] S _:=hback _ _ hI
   refine ad hI 0 rfl aK aw rfl ?_
   refine dQ hI lB rfl (by omega) (by omega) fun b w' hI=>?_
   refine eR hI 1 (k:=1) [.int .i64 n] lB (by omega) rfl rfl ?_ ?_ (by omega) (by omega) fun v' w' hI=>?_
   ·intro j u hj
    rw [hI.cellL (i:=2) rfl]
    match j with
    | 0=>simpa [Value.cells] using hj
    | j+1=>simp at hj
   ·simp [Value.oneCell']
   ·rw [wR] at hI
    have hI:=hI.pick [true,true,false]
    refine hend (b:=b3) (o:=.cells #[.int .i64 k,.int .i64 n,.string s,kv] ab) (l++[n]) ?_ ?_
    ·have e:Item.row v' cD 1 (l.length+1) (ints (l++[n]))=dZ v' (l++[n]):=by simp [dZ]
     exact e ▸ hI
    ·rw [<- hr,zF,if_neg (by rw [hno]; decide)]
 ·have hr:de ks l=fe (.mk k n s ks) l:=by rw [fe,if_neg hk]
  refine ⟨fun i t w'=>∃ (j:Nat) (l':List Int),j<=ks.length/\i=.int .i64 j/\de (ks.drop j) l'=de ks l/\l'.length+dc (ks.drop j)<=1000000000/\Inv w (bE [dZ v l]) [.blk b3 (.cells #[.int .i64 k,.int .i64 n,.string s,kv] ab),dZ t l'] S w',
   fun i _ _=>ks.length - (intOf i).toNat,⟨0,l,Nat.zero_le _,rfl,rfl,by rw [List.drop_zero]; omega,hI⟩,?_⟩
  intro t6 _ _ t0 _ _ _ _ _ _ _ _ _ _ _ _ w'
  rintro ⟨j,l',hj,rfl,hrel,hl',hI⟩
  refine ad hI 0 rfl al ag rfl ?_
  refine aD hks af ?_
  refine bA ?_
  refine aI (fun hji=>?_) (fun hji=>?_)
  ·have hj':j<ks.length:=by omega
   rw [s6 ks j hj'] at hl'
   rw [List.drop_eq_getElem_cons hj',de] at hrel
   have hc1:=dR (ks.drop (j+1))
   have hc2:=mU ks[j] l'
   refine ad hI 0 rfl al ag rfl ?_
   refine ch hI hks af ac hj' (fun _ _=>RdT.length) fun cs' hcs'=>?_
   refine Run.call (A:=[_]) jI jq hI (ih _ (List.getElem_mem hj') S cs' t0 l' hcs' (by omega)) fun v' I' S' w'=>?_
   rintro ⟨rfl,rfl⟩ _ hI
   refine bn (by omega) ?_
   exact ⟨⟨j+1,_,hj',rfl,hrel,by omega,hI⟩,by simp [intOf]; omega⟩
  ·have:j=ks.length:=by omega
   subst this
   rw [List.drop_length,de] at hrel
   exact hend l' hI (by rw [hrel,hr])
end
section
open Go Go.RowKit
attribute [local irreducible] Run CondV aB aS

section
variable {P:Program} {w w0:World} {X:List Nat} {L:List Item} {S:ae} {K:Value->Value->Value->World->Prop}
end
end
section
open Go Go.ChangeShapes Go.WideShapes Go.ChangeAt Go.RowKit

def Ms (W:World):ae:=fun b=>W.heap[b]?
section
variable {H:Type} {enc:TypeId × Value->H} {P:Program} {W:World} {sp:Nat->Bool} {held:Bool}
theorem Nn {a:Addr} {v:Value} (h:W.cell? a=some v):∃ b o c E fz,a=⟨b,o,none⟩/\W.heap[b]?=some (.cells c E fz)/\c[o]?=some v:=by
 obtain ⟨b,o,s⟩:=a
 simp only [World.cell?] at h
 split at h
 ·rename_i c E fz hb
  cases s with
  | none=>exact ⟨b,o,c,E,fz,rfl,hb,by simpa using h⟩
  | some s=>simp at h
 ·cases h
theorem O2 {b o k:Nat} {cs:List Value} {c:Array Value} {E:TypeId} {fz:Nat × Nat} (hb:W.heap[b]?=some (.cells c E fz)) (h:W.cells? 0 ⟨b,o,none⟩ k=some cs):aH c o k=cs:=by
 unfold World.cells? at h
 rw [if_pos (Nat.zero_le _)] at h
 have hl:cs.length=k:=by simpa using mapM_some_length h
 apply List.ext_getElem?
 intro i
 rw [aH,List.getElem?_take]
 by_cases hi:i<k
 ·rw [if_pos hi,List.getElem?_drop]
  have:=mapM_some_get h i i (by simp [hi])
  rw [<- this,j7]
  simp [World.cell?,hb]
 ·rw [if_neg hi,List.getElem?_eq_none (by omega)]
theorem ym {α:Type} (p:Nat->α->Prop):∀ n:Nat,(∀ i,i<n->∃ t,p i t)->∃ xs:List α,xs.length=n/\∀ i (h:i<xs.length),p i xs[i]
 | 0,_=>⟨[],rfl,fun i h=>by simp at h⟩
 | n+1,h=>by
  obtain ⟨xs,hl,hx⟩:=ym p n fun i hi=>h i (by omega)
  obtain ⟨t,ht⟩:=h n (by omega)
  refine ⟨xs++[t],by simp [hl],fun i hi=>?_⟩
  by_cases e:i<xs.length
  ·rw [List.getElem_append_left e]
   exact hx i e
  ·have:i=xs.length:=by simp at hi; omega
   subst this
   simp only [List.getElem_append_right (Nat.le_refl _),Nat.sub_self,List.getElem_cons_zero]
   rw [hl]
   exact ht
theorem mg {T e:TypeId} {k:Nat} (h:cB P T=some (e,k)):P.underlying T=some (.slice e)/\P.cellsOf e=k:=by
 unfold cB at h
 split at h
 ·rename_i e' he
  rw [Option.map_eq_some_iff] at h
  obtain ⟨i,hi,hx⟩:=h
  simp only [Prod.mk.injEq] at hx
  obtain ⟨rfl,rfl⟩:=hx
  exact ⟨he,by simp [Program.cellsOf,hi]⟩
 ·cases h
theorem PV {α:Type} {R:List Value->α->Prop} {T e:TypeId} {k fuel:Nat} {v:Value} {x:DataW H × List MemPlace} (hu:cB P T=some (e,k)) (hk0:0<k)
  (h:DataW.trod enc P W 0 sp held fuel T [v]=some x) (hel:∀ n cs y,fuel=n+1->DataW.trod enc P W 0 sp held n e cs=some y->∃ t:α,R cs t):∃ xs,RdSl (Ms W) k R v xs:=by
 obtain ⟨hu1,hk⟩:=mg hu
 rcases DataW.trod_slice hu1 h with ⟨hcs,_⟩|⟨a,len,cap,elems,rest,n,hf,hcs,_,_,hl,hc,hlen,hE,_⟩
 ·simp only [List.cons.injEq,and_true] at hcs
  subst hcs
  exact ⟨[],none,0,rfl,Nat.le_refl _,Nat.zero_le _,.inl rfl⟩
 ·simp only [List.cons.injEq,and_true] at hcs
  subst hcs
  have hE':∀ i,i<len->∃ t:α,∃ cs,W.cells? 0 (a.add (i * k)) k=some cs/\R cs t:=by
   intro i hi
   have:=hE i hi
   rw [hk,List.getElem?_eq_getElem (by omega),Option.bind_eq_some_iff] at this
   obtain ⟨cs,h1,h2⟩:=this
   obtain ⟨t,ht⟩:=hel n cs _ hf h2
   exact ⟨t,cs,h1,ht⟩
  obtain ⟨xs,hxl,hxs⟩:=ym _ len hE'
  subst hxl
  refine ⟨xs,some a,cap,rfl,hl,hc,?_⟩
  by_cases h0:xs.length=0
  ·exact .inl (List.eq_nil_of_length_eq_zero h0)
  ·obtain ⟨cs0,h1,_⟩:=hxs 0 (by omega)
   have e0:a.add (0 * k)=a:=by rw [Nat.zero_mul]; simp [Addr.add]
   rw [e0] at h1
   have hc0:∃ u,W.cell? a=some u:=by
    unfold World.cells? at h1
    rw [if_pos (Nat.zero_le _)] at h1
    have hl0:cs0.length=k:=by simpa using mapM_some_length h1
    have:=mapM_some_get h1 0 0 (by simp [hk0])
    rw [List.getElem?_eq_getElem (by omega)] at this
    have e1:a.add 0=a:=by simp [Addr.add]
    rw [e1] at this
    exact ⟨_,this⟩
   obtain ⟨u,hu0⟩:=hc0
   obtain ⟨b,o,c,E,fz,rfl,hb,_⟩:=Nn hu0
   refine .inr ⟨b,o,c,E,fz,rfl,hb,fun i hi=>?_⟩
   obtain ⟨cs,h2,hR⟩:=hxs i hi
   rw [j7] at h2
   rw [O2 hb h2]
   exact hR
end

section
variable {H:Type} {enc:TypeId × Value->H} {W:World} {sp:Nat->Bool} {held:Bool}
end

theorem Inv.entry (W:World):Inv W [] [] (Ms W) W:=Inv.start (L:=[]) (by simp) (by simp [bE]) fun b o hb=>⟨hb,by simp [bE]⟩
theorem Inv.same {W W':World} {L:List Item} {S:ae} (h:Inv W [] L S W') (b:Nat) (hb:b<W.heap.size):W'.heap[b]?=W.heap[b]?:=h.old b hb (by simp)
theorem M6 {W W':World} {may:MemPlace->Prop} (ho:W'.os=W.os) (hp:W'.output=W.output) (h:∀ b,b<W.heap.size->W'.heap[b]?=W.heap[b]?):W.keptBut W' may:=by
 refine ⟨ho,hp,fun i hi=>?_⟩
 rw [h i hi]
 split
 ·rename_i e1 e2
  rw [e1] at e2
  simp only [Option.some.injEq,Obj.cells.injEq] at e2
  obtain ⟨rfl,rfl,rfl⟩:=e2
  exact ⟨rfl,rfl,rfl,fun _ _=>rfl⟩
 ·rename_i e1 e2
  rw [e1] at e2
  simp only [Option.some.injEq,Obj.map.injEq] at e2
  obtain ⟨rfl,rfl⟩:=e2
  exact .inr ⟨rfl,rfl⟩
 ·rfl
end
section
open Go Go.RowKit
attribute [local irreducible] Run CondV aB aS
end
section
open Go Go.RowKit
attribute [local irreducible] Run CondV aB aS

mutual
def eqT:T->T->Bool
 | .mk k n s ks,.mk k' n' s' ks'=>decide (k=k') && (decide (n=n') && (decide (s=s') && eqL ks ks'))
def eqL:List T->List T->Bool
 | [],[]=>true
 | t::ts,u::us=>eqT t u && eqL ts us
 | _,_=>false
end
mutual
theorem FL:∀ a b:T,eqT a b=true↔a=b
 | .mk k n s ks,.mk k' n' s' ks'=>by
  simp only [eqT,Bool.and_eq_true,decide_eq_true_eq,GZ ks ks',T.mk.injEq]
theorem GZ:∀ a b:List T,eqL a b=true↔a=b
 | [],[]=>by simp [eqL]
 | [],_::_=>by simp [eqL]
 | _::_,[]=>by simp [eqL]
 | t::ts,u::us=>by
  simp only [eqL,Bool.and_eq_true,FL t u,GZ ts us,List.cons.injEq]
end
theorem Mg:∀ {a b:List T},a.length≠b.length->eqL a b=false:=by
 intro a b h
 rw [<- Bool.not_eq_true,GZ]
 rintro rfl
 exact h rfl
theorem H2 {a b c d e:Value}:∀ (j:Nat) (v:Value),([a,b,c,d]:List Value)[j]?=some v->(#[a,b,c,d,e]:Array Value)[0+j]?=some v
 | 0,_,h|1,_,h|2,_,h|3,_,h=>h
 | j+4,_,h=>by simp at h
end
section
open Go Go.RowKit
attribute [local irreducible] Run CondV aB aS

theorem Run.toClauseS {w w0:World} {X:List Nat} {L:List Item} {S:ae} {K:Value->World->Prop} {p:List C} {v:Value} (hI:Inv w0 X L S w) (h:RdSl S 5 (RdC S) v p) (hw:p.length+wP p<=1048576)
  (hk:∀ v' S' w',Sle S S'->RdSl S' 5 (RdC S') v' p->Inv w0 X L S' w'->K v' w'):Run Tryz.prog (eA (.func (.func sN) #[] #[]) [v]) w K:=by
 refine Run.call0 AS Cu hI (zz h hw) fun v' I' S' w'=>?_
 rintro ⟨rfl,M,rfl,hT⟩ _ hI
 obtain ⟨S2,hI,hle,hins,_⟩:=Inv.publishAll M hI
 exact hk _ _ _ hle (hT.rd hins fun _ _ _ hi h=>h.rd hi) hI
theorem Run.toClause {w w0:World} {X:List Nat} {L:List Item} {S:ae} {K:Value->World->Prop} {c:C} {cs:List Value} (hI:Inv w0 X L S w) (h:RdC S cs c) (hw:wC c<=1048576)
  (hk:∀ cs' S' w',Sle S S'->RdC S' cs' c->Inv w0 X L S' w'->K (.agg cs'.toArray) w'):Run Tryz.prog (eA (.func (.func tQ) #[] #[]) [.agg cs.toArray]) w K:=by
 refine Run.call0 sV sX hI (qD h hw) fun v' I' S' w'=>?_
 rintro ⟨rfl,cs',M,rfl,rfl,hT⟩ _ hI
 obtain ⟨S2,hI,hle,hins,_⟩:=Inv.publishAll M hI
 exact hk _ _ _ hle (hT.rd hins) hI
theorem Run.toTerm {w w0:World} {X:List Nat} {L:List Item} {S:ae} {K:Value->World->Prop} {t:T} {cs:List Value} (hI:Inv w0 X L S w) (h:RdT S cs t) (hw:wT t<=1048576)
  (hk:∀ cs' S' w',Sle S S'->RdT S' cs' t->Inv w0 X L S' w'->K (.agg cs'.toArray) w'):Run Tryz.prog (eA (.func (.func s9) #[] #[]) [.agg cs.toArray]) w K:=by
 refine Run.call0 qR px hI (oD _ S _ h hw) fun v' I' S' w'=>?_
 rintro ⟨rfl,cs',M,rfl,rfl,hT⟩ _ hI
 obtain ⟨S2,hI,hle,hins,_⟩:=Inv.publishAll M hI
 exact hk _ _ _ hle (hT.rd hins) hI
theorem Run.toTermS {w w0:World} {X:List Nat} {L:List Item} {S:ae} {K:Value->World->Prop} {p:List T} {v:Value} (hI:Inv w0 X L S w) (h:RdSl S 4 (RdT S) v p) (hw:p.length+wL p<=1048576)
  (hk:∀ v' S' w',Sle S S'->RdSl S' 4 (RdT S') v' p->Inv w0 X L S' w'->K v' w'):Run Tryz.prog (eA (.func (.func pv) #[] #[]) [v]) w K:=by
 refine Run.call0 nY oz hI (sT h hw) fun v' I' S' w'=>?_
 rintro ⟨rfl,M,rfl,hT⟩ _ hI
 obtain ⟨S2,hI,hle,hins,_⟩:=Inv.publishAll M hI
 exact hk _ _ _ hle (hT.rd hins fun _ _ _ hi h=>h.rd hi) hI
end
section
open Go Go.RowKit
section
variable {P:Program} {w w0:World} {X:List Nat} {L:List Item} {S:ae} {K:Value->World->Prop}
attribute [local irreducible] Run CondV aB aS
theorem Mt {T:TypeId} {cx cy:Bool} {a b:Int} (hb:b≠0) (hk:K (.int .i64 (a.tmod b)) w):Run P (cR .rem T cx cy (.int .i64 a) (.int .i64 b)) w K:=
 Run.of (by simp [cR,cO,binOp,Op.intDiv,hb]) hk
theorem QQ {T:TypeId} {cx cy:Bool} {a b:Int} (hb:b≠0) (hr:-9223372036854775808<=a.tdiv b/\a.tdiv b<=9223372036854775807) (hk:K (.int .i64 (a.tdiv b)) w):Run P (cR .quo T cx cy (.int .i64 a) (.int .i64 b)) w K:=
 Run.of (by simp [cR,cO,binOp,Op.intDiv,hb,IntWalk.i64_in _ hr]) hk
end

section
attribute [local irreducible] Run CondV aB aS
end
end
section
open Go Go.RowKit

theorem Part.upd {α:Type} {k:Nat} {R:bg->List Value->α->Prop} {c c':Array Value} {Ls:List bg} {xs:List α} (h:Part k R c Ls xs) {i:Nat} {L':bg} {x:α} (hx:R L' (aH c' (i * k) k) x)
  (hne:∀ j,j≠i->aH c' (j * k) k=aH c (j * k) k):Part k R c' (Ls.set i L') (xs.set i x):=by
 refine ⟨by simp [h.1],fun j h1 h2=>?_⟩
 by_cases e:i=j
 ·subst e
  rw [List.getElem_set_self,List.getElem_set_self]
  exact hx
 ·rw [List.getElem_set_ne e,List.getElem_set_ne e,hne j fun e'=>e e'.symm]
  exact h.2 j (by simpa using h1) (by simpa using h2)
section
attribute [local irreducible] Run CondV aB aS
end
end
section
open Go Go.RowKit

section
attribute [local irreducible] Run CondV aB aS
theorem TrC.parts {L:bg} {cs:List Value} {c:C} (h:TrC L cs c):∃ kv ks L1 L2,cs=[.int .i64 c.head.kind,.int .i64 c.head.n,.string c.head.name,kv,ks]/\L=L1++L2/\TrSl 4 TrT L1 kv c.head.kids/\TrSl 4 TrT L2 ks c.body:=by
 obtain ⟨hd,ks,L1,L2,rfl,rfl,h1,h2⟩:=h
 obtain ⟨kv,rfl,_,_,_,hkT⟩:=TrT.iff.1 h1
 exact ⟨kv,ks,L1,L2,rfl,rfl,hkT,h2⟩
end
end
section
open Go Go.RowKit

section
attribute [local irreducible] Run CondV aB aS
end
end
section
open Go Go.RowKit

section
variable {w:World} {K:Value->World->Prop}
attribute [local irreducible] Run
end

attribute [local irreducible] Run CondV aB aS
structure Pd where
 name:ByteArray
 arity:Int
deriving DecidableEq
def Pd.cells (x:Pd):List Value:=[.string x.name,.int .i64 x.arity]
def iF (t:T):Pd:=⟨t.name,t.kids.length⟩
def E8 (x y:Pd):Bool:=decide (x.name=y.name) && decide (x.arity=y.arity)
def lN (f:C->Bool):List C->Nat->List Int
 | [],_=>[]
 | c::cs,k=>if f c=true then (k:Int)::lN f cs (k+1) else lN f cs (k+1)
theorem IL (f:C->Bool):∀ (p:List C) (k:Nat) (n:Int),n∈lN f p k->∃ i:Nat,(k:Int)<=n/\n=k+i/\∃ h:i<p.length,f p[i]=true
 | [],k,n,h=>by simp [lN] at h
 | c::cs,k,n,h=>by
  have hrec:n∈lN f cs (k+1)->∃ i:Nat,(k:Int)<=n/\n=k+i/\∃ h:i<(c::cs).length,f (c::cs)[i]=true:=by
   intro h
   obtain ⟨i,h1,h2,h3,h4⟩:=IL f cs (k+1) n h
   exact ⟨i+1,by omega,by omega,by simpa using h3,by simpa using h4⟩
  rw [lN] at h
  split at h
  ·rcases List.mem_cons.1 h with rfl|h
   ·exact ⟨0,by omega,by omega,by simp,by simpa using ‹f c=true›⟩
   ·exact hrec h
  ·exact hrec h
end
section
open Go Go.RowKit
attribute [local irreducible] Run CondV aB aS

theorem Lk (f:C->Bool) (p:List C) (k:Nat) (h:k<p.length) (l:List Int):(if f p[k]=true then l++[(k:Int)] else l)++lN f (p.drop (k+1)) (k+1)=l++lN f (p.drop k) k:=by
 rw [List.drop_eq_getElem_cons h,lN]
 split
 ·rw [List.append_assoc]; rfl
 ·rfl

theorem HT {p:List C} {g:T} {S:ae} {v:Value} {cs:List Value} (h:RdSl S 5 (RdC S) v p) (hg:RdT S cs g) (hp:p.length<=2000000) :
  Tri Tryz.prog MR [v,.agg cs.toArray] [] S (HO S (lN (fun c=>E8 (iF c.head) (iF g)) p 0)):=by
 intro w hI
 obtain ⟨gv,rfl,_,_,hgs,hgk⟩:=RdT.iff.1 hg
 obtain ⟨gk,gn,gs,gks⟩:=g
 simp only [T.name,T.kids,T.kind,T.n] at hgs hgk ⊢
 refine BZ.2 ?_
 dsimp only[BZ,aX]
 refine be hI fun b3 w' hI=>?_
 refine dE hI lB fun v0 w' hI=>?_
 refine ⟨fun i t w'=>∃ (k:Nat) (l:List Int),k<=p.length/\i=.int .i64 k/\l++lN (fun c=>E8 (iF c.head) (iF (.mk gk gn gs gks))) (p.drop k) k=lN (fun c=>E8 (iF c.head) (iF (.mk gk gn gs gks))) p 0/\l.length<=k/\
   Inv w [] [.blk b3 (.cells #[.int .i64 gk,.int .i64 gn,.string gs,gv] ab),dZ t l] S w',fun i _ _=>p.length - (intOf i).toNat,⟨0,[],Nat.zero_le _,rfl,rfl,Nat.le_refl _,hI⟩,?_⟩
 intro t6 _ _ t5 _ _ _ _ t35 t34 t33 t32 t31 t30 t29 t28 t27 t26 t25 t24 t23 t22 t21 t20 t19 t18 t17 t16 t15 t14 _ _ _ _ w'
 rintro ⟨k,l,hk,rfl,hrel,hl,hI⟩
 refine aD h bz ?_
 refine bA ?_
 refine aI (fun hki=>?_) (fun hki=>?_)
 ·have hk':k<p.length:=by omega
  refine ⟨fun t w'=>Inv w [] [.blk b3 (.cells #[.int .i64 gk,.int .i64 gn,.string gs,gv] ab),dZ t (if E8 (iF p[k].head) (iF (.mk gk gn gs gks))=true then l++[(k:Int)] else l)] S w',?_,?_⟩
  ·obtain ⟨b,o,cap,c,E,fz,rfl,hS,hR⟩:=h.at_ hk'
   obtain ⟨hd,ks2,hcs,h1,h2⟩:=hR
   obtain ⟨kv,rfl,_,_,hs1,hk1⟩:=RdT.iff.1 h1
   have hf0:E8 (iF p[k].head) (iF (.mk gk gn gs gks))=(decide (p[k].head.name=gs) && decide ((p[k].head.kids.length:Int)=gks.length)):=rfl
   cases hq:decide (p[k].head.name=gs)
   ·have hf:E8 (iF p[k].head) (iF (.mk gk gn gs gks))=false:=by rw [hf0,hq]; rfl
    refine ⟨fun D kz pz mt oE jM jd lw iB mJ nh hY mY pC oZ mD ki ml rR nT wD zY tI w_=>Fx D 0 [tI=.slice (some ⟨b,o,none⟩) p.length cap,zY=.int .i64 k,wD=.pointer (some ⟨b,o+k * 5,none⟩),nT=.pointer (some ⟨b,o+k * 5,none⟩),rR=.pointer (some ⟨b,o+k * 5+2,none⟩),ml=.string p[k].head.name,ki=.pointer (some ⟨b3,2,none⟩),mD=.string gs,oZ=.bool false,pC=.bool false,mY=undef,hY=undef,nh=undef,mJ=undef,iB=undef,lw=undef,jd=undef,jM=undef,oE=undef,mt=undef,pz=undef,kz=.bool false]/\Inv w [] [.blk b3 (.cells #[.int .i64 gk,.int .i64 gn,.string gs,gv] ab),dZ t5 l] S w_,⟨Fx.nil _ _,hI.draw⟩,⟨?_,?_,?_,?_,?_,?_,?_,?_,?_,?_,?_,?_,?_,?_,?_,?_,?_,?_,?_,?_,?_,?_,trivial⟩,?_⟩
    all_goals (intro D bo; intros; rename_i kz pz mt oE jM jd lw iB mJ nh hY mY pC oZ mD ki ml rR nT wD zY tI w_ hA_; have hF_:=hA_.1; obtain ⟨⟨bU,bV,bH,bR,bZ,bI,bB,ct,cF,cK,bG,bX,cI,dq,cC,dA,dH,dV,fu,ew,fP,iq,_⟩,hI⟩:=hA_)
    ·exact ⟨hF_.set 0 rfl,hI⟩
    ·exact ⟨hF_.set 1 rfl,hI⟩
    ·obtain rfl:=bU ‹_›
     obtain rfl:=bV ‹_›
     refine au bz hk' ?_
     exact ⟨hF_.set 2 rfl,hI⟩
    ·obtain rfl:=bH ‹_›
     refine ai co ?_
     exact ⟨hF_.set 3 rfl,hI⟩
    ·obtain rfl:=bR ‹_›
     refine ai aM ?_
     exact ⟨hF_.set 4 rfl,hI⟩
    ·obtain rfl:=bZ ‹_›
     refine cz aJ (by rw [hI.cellS hS]; exact ar hcs 2 _ rfl) ?_
     exact ⟨hF_.set 5 rfl,hI⟩
    ·refine ai aM ?_
     exact ⟨hF_.set 6 rfl,hI⟩
    ·obtain rfl:=bB ‹_›
     refine aA hI 0 aJ rfl rfl ?_
     exact ⟨hF_.set 7 rfl,hI⟩
    ·obtain rfl:=bI ‹_›
     obtain rfl:=ct ‹_›
     refine bf ?_; rw [hq]
     exact ⟨hF_.set 8 rfl,hI⟩
    ·obtain rfl:=cF ‹_›
     exact ⟨hF_.set 9 rfl,hI⟩
    ·obtain rfl:=cK ‹_›
     refine ci (c:=false) (b:=true) (by decide) ?_
     exact ⟨hF_.set 10 rfl,hI⟩
    ·obtain rfl:=cK ‹_›
     refine ci (c:=false) (b:=true) (by decide) ?_
     exact ⟨hF_.set 11 rfl,hI⟩
    ·obtain rfl:=bG ‹_›
     obtain rfl:=bX ‹_›
     obtain rfl:=cK ‹_›
     refine ci (c:=false) (b:=true) (by decide) ?_
     exact ⟨hF_.set 12 rfl,hI⟩
    ·obtain rfl:=cI ‹_›
     obtain rfl:=cK ‹_›
     refine ci (c:=false) (b:=true) (by decide) ?_
     exact ⟨hF_.set 13 rfl,hI⟩
    ·obtain rfl:=dq ‹_›
     obtain rfl:=cK ‹_›
     refine ci (c:=false) (b:=true) (by decide) ?_
     exact ⟨hF_.set 14 rfl,hI⟩
    ·obtain rfl:=cC ‹_›
     obtain rfl:=cK ‹_›
     refine ci (c:=false) (b:=true) (by decide) ?_
     exact ⟨hF_.set 15 rfl,hI⟩
    ·obtain rfl:=dA ‹_›
     obtain rfl:=cK ‹_›
     refine ci (c:=false) (b:=true) (by decide) ?_
     exact ⟨hF_.set 16 rfl,hI⟩
    ·obtain rfl:=cK ‹_›
     refine ci (c:=false) (b:=true) (by decide) ?_
     exact ⟨hF_.set 17 rfl,hI⟩
    ·obtain rfl:=dV ‹_›
     obtain rfl:=cK ‹_›
     refine ci (c:=false) (b:=true) (by decide) ?_
     exact ⟨hF_.set 18 rfl,hI⟩
    ·obtain rfl:=fu ‹_›
     obtain rfl:=cK ‹_›
     refine ci (c:=false) (b:=true) (by decide) ?_
     exact ⟨hF_.set 19 rfl,hI⟩
    ·obtain rfl:=dH ‹_›
     obtain rfl:=ew ‹_›
     obtain rfl:=cK ‹_›
     refine ci (c:=false) (b:=true) (by decide) ?_
     exact ⟨hF_.set 20 rfl,hI⟩
    ·obtain rfl:=cK ‹_›
     obtain rfl:=fP ‹_›
     refine oA ?_
     exact ⟨hF_.set 21 rfl,hI⟩
    obtain ⟨rfl,rfl,rfl,rfl,rfl,rfl,rfl,rfl,rfl,rfl,rfl,rfl,rfl,rfl,rfl,rfl,rfl,rfl,rfl,rfl,rfl,rfl,_⟩:=hF_.all
    clear hF_ bU bV bH bR bZ bI bB ct cF cK bG bX cI dq cC dA dH dV fu ew fP iq
    refine az (fun hb=>by cases hb) (fun hb=>?_)
    rw [hf,if_neg (by decide)]
    exact hI
   ·have hf:E8 (iF p[k].head) (iF (.mk gk gn gs gks))=decide ((p[k].head.kids.length:Int)=gks.length):=by rw [hf0,hq]; rfl
    refine ⟨fun D kz pz mt oE jM jd lw iB mJ nh hY mY pC oZ mD ki ml rR nT wD zY tI w_=>Fx D 0 [tI=.slice (some ⟨b,o,none⟩) p.length cap,zY=.int .i64 k,wD=.pointer (some ⟨b,o+k * 5,none⟩),nT=.pointer (some ⟨b,o+k * 5,none⟩),rR=.pointer (some ⟨b,o+k * 5+2,none⟩),ml=.string p[k].head.name,ki=.pointer (some ⟨b3,2,none⟩),mD=.string gs,oZ=.bool true,pC=.bool true,mY=.slice (some ⟨b,o,none⟩) p.length cap,hY=.int .i64 k,nh=.pointer (some ⟨b,o+k * 5,none⟩),mJ=.pointer (some ⟨b,o+k * 5,none⟩),iB=.pointer (some ⟨b,o+k * 5+3,none⟩),lw=kv,jd=.int .i64 p[k].head.kids.length,jM=.pointer (some ⟨b3,3,none⟩),oE=gv,mt=.int .i64 gks.length,pz=.bool (decide ((p[k].head.kids.length:Int)=gks.length)),kz=.bool (decide ((p[k].head.kids.length:Int)=gks.length))]/\Inv w [] [.blk b3 (.cells #[.int .i64 gk,.int .i64 gn,.string gs,gv] ab),dZ t5 l] S w_,⟨Fx.nil _ _,hI.draw⟩,⟨?_,?_,?_,?_,?_,?_,?_,?_,?_,?_,?_,?_,?_,?_,?_,?_,?_,?_,?_,?_,?_,?_,trivial⟩,?_⟩
    all_goals (intro D bo; intros; rename_i kz pz mt oE jM jd lw iB mJ nh hY mY pC oZ mD ki ml rR nT wD zY tI w_ hA_; have hF_:=hA_.1; obtain ⟨⟨bU,bV,bH,bR,bZ,bI,bB,ct,cF,cK,bG,bX,cI,dq,cC,dA,dH,dV,fu,ew,fP,iq,_⟩,hI⟩:=hA_)
    ·exact ⟨hF_.set 0 rfl,hI⟩
    ·exact ⟨hF_.set 1 rfl,hI⟩
    ·obtain rfl:=bU ‹_›
     obtain rfl:=bV ‹_›
     refine au bz hk' ?_
     exact ⟨hF_.set 2 rfl,hI⟩
    ·obtain rfl:=bH ‹_›
     refine ai co ?_
     exact ⟨hF_.set 3 rfl,hI⟩
    ·obtain rfl:=bR ‹_›
     refine ai aM ?_
     exact ⟨hF_.set 4 rfl,hI⟩
    ·obtain rfl:=bZ ‹_›
     refine cz aJ (by rw [hI.cellS hS]; exact ar hcs 2 _ rfl) ?_
     exact ⟨hF_.set 5 rfl,hI⟩
    ·refine ai aM ?_
     exact ⟨hF_.set 6 rfl,hI⟩
    ·obtain rfl:=bB ‹_›
     refine aA hI 0 aJ rfl rfl ?_
     exact ⟨hF_.set 7 rfl,hI⟩
    ·obtain rfl:=bI ‹_›
     obtain rfl:=ct ‹_›
     refine bf ?_; rw [hq]
     exact ⟨hF_.set 8 rfl,hI⟩
    ·obtain rfl:=cF ‹_›
     exact ⟨hF_.set 9 rfl,hI⟩
    ·obtain rfl:=cK ‹_›
     refine bj ?_
     exact ⟨hF_.set 10 rfl,hI⟩
    ·obtain rfl:=cK ‹_›
     refine bj ?_
     exact ⟨hF_.set 11 rfl,hI⟩
    ·obtain rfl:=bG ‹_›
     obtain rfl:=bX ‹_›
     obtain rfl:=cK ‹_›
     refine bj ?_; refine au bz hk' ?_
     exact ⟨hF_.set 12 rfl,hI⟩
    ·obtain rfl:=cI ‹_›
     obtain rfl:=cK ‹_›
     refine bj ?_; refine ai co ?_
     exact ⟨hF_.set 13 rfl,hI⟩
    ·obtain rfl:=dq ‹_›
     obtain rfl:=cK ‹_›
     refine bj ?_; refine ai al ?_
     exact ⟨hF_.set 14 rfl,hI⟩
    ·obtain rfl:=cC ‹_›
     obtain rfl:=cK ‹_›
     refine bj ?_; refine cz ag (by rw [hI.cellS hS]; exact ar hcs 3 _ rfl) ?_
     exact ⟨hF_.set 15 rfl,hI⟩
    ·obtain rfl:=dA ‹_›
     obtain rfl:=cK ‹_›
     refine bj ?_; refine aD hk1 af ?_
     exact ⟨hF_.set 16 rfl,hI⟩
    ·obtain rfl:=cK ‹_›
     refine bj ?_; refine ai al ?_
     exact ⟨hF_.set 17 rfl,hI⟩
    ·obtain rfl:=dV ‹_›
     obtain rfl:=cK ‹_›
     refine bj ?_; refine aA hI 0 ag rfl rfl ?_
     exact ⟨hF_.set 18 rfl,hI⟩
    ·obtain rfl:=fu ‹_›
     obtain rfl:=cK ‹_›
     refine bj ?_; refine aD hgk af ?_
     exact ⟨hF_.set 19 rfl,hI⟩
    ·obtain rfl:=dH ‹_›
     obtain rfl:=ew ‹_›
     obtain rfl:=cK ‹_›
     refine bj ?_; refine aY ?_
     exact ⟨hF_.set 20 rfl,hI⟩
    ·obtain rfl:=cK ‹_›
     obtain rfl:=fP ‹_›
     refine uf ?_
     exact ⟨hF_.set 21 rfl,hI⟩
    obtain ⟨rfl,rfl,rfl,rfl,rfl,rfl,rfl,rfl,rfl,rfl,rfl,rfl,rfl,rfl,rfl,rfl,rfl,rfl,rfl,rfl,rfl,rfl,_⟩:=hF_.all
    clear hF_ bU bV bH bR bZ bI bB ct cF cK bG bX cI dq cC dA dH dV fu ew fP iq
    refine az (fun hb=>?_) (fun hb=>?_)
    ·refine dQ hI lB rfl (by omega) (by omega) fun b w' hI=>?_
     refine eR hI 1 (k:=1) [.int .i64 k] lB (by omega) rfl rfl ?_ ?_ (by omega) (by omega) fun v' w' hI=>?_
     ·intro j u hj
      rw [hI.cellL (i:=2) rfl]
      match j with
      | 0=>simpa [Value.cells] using hj
      | j+1=>simp at hj
     ·simp [Value.oneCell']
     ·rw [wR] at hI
      have hI:=hI.pick [true,true,false]
      rw [hf,if_pos hb]
      have e:Item.row v' cD 1 (l.length+1) (ints (l++[(k:Int)]))=dZ v' (l++[(k:Int)]):=by simp [dZ]
      rw [show List.length l+1=l.length+1 from rfl,e] at hI
      exact hI
    ·rw [hf,if_neg (by rw [hb]; decide)]
     exact hI
  intro t5 _ _ _ _ _ _ _ _ _ _ _ _ _ _ _ _ _ _ _ _ _ _ _ _ _ _ w' hI
  refine bn (by omega) ?_
  refine ⟨⟨k+1,_,hk',rfl,?_,?_,hI⟩,by simp [intOf]; omega⟩
  ·rw [Lk (fun c=>E8 (iF c.head) (iF (.mk gk gn gs gks))) p k hk' l,hrel]
  ·split
   ·simp; omega
   ·omega
 ·have:k=p.length:=by omega
  subst this
  rw [List.drop_length,lN,List.append_nil] at hrel
  subst hrel
  exact ⟨_,_,_,rfl,hI.pick [false,true],Ext.refl _ _ _,rfl,rfl⟩
end
section
open Go Go.RowKit
attribute [local irreducible] Run CondV aB aS
end
section
open Go Go.RowKit

theorem Inv.lendAll {w0 w:World} {X:List Nat} {A:List Item} (M:bg) {S:ae} (h:Inv w0 X (A++bq M) S w) :
  ∃ S',Sle S S'/\Ins S' M/\Inv w0 X A S' w/\∀ B w',Inv w0 X B S' w'->Inv w0 X (B++bq M) S w':=by
 obtain ⟨S',h1,h2,h3,h4⟩:=Inv.publishAll M h
 have hnd:=h.nd
 rw [cw,List.nodup_append] at hnd
 refine ⟨S',h2,h3,h1,fun B w' hB=>⟨hB.size,hB.os,hB.tape,hB.output,hB.old,fun it hit=>?_,?_,fun b hb=>?_,fun b o hb=>⟨(hB.pub b o (h2 b o hb)).1,fun hb'=>?_⟩⟩⟩
 ·rcases List.mem_append.1 hit with hit|hit
  ·exact hB.its it hit
  ·obtain ⟨p,hp,rfl⟩:=List.mem_map.1 hit
   exact (hB.pub _ _ (h3 p hp)).1
 ·rw [cw,List.nodup_append]
  refine ⟨hB.nd,hnd.2.1,fun a ha b hb e=>?_⟩
  subst e
  obtain ⟨p,hp,rfl⟩:=jb.1 hb
  exact (hB.pub _ _ (h3 p hp)).2 ha
 ·rw [cw] at hb
  rcases List.mem_append.1 hb with hb|hb
  ·exact hB.new b hb
  ·exact h.new b (by rw [cw]; exact List.mem_append_right _ hb)
 ·rw [cw] at hb'
  rcases List.mem_append.1 hb' with hb'|hb'
  ·exact (hB.pub b o (h2 b o hb)).2 hb'
  ·exact (h.pub b o hb).2 (by rw [cw]; exact List.mem_append_right _ hb')
theorem Inv.openRow {w0 w:World} {X:List Nat} {A:List Item} {S:ae} {v:Value} {e:TypeId} {k n:Nat} {xs:List Value} (h:Inv w0 X (A++[.row v e k n xs]) S w) :
  xs.length=n * k/\((v=.slice none 0 0/\n=0) ∨ ∃ g cap cur,v=.slice (some ⟨g,0,none⟩) n cap/\n<=cap/\cap<=maxLen/\cur.size=cap * k/\cur.toList.take (n * k)=xs/\Inv w0 X (A++[.blk g (.cells cur e)]) S w):=by
 have hm:w.ownsRow 0 e k v n xs:=h.its (.row v e k n xs) (by simp)
 obtain ⟨hl,hm⟩:=hm
 refine ⟨hl,?_⟩
 rcases hm with hn|⟨g,cap,cur,rfl,_,hg,hnc,hcm,hcs,ht⟩
 ·exact .inl hn
 ·have hf:bE (A++[Item.blk g (.cells cur e)])=bE (A++[Item.row (.slice (some ⟨g,0,none⟩) n cap) e k n xs]):=by
   simp [bE,Item.foot,Value.ownBlock]
  refine .inr ⟨g,cap,cur,rfl,hnc,hcm,hcs,ht,h.size,h.os,h.tape,h.output,h.old,fun it hit=>?_,by rw [hf]; exact h.nd,by rw [hf]; exact h.new,by rw [hf]; exact h.pub⟩
  rcases List.mem_append.1 hit with hit|hit
  ·exact h.its it (List.mem_append_left _ hit)
  ·simp at hit
   subst hit
   exact hg
theorem Inv.closeRow {w0 w:World} {X:List Nat} {A:List Item} {S:ae} {g cap k n:Nat} {cur:Array Value} {e:TypeId} (h:Inv w0 X (A++[.blk g (.cells cur e)]) S w) (hn:n<=cap) (hc:cap<=maxLen) (hs:cur.size=cap * k) :
  Inv w0 X (A++[.row (.slice (some ⟨g,0,none⟩) n cap) e k n (cur.toList.take (n * k))]) S w:=by
 have hg:w.heap[g]?=some (.cells cur e):=h.its (.blk g (.cells cur e)) (by simp)
 have hf:bE (A++[Item.row (.slice (some ⟨g,0,none⟩) n cap) e k n (cur.toList.take (n * k))])=bE (A++[Item.blk g (.cells cur e)]):=by
  simp [bE,Item.foot,Value.ownBlock]
 refine ⟨h.size,h.os,h.tape,h.output,h.old,fun it hit=>?_,by rw [hf]; exact h.nd,by rw [hf]; exact h.new,by rw [hf]; exact h.pub⟩
 rcases List.mem_append.1 hit with hit|hit
 ·exact h.its it (List.mem_append_left _ hit)
 ·simp at hit
  subst hit
  refine ⟨?_,.inr ⟨g,cap,cur,rfl,Nat.zero_le _,hg,hn,hc,hs,rfl⟩⟩
  rw [List.length_take,Array.length_toList,hs]
  exact Nat.min_eq_left (Nat.mul_le_mul_right k hn)

section
attribute [local irreducible] Run CondV aB aS
end
end
section
open Go Go.RowKit

structure Grown {α:Type} (k:Nat) (R:bg->List Value->α->Prop) (Ls:List bg) (css:List (List Value)) (ys:List α):Prop where
 hL:Ls.length=ys.length
 hc:css.length=ys.length
 hk:∀ cs∈css,cs.length=k
 hR:∀ i (h:i<ys.length) (h1:i<Ls.length) (h2:i<css.length),R Ls[i] css[i] ys[i]
theorem Grown.nil {α:Type} (k:Nat) (R:bg->List Value->α->Prop):Grown k R [] [] ([]:List α):=⟨rfl,rfl,by simp,fun i h=>by simp at h⟩
theorem Grown.snoc {α:Type} {k:Nat} {R:bg->List Value->α->Prop} {Ls:List bg} {css:List (List Value)} {ys:List α} (h:Grown k R Ls css ys) {L:bg} {cs:List Value} {y:α} (hR:R L cs y) (hl:cs.length=k) :
  Grown k R (Ls++[L]) (css++[cs]) (ys++[y]):=by
 refine ⟨by simp [h.hL],by simp [h.hc],fun c hc=>?_,fun i h0 h1 h2=>?_⟩
 ·rcases List.mem_append.1 hc with hc|hc
  ·exact h.hk c hc
  ·simp at hc; subst hc; exact hl
 ·have e1:=h.hL
  have e2:=h.hc
  by_cases hi:i<ys.length
  ·rw [List.getElem_append_left (by omega),List.getElem_append_left (by omega),List.getElem_append_left hi]
   exact h.hR i hi (by omega) (by omega)
  ·have:i=ys.length:=by simp at h0; omega
   subst this
   rw [List.getElem_append_right (by omega),List.getElem_append_right (by omega),List.getElem_append_right (by omega)]
   simp only [e1,e2,Nat.sub_self,List.getElem_cons_zero]
   exact hR
theorem gY (k:Nat):∀ (css:List (List Value)) (i:Nat) (_:∀ cs∈css,cs.length=k) (h:i<css.length),(css.flatten.drop (i * k)).take k=css[i]
 | [],i,_,h=>by simp at h
 | c::css,0,hk,_=>by
  have:=hk c (List.mem_cons_self ..)
  rw [List.flatten_cons,Nat.zero_mul,List.drop_zero,List.take_append_of_le_length (by omega),List.take_of_length_le (by omega)]
  rfl
 | c::css,i+1,hk,h=>by
  have:=hk c (List.mem_cons_self ..)
  rw [List.flatten_cons,Nat.succ_mul,Nat.add_comm,<- List.drop_drop,List.drop_left' this]
  exact gY k css i (fun cs hc=>hk cs (List.mem_cons_of_mem _ hc)) (by simpa using h)
abbrev aL (v:Value) (e:TypeId) (k:Nat) (css:List (List Value)):Item:=.row v e k css.length css.flatten
theorem Inv.rowTree {α:Type} {w0 w:World} {X:List Nat} {A:List Item} {S:ae} {v:Value} {e:TypeId} {k:Nat} {R:bg->List Value->α->Prop} {Ls:List bg} {css:List (List Value)} {ys:List α}
  (h:Inv w0 X (A++(aL v e k css::bq Ls.flatten)) S w) (hg:Grown k R Ls css ys):∃ L,TrSl k R L v ys/\Inv w0 X (A++bq L) S w:=by
 have hp:List.Perm ((A++bq Ls.flatten)++[aL v e k css]) (A++(aL v e k css::bq Ls.flatten)):=by
  rw [List.append_assoc]
  exact List.Perm.append_left _ List.perm_append_comm
 obtain ⟨hl,ho⟩:=(h.perm hp).openRow
 have hcy:=hg.hc
 have hLy:=hg.hL
 rcases ho with ⟨rfl,h0⟩|⟨g,cap,cur,rfl,hnc,hcm,hcs,ht,hI⟩
 ·have:ys=[]:=List.eq_nil_of_length_eq_zero (by omega)
  subst this
  refine ⟨[],TrSl.nil (by simp [maxLen]),?_⟩
  simpa [bq] using h.sub (List.sublist_append_left _ _)
 ·by_cases hy:ys=[]
  ·subst hy
   have:css=[]:=List.eq_nil_of_length_eq_zero (by simpa using hcy)
   subst this
   refine ⟨[],TrSl.nil hcm,?_⟩
   simpa [bq] using h.sub (List.sublist_append_left _ _)
  ·refine ⟨(g,.cells cur e)::Ls.flatten,⟨_,cap,by rw [hcy],by omega,hcm,.inr ⟨g,cur,e,Ls,rfl,rfl,hLy,by omega,fun i h1 h2=>?_⟩⟩,?_⟩
   ·have hik:i * k+k<=css.length * k:=by rw [<- Nat.succ_mul]; exact Nat.mul_le_mul_right k (by omega)
    have:=gY k css i hg.hk (by omega)
    rw [<- ht,List.drop_take,List.take_take,Nat.min_eq_left (by omega)] at this
    rw [aH,this]
    exact hg.hR i h1 h2 (by omega)
   ·refine hI.perm ?_
    rw [List.append_assoc]
    exact List.Perm.append_left _ (List.perm_append_comm (l₁:=[Item.blk g (.cells cur e)]))
theorem gB (v:Value) (e:TypeId) (k:Nat) (css:List (List Value)) (cs:List Value):Item.row v e k (css.length+1) (css.flatten++cs)=aL v e k (css++[cs]):=by
 simp [aL]
section
variable {P:Program} {w w0:World} {X:List Nat} {L:List Item} {S:ae} {K:Value->World->Prop}
attribute [local irreducible] Run CondV aB aS
theorem dM (h:Inv w0 X L S w) {T ty e:TypeId} {k by_:Nat} {z v:Value} {cs:List Bool} {css:List (List Value)} (i:Nat) (xs:List Value)
  (hT:fQ P T=some (e,k,by_,z)) (hk0:0<k) (hk24:k<=65536) (hi:L[i]?=some (aL v e k css)) (hl:xs.length=k) (h1:∀ u∈xs,u.oneCell'=true) (hfit:css.length+1<=4294967296) (hby:by_<=32768)
  {K:Value->Value->World->Prop} (hk:∀ v' w',Inv w0 X (L.set i (aL v' e k (css++[xs]))) S w'->K (.slice (some ⟨w.heap.size,0,none⟩) 1 1) v' w') :
  Run P (bt T 1 [(0,.agg xs.toArray)]) w fun u w'=>Run P (bF .append #[T,T] ty cs [v,u]) w' (K u):=by
 refine re h hT (by simp [Value.cells,hl]) hk24 hk0 fun w' hI=>?_
 have hil:i<L.length:=(List.getElem?_eq_some_iff.1 hi).1
 refine eR hI i xs hT hk0 (by rw [List.getElem?_append_left hil]; exact hi) (by omega) (m:=1) (o:=0) ?_ h1 hfit hby fun v' w' hI=>?_
 ·intro j u hj
  rw [hI.cellL (i:=L.length) (by rw [List.getElem?_append_right (Nat.le_refl _),Nat.sub_self]; rfl)]
  rw [Nat.zero_add]
  simpa [Value.cells] using hj
 ·refine hk _ _ ?_
  rw [<- gB]
  rw [List.set_append_left _ _ hil] at hI
  exact hI.sub (List.sublist_append_left _ _)
end

section
attribute [local irreducible] Run CondV aB aS
end
end
section
open Go Go.RowKit
section
variable {w:World} {K:Value->World->Prop}
attribute [local irreducible] Run
theorem jz {a b:Int} {s:ByteArray} {k:Value} (hk:K (.agg #[.int .i64 a,.int .i64 b,.string s,k,.slice none 0 0]) w):Run Tryz.prog (bW av [(0,.agg #[.int .i64 a,.int .i64 b,.string s,k])]) w K:=by
 refine Run.of (v:=.agg #[.int .i64 a,.int .i64 b,.string s,k,.slice none 0 0]) (w':=w) ?_ hk
 unfold bW
 rw [Sem.run_bind,run_build w av _ #[.int .i64 a,.int .i64 b,.string s,k,.slice none 0 0] (by kernel_rfl),Result.andThen_ok]
 rfl
theorem gf {a b:Int} {s:ByteArray} (hk:K (.agg #[.int .i64 a,.int .i64 b,.string s,.slice none 0 0]) w):Run Tryz.prog (bW ab [(0,.int .i64 a),(1,.int .i64 b),(2,.string s)]) w K:=by
 refine Run.of (v:=.agg #[.int .i64 a,.int .i64 b,.string s,.slice none 0 0]) (w':=w) ?_ hk
 unfold bW
 rw [Sem.run_bind,run_build w ab _ #[.int .i64 a,.int .i64 b,.string s,.slice none 0 0] (by kernel_rfl),Result.andThen_ok]
 rfl
end
section
attribute [local irreducible] Run CondV aB aS
end
end
section
open Go Go.RowKit
theorem RdC.one {S:ae} {cs:List Value} {c:C} (h:RdC S cs c):∀ u∈cs,u.oneCell'=true:=by
 obtain ⟨hd,ks,rfl,h1,a,cap,rfl,_⟩:=h
 intro u hu
 rcases List.mem_append.1 hu with hu|hu
 ·exact h1.one u hu
 ·simp at hu; subst hu; rfl
section
attribute [local irreducible] Run CondV aB aS
theorem Inv.rowSlice {w0 w:World} {X:List Nat} {L:List Item} {S:ae} {v:Value} {e:TypeId} {k n:Nat} {xs:List Value} (h:Inv w0 X L S w) (i:Nat) (hi:L[i]?=some (.row v e k n xs)):∃ a m c,v=.slice a m c:=by
 have hm:w.ownsRow 0 e k v n xs:=h.its (.row v e k n xs) (List.mem_of_getElem? hi)
 rcases hm.2 with ⟨rfl,_⟩|⟨g,cap,cur,rfl,_⟩
 ·exact ⟨_,_,_,rfl⟩
 ·exact ⟨_,_,_,rfl⟩
def bh (B1 B2 B3 B3' r r':Item) (rest:List Item) (M:bg) (B27:Item) (d7 d8 d9 d11:Bool):List Item:=
 B1::B2::(match d11 with|true=>B3'|false=>B3)::(match d9 with|true=>r'|false=>r)::(rest++((match d7 with|true=>bq M|false=>[])++(match d8 with|true=>[B27]|false=>[])))

theorem eI:∀ (t:T) (S:ae) (cs:List Value),RdT S cs t->wT t<=1048576->Tri Tryz.prog tg [.agg cs.toArray] [] S (DX S t):=by
 refine T.ind fun k n s ks ih S cs h hw=>?_
 intro w hI
 obtain ⟨kv,rfl,h1,h2,hs,hks⟩:=RdT.iff.1 h
 simp only [T.name,T.kids,T.kind,T.n] at h1 h2 hs hks ⊢
 simp only [wT] at hw
 refine lT.2 ?_
 dsimp only[lT,aO]
 refine be hI fun b1 w' hI=>?_
 refine aG hI aP fun b2 w' hI=>?_
 refine ad hI 0 rfl aE aw rfl ?_
 refine ad hI 0 rfl aK aw rfl ?_
 refine ad hI 0 rfl aM aJ rfl ?_
 refine gf ?_
 refine aG hI aP fun b3 w' hI=>?_
 refine ao hI 2 rfl ac rfl rfl (by simp [Value.oneCell']) fun w' hI=>?_
 have hI:=hI.rowNil ab 4
 refine ⟨fun i w'=>∃ (j:Nat) (kvc:Value) (Ls:List bg) (css:List (List Value)),j<=ks.length/\i=.int .i64 j/\Grown 4 TrT Ls css (ks.take j)/\
   Inv w [] (.blk b1 (.cells #[.int .i64 k,.int .i64 n,.string s,kv] ab)::.blk b2 (.cells #[.int .i64 0,.int .i64 0,.string ⟨#[]⟩,.slice none 0 0] ab)::.blk b3 (.cells #[.int .i64 k,.int .i64 n,.string s,kvc] ab)::aL kvc ab 4 css::bq Ls.flatten) S w',
  fun i _=>ks.length - (intOf i).toNat,⟨0,_,[],[],Nat.zero_le _,rfl,Grown.nil _ _,hI⟩,?_⟩
 intro t4 _ _ _ _ _ _ _ _ _ _ _ _ _ _ _ _ _ _ w'
 rintro ⟨j,kvc,Ls,css,hj,rfl,hg,hI⟩
 refine ad hI 0 rfl al ag rfl ?_
 refine aD hks af ?_
 refine bA ?_
 refine aI (fun hji=>?_) (fun hji=>?_)
 ·have hj':j<ks.length:=by omega
  have hjl:(ks.take j).length=j:=by simp; omega
  have hcl:=hg.hc
  have hm:=List.getElem_mem hj'
  have hwm:=kH hm
  obtain ⟨b,o,cap,c,E,fz,rfl,hS,hR⟩:=hks.at_ hj'
  refine ⟨fun D lw iB mJ nh hY mY pC oZ mD ki ml w_=>Fx D 0 [ml=.pointer (some ⟨b3,3,none⟩),ki=kvc,mD=.pointer (some ⟨b1,3,none⟩),oZ=.slice (some ⟨b,o,none⟩) (ks).length cap,pC=.int .i64 j,mY=.pointer (some ⟨b,o+j * 4,none⟩),hY=.agg (aH c (o+j * 4) 4).toArray,True,True,True,lw=.pointer (some ⟨b3,3,none⟩),True]/\∃ M cs7 b8,(D 7=true->nh=.agg cs7.toArray/\TrT M cs7 (ks)[j])/\(D 8=true->mJ=.slice (some ⟨b8,0,none⟩) 1 1)/\(D 8=true->D 7=true)/\(D 9=true->D 8=true)/\(D 11=true->D 9=true)/\(D 11=true->D 1=true)/\Inv w [] (bh (.blk b1 (.cells #[.int .i64 k,.int .i64 n,.string s,.slice (some ⟨b,o,none⟩) ks.length cap] ab)) (.blk b2 (.cells #[.int .i64 0,.int .i64 0,.string ⟨#[]⟩,.slice none 0 0] ab)) (.blk b3 (.cells #[.int .i64 k,.int .i64 n,.string s,kvc] ab)) (.blk b3 (.cells #[.int .i64 k,.int .i64 n,.string s,iB] ab)) (aL kvc ab 4 css) (aL iB ab 4 (css++[cs7])) (bq Ls.flatten) M (.blk b8 (.cells cs7.toArray ab)) (D 7) (D 8) (D 9) (D 11)) S w_,⟨Fx.nil _ _,⟨[],[],0,aU,aU,aU,aU,aU,aU,by simpa [bh,bq] using hI.draw⟩⟩,⟨?_,?_,?_,?_,?_,?_,?_,?_,?_,?_,?_,?_,trivial⟩,?_⟩
  all_goals (intro D bo; intros; rename_i lw iB mJ nh hY mY pC oZ mD ki ml w_ hA_; have hF_:=hA_.1; obtain ⟨⟨bU,bV,bH,bR,bZ,bI,bB,ct,cF,cK,bG,bX,_⟩,⟨M,cs7,b8,e7,e8,k8,k9,k11,k1,hI⟩⟩:=hA_)
  ·refine ai al ?_
   exact ⟨hF_.set 0 rfl,⟨M,cs7,b8,e7,e8,k8,k9,k11,k1,hI⟩⟩
  ·obtain rfl:=bU ‹_›
   have f11:D 11=false:=Bool.eq_false_iff.2 fun h=>by rw [k1 h] at bo; cases bo
   refine aA (b:=b3) hI 2 (c:=(#[.int .i64 k,.int .i64 n,.string s,kvc])) ag (by rw [f11]; rfl) rfl ?_
   have k1:=fun (_:aF D 1 11=true)=>(rfl:aF D 1 1=true)
   exact ⟨hF_.set 1 rfl,⟨M,cs7,b8,e7,e8,k8,k9,k11,k1,hI⟩⟩
  ·refine ai al ?_
   exact ⟨hF_.set 2 rfl,⟨M,cs7,b8,e7,e8,k8,k9,k11,k1,hI⟩⟩
  ·obtain rfl:=bH ‹_›
   refine aA hI 0 ag rfl rfl ?_
   exact ⟨hF_.set 3 rfl,⟨M,cs7,b8,e7,e8,k8,k9,k11,k1,hI⟩⟩
  ·exact ⟨hF_.set 4 rfl,⟨M,cs7,b8,e7,e8,k8,k9,k11,k1,hI⟩⟩
  ·obtain rfl:=bR ‹_›
   obtain rfl:=bZ ‹_›
   refine au af hj' ?_
   exact ⟨hF_.set 5 rfl,⟨M,cs7,b8,e7,e8,k8,k9,k11,k1,hI⟩⟩
  ·obtain rfl:=bI ‹_›
   refine bw ac hR.length (fun j v hj=>by rw [hI.cellS hS]; exact ar rfl j v hj) ?_
   exact ⟨hF_.set 6 rfl,⟨M,cs7,b8,e7,e8,k8,k9,k11,k1,hI⟩⟩
  ·obtain rfl:=bB ‹_›
   have f8:D 8=false:=Bool.eq_false_iff.2 fun h=>by rw [k8 h] at bo; cases bo
   have f9:D 9=false:=Bool.eq_false_iff.2 fun h=>by rw [k9 h] at f8; cases f8
   have f11:D 11=false:=Bool.eq_false_iff.2 fun h=>by rw [k11 h] at f9; cases f9
   rw [bo,f8,f9,f11] at hI
   refine Run.call0 eo ei hI (ih _ (List.getElem_mem hj') S _ hR (by omega)) fun v' I' S w_=>?_
   rintro ⟨rfl,cs7,M,rfl,rfl,hT⟩ _ hI
   have e7:aF D 7 7=true->Value.agg cs7.toArray=Value.agg cs7.toArray/\TrT M cs7 (ks)[j]:=fun _=>⟨rfl,hT⟩
   have k8:=fun (_:aF D 7 8=true)=>(rfl:aF D 7 7=true)
   have hI:Inv w [] (bh (.blk b1 (.cells #[.int .i64 k,.int .i64 n,.string s,.slice (some ⟨b,o,none⟩) ks.length cap] ab)) (.blk b2 (.cells #[.int .i64 0,.int .i64 0,.string ⟨#[]⟩,.slice none 0 0] ab)) (.blk b3 (.cells #[.int .i64 k,.int .i64 n,.string s,kvc] ab)) (.blk b3 (.cells #[.int .i64 k,.int .i64 n,.string s,iB] ab)) (aL kvc ab 4 css) (aL iB ab 4 (css++[cs7])) (bq Ls.flatten) M (.blk b8 (.cells cs7.toArray ab)) true (D 8) (D 9) (D 11)) S w_:=by
    rw [f8,f9,f11]
    simpa [bh] using hI
   exact ⟨hF_.set 7 (by first|assumption|trivial),⟨M,cs7,b8,e7,e8,k8,k9,k11,k1,hI⟩⟩
  ·have zQ:=ct ‹_›
   have f9:D 9=false:=Bool.eq_false_iff.2 fun h=>by rw [k9 h] at bo; cases bo
   have f11:D 11=false:=Bool.eq_false_iff.2 fun h=>by rw [k11 h] at f9; cases f9
   obtain ⟨q7,hT⟩:=e7 ‹D 7=true›
   subst q7
   rw [‹D 7=true›,bo,f9,f11] at hI
   refine dQ hI bm (by simp [Value.cells,hT.length]) (by omega) (by omega) fun b8 w_ hI=>?_
   have e7:aF D 8 7=true->Value.agg cs7.toArray=Value.agg cs7.toArray/\TrT M cs7 (ks)[j]:=fun _=>⟨rfl,hT⟩
   have e8:=fun (_:aF D 8 8=true)=>(rfl:Value.slice (some ⟨b8,0,none⟩) 1 1=_)
   have k8:=fun (_:aF D 8 8=true)=>‹D 7=true›
   have k9:=fun (_:aF D 8 9=true)=>(rfl:aF D 8 8=true)
   have hI:Inv w [] (bh (.blk b1 (.cells #[.int .i64 k,.int .i64 n,.string s,.slice (some ⟨b,o,none⟩) ks.length cap] ab)) (.blk b2 (.cells #[.int .i64 0,.int .i64 0,.string ⟨#[]⟩,.slice none 0 0] ab)) (.blk b3 (.cells #[.int .i64 k,.int .i64 n,.string s,kvc] ab)) (.blk b3 (.cells #[.int .i64 k,.int .i64 n,.string s,iB] ab)) (aL kvc ab 4 css) (aL iB ab 4 (css++[cs7])) (bq Ls.flatten) M (.blk b8 (.cells cs7.toArray ab)) (D 7) true (D 9) (D 11)) S w_:=by
    rw [‹D 7=true›,f9,f11]
    simpa [bh,Value.cells] using hI
   exact ⟨hF_.set 8 (by first|assumption|trivial),⟨M,cs7,b8,e7,e8,k8,k9,k11,k1,hI⟩⟩
  ·obtain rfl:=bV ‹_›
   have CJ:=cF ‹_›
   have f11:D 11=false:=Bool.eq_false_iff.2 fun h=>by rw [k11 h] at bo; cases bo
   have q8:=e8 ‹D 8=true›
   subst q8
   obtain ⟨_,hT⟩:=e7 ‹D 7=true›
   rw [‹D 7=true›,‹D 8=true›,bo,f11] at hI
   have hblk:((bh (.blk b1 (.cells #[.int .i64 k,.int .i64 n,.string s,.slice (some ⟨b,o,none⟩) ks.length cap] ab)) (.blk b2 (.cells #[.int .i64 0,.int .i64 0,.string ⟨#[]⟩,.slice none 0 0] ab)) (.blk b3 (.cells #[.int .i64 k,.int .i64 n,.string s,ki] ab)) (.blk b3 (.cells #[.int .i64 k,.int .i64 n,.string s,iB] ab)) (aL ki ab 4 css) (aL iB ab 4 (css++[cs7])) (bq Ls.flatten) M (.blk b8 (.cells cs7.toArray ab)) true true false false))[4+(bq Ls.flatten).length+(bq M).length]?=some (.blk b8 (.cells cs7.toArray ab)):=by
    have e4:4+(bq Ls.flatten).length+(bq M).length=((bq Ls.flatten).length+(bq M).length)+1+1+1+1:=by omega
    rw [e4]
    simp only [bh,List.getElem?_cons_succ]
    rw [List.getElem?_append_right (by omega),Nat.add_sub_cancel_left,List.getElem?_append_right (Nat.le_refl _),Nat.sub_self]; rfl
   refine eR hI 3 cs7 bm (by omega) rfl (by rw [hT.length]) (m:=1) (o:=0) ?_ hT.one (by omega) (by omega) fun v' w_ hI=>?_
   ·intro i u hi
    rw [hI.cellL hblk,Nat.zero_add]
    simpa using hi
   rw [gB] at hI
   have k9:=fun (_:aF D 9 9=true)=>‹D 8=true›
   have k11:=fun (_:aF D 9 11=true)=>(rfl:aF D 9 9=true)
   have hI:Inv w [] (bh (.blk b1 (.cells #[.int .i64 k,.int .i64 n,.string s,.slice (some ⟨b,o,none⟩) ks.length cap] ab)) (.blk b2 (.cells #[.int .i64 0,.int .i64 0,.string ⟨#[]⟩,.slice none 0 0] ab)) (.blk b3 (.cells #[.int .i64 k,.int .i64 n,.string s,ki] ab)) (.blk b3 (.cells #[.int .i64 k,.int .i64 n,.string s,v'] ab)) (aL ki ab 4 css) (aL v' ab 4 (css++[cs7])) (bq Ls.flatten) M (.blk b8 (.cells cs7.toArray ab)) (D 7) (D 8) true (D 11)) S w_:=by
    rw [‹D 7=true›,‹D 8=true›,f11]
    exact hI
   exact ⟨hF_.set 9 (by first|assumption|trivial),⟨M,cs7,b8,e7,e8,k8,k9,k11,k1,hI⟩⟩
  ·refine ai al ?_
   exact ⟨hF_.set 10 rfl,⟨M,cs7,b8,e7,e8,k8,k9,k11,k1,hI⟩⟩
  ·obtain rfl:=bG ‹_›
   have Hc:=cK ‹_›
   rw [‹D 7=true›,‹D 8=true›,‹D 9=true›,bo] at hI
   obtain ⟨va,vn,vc,hv9⟩:=Inv.rowSlice hI 3 rfl
   refine dK hI 2 (n:=1) (by rw [hv9]; rfl) (by decide +kernel) rfl (by simp) (by rw [hv9]; simp [Value.cells,Value.oneCell']) fun w_ hI=>?_
   have hcl9:Value.cells iB=#[iB]:=by rw [hv9]; rfl
   rw [hcl9] at hI
   have k1:=fun (_:aF D 11 11=true)=>‹D 1=true›
   have k11:=fun (_:aF D 11 11=true)=>‹D 9=true›
   have hI:Inv w [] (bh (.blk b1 (.cells #[.int .i64 k,.int .i64 n,.string s,.slice (some ⟨b,o,none⟩) ks.length cap] ab)) (.blk b2 (.cells #[.int .i64 0,.int .i64 0,.string ⟨#[]⟩,.slice none 0 0] ab)) (.blk b3 (.cells #[.int .i64 k,.int .i64 n,.string s,kvc] ab)) (.blk b3 (.cells #[.int .i64 k,.int .i64 n,.string s,iB] ab)) (aL kvc ab 4 css) (aL iB ab 4 (css++[cs7])) (bq Ls.flatten) M (.blk b8 (.cells cs7.toArray ab)) (D 7) (D 8) (D 9) true) S w_:=by
    rw [‹D 7=true›,‹D 8=true›,‹D 9=true›]
    exact hI
   exact ⟨hF_.set 11 trivial,⟨M,cs7,b8,e7,e8,k8,k9,k11,k1,hI⟩⟩
  obtain ⟨rfl,rfl,rfl,rfl,rfl,rfl,rfl,zQ,CJ,Hc,rfl,_,_⟩:=hF_.all
  have vG:D 7=true:=by assumption
  have Am:D 8=true:=by assumption
  have Fz:D 9=true:=by assumption
  have jP:D 11=true:=by assumption
  clear hF_ bU bV bH bR bZ bI bB ct cF cK bG bX
  obtain ⟨_,hT⟩:=e7 vG
  rw [vG,Am,Fz,jP] at hI
  refine bn (by omega) ?_
  refine ⟨⟨j+1,iB,Ls++[M],css++[cs7],hj',rfl,?_,?_⟩,by simp [intOf]; omega⟩
  ·rw [List.take_succ_eq_append_getElem hj']
   exact hg.snoc hT hT.length
  ·simp only [List.flatten_append,List.flatten_cons,List.flatten_nil,List.append_nil,eJ]
   refine hI.sub ?_
   simp only [bh]
   rw [<- List.append_assoc]
   exact (((List.sublist_append_left _ _).cons_cons _).cons_cons _).cons_cons _ |>.cons_cons _
 ·have:j=ks.length:=by omega
  subst this
  rw [List.take_length] at hg
  obtain ⟨va,vn,vc,hvk⟩:=hI.rowSlice 3 rfl
  have hv1:kvc.oneCell'=true:=by rw [hvk]; rfl
  refine aq hI 2 ac rfl rfl ?_
  refine ao hI 1 rfl ac rfl rfl ?_ fun w' hI=>?_
  ·intro u hu
   have hu':u∈([.int .i64 k,.int .i64 n,.string s,kvc]:List Value):=hu
   simp at hu'
   rcases hu' with rfl|rfl|rfl|rfl <;> first|rfl|exact hv1
  refine aW hI 1 ac rfl rfl ?_
  have hI:Inv w [] ([]++(aL kvc ab 4 css::bq Ls.flatten)) S w':=hI.sub (List.sublist_append_right [_,_,_] _)
  obtain ⟨L,hT,hI⟩:=Inv.rowTree hI hg
  exact ⟨_,_,_,rfl,hI,Ext.refl _ _ _,rfl,_,L,rfl,rfl,TrT.iff.2 ⟨kvc,rfl,h1,h2,hs,hT⟩⟩
end
end
end Go.Proofs.YtfcbhfjomgopbaaGreat

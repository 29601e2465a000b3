/- Goals, clauses, programs, queries: which are valid, on both sides. -/
import Derived.Test.YtbocelianhcfmaaGreatDoorZEg1
import Derived.Test.YtbocelianhcfmaaGreatDoorRows
import Derived.ProofKit
import Derived.ReadAgain
import Derived.Carry
import Derived.Test.YtbocelianhcfmaaGreatDoorZEgS
import Derived.Test.YtbocelianhcfmaaGreatDoorZEgF
import Derived.Test.YtbocelianhcfmaaGreatDoorZEggz
import Derived.Test.YtbocelianhcfmaaGreatDoorZEg0
import Derived.Laws.BytesArg
namespace Go.Proofs.YtbocelianhcfmaaGreatDoor
section
open Go Go.RowKit
attribute [local irreducible] Run CondV ar aI

def pr:List ByteArray:=[⟨#[61]⟩,⟨#[92,61]⟩,⟨#[61,61]⟩,⟨#[60]⟩,⟨#[62]⟩,⟨#[61,60]⟩,⟨#[62,61]⟩,⟨#[61,58,61]⟩,⟨#[105,115]⟩]
def mp:List ByteArray:=[⟨#[116,114,117,101]⟩,⟨#[102,97,105,108]⟩]
def tm:List ByteArray:=[⟨#[118,97,114]⟩,⟨#[110,111,110,118,97,114]⟩,⟨#[97,116,111,109]⟩,⟨#[105,110,116]⟩]
def Gh:List ByteArray:=[⟨#[43]⟩,⟨#[45]⟩]
def wO:List ByteArray:=[⟨#[42]⟩,⟨#[47,47]⟩,⟨#[109,111,100]⟩]
def cV (s:ByteArray) (l:List ByteArray):Bool:=l.any fun x=>decide (s=x)
def dc (s:ByteArray) (n:Int):Bool:=
 if cV s pr=true then decide (n=2)
 else if cV s mp=true then decide (n=0)
 else if cV s tm=true then decide (n=1)
 else if s=⟨#[97,114,103]⟩ then decide (n=3)
 else false
def aO (s:ByteArray):Int:=if cV s pr=true then 3 else if cV s Gh=true then 2 else if cV s wO=true then 1 else 0
def kO (t:T):Bool:=decide (t.kind=3) && (decide (t.name=⟨#[33]⟩) && decide (t.kids.length=0))
def sL (t:T):Bool:=decide (t.kind=3) && decide (t.kids.length=0)
def dw (t:T):Bool:=decide (t.kind=3) && dc t.name t.kids.length
def lZ (t:T):Bool:=decide (t.kind=3) && (iw t.name && (!dc t.name t.kids.length && decide (aO t.name=0)))
def fk (t:T):Bool:=cE t && (kO t || (lZ t || dw t))
def dg (c:C):Bool:=decide (c.body.length<=6) && (c.body.all fk && (cE c.head && lZ c.head))
def l4 (l:List T):Bool:=decide (l.length<=6) && l.all fk
def Qa (p:List C):Bool:=decide (p.length<=20) && p.all dg
theorem KX (s:ByteArray):(!decide (0<aO s))=decide (aO s=0):=by
 unfold aO
 split
 ·rfl
 ·split
  ·rfl
  ·split <;> rfl

theorem gV (s:ByteArray) (n:Int) (S:ae):Pure Tryz.prog Ar [.string s,.int .i64 n] S (.bool (dc s n)):=by
 intro w hI
 refine nk.2 ?_
 dsimp only[nk,aY]
 obtain ⟨q,hq⟩:∃ q,cV s pr=q:=⟨_,rfl⟩
 have hq1:=hq
 refine ⟨fun t w'=>t=.bool q/\Inv w [] [] S w',?_,?_⟩
 ·unfold cV pr at hq
  iterate 8
   refine bf ?_
   refine av (fun h=>⟨by rw [List.any_cons,h] at hq; rw [h,<- hq]; rfl,hI⟩) (fun h=>?_)
   rw [List.any_cons,h,Bool.false_or] at hq
  refine bf ⟨?_,hI⟩
  rw [<- hq]; simp
 intro t _ _ _ _ _ _ _ _ _ w'
 rintro ⟨rfl,hI⟩
 refine av (fun h=>?_) (fun h=>?_)
 ·exact bh (done hI (by rw [dc,if_pos (hq1.trans h)]))
 have e1:dc s n=if cV s mp=true then decide (n=0) else if cV s tm=true then decide (n=1) else if s=⟨#[97,114,103]⟩ then decide (n=3) else false:=by
  rw [dc,if_neg (by rw [hq1,h]; decide)]
 clear hq hq1 h
 obtain ⟨q,hq⟩:∃ q,cV s mp=q:=⟨_,rfl⟩
 have hq1:=hq
 refine ⟨fun t w'=>t=.bool q/\Inv w [] [] S w',?_,?_⟩
 ·unfold cV mp at hq
  refine bf ?_
  refine av (fun h=>⟨by rw [List.any_cons,h] at hq; rw [h,<- hq]; rfl,hI⟩) (fun h=>?_)
  rw [List.any_cons,h,Bool.false_or] at hq
  refine bf ⟨?_,hI⟩
  rw [<- hq]; simp
 intro _ t _ w'
 rintro ⟨rfl,hI⟩
 refine av (fun h=>?_) (fun h=>?_)
 ·exact bh (done hI (by rw [e1,if_pos (hq1.trans h)]))
 rw [if_neg (by rw [hq1,h]; decide)] at e1
 clear hq hq1 h
 obtain ⟨q,hq⟩:∃ q,cV s tm=q:=⟨_,rfl⟩
 have hq1:=hq
 refine ⟨fun t w'=>t=.bool q/\Inv w [] [] S w',?_,?_⟩
 ·unfold cV tm at hq
  iterate 3
   refine bf ?_
   refine av (fun h=>⟨by rw [List.any_cons,h] at hq; rw [h,<- hq]; rfl,hI⟩) (fun h=>?_)
   rw [List.any_cons,h,Bool.false_or] at hq
  refine bf ⟨?_,hI⟩
  rw [<- hq]; simp
 intro _ _ _ t _ w'
 rintro ⟨rfl,hI⟩
 refine av (fun h=>?_) (fun h=>?_)
 ·exact bh (done hI (by rw [e1,if_pos (hq1.trans h)]))
 rw [if_neg (by rw [hq1,h]; decide)] at e1
 refine bf ?_
 refine aN (fun h=>?_) (fun h=>?_)
 ·exact bh (done hI (by rw [e1,if_pos h]))
 ·exact done hI (by rw [e1,if_neg h])
theorem uD (s:ByteArray) (n:Int) (S:ae):Pure Tryz.prog AY [.string s,.int .i64 n] S (.bool (dc s n)):=by
 intro w hI
 refine nt.2 ?_
 dsimp only[nt,aY]
 obtain ⟨q,hq⟩:∃ q,cV s pr=q:=⟨_,rfl⟩
 have hq1:=hq
 refine ⟨fun t w'=>t=.bool q/\Inv w [] [] S w',?_,?_⟩
 ·unfold cV pr at hq
  iterate 8
   refine bf ?_
   refine av (fun h=>⟨by rw [List.any_cons,h] at hq; rw [h,<- hq]; rfl,hI⟩) (fun h=>?_)
   rw [List.any_cons,h,Bool.false_or] at hq
  refine bf ⟨?_,hI⟩
  rw [<- hq]; simp
 intro t _ _ _ _ _ _ _ _ _ w'
 rintro ⟨rfl,hI⟩
 refine av (fun h=>?_) (fun h=>?_)
 ·exact bh (done hI (by rw [dc,if_pos (hq1.trans h)]))
 have e1:dc s n=if cV s mp=true then decide (n=0) else if cV s tm=true then decide (n=1) else if s=⟨#[97,114,103]⟩ then decide (n=3) else false:=by
  rw [dc,if_neg (by rw [hq1,h]; decide)]
 clear hq hq1 h
 obtain ⟨q,hq⟩:∃ q,cV s mp=q:=⟨_,rfl⟩
 have hq1:=hq
 refine ⟨fun t w'=>t=.bool q/\Inv w [] [] S w',?_,?_⟩
 ·unfold cV mp at hq
  refine bf ?_
  refine av (fun h=>⟨by rw [List.any_cons,h] at hq; rw [h,<- hq]; rfl,hI⟩) (fun h=>?_)
  rw [List.any_cons,h,Bool.false_or] at hq
  refine bf ⟨?_,hI⟩
  rw [<- hq]; simp
 intro _ t _ w'
 rintro ⟨rfl,hI⟩
 refine av (fun h=>?_) (fun h=>?_)
 ·exact bh (done hI (by rw [e1,if_pos (hq1.trans h)]))
 rw [if_neg (by rw [hq1,h]; decide)] at e1
 clear hq hq1 h
 obtain ⟨q,hq⟩:∃ q,cV s tm=q:=⟨_,rfl⟩
 have hq1:=hq
 refine ⟨fun t w'=>t=.bool q/\Inv w [] [] S w',?_,?_⟩
 ·unfold cV tm at hq
  iterate 3
   refine bf ?_
   refine av (fun h=>⟨by rw [List.any_cons,h] at hq; rw [h,<- hq]; rfl,hI⟩) (fun h=>?_)
   rw [List.any_cons,h,Bool.false_or] at hq
  refine bf ⟨?_,hI⟩
  rw [<- hq]; simp
 intro _ _ _ t _ w'
 rintro ⟨rfl,hI⟩
 refine av (fun h=>?_) (fun h=>?_)
 ·exact bh (done hI (by rw [e1,if_pos (hq1.trans h)]))
 rw [if_neg (by rw [hq1,h]; decide)] at e1
 refine bf ?_
 refine aN (fun h=>?_) (fun h=>?_)
 ·exact bh (done hI (by rw [e1,if_pos h]))
 ·exact done hI (by rw [e1,if_neg h])

theorem cX (s:ByteArray) (S:ae):Pure Tryz.prog Fr [.string s] S (.int .i64 (aO s)):=by
 intro w hI
 refine s6.2 ?_
 dsimp only[s6,aE]
 obtain ⟨q,hq⟩:∃ q,cV s pr=q:=⟨_,rfl⟩
 have hq1:=hq
 refine ⟨fun t w'=>t=.bool q/\Inv w [] [] S w',?_,?_⟩
 ·unfold cV pr at hq
  iterate 8
   refine bf ?_
   refine av (fun h=>⟨by rw [List.any_cons,h] at hq; rw [h,<- hq]; rfl,hI⟩) (fun h=>?_)
   rw [List.any_cons,h,Bool.false_or] at hq
  refine bf ⟨?_,hI⟩
  rw [<- hq]; simp
 intro _ _ _ _ _ _ _ _ t _ w'
 rintro ⟨rfl,hI⟩
 refine av (fun h=>?_) (fun h=>?_)
 ·exact done hI (by rw [show aO s=3 from if_pos (hq1.trans h)] <;> rfl)
 have e1:aO s=if cV s Gh=true then 2 else if cV s wO=true then 1 else 0:=by
  rw [aO,if_neg (by rw [hq1,h]; decide)]
 clear hq hq1 h
 obtain ⟨q,hq⟩:∃ q,cV s Gh=q:=⟨_,rfl⟩
 have hq1:=hq
 refine ⟨fun t w'=>t=.bool q/\Inv w [] [] S w',?_,?_⟩
 ·unfold cV Gh at hq
  refine bf ?_
  refine av (fun h=>⟨by rw [List.any_cons,h] at hq; rw [h,<- hq]; rfl,hI⟩) (fun h=>?_)
  rw [List.any_cons,h,Bool.false_or] at hq
  refine bf ⟨?_,hI⟩
  rw [<- hq]; simp
 intro _ t _ w'
 rintro ⟨rfl,hI⟩
 refine av (fun h=>?_) (fun h=>?_)
 ·exact done hI (by rw [show aO s=2 from e1.trans (if_pos (hq1.trans h))] <;> rfl)
 rw [if_neg (by rw [hq1,h]; decide)] at e1
 clear hq hq1 h
 obtain ⟨q,hq⟩:∃ q,cV s wO=q:=⟨_,rfl⟩
 have hq1:=hq
 refine ⟨fun t w'=>t=.bool q/\Inv w [] [] S w',?_,?_⟩
 ·unfold cV wO at hq
  iterate 2
   refine bf ?_
   refine av (fun h=>⟨by rw [List.any_cons,h] at hq; rw [h,<- hq]; rfl,hI⟩) (fun h=>?_)
   rw [List.any_cons,h,Bool.false_or] at hq
  refine bf ⟨?_,hI⟩
  rw [<- hq]; simp
 intro _ _ t _ w'
 rintro ⟨rfl,hI⟩
 refine av (fun h=>?_) (fun h=>?_)
 ·exact done hI (by rw [show aO s=1 from e1.trans (if_pos (hq1.trans h))] <;> rfl)
 ·exact done hI (by rw [show aO s=0 from e1.trans (if_neg (by rw [hq1,h]; decide))] <;> rfl)
theorem fH (s:ByteArray) (S:ae):Pure Tryz.prog GM [.string s] S (.tuple #[.int .i64 (aO s),.bool (decide (aO s=1) || decide (aO s=2))]):=by
 intro w hI
 refine sM.2 ?_
 dsimp only[sM,aE]
 obtain ⟨q,hq⟩:∃ q,cV s pr=q:=⟨_,rfl⟩
 have hq1:=hq
 refine ⟨fun t w'=>t=.bool q/\Inv w [] [] S w',?_,?_⟩
 ·unfold cV pr at hq
  iterate 8
   refine bf ?_
   refine av (fun h=>⟨by rw [List.any_cons,h] at hq; rw [h,<- hq]; rfl,hI⟩) (fun h=>?_)
   rw [List.any_cons,h,Bool.false_or] at hq
  refine bf ⟨?_,hI⟩
  rw [<- hq]; simp
 intro _ _ _ _ _ _ _ _ t _ w'
 rintro ⟨rfl,hI⟩
 refine av (fun h=>?_) (fun h=>?_)
 ·exact done hI (by rw [show aO s=3 from if_pos (hq1.trans h)] <;> rfl)
 have e1:aO s=if cV s Gh=true then 2 else if cV s wO=true then 1 else 0:=by
  rw [aO,if_neg (by rw [hq1,h]; decide)]
 clear hq hq1 h
 obtain ⟨q,hq⟩:∃ q,cV s Gh=q:=⟨_,rfl⟩
 have hq1:=hq
 refine ⟨fun t w'=>t=.bool q/\Inv w [] [] S w',?_,?_⟩
 ·unfold cV Gh at hq
  refine bf ?_
  refine av (fun h=>⟨by rw [List.any_cons,h] at hq; rw [h,<- hq]; rfl,hI⟩) (fun h=>?_)
  rw [List.any_cons,h,Bool.false_or] at hq
  refine bf ⟨?_,hI⟩
  rw [<- hq]; simp
 intro _ t _ w'
 rintro ⟨rfl,hI⟩
 refine av (fun h=>?_) (fun h=>?_)
 ·exact done hI (by rw [show aO s=2 from e1.trans (if_pos (hq1.trans h))] <;> rfl)
 rw [if_neg (by rw [hq1,h]; decide)] at e1
 clear hq hq1 h
 obtain ⟨q,hq⟩:∃ q,cV s wO=q:=⟨_,rfl⟩
 have hq1:=hq
 refine ⟨fun t w'=>t=.bool q/\Inv w [] [] S w',?_,?_⟩
 ·unfold cV wO at hq
  iterate 2
   refine bf ?_
   refine av (fun h=>⟨by rw [List.any_cons,h] at hq; rw [h,<- hq]; rfl,hI⟩) (fun h=>?_)
   rw [List.any_cons,h,Bool.false_or] at hq
  refine bf ⟨?_,hI⟩
  rw [<- hq]; simp
 intro _ _ t _ w'
 rintro ⟨rfl,hI⟩
 refine av (fun h=>?_) (fun h=>?_)
 ·exact done hI (by rw [show aO s=1 from e1.trans (if_pos (hq1.trans h))] <;> rfl)
 ·exact done hI (by rw [show aO s=0 from e1.trans (if_neg (by rw [hq1,h]; decide))] <;> rfl)

theorem wg {t:T} {S:ae} {cs:List Value} (h:RdT S cs t):Pure Tryz.prog J0 [.agg cs.toArray] S (.bool (kO t)):=by
 intro w hI
 obtain ⟨kv,rfl,_,_,hs,hks⟩:=RdT.iff.1 h
 obtain ⟨k,n,s,ks⟩:=t
 simp only [T.name,T.kids,T.kind,T.n] at hs hks ⊢
 refine zz.2 ?_
 dsimp only[zz,aE]
 refine be hI fun b1 w' hI=>?_
 refine ad hI 0 rfl aM aw rfl ?_
 refine bh ?_
 rw [show kO (.mk k n s ks)=(decide (k=3) && (decide (s=⟨#[33]⟩) && decide (ks.length=0))) from rfl]
 cases h1:decide (k=3)
 ·refine rpG ?_
  exact done hI rfl
 ·refine rpG ?_
  refine ad hI 0 rfl aH aC rfl ?_
  refine bf ?_
  cases h2:decide (s=⟨#[33]⟩)
  ·refine rpG ?_
   exact done hI rfl
  ·refine rpG ?_
   refine ad hI 0 rfl ak al rfl ?_
   refine aK hks ah ?_
   refine bh ?_
   refine rpG ?_
   exact done hI (by simp)

theorem pC {t:T} {S:ae} {cs:List Value} (h:RdT S cs t):Pure Tryz.prog EB [.agg cs.toArray] S (.bool (lZ t)):=by
 intro w hI
 obtain ⟨kv,rfl,_,_,hs,hks⟩:=RdT.iff.1 h
 obtain ⟨k,n,s,ks⟩:=t
 simp only [T.name,T.kids,T.kind,T.n] at hs hks ⊢
 refine s8.2 ?_
 dsimp only[s8,aE]
 refine be hI fun b1 w' hI=>?_
 refine ad hI 0 rfl aM aw rfl ?_
 refine bh ?_
 rw [show lZ (.mk k n s ks)=(decide (k=3) && (iw s && (!dc s ks.length && decide (aO s=0)))) from rfl]
 cases h1:decide (k=3)
 ·refine rpG ?_
  exact done hI rfl
 ·refine rpG ?_
  refine ad hI 0 rfl aH aC rfl ?_
  refine Run.callPure vL vP hI (tn s hs S) fun w' hI=>?_
  cases h2:iw s
  ·refine rpG ?_
   exact done hI rfl
  ·refine rpG ?_
   refine ad hI 0 rfl aH aC rfl ?_
   refine ad hI 0 rfl ak al rfl ?_
   refine aK hks ah ?_
   refine Run.callPure jp jz hI (gV s _ S) fun w' hI=>?_
   refine bW ?_
   cases h3:dc s ks.length
   ·refine rpG ?_
    refine ad hI 0 rfl aH aC rfl ?_
    refine Run.callPure dN dP hI (cX s S) fun w' hI=>?_
    refine bh ?_
    refine rpG ?_
    exact done hI rfl
   ·refine rpG ?_
    exact done hI rfl

theorem Dg {t:T} {S:ae} {cs:List Value} (h:RdT S cs t):Pure Tryz.prog GV [.agg cs.toArray] S (.bool (kO t || (lZ t || dw t))):=by
 intro w hI
 have h0:=h
 obtain ⟨kv,rfl,_,_,hs,hks⟩:=RdT.iff.1 h
 obtain ⟨k,n,s,ks⟩:=t
 simp only [T.name,T.kids,T.kind,T.n] at h0 hs hks ⊢
 refine wh.2 ?_
 dsimp only[wh,aE]
 refine be hI fun b1 w' hI=>?_
 refine ag hI 0 ac rfl rfl ?_
 refine Run.callPure yM yT hI (wg h0) fun w' hI=>?_
 cases h1:kO (.mk k n s ks)
 ·refine rpG ?_
  refine ag hI 0 ac rfl rfl ?_
  refine Run.callPure sm tR hI (pC h0) fun w' hI=>?_
  cases h2:lZ (.mk k n s ks)
  ·refine rpG ?_
   refine ad hI 0 rfl aM aw rfl ?_
   refine bh ?_
   rw [show dw (.mk k n s ks)=(decide (k=3) && dc s ks.length) from rfl]
   cases h3:decide (k=3)
   ·refine rpG ?_
    exact done hI rfl
   ·refine rpG ?_
    refine ad hI 0 rfl aH aC rfl ?_
    refine ad hI 0 rfl ak al rfl ?_
    refine aK hks ah ?_
    refine Run.callPure jp jz hI (gV s _ S) fun w' hI=>?_
    refine rpG ?_
    exact done hI rfl
  ·refine rpG ?_
   exact done hI rfl
 ·refine rpG ?_
  exact done hI rfl

theorem Dd {t:T} (h:wT t<=1048576):dl t<=4611686018427387904:=by
 have:=Lg t
 omega
theorem gI {t:T} {S:ae} {cs:List Value} (h:RdT S cs t) (hc:wT t<=1048576):Pure Tryz.prog Ai [.agg cs.toArray] S (.bool (fk t)):=by
 intro w hI
 have hl:=h.length
 refine nq.2 ?_
 dsimp only[nq,aE]
 refine be hI fun b1 w' hI=>?_
 refine ag hI 0 ac rfl (by simpa [Value.cells] using hl) ?_
 refine Run.callPure jI jB hI (gW h (Dd hc)) fun w' hI=>?_
 rw [fk]
 cases h1:cE t
 ·refine rpG ?_
  exact done hI rfl
 ·refine rpG ?_
  refine ag hI 0 ac rfl (by simpa [Value.cells] using hl) ?_
  refine Run.callPure Fi FU hI (Dg h) fun w' hI=>?_
  refine rpG ?_
  exact done hI rfl


theorem D9 {ts:List T} {t:T} (h:t∈ts):wT t<=wL ts:=by
 induction ts with
 | nil=>simp at h
 | cons u us ih=>
  rw [wL]
  rcases List.mem_cons.1 h with rfl|h
  ·omega
  ·have:=ih h; omega
theorem ro {c:C} {S:ae} {cs:List Value} (h:RdC S cs c) (hc:wC c<=1048576):Pure Tryz.prog xz [.agg cs.toArray] S (.bool (dg c)):=by
 intro w hI
 obtain ⟨hd,ks,rfl,h1,h2⟩:=h
 have h1':=h1
 obtain ⟨kv,rfl,g1,g2,g3,g4⟩:=RdT.iff.1 h1
 have hlen:=h2.le
 simp only [maxLen] at hlen
 unfold wC at hc
 refine lF.2 ?_
 dsimp only[lF,aE]
 refine be hI fun b1 w' hI=>?_
 refine ⟨fun i w'=>∃ k:Nat,k<=c.body.length/\k<=7/\i=.int .i64 k/\(∀ j (h:j<c.body.length),j<k->fk c.body[j]=true)/\Inv w [] [.blk b1 (.cells #[.int .i64 c.head.kind,.int .i64 c.head.n,.string c.head.name,kv,ks] aQ)] S w',
  fun i _=>c.body.length - (intOf i).toNat,⟨0,Nat.zero_le _,by omega,rfl,fun j _ h=>by omega,hI⟩,?_⟩
 intro t3 _ _ _ _ _ _ _ _ _ _ _ _ _ _ _ _ _ _ _ w'
 rintro ⟨k,hk,hk7,rfl,hrel,hI⟩
 refine ⟨fun t w'=>t=.bool (decide (k<c.body.length/\k<=6))/\Inv w [] [.blk b1 (.cells #[.int .i64 c.head.kind,.int .i64 c.head.n,.string c.head.name,kv,ks] aQ)] S w',?_,?_⟩
 ·refine ad hI 0 rfl cC al rfl ?_
  refine aK h2 ah ?_
  refine bD ?_
  by_cases hki:(k:Int)<c.body.length
  ·rw [decide_eq_true hki]
   refine rpG ?_
   refine fi ?_
   refine rpG ?_
   refine ⟨?_,hI⟩
   congr 1
   rw [Bool.eq_iff_iff]; simp; omega
  ·rw [decide_eq_false hki]
   refine rpG ?_
   exact ⟨by rw [decide_eq_false (by omega)],hI⟩
 intro t _ _ _ _ _ _ _ _ w'
 rintro ⟨rfl,hI⟩
 refine aN (fun hki=>?_) (fun hki=>?_)
 ·obtain ⟨hk',hk6⟩:=hki
  refine ad hI 0 rfl cC al rfl ?_
  refine bP hI h2 ah ac hk' (fun _ _=>RdT.length) fun cs' hcs'=>?_
  have hwm:=D9 (List.getElem_mem hk')
  refine Run.callPure jL jF hI (gI hcs' (by omega)) fun w' hI=>?_
  refine bW ?_
  refine av (fun hb=>done hI ?_) (fun hb=>?_)
  ·have hb':fk c.body[k]=false:=by simpa using hb
   have:c.body.all fk=false:=by
    rw [<- Bool.not_eq_true,List.all_eq_true]
    intro hall
    rw [hall _ (List.getElem_mem hk')] at hb'
    cases hb'
   rw [dg,this]
   simp
  ·have hb':fk c.body[k]=true:=by simpa using hb
   refine bm (by omega) ?_
   refine ⟨⟨k+1,hk',by omega,rfl,fun j hj hjk=>?_,hI⟩,by simp [intOf]; omega⟩
   by_cases e:j=k
   ·subst e; exact hb'
   ·exact hrel j hj (by omega)
 ·refine ad hI 0 rfl cC al rfl ?_
  refine aK h2 ah ?_
  refine fi ?_
  rw [dg]
  by_cases hle:c.body.length<=6
  ·have hall:c.body.all fk=true:=by
    rw [List.all_eq_true]
    intro x hx
    obtain ⟨j,hj,rfl⟩:=List.getElem_of_mem hx
    exact hrel j hj (by omega)
   rw [decide_eq_true (show (c.body.length:Int)<=6 by omega),decide_eq_true hle,hall]
   refine rpG ?_
   refine ao dA ?_
   refine b0 hI 0 [.int .i64 c.head.kind,.int .i64 c.head.n,.string c.head.name,kv] ac rfl rfl ?_ ?_
   ·intro j v hj
    match j with
    | 0|1|2|3=>exact hj
    | j+4=>simp at hj
   refine Run.callPure jI jB hI (gW h1' (Dd (by omega))) fun w' hI=>?_
   cases hv:cE c.head
   ·refine rpG ?_
    exact done hI rfl
   ·refine rpG ?_
    refine ao dA ?_
    refine b0 hI 0 [.int .i64 c.head.kind,.int .i64 c.head.n,.string c.head.name,kv] ac rfl rfl ?_ ?_
    ·intro j v hj
     match j with
     | 0|1|2|3=>exact hj
     | j+4=>simp at hj
    refine Run.callPure sm tR hI (pC h1') fun w' hI=>?_
    refine rpG ?_
    exact done hI rfl
  ·rw [decide_eq_false (show ¬ (c.body.length:Int)<=6 by omega),decide_eq_false hle]
   refine rpG ?_
   exact done hI rfl

theorem rh {xs:List T} {S:ae} {v:Value} (h:RdSl S 4 (RdT S) v xs) (hc:wL xs<=1048576):Pure Tryz.prog yu [v] S (.bool (l4 xs)):=by
 intro w hI
 have hlen:=h.le
 simp only [maxLen] at hlen
 refine mK.2 ?_
 dsimp only[mK,aE]
 refine ⟨fun i w'=>∃ k:Nat,k<=xs.length/\k<=6+1/\i=.int .i64 k/\(∀ j (h:j<xs.length),j<k->fk xs[j]=true)/\Inv w [] [] S w',
  fun i _=>xs.length - (intOf i).toNat,⟨0,Nat.zero_le _,by omega,rfl,fun j _ h=>by omega,hI⟩,?_⟩
 intro t3 _ _ _ _ _ _ _ _ _ _ _ _ _ _ _ _ _ w'
 rintro ⟨k,hk,hk7,rfl,hrel,hI⟩
 refine ⟨fun t w'=>t=.bool (decide (k<xs.length/\k<=6))/\Inv w [] [] S w',?_,?_⟩
 ·refine aK h ah ?_
  refine bD ?_
  by_cases hki:(k:Int)<xs.length
  ·rw [decide_eq_true hki]
   refine rpG ?_
   refine fi ?_
   refine rpG ?_
   refine ⟨?_,hI⟩
   congr 1
   rw [Bool.eq_iff_iff]; simp; omega
  ·rw [decide_eq_false hki]
   refine rpG ?_
   exact ⟨by rw [decide_eq_false (by omega)],hI⟩
 intro t _ _ _ _ _ _ _ w'
 rintro ⟨rfl,hI⟩
 refine aN (fun hki=>?_) (fun hki=>?_)
 ·obtain ⟨hk',hk6⟩:=hki
  refine bP hI h ah ac hk' (fun _ _=>RdT.length) fun cs' hcs'=>?_
  have hwm:=D9 (List.getElem_mem hk')
  refine Run.callPure jL jF hI (gI hcs' (by omega)) fun w' hI=>?_
  refine bW ?_
  refine av (fun hb=>done hI ?_) (fun hb=>?_)
  ·have hb':fk xs[k]=false:=by simpa using hb
   have:xs.all fk=false:=by
    rw [<- Bool.not_eq_true,List.all_eq_true]
    intro hall
    rw [hall _ (List.getElem_mem hk')] at hb'
    cases hb'
   rw [l4,this,Bool.and_false]
  ·have hb':fk xs[k]=true:=by simpa using hb
   refine bm (by omega) ?_
   refine ⟨⟨k+1,hk',by omega,rfl,fun j hj hjk=>?_,hI⟩,by simp [intOf]; omega⟩
   by_cases e:j=k
   ·subst e; exact hb'
   ·exact hrel j hj (by omega)
 ·refine aK h ah ?_
  refine fi ?_
  rw [l4]
  refine done hI ?_
  by_cases hle:xs.length<=6
  ·have hall:xs.all fk=true:=by
    rw [List.all_eq_true]
    intro x hx
    obtain ⟨j,hj,rfl⟩:=List.getElem_of_mem hx
    exact hrel j hj (by omega)
   rw [decide_eq_true (show (xs.length:Int)<=6 by omega),decide_eq_true hle,hall]; rfl
  ·rw [decide_eq_false (show ¬ (xs.length:Int)<=6 by omega),decide_eq_false hle]; rfl
theorem rj (s:ByteArray) (S:ae):Pure Tryz.prog Ly [.string s] S (.bool (decide (0<aO s))):=by
 intro w hI
 refine BR.2 ?_
 dsimp only[BR,aE]
 refine Run.callPure je iV hI (fH s S) fun w' hI=>?_
 refine ai rfl ?_
 refine ai rfl ?_
 refine cY ?_
 exact done hI rfl
theorem qi {t:T} {S:ae} {cs:List Value} (h:RdT S cs t):Pure Tryz.prog Fb [.agg cs.toArray] S (.bool (dw t)):=by
 intro w hI
 obtain ⟨kv,rfl,_,_,hs,hks⟩:=RdT.iff.1 h
 obtain ⟨k,n,s,ks⟩:=t
 simp only [T.name,T.kids,T.kind,T.n] at hs hks ⊢
 refine rF.2 ?_
 dsimp only[rF,aE]
 refine be hI fun b1 w' hI=>?_
 refine ad hI 0 rfl aM aw rfl ?_
 refine bh ?_
 rw [show dw (.mk k n s ks)=(decide (k=3) && dc s ks.length) from rfl]
 cases h3:decide (k=3)
 ·refine rpG ?_
  exact done hI rfl
 ·refine rpG ?_
  refine ad hI 0 rfl aH aC rfl ?_
  refine ad hI 0 rfl ak al rfl ?_
  refine aK hks ah ?_
  refine Run.callPure yW yd hI (uD s _ S) fun w' hI=>?_
  refine rpG ?_
  exact done hI rfl
theorem Ax {t:T} {S:ae} {cs:List Value} (h:RdT S cs t):Pure Tryz.prog ET [.agg cs.toArray] S (.bool (lZ t)):=by
 intro w hI
 have h0:=h
 obtain ⟨kv,rfl,_,_,hs,hks⟩:=RdT.iff.1 h
 obtain ⟨k,n,s,ks⟩:=t
 simp only [T.name,T.kids,T.kind,T.n] at h0 hs hks ⊢
 refine sC.2 ?_
 dsimp only[sC,aE]
 refine be hI fun b1 w' hI=>?_
 refine ad hI 0 rfl aM aw rfl ?_
 refine bh ?_
 have hb:dw (.mk k n s ks)=(decide (k=3) && dc s ks.length):=rfl
 rw [show lZ (.mk k n s ks)=(decide (k=3) && (iw s && (!dc s ks.length && decide (aO s=0)))) from rfl]
 cases h1:decide (k=3)
 ·refine rpG ?_
  exact done hI rfl
 ·rw [h1] at hb
  refine rpG ?_
  refine ad hI 0 rfl aH aC rfl ?_
  refine Run.callPure jx jK hI (iN s hs S) fun w' hI=>?_
  cases h2:iw s
  ·refine rpG ?_
   exact done hI rfl
  ·refine rpG ?_
   refine ad hI 0 rfl aH aC rfl ?_
   refine Run.callPure u7 u3 hI (rj s S) fun w' hI=>?_
   refine bW ?_
   rw [KX]
   cases h3:decide (aO s=0)
   ·refine rpG ?_
    exact done hI (by simp)
   ·refine rpG ?_
    refine ag hI 0 ac rfl rfl ?_
    refine Run.callPure sd sD hI (qi h0) fun w' hI=>?_
    refine bW ?_
    refine rpG ?_
    exact done hI (by rw [hb]; simp)
theorem mq {t:T} {S:ae} {cs:List Value} (h:RdT S cs t):Pure Tryz.prog Hm [.agg cs.toArray] S (.bool (sL t)):=by
 intro w hI
 obtain ⟨kv,rfl,_,_,hs,hks⟩:=RdT.iff.1 h
 obtain ⟨k,n,s,ks⟩:=t
 simp only [T.name,T.kids,T.kind,T.n] at hs hks ⊢
 refine xl.2 ?_
 dsimp only[xl,aE]
 refine be hI fun b1 w' hI=>?_
 refine ad hI 0 rfl aM aw rfl ?_
 refine bh ?_
 rw [show sL (.mk k n s ks)=(decide (k=3) && decide (ks.length=0)) from rfl]
 cases h3:decide (k=3)
 ·refine rpG ?_
  exact done hI rfl
 ·refine rpG ?_
  refine ad hI 0 rfl ak al rfl ?_
  refine aK hks ah ?_
  refine bh ?_
  refine rpG ?_
  exact done hI (by simp)
theorem E0 {t:T} {S:ae} {cs:List Value} (h:RdT S cs t):Pure Tryz.prog JY [.agg cs.toArray] S (.bool (kO t)):=by
 intro w hI
 have h0:=h
 obtain ⟨kv,rfl,_,_,hs,hks⟩:=RdT.iff.1 h
 obtain ⟨k,n,s,ks⟩:=t
 simp only [T.name,T.kids,T.kind,T.n] at h0 hs hks ⊢
 refine zh.2 ?_
 dsimp only[zh,aE]
 refine be hI fun b1 w' hI=>?_
 refine ag hI 0 ac rfl rfl ?_
 refine Run.callPure m9 nz hI (mq h0) fun w' hI=>?_
 rw [show kO (.mk k n s ks)=(decide (k=3) && (decide (s=⟨#[33]⟩) && decide (ks.length=0))) from rfl]
 cases h1:sL (.mk k n s ks)
 ·refine rpG ?_
  refine done hI ?_
  replace h1:(decide (k=3) && decide (ks.length=0))=false:=h1
  cases h2:decide (k=3)
  ·rfl
  ·rw [h2,Bool.true_and] at h1
   rw [h1,Bool.and_false]; rfl
 ·refine rpG ?_
  refine ad hI 0 rfl aH aC rfl ?_
  refine bf ?_
  refine rpG ?_
  refine done hI ?_
  replace h1:(decide (k=3) && decide (ks.length=0))=true:=h1
  rw [Bool.and_eq_true] at h1
  rw [h1.1,h1.2]; simp
theorem vw {t:T} {S:ae} {cs:List Value} (h:RdT S cs t):Pure Tryz.prog Bi [.agg cs.toArray] S (.bool (fk t)):=by
 intro w hI
 have hl:=h.length
 refine ox.2 ?_
 dsimp only[ox,aE]
 refine be hI fun b1 w' hI=>?_
 refine ag hI 0 ac rfl (by simpa [Value.cells] using hl) ?_
 refine Run.callPure zF zf hI (ve h) fun w' hI=>?_
 rw [fk]
 cases h1:cE t
 ·refine rpG ?_
  exact done hI rfl
 ·refine rpG ?_
  refine ag hI 0 ac rfl (by simpa [Value.cells] using hl) ?_
  refine Run.callPure C7 C3 hI (Ax h) fun w' hI=>?_
  cases h2:lZ t
  ·refine rpG ?_
   refine ag hI 0 ac rfl (by simpa [Value.cells] using hl) ?_
   refine Run.callPure sd sD hI (qi h) fun w' hI=>?_
   cases h3:dw t
   ·refine rpG ?_
    refine ag hI 0 ac rfl (by simpa [Value.cells] using hl) ?_
    refine Run.callPure ID Ho hI (E0 h) fun w' hI=>?_
    refine rpG ?_
    exact done hI (by simp)
   ·refine rpG ?_
    exact done hI (by simp)
  ·refine rpG ?_
   exact done hI (by simp)
end
section
open Go Go.RowKit
attribute [local irreducible] Run CondV ar aI

def RowRd (S:ae) (v:Value) (e:TypeId) (k n:Nat) (xs:List Value):Prop:=
 xs.length=n * k/\((v=.slice none 0 0/\n=0) ∨ ∃ g cap cur,v=.slice (some ⟨g,0,none⟩) n cap/\S g=some (.cells cur e)/\n<=cap/\cap<=maxLen/\cur.size=cap * k/\cur.toList.take (n * k)=xs)
theorem Inv.lend {w0 w:World} {X:List Nat} {A:List Item} {S:ae} {v:Value} {e:TypeId} {k n:Nat} {xs:List Value} (h:Inv w0 X (A++[.row v e k n xs]) S w) :
  ∃ S',Sle S S'/\RowRd S' v e k n xs/\Inv w0 X A S' w/\∀ B w',Inv w0 X B S' w'->Inv w0 X (B++[.row v e k n xs]) S w':=by
 have hm:w.ownsRow 0 e k v n xs:=h.its (.row v e k n xs) (by simp)
 obtain ⟨hl,hm⟩:=hm
 rcases hm with ⟨rfl,rfl⟩|⟨g,cap,cur,rfl,_,hg,hnc,hcm,hcs,ht⟩
 ·have:xs=[]:=List.eq_nil_of_length_eq_zero (by rw [hl,Nat.zero_mul])
  subst this
  exact ⟨S,Sle.refl S,⟨hl,.inl ⟨rfl,rfl⟩⟩,h.sub (List.sublist_append_left _ _),fun B w' hB=>hB.rowNil e k⟩
 ·have hf:bz (A++[Item.blk g (.cells cur e)])=bz (A++[Item.row (.slice (some ⟨g,0,none⟩) n cap) e k n xs]):=by
   simp [bz,Item.foot,Value.ownBlock]
  have hg':g∈bz (A++[Item.row (.slice (some ⟨g,0,none⟩) n cap) e k n xs]):=by simp [bz,Item.foot,Value.ownBlock]
  have h':Inv w0 X (A++[Item.blk g (.cells cur e)]) S w:=by
   refine ⟨h.size,h.os,h.tape,h.output,h.old,fun it hit=>?_,by rw [hf]; exact h.nd,by rw [hf]; exact h.new,by rw [hf]; exact h.pub⟩
   rcases List.mem_append.1 hit with hit|hit
   ·exact h.its it (List.mem_append_left _ hit)
   ·simp at hit
    subst hit
    exact hg
  obtain ⟨h1,h2⟩:=h'.publishLast
  refine ⟨nD S g (.cells cur e),h2,⟨hl,.inr ⟨g,cap,cur,rfl,by simp [nD],hnc,hcm,hcs,ht⟩⟩,h1,fun B w' hB=>?_⟩
  have hpg:=hB.pub g (.cells cur e) (by simp [nD])
  have hfB:bz (B++[Item.row (.slice (some ⟨g,0,none⟩) n cap) e k n xs])=bz B++[g]:=by simp [bz,Item.foot,Value.ownBlock]
  refine ⟨hB.size,hB.os,hB.tape,hB.output,hB.old,fun it hit=>?_,?_,?_,?_⟩
  ·rcases List.mem_append.1 hit with hit|hit
   ·exact hB.its it hit
   ·simp at hit
    subst hit
    exact ⟨hl,.inr ⟨g,cap,cur,rfl,Nat.zero_le _,hpg.1,hnc,hcm,hcs,ht⟩⟩
  ·rw [hfB,List.nodup_append]
   refine ⟨hB.nd,by simp,fun a ha b hb=>?_⟩
   simp at hb
   subst hb
   intro e'
   subst e'
   exact hpg.2 ha
  ·intro c hc
   rw [hfB] at hc
   rcases List.mem_append.1 hc with hc|hc
   ·exact hB.new c hc
   ·simp at hc
    subst hc
    exact h.new _ hg'
  ·intro c o hc
   have hne:c≠g:=fun e'=>by
    subst e'
    exact (h.pub c o hc).2 hg'
   have:=hB.pub c o (by simp only [nD]; rw [if_neg hne]; exact hc)
   refine ⟨this.1,?_⟩
   rw [hfB]
   intro hc'
   rcases List.mem_append.1 hc' with hc'|hc'
   ·exact this.2 hc'
   ·simp at hc'
    exact hne hc'
theorem Jv {α:Type} (f:α->List Value) (k:Nat) (hf:∀ y,(f y).length=k):∀ (ys:List α) (i:Nat) (h:i<ys.length),((ys.flatMap f).drop (i * k)).take k=f ys[i]
 | [],i,h=>by simp at h
 | y::ys,0,h=>by
  rw [List.flatMap_cons,Nat.zero_mul,List.drop_zero,List.take_append_of_le_length (by rw [hf]; exact Nat.le_refl _),List.take_of_length_le (by rw [hf]; exact Nat.le_refl _)]
  rfl
 | y::ys,i+1,h=>by
  rw [List.flatMap_cons,Nat.succ_mul,Nat.add_comm,<- List.drop_drop,List.drop_left' (hf y)]
  exact Jv f k hf ys i (by simpa using h)
theorem RowRd.rd {α:Type} {S:ae} {v:Value} {e:TypeId} {k:Nat} {f:α->List Value} {R:List Value->α->Prop} {ys:List α} (hf:∀ y,(f y).length=k) (hR:∀ y∈ys,R (f y) y)
  (h:RowRd S v e k ys.length (ys.flatMap f)):RdSl S k R v ys:=by
 obtain ⟨hl,h⟩:=h
 rcases h with ⟨rfl,h0⟩|⟨g,cap,cur,rfl,hS,hnc,hcm,hcs,ht⟩
 ·have:ys=[]:=List.eq_nil_of_length_eq_zero h0
  subst this
  exact ⟨none,0,rfl,Nat.le_refl _,Nat.zero_le _,.inl rfl⟩
 ·refine ⟨_,cap,rfl,hnc,hcm,.inr ⟨g,0,cur,e,(0,0),rfl,hS,fun i hi=>?_⟩⟩
  have:=Jv f k hf ys i hi
  have hik:i * k+k<=ys.length * k:=by rw [<- Nat.succ_mul]; exact Nat.mul_le_mul_right k hi
  rw [<- ht,List.drop_take,List.take_take,Nat.min_eq_left (by omega)] at this
  rw [aL,Nat.zero_add,this]
  exact hR _ (List.getElem_mem hi)

def ints (ns:List Int):List Value:=ns.flatMap fun n=>[.int .i64 n]
abbrev fY (v:Value) (ns:List Int):Item:=.row v eN 1 ns.length (ints ns)
theorem Bv (ns:List Int) (n:Int):ints ns++[.int .i64 n]=ints (ns++[n]):=by simp [ints]
theorem RowRd.ints {S:ae} {v:Value} {e:TypeId} {ns:List Int} (h:RowRd S v e 1 ns.length (ints ns)):RdSl S 1 gz v ns:=
 RowRd.rd (f:=fun n=>[Value.int .i64 n]) (fun _=>rfl) (fun _ _=>rfl) h
def EL (l:List Int) (n:Int):Bool:=l.any fun x=>decide (n=x)
def xt (l:List Int) (n:Int):List Int:=if EL l n=true then l else l++[n]
theorem MZ (l:List Int) (n:Int):(xt l n).length<=l.length+1:=by
 unfold xt
 split <;> simp
end
section
open Go Go.RowKit
attribute [local irreducible] Run CondV ar aI

mutual
def dZ:T->List Int->List Int
 | .mk k n _ ks,l=>if k=1 then xt l n else cB ks l
def cB:List T->List Int->List Int
 | [],l=>l
 | t::ts,l=>cB ts (dZ t l)
end
mutual
theorem lS:∀ (t:T) (l:List Int),((dZ t l).length:Int)<=l.length+dl t
 | .mk k n s ks,l=>by
  rw [dZ,show dl (T.mk k n s ks)=1+cL ks from rfl]
  have h1:=MZ l n
  have:=dS ks
  split
  ·omega
  ·have:=Cg ks l
   omega
theorem Cg:∀ (ts:List T) (l:List Int),((cB ts l).length:Int)<=l.length+cL ts
 | [],l=>by simp [cB,cL]
 | t::ts,l=>by
  rw [cB,show cL (t::ts)=dl t+cL ts from rfl]
  have:=lS t l
  have:=Cg ts (dZ t l)
  omega
end
theorem xg {t:T} (h:cE t=true):ei t 30=true:=by
 rw [cE,Bool.and_eq_true] at h
 exact h.1
abbrev EY (S:ae) (r:List Int):Value->List Item->ae->Prop:=fun v I' S'=>I'=[fY v r]/\S'=S

theorem ja:∀ (t:T) (S:ae) (cs:List Value) (v:Value) (l:List Int),RdT S cs t->l.length+dl t<=1000000000->Tri Tryz.prog Ib [v,.agg cs.toArray] [fY v l] S (EY S (dZ t l)):=by
 refine T.ind fun k n s ks ih S cs v l h hl=>?_
 intro w hI
 obtain ⟨kv,rfl,_,_,hs,hks⟩:=RdT.iff.1 h
 simp only [T.name,T.kids,T.kind,T.n] at hs hks ⊢
 have hlen:=hks.le
 simp only [maxLen] at hlen
 rw [show dl (T.mk k n s ks)=1+cL ks from rfl] at hl
 have hcp:=dS ks
 have hend:∀ {w':World} {v':Value} {b:Nat} {o:Obj} (r:List Int),Inv w (bz [fY v l]) [.blk b o,fY v' r] S w'->r=dZ (.mk k n s ks) l->
   ∃ v'' I' S',Ending.returned v'=.returned v''/\Inv w (bz [fY v l]) I' S' w'/\Ext w.heap.size (bz [fY v l]) S S'/\EY S (dZ (.mk k n s ks) l) v'' I' S':=by
  intro w' v' b o r h1 h2
  subst h2
  exact ⟨_,_,_,rfl,h1.pick [false,true],Ext.refl _ _ _,rfl,rfl⟩
 refine vN.2 ?_
 dsimp only[vN,aY]
 refine be hI fun b3 w' hI=>?_
 have hI:=hI.perm (M:=[.blk b3 (.cells #[.int .i64 k,.int .i64 n,.string s,kv] ab),fY v l]) (List.Perm.swap _ _ _)
 refine ad hI 0 rfl aM aw rfl ?_
 refine bh ?_
 refine aN (fun hk=>?_) (fun hk=>?_)
 ·have hr:xt l n=dZ (.mk k n s ks) l:=by rw [dZ,if_pos hk]
  obtain ⟨S1,hle,hrd,hI,hback⟩:=Inv.lend (A:=[_]) hI
  have hrd:=hrd.ints
  refine ⟨fun i w'=>∃ j:Nat,j<=l.length/\i=.int .i64 j/\EL (l.drop j) n=EL l n/\Inv w (bz [fY v l]) [.blk b3 (.cells #[.int .i64 k,.int .i64 n,.string s,kv] ab)] S1 w',
   fun i _=>l.length - (intOf i).toNat,⟨0,Nat.zero_le _,rfl,rfl,hI⟩,?_⟩
  intro t5 _ _ _ _ t22 t21 t20 t19 t18 t17 t16 _ _ _ _ w'
  rintro ⟨j,hj,rfl,hrel,hI⟩
  refine aK hrd cW ?_
  refine bD ?_
  refine aN (fun hji=>?_) (fun hji=>?_)
  ·have hj':j<l.length:=by omega
   have hstep:EL (l.drop j) n=(decide (n=l[j]) || EL (l.drop (j+1)) n):=Fl _ l j hj'
   obtain ⟨b,o,cap,c,E,fz,rfl,hS,hR⟩:=hrd.at_ hj'
   refine ⟨fun D mD kX i6 lQ pJ mX Ca w_=>Fx D 0 [Ca=.slice (some ⟨b,o,none⟩) l.length cap,mX=.int .i64 j,pJ=.pointer (some ⟨b,o+j * 1,none⟩),lQ=.int .i64 l[j],i6=.pointer (some ⟨b3,1,none⟩),kX=.int .i64 n,mD=.bool (decide (l[j]=n))]/\Inv w (bz [fY (.slice (some ⟨b,o,none⟩) l.length cap) l]) [.blk b3 (.cells #[.int .i64 k,.int .i64 n,.string s,kv] ab)] S1 w_,⟨Fx.nil _ _,hI.draw⟩,⟨?_,?_,?_,?_,?_,?_,?_,trivial⟩,?_⟩
   all_goals (intro D bw; intros; rename_i mD kX i6 lQ pJ mX Ca w_ hA_; have hF_:=hA_.1; obtain ⟨⟨bQ,bS,bU,bR,bY,bZ,bO,_⟩,hI⟩:=hA_)
   ·exact ⟨hF_.set 0 rfl,hI⟩
   ·exact ⟨hF_.set 1 rfl,hI⟩
   ·obtain rfl:=bQ ‹_›
    obtain rfl:=bS ‹_›
    refine ay cW hj' ?_
    exact ⟨hF_.set 2 rfl,hI⟩
   ·obtain rfl:=bU ‹_›
    refine dd aw (by rw [hI.cellS hS]; exact aD hR 0 _ rfl) ?_
    exact ⟨hF_.set 3 rfl,hI⟩
   ·refine ao aR ?_
    exact ⟨hF_.set 4 rfl,hI⟩
   ·obtain rfl:=bY ‹_›
    refine ax hI 0 aw rfl rfl ?_
    exact ⟨hF_.set 5 rfl,hI⟩
   ·obtain rfl:=bR ‹_›
    obtain rfl:=bZ ‹_›
    refine bh ?_
    exact ⟨hF_.set 6 rfl,hI⟩
   obtain ⟨rfl,rfl,rfl,rfl,rfl,rfl,rfl,_⟩:=hF_.all
   clear hF_ bQ bS bU bR bY bZ bO
   refine aN (fun he=>?_) (fun he=>?_)
   ·refine hend l (hback _ _ hI) ?_
    rw [<- hr,xt,if_pos (by rw [<- hrel,hstep,decide_eq_true he.symm]; rfl)]
   ·refine bm (by omega) ?_
    exact ⟨⟨j+1,hj',rfl,by rw [<- hrel,hstep,decide_eq_false (fun e=>he e.symm)]; rfl,hI⟩,by simp [intOf]; omega⟩
  ·have:j=l.length:=by omega
   subst this
   have hno:EL l n=false:=by rw [<- hrel,List.drop_length]; rfl
   have hI:Inv w (bz [fY v l]) [.blk b3 (.cells #[.int .i64 k,.int .i64 n,.string s,kv] ab),fY v l] S _:=hback _ _ hI
   refine ad hI 0 rfl aR aw rfl ?_
   refine dH hI o7 rfl (by omega) (by omega) fun b w' hI=>?_
   refine eZ hI 1 (k:=1) [.int .i64 n] o7 (by omega) rfl rfl ?_ ?_ (by omega) (by omega) fun v' w' hI=>?_
   ·intro j u hj
    rw [hI.cellL (i:=2) rfl]
    match j with
    | 0=>simpa [Value.cells] using hj
    | j+1=>simp at hj
   ·simp [Value.oneCell']
   ·rw [Bv] at hI
    have hI:=hI.pick [true,true,false]
    refine hend (b:=b3) (o:=.cells #[.int .i64 k,.int .i64 n,.string s,kv] ab) (l++[n]) ?_ ?_
    ·have e:Item.row v' eN 1 (l.length+1) (ints (l++[n]))=fY v' (l++[n]):=by simp [fY]
     exact e ▸ hI
    ·rw [<- hr,xt,if_neg (by rw [hno]; decide)]
 ·have hr:cB ks l=dZ (.mk k n s ks) l:=by rw [dZ,if_neg hk]
  refine ⟨fun i t w'=>∃ (j:Nat) (l':List Int),j<=ks.length/\i=.int .i64 j/\cB (ks.drop j) l'=cB ks l/\l'.length+cL (ks.drop j)<=1000000000/\Inv w (bz [fY v l]) [.blk b3 (.cells #[.int .i64 k,.int .i64 n,.string s,kv] ab),fY t l'] S w',
   fun i _ _=>ks.length - (intOf i).toNat,⟨0,l,Nat.zero_le _,rfl,rfl,by rw [List.drop_zero]; omega,hI⟩,?_⟩
  intro t6 _ _ t0 _ _ _ _ _ _ _ _ _ _ _ _ w'
  rintro ⟨j,l',hj,rfl,hrel,hl',hI⟩
  refine ad hI 0 rfl ak al rfl ?_
  refine aK hks ah ?_
  refine bD ?_
  refine aN (fun hji=>?_) (fun hji=>?_)
  ·have hj':j<ks.length:=by omega
   rw [qU ks j hj'] at hl'
   rw [List.drop_eq_getElem_cons hj',cB] at hrel
   have hc1:=dS (ks.drop (j+1))
   have hc2:=lS ks[j] l'
   refine ad hI 0 rfl ak al rfl ?_
   refine bP hI hks ah ac hj' (fun _ _=>RdT.length) fun cs' hcs'=>?_
   refine Run.call (A:=[_]) iy ir hI (ih _ (List.getElem_mem hj') S cs' t0 l' hcs' (by omega)) fun v' I' S' w'=>?_
   rintro ⟨rfl,rfl⟩ _ hI
   refine bm (by omega) ?_
   exact ⟨⟨j+1,_,hj',rfl,hrel,by omega,hI⟩,by simp [intOf]; omega⟩
  ·have:j=ks.length:=by omega
   subst this
   rw [List.drop_length,cB] at hrel
   exact hend l' hI (by rw [hrel,hr])
end
section
open Go Go.RowKit
attribute [local irreducible] Run CondV ar aI

section
variable {P:Program} {w w0:World} {X:List Nat} {L:List Item} {S:ae} {K:Value->Value->Value->World->Prop}
end
end
section
open Go Go.ChangeShapes Go.WideShapes Go.ChangeAt Go.RowKit

def Eu (W:World):ae:=fun b=>W.heap[b]?
section
variable {H:Type} {enc:TypeId × Value->H} {P:Program} {W:World} {sp:Nat->Bool} {held:Bool}
theorem KK {a:Addr} {v:Value} (h:W.cell? a=some v):∃ b o c E fz,a=⟨b,o,none⟩/\W.heap[b]?=some (.cells c E fz)/\c[o]?=some v:=by
 obtain ⟨b,o,s⟩:=a
 simp only [World.cell?] at h
 split at h
 ·rename_i c E fz hb
  cases s with
  | none=>exact ⟨b,o,c,E,fz,rfl,hb,by simpa using h⟩
  | some s=>simp at h
 ·cases h
theorem Lc {b o k:Nat} {cs:List Value} {c:Array Value} {E:TypeId} {fz:Nat × Nat} (hb:W.heap[b]?=some (.cells c E fz)) (h:W.cells? 0 ⟨b,o,none⟩ k=some cs):aL c o k=cs:=by
 unfold World.cells? at h
 rw [if_pos (Nat.zero_le _)] at h
 have hl:cs.length=k:=by simpa using mapM_some_length h
 apply List.ext_getElem?
 intro i
 rw [aL,List.getElem?_take]
 by_cases hi:i<k
 ·rw [if_pos hi,List.getElem?_drop]
  have:=mapM_some_get h i i (by simp [hi])
  rw [<- this,iW]
  simp [World.cell?,hb]
 ·rw [if_neg hi,List.getElem?_eq_none (by omega)]
theorem vH {α:Type} (p:Nat->α->Prop):∀ n:Nat,(∀ i,i<n->∃ t,p i t)->∃ xs:List α,xs.length=n/\∀ i (h:i<xs.length),p i xs[i]
 | 0,_=>⟨[],rfl,fun i h=>by simp at h⟩
 | n+1,h=>by
  obtain ⟨xs,hl,hx⟩:=vH p n fun i hi=>h i (by omega)
  obtain ⟨t,ht⟩:=h n (by omega)
  refine ⟨xs++[t],by simp [hl],fun i hi=>?_⟩
  by_cases e:i<xs.length
  ·rw [List.getElem_append_left e]
   exact hx i e
  ·have:i=xs.length:=by simp at hi; omega
   subst this
   simp only [List.getElem_append_right (Nat.le_refl _),Nat.sub_self,List.getElem_cons_zero]
   rw [hl]
   exact ht
theorem oB {T e:TypeId} {k:Nat} (h:ce P T=some (e,k)):P.underlying T=some (.slice e)/\P.cellsOf e=k:=by
 unfold ce at h
 split at h
 ·rename_i e' he
  rw [Option.map_eq_some_iff] at h
  obtain ⟨i,hi,hx⟩:=h
  simp only [Prod.mk.injEq] at hx
  obtain ⟨rfl,rfl⟩:=hx
  exact ⟨he,by simp [Program.cellsOf,hi]⟩
 ·cases h
theorem N8 {α:Type} {R:List Value->α->Prop} {T e:TypeId} {k fuel:Nat} {v:Value} {x:DataW H × List MemPlace} (hu:ce P T=some (e,k)) (hk0:0<k)
  (h:DataW.trod enc P W 0 sp held fuel T [v]=some x) (hel:∀ n cs y,fuel=n+1->DataW.trod enc P W 0 sp held n e cs=some y->∃ t:α,R cs t):∃ xs,RdSl (Eu W) k R v xs:=by
 obtain ⟨hu1,hk⟩:=oB hu
 rcases DataW.trod_slice hu1 h with ⟨hcs,_⟩|⟨a,len,cap,elems,rest,n,hf,hcs,_,_,hl,hc,hlen,hE,_⟩
 ·simp only [List.cons.injEq,and_true] at hcs
  subst hcs
  exact ⟨[],none,0,rfl,Nat.le_refl _,Nat.zero_le _,.inl rfl⟩
 ·simp only [List.cons.injEq,and_true] at hcs
  subst hcs
  have hE':∀ i,i<len->∃ t:α,∃ cs,W.cells? 0 (a.add (i * k)) k=some cs/\R cs t:=by
   intro i hi
   have:=hE i hi
   rw [hk,List.getElem?_eq_getElem (by omega),Option.bind_eq_some_iff] at this
   obtain ⟨cs,h1,h2⟩:=this
   obtain ⟨t,ht⟩:=hel n cs _ hf h2
   exact ⟨t,cs,h1,ht⟩
  obtain ⟨xs,hxl,hxs⟩:=vH _ len hE'
  subst hxl
  refine ⟨xs,some a,cap,rfl,hl,hc,?_⟩
  by_cases h0:xs.length=0
  ·exact .inl (List.eq_nil_of_length_eq_zero h0)
  ·obtain ⟨cs0,h1,_⟩:=hxs 0 (by omega)
   have e0:a.add (0 * k)=a:=by rw [Nat.zero_mul]; simp [Addr.add]
   rw [e0] at h1
   have hc0:∃ u,W.cell? a=some u:=by
    unfold World.cells? at h1
    rw [if_pos (Nat.zero_le _)] at h1
    have hl0:cs0.length=k:=by simpa using mapM_some_length h1
    have:=mapM_some_get h1 0 0 (by simp [hk0])
    rw [List.getElem?_eq_getElem (by omega)] at this
    have e1:a.add 0=a:=by simp [Addr.add]
    rw [e1] at this
    exact ⟨_,this⟩
   obtain ⟨u,hu0⟩:=hc0
   obtain ⟨b,o,c,E,fz,rfl,hb,_⟩:=KK hu0
   refine .inr ⟨b,o,c,E,fz,rfl,hb,fun i hi=>?_⟩
   obtain ⟨cs,h2,hR⟩:=hxs i hi
   rw [iW] at h2
   rw [Lc hb h2]
   exact hR
end

section
variable {H:Type} {enc:TypeId × Value->H} {W:World} {sp:Nat->Bool} {held:Bool}
end

theorem Inv.entry (W:World):Inv W [] [] (Eu W) W:=Inv.start (L:=[]) (by simp) (by simp [bz]) fun b o hb=>⟨hb,by simp [bz]⟩
theorem Inv.same {W W':World} {L:List Item} {S:ae} (h:Inv W [] L S W') (b:Nat) (hb:b<W.heap.size):W'.heap[b]?=W.heap[b]?:=h.old b hb (by simp)
theorem KN {W W':World} {may:MemPlace->Prop} (ho:W'.os=W.os) (hp:W'.output=W.output) (h:∀ b,b<W.heap.size->W'.heap[b]?=W.heap[b]?):W.keptBut W' may:=by
 refine ⟨ho,hp,fun i hi=>?_⟩
 rw [h i hi]
 split
 ·rename_i e1 e2
  rw [e1] at e2
  simp only [Option.some.injEq,Obj.cells.injEq] at e2
  obtain ⟨rfl,rfl,rfl⟩:=e2
  exact ⟨rfl,rfl,rfl,fun _ _=>rfl⟩
 ·rename_i e1 e2
  rw [e1] at e2
  simp only [Option.some.injEq,Obj.map.injEq] at e2
  obtain ⟨rfl,rfl⟩:=e2
  exact .inr ⟨rfl,rfl⟩
 ·rfl
end
section
open Go Go.RowKit
attribute [local irreducible] Run CondV ar aI
end
section
open Go Go.RowKit
attribute [local irreducible] Run CondV ar aI

mutual
def eqT:T->T->Bool
 | .mk k n s ks,.mk k' n' s' ks'=>decide (k=k') && (decide (n=n') && (decide (s=s') && eqL ks ks'))
def eqL:List T->List T->Bool
 | [],[]=>true
 | t::ts,u::us=>eqT t u && eqL ts us
 | _,_=>false
end
mutual
theorem Jz:∀ a b:T,eqT a b=true↔a=b
 | .mk k n s ks,.mk k' n' s' ks'=>by
  simp only [eqT,Bool.and_eq_true,decide_eq_true_eq,CE ks ks',T.mk.injEq]
theorem CE:∀ a b:List T,eqL a b=true↔a=b
 | [],[]=>by simp [eqL]
 | [],_::_=>by simp [eqL]
 | _::_,[]=>by simp [eqL]
 | t::ts,u::us=>by
  simp only [eqL,Bool.and_eq_true,Jz t u,CE ts us,List.cons.injEq]
end
theorem Jw:∀ {a b:List T},a.length≠b.length->eqL a b=false:=by
 intro a b h
 rw [<- Bool.not_eq_true,CE]
 rintro rfl
 exact h rfl
theorem MA {a b c d e:Value}:∀ (j:Nat) (v:Value),([a,b,c,d]:List Value)[j]?=some v->(#[a,b,c,d,e]:Array Value)[0+j]?=some v
 | 0,_,h|1,_,h|2,_,h|3,_,h=>h
 | j+4,_,h=>by simp at h
end
section
open Go Go.RowKit
attribute [local irreducible] Run CondV ar aI

theorem Run.toTerm {w w0:World} {X:List Nat} {L:List Item} {S:ae} {K:Value->World->Prop} {t:T} {cs:List Value} (hI:Inv w0 X L S w) (h:RdT S cs t) (hw:wT t<=1048576)
  (hk:∀ cs' S' w',Sle S S'->RdT S' cs' t->Inv w0 X L S' w'->K (.agg cs'.toArray) w'):Run Tryz.prog (ed (.func (.func qH) #[] #[]) [.agg cs.toArray]) w K:=by
 refine Run.call0 xj wR hI (sX _ S _ h hw) fun v' I' S' w'=>?_
 rintro ⟨rfl,cs',M,rfl,rfl,hT⟩ _ hI
 obtain ⟨S2,hI,hle,hins,_⟩:=Inv.publishAll M hI
 exact hk _ _ _ hle (hT.rd hins) hI
theorem Run.toTermS {w w0:World} {X:List Nat} {L:List Item} {S:ae} {K:Value->World->Prop} {p:List T} {v:Value} (hI:Inv w0 X L S w) (h:RdSl S 4 (RdT S) v p) (hw:p.length+wL p<=1048576)
  (hk:∀ v' S' w',Sle S S'->RdSl S' 4 (RdT S') v' p->Inv w0 X L S' w'->K v' w'):Run Tryz.prog (ed (.func (.func ow) #[] #[]) [v]) w K:=by
 refine Run.call0 sz rG hI (AD h hw) fun v' I' S' w'=>?_
 rintro ⟨rfl,M,rfl,hT⟩ _ hI
 obtain ⟨S2,hI,hle,hins,_⟩:=Inv.publishAll M hI
 exact hk _ _ _ hle (hT.rd hins fun _ _ _ hi h=>h.rd hi) hI
end
section
open Go Go.RowKit
section
variable {P:Program} {w w0:World} {X:List Nat} {L:List Item} {S:ae} {K:Value->World->Prop}
attribute [local irreducible] Run CondV ar aI
theorem PV {T:TypeId} {cx cy:Bool} {a b:Int} (hb:b≠0) (hk:K (.int .i64 (a.tmod b)) w):Run P (cq .rem T cx cy (.int .i64 a) (.int .i64 b)) w K:=
 Run.of (by simp [cq,cj,binOp,Op.intDiv,hb]) hk
theorem PR {T:TypeId} {cx cy:Bool} {a b:Int} (hb:b≠0) (hr:-9223372036854775808<=a.tdiv b/\a.tdiv b<=9223372036854775807) (hk:K (.int .i64 (a.tdiv b)) w):Run P (cq .quo T cx cy (.int .i64 a) (.int .i64 b)) w K:=
 Run.of (by simp [cq,cj,binOp,Op.intDiv,hb,IntWalk.i64_in _ hr]) hk
end

section
attribute [local irreducible] Run CondV ar aI
end
end
end Go.Proofs.YtbocelianhcfmaaGreatDoor

/- Goals, clauses, programs, queries: which are valid, on both sides. -/
import Derived.Test.YtcpgagfdeflbkaaGreatDoorZMv1
namespace Go.Proofs.YtcpgagfdeflbkaaGreatDoor
section
open Go Go.RowKit
attribute [local irreducible] Run CondV ao aI

def mM:List ByteArray:=[⟨#[61]⟩,⟨#[92,61]⟩,⟨#[61,61]⟩,⟨#[60]⟩,⟨#[62]⟩,⟨#[61,60]⟩,⟨#[62,61]⟩,⟨#[61,58,61]⟩,⟨#[105,115]⟩]
def lx:List ByteArray:=[⟨#[116,114,117,101]⟩,⟨#[102,97,105,108]⟩]
def pB:List ByteArray:=[⟨#[118,97,114]⟩,⟨#[110,111,110,118,97,114]⟩,⟨#[97,116,111,109]⟩,⟨#[105,110,116]⟩]
def rO:List ByteArray:=[⟨#[43]⟩,⟨#[45]⟩]
def jm:List ByteArray:=[⟨#[42]⟩,⟨#[47,47]⟩,⟨#[109,111,100]⟩]
def bV (s:ByteArray) (l:List ByteArray):Bool:=l.any fun x=>decide (s=x)
def dq (s:ByteArray) (n:Int):Bool:=
 if bV s mM=true then decide (n=2)
 else if bV s lx=true then decide (n=0)
 else if bV s pB=true then decide (n=1)
 else if s=⟨#[97,114,103]⟩ then decide (n=3)
 else false
def bE (s:ByteArray):Int:=if bV s mM=true then 3 else if bV s rO=true then 2 else if bV s jm=true then 1 else 0
def fC (t:T):Bool:=decide (t.kind=3) && (decide (t.name=⟨#[33]⟩) && decide (t.kids.length=0))
def JW (t:T):Bool:=decide (t.kind=3) && decide (t.kids.length=0)
def cn (t:T):Bool:=decide (t.kind=3) && dq t.name t.kids.length
def fP (t:T):Bool:=decide (t.kind=3) && (jt t.name && (!dq t.name t.kids.length && decide (bE t.name=0)))
def dM (t:T):Bool:=cZ t && (fC t || (fP t || cn t))
def bH (c:C):Bool:=decide (c.body.length<=6) && (c.body.all dM && (cZ c.head && fP c.head))
def cY (l:List T):Bool:=decide (l.length<=6) && l.all dM
def cS (p:List C):Bool:=decide (p.length<=20) && p.all bH
theorem IX (s:ByteArray):(!decide (0<bE s))=decide (bE s=0):=by
 unfold bE
 split
 ·rfl
 ·split
  ·rfl
  ·split <;> rfl

theorem kB (s:ByteArray) (n:Int) (S:ad):Pure Tryz.prog zE [.string s,.int .i64 n] S (.bool (dq s n)):=by
 intro w hI
 refine n7.2 ?_
 dsimp only[n7,aR]
 obtain ⟨q,hq⟩:∃ q,bV s mM=q:=⟨_,rfl⟩
 have hq1:=hq
 refine ⟨fun t w'=>t=.bool q/\Inv w [] [] S w',?_,?_⟩
 ·unfold bV mM at hq
  iterate 8
   refine bj ?_
   refine av (fun h=>⟨by rw [List.any_cons,h] at hq; rw [h,<- hq]; rfl,hI⟩) (fun h=>?_)
   rw [List.any_cons,h,Bool.false_or] at hq
  refine bj ⟨?_,hI⟩
  rw [<- hq]; simp
 intro t _ _ _ _ _ _ _ _ _ w'
 rintro ⟨rfl,hI⟩
 refine av (fun h=>?_) (fun h=>?_)
 ·exact ba (done hI (by rw [dq,if_pos (hq1.trans h)]))
 have e1:dq s n=if bV s lx=true then decide (n=0) else if bV s pB=true then decide (n=1) else if s=⟨#[97,114,103]⟩ then decide (n=3) else false:=by
  rw [dq,if_neg (by rw [hq1,h]; decide)]
 clear hq hq1 h
 obtain ⟨q,hq⟩:∃ q,bV s lx=q:=⟨_,rfl⟩
 have hq1:=hq
 refine ⟨fun t w'=>t=.bool q/\Inv w [] [] S w',?_,?_⟩
 ·unfold bV lx at hq
  refine bj ?_
  refine av (fun h=>⟨by rw [List.any_cons,h] at hq; rw [h,<- hq]; rfl,hI⟩) (fun h=>?_)
  rw [List.any_cons,h,Bool.false_or] at hq
  refine bj ⟨?_,hI⟩
  rw [<- hq]; simp
 intro _ t _ w'
 rintro ⟨rfl,hI⟩
 refine av (fun h=>?_) (fun h=>?_)
 ·exact ba (done hI (by rw [e1,if_pos (hq1.trans h)]))
 rw [if_neg (by rw [hq1,h]; decide)] at e1
 clear hq hq1 h
 obtain ⟨q,hq⟩:∃ q,bV s pB=q:=⟨_,rfl⟩
 have hq1:=hq
 refine ⟨fun t w'=>t=.bool q/\Inv w [] [] S w',?_,?_⟩
 ·unfold bV pB at hq
  iterate 3
   refine bj ?_
   refine av (fun h=>⟨by rw [List.any_cons,h] at hq; rw [h,<- hq]; rfl,hI⟩) (fun h=>?_)
   rw [List.any_cons,h,Bool.false_or] at hq
  refine bj ⟨?_,hI⟩
  rw [<- hq]; simp
 intro _ _ _ t _ w'
 rintro ⟨rfl,hI⟩
 refine av (fun h=>?_) (fun h=>?_)
 ·exact ba (done hI (by rw [e1,if_pos (hq1.trans h)]))
 rw [if_neg (by rw [hq1,h]; decide)] at e1
 refine bj ?_
 refine aH (fun h=>?_) (fun h=>?_)
 ·exact ba (done hI (by rw [e1,if_pos h]))
 ·exact done hI (by rw [e1,if_neg h])
theorem uf (s:ByteArray) (n:Int) (S:ad):Pure Tryz.prog zL [.string s,.int .i64 n] S (.bool (dq s n)):=by
 intro w hI
 refine nS.2 ?_
 dsimp only[nS,aR]
 obtain ⟨q,hq⟩:∃ q,bV s mM=q:=⟨_,rfl⟩
 have hq1:=hq
 refine ⟨fun t w'=>t=.bool q/\Inv w [] [] S w',?_,?_⟩
 ·unfold bV mM at hq
  iterate 8
   refine bj ?_
   refine av (fun h=>⟨by rw [List.any_cons,h] at hq; rw [h,<- hq]; rfl,hI⟩) (fun h=>?_)
   rw [List.any_cons,h,Bool.false_or] at hq
  refine bj ⟨?_,hI⟩
  rw [<- hq]; simp
 intro t _ _ _ _ _ _ _ _ _ w'
 rintro ⟨rfl,hI⟩
 refine av (fun h=>?_) (fun h=>?_)
 ·exact ba (done hI (by rw [dq,if_pos (hq1.trans h)]))
 have e1:dq s n=if bV s lx=true then decide (n=0) else if bV s pB=true then decide (n=1) else if s=⟨#[97,114,103]⟩ then decide (n=3) else false:=by
  rw [dq,if_neg (by rw [hq1,h]; decide)]
 clear hq hq1 h
 obtain ⟨q,hq⟩:∃ q,bV s lx=q:=⟨_,rfl⟩
 have hq1:=hq
 refine ⟨fun t w'=>t=.bool q/\Inv w [] [] S w',?_,?_⟩
 ·unfold bV lx at hq
  refine bj ?_
  refine av (fun h=>⟨by rw [List.any_cons,h] at hq; rw [h,<- hq]; rfl,hI⟩) (fun h=>?_)
  rw [List.any_cons,h,Bool.false_or] at hq
  refine bj ⟨?_,hI⟩
  rw [<- hq]; simp
 intro _ t _ w'
 rintro ⟨rfl,hI⟩
 refine av (fun h=>?_) (fun h=>?_)
 ·exact ba (done hI (by rw [e1,if_pos (hq1.trans h)]))
 rw [if_neg (by rw [hq1,h]; decide)] at e1
 clear hq hq1 h
 obtain ⟨q,hq⟩:∃ q,bV s pB=q:=⟨_,rfl⟩
 have hq1:=hq
 refine ⟨fun t w'=>t=.bool q/\Inv w [] [] S w',?_,?_⟩
 ·unfold bV pB at hq
  iterate 3
   refine bj ?_
   refine av (fun h=>⟨by rw [List.any_cons,h] at hq; rw [h,<- hq]; rfl,hI⟩) (fun h=>?_)
   rw [List.any_cons,h,Bool.false_or] at hq
  refine bj ⟨?_,hI⟩
  rw [<- hq]; simp
 intro _ _ _ t _ w'
 rintro ⟨rfl,hI⟩
 refine av (fun h=>?_) (fun h=>?_)
 ·exact ba (done hI (by rw [e1,if_pos (hq1.trans h)]))
 rw [if_neg (by rw [hq1,h]; decide)] at e1
 refine bj ?_
 refine aH (fun h=>?_) (fun h=>?_)
 ·exact ba (done hI (by rw [e1,if_pos h]))
 ·exact done hI (by rw [e1,if_neg h])

theorem cX (s:ByteArray) (S:ad):Pure Tryz.prog Eh [.string s] S (.int .i64 (bE s)):=by
 intro w hI
 refine qC.2 ?_
 dsimp only[qC,aC]
 obtain ⟨q,hq⟩:∃ q,bV s mM=q:=⟨_,rfl⟩
 have hq1:=hq
 refine ⟨fun t w'=>t=.bool q/\Inv w [] [] S w',?_,?_⟩
 ·unfold bV mM at hq
  iterate 8
   refine bj ?_
   refine av (fun h=>⟨by rw [List.any_cons,h] at hq; rw [h,<- hq]; rfl,hI⟩) (fun h=>?_)
   rw [List.any_cons,h,Bool.false_or] at hq
  refine bj ⟨?_,hI⟩
  rw [<- hq]; simp
 intro _ _ _ _ _ _ _ _ t _ w'
 rintro ⟨rfl,hI⟩
 refine av (fun h=>?_) (fun h=>?_)
 ·exact done hI (by rw [show bE s=3 from if_pos (hq1.trans h)] <;> rfl)
 have e1:bE s=if bV s rO=true then 2 else if bV s jm=true then 1 else 0:=by
  rw [bE,if_neg (by rw [hq1,h]; decide)]
 clear hq hq1 h
 obtain ⟨q,hq⟩:∃ q,bV s rO=q:=⟨_,rfl⟩
 have hq1:=hq
 refine ⟨fun t w'=>t=.bool q/\Inv w [] [] S w',?_,?_⟩
 ·unfold bV rO at hq
  refine bj ?_
  refine av (fun h=>⟨by rw [List.any_cons,h] at hq; rw [h,<- hq]; rfl,hI⟩) (fun h=>?_)
  rw [List.any_cons,h,Bool.false_or] at hq
  refine bj ⟨?_,hI⟩
  rw [<- hq]; simp
 intro _ t _ w'
 rintro ⟨rfl,hI⟩
 refine av (fun h=>?_) (fun h=>?_)
 ·exact done hI (by rw [show bE s=2 from e1.trans (if_pos (hq1.trans h))] <;> rfl)
 rw [if_neg (by rw [hq1,h]; decide)] at e1
 clear hq hq1 h
 obtain ⟨q,hq⟩:∃ q,bV s jm=q:=⟨_,rfl⟩
 have hq1:=hq
 refine ⟨fun t w'=>t=.bool q/\Inv w [] [] S w',?_,?_⟩
 ·unfold bV jm at hq
  iterate 2
   refine bj ?_
   refine av (fun h=>⟨by rw [List.any_cons,h] at hq; rw [h,<- hq]; rfl,hI⟩) (fun h=>?_)
   rw [List.any_cons,h,Bool.false_or] at hq
  refine bj ⟨?_,hI⟩
  rw [<- hq]; simp
 intro _ _ t _ w'
 rintro ⟨rfl,hI⟩
 refine av (fun h=>?_) (fun h=>?_)
 ·exact done hI (by rw [show bE s=1 from e1.trans (if_pos (hq1.trans h))] <;> rfl)
 ·exact done hI (by rw [show bE s=0 from e1.trans (if_neg (by rw [hq1,h]; decide))] <;> rfl)
theorem wv (s:ByteArray) (S:ad):Pure Tryz.prog Fi [.string s] S (.tuple #[.int .i64 (bE s),.bool (decide (bE s=1) || decide (bE s=2))]):=by
 intro w hI
 refine ru.2 ?_
 dsimp only[ru,aC]
 obtain ⟨q,hq⟩:∃ q,bV s mM=q:=⟨_,rfl⟩
 have hq1:=hq
 refine ⟨fun t w'=>t=.bool q/\Inv w [] [] S w',?_,?_⟩
 ·unfold bV mM at hq
  iterate 8
   refine bj ?_
   refine av (fun h=>⟨by rw [List.any_cons,h] at hq; rw [h,<- hq]; rfl,hI⟩) (fun h=>?_)
   rw [List.any_cons,h,Bool.false_or] at hq
  refine bj ⟨?_,hI⟩
  rw [<- hq]; simp
 intro _ _ _ _ _ _ _ _ t _ w'
 rintro ⟨rfl,hI⟩
 refine av (fun h=>?_) (fun h=>?_)
 ·exact done hI (by rw [show bE s=3 from if_pos (hq1.trans h)] <;> rfl)
 have e1:bE s=if bV s rO=true then 2 else if bV s jm=true then 1 else 0:=by
  rw [bE,if_neg (by rw [hq1,h]; decide)]
 clear hq hq1 h
 obtain ⟨q,hq⟩:∃ q,bV s rO=q:=⟨_,rfl⟩
 have hq1:=hq
 refine ⟨fun t w'=>t=.bool q/\Inv w [] [] S w',?_,?_⟩
 ·unfold bV rO at hq
  refine bj ?_
  refine av (fun h=>⟨by rw [List.any_cons,h] at hq; rw [h,<- hq]; rfl,hI⟩) (fun h=>?_)
  rw [List.any_cons,h,Bool.false_or] at hq
  refine bj ⟨?_,hI⟩
  rw [<- hq]; simp
 intro _ t _ w'
 rintro ⟨rfl,hI⟩
 refine av (fun h=>?_) (fun h=>?_)
 ·exact done hI (by rw [show bE s=2 from e1.trans (if_pos (hq1.trans h))] <;> rfl)
 rw [if_neg (by rw [hq1,h]; decide)] at e1
 clear hq hq1 h
 obtain ⟨q,hq⟩:∃ q,bV s jm=q:=⟨_,rfl⟩
 have hq1:=hq
 refine ⟨fun t w'=>t=.bool q/\Inv w [] [] S w',?_,?_⟩
 ·unfold bV jm at hq
  iterate 2
   refine bj ?_
   refine av (fun h=>⟨by rw [List.any_cons,h] at hq; rw [h,<- hq]; rfl,hI⟩) (fun h=>?_)
   rw [List.any_cons,h,Bool.false_or] at hq
  refine bj ⟨?_,hI⟩
  rw [<- hq]; simp
 intro _ _ t _ w'
 rintro ⟨rfl,hI⟩
 refine av (fun h=>?_) (fun h=>?_)
 ·exact done hI (by rw [show bE s=1 from e1.trans (if_pos (hq1.trans h))] <;> rfl)
 ·exact done hI (by rw [show bE s=0 from e1.trans (if_neg (by rw [hq1,h]; decide))] <;> rfl)

theorem DA {t:T} {S:ad} {cs:List Value} (h:RdT S cs t):Pure Tryz.prog Jp [.agg cs.toArray] S (.bool (fC t)):=by
 intro w hI
 obtain ⟨kv,rfl,_,_,hs,hks⟩:=RdT.iff.1 h
 obtain ⟨k,n,s,ks⟩:=t
 simp only [T.name,T.kids,T.kind,T.n] at hs hks ⊢
 refine yL.2 ?_
 dsimp only[yL,aC]
 refine bl hI fun b1 w' hI=>?_
 refine ae hI 0 rfl aP aF rfl ?_
 refine ba ?_
 rw [show fC (.mk k n s ks)=(decide (k=3) && (decide (s=⟨#[33]⟩) && decide (ks.length=0))) from rfl]
 cases h1:decide (k=3)
 ·refine rpG ?_
  exact done hI rfl
 ·refine rpG ?_
  refine ae hI 0 rfl aQ aK rfl ?_
  refine bj ?_
  cases h2:decide (s=⟨#[33]⟩)
  ·refine rpG ?_
   exact done hI rfl
  ·refine rpG ?_
   refine ae hI 0 rfl ar aj rfl ?_
   refine aD hks ag ?_
   refine ba ?_
   refine rpG ?_
   exact done hI (by simp)

theorem pw {t:T} {S:ad} {cs:List Value} (h:RdT S cs t):Pure Tryz.prog DK [.agg cs.toArray] S (.bool (fP t)):=by
 intro w hI
 obtain ⟨kv,rfl,_,_,hs,hks⟩:=RdT.iff.1 h
 obtain ⟨k,n,s,ks⟩:=t
 simp only [T.name,T.kids,T.kind,T.n] at hs hks ⊢
 refine qU.2 ?_
 dsimp only[qU,aC]
 refine bl hI fun b1 w' hI=>?_
 refine ae hI 0 rfl aP aF rfl ?_
 refine ba ?_
 rw [show fP (.mk k n s ks)=(decide (k=3) && (jt s && (!dq s ks.length && decide (bE s=0)))) from rfl]
 cases h1:decide (k=3)
 ·refine rpG ?_
  exact done hI rfl
 ·refine rpG ?_
  refine ae hI 0 rfl aQ aK rfl ?_
  refine Run.callPure vD vM hI (qB s hs S) fun w' hI=>?_
  cases h2:jt s
  ·refine rpG ?_
   exact done hI rfl
  ·refine rpG ?_
   refine ae hI 0 rfl aQ aK rfl ?_
   refine ae hI 0 rfl ar aj rfl ?_
   refine aD hks ag ?_
   refine Run.callPure nl ov hI (kB s _ S) fun w' hI=>?_
   refine bU ?_
   cases h3:dq s ks.length
   ·refine rpG ?_
    refine ae hI 0 rfl aQ aK rfl ?_
    refine Run.callPure dU dV hI (cX s S) fun w' hI=>?_
    refine ba ?_
    refine rpG ?_
    exact done hI rfl
   ·refine rpG ?_
    exact done hI rfl

theorem Cq {t:T} {S:ad} {cs:List Value} (h:RdT S cs t):Pure Tryz.prog Hb [.agg cs.toArray] S (.bool (fC t || (fP t || cn t))):=by
 intro w hI
 have h0:=h
 obtain ⟨kv,rfl,_,_,hs,hks⟩:=RdT.iff.1 h
 obtain ⟨k,n,s,ks⟩:=t
 simp only [T.name,T.kids,T.kind,T.n] at h0 hs hks ⊢
 refine uL.2 ?_
 dsimp only[uL,aC]
 refine bl hI fun b1 w' hI=>?_
 refine aw hI 0 ac rfl rfl ?_
 refine Run.callPure HH Ga hI (DA h0) fun w' hI=>?_
 cases h1:fC (.mk k n s ks)
 ·refine rpG ?_
  refine aw hI 0 ac rfl rfl ?_
  refine Run.callPure sr qM hI (pw h0) fun w' hI=>?_
  cases h2:fP (.mk k n s ks)
  ·refine rpG ?_
   refine ae hI 0 rfl aP aF rfl ?_
   refine ba ?_
   rw [show cn (.mk k n s ks)=(decide (k=3) && dq s ks.length) from rfl]
   cases h3:decide (k=3)
   ·refine rpG ?_
    exact done hI rfl
   ·refine rpG ?_
    refine ae hI 0 rfl aQ aK rfl ?_
    refine ae hI 0 rfl ar aj rfl ?_
    refine aD hks ag ?_
    refine Run.callPure nl ov hI (kB s _ S) fun w' hI=>?_
    refine rpG ?_
    exact done hI rfl
  ·refine rpG ?_
   exact done hI rfl
 ·refine rpG ?_
  exact done hI rfl

theorem Ii {t:T} (h:wT t<=1048576):dk t<=4611686018427387904:=by
 have:=Km t
 omega
theorem kD {t:T} {S:ad} {cs:List Value} (h:RdT S cs t) (hc:wT t<=1048576):Pure Tryz.prog Av [.agg cs.toArray] S (.bool (dM t)):=by
 intro w hI
 have hl:=h.length
 refine nX.2 ?_
 dsimp only[nX,aC]
 refine bl hI fun b1 w' hI=>?_
 refine aw hI 0 ac rfl (by simpa [Value.cells] using hl) ?_
 refine Run.callPure np nT hI (kT h (Ii hc)) fun w' hI=>?_
 rw [dM]
 cases h1:cZ t
 ·refine rpG ?_
  exact done hI rfl
 ·refine rpG ?_
  refine aw hI 0 ac rfl (by simpa [Value.cells] using hl) ?_
  refine Run.callPure Ex DS hI (Cq h) fun w' hI=>?_
  refine rpG ?_
  exact done hI rfl


theorem Dw {ts:List T} {t:T} (h:t∈ts):wT t<=wL ts:=by
 induction ts with
 | nil=>simp at h
 | cons u us ih=>
  rw [wL]
  rcases List.mem_cons.1 h with rfl|h
  ·omega
  ·have:=ih h; omega
theorem iR {c:C} {S:ad} {cs:List Value} (h:RdC S cs c) (hc:wC c<=1048576):Pure Tryz.prog wj [.agg cs.toArray] S (.bool (bH c)):=by
 intro w hI
 obtain ⟨hd,ks,rfl,h1,h2⟩:=h
 have h1':=h1
 obtain ⟨kv,rfl,g1,g2,g3,g4⟩:=RdT.iff.1 h1
 have hlen:=h2.le
 simp only [maxLen] at hlen
 unfold wC at hc
 refine kR.2 ?_
 dsimp only[kR,aC]
 refine bl hI fun b1 w' hI=>?_
 refine ⟨fun i w'=>∃ k:Nat,k<=c.body.length/\k<=7/\i=.int .i64 k/\(∀ j (h:j<c.body.length),j<k->dM c.body[j]=true)/\Inv w [] [.blk b1 (.cells #[.int .i64 c.head.kind,.int .i64 c.head.n,.string c.head.name,kv,ks] af)] S w',
  fun i _=>c.body.length - (intOf i).toNat,⟨0,Nat.zero_le _,by omega,rfl,fun j _ h=>by omega,hI⟩,?_⟩
 intro t3 _ _ _ _ _ _ _ _ _ _ _ _ _ _ _ _ _ _ _ w'
 rintro ⟨k,hk,hk7,rfl,hrel,hI⟩
 refine ⟨fun t w'=>t=.bool (decide (k<c.body.length/\k<=6))/\Inv w [] [.blk b1 (.cells #[.int .i64 c.head.kind,.int .i64 c.head.n,.string c.head.name,kv,ks] af)] S w',?_,?_⟩
 ·refine ae hI 0 rfl bf aj rfl ?_
  refine aD h2 ag ?_
  refine bC ?_
  by_cases hki:(k:Int)<c.body.length
  ·rw [decide_eq_true hki]
   refine rpG ?_
   refine dI ?_
   refine rpG ?_
   refine ⟨?_,hI⟩
   congr 1
   rw [Bool.eq_iff_iff]; simp; omega
  ·rw [decide_eq_false hki]
   refine rpG ?_
   exact ⟨by rw [decide_eq_false (by omega)],hI⟩
 intro t _ _ _ _ _ _ _ _ w'
 rintro ⟨rfl,hI⟩
 refine aH (fun hki=>?_) (fun hki=>?_)
 ·obtain ⟨hk',hk6⟩:=hki
  refine ae hI 0 rfl bf aj rfl ?_
  refine bM hI h2 ag ac hk' (fun _ _=>RdT.length) fun cs' hcs'=>?_
  have hwm:=Dw (List.getElem_mem hk')
  refine Run.callPure oy mZ hI (kD hcs' (by omega)) fun w' hI=>?_
  refine bU ?_
  refine av (fun hb=>done hI ?_) (fun hb=>?_)
  ·have hb':dM c.body[k]=false:=by simpa using hb
   have:c.body.all dM=false:=by
    rw [<- Bool.not_eq_true,List.all_eq_true]
    intro hall
    rw [hall _ (List.getElem_mem hk')] at hb'
    cases hb'
   rw [bH,this]
   simp
  ·have hb':dM c.body[k]=true:=by simpa using hb
   refine bi (by omega) ?_
   refine ⟨⟨k+1,hk',by omega,rfl,fun j hj hjk=>?_,hI⟩,by simp [intOf]; omega⟩
   by_cases e:j=k
   ·subst e; exact hb'
   ·exact hrel j hj (by omega)
 ·refine ae hI 0 rfl bf aj rfl ?_
  refine aD h2 ag ?_
  refine dI ?_
  rw [bH]
  by_cases hle:c.body.length<=6
  ·have hall:c.body.all dM=true:=by
    rw [List.all_eq_true]
    intro x hx
    obtain ⟨j,hj,rfl⟩:=List.getElem_of_mem hx
    exact hrel j hj (by omega)
   rw [decide_eq_true (show (c.body.length:Int)<=6 by omega),decide_eq_true hle,hall]
   refine rpG ?_
   refine aA bF ?_
   refine dw hI 0 [.int .i64 c.head.kind,.int .i64 c.head.n,.string c.head.name,kv] ac rfl rfl ?_ ?_
   ·intro j v hj
    match j with
    | 0|1|2|3=>exact hj
    | j+4=>simp at hj
   refine Run.callPure np nT hI (kT h1' (Ii (by omega))) fun w' hI=>?_
   cases hv:cZ c.head
   ·refine rpG ?_
    exact done hI rfl
   ·refine rpG ?_
    refine aA bF ?_
    refine dw hI 0 [.int .i64 c.head.kind,.int .i64 c.head.n,.string c.head.name,kv] ac rfl rfl ?_ ?_
    ·intro j v hj
     match j with
     | 0|1|2|3=>exact hj
     | j+4=>simp at hj
    refine Run.callPure sr qM hI (pw h1') fun w' hI=>?_
    refine rpG ?_
    exact done hI rfl
  ·rw [decide_eq_false (show ¬ (c.body.length:Int)<=6 by omega),decide_eq_false hle]
   refine rpG ?_
   exact done hI rfl

theorem qh {xs:List T} {S:ad} {v:Value} (h:RdSl S 4 (RdT S) v xs) (hc:wL xs<=1048576):Pure Tryz.prog xh [v] S (.bool (cY xs)):=by
 intro w hI
 have hlen:=h.le
 simp only [maxLen] at hlen
 refine mh.2 ?_
 dsimp only[mh,aC]
 refine ⟨fun i w'=>∃ k:Nat,k<=xs.length/\k<=6+1/\i=.int .i64 k/\(∀ j (h:j<xs.length),j<k->dM xs[j]=true)/\Inv w [] [] S w',
  fun i _=>xs.length - (intOf i).toNat,⟨0,Nat.zero_le _,by omega,rfl,fun j _ h=>by omega,hI⟩,?_⟩
 intro t3 _ _ _ _ _ _ _ _ _ _ _ _ _ _ _ _ _ w'
 rintro ⟨k,hk,hk7,rfl,hrel,hI⟩
 refine ⟨fun t w'=>t=.bool (decide (k<xs.length/\k<=6))/\Inv w [] [] S w',?_,?_⟩
 ·refine aD h ag ?_
  refine bC ?_
  by_cases hki:(k:Int)<xs.length
  ·rw [decide_eq_true hki]
   refine rpG ?_
   refine dI ?_
   refine rpG ?_
   refine ⟨?_,hI⟩
   congr 1
   rw [Bool.eq_iff_iff]; simp; omega
  ·rw [decide_eq_false hki]
   refine rpG ?_
   exact ⟨by rw [decide_eq_false (by omega)],hI⟩
 intro t _ _ _ _ _ _ _ w'
 rintro ⟨rfl,hI⟩
 refine aH (fun hki=>?_) (fun hki=>?_)
 ·obtain ⟨hk',hk6⟩:=hki
  refine bM hI h ag ac hk' (fun _ _=>RdT.length) fun cs' hcs'=>?_
  have hwm:=Dw (List.getElem_mem hk')
  refine Run.callPure oy mZ hI (kD hcs' (by omega)) fun w' hI=>?_
  refine bU ?_
  refine av (fun hb=>done hI ?_) (fun hb=>?_)
  ·have hb':dM xs[k]=false:=by simpa using hb
   have:xs.all dM=false:=by
    rw [<- Bool.not_eq_true,List.all_eq_true]
    intro hall
    rw [hall _ (List.getElem_mem hk')] at hb'
    cases hb'
   rw [cY,this,Bool.and_false]
  ·have hb':dM xs[k]=true:=by simpa using hb
   refine bi (by omega) ?_
   refine ⟨⟨k+1,hk',by omega,rfl,fun j hj hjk=>?_,hI⟩,by simp [intOf]; omega⟩
   by_cases e:j=k
   ·subst e; exact hb'
   ·exact hrel j hj (by omega)
 ·refine aD h ag ?_
  refine dI ?_
  rw [cY]
  refine done hI ?_
  by_cases hle:xs.length<=6
  ·have hall:xs.all dM=true:=by
    rw [List.all_eq_true]
    intro x hx
    obtain ⟨j,hj,rfl⟩:=List.getElem_of_mem hx
    exact hrel j hj (by omega)
   rw [decide_eq_true (show (xs.length:Int)<=6 by omega),decide_eq_true hle,hall]; rfl
  ·rw [decide_eq_false (show ¬ (xs.length:Int)<=6 by omega),decide_eq_false hle]; rfl
theorem nU {xs:List C} {S:ad} {v:Value} (h:RdSl S 5 (RdC S) v xs) (hc:wP xs<=1048576):Pure Tryz.prog tz [v] S (.bool (cS xs)):=by
 intro w hI
 have hlen:=h.le
 simp only [maxLen] at hlen
 refine jq.2 ?_
 dsimp only[jq,aC]
 refine ⟨fun i w'=>∃ k:Nat,k<=xs.length/\k<=20+1/\i=.int .i64 k/\(∀ j (h:j<xs.length),j<k->bH xs[j]=true)/\Inv w [] [] S w',
  fun i _=>xs.length - (intOf i).toNat,⟨0,Nat.zero_le _,by omega,rfl,fun j _ h=>by omega,hI⟩,?_⟩
 intro t3 _ _ _ _ _ _ _ _ _ _ _ _ _ _ _ _ _ w'
 rintro ⟨k,hk,hk7,rfl,hrel,hI⟩
 refine ⟨fun t w'=>t=.bool (decide (k<xs.length/\k<=20))/\Inv w [] [] S w',?_,?_⟩
 ·refine aD h aY ?_
  refine bC ?_
  by_cases hki:(k:Int)<xs.length
  ·rw [decide_eq_true hki]
   refine rpG ?_
   refine dI ?_
   refine rpG ?_
   refine ⟨?_,hI⟩
   congr 1
   rw [Bool.eq_iff_iff]; simp; omega
  ·rw [decide_eq_false hki]
   refine rpG ?_
   exact ⟨by rw [decide_eq_false (by omega)],hI⟩
 intro t _ _ _ _ _ _ _ w'
 rintro ⟨rfl,hI⟩
 refine aH (fun hki=>?_) (fun hki=>?_)
 ·obtain ⟨hk',hk6⟩:=hki
  refine bM hI h aY aO hk' (fun _ _=>RdC.length) fun cs' hcs'=>?_
  have hwm:=Dd (List.getElem_mem hk')
  refine Run.callPure kj j9 hI (iR hcs' (by omega)) fun w' hI=>?_
  refine bU ?_
  refine av (fun hb=>done hI ?_) (fun hb=>?_)
  ·have hb':bH xs[k]=false:=by simpa using hb
   have:xs.all bH=false:=by
    rw [<- Bool.not_eq_true,List.all_eq_true]
    intro hall
    rw [hall _ (List.getElem_mem hk')] at hb'
    cases hb'
   rw [cS,this,Bool.and_false]
  ·have hb':bH xs[k]=true:=by simpa using hb
   refine bi (by omega) ?_
   refine ⟨⟨k+1,hk',by omega,rfl,fun j hj hjk=>?_,hI⟩,by simp [intOf]; omega⟩
   by_cases e:j=k
   ·subst e; exact hb'
   ·exact hrel j hj (by omega)
 ·refine aD h aY ?_
  refine dI ?_
  rw [cS]
  refine done hI ?_
  by_cases hle:xs.length<=20
  ·have hall:xs.all bH=true:=by
    rw [List.all_eq_true]
    intro x hx
    obtain ⟨j,hj,rfl⟩:=List.getElem_of_mem hx
    exact hrel j hj (by omega)
   rw [decide_eq_true (show (xs.length:Int)<=20 by omega),decide_eq_true hle,hall]; rfl
  ·rw [decide_eq_false (show ¬ (xs.length:Int)<=20 by omega),decide_eq_false hle]; rfl

theorem Hz (s:ByteArray) (S:ad):Pure Tryz.prog Kw [.string s] S (.bool (decide (0<bE s))):=by
 intro w hI
 refine Be.2 ?_
 dsimp only[Be,aC]
 refine Run.callPure CB BW hI (wv s S) fun w' hI=>?_
 refine ai rfl ?_
 refine ai rfl ?_
 refine dK ?_
 exact done hI rfl
theorem jM {t:T} {S:ad} {cs:List Value} (h:RdT S cs t):Pure Tryz.prog EW [.agg cs.toArray] S (.bool (cn t)):=by
 intro w hI
 obtain ⟨kv,rfl,_,_,hs,hks⟩:=RdT.iff.1 h
 obtain ⟨k,n,s,ks⟩:=t
 simp only [T.name,T.kids,T.kind,T.n] at hs hks ⊢
 refine r4.2 ?_
 dsimp only[r4,aC]
 refine bl hI fun b1 w' hI=>?_
 refine ae hI 0 rfl aP aF rfl ?_
 refine ba ?_
 rw [show cn (.mk k n s ks)=(decide (k=3) && dq s ks.length) from rfl]
 cases h3:decide (k=3)
 ·refine rpG ?_
  exact done hI rfl
 ·refine rpG ?_
  refine ae hI 0 rfl aQ aK rfl ?_
  refine ae hI 0 rfl ar aj rfl ?_
  refine aD hks ag ?_
  refine Run.callPure xr xm hI (uf s _ S) fun w' hI=>?_
  refine rpG ?_
  exact done hI rfl
theorem pD {t:T} {S:ad} {cs:List Value} (h:RdT S cs t):Pure Tryz.prog Ea [.agg cs.toArray] S (.bool (fP t)):=by
 intro w hI
 have h0:=h
 obtain ⟨kv,rfl,_,_,hs,hks⟩:=RdT.iff.1 h
 obtain ⟨k,n,s,ks⟩:=t
 simp only [T.name,T.kids,T.kind,T.n] at h0 hs hks ⊢
 refine rI.2 ?_
 dsimp only[rI,aC]
 refine bl hI fun b1 w' hI=>?_
 refine ae hI 0 rfl aP aF rfl ?_
 refine ba ?_
 have hb:cn (.mk k n s ks)=(decide (k=3) && dq s ks.length):=rfl
 rw [show fP (.mk k n s ks)=(decide (k=3) && (jt s && (!dq s ks.length && decide (bE s=0)))) from rfl]
 cases h1:decide (k=3)
 ·refine rpG ?_
  exact done hI rfl
 ·rw [h1] at hb
  refine rpG ?_
  refine ae hI 0 rfl aQ aK rfl ?_
  refine Run.callPure oE oe hI (mv s hs S) fun w' hI=>?_
  cases h2:jt s
  ·refine rpG ?_
   exact done hI rfl
  ·refine rpG ?_
   refine ae hI 0 rfl aQ aK rfl ?_
   refine Run.callPure Jz Jm hI (Hz s S) fun w' hI=>?_
   refine bU ?_
   rw [IX]
   cases h3:decide (bE s=0)
   ·refine rpG ?_
    exact done hI (by simp)
   ·refine rpG ?_
    refine aw hI 0 ac rfl rfl ?_
    refine Run.callPure lu lL hI (jM h0) fun w' hI=>?_
    refine bU ?_
    refine rpG ?_
    exact done hI (by rw [hb]; simp)
theorem sm {t:T} {S:ad} {cs:List Value} (h:RdT S cs t):Pure Tryz.prog Gh [.agg cs.toArray] S (.bool (JW t)):=by
 intro w hI
 obtain ⟨kv,rfl,_,_,hs,hks⟩:=RdT.iff.1 h
 obtain ⟨k,n,s,ks⟩:=t
 simp only [T.name,T.kids,T.kind,T.n] at hs hks ⊢
 refine uF.2 ?_
 dsimp only[uF,aC]
 refine bl hI fun b1 w' hI=>?_
 refine ae hI 0 rfl aP aF rfl ?_
 refine ba ?_
 rw [show JW (.mk k n s ks)=(decide (k=3) && decide (ks.length=0)) from rfl]
 cases h3:decide (k=3)
 ·refine rpG ?_
  exact done hI rfl
 ·refine rpG ?_
  refine ae hI 0 rfl ar aj rfl ?_
  refine aD hks ag ?_
  refine ba ?_
  refine rpG ?_
  exact done hI (by simp)
theorem vd {t:T} {S:ad} {cs:List Value} (h:RdT S cs t):Pure Tryz.prog Jl [.agg cs.toArray] S (.bool (fC t)):=by
 intro w hI
 have h0:=h
 obtain ⟨kv,rfl,_,_,hs,hks⟩:=RdT.iff.1 h
 obtain ⟨k,n,s,ks⟩:=t
 simp only [T.name,T.kids,T.kind,T.n] at h0 hs hks ⊢
 refine yi.2 ?_
 dsimp only[yi,aC]
 refine bl hI fun b1 w' hI=>?_
 refine aw hI 0 ac rfl rfl ?_
 refine Run.callPure vA uA hI (sm h0) fun w' hI=>?_
 rw [show fC (.mk k n s ks)=(decide (k=3) && (decide (s=⟨#[33]⟩) && decide (ks.length=0))) from rfl]
 cases h1:JW (.mk k n s ks)
 ·refine rpG ?_
  refine done hI ?_
  replace h1:(decide (k=3) && decide (ks.length=0))=false:=h1
  cases h2:decide (k=3)
  ·rfl
  ·rw [h2,Bool.true_and] at h1
   rw [h1,Bool.and_false]; rfl
 ·refine rpG ?_
  refine ae hI 0 rfl aQ aK rfl ?_
  refine bj ?_
  refine rpG ?_
  refine done hI ?_
  replace h1:(decide (k=3) && decide (ks.length=0))=true:=h1
  rw [Bool.and_eq_true] at h1
  rw [h1.1,h1.2]; simp
theorem tx {t:T} {S:ad} {cs:List Value} (h:RdT S cs t):Pure Tryz.prog zv [.agg cs.toArray] S (.bool (dM t)):=by
 intro w hI
 have hl:=h.length
 refine oi.2 ?_
 dsimp only[oi,aC]
 refine bl hI fun b1 w' hI=>?_
 refine aw hI 0 ac rfl (by simpa [Value.cells] using hl) ?_
 refine Run.callPure nu ni hI (kS h) fun w' hI=>?_
 rw [dM]
 cases h1:cZ t
 ·refine rpG ?_
  exact done hI rfl
 ·refine rpG ?_
  refine aw hI 0 ac rfl (by simpa [Value.cells] using hl) ?_
  refine Run.callPure sf sx hI (pD h) fun w' hI=>?_
  cases h2:fP t
  ·refine rpG ?_
   refine aw hI 0 ac rfl (by simpa [Value.cells] using hl) ?_
   refine Run.callPure lu lL hI (jM h) fun w' hI=>?_
   cases h3:cn t
   ·refine rpG ?_
    refine aw hI 0 ac rfl (by simpa [Value.cells] using hl) ?_
    refine Run.callPure yk yO hI (vd h) fun w' hI=>?_
    refine rpG ?_
    exact done hI (by simp)
   ·refine rpG ?_
    exact done hI (by simp)
  ·refine rpG ?_
   exact done hI (by simp)

theorem Df {α:Type} (p:α->Bool):∀ xs:List α,(!xs.any fun x=>!p x)=xs.all p
 | []=>rfl
 | x::xs=>by
  rw [List.any_cons,List.all_cons,<- Df p xs]
  cases p x <;> simp

theorem o3 {x:T} {S:ad} {cs:List Value} (h:RdT S cs x):Pure Tryz.prog jY [.agg cs.toArray] S (.bool (!dM x)):=by
 intro w hI
 have hl:=h.length
 refine je.2 ?_
 dsimp only[je,aC]
 refine bl hI fun b1 w' hI=>?_
 refine aw hI 0 ac rfl (by simpa [Value.cells] using hl) ?_
 refine Run.callPure yD xR hI (tx h) fun w' hI=>?_
 refine bU (done hI rfl)
theorem jl {xs:List T} {S:ad} {v:Value} (h:RdSl S 4 (RdT S) v xs):Pure Tryz.prog xS [v] S (.bool (cY xs)):=by
 intro w hI
 refine mq.2 ?_
 dsimp only[mq,aC]
 refine aD h ag ?_
 refine dI ?_
 rw [cY]
 by_cases hle:xs.length<=6
 ·rw [decide_eq_true (show (xs.length:Int)<=6 by omega),decide_eq_true hle]
  refine rpG ?_
  have hcb:Cb Tryz.prog jY _ [] S (fun _:Unit=>[]) (fun _=>True) (fun _ x=>(!dM x,())) (fun v x=>∃ cs,v=.agg cs.toArray/\RdT S cs x) xs:=
   Cb.pure [] rb sU fun x v _=>by
    rintro ⟨cs,rfl,hcs⟩ w1 hI
    exact (o3 hcs w1 hI).mono fun e w' ⟨he,hI⟩=>⟨_,_,_,he,hI,Ext.refl _ _ _,rfl,rfl,rfl⟩
  refine Run.call0 dT dY hI (gG hcb h (st:=()) trivial) fun v' I' S' w'=>?_
  rintro ⟨rfl,rfl,rfl⟩ _ hI
  refine bU ?_
  refine rpG ?_
  refine done hI ?_
  rw [kf (fun x=>!dM x) xs,Df]; rfl
 ·rw [decide_eq_false (show ¬ (xs.length:Int)<=6 by omega),decide_eq_false hle]
  refine rpG ?_
  exact done hI rfl
theorem qc {c:C} {S:ad} {cs:List Value} (h:RdC S cs c):Pure Tryz.prog vU [.agg cs.toArray] S (.bool (bH c)):=by
 intro w hI
 obtain ⟨hd,ks,rfl,h1,h2⟩:=h
 have h1':=h1
 obtain ⟨kv,rfl,g1,g2,g3,g4⟩:=RdT.iff.1 h1
 have hfin:bH c=(cZ c.head && (fP c.head && cY c.body)):=by
  unfold bH cY
  cases cZ c.head <;> cases fP c.head <;> simp
 refine k0.2 ?_
 dsimp only[k0,aC]
 rw [hfin]
 refine bl hI fun b1 w' hI=>?_
 refine aA bF ?_
 refine dw hI 0 [.int .i64 c.head.kind,.int .i64 c.head.n,.string c.head.name,kv] ac rfl rfl ?_ ?_
 ·intro j v hj
  match j with
  | 0|1|2|3=>exact hj
  | j+4=>simp at hj
 refine Run.callPure nu ni hI (kS h1') fun w' hI=>?_
 cases hv:cZ c.head
 ·refine rpG ?_
  exact done hI rfl
 ·refine rpG ?_
  refine aA bF ?_
  refine dw hI 0 [.int .i64 c.head.kind,.int .i64 c.head.n,.string c.head.name,kv] ac rfl rfl ?_ ?_
  ·intro j v hj
   match j with
   | 0|1|2|3=>exact hj
   | j+4=>simp at hj
  refine Run.callPure sf sx hI (pD h1') fun w' hI=>?_
  cases hp:fP c.head
  ·refine rpG ?_
   exact done hI rfl
  ·refine rpG ?_
   refine ae hI 0 rfl bf aj rfl ?_
   refine Run.callPure l7 md hI (jl h2) fun w' hI=>?_
   refine rpG ?_
   exact done hI rfl

theorem mR {x:C} {S:ad} {cs:List Value} (h:RdC S cs x):Pure Tryz.prog io [.agg cs.toArray] S (.bool (!bH x)):=by
 intro w hI
 have hl:=h.length
 refine gY.2 ?_
 dsimp only[gY,aC]
 refine bl hI fun b1 w' hI=>?_
 refine aw hI 0 aO rfl (by simpa [Value.cells] using hl) ?_
 refine Run.callPure tQ tJ hI (qc h) fun w' hI=>?_
 refine bU (done hI rfl)
theorem gU {xs:List C} {S:ad} {v:Value} (h:RdSl S 5 (RdC S) v xs):Pure Tryz.prog tw [v] S (.bool (cS xs)):=by
 intro w hI
 refine jo.2 ?_
 dsimp only[jo,aC]
 refine aD h aY ?_
 refine dI ?_
 rw [cS]
 by_cases hle:xs.length<=20
 ·rw [decide_eq_true (show (xs.length:Int)<=20 by omega),decide_eq_true hle]
  refine rpG ?_
  have hcb:Cb Tryz.prog io _ [] S (fun _:Unit=>[]) (fun _=>True) (fun _ x=>(!bH x,())) (fun v x=>∃ cs,v=.agg cs.toArray/\RdC S cs x) xs:=
   Cb.pure [] o6 o9 fun x v _=>by
    rintro ⟨cs,rfl,hcs⟩ w1 hI
    exact (mR hcs w1 hI).mono fun e w' ⟨he,hI⟩=>⟨_,_,_,he,hI,Ext.refl _ _ _,rfl,rfl,rfl⟩
  refine Run.call0 jV jN hI (ly hcb h (st:=()) trivial) fun v' I' S' w'=>?_
  rintro ⟨rfl,rfl,rfl⟩ _ hI
  refine bU ?_
  refine rpG ?_
  refine done hI ?_
  rw [kf (fun x=>!bH x) xs,Df]; rfl
 ·rw [decide_eq_false (show ¬ (xs.length:Int)<=20 by omega),decide_eq_false hle]
  refine rpG ?_
  exact done hI rfl
theorem s0 {xs:List T} {S:ad} {v:Value} (h:RdSl S 4 (RdT S) v xs):Pure Tryz.prog wV [v] S (.bool (cY xs)):=by
 intro w hI
 refine mr.2 ?_
 dsimp only[mr,aC]
 refine Run.callPure l7 md hI (jl h) fun w' hI=>done hI rfl
end
section
open Go Go.RowKit
attribute [local irreducible] Run CondV ao aI

def RowRd (S:ad) (v:Value) (e:TypeId) (k n:Nat) (xs:List Value):Prop:=
 xs.length=n * k/\((v=.slice none 0 0/\n=0) ∨ ∃ g cap cur,v=.slice (some ⟨g,0,none⟩) n cap/\S g=some (.cells cur e)/\n<=cap/\cap<=maxLen/\cur.size=cap * k/\cur.toList.take (n * k)=xs)
theorem Inv.lend {w0 w:World} {X:List Nat} {A:List Item} {S:ad} {v:Value} {e:TypeId} {k n:Nat} {xs:List Value} (h:Inv w0 X (A++[.row v e k n xs]) S w) :
  ∃ S',Sle S S'/\RowRd S' v e k n xs/\Inv w0 X A S' w/\∀ B w',Inv w0 X B S' w'->Inv w0 X (B++[.row v e k n xs]) S w':=by
 have hm:w.ownsRow 0 e k v n xs:=h.its (.row v e k n xs) (by simp)
 obtain ⟨hl,hm⟩:=hm
 rcases hm with ⟨rfl,rfl⟩|⟨g,cap,cur,rfl,_,hg,hnc,hcm,hcs,ht⟩
 ·have:xs=[]:=List.eq_nil_of_length_eq_zero (by rw [hl,Nat.zero_mul])
  subst this
  exact ⟨S,Sle.refl S,⟨hl,.inl ⟨rfl,rfl⟩⟩,h.sub (List.sublist_append_left _ _),fun B w' hB=>hB.rowNil e k⟩
 ·have hf:bp (A++[Item.blk g (.cells cur e)])=bp (A++[Item.row (.slice (some ⟨g,0,none⟩) n cap) e k n xs]):=by
   simp [bp,Item.foot,Value.ownBlock]
  have hg':g∈bp (A++[Item.row (.slice (some ⟨g,0,none⟩) n cap) e k n xs]):=by simp [bp,Item.foot,Value.ownBlock]
  have h':Inv w0 X (A++[Item.blk g (.cells cur e)]) S w:=by
   refine ⟨h.size,h.os,h.tape,h.output,h.old,fun it hit=>?_,by rw [hf]; exact h.nd,by rw [hf]; exact h.new,by rw [hf]; exact h.pub⟩
   rcases List.mem_append.1 hit with hit|hit
   ·exact h.its it (List.mem_append_left _ hit)
   ·simp at hit
    subst hit
    exact hg
  obtain ⟨h1,h2⟩:=h'.publishLast
  refine ⟨kU S g (.cells cur e),h2,⟨hl,.inr ⟨g,cap,cur,rfl,by simp [kU],hnc,hcm,hcs,ht⟩⟩,h1,fun B w' hB=>?_⟩
  have hpg:=hB.pub g (.cells cur e) (by simp [kU])
  have hfB:bp (B++[Item.row (.slice (some ⟨g,0,none⟩) n cap) e k n xs])=bp B++[g]:=by simp [bp,Item.foot,Value.ownBlock]
  refine ⟨hB.size,hB.os,hB.tape,hB.output,hB.old,fun it hit=>?_,?_,?_,?_⟩
  ·rcases List.mem_append.1 hit with hit|hit
   ·exact hB.its it hit
   ·simp at hit
    subst hit
    exact ⟨hl,.inr ⟨g,cap,cur,rfl,Nat.zero_le _,hpg.1,hnc,hcm,hcs,ht⟩⟩
  ·rw [hfB,List.nodup_append]
   refine ⟨hB.nd,by simp,fun a ha b hb=>?_⟩
   simp at hb
   subst hb
   intro e'
   subst e'
   exact hpg.2 ha
  ·intro c hc
   rw [hfB] at hc
   rcases List.mem_append.1 hc with hc|hc
   ·exact hB.new c hc
   ·simp at hc
    subst hc
    exact h.new _ hg'
  ·intro c o hc
   have hne:c≠g:=fun e'=>by
    subst e'
    exact (h.pub c o hc).2 hg'
   have:=hB.pub c o (by simp only [kU]; rw [if_neg hne]; exact hc)
   refine ⟨this.1,?_⟩
   rw [hfB]
   intro hc'
   rcases List.mem_append.1 hc' with hc'|hc'
   ·exact this.2 hc'
   ·simp at hc'
    exact hne hc'
theorem B0 {α:Type} (f:α->List Value) (k:Nat) (hf:∀ y,(f y).length=k):∀ (ys:List α) (i:Nat) (h:i<ys.length),((ys.flatMap f).drop (i * k)).take k=f ys[i]
 | [],i,h=>by simp at h
 | y::ys,0,h=>by
  rw [List.flatMap_cons,Nat.zero_mul,List.drop_zero,List.take_append_of_le_length (by rw [hf]; exact Nat.le_refl _),List.take_of_length_le (by rw [hf]; exact Nat.le_refl _)]
  rfl
 | y::ys,i+1,h=>by
  rw [List.flatMap_cons,Nat.succ_mul,Nat.add_comm,<- List.drop_drop,List.drop_left' (hf y)]
  exact B0 f k hf ys i (by simpa using h)
theorem zc {α:Type} (f:α->List Value) (k:Nat) (hf:∀ y,(f y).length=k):∀ ys:List α,(ys.flatMap f).length=ys.length * k
 | []=>by simp
 | y::ys=>by rw [List.flatMap_cons,List.length_append,hf,zc f k hf ys,List.length_cons,Nat.succ_mul,Nat.add_comm]
theorem RowRd.rd {α:Type} {S:ad} {v:Value} {e:TypeId} {k:Nat} {f:α->List Value} {R:List Value->α->Prop} {ys:List α} (hf:∀ y,(f y).length=k) (hR:∀ y∈ys,R (f y) y)
  (h:RowRd S v e k ys.length (ys.flatMap f)):RdSl S k R v ys:=by
 obtain ⟨hl,h⟩:=h
 rcases h with ⟨rfl,h0⟩|⟨g,cap,cur,rfl,hS,hnc,hcm,hcs,ht⟩
 ·have:ys=[]:=List.eq_nil_of_length_eq_zero h0
  subst this
  exact ⟨none,0,rfl,Nat.le_refl _,Nat.zero_le _,.inl rfl⟩
 ·refine ⟨_,cap,rfl,hnc,hcm,.inr ⟨g,0,cur,e,(0,0),rfl,hS,fun i hi=>?_⟩⟩
  have:=B0 f k hf ys i hi
  have hik:i * k+k<=ys.length * k:=by rw [<- Nat.succ_mul]; exact Nat.mul_le_mul_right k hi
  rw [<- ht,List.drop_take,List.take_take,Nat.min_eq_left (by omega)] at this
  rw [aV,Nat.zero_add,this]
  exact hR _ (List.getElem_mem hi)

def ints (ns:List Int):List Value:=ns.flatMap fun n=>[.int .i64 n]
abbrev dl (v:Value) (ns:List Int):Item:=.row v bG 1 ns.length (ints ns)
theorem tU (ns:List Int) (n:Int):ints ns++[.int .i64 n]=ints (ns++[n]):=by simp [ints]
theorem RowRd.ints {S:ad} {v:Value} {e:TypeId} {ns:List Int} (h:RowRd S v e 1 ns.length (ints ns)):RdSl S 1 jW v ns:=
 RowRd.rd (f:=fun n=>[Value.int .i64 n]) (fun _=>rfl) (fun _ _=>rfl) h
def Lx (l:List Int) (n:Int):Bool:=l.any fun x=>decide (n=x)
def pX (l:List Int) (n:Int):List Int:=if Lx l n=true then l else l++[n]
theorem HR (l:List Int) (n:Int):(pX l n).length<=l.length+1:=by
 unfold pX
 split <;> simp

theorem mF (s:Int) {xs:List Int} {S:ad} {v:Value} (h:RdSl S 1 jW v xs) :
  Pure Tryz.prog Ap [v,.int .i64 s] S (.int .i64 (bR (σ:=Unit) (fun _ x=>(decide (s=x),())) () xs 0).1):=by
 intro w hI
 have hlen:=h.le
 simp only [maxLen] at hlen
 refine nw.2 ?_
 dsimp only[nw,aR]
 refine aD h dd ?_
 refine ⟨fun i w'=>∃ k:Nat,k<=xs.length/\i=.int .i64 k/\bR (σ:=Unit) (fun _ x=>(decide (s=x),())) () (xs.drop k) k=bR (σ:=Unit) (fun _ x=>(decide (s=x),())) () xs 0/\Inv w [] [] S w',
  fun i _=>xs.length - (intOf i).toNat,⟨0,Nat.zero_le _,rfl,rfl,hI⟩,?_⟩
 intro t8 _ _ _ _ _ _ _ _ _ _ _ _ w'
 rintro ⟨k,hk,rfl,hrel,hI⟩
 refine bC ?_
 refine aH (fun hki=>?_) (fun hki=>?_)
 ·have hk':k<xs.length:=by omega
  rw [List.drop_eq_getElem_cons hk',bR] at hrel
  refine gn hI h dd aF hk' (fun cs hcs=>hcs) ?_
  refine ba ?_
  refine aH (fun he=>done hI ?_) (fun he=>?_)
  ·rw [<- hrel,if_pos (by simpa using he)]
  ·refine bi (by omega) ?_
   rw [if_neg (by simpa using he)] at hrel
   exact ⟨⟨k+1,hk',rfl,hrel,hI⟩,by simp [intOf]; omega⟩
 ·have:k=xs.length:=by omega
  subst this
  rw [List.drop_length,bR] at hrel
  exact done hI (by rw [<- hrel])
theorem p7 (s:Int) {xs:List Int} {S:ad} {v:Value} (h:RdSl S 1 jW v xs):Pure Tryz.prog tW [v,.int .i64 s] S (.bool (Lx xs s)):=by
 intro w hI
 refine jB.2 ?_
 dsimp only[jB,aR]
 refine Run.callPure oh nZ hI (mF s h) fun w' hI=>?_
 refine li (done hI ?_)
 rw [(iF _ xs () 0).1,kf]; rfl
end
section
open Go Go.RowKit
attribute [local irreducible] Run CondV ao aI

mutual
def sK:T->List Int->List Int
 | .mk k n _ ks,l=>dp ks (if k=1 then pX l n else l)
def dp:List T->List Int->List Int
 | [],l=>l
 | t::ts,l=>dp ts (sK t l)
end
mutual
def Hm:T->List Int->List Int
 | .mk k n _ ks,l=>if k=1 then pX l n else jI ks l
def jI:List T->List Int->List Int
 | [],l=>l
 | t::ts,l=>jI ts (Hm t l)
end
mutual
theorem xW:∀ (t:T) (l:List Int),((sK t l).length:Int)<=l.length+dk t
 | .mk k n s ks,l=>by
  rw [sK,show dk (T.mk k n s ks)=1+co ks from rfl]
  have h1:=HR l n
  have:=sL ks (if k=1 then pX l n else l)
  split at this <;> rename_i hk <;> simp only [hk,if_true,if_false] at this ⊢ <;> omega
theorem sL:∀ (ts:List T) (l:List Int),((dp ts l).length:Int)<=l.length+co ts
 | [],l=>by simp [dp,co]
 | t::ts,l=>by
  rw [dp,show co (t::ts)=dk t+co ts from rfl]
  have:=xW t l
  have:=sL ts (sK t l)
  omega
end
theorem vI {t:T} (h:cZ t=true):eU t 30=true:=by
 rw [cZ,Bool.and_eq_true] at h
 exact h.1
abbrev Lo (S:ad) (r:List Int):Value->List Item->ad->Prop:=fun v I' S'=>I'=[dl v r]/\S'=S

theorem Ah:∀ (t:T) (S:ad) (cs:List Value) (v:Value) (l:List Int),RdT S cs t->l.length+dk t<=1000000000->Tri Tryz.prog Es [.agg cs.toArray,v] [dl v l] S (Lo S (sK t l)):=by
 refine T.ind fun k n s ks ih S cs v l h hl=>?_
 intro w hI
 obtain ⟨kv,rfl,_,_,hs,hks⟩:=RdT.iff.1 h
 simp only [T.name,T.kids,T.kind,T.n] at hs hks ⊢
 have hlen:=hks.le
 simp only [maxLen] at hlen
 rw [show dk (T.mk k n s ks)=1+co ks from rfl] at hl
 have hcp:=d3 ks
 have hal:=HR l n
 refine ry.2 ?_
 dsimp only[ry,aR]
 refine bl hI fun b2 w' hI=>?_
 have hI:=hI.perm (M:=[.blk b2 (.cells #[.int .i64 k,.int .i64 n,.string s,kv] ab),dl v l]) (List.Perm.swap _ _ _)
 refine ⟨fun t w'=>Inv w (bp [dl v l]) [.blk b2 (.cells #[.int .i64 k,.int .i64 n,.string s,kv] ab),dl t (if k=1 then pX l n else l)] S w',?_,?_⟩
 ·refine ⟨fun t w'=>t=.bool (decide (k=1) && !Lx l n)/\Inv w (bp [dl v l]) [.blk b2 (.cells #[.int .i64 k,.int .i64 n,.string s,kv] ab),dl v l] S w',?_,?_⟩
  ·refine ae hI 0 rfl aP aF rfl ?_
   refine ba ?_
   cases h1:decide (k=1)
   ·refine rpG ?_
    exact ⟨rfl,hI⟩
   ·refine rpG ?_
    refine ae hI 0 rfl bb aF rfl ?_
    obtain ⟨S1,hle,hrd,hI,hback⟩:=Inv.lend (A:=[_]) hI
    refine Run.callPure sG sq hI (p7 n hrd.ints) fun w' hI=>?_
    refine bU ?_
    refine rpG ?_
    exact ⟨rfl,hback _ _ hI⟩
  intro t16 _ _ _ _ _ _ _ _ _ w'
  rintro ⟨rfl,hI⟩
  refine av (fun hb=>?_) (fun hb=>?_)
  ·simp only [Bool.and_eq_true,decide_eq_true_eq,Bool.not_eq_true'] at hb
   refine ae hI 0 rfl bb aF rfl ?_
   refine du hI oL rfl (by omega) (by omega) fun b w' hI=>?_
   refine cN hI 1 (k:=1) [.int .i64 n] oL (by omega) rfl rfl ?_ ?_ (by omega) (by omega) fun v' w' hI=>?_
   ·intro j u hj
    rw [hI.cellL (i:=2) rfl]
    match j with
    | 0=>simpa [Value.cells] using hj
    | j+1=>simp at hj
   ·simp [Value.oneCell']
   ·rw [tU] at hI
    have hI:=hI.pick [true,true,false]
    rw [if_pos hb.1,pX,if_neg (by rw [hb.2]; decide)]
    have e:Item.row v' bG 1 (l.length+1) (ints (l++[n]))=dl v' (l++[n]):=by simp [dl]
    rw [show List.length l+1=l.length+1 from rfl,e] at hI
    exact hI
  ·have:(if k=1 then pX l n else l)=l:=by
    split
    ·rename_i hk
     rw [pX]
     simp [hk] at hb
     rw [if_pos hb]
    ·rfl
   rw [this]
   exact hI
 intro t1 _ _ _ _ _ _ _ _ _ _ _ _ _ _ _ w' hI
 have hl1:((if k=1 then pX l n else l).length:Int)+co ks<=1000000000:=by split <;> omega
 rw [show sK (.mk k n s ks) l=dp ks (if k=1 then pX l n else l) from by rw [sK]]
 generalize (if k=1 then pX l n else l)=l1 at hI hl1 ⊢
 refine ae hI 0 rfl ar aj rfl ?_
 refine aD hks ag ?_
 refine ⟨fun i t w'=>∃ (j:Nat) (l':List Int),j<=ks.length/\i=.int .i64 j/\dp (ks.drop j) l'=dp ks l1/\l'.length+co (ks.drop j)<=1000000000/\Inv w (bp [dl v l]) [.blk b2 (.cells #[.int .i64 k,.int .i64 n,.string s,kv] ab),dl t l'] S w',
  fun i _ _=>ks.length - (intOf i).toNat,⟨0,l1,Nat.zero_le _,rfl,rfl,by rw [List.drop_zero]; omega,hI⟩,?_⟩
 intro t25 _ t1 _ _ _ _ _ _ _ w'
 rintro ⟨j,l',hj,rfl,hrel,hl',hI⟩
 refine bC ?_
 refine aH (fun hji=>?_) (fun hji=>?_)
 ·have hj':j<ks.length:=by omega
  rw [p5 ks j hj'] at hl'
  rw [List.drop_eq_getElem_cons hj',dp] at hrel
  have hc1:=d3 (ks.drop (j+1))
  have hc2:=xW ks[j] l'
  refine bM hI hks ag ac hj' (fun _ _=>RdT.length) fun cs' hcs'=>?_
  have hlc:=hcs'.length
  refine aL hI aW fun b6 w' hI=>?_
  refine au hI 2 rfl ac (by simpa using hlc) rfl (by simpa using hcs'.one) fun w' hI=>?_
  refine aw hI 2 ac rfl (by simpa using hlc) ?_
  have hI:=hI.pick [true,true,false]
  refine Run.call (A:=[_]) rJ qF hI (ih _ (List.getElem_mem hj') S cs' t1 l' hcs' (by omega)) fun v' I' S' w'=>?_
  rintro ⟨rfl,rfl⟩ _ hI
  refine bi (by omega) ?_
  exact ⟨⟨j+1,_,hj',rfl,hrel,by omega,hI⟩,by simp [intOf]; omega⟩
 ·have:j=ks.length:=by omega
  subst this
  rw [List.drop_length,dp] at hrel
  subst hrel
  exact ⟨_,_,_,rfl,hI.pick [false,true],Ext.refl _ _ _,rfl,rfl⟩
theorem lT {ts:List T} {S:ad} {v:Value} (h:RdSl S 4 (RdT S) v ts) (hl:co ts<=1000000000):Tri Tryz.prog GW [v] [] S (Lo S (dp ts [])):=by
 intro w hI
 have hlen:=h.le
 simp only [maxLen] at hlen
 refine vh.2 ?_
 dsimp only[vh,aC]
 refine aD h ag ?_
 refine ⟨fun i t w'=>∃ (j:Nat) (l':List Int),j<=ts.length/\i=.int .i64 j/\dp (ts.drop j) l'=dp ts []/\l'.length+co (ts.drop j)<=1000000000/\Inv w [] [dl t l'] S w',
  fun i _ _=>ts.length - (intOf i).toNat,⟨0,[],Nat.zero_le _,rfl,rfl,by simpa using hl,hI.rowNil bG 1⟩,?_⟩
 intro t8 _ t3 _ _ _ _ _ _ _ w'
 rintro ⟨j,l',hj,rfl,hrel,hl',hI⟩
 refine bC ?_
 refine aH (fun hji=>?_) (fun hji=>?_)
 ·have hj':j<ts.length:=by omega
  rw [p5 ts j hj'] at hl'
  rw [List.drop_eq_getElem_cons hj',dp] at hrel
  have hc1:=d3 (ts.drop (j+1))
  have hc2:=xW ts[j] l'
  refine bM hI h ag ac hj' (fun _ _=>RdT.length) fun cs' hcs'=>?_
  have hlc:=hcs'.length
  refine aL hI aW fun b6 w' hI=>?_
  refine au hI 1 rfl ac (by simpa using hlc) rfl (by simpa using hcs'.one) fun w' hI=>?_
  refine aw hI 1 ac rfl (by simpa using hlc) ?_
  have hI:=hI.pick [true,false]
  refine Run.call (A:=[]) rJ qF hI (Ah _ S cs' t3 l' hcs' (by omega)) fun v' I' S' w'=>?_
  rintro ⟨rfl,rfl⟩ _ hI
  refine bi (by omega) ?_
  exact ⟨⟨j+1,_,hj',rfl,hrel,by omega,hI⟩,by simp [intOf]; omega⟩
 ·have:j=ts.length:=by omega
  subst this
  rw [List.drop_length,dp] at hrel
  subst hrel
  exact ⟨_,_,_,rfl,hI,Ext.refl _ _ _,rfl,rfl⟩
end
end Go.Proofs.YtcpgagfdeflbkaaGreatDoor

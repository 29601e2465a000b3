/- Goals, clauses, programs, queries: which are valid, on both sides. -/
import Derived.Test.YtfcbhfjomgopbaaGreatZFu1
namespace Go.Proofs.YtfcbhfjomgopbaaGreat
section
open Go Go.RowKit
attribute [local irreducible] Run CondV aB aS

def pz:List ByteArray:=[⟨#[61]⟩,⟨#[92,61]⟩,⟨#[61,61]⟩,⟨#[60]⟩,⟨#[62]⟩,⟨#[61,60]⟩,⟨#[62,61]⟩,⟨#[61,58,61]⟩,⟨#[105,115]⟩]
def oK:List ByteArray:=[⟨#[116,114,117,101]⟩,⟨#[102,97,105,108]⟩]
def sa:List ByteArray:=[⟨#[118,97,114]⟩,⟨#[110,111,110,118,97,114]⟩,⟨#[97,116,111,109]⟩,⟨#[105,110,116]⟩]
def wH:List ByteArray:=[⟨#[43]⟩,⟨#[45]⟩]
def l5:List ByteArray:=[⟨#[42]⟩,⟨#[47,47]⟩,⟨#[109,111,100]⟩]
def cM (s:ByteArray) (l:List ByteArray):Bool:=l.any fun x=>decide (s=x)
def dG (s:ByteArray) (n:Int):Bool:=
 if cM s pz=true then decide (n=2)
 else if cM s oK=true then decide (n=0)
 else if cM s sa=true then decide (n=1)
 else if s=⟨#[97,114,103]⟩ then decide (n=3)
 else false
def cn (s:ByteArray):Int:=if cM s pz=true then 3 else if cM s wH=true then 2 else if cM s l5=true then 1 else 0
def jT (t:T):Bool:=decide (t.kind=3) && (decide (t.name=⟨#[33]⟩) && decide (t.kids.length=0))
def PP (t:T):Bool:=decide (t.kind=3) && decide (t.kids.length=0)
def cO (t:T):Bool:=decide (t.kind=3) && dG t.name t.kids.length
def i0 (t:T):Bool:=decide (t.kind=3) && (mt t.name && (!dG t.name t.kids.length && decide (cn t.name=0)))
def ek (t:T):Bool:=dg t && (jT t || (i0 t || cO t))
def cC (c:C):Bool:=decide (c.body.length<=6) && (c.body.all ek && (dg c.head && i0 c.head))
def iQ (l:List T):Bool:=decide (l.length<=6) && l.all ek
def nX (p:List C):Bool:=decide (p.length<=20) && p.all cC
theorem NN (s:ByteArray):(!decide (0<cn s))=decide (cn s=0):=by
 unfold cn
 split
 ·rfl
 ·split
  ·rfl
  ·split <;> rfl

theorem fh (s:ByteArray) (n:Int) (S:ae):Pure Tryz.prog D2 [.string s,.int .i64 n] S (.bool (dG s n)):=by
 intro w hI
 refine qd.2 ?_
 dsimp only[qd,aW]
 obtain ⟨q,hq⟩:∃ q,cM s pz=q:=⟨_,rfl⟩
 have hq1:=hq
 refine ⟨fun t w'=>t=.bool q/\Inv w [] [] S w',?_,?_⟩
 ·unfold cM pz at hq
  iterate 8
   refine bg ?_
   refine az (fun h=>⟨by rw [List.any_cons,h] at hq; rw [h,<- hq]; rfl,hI⟩) (fun h=>?_)
   rw [List.any_cons,h,Bool.false_or] at hq
  refine bg ⟨?_,hI⟩
  rw [<- hq]; simp
 intro t _ _ _ _ _ _ _ _ _ w'
 rintro ⟨rfl,hI⟩
 refine az (fun h=>?_) (fun h=>?_)
 ·exact aZ (done hI (by rw [dG,if_pos (hq1.trans h)]))
 have e1:dG s n=if cM s oK=true then decide (n=0) else if cM s sa=true then decide (n=1) else if s=⟨#[97,114,103]⟩ then decide (n=3) else false:=by
  rw [dG,if_neg (by rw [hq1,h]; decide)]
 clear hq hq1 h
 obtain ⟨q,hq⟩:∃ q,cM s oK=q:=⟨_,rfl⟩
 have hq1:=hq
 refine ⟨fun t w'=>t=.bool q/\Inv w [] [] S w',?_,?_⟩
 ·unfold cM oK at hq
  refine bg ?_
  refine az (fun h=>⟨by rw [List.any_cons,h] at hq; rw [h,<- hq]; rfl,hI⟩) (fun h=>?_)
  rw [List.any_cons,h,Bool.false_or] at hq
  refine bg ⟨?_,hI⟩
  rw [<- hq]; simp
 intro _ t _ w'
 rintro ⟨rfl,hI⟩
 refine az (fun h=>?_) (fun h=>?_)
 ·exact aZ (done hI (by rw [e1,if_pos (hq1.trans h)]))
 rw [if_neg (by rw [hq1,h]; decide)] at e1
 clear hq hq1 h
 obtain ⟨q,hq⟩:∃ q,cM s sa=q:=⟨_,rfl⟩
 have hq1:=hq
 refine ⟨fun t w'=>t=.bool q/\Inv w [] [] S w',?_,?_⟩
 ·unfold cM sa at hq
  iterate 3
   refine bg ?_
   refine az (fun h=>⟨by rw [List.any_cons,h] at hq; rw [h,<- hq]; rfl,hI⟩) (fun h=>?_)
   rw [List.any_cons,h,Bool.false_or] at hq
  refine bg ⟨?_,hI⟩
  rw [<- hq]; simp
 intro _ _ _ t _ w'
 rintro ⟨rfl,hI⟩
 refine az (fun h=>?_) (fun h=>?_)
 ·exact aZ (done hI (by rw [e1,if_pos (hq1.trans h)]))
 rw [if_neg (by rw [hq1,h]; decide)] at e1
 refine bg ?_
 refine aI (fun h=>?_) (fun h=>?_)
 ·exact aZ (done hI (by rw [e1,if_pos h]))
 ·exact done hI (by rw [e1,if_neg h])
theorem yp (s:ByteArray) (n:Int) (S:ae):Pure Tryz.prog Ev [.string s,.int .i64 n] S (.bool (dG s n)):=by
 intro w hI
 refine rj.2 ?_
 dsimp only[rj,aW]
 obtain ⟨q,hq⟩:∃ q,cM s pz=q:=⟨_,rfl⟩
 have hq1:=hq
 refine ⟨fun t w'=>t=.bool q/\Inv w [] [] S w',?_,?_⟩
 ·unfold cM pz at hq
  iterate 8
   refine bg ?_
   refine az (fun h=>⟨by rw [List.any_cons,h] at hq; rw [h,<- hq]; rfl,hI⟩) (fun h=>?_)
   rw [List.any_cons,h,Bool.false_or] at hq
  refine bg ⟨?_,hI⟩
  rw [<- hq]; simp
 intro t _ _ _ _ _ _ _ _ _ w'
 rintro ⟨rfl,hI⟩
 refine az (fun h=>?_) (fun h=>?_)
 ·exact aZ (done hI (by rw [dG,if_pos (hq1.trans h)]))
 have e1:dG s n=if cM s oK=true then decide (n=0) else if cM s sa=true then decide (n=1) else if s=⟨#[97,114,103]⟩ then decide (n=3) else false:=by
  rw [dG,if_neg (by rw [hq1,h]; decide)]
 clear hq hq1 h
 obtain ⟨q,hq⟩:∃ q,cM s oK=q:=⟨_,rfl⟩
 have hq1:=hq
 refine ⟨fun t w'=>t=.bool q/\Inv w [] [] S w',?_,?_⟩
 ·unfold cM oK at hq
  refine bg ?_
  refine az (fun h=>⟨by rw [List.any_cons,h] at hq; rw [h,<- hq]; rfl,hI⟩) (fun h=>?_)
  rw [List.any_cons,h,Bool.false_or] at hq
  refine bg ⟨?_,hI⟩
  rw [<- hq]; simp
 intro _ t _ w'
 rintro ⟨rfl,hI⟩
 refine az (fun h=>?_) (fun h=>?_)
 ·exact aZ (done hI (by rw [e1,if_pos (hq1.trans h)]))
 rw [if_neg (by rw [hq1,h]; decide)] at e1
 clear hq hq1 h
 obtain ⟨q,hq⟩:∃ q,cM s sa=q:=⟨_,rfl⟩
 have hq1:=hq
 refine ⟨fun t w'=>t=.bool q/\Inv w [] [] S w',?_,?_⟩
 ·unfold cM sa at hq
  iterate 3
   refine bg ?_
   refine az (fun h=>⟨by rw [List.any_cons,h] at hq; rw [h,<- hq]; rfl,hI⟩) (fun h=>?_)
   rw [List.any_cons,h,Bool.false_or] at hq
  refine bg ⟨?_,hI⟩
  rw [<- hq]; simp
 intro _ _ _ t _ w'
 rintro ⟨rfl,hI⟩
 refine az (fun h=>?_) (fun h=>?_)
 ·exact aZ (done hI (by rw [e1,if_pos (hq1.trans h)]))
 rw [if_neg (by rw [hq1,h]; decide)] at e1
 refine bg ?_
 refine aI (fun h=>?_) (fun h=>?_)
 ·exact aZ (done hI (by rw [e1,if_pos h]))
 ·exact done hI (by rw [e1,if_neg h])

theorem dI (s:ByteArray) (S:ae):Pure Tryz.prog KI [.string s] S (.int .i64 (cn s)):=by
 intro w hI
 refine wA.2 ?_
 dsimp only[wA,aL]
 obtain ⟨q,hq⟩:∃ q,cM s pz=q:=⟨_,rfl⟩
 have hq1:=hq
 refine ⟨fun t w'=>t=.bool q/\Inv w [] [] S w',?_,?_⟩
 ·unfold cM pz at hq
  iterate 8
   refine bg ?_
   refine az (fun h=>⟨by rw [List.any_cons,h] at hq; rw [h,<- hq]; rfl,hI⟩) (fun h=>?_)
   rw [List.any_cons,h,Bool.false_or] at hq
  refine bg ⟨?_,hI⟩
  rw [<- hq]; simp
 intro _ _ _ _ _ _ _ _ t _ w'
 rintro ⟨rfl,hI⟩
 refine az (fun h=>?_) (fun h=>?_)
 ·exact done hI (by rw [show cn s=3 from if_pos (hq1.trans h)] <;> rfl)
 have e1:cn s=if cM s wH=true then 2 else if cM s l5=true then 1 else 0:=by
  rw [cn,if_neg (by rw [hq1,h]; decide)]
 clear hq hq1 h
 obtain ⟨q,hq⟩:∃ q,cM s wH=q:=⟨_,rfl⟩
 have hq1:=hq
 refine ⟨fun t w'=>t=.bool q/\Inv w [] [] S w',?_,?_⟩
 ·unfold cM wH at hq
  refine bg ?_
  refine az (fun h=>⟨by rw [List.any_cons,h] at hq; rw [h,<- hq]; rfl,hI⟩) (fun h=>?_)
  rw [List.any_cons,h,Bool.false_or] at hq
  refine bg ⟨?_,hI⟩
  rw [<- hq]; simp
 intro _ t _ w'
 rintro ⟨rfl,hI⟩
 refine az (fun h=>?_) (fun h=>?_)
 ·exact done hI (by rw [show cn s=2 from e1.trans (if_pos (hq1.trans h))] <;> rfl)
 rw [if_neg (by rw [hq1,h]; decide)] at e1
 clear hq hq1 h
 obtain ⟨q,hq⟩:∃ q,cM s l5=q:=⟨_,rfl⟩
 have hq1:=hq
 refine ⟨fun t w'=>t=.bool q/\Inv w [] [] S w',?_,?_⟩
 ·unfold cM l5 at hq
  iterate 2
   refine bg ?_
   refine az (fun h=>⟨by rw [List.any_cons,h] at hq; rw [h,<- hq]; rfl,hI⟩) (fun h=>?_)
   rw [List.any_cons,h,Bool.false_or] at hq
  refine bg ⟨?_,hI⟩
  rw [<- hq]; simp
 intro _ _ t _ w'
 rintro ⟨rfl,hI⟩
 refine az (fun h=>?_) (fun h=>?_)
 ·exact done hI (by rw [show cn s=1 from e1.trans (if_pos (hq1.trans h))] <;> rfl)
 ·exact done hI (by rw [show cn s=0 from e1.trans (if_neg (by rw [hq1,h]; decide))] <;> rfl)
theorem Ay (s:ByteArray) (S:ae):Pure Tryz.prog Kj [.string s] S (.tuple #[.int .i64 (cn s),.bool (decide (cn s=1) || decide (cn s=2))]):=by
 intro w hI
 refine wV.2 ?_
 dsimp only[wV,aL]
 obtain ⟨q,hq⟩:∃ q,cM s pz=q:=⟨_,rfl⟩
 have hq1:=hq
 refine ⟨fun t w'=>t=.bool q/\Inv w [] [] S w',?_,?_⟩
 ·unfold cM pz at hq
  iterate 8
   refine bg ?_
   refine az (fun h=>⟨by rw [List.any_cons,h] at hq; rw [h,<- hq]; rfl,hI⟩) (fun h=>?_)
   rw [List.any_cons,h,Bool.false_or] at hq
  refine bg ⟨?_,hI⟩
  rw [<- hq]; simp
 intro _ _ _ _ _ _ _ _ t _ w'
 rintro ⟨rfl,hI⟩
 refine az (fun h=>?_) (fun h=>?_)
 ·exact done hI (by rw [show cn s=3 from if_pos (hq1.trans h)] <;> rfl)
 have e1:cn s=if cM s wH=true then 2 else if cM s l5=true then 1 else 0:=by
  rw [cn,if_neg (by rw [hq1,h]; decide)]
 clear hq hq1 h
 obtain ⟨q,hq⟩:∃ q,cM s wH=q:=⟨_,rfl⟩
 have hq1:=hq
 refine ⟨fun t w'=>t=.bool q/\Inv w [] [] S w',?_,?_⟩
 ·unfold cM wH at hq
  refine bg ?_
  refine az (fun h=>⟨by rw [List.any_cons,h] at hq; rw [h,<- hq]; rfl,hI⟩) (fun h=>?_)
  rw [List.any_cons,h,Bool.false_or] at hq
  refine bg ⟨?_,hI⟩
  rw [<- hq]; simp
 intro _ t _ w'
 rintro ⟨rfl,hI⟩
 refine az (fun h=>?_) (fun h=>?_)
 ·exact done hI (by rw [show cn s=2 from e1.trans (if_pos (hq1.trans h))] <;> rfl)
 rw [if_neg (by rw [hq1,h]; decide)] at e1
 clear hq hq1 h
 obtain ⟨q,hq⟩:∃ q,cM s l5=q:=⟨_,rfl⟩
 have hq1:=hq
 refine ⟨fun t w'=>t=.bool q/\Inv w [] [] S w',?_,?_⟩
 ·unfold cM l5 at hq
  iterate 2
   refine bg ?_
   refine az (fun h=>⟨by rw [List.any_cons,h] at hq; rw [h,<- hq]; rfl,hI⟩) (fun h=>?_)
   rw [List.any_cons,h,Bool.false_or] at hq
  refine bg ⟨?_,hI⟩
  rw [<- hq]; simp
 intro _ _ t _ w'
 rintro ⟨rfl,hI⟩
 refine az (fun h=>?_) (fun h=>?_)
 ·exact done hI (by rw [show cn s=1 from e1.trans (if_pos (hq1.trans h))] <;> rfl)
 ·exact done hI (by rw [show cn s=0 from e1.trans (if_neg (by rw [hq1,h]; decide))] <;> rfl)

theorem mh {t:T} {S:ae} {cs:List Value} (h:RdT S cs t):Pure Tryz.prog NK [.agg cs.toArray] S (.bool (jT t)):=by
 intro w hI
 obtain ⟨kv,rfl,_,_,hs,hks⟩:=RdT.iff.1 h
 obtain ⟨k,n,s,ks⟩:=t
 simp only [T.name,T.kids,T.kind,T.n] at hs hks ⊢
 refine BC.2 ?_
 dsimp only[BC,aL]
 refine bf hI fun b1 w' hI=>?_
 refine ad hI 0 rfl aE av rfl ?_
 refine aZ ?_
 rw [show jT (.mk k n s ks)=(decide (k=3) && (decide (s=⟨#[33]⟩) && decide (ks.length=0))) from rfl]
 cases h1:decide (k=3)
 ·refine rpG ?_
  exact done hI rfl
 ·refine rpG ?_
  refine ad hI 0 rfl aO aJ rfl ?_
  refine bg ?_
  cases h2:decide (s=⟨#[33]⟩)
  ·refine rpG ?_
   exact done hI rfl
  ·refine rpG ?_
   refine ad hI 0 rfl al ah rfl ?_
   refine aC hks af ?_
   refine aZ ?_
   refine rpG ?_
   exact done hI (by simp)

theorem sR {t:T} {S:ae} {cs:List Value} (h:RdT S cs t):Pure Tryz.prog KK [.agg cs.toArray] S (.bool (i0 t)):=by
 intro w hI
 obtain ⟨kv,rfl,_,_,hs,hks⟩:=RdT.iff.1 h
 obtain ⟨k,n,s,ks⟩:=t
 simp only [T.name,T.kids,T.kind,T.n] at hs hks ⊢
 refine u4.2 ?_
 dsimp only[u4,aL]
 refine bf hI fun b1 w' hI=>?_
 refine ad hI 0 rfl aE av rfl ?_
 refine aZ ?_
 rw [show i0 (.mk k n s ks)=(decide (k=3) && (mt s && (!dG s ks.length && decide (cn s=0)))) from rfl]
 cases h1:decide (k=3)
 ·refine rpG ?_
  exact done hI rfl
 ·refine rpG ?_
  refine ad hI 0 rfl aO aJ rfl ?_
  refine Run.callPure zo yZ hI (wJ s hs S) fun w' hI=>?_
  cases h2:mt s
  ·refine rpG ?_
   exact done hI rfl
  ·refine rpG ?_
   refine ad hI 0 rfl aO aJ rfl ?_
   refine ad hI 0 rfl al ah rfl ?_
   refine aC hks af ?_
   refine Run.callPure fU fY hI (fh s _ S) fun w' hI=>?_
   refine bK ?_
   cases h3:dG s ks.length
   ·refine rpG ?_
    refine ad hI 0 rfl aO aJ rfl ?_
    refine Run.callPure eH eJ hI (dI s S) fun w' hI=>?_
    refine aZ ?_
    refine rpG ?_
    exact done hI rfl
   ·refine rpG ?_
    exact done hI rfl

theorem Hy {t:T} {S:ae} {cs:List Value} (h:RdT S cs t):Pure Tryz.prog Lf [.agg cs.toArray] S (.bool (jT t || (i0 t || cO t))):=by
 intro w hI
 have h0:=h
 obtain ⟨kv,rfl,_,_,hs,hks⟩:=RdT.iff.1 h
 obtain ⟨k,n,s,ks⟩:=t
 simp only [T.name,T.kids,T.kind,T.n] at h0 hs hks ⊢
 refine zN.2 ?_
 dsimp only[zN,aL]
 refine bf hI fun b1 w' hI=>?_
 refine ao hI 0 ac rfl rfl ?_
 refine Run.callPure oo oT hI (mh h0) fun w' hI=>?_
 cases h1:jT (.mk k n s ks)
 ·refine rpG ?_
  refine ao hI 0 ac rfl rfl ?_
  refine Run.callPure xt vQ hI (sR h0) fun w' hI=>?_
  cases h2:i0 (.mk k n s ks)
  ·refine rpG ?_
   refine ad hI 0 rfl aE av rfl ?_
   refine aZ ?_
   rw [show cO (.mk k n s ks)=(decide (k=3) && dG s ks.length) from rfl]
   cases h3:decide (k=3)
   ·refine rpG ?_
    exact done hI rfl
   ·refine rpG ?_
    refine ad hI 0 rfl aO aJ rfl ?_
    refine ad hI 0 rfl al ah rfl ?_
    refine aC hks af ?_
    refine Run.callPure fU fY hI (fh s _ S) fun w' hI=>?_
    refine rpG ?_
    exact done hI rfl
  ·refine rpG ?_
   exact done hI rfl
 ·refine rpG ?_
  exact done hI rfl

theorem AY {t:T} (h:wT t<=1048576):dE t<=4611686018427387904:=by
 have:=Pz t
 omega
theorem i8 {t:T} {S:ae} {cs:List Value} (h:RdT S cs t) (hc:wT t<=1048576):Pure Tryz.prog DH [.agg cs.toArray] S (.bool (ek t)):=by
 intro w hI
 have hl:=h.length
 refine pF.2 ?_
 dsimp only[pF,aL]
 refine bf hI fun b1 w' hI=>?_
 refine ao hI 0 ac rfl (by simpa [Value.cells] using hl) ?_
 refine Run.callPure fW fX hI (eY h (AY hc)) fun w' hI=>?_
 rw [ek]
 cases h1:dg t
 ·refine rpG ?_
  exact done hI rfl
 ·refine rpG ?_
  refine ao hI 0 ac rfl (by simpa [Value.cells] using hl) ?_
  refine Run.callPure IA Jr hI (Hy h) fun w' hI=>?_
  refine rpG ?_
  exact done hI rfl


theorem Hk {ts:List T} {t:T} (h:t∈ts):wT t<=wL ts:=by
 induction ts with
 | nil=>simp at h
 | cons u us ih=>
  rw [wL]
  rcases List.mem_cons.1 h with rfl|h
  ·omega
  ·have:=ih h; omega
theorem lA {c:C} {S:ae} {cs:List Value} (h:RdC S cs c) (hc:wC c<=1048576):Pure Tryz.prog Ax [.agg cs.toArray] S (.bool (cC c)):=by
 intro w hI
 obtain ⟨hd,ks,rfl,h1,h2⟩:=h
 have h1':=h1
 obtain ⟨kv,rfl,g1,g2,g3,g4⟩:=RdT.iff.1 h1
 have hlen:=h2.le
 simp only [maxLen] at hlen
 unfold wC at hc
 refine nE.2 ?_
 dsimp only[nE,aL]
 refine bf hI fun b1 w' hI=>?_
 refine ⟨fun i w'=>∃ k:Nat,k<=c.body.length/\k<=7/\i=.int .i64 k/\(∀ j (h:j<c.body.length),j<k->ek c.body[j]=true)/\Inv w [] [.blk b1 (.cells #[.int .i64 c.head.kind,.int .i64 c.head.n,.string c.head.name,kv,ks] aw)] S w',
  fun i _=>c.body.length - (intOf i).toNat,⟨0,Nat.zero_le _,by omega,rfl,fun j _ h=>by omega,hI⟩,?_⟩
 intro t3 _ _ _ _ _ _ _ _ _ _ _ _ _ _ _ _ _ _ _ w'
 rintro ⟨k,hk,hk7,rfl,hrel,hI⟩
 refine ⟨fun t w'=>t=.bool (decide (k<c.body.length/\k<=6))/\Inv w [] [.blk b1 (.cells #[.int .i64 c.head.kind,.int .i64 c.head.n,.string c.head.name,kv,ks] aw)] S w',?_,?_⟩
 ·refine ad hI 0 rfl bm ah rfl ?_
  refine aC h2 af ?_
  refine bq ?_
  by_cases hki:(k:Int)<c.body.length
  ·rw [decide_eq_true hki]
   refine rpG ?_
   refine eC ?_
   refine rpG ?_
   refine ⟨?_,hI⟩
   congr 1
   rw [Bool.eq_iff_iff]; simp; omega
  ·rw [decide_eq_false hki]
   refine rpG ?_
   exact ⟨by rw [decide_eq_false (by omega)],hI⟩
 intro t _ _ _ _ _ _ _ _ w'
 rintro ⟨rfl,hI⟩
 refine aI (fun hki=>?_) (fun hki=>?_)
 ·obtain ⟨hk',hk6⟩:=hki
  refine ad hI 0 rfl bm ah rfl ?_
  refine bY hI h2 af ac hk' (fun _ _=>RdT.length) fun cs' hcs'=>?_
  have hwm:=Hk (List.getElem_mem hk')
  refine Run.callPure lP kN hI (i8 hcs' (by omega)) fun w' hI=>?_
  refine bK ?_
  refine az (fun hb=>done hI ?_) (fun hb=>?_)
  ·have hb':ek c.body[k]=false:=by simpa using hb
   have:c.body.all ek=false:=by
    rw [<- Bool.not_eq_true,List.all_eq_true]
    intro hall
    rw [hall _ (List.getElem_mem hk')] at hb'
    cases hb'
   rw [cC,this]
   simp
  ·have hb':ek c.body[k]=true:=by simpa using hb
   refine bl (by omega) ?_
   refine ⟨⟨k+1,hk',by omega,rfl,fun j hj hjk=>?_,hI⟩,by simp [intOf]; omega⟩
   by_cases e:j=k
   ·subst e; exact hb'
   ·exact hrel j hj (by omega)
 ·refine ad hI 0 rfl bm ah rfl ?_
  refine aC h2 af ?_
  refine eC ?_
  rw [cC]
  by_cases hle:c.body.length<=6
  ·have hall:c.body.all ek=true:=by
    rw [List.all_eq_true]
    intro x hx
    obtain ⟨j,hj,rfl⟩:=List.getElem_of_mem hx
    exact hrel j hj (by omega)
   rw [decide_eq_true (show (c.body.length:Int)<=6 by omega),decide_eq_true hle,hall]
   refine rpG ?_
   refine ai cG ?_
   refine b0 hI 0 [.int .i64 c.head.kind,.int .i64 c.head.n,.string c.head.name,kv] ac rfl rfl ?_ ?_
   ·intro j v hj
    match j with
    | 0|1|2|3=>exact hj
    | j+4=>simp at hj
   refine Run.callPure fW fX hI (eY h1' (AY (by omega))) fun w' hI=>?_
   cases hv:dg c.head
   ·refine rpG ?_
    exact done hI rfl
   ·refine rpG ?_
    refine ai cG ?_
    refine b0 hI 0 [.int .i64 c.head.kind,.int .i64 c.head.n,.string c.head.name,kv] ac rfl rfl ?_ ?_
    ·intro j v hj
     match j with
     | 0|1|2|3=>exact hj
     | j+4=>simp at hj
    refine Run.callPure xt vQ hI (sR h1') fun w' hI=>?_
    refine rpG ?_
    exact done hI rfl
  ·rw [decide_eq_false (show ¬ (c.body.length:Int)<=6 by omega),decide_eq_false hle]
   refine rpG ?_
   exact done hI rfl

theorem ug {xs:List T} {S:ae} {v:Value} (h:RdSl S 4 (RdT S) v xs) (hc:wL xs<=1048576):Pure Tryz.prog CM [v] S (.bool (iQ xs)):=by
 intro w hI
 have hlen:=h.le
 simp only [maxLen] at hlen
 refine pf.2 ?_
 dsimp only[pf,aL]
 refine ⟨fun i w'=>∃ k:Nat,k<=xs.length/\k<=6+1/\i=.int .i64 k/\(∀ j (h:j<xs.length),j<k->ek xs[j]=true)/\Inv w [] [] S w',
  fun i _=>xs.length - (intOf i).toNat,⟨0,Nat.zero_le _,by omega,rfl,fun j _ h=>by omega,hI⟩,?_⟩
 intro t3 _ _ _ _ _ _ _ _ _ _ _ _ _ _ _ _ _ w'
 rintro ⟨k,hk,hk7,rfl,hrel,hI⟩
 refine ⟨fun t w'=>t=.bool (decide (k<xs.length/\k<=6))/\Inv w [] [] S w',?_,?_⟩
 ·refine aC h af ?_
  refine bq ?_
  by_cases hki:(k:Int)<xs.length
  ·rw [decide_eq_true hki]
   refine rpG ?_
   refine eC ?_
   refine rpG ?_
   refine ⟨?_,hI⟩
   congr 1
   rw [Bool.eq_iff_iff]; simp; omega
  ·rw [decide_eq_false hki]
   refine rpG ?_
   exact ⟨by rw [decide_eq_false (by omega)],hI⟩
 intro t _ _ _ _ _ _ _ w'
 rintro ⟨rfl,hI⟩
 refine aI (fun hki=>?_) (fun hki=>?_)
 ·obtain ⟨hk',hk6⟩:=hki
  refine bY hI h af ac hk' (fun _ _=>RdT.length) fun cs' hcs'=>?_
  have hwm:=Hk (List.getElem_mem hk')
  refine Run.callPure lP kN hI (i8 hcs' (by omega)) fun w' hI=>?_
  refine bK ?_
  refine az (fun hb=>done hI ?_) (fun hb=>?_)
  ·have hb':ek xs[k]=false:=by simpa using hb
   have:xs.all ek=false:=by
    rw [<- Bool.not_eq_true,List.all_eq_true]
    intro hall
    rw [hall _ (List.getElem_mem hk')] at hb'
    cases hb'
   rw [iQ,this,Bool.and_false]
  ·have hb':ek xs[k]=true:=by simpa using hb
   refine bl (by omega) ?_
   refine ⟨⟨k+1,hk',by omega,rfl,fun j hj hjk=>?_,hI⟩,by simp [intOf]; omega⟩
   by_cases e:j=k
   ·subst e; exact hb'
   ·exact hrel j hj (by omega)
 ·refine aC h af ?_
  refine eC ?_
  rw [iQ]
  refine done hI ?_
  by_cases hle:xs.length<=6
  ·have hall:xs.all ek=true:=by
    rw [List.all_eq_true]
    intro x hx
    obtain ⟨j,hj,rfl⟩:=List.getElem_of_mem hx
    exact hrel j hj (by omega)
   rw [decide_eq_true (show (xs.length:Int)<=6 by omega),decide_eq_true hle,hall]; rfl
  ·rw [decide_eq_false (show ¬ (xs.length:Int)<=6 by omega),decide_eq_false hle]; rfl
theorem qj {xs:List C} {S:ae} {v:Value} (h:RdSl S 5 (RdC S) v xs) (hc:wP xs<=1048576):Pure Tryz.prog yk [v] S (.bool (nX xs)):=by
 intro w hI
 have hlen:=h.le
 simp only [maxLen] at hlen
 refine mC.2 ?_
 dsimp only[mC,aL]
 refine ⟨fun i w'=>∃ k:Nat,k<=xs.length/\k<=20+1/\i=.int .i64 k/\(∀ j (h:j<xs.length),j<k->cC xs[j]=true)/\Inv w [] [] S w',
  fun i _=>xs.length - (intOf i).toNat,⟨0,Nat.zero_le _,by omega,rfl,fun j _ h=>by omega,hI⟩,?_⟩
 intro t3 _ _ _ _ _ _ _ _ _ _ _ _ _ _ _ _ _ w'
 rintro ⟨k,hk,hk7,rfl,hrel,hI⟩
 refine ⟨fun t w'=>t=.bool (decide (k<xs.length/\k<=20))/\Inv w [] [] S w',?_,?_⟩
 ·refine aC h bL ?_
  refine bq ?_
  by_cases hki:(k:Int)<xs.length
  ·rw [decide_eq_true hki]
   refine rpG ?_
   refine eC ?_
   refine rpG ?_
   refine ⟨?_,hI⟩
   congr 1
   rw [Bool.eq_iff_iff]; simp; omega
  ·rw [decide_eq_false hki]
   refine rpG ?_
   exact ⟨by rw [decide_eq_false (by omega)],hI⟩
 intro t _ _ _ _ _ _ _ w'
 rintro ⟨rfl,hI⟩
 refine aI (fun hki=>?_) (fun hki=>?_)
 ·obtain ⟨hk',hk6⟩:=hki
  refine bY hI h bL bo hk' (fun _ _=>RdC.length) fun cs' hcs'=>?_
  have hwm:=K5 (List.getElem_mem hk')
  refine Run.callPure nl nw hI (lA hcs' (by omega)) fun w' hI=>?_
  refine bK ?_
  refine az (fun hb=>done hI ?_) (fun hb=>?_)
  ·have hb':cC xs[k]=false:=by simpa using hb
   have:xs.all cC=false:=by
    rw [<- Bool.not_eq_true,List.all_eq_true]
    intro hall
    rw [hall _ (List.getElem_mem hk')] at hb'
    cases hb'
   rw [nX,this,Bool.and_false]
  ·have hb':cC xs[k]=true:=by simpa using hb
   refine bl (by omega) ?_
   refine ⟨⟨k+1,hk',by omega,rfl,fun j hj hjk=>?_,hI⟩,by simp [intOf]; omega⟩
   by_cases e:j=k
   ·subst e; exact hb'
   ·exact hrel j hj (by omega)
 ·refine aC h bL ?_
  refine eC ?_
  rw [nX]
  refine done hI ?_
  by_cases hle:xs.length<=20
  ·have hall:xs.all cC=true:=by
    rw [List.all_eq_true]
    intro x hx
    obtain ⟨j,hj,rfl⟩:=List.getElem_of_mem hx
    exact hrel j hj (by omega)
   rw [decide_eq_true (show (xs.length:Int)<=20 by omega),decide_eq_true hle,hall]; rfl
  ·rw [decide_eq_false (show ¬ (xs.length:Int)<=20 by omega),decide_eq_false hle]; rfl

theorem MC (s:ByteArray) (S:ae):Pure Tryz.prog Pl [.string s] S (.bool (decide (0<cn s))):=by
 intro w hI
 refine EZ.2 ?_
 dsimp only[EZ,aL]
 refine Run.callPure HK H5 hI (Ay s S) fun w' hI=>?_
 refine aj rfl ?_
 refine aj rfl ?_
 refine dl ?_
 exact done hI rfl
theorem jk {t:T} {S:ae} {cs:List Value} (h:RdT S cs t):Pure Tryz.prog IL [.agg cs.toArray] S (.bool (cO t)):=by
 intro w hI
 obtain ⟨kv,rfl,_,_,hs,hks⟩:=RdT.iff.1 h
 obtain ⟨k,n,s,ks⟩:=t
 simp only [T.name,T.kids,T.kind,T.n] at hs hks ⊢
 refine xh.2 ?_
 dsimp only[xh,aL]
 refine bf hI fun b1 w' hI=>?_
 refine ad hI 0 rfl aE av rfl ?_
 refine aZ ?_
 rw [show cO (.mk k n s ks)=(decide (k=3) && dG s ks.length) from rfl]
 cases h3:decide (k=3)
 ·refine rpG ?_
  exact done hI rfl
 ·refine rpG ?_
  refine ad hI 0 rfl aO aJ rfl ?_
  refine ad hI 0 rfl al ah rfl ?_
  refine aC hks af ?_
  refine Run.callPure BT Ds hI (yp s _ S) fun w' hI=>?_
  refine rpG ?_
  exact done hI rfl
theorem sW {t:T} {S:ae} {cs:List Value} (h:RdT S cs t):Pure Tryz.prog Kw [.agg cs.toArray] S (.bool (i0 t)):=by
 intro w hI
 have h0:=h
 obtain ⟨kv,rfl,_,_,hs,hks⟩:=RdT.iff.1 h
 obtain ⟨k,n,s,ks⟩:=t
 simp only [T.name,T.kids,T.kind,T.n] at h0 hs hks ⊢
 refine uN.2 ?_
 dsimp only[uN,aL]
 refine bf hI fun b1 w' hI=>?_
 refine ad hI 0 rfl aE av rfl ?_
 refine aZ ?_
 have hb:cO (.mk k n s ks)=(decide (k=3) && dG s ks.length):=rfl
 rw [show i0 (.mk k n s ks)=(decide (k=3) && (mt s && (!dG s ks.length && decide (cn s=0)))) from rfl]
 cases h1:decide (k=3)
 ·refine rpG ?_
  exact done hI rfl
 ·rw [h1] at hb
  refine rpG ?_
  refine ad hI 0 rfl aO aJ rfl ?_
  refine Run.callPure pK p7 hI (pk s hs S) fun w' hI=>?_
  cases h2:mt s
  ·refine rpG ?_
   exact done hI rfl
  ·refine rpG ?_
   refine ad hI 0 rfl aO aJ rfl ?_
   refine Run.callPure NR Ot hI (MC s S) fun w' hI=>?_
   refine bK ?_
   rw [NN]
   cases h3:decide (cn s=0)
   ·refine rpG ?_
    exact done hI (by simp)
   ·refine rpG ?_
    refine ao hI 0 ac rfl rfl ?_
    refine Run.callPure kC kA hI (jk h0) fun w' hI=>?_
    refine bK ?_
    refine rpG ?_
    exact done hI (by rw [hb]; simp)
theorem xj {t:T} {S:ae} {cs:List Value} (h:RdT S cs t):Pure Tryz.prog K1 [.agg cs.toArray] S (.bool (PP t)):=by
 intro w hI
 obtain ⟨kv,rfl,_,_,hs,hks⟩:=RdT.iff.1 h
 obtain ⟨k,n,s,ks⟩:=t
 simp only [T.name,T.kids,T.kind,T.n] at hs hks ⊢
 refine yR.2 ?_
 dsimp only[yR,aL]
 refine bf hI fun b1 w' hI=>?_
 refine ad hI 0 rfl aE av rfl ?_
 refine aZ ?_
 rw [show PP (.mk k n s ks)=(decide (k=3) && decide (ks.length=0)) from rfl]
 cases h3:decide (k=3)
 ·refine rpG ?_
  exact done hI rfl
 ·refine rpG ?_
  refine ad hI 0 rfl al ah rfl ?_
  refine aC hks af ?_
  refine aZ ?_
  refine rpG ?_
  exact done hI (by simp)
theorem lV {t:T} {S:ae} {cs:List Value} (h:RdT S cs t):Pure Tryz.prog NZ [.agg cs.toArray] S (.bool (jT t)):=by
 intro w hI
 have h0:=h
 obtain ⟨kv,rfl,_,_,hs,hks⟩:=RdT.iff.1 h
 obtain ⟨k,n,s,ks⟩:=t
 simp only [T.name,T.kids,T.kind,T.n] at h0 hs hks ⊢
 refine Bh.2 ?_
 dsimp only[Bh,aL]
 refine bf hI fun b1 w' hI=>?_
 refine ao hI 0 ac rfl rfl ?_
 refine Run.callPure zt zH hI (xj h0) fun w' hI=>?_
 rw [show jT (.mk k n s ks)=(decide (k=3) && (decide (s=⟨#[33]⟩) && decide (ks.length=0))) from rfl]
 cases h1:PP (.mk k n s ks)
 ·refine rpG ?_
  refine done hI ?_
  replace h1:(decide (k=3) && decide (ks.length=0))=false:=h1
  cases h2:decide (k=3)
  ·rfl
  ·rw [h2,Bool.true_and] at h1
   rw [h1,Bool.and_false]; rfl
 ·refine rpG ?_
  refine ad hI 0 rfl aO aJ rfl ?_
  refine bg ?_
  refine rpG ?_
  refine done hI ?_
  replace h1:(decide (k=3) && decide (ks.length=0))=true:=h1
  rw [Bool.and_eq_true] at h1
  rw [h1.1,h1.2]; simp
theorem nn {t:T} {S:ae} {cs:List Value} (h:RdT S cs t):Pure Tryz.prog Eh [.agg cs.toArray] S (.bool (ek t)):=by
 intro w hI
 have hl:=h.length
 refine pG.2 ?_
 dsimp only[pG,aL]
 refine bf hI fun b1 w' hI=>?_
 refine ao hI 0 ac rfl (by simpa [Value.cells] using hl) ?_
 refine Run.callPure kR kQ hI (iN h) fun w' hI=>?_
 rw [ek]
 cases h1:dg t
 ·refine rpG ?_
  exact done hI rfl
 ·refine rpG ?_
  refine ao hI 0 ac rfl (by simpa [Value.cells] using hl) ?_
  refine Run.callPure xe vy hI (sW h) fun w' hI=>?_
  cases h2:i0 t
  ·refine rpG ?_
   refine ao hI 0 ac rfl (by simpa [Value.cells] using hl) ?_
   refine Run.callPure kC kA hI (jk h) fun w' hI=>?_
   cases h3:cO t
   ·refine rpG ?_
    refine ao hI 0 ac rfl (by simpa [Value.cells] using hl) ?_
    refine Run.callPure oJ oG hI (lV h) fun w' hI=>?_
    refine rpG ?_
    exact done hI (by simp)
   ·refine rpG ?_
    exact done hI (by simp)
  ·refine rpG ?_
   exact done hI (by simp)

theorem Gl {α:Type} (p:α->Bool):∀ xs:List α,(!xs.any fun x=>!p x)=xs.all p
 | []=>rfl
 | x::xs=>by
  rw [List.any_cons,List.all_cons,<- Gl p xs]
  cases p x <;> simp

theorem rQ {x:T} {S:ae} {cs:List Value} (h:RdT S cs x):Pure Tryz.prog oa [.agg cs.toArray] S (.bool (!ek x)):=by
 intro w hI
 have hl:=h.length
 refine l4.2 ?_
 dsimp only[l4,aL]
 refine bf hI fun b1 w' hI=>?_
 refine ao hI 0 ac rfl (by simpa [Value.cells] using hl) ?_
 refine Run.callPure qP pR hI (nn h) fun w' hI=>?_
 refine bK (done hI rfl)
theorem wq {xs:List T} {S:ae} {v:Value} (h:RdSl S 4 (RdT S) v xs):Pure Tryz.prog Ck [v] S (.bool (iQ xs)):=by
 intro w hI
 refine o9.2 ?_
 dsimp only[o9,aL]
 refine aC h af ?_
 refine eC ?_
 rw [iQ]
 by_cases hle:xs.length<=6
 ·rw [decide_eq_true (show (xs.length:Int)<=6 by omega),decide_eq_true hle]
  refine rpG ?_
  have hcb:Cb Tryz.prog oa _ [] S (fun _:Unit=>[]) (fun _=>True) (fun _ x=>(!ek x,())) (fun v x=>∃ cs,v=.agg cs.toArray/\RdT S cs x) xs:=
   Cb.pure [] vA xq fun x v _=>by
    rintro ⟨cs,rfl,hcs⟩ w1 hI
    exact (rQ hcs w1 hI).mono fun e w' ⟨he,hI⟩=>⟨_,_,_,he,hI,Ext.refl _ _ _,rfl,rfl,rfl⟩
  refine Run.call0 fG fF hI (jq hcb h (st:=()) trivial) fun v' I' S' w'=>?_
  rintro ⟨rfl,rfl,rfl⟩ _ hI
  refine bK ?_
  refine rpG ?_
  refine done hI ?_
  rw [rD (fun x=>!ek x) xs,Gl]; rfl
 ·rw [decide_eq_false (show ¬ (xs.length:Int)<=6 by omega),decide_eq_false hle]
  refine rpG ?_
  exact done hI rfl
theorem tG {c:C} {S:ae} {cs:List Value} (h:RdC S cs c):Pure Tryz.prog AM [.agg cs.toArray] S (.bool (cC c)):=by
 intro w hI
 obtain ⟨hd,ks,rfl,h1,h2⟩:=h
 have h1':=h1
 obtain ⟨kv,rfl,g1,g2,g3,g4⟩:=RdT.iff.1 h1
 have hfin:cC c=(dg c.head && (i0 c.head && iQ c.body)):=by
  unfold cC iQ
  cases dg c.head <;> cases i0 c.head <;> simp
 refine mZ.2 ?_
 dsimp only[mZ,aL]
 rw [hfin]
 refine bf hI fun b1 w' hI=>?_
 refine ai cG ?_
 refine b0 hI 0 [.int .i64 c.head.kind,.int .i64 c.head.n,.string c.head.name,kv] ac rfl rfl ?_ ?_
 ·intro j v hj
  match j with
  | 0|1|2|3=>exact hj
  | j+4=>simp at hj
 refine Run.callPure kR kQ hI (iN h1') fun w' hI=>?_
 cases hv:dg c.head
 ·refine rpG ?_
  exact done hI rfl
 ·refine rpG ?_
  refine ai cG ?_
  refine b0 hI 0 [.int .i64 c.head.kind,.int .i64 c.head.n,.string c.head.name,kv] ac rfl rfl ?_ ?_
  ·intro j v hj
   match j with
   | 0|1|2|3=>exact hj
   | j+4=>simp at hj
  refine Run.callPure xe vy hI (sW h1') fun w' hI=>?_
  cases hp:i0 c.head
  ·refine rpG ?_
   exact done hI rfl
  ·refine rpG ?_
   refine ad hI 0 rfl bm ah rfl ?_
   refine Run.callPure AH AB hI (wq h2) fun w' hI=>?_
   refine rpG ?_
   exact done hI rfl

theorem pC {x:C} {S:ae} {cs:List Value} (h:RdC S cs x):Pure Tryz.prog lL [.agg cs.toArray] S (.bool (!cC x)):=by
 intro w hI
 have hl:=h.length
 refine j7.2 ?_
 dsimp only[j7,aL]
 refine bf hI fun b1 w' hI=>?_
 refine ao hI 0 bo rfl (by simpa [Value.cells] using hl) ?_
 refine Run.callPure yE yJ hI (tG h) fun w' hI=>?_
 refine bK (done hI rfl)
theorem r7 {xs:List C} {S:ae} {v:Value} (h:RdSl S 5 (RdC S) v xs):Pure Tryz.prog ya [v] S (.bool (nX xs)):=by
 intro w hI
 refine mj.2 ?_
 dsimp only[mj,aL]
 refine aC h bL ?_
 refine eC ?_
 rw [nX]
 by_cases hle:xs.length<=20
 ·rw [decide_eq_true (show (xs.length:Int)<=20 by omega),decide_eq_true hle]
  refine rpG ?_
  have hcb:Cb Tryz.prog lL _ [] S (fun _:Unit=>[]) (fun _=>True) (fun _ x=>(!cC x,())) (fun v x=>∃ cs,v=.agg cs.toArray/\RdC S cs x) xs:=
   Cb.pure [] r8 rZ fun x v _=>by
    rintro ⟨cs,rfl,hcs⟩ w1 hI
    exact (pC hcs w1 hI).mono fun e w' ⟨he,hI⟩=>⟨_,_,_,he,hI,Ext.refl _ _ _,rfl,rfl,rfl⟩
  refine Run.call0 mS mL hI (oQ hcb h (st:=()) trivial) fun v' I' S' w'=>?_
  rintro ⟨rfl,rfl,rfl⟩ _ hI
  refine bK ?_
  refine rpG ?_
  refine done hI ?_
  rw [rD (fun x=>!cC x) xs,Gl]; rfl
 ·rw [decide_eq_false (show ¬ (xs.length:Int)<=20 by omega),decide_eq_false hle]
  refine rpG ?_
  exact done hI rfl
end
section
open Go Go.RowKit
attribute [local irreducible] Run CondV aB aS

def RowRd (S:ae) (v:Value) (e:TypeId) (k n:Nat) (xs:List Value):Prop:=
 xs.length=n * k/\((v=.slice none 0 0/\n=0) ∨ ∃ g cap cur,v=.slice (some ⟨g,0,none⟩) n cap/\S g=some (.cells cur e)/\n<=cap/\cap<=maxLen/\cur.size=cap * k/\cur.toList.take (n * k)=xs)
theorem Inv.lend {w0 w:World} {X:List Nat} {A:List Item} {S:ae} {v:Value} {e:TypeId} {k n:Nat} {xs:List Value} (h:Inv w0 X (A++[.row v e k n xs]) S w) :
  ∃ S',Sle S S'/\RowRd S' v e k n xs/\Inv w0 X A S' w/\∀ B w',Inv w0 X B S' w'->Inv w0 X (B++[.row v e k n xs]) S w':=by
 have hm:w.ownsRow 0 e k v n xs:=h.its (.row v e k n xs) (by simp)
 obtain ⟨hl,hm⟩:=hm
 rcases hm with ⟨rfl,rfl⟩|⟨g,cap,cur,rfl,_,hg,hnc,hcm,hcs,ht⟩
 ·have:xs=[]:=List.eq_nil_of_length_eq_zero (by rw [hl,Nat.zero_mul])
  subst this
  exact ⟨S,Sle.refl S,⟨hl,.inl ⟨rfl,rfl⟩⟩,h.sub (List.sublist_append_left _ _),fun B w' hB=>hB.rowNil e k⟩
 ·have hf:bC (A++[Item.blk g (.cells cur e)])=bC (A++[Item.row (.slice (some ⟨g,0,none⟩) n cap) e k n xs]):=by
   simp [bC,Item.foot,Value.ownBlock]
  have hg':g∈bC (A++[Item.row (.slice (some ⟨g,0,none⟩) n cap) e k n xs]):=by simp [bC,Item.foot,Value.ownBlock]
  have h':Inv w0 X (A++[Item.blk g (.cells cur e)]) S w:=by
   refine ⟨h.size,h.os,h.tape,h.output,h.old,fun it hit=>?_,by rw [hf]; exact h.nd,by rw [hf]; exact h.new,by rw [hf]; exact h.pub⟩
   rcases List.mem_append.1 hit with hit|hit
   ·exact h.its it (List.mem_append_left _ hit)
   ·simp at hit
    subst hit
    exact hg
  obtain ⟨h1,h2⟩:=h'.publishLast
  refine ⟨rh S g (.cells cur e),h2,⟨hl,.inr ⟨g,cap,cur,rfl,by simp [rh],hnc,hcm,hcs,ht⟩⟩,h1,fun B w' hB=>?_⟩
  have hpg:=hB.pub g (.cells cur e) (by simp [rh])
  have hfB:bC (B++[Item.row (.slice (some ⟨g,0,none⟩) n cap) e k n xs])=bC B++[g]:=by simp [bC,Item.foot,Value.ownBlock]
  refine ⟨hB.size,hB.os,hB.tape,hB.output,hB.old,fun it hit=>?_,?_,?_,?_⟩
  ·rcases List.mem_append.1 hit with hit|hit
   ·exact hB.its it hit
   ·simp at hit
    subst hit
    exact ⟨hl,.inr ⟨g,cap,cur,rfl,Nat.zero_le _,hpg.1,hnc,hcm,hcs,ht⟩⟩
  ·rw [hfB,List.nodup_append]
   refine ⟨hB.nd,by simp,fun a ha b hb=>?_⟩
   simp at hb
   subst hb
   intro e'
   subst e'
   exact hpg.2 ha
  ·intro c hc
   rw [hfB] at hc
   rcases List.mem_append.1 hc with hc|hc
   ·exact hB.new c hc
   ·simp at hc
    subst hc
    exact h.new _ hg'
  ·intro c o hc
   have hne:c≠g:=fun e'=>by
    subst e'
    exact (h.pub c o hc).2 hg'
   have:=hB.pub c o (by simp only [rh]; rw [if_neg hne]; exact hc)
   refine ⟨this.1,?_⟩
   rw [hfB]
   intro hc'
   rcases List.mem_append.1 hc' with hc'|hc'
   ·exact this.2 hc'
   ·simp at hc'
    exact hne hc'
theorem Nb {α:Type} (f:α->List Value) (k:Nat) (hf:∀ y,(f y).length=k):∀ (ys:List α) (i:Nat) (h:i<ys.length),((ys.flatMap f).drop (i * k)).take k=f ys[i]
 | [],i,h=>by simp at h
 | y::ys,0,h=>by
  rw [List.flatMap_cons,Nat.zero_mul,List.drop_zero,List.take_append_of_le_length (by rw [hf]; exact Nat.le_refl _),List.take_of_length_le (by rw [hf]; exact Nat.le_refl _)]
  rfl
 | y::ys,i+1,h=>by
  rw [List.flatMap_cons,Nat.succ_mul,Nat.add_comm,<- List.drop_drop,List.drop_left' (hf y)]
  exact Nb f k hf ys i (by simpa using h)
theorem RowRd.rd {α:Type} {S:ae} {v:Value} {e:TypeId} {k:Nat} {f:α->List Value} {R:List Value->α->Prop} {ys:List α} (hf:∀ y,(f y).length=k) (hR:∀ y∈ys,R (f y) y)
  (h:RowRd S v e k ys.length (ys.flatMap f)):RdSl S k R v ys:=by
 obtain ⟨hl,h⟩:=h
 rcases h with ⟨rfl,h0⟩|⟨g,cap,cur,rfl,hS,hnc,hcm,hcs,ht⟩
 ·have:ys=[]:=List.eq_nil_of_length_eq_zero h0
  subst this
  exact ⟨none,0,rfl,Nat.le_refl _,Nat.zero_le _,.inl rfl⟩
 ·refine ⟨_,cap,rfl,hnc,hcm,.inr ⟨g,0,cur,e,(0,0),rfl,hS,fun i hi=>?_⟩⟩
  have:=Nb f k hf ys i hi
  have hik:i * k+k<=ys.length * k:=by rw [<- Nat.succ_mul]; exact Nat.mul_le_mul_right k hi
  rw [<- ht,List.drop_take,List.take_take,Nat.min_eq_left (by omega)] at this
  rw [aH,Nat.zero_add,this]
  exact hR _ (List.getElem_mem hi)

def ints (ns:List Int):List Value:=ns.flatMap fun n=>[.int .i64 n]
abbrev ed (v:Value) (ns:List Int):Item:=.row v bZ 1 ns.length (ints ns)
theorem yf (ns:List Int) (n:Int):ints ns++[.int .i64 n]=ints (ns++[n]):=by simp [ints]
theorem RowRd.ints {S:ae} {v:Value} {e:TypeId} {ns:List Int} (h:RowRd S v e 1 ns.length (ints ns)):RdSl S 1 ik v ns:=
 RowRd.rd (f:=fun n=>[Value.int .i64 n]) (fun _=>rfl) (fun _ _=>rfl) h
def Im (l:List Int) (n:Int):Bool:=l.any fun x=>decide (n=x)
def Ap (l:List Int) (n:Int):List Int:=if Im l n=true then l else l++[n]
theorem QJ (l:List Int) (n:Int):(Ap l n).length<=l.length+1:=by
 unfold Ap
 split <;> simp
end
section
open Go Go.RowKit
attribute [local irreducible] Run CondV aB aS

mutual
def eX:T->List Int->List Int
 | .mk k n _ ks,l=>if k=1 then Ap l n else df ks l
def df:List T->List Int->List Int
 | [],l=>l
 | t::ts,l=>df ts (eX t l)
end
mutual
theorem nu:∀ (t:T) (l:List Int),((eX t l).length:Int)<=l.length+dE t
 | .mk k n s ks,l=>by
  rw [eX,show dE (T.mk k n s ks)=1+dd ks from rfl]
  have h1:=QJ l n
  have:=dX ks
  split
  ·omega
  ·have:=Fg ks l
   omega
theorem Fg:∀ (ts:List T) (l:List Int),((df ts l).length:Int)<=l.length+dd ts
 | [],l=>by simp [df,dd]
 | t::ts,l=>by
  rw [df,show dd (t::ts)=dE t+dd ts from rfl]
  have:=nu t l
  have:=Fg ts (eX t l)
  omega
end
theorem qu {t:T} (h:dg t=true):eZ t 30=true:=by
 rw [dg,Bool.and_eq_true] at h
 exact h.1
abbrev IU (S:ae) (r:List Int):Value->List Item->ae->Prop:=fun v I' S'=>I'=[ed v r]/\S'=S

theorem km:∀ (t:T) (S:ae) (cs:List Value) (v:Value) (l:List Int),RdT S cs t->l.length+dE t<=1000000000->Tri Tryz.prog MM [v,.agg cs.toArray] [ed v l] S (IU S (eX t l)):=by
 refine T.ind fun k n s ks ih S cs v l h hl=>?_
 intro w hI
 obtain ⟨kv,rfl,_,_,hs,hks⟩:=RdT.iff.1 h
 simp only [T.name,T.kids,T.kind,T.n] at hs hks ⊢
 have hlen:=hks.le
 simp only [maxLen] at hlen
 rw [show dE (T.mk k n s ks)=1+dd ks from rfl] at hl
 have hcp:=dX ks
 have hend:∀ {w':World} {v':Value} {b:Nat} {o:Obj} (r:List Int),Inv w (bC [ed v l]) [.blk b o,ed v' r] S w'->r=eX (.mk k n s ks) l->
   ∃ v'' I' S',Ending.returned v'=.returned v''/\Inv w (bC [ed v l]) I' S' w'/\Ext w.heap.size (bC [ed v l]) S S'/\IU S (eX (.mk k n s ks) l) v'' I' S':=by
  intro w' v' b o r h1 h2
  subst h2
  exact ⟨_,_,_,rfl,h1.pick [false,true],Ext.refl _ _ _,rfl,rfl⟩
 refine zS.2 ?_
 dsimp only[zS,aW]
 refine bf hI fun b3 w' hI=>?_
 have hI:=hI.perm (M:=[.blk b3 (.cells #[.int .i64 k,.int .i64 n,.string s,kv] ab),ed v l]) (List.Perm.swap _ _ _)
 refine ad hI 0 rfl aE av rfl ?_
 refine aZ ?_
 refine aI (fun hk=>?_) (fun hk=>?_)
 ·have hr:Ap l n=eX (.mk k n s ks) l:=by rw [eX,if_pos hk]
  obtain ⟨S1,hle,hrd,hI,hback⟩:=Inv.lend (A:=[_]) hI
  have hrd:=hrd.ints
  refine ⟨fun i w'=>∃ j:Nat,j<=l.length/\i=.int .i64 j/\Im (l.drop j) n=Im l n/\Inv w (bC [ed v l]) [.blk b3 (.cells #[.int .i64 k,.int .i64 n,.string s,kv] ab)] S1 w',
   fun i _=>l.length - (intOf i).toNat,⟨0,Nat.zero_le _,rfl,rfl,hI⟩,?_⟩
  intro t5 _ _ _ _ t22 t21 t20 t19 t18 t17 t16 _ _ _ _ w'
  rintro ⟨j,hj,rfl,hrel,hI⟩
  refine aC hrd bV ?_
  refine bq ?_
  refine aI (fun hji=>?_) (fun hji=>?_)
  ·have hj':j<l.length:=by omega
   have hstep:Im (l.drop j) n=(decide (n=l[j]) || Im (l.drop (j+1)) n):=IZ _ l j hj'
   obtain ⟨b,o,cap,c,E,fz,rfl,hS,hR⟩:=hrd.at_ hj'
   refine ⟨fun D og lR jN lM qZ mO ur w_=>Fx D 0 [ur=.slice (some ⟨b,o,none⟩) l.length cap,mO=.int .i64 j,qZ=.pointer (some ⟨b,o+j * 1,none⟩),lM=.int .i64 l[j],jN=.pointer (some ⟨b3,1,none⟩),lR=.int .i64 n,og=.bool (decide (l[j]=n))]/\Inv w (bC [ed (.slice (some ⟨b,o,none⟩) l.length cap) l]) [.blk b3 (.cells #[.int .i64 k,.int .i64 n,.string s,kv] ab)] S1 w_,⟨Fx.nil _ _,hI.draw⟩,⟨?_,?_,?_,?_,?_,?_,?_,trivial⟩,?_⟩
   all_goals (intro D bn; intros; rename_i og lR jN lM qZ mO ur w_ hA_; have hF_:=hA_.1; obtain ⟨⟨bR,bQ,bG,bS,bU,bB,bD,_⟩,hI⟩:=hA_)
   ·exact ⟨hF_.set 0 rfl,hI⟩
   ·exact ⟨hF_.set 1 rfl,hI⟩
   ·obtain rfl:=bR ‹_›
    obtain rfl:=bQ ‹_›
    refine ar bV hj' ?_
    exact ⟨hF_.set 2 rfl,hI⟩
   ·obtain rfl:=bG ‹_›
    refine ce av (by rw [hI.cellS hS]; exact au hR 0 _ rfl) ?_
    exact ⟨hF_.set 3 rfl,hI⟩
   ·refine ai aM ?_
    exact ⟨hF_.set 4 rfl,hI⟩
   ·obtain rfl:=bU ‹_›
    refine aA hI 0 av rfl rfl ?_
    exact ⟨hF_.set 5 rfl,hI⟩
   ·obtain rfl:=bS ‹_›
    obtain rfl:=bB ‹_›
    refine aZ ?_
    exact ⟨hF_.set 6 rfl,hI⟩
   obtain ⟨rfl,rfl,rfl,rfl,rfl,rfl,rfl,_⟩:=hF_.all
   clear hF_ bR bQ bG bS bU bB bD
   refine aI (fun he=>?_) (fun he=>?_)
   ·refine hend l (hback _ _ hI) ?_
    rw [<- hr,Ap,if_pos (by rw [<- hrel,hstep,decide_eq_true he.symm]; rfl)]
   ·refine bl (by omega) ?_
    exact ⟨⟨j+1,hj',rfl,by rw [<- hrel,hstep,decide_eq_false (fun e=>he e.symm)]; rfl,hI⟩,by simp [intOf]; omega⟩
  ·have:j=l.length:=by omega
   subst this
   have hno:Im l n=false:=by rw [<- hrel,List.drop_length]; rfl
   have hI:Inv w (bC [ed v l]) [.blk b3 (.cells #[.int .i64 k,.int .i64 n,.string s,kv] ab),ed v l] S _:=hback _ _ hI
   refine ad hI 0 rfl aM av rfl ?_
   refine dT hI ip rfl (by omega) (by omega) fun b w' hI=>?_
   refine eU hI 1 (k:=1) [.int .i64 n] ip (by omega) rfl rfl ?_ ?_ (by omega) (by omega) fun v' w' hI=>?_
   ·intro j u hj
    rw [hI.cellL (i:=2) rfl]
    match j with
    | 0=>simpa [Value.cells] using hj
    | j+1=>simp at hj
   ·simp [Value.oneCell']
   ·rw [yf] at hI
    have hI:=hI.pick [true,true,false]
    refine hend (b:=b3) (o:=.cells #[.int .i64 k,.int .i64 n,.string s,kv] ab) (l++[n]) ?_ ?_
    ·have e:Item.row v' bZ 1 (l.length+1) (ints (l++[n]))=ed v' (l++[n]):=by simp [ed]
     exact e ▸ hI
    ·rw [<- hr,Ap,if_neg (by rw [hno]; decide)]
 ·have hr:df ks l=eX (.mk k n s ks) l:=by rw [eX,if_neg hk]
  refine ⟨fun i t w'=>∃ (j:Nat) (l':List Int),j<=ks.length/\i=.int .i64 j/\df (ks.drop j) l'=df ks l/\l'.length+dd (ks.drop j)<=1000000000/\Inv w (bC [ed v l]) [.blk b3 (.cells #[.int .i64 k,.int .i64 n,.string s,kv] ab),ed t l'] S w',
   fun i _ _=>ks.length - (intOf i).toNat,⟨0,l,Nat.zero_le _,rfl,rfl,by rw [List.drop_zero]; omega,hI⟩,?_⟩
  intro t6 _ _ t0 _ _ _ _ _ _ _ _ _ _ _ _ w'
  rintro ⟨j,l',hj,rfl,hrel,hl',hI⟩
  refine ad hI 0 rfl al ah rfl ?_
  refine aC hks af ?_
  refine bq ?_
  refine aI (fun hji=>?_) (fun hji=>?_)
  ·have hj':j<ks.length:=by omega
   rw [tQ ks j hj'] at hl'
   rw [List.drop_eq_getElem_cons hj',df] at hrel
   have hc1:=dX (ks.drop (j+1))
   have hc2:=nu ks[j] l'
   refine ad hI 0 rfl al ah rfl ?_
   refine bY hI hks af ac hj' (fun _ _=>RdT.length) fun cs' hcs'=>?_
   refine Run.call (A:=[_]) jK jA hI (ih _ (List.getElem_mem hj') S cs' t0 l' hcs' (by omega)) fun v' I' S' w'=>?_
   rintro ⟨rfl,rfl⟩ _ hI
   refine bl (by omega) ?_
   exact ⟨⟨j+1,_,hj',rfl,hrel,by omega,hI⟩,by simp [intOf]; omega⟩
  ·have:j=ks.length:=by omega
   subst this
   rw [List.drop_length,df] at hrel
   exact hend l' hI (by rw [hrel,hr])
end
section
open Go Go.RowKit
attribute [local irreducible] Run CondV aB aS

section
variable {P:Program} {w w0:World} {X:List Nat} {L:List Item} {S:ae} {K:Value->Value->Value->World->Prop}
end
end
end Go.Proofs.YtfcbhfjomgopbaaGreat

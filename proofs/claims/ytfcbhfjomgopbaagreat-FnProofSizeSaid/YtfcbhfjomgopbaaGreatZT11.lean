/- Goals, clauses, programs, queries: which are valid, on both sides. -/
import Derived.Test.YtfcbhfjomgopbaaGreatZT10
import Derived.Test.YtfcbhfjomgopbaaGreatRows
import Derived.ProofKit
import Derived.ReadAgain
import Derived.Carry
import Derived.Test.YtfcbhfjomgopbaaGreatZT1S
import Derived.Test.YtfcbhfjomgopbaaGreatZT1F
import Derived.Test.YtfcbhfjomgopbaaGreatZT1h1
import Derived.Laws.BytesArg
import Derived.Laws.StructEq
import Derived.Laws.Tables
namespace Go.Proofs.YtfcbhfjomgopbaaGreat
open Go Go.RowKit
section
variable {P:Program} {w:World} {K:Value->World->Prop} {ty:TypeId}
theorem ae {b:Bool} {A B:Prop} (h:B):ag undef b A B:=by unfold ag; exact h
theorem ak {v u:Value} (hk:K v w):Run P (sOp (.pick (.const (.bool true)) (.const v) (.const u)) ty) w K:=pm hk
theorem aj {v u:Value} (hk:K u w):Run P (sOp (.pick (.const (.bool false)) (.const v) (.const u)) ty) w K:=pm hk
end
attribute [local irreducible] Run CondV ag aO

def pr:List ByteArray:=[⟨#[61]⟩,⟨#[92,61]⟩,⟨#[61,61]⟩,⟨#[60]⟩,⟨#[62]⟩,⟨#[61,60]⟩,⟨#[62,61]⟩,⟨#[61,58,61]⟩,⟨#[105,115]⟩]
def kZ:List ByteArray:=[⟨#[116,114,117,101]⟩,⟨#[102,97,105,108]⟩]
def rr:List ByteArray:=[⟨#[118,97,114]⟩,⟨#[110,111,110,118,97,114]⟩,⟨#[97,116,111,109]⟩,⟨#[105,110,116]⟩]
def HN:List ByteArray:=[⟨#[43]⟩,⟨#[45]⟩]
def yU:List ByteArray:=[⟨#[42]⟩,⟨#[47,47]⟩,⟨#[109,111,100]⟩]
def dd (s:ByteArray) (l:List ByteArray):Bool:=l.any fun x=>decide (s=x)
def de (s:ByteArray) (n:Int):Bool:=
 if dd s pr=true then decide (n=2)
 else if dd s kZ=true then decide (n=0)
 else if dd s rr=true then decide (n=1)
 else if s=⟨#[97,114,103]⟩ then decide (n=3)
 else false
def cq (s:ByteArray):Int:=if dd s pr=true then 3 else if dd s HN=true then 2 else if dd s yU=true then 1 else 0
def jL (t:T):Bool:=decide (t.kind=3) && (decide (t.name=⟨#[33]⟩) && decide (t.kids.length=0))
def KC (t:T):Bool:=decide (t.kind=3) && decide (t.kids.length=0)
def dx (t:T):Bool:=decide (t.kind=3) && de t.name t.kids.length
def kK (t:T):Bool:=decide (t.kind=3) && (jC t.name && (!de t.name t.kids.length && decide (cq t.name=0)))
def fh (t:T):Bool:=dA t && (jL t || (kK t || dx t))
def dg (c:C):Bool:=decide (c.body.length<=6) && (c.body.all fh && (dA c.head && kK c.head))
def kW (l:List T):Bool:=decide (l.length<=6) && l.all fh
def Og (p:List C):Bool:=decide (p.length<=20) && p.all dg
theorem JN (s:ByteArray):(!decide (0<cq s))=decide (cq s=0):=by
 unfold cq
 split
 ·rfl
 ·split
  ·rfl
  ·split <;> rfl

theorem gJ (s:ByteArray) (n:Int) (S:al):Pure Tryz.prog Az [.string s,.int .i64 n] S (.bool (de s n)):=by
 intro w hI
 refine rY ?_
 unfold l6
 obtain ⟨q,hq⟩:∃ q,dd s pr=q:=⟨_,rfl⟩
 have hq1:=hq
 refine ⟨fun t w'=>t=.bool q/\Inv w [] [] S w',?_,?_⟩
 ·unfold dd pr at hq
  iterate 8
   refine bJ ?_
   refine aS (fun h=>⟨by rw [List.any_cons,h] at hq; rw [h,<- hq]; rfl,hI⟩) (fun h=>?_)
   rw [List.any_cons,h,Bool.false_or] at hq
  refine bJ ⟨?_,hI⟩
  rw [<- hq]; simp
 intro t _ _ _ _ _ _ _ _ _ w'
 rintro ⟨rfl,hI⟩
 refine aS (fun h=>?_) (fun h=>?_)
 ·exact bP (done hI (by rw [de,if_pos (hq1.trans h)]))
 have e1:de s n=if dd s kZ=true then decide (n=0) else if dd s rr=true then decide (n=1) else if s=⟨#[97,114,103]⟩ then decide (n=3) else false:=by
  rw [de,if_neg (by rw [hq1,h]; decide)]
 clear hq hq1 h
 obtain ⟨q,hq⟩:∃ q,dd s kZ=q:=⟨_,rfl⟩
 have hq1:=hq
 refine ⟨fun t w'=>t=.bool q/\Inv w [] [] S w',?_,?_⟩
 ·unfold dd kZ at hq
  refine bJ ?_
  refine aS (fun h=>⟨by rw [List.any_cons,h] at hq; rw [h,<- hq]; rfl,hI⟩) (fun h=>?_)
  rw [List.any_cons,h,Bool.false_or] at hq
  refine bJ ⟨?_,hI⟩
  rw [<- hq]; simp
 intro _ t _ w'
 rintro ⟨rfl,hI⟩
 refine aS (fun h=>?_) (fun h=>?_)
 ·exact bP (done hI (by rw [e1,if_pos (hq1.trans h)]))
 rw [if_neg (by rw [hq1,h]; decide)] at e1
 clear hq hq1 h
 obtain ⟨q,hq⟩:∃ q,dd s rr=q:=⟨_,rfl⟩
 have hq1:=hq
 refine ⟨fun t w'=>t=.bool q/\Inv w [] [] S w',?_,?_⟩
 ·unfold dd rr at hq
  iterate 3
   refine bJ ?_
   refine aS (fun h=>⟨by rw [List.any_cons,h] at hq; rw [h,<- hq]; rfl,hI⟩) (fun h=>?_)
   rw [List.any_cons,h,Bool.false_or] at hq
  refine bJ ⟨?_,hI⟩
  rw [<- hq]; simp
 intro _ _ _ t _ w'
 rintro ⟨rfl,hI⟩
 refine aS (fun h=>?_) (fun h=>?_)
 ·exact bP (done hI (by rw [e1,if_pos (hq1.trans h)]))
 rw [if_neg (by rw [hq1,h]; decide)] at e1
 refine bJ ?_
 refine bz (fun h=>?_) (fun h=>?_)
 ·exact bP (done hI (by rw [e1,if_pos h]))
 ·exact done hI (by rw [e1,if_neg h])
theorem s6 (s:ByteArray) (n:Int) (S:al):Pure Tryz.prog zY [.string s,.int .i64 n] S (.bool (de s n)):=by
 intro w hI
 refine rh ?_
 unfold lU
 obtain ⟨q,hq⟩:∃ q,dd s pr=q:=⟨_,rfl⟩
 have hq1:=hq
 refine ⟨fun t w'=>t=.bool q/\Inv w [] [] S w',?_,?_⟩
 ·unfold dd pr at hq
  iterate 8
   refine bJ ?_
   refine aS (fun h=>⟨by rw [List.any_cons,h] at hq; rw [h,<- hq]; rfl,hI⟩) (fun h=>?_)
   rw [List.any_cons,h,Bool.false_or] at hq
  refine bJ ⟨?_,hI⟩
  rw [<- hq]; simp
 intro t _ _ _ _ _ _ _ _ _ w'
 rintro ⟨rfl,hI⟩
 refine aS (fun h=>?_) (fun h=>?_)
 ·exact bP (done hI (by rw [de,if_pos (hq1.trans h)]))
 have e1:de s n=if dd s kZ=true then decide (n=0) else if dd s rr=true then decide (n=1) else if s=⟨#[97,114,103]⟩ then decide (n=3) else false:=by
  rw [de,if_neg (by rw [hq1,h]; decide)]
 clear hq hq1 h
 obtain ⟨q,hq⟩:∃ q,dd s kZ=q:=⟨_,rfl⟩
 have hq1:=hq
 refine ⟨fun t w'=>t=.bool q/\Inv w [] [] S w',?_,?_⟩
 ·unfold dd kZ at hq
  refine bJ ?_
  refine aS (fun h=>⟨by rw [List.any_cons,h] at hq; rw [h,<- hq]; rfl,hI⟩) (fun h=>?_)
  rw [List.any_cons,h,Bool.false_or] at hq
  refine bJ ⟨?_,hI⟩
  rw [<- hq]; simp
 intro _ t _ w'
 rintro ⟨rfl,hI⟩
 refine aS (fun h=>?_) (fun h=>?_)
 ·exact bP (done hI (by rw [e1,if_pos (hq1.trans h)]))
 rw [if_neg (by rw [hq1,h]; decide)] at e1
 clear hq hq1 h
 obtain ⟨q,hq⟩:∃ q,dd s rr=q:=⟨_,rfl⟩
 have hq1:=hq
 refine ⟨fun t w'=>t=.bool q/\Inv w [] [] S w',?_,?_⟩
 ·unfold dd rr at hq
  iterate 3
   refine bJ ?_
   refine aS (fun h=>⟨by rw [List.any_cons,h] at hq; rw [h,<- hq]; rfl,hI⟩) (fun h=>?_)
   rw [List.any_cons,h,Bool.false_or] at hq
  refine bJ ⟨?_,hI⟩
  rw [<- hq]; simp
 intro _ _ _ t _ w'
 rintro ⟨rfl,hI⟩
 refine aS (fun h=>?_) (fun h=>?_)
 ·exact bP (done hI (by rw [e1,if_pos (hq1.trans h)]))
 rw [if_neg (by rw [hq1,h]; decide)] at e1
 refine bJ ?_
 refine bz (fun h=>?_) (fun h=>?_)
 ·exact bP (done hI (by rw [e1,if_pos h]))
 ·exact done hI (by rw [e1,if_neg h])

theorem cY (s:ByteArray) (S:al):Pure Tryz.prog Ew [.string s] S (.int .i64 (cq s)):=by
 intro w hI
 refine wd ?_
 unfold qI
 obtain ⟨q,hq⟩:∃ q,dd s pr=q:=⟨_,rfl⟩
 have hq1:=hq
 refine ⟨fun t w'=>t=.bool q/\Inv w [] [] S w',?_,?_⟩
 ·unfold dd pr at hq
  iterate 8
   refine bJ ?_
   refine aS (fun h=>⟨by rw [List.any_cons,h] at hq; rw [h,<- hq]; rfl,hI⟩) (fun h=>?_)
   rw [List.any_cons,h,Bool.false_or] at hq
  refine bJ ⟨?_,hI⟩
  rw [<- hq]; simp
 intro _ _ _ _ _ _ _ _ t _ w'
 rintro ⟨rfl,hI⟩
 refine aS (fun h=>?_) (fun h=>?_)
 ·exact done hI (by rw [show cq s=3 from if_pos (hq1.trans h)] <;> rfl)
 have e1:cq s=if dd s HN=true then 2 else if dd s yU=true then 1 else 0:=by
  rw [cq,if_neg (by rw [hq1,h]; decide)]
 clear hq hq1 h
 obtain ⟨q,hq⟩:∃ q,dd s HN=q:=⟨_,rfl⟩
 have hq1:=hq
 refine ⟨fun t w'=>t=.bool q/\Inv w [] [] S w',?_,?_⟩
 ·unfold dd HN at hq
  refine bJ ?_
  refine aS (fun h=>⟨by rw [List.any_cons,h] at hq; rw [h,<- hq]; rfl,hI⟩) (fun h=>?_)
  rw [List.any_cons,h,Bool.false_or] at hq
  refine bJ ⟨?_,hI⟩
  rw [<- hq]; simp
 intro _ t _ w'
 rintro ⟨rfl,hI⟩
 refine aS (fun h=>?_) (fun h=>?_)
 ·exact done hI (by rw [show cq s=2 from e1.trans (if_pos (hq1.trans h))] <;> rfl)
 rw [if_neg (by rw [hq1,h]; decide)] at e1
 clear hq hq1 h
 obtain ⟨q,hq⟩:∃ q,dd s yU=q:=⟨_,rfl⟩
 have hq1:=hq
 refine ⟨fun t w'=>t=.bool q/\Inv w [] [] S w',?_,?_⟩
 ·unfold dd yU at hq
  iterate 2
   refine bJ ?_
   refine aS (fun h=>⟨by rw [List.any_cons,h] at hq; rw [h,<- hq]; rfl,hI⟩) (fun h=>?_)
   rw [List.any_cons,h,Bool.false_or] at hq
  refine bJ ⟨?_,hI⟩
  rw [<- hq]; simp
 intro _ _ t _ w'
 rintro ⟨rfl,hI⟩
 refine aS (fun h=>?_) (fun h=>?_)
 ·exact done hI (by rw [show cq s=1 from e1.trans (if_pos (hq1.trans h))] <;> rfl)
 ·exact done hI (by rw [show cq s=0 from e1.trans (if_neg (by rw [hq1,h]; decide))] <;> rfl)
theorem wG (s:ByteArray) (S:al):Pure Tryz.prog Gb [.string s] S (.tuple #[.int .i64 (cq s),.bool (decide (cq s=1) || decide (cq s=2))]):=by
 intro w hI
 refine vq ?_
 unfold rA
 obtain ⟨q,hq⟩:∃ q,dd s pr=q:=⟨_,rfl⟩
 have hq1:=hq
 refine ⟨fun t w'=>t=.bool q/\Inv w [] [] S w',?_,?_⟩
 ·unfold dd pr at hq
  iterate 8
   refine bJ ?_
   refine aS (fun h=>⟨by rw [List.any_cons,h] at hq; rw [h,<- hq]; rfl,hI⟩) (fun h=>?_)
   rw [List.any_cons,h,Bool.false_or] at hq
  refine bJ ⟨?_,hI⟩
  rw [<- hq]; simp
 intro _ _ _ _ _ _ _ _ t _ w'
 rintro ⟨rfl,hI⟩
 refine aS (fun h=>?_) (fun h=>?_)
 ·exact done hI (by rw [show cq s=3 from if_pos (hq1.trans h)] <;> rfl)
 have e1:cq s=if dd s HN=true then 2 else if dd s yU=true then 1 else 0:=by
  rw [cq,if_neg (by rw [hq1,h]; decide)]
 clear hq hq1 h
 obtain ⟨q,hq⟩:∃ q,dd s HN=q:=⟨_,rfl⟩
 have hq1:=hq
 refine ⟨fun t w'=>t=.bool q/\Inv w [] [] S w',?_,?_⟩
 ·unfold dd HN at hq
  refine bJ ?_
  refine aS (fun h=>⟨by rw [List.any_cons,h] at hq; rw [h,<- hq]; rfl,hI⟩) (fun h=>?_)
  rw [List.any_cons,h,Bool.false_or] at hq
  refine bJ ⟨?_,hI⟩
  rw [<- hq]; simp
 intro _ t _ w'
 rintro ⟨rfl,hI⟩
 refine aS (fun h=>?_) (fun h=>?_)
 ·exact done hI (by rw [show cq s=2 from e1.trans (if_pos (hq1.trans h))] <;> rfl)
 rw [if_neg (by rw [hq1,h]; decide)] at e1
 clear hq hq1 h
 obtain ⟨q,hq⟩:∃ q,dd s yU=q:=⟨_,rfl⟩
 have hq1:=hq
 refine ⟨fun t w'=>t=.bool q/\Inv w [] [] S w',?_,?_⟩
 ·unfold dd yU at hq
  iterate 2
   refine bJ ?_
   refine aS (fun h=>⟨by rw [List.any_cons,h] at hq; rw [h,<- hq]; rfl,hI⟩) (fun h=>?_)
   rw [List.any_cons,h,Bool.false_or] at hq
  refine bJ ⟨?_,hI⟩
  rw [<- hq]; simp
 intro _ _ t _ w'
 rintro ⟨rfl,hI⟩
 refine aS (fun h=>?_) (fun h=>?_)
 ·exact done hI (by rw [show cq s=1 from e1.trans (if_pos (hq1.trans h))] <;> rfl)
 ·exact done hI (by rw [show cq s=0 from e1.trans (if_neg (by rw [hq1,h]; decide))] <;> rfl)

theorem ud {t:T} {S:al} {cs:List Value} (h:RdT S cs t):Pure Tryz.prog JR [.agg cs.toArray] S (.bool (jL t)):=by
 intro w hI
 obtain ⟨kv,rfl,_,_,hs,hks⟩:=RdT.iff.1 h
 obtain ⟨k,n,s,ks⟩:=t
 simp only [T.name,T.kids,T.kind,T.n] at hs hks ⊢
 refine AE ?_
 unfold yD;dsimp only
 refine bS hI fun b1 w' hI=>?_
 refine ao hI 0 rfl bC aY rfl ?_
 refine bP ?_
 rw [show jL (.mk k n s ks)=(decide (k=3) && (decide (s=⟨#[33]⟩) && decide (ks.length=0))) from rfl]
 cases h1:decide (k=3)
 ·repeat (first|refine ad ?_|refine af (by decide) ?_|refine ae ?_|refine ak ?_|refine aj ?_)
  exact done hI rfl
 ·repeat (first|refine ad ?_|refine af (by decide) ?_|refine ae ?_|refine ak ?_|refine aj ?_)
  refine ao hI 0 rfl bB bn rfl ?_
  refine bJ ?_
  cases h2:decide (s=⟨#[33]⟩)
  ·repeat (first|refine ad ?_|refine af (by decide) ?_|refine ae ?_|refine ak ?_|refine aj ?_)
   exact done hI rfl
  ·repeat (first|refine ad ?_|refine af (by decide) ?_|refine ae ?_|refine ak ?_|refine aj ?_)
   refine ao hI 0 rfl aK aJ rfl ?_
   refine bp hks aC ?_
   refine bP ?_
   repeat (first|refine ad ?_|refine af (by decide) ?_|refine ae ?_|refine ak ?_|refine aj ?_)
   exact done hI (by simp)

theorem oR {t:T} {S:al} {cs:List Value} (h:RdT S cs t):Pure Tryz.prog DV [.agg cs.toArray] S (.bool (kK t)):=by
 intro w hI
 obtain ⟨kv,rfl,_,_,hs,hks⟩:=RdT.iff.1 h
 obtain ⟨k,n,s,ks⟩:=t
 simp only [T.name,T.kids,T.kind,T.n] at hs hks ⊢
 refine ww ?_
 unfold qr;dsimp only
 refine bS hI fun b1 w' hI=>?_
 refine ao hI 0 rfl bC aY rfl ?_
 refine bP ?_
 rw [show kK (.mk k n s ks)=(decide (k=3) && (jC s && (!de s ks.length && decide (cq s=0)))) from rfl]
 cases h1:decide (k=3)
 ·repeat (first|refine ad ?_|refine af (by decide) ?_|refine ae ?_|refine ak ?_|refine aj ?_)
  exact done hI rfl
 ·repeat (first|refine ad ?_|refine af (by decide) ?_|refine ae ?_|refine ak ?_|refine aj ?_)
  refine ao hI 0 rfl bB bn rfl ?_
  refine Run.callPure uv uI hI (r9 s hs S) fun w' hI=>?_
  cases h2:jC s
  ·repeat (first|refine ad ?_|refine af (by decide) ?_|refine ae ?_|refine ak ?_|refine aj ?_)
   exact done hI rfl
  ·repeat (first|refine ad ?_|refine af (by decide) ?_|refine ae ?_|refine ak ?_|refine aj ?_)
   refine ao hI 0 rfl bB bn rfl ?_
   refine ao hI 0 rfl aK aJ rfl ?_
   refine bp hks aC ?_
   refine Run.callPure iZ iT hI (gJ s _ S) fun w' hI=>?_
   refine cK ?_
   cases h3:de s ks.length
   ·repeat (first|refine ad ?_|refine af (by decide) ?_|refine ae ?_|refine ak ?_|refine aj ?_)
    refine ao hI 0 rfl bB bn rfl ?_
    refine Run.callPure eq ev hI (cY s S) fun w' hI=>?_
    refine bP ?_
    repeat (first|refine ad ?_|refine af (by decide) ?_|refine ae ?_|refine ak ?_|refine aj ?_)
    exact done hI rfl
   ·repeat (first|refine ad ?_|refine af (by decide) ?_|refine ae ?_|refine ak ?_|refine aj ?_)
    exact done hI rfl

theorem Cu {t:T} {S:al} {cs:List Value} (h:RdT S cs t):Pure Tryz.prog Hd [.agg cs.toArray] S (.bool (jL t || (kK t || dx t))):=by
 intro w hI
 have h0:=h
 obtain ⟨kv,rfl,_,_,hs,hks⟩:=RdT.iff.1 h
 obtain ⟨k,n,s,ks⟩:=t
 simp only [T.name,T.kids,T.kind,T.n] at h0 hs hks ⊢
 refine wY ?_
 unfold vm;dsimp only
 refine bS hI fun b1 w' hI=>?_
 refine aL hI 0 ai rfl rfl ?_
 refine Run.callPure yH yz hI (ud h0) fun w' hI=>?_
 cases h1:jL (.mk k n s ks)
 ·repeat (first|refine ad ?_|refine af (by decide) ?_|refine ae ?_|refine ak ?_|refine aj ?_)
  refine aL hI 0 ai rfl rfl ?_
  refine Run.callPure sG rU hI (oR h0) fun w' hI=>?_
  cases h2:kK (.mk k n s ks)
  ·repeat (first|refine ad ?_|refine af (by decide) ?_|refine ae ?_|refine ak ?_|refine aj ?_)
   refine ao hI 0 rfl bC aY rfl ?_
   refine bP ?_
   rw [show dx (.mk k n s ks)=(decide (k=3) && de s ks.length) from rfl]
   cases h3:decide (k=3)
   ·repeat (first|refine ad ?_|refine af (by decide) ?_|refine ae ?_|refine ak ?_|refine aj ?_)
    exact done hI rfl
   ·repeat (first|refine ad ?_|refine af (by decide) ?_|refine ae ?_|refine ak ?_|refine aj ?_)
    refine ao hI 0 rfl bB bn rfl ?_
    refine ao hI 0 rfl aK aJ rfl ?_
    refine bp hks aC ?_
    refine Run.callPure iZ iT hI (gJ s _ S) fun w' hI=>?_
    repeat (first|refine ad ?_|refine af (by decide) ?_|refine ae ?_|refine ak ?_|refine aj ?_)
    exact done hI rfl
  ·repeat (first|refine ad ?_|refine af (by decide) ?_|refine ae ?_|refine ak ?_|refine aj ?_)
   exact done hI rfl
 ·repeat (first|refine ad ?_|refine af (by decide) ?_|refine ae ?_|refine ak ?_|refine aj ?_)
  exact done hI rfl

theorem DL {t:T} (h:wT t<=1048576):dw t<=4611686018427387904:=by
 have:=K6 t
 omega
theorem gQ {t:T} {S:al} {cs:List Value} (h:RdT S cs t) (hc:wT t<=1048576):Pure Tryz.prog zI [.agg cs.toArray] S (.bool (fh t)):=by
 intro w hI
 have hl:=h.length
 refine rD ?_
 unfold mJ
 refine bS hI fun b1 w' hI=>?_
 refine aL hI 0 ai rfl (by simpa [Value.cells] using hl) ?_
 refine Run.callPure iV iR hI (gF h (DL hc)) fun w' hI=>?_
 rw [fh]
 cases h1:dA t
 ·repeat (first|refine ad ?_|refine af (by decide) ?_|refine ae ?_|refine ak ?_|refine aj ?_)
  exact done hI rfl
 ·repeat (first|refine ad ?_|refine af (by decide) ?_|refine ae ?_|refine ak ?_|refine aj ?_)
  refine aL hI 0 ai rfl (by simpa [Value.cells] using hl) ?_
  refine Run.callPure EF DX hI (Cu h) fun w' hI=>?_
  repeat (first|refine ad ?_|refine af (by decide) ?_|refine ae ?_|refine ak ?_|refine aj ?_)
  exact done hI rfl


theorem C8 {ts:List T} {t:T} (h:t∈ts):wT t<=wL ts:=by
 induction ts with
 | nil=>simp at h
 | cons u us ih=>
  rw [wL]
  rcases List.mem_cons.1 h with rfl|h
  ·omega
  ·have:=ih h; omega
/- the loop of a list of goals, whatever comes behind it -/
theorem pu {c:C} {S:al} {cs:List Value} (h:RdC S cs c) (hc:wC c<=1048576):Pure Tryz.prog vy [.agg cs.toArray] S (.bool (dg c)):=by
 intro w hI
 obtain ⟨hd,ks,rfl,h1,h2⟩:=h
 have h1':=h1
 obtain ⟨kv,rfl,g1,g2,g3,g4⟩:=RdT.iff.1 h1
 have hlen:=h2.le
 simp only [maxLen] at hlen
 unfold wC at hc
 refine n3 ?_
 unfold jY;dsimp only
 refine bS hI fun b1 w' hI=>?_
 refine ⟨fun i w'=>∃ k:Nat,k<=c.body.length/\k<=7/\i=.int .i64 k/\(∀ j (h:j<c.body.length),j<k->fh c.body[j]=true)/\Inv w [] [.blk b1 (.cells #[.int .i64 c.head.kind,.int .i64 c.head.n,.string c.head.name,kv,ks] bw)] S w',
  fun i _=>c.body.length - (intOf i).toNat,⟨0,Nat.zero_le _,by omega,rfl,fun j _ h=>by omega,hI⟩,?_⟩
 intro t3 _ _ _ _ _ _ _ _ _ _ _ _ _ _ _ _ _ _ _ w'
 rintro ⟨k,hk,hk7,rfl,hrel,hI⟩
 refine ⟨fun t w'=>t=.bool (decide (k<c.body.length/\k<=6))/\Inv w [] [.blk b1 (.cells #[.int .i64 c.head.kind,.int .i64 c.head.n,.string c.head.name,kv,ks] bw)] S w',?_,?_⟩
 ·refine ao hI 0 rfl cD aJ rfl ?_
  refine bp h2 aC ?_
  refine cg ?_
  by_cases hki:(k:Int)<c.body.length
  ·rw [decide_eq_true hki]
   repeat (first|refine ad ?_|refine af (by decide) ?_|refine ae ?_|refine ak ?_|refine aj ?_)
   refine fi ?_
   repeat (first|refine ad ?_|refine af (by decide) ?_|refine ae ?_|refine ak ?_|refine aj ?_)
   refine ⟨?_,hI⟩
   congr 1
   rw [Bool.eq_iff_iff]; simp; omega
  ·rw [decide_eq_false hki]
   repeat (first|refine ad ?_|refine af (by decide) ?_|refine ae ?_|refine ak ?_|refine aj ?_)
   exact ⟨by rw [decide_eq_false (by omega)],hI⟩
 intro t _ _ _ _ _ _ _ _ w'
 rintro ⟨rfl,hI⟩
 refine bz (fun hki=>?_) (fun hki=>?_)
 ·obtain ⟨hk',hk6⟩:=hki
  refine ao hI 0 rfl cD aJ rfl ?_
  refine cJ hI h2 aC ai hk' (fun _ _=>RdT.length) fun cs' hcs'=>?_
  have hwm:=C8 (List.getElem_mem hk')
  refine Run.callPure iJ iX hI (gQ hcs' (by omega)) fun w' hI=>?_
  refine cK ?_
  refine aS (fun hb=>done hI ?_) (fun hb=>?_)
  ·have hb':fh c.body[k]=false:=by simpa using hb
   have:c.body.all fh=false:=by
    rw [<- Bool.not_eq_true,List.all_eq_true]
    intro hall
    rw [hall _ (List.getElem_mem hk')] at hb'
    cases hb'
   rw [dg,this]
   simp
  ·have hb':fh c.body[k]=true:=by simpa using hb
   refine bT (by omega) ?_
   refine ⟨⟨k+1,hk',by omega,rfl,fun j hj hjk=>?_,hI⟩,by simp [intOf]; omega⟩
   by_cases e:j=k
   ·subst e; exact hb'
   ·exact hrel j hj (by omega)
 ·refine ao hI 0 rfl cD aJ rfl ?_
  refine bp h2 aC ?_
  refine fi ?_
  rw [dg]
  by_cases hle:c.body.length<=6
  ·have hall:c.body.all fh=true:=by
    rw [List.all_eq_true]
    intro x hx
    obtain ⟨j,hj,rfl⟩:=List.getElem_of_mem hx
    exact hrel j hj (by omega)
   rw [decide_eq_true (show (c.body.length:Int)<=6 by omega),decide_eq_true hle,hall]
   repeat (first|refine ad ?_|refine af (by decide) ?_|refine ae ?_|refine ak ?_|refine aj ?_)
   refine aI dt ?_
   refine cN hI 0 [.int .i64 c.head.kind,.int .i64 c.head.n,.string c.head.name,kv] ai rfl rfl ?_ ?_
   ·intro j v hj
    match j with
    | 0|1|2|3=>exact hj
    | j+4=>simp at hj
   refine Run.callPure iV iR hI (gF h1' (DL (by omega))) fun w' hI=>?_
   cases hv:dA c.head
   ·repeat (first|refine ad ?_|refine af (by decide) ?_|refine ae ?_|refine ak ?_|refine aj ?_)
    exact done hI rfl
   ·repeat (first|refine ad ?_|refine af (by decide) ?_|refine ae ?_|refine ak ?_|refine aj ?_)
    refine aI dt ?_
    refine cN hI 0 [.int .i64 c.head.kind,.int .i64 c.head.n,.string c.head.name,kv] ai rfl rfl ?_ ?_
    ·intro j v hj
     match j with
     | 0|1|2|3=>exact hj
     | j+4=>simp at hj
    refine Run.callPure sG rU hI (oR h1') fun w' hI=>?_
    repeat (first|refine ad ?_|refine af (by decide) ?_|refine ae ?_|refine ak ?_|refine aj ?_)
    exact done hI rfl
  ·rw [decide_eq_false (show ¬ (c.body.length:Int)<=6 by omega),decide_eq_false hle]
   repeat (first|refine ad ?_|refine af (by decide) ?_|refine ae ?_|refine ak ?_|refine aj ?_)
   exact done hI rfl

theorem pw {xs:List T} {S:al} {v:Value} (h:RdSl S 4 (RdT S) v xs) (hc:wL xs<=1048576):Pure Tryz.prog xT [v] S (.bool (kW xs)):=by
 intro w hI
 have hlen:=h.le
 simp only [maxLen] at hlen
 refine pj ?_
 unfold lC
 refine ⟨fun i w'=>∃ k:Nat,k<=xs.length/\k<=6+1/\i=.int .i64 k/\(∀ j (h:j<xs.length),j<k->fh xs[j]=true)/\Inv w [] [] S w',
  fun i _=>xs.length - (intOf i).toNat,⟨0,Nat.zero_le _,by omega,rfl,fun j _ h=>by omega,hI⟩,?_⟩
 intro t3 _ _ _ _ _ _ _ _ _ _ _ _ _ _ _ _ _ w'
 rintro ⟨k,hk,hk7,rfl,hrel,hI⟩
 refine ⟨fun t w'=>t=.bool (decide (k<xs.length/\k<=6))/\Inv w [] [] S w',?_,?_⟩
 ·refine bp h aC ?_
  refine cg ?_
  by_cases hki:(k:Int)<xs.length
  ·rw [decide_eq_true hki]
   repeat (first|refine ad ?_|refine af (by decide) ?_|refine ae ?_|refine ak ?_|refine aj ?_)
   refine fi ?_
   repeat (first|refine ad ?_|refine af (by decide) ?_|refine ae ?_|refine ak ?_|refine aj ?_)
   refine ⟨?_,hI⟩
   congr 1
   rw [Bool.eq_iff_iff]; simp; omega
  ·rw [decide_eq_false hki]
   repeat (first|refine ad ?_|refine af (by decide) ?_|refine ae ?_|refine ak ?_|refine aj ?_)
   exact ⟨by rw [decide_eq_false (by omega)],hI⟩
 intro t _ _ _ _ _ _ _ w'
 rintro ⟨rfl,hI⟩
 refine bz (fun hki=>?_) (fun hki=>?_)
 ·obtain ⟨hk',hk6⟩:=hki
  refine cJ hI h aC ai hk' (fun _ _=>RdT.length) fun cs' hcs'=>?_
  have hwm:=C8 (List.getElem_mem hk')
  refine Run.callPure iJ iX hI (gQ hcs' (by omega)) fun w' hI=>?_
  refine cK ?_
  refine aS (fun hb=>done hI ?_) (fun hb=>?_)
  ·have hb':fh xs[k]=false:=by simpa using hb
   have:xs.all fh=false:=by
    rw [<- Bool.not_eq_true,List.all_eq_true]
    intro hall
    rw [hall _ (List.getElem_mem hk')] at hb'
    cases hb'
   rw [kW,this,Bool.and_false]
  ·have hb':fh xs[k]=true:=by simpa using hb
   refine bT (by omega) ?_
   refine ⟨⟨k+1,hk',by omega,rfl,fun j hj hjk=>?_,hI⟩,by simp [intOf]; omega⟩
   by_cases e:j=k
   ·subst e; exact hb'
   ·exact hrel j hj (by omega)
 ·refine bp h aC ?_
  refine fi ?_
  rw [kW]
  refine done hI ?_
  by_cases hle:xs.length<=6
  ·have hall:xs.all fh=true:=by
    rw [List.all_eq_true]
    intro x hx
    obtain ⟨j,hj,rfl⟩:=List.getElem_of_mem hx
    exact hrel j hj (by omega)
   rw [decide_eq_true (show (xs.length:Int)<=6 by omega),decide_eq_true hle,hall]; rfl
  ·rw [decide_eq_false (show ¬ (xs.length:Int)<=6 by omega),decide_eq_false hle]; rfl
/- the program's side -/
theorem GQ (s:ByteArray) (S:al):Pure Tryz.prog K7 [.string s] S (.bool (decide (0<cq s))):=by
 intro w hI
 refine Dp ?_
 unfold BN
 refine Run.callPure BX Dl hI (wG s S) fun w' hI=>?_
 refine aB rfl ?_
 refine aB rfl ?_
 refine di ?_
 exact done hI rfl
theorem oq {t:T} {S:al} {cs:List Value} (h:RdT S cs t):Pure Tryz.prog FJ [.agg cs.toArray] S (.bool (dx t)):=by
 intro w hI
 obtain ⟨kv,rfl,_,_,hs,hks⟩:=RdT.iff.1 h
 obtain ⟨k,n,s,ks⟩:=t
 simp only [T.name,T.kids,T.kind,T.n] at hs hks ⊢
 refine wl ?_
 unfold qS
 refine bS hI fun b1 w' hI=>?_
 refine ao hI 0 rfl bC aY rfl ?_
 refine bP ?_
 rw [show dx (.mk k n s ks)=(decide (k=3) && de s ks.length) from rfl]
 cases h3:decide (k=3)
 ·repeat (first|refine ad ?_|refine af (by decide) ?_|refine ae ?_|refine ak ?_|refine aj ?_)
  exact done hI rfl
 ·repeat (first|refine ad ?_|refine af (by decide) ?_|refine ae ?_|refine ak ?_|refine aj ?_)
  refine ao hI 0 rfl bB bn rfl ?_
  refine ao hI 0 rfl aK aJ rfl ?_
  refine bp hks aC ?_
  refine Run.callPure yw wW hI (s6 s _ S) fun w' hI=>?_
  repeat (first|refine ad ?_|refine af (by decide) ?_|refine ae ?_|refine ak ?_|refine aj ?_)
  exact done hI rfl
theorem z6 {t:T} {S:al} {cs:List Value} (h:RdT S cs t):Pure Tryz.prog FD [.agg cs.toArray] S (.bool (kK t)):=by
 intro w hI
 have h0:=h
 obtain ⟨kv,rfl,_,_,hs,hks⟩:=RdT.iff.1 h
 obtain ⟨k,n,s,ks⟩:=t
 simp only [T.name,T.kids,T.kind,T.n] at h0 hs hks ⊢
 refine wq ?_
 unfold rg;dsimp only
 refine bS hI fun b1 w' hI=>?_
 refine ao hI 0 rfl bC aY rfl ?_
 refine bP ?_
 have hb:dx (.mk k n s ks)=(decide (k=3) && de s ks.length):=rfl
 rw [show kK (.mk k n s ks)=(decide (k=3) && (jC s && (!de s ks.length && decide (cq s=0)))) from rfl]
 cases h1:decide (k=3)
 ·repeat (first|refine ad ?_|refine af (by decide) ?_|refine ae ?_|refine ak ?_|refine aj ?_)
  exact done hI rfl
 ·rw [h1] at hb
  repeat (first|refine ad ?_|refine af (by decide) ?_|refine ae ?_|refine ak ?_|refine aj ?_)
  refine ao hI 0 rfl bB bn rfl ?_
  refine Run.callPure mf lR hI (lu s hs S) fun w' hI=>?_
  cases h2:jC s
  ·repeat (first|refine ad ?_|refine af (by decide) ?_|refine ae ?_|refine ak ?_|refine aj ?_)
   exact done hI rfl
  ·repeat (first|refine ad ?_|refine af (by decide) ?_|refine ae ?_|refine ak ?_|refine aj ?_)
   refine ao hI 0 rfl bB bn rfl ?_
   refine Run.callPure I6 JJ hI (GQ s S) fun w' hI=>?_
   refine cK ?_
   rw [JN]
   cases h3:decide (cq s=0)
   ·repeat (first|refine ad ?_|refine af (by decide) ?_|refine ae ?_|refine ak ?_|refine aj ?_)
    exact done hI (by simp)
   ·repeat (first|refine ad ?_|refine af (by decide) ?_|refine ae ?_|refine ak ?_|refine aj ?_)
    refine aL hI 0 ai rfl rfl ?_
    refine Run.callPure rJ sx hI (oq h0) fun w' hI=>?_
    refine cK ?_
    repeat (first|refine ad ?_|refine af (by decide) ?_|refine ae ?_|refine ak ?_|refine aj ?_)
    exact done hI (by rw [hb]; simp)
theorem Dw {t:T} {S:al} {cs:List Value} (h:RdT S cs t):Pure Tryz.prog HG [.agg cs.toArray] S (.bool (KC t)):=by
 intro w hI
 obtain ⟨kv,rfl,_,_,hs,hks⟩:=RdT.iff.1 h
 obtain ⟨k,n,s,ks⟩:=t
 simp only [T.name,T.kids,T.kind,T.n] at hs hks ⊢
 refine yj ?_
 unfold uX
 refine bS hI fun b1 w' hI=>?_
 refine ao hI 0 rfl bC aY rfl ?_
 refine bP ?_
 rw [show KC (.mk k n s ks)=(decide (k=3) && decide (ks.length=0)) from rfl]
 cases h3:decide (k=3)
 ·repeat (first|refine ad ?_|refine af (by decide) ?_|refine ae ?_|refine ak ?_|refine aj ?_)
  exact done hI rfl
 ·repeat (first|refine ad ?_|refine af (by decide) ?_|refine ae ?_|refine ak ?_|refine aj ?_)
  refine ao hI 0 rfl aK aJ rfl ?_
  refine bp hks aC ?_
  refine bP ?_
  repeat (first|refine ad ?_|refine af (by decide) ?_|refine ae ?_|refine ak ?_|refine aj ?_)
  exact done hI (by simp)
theorem FY {t:T} {S:al} {cs:List Value} (h:RdT S cs t):Pure Tryz.prog JH [.agg cs.toArray] S (.bool (jL t)):=by
 intro w hI
 have h0:=h
 obtain ⟨kv,rfl,_,_,hs,hks⟩:=RdT.iff.1 h
 obtain ⟨k,n,s,ks⟩:=t
 simp only [T.name,T.kids,T.kind,T.n] at h0 hs hks ⊢
 refine As ?_
 unfold xS
 refine bS hI fun b1 w' hI=>?_
 refine aL hI 0 ai rfl rfl ?_
 refine Run.callPure EI DY hI (Dw h0) fun w' hI=>?_
 rw [show jL (.mk k n s ks)=(decide (k=3) && (decide (s=⟨#[33]⟩) && decide (ks.length=0))) from rfl]
 cases h1:KC (.mk k n s ks)
 ·repeat (first|refine ad ?_|refine af (by decide) ?_|refine ae ?_|refine ak ?_|refine aj ?_)
  refine done hI ?_
  replace h1:(decide (k=3) && decide (ks.length=0))=false:=h1
  cases h2:decide (k=3)
  ·rfl
  ·rw [h2,Bool.true_and] at h1
   rw [h1,Bool.and_false]; rfl
 ·repeat (first|refine ad ?_|refine af (by decide) ?_|refine ae ?_|refine ak ?_|refine aj ?_)
  refine ao hI 0 rfl bB bn rfl ?_
  refine bJ ?_
  repeat (first|refine ad ?_|refine af (by decide) ?_|refine ae ?_|refine ak ?_|refine aj ?_)
  refine done hI ?_
  replace h1:(decide (k=3) && decide (ks.length=0))=true:=h1
  rw [Bool.and_eq_true] at h1
  rw [h1.1,h1.2]; simp
theorem tj {t:T} {S:al} {cs:List Value} (h:RdT S cs t):Pure Tryz.prog zW [.agg cs.toArray] S (.bool (fh t)):=by
 intro w hI
 have hl:=h.length
 refine rK ?_
 unfold mE
 refine bS hI fun b1 w' hI=>?_
 refine aL hI 0 ai rfl (by simpa [Value.cells] using hl) ?_
 refine Run.callPure yT xu hI (te h) fun w' hI=>?_
 rw [fh]
 cases h1:dA t
 ·repeat (first|refine ad ?_|refine af (by decide) ?_|refine ae ?_|refine ak ?_|refine aj ?_)
  exact done hI rfl
 ·repeat (first|refine ad ?_|refine af (by decide) ?_|refine ae ?_|refine ak ?_|refine aj ?_)
  refine aL hI 0 ai rfl (by simpa [Value.cells] using hl) ?_
  refine Run.callPure Dm C4 hI (z6 h) fun w' hI=>?_
  cases h2:kK t
  ·repeat (first|refine ad ?_|refine af (by decide) ?_|refine ae ?_|refine ak ?_|refine aj ?_)
   refine aL hI 0 ai rfl (by simpa [Value.cells] using hl) ?_
   refine Run.callPure rJ sx hI (oq h) fun w' hI=>?_
   cases h3:dx t
   ·repeat (first|refine ad ?_|refine af (by decide) ?_|refine ae ?_|refine ak ?_|refine aj ?_)
    refine aL hI 0 ai rfl (by simpa [Value.cells] using hl) ?_
    refine Run.callPure HZ GV hI (FY h) fun w' hI=>?_
    repeat (first|refine ad ?_|refine af (by decide) ?_|refine ae ?_|refine ak ?_|refine aj ?_)
    exact done hI (by simp)
   ·repeat (first|refine ad ?_|refine af (by decide) ?_|refine ae ?_|refine ak ?_|refine aj ?_)
    exact done hI (by simp)
  ·repeat (first|refine ad ?_|refine af (by decide) ?_|refine ae ?_|refine ak ?_|refine aj ?_)
   exact done hI (by simp)

end Go.Proofs.YtfcbhfjomgopbaaGreat

/- A row of a function's own, handed to a function that only reads; rows of numbers. -/
namespace Go.Proofs.YtfcbhfjomgopbaaGreat
open Go Go.RowKit
attribute [local irreducible] Run CondV ag aO

def RowRd (S:al) (v:Value) (e:TypeId) (k n:Nat) (xs:List Value):Prop:=
 xs.length=n * k/\((v=.slice none 0 0/\n=0) ∨ ∃ g cap cur,v=.slice (some ⟨g,0,none⟩) n cap/\S g=some (.cells cur e)/\n<=cap/\cap<=maxLen/\cur.size=cap * k/\cur.toList.take (n * k)=xs)
theorem Inv.lend {w0 w:World} {X:List Nat} {A:List Item} {S:al} {v:Value} {e:TypeId} {k n:Nat} {xs:List Value} (h:Inv w0 X (A++[.row v e k n xs]) S w) :
  ∃ S',Sle S S'/\RowRd S' v e k n xs/\Inv w0 X A S' w/\∀ B w',Inv w0 X B S' w'->Inv w0 X (B++[.row v e k n xs]) S w':=by
 have hm:w.ownsRow 0 e k v n xs:=h.its (.row v e k n xs) (by simp)
 obtain ⟨hl,hm⟩:=hm
 rcases hm with ⟨rfl,rfl⟩|⟨g,cap,cur,rfl,_,hg,hnc,hcm,hcs,ht⟩
 ·have:xs=[]:=List.eq_nil_of_length_eq_zero (by rw [hl,Nat.zero_mul])
  subst this
  exact ⟨S,Sle.refl S,⟨hl,.inl ⟨rfl,rfl⟩⟩,h.sub (List.sublist_append_left _ _),fun B w' hB=>hB.rowNil e k⟩
 ·have hf:bW (A++[Item.blk g (.cells cur e)])=bW (A++[Item.row (.slice (some ⟨g,0,none⟩) n cap) e k n xs]):=by
   simp [bW,Item.foot,Value.ownBlock]
  have hg':g∈bW (A++[Item.row (.slice (some ⟨g,0,none⟩) n cap) e k n xs]):=by simp [bW,Item.foot,Value.ownBlock]
  have h':Inv w0 X (A++[Item.blk g (.cells cur e)]) S w:=by
   refine ⟨h.size,h.os,h.tape,h.output,h.old,fun it hit=>?_,by rw [hf]; exact h.nd,by rw [hf]; exact h.new,by rw [hf]; exact h.pub⟩
   rcases List.mem_append.1 hit with hit|hit
   ·exact h.its it (List.mem_append_left _ hit)
   ·simp at hit
    subst hit
    exact hg
  obtain ⟨h1,h2⟩:=h'.publishLast
  refine ⟨lS S g (.cells cur e),h2,⟨hl,.inr ⟨g,cap,cur,rfl,by simp [lS],hnc,hcm,hcs,ht⟩⟩,h1,fun B w' hB=>?_⟩
  have hpg:=hB.pub g (.cells cur e) (by simp [lS])
  have hfB:bW (B++[Item.row (.slice (some ⟨g,0,none⟩) n cap) e k n xs])=bW B++[g]:=by simp [bW,Item.foot,Value.ownBlock]
  refine ⟨hB.size,hB.os,hB.tape,hB.output,hB.old,fun it hit=>?_,?_,?_,?_⟩
  ·rcases List.mem_append.1 hit with hit|hit
   ·exact hB.its it hit
   ·simp at hit
    subst hit
    exact ⟨hl,.inr ⟨g,cap,cur,rfl,Nat.zero_le _,hpg.1,hnc,hcm,hcs,ht⟩⟩
  ·rw [hfB,List.nodup_append]
   refine ⟨hB.nd,by simp,fun a ha b hb=>?_⟩
   simp at hb
   subst hb
   intro e'
   subst e'
   exact hpg.2 ha
  ·intro c hc
   rw [hfB] at hc
   rcases List.mem_append.1 hc with hc|hc
   ·exact hB.new c hc
   ·simp at hc
    subst hc
    exact h.new _ hg'
  ·intro c o hc
   have hne:c≠g:=fun e'=>by
    subst e'
    exact (h.pub c o hc).2 hg'
   have:=hB.pub c o (by simp only [lS]; rw [if_neg hne]; exact hc)
   refine ⟨this.1,?_⟩
   rw [hfB]
   intro hc'
   rcases List.mem_append.1 hc' with hc'|hc'
   ·exact this.2 hc'
   ·simp at hc'
    exact hne hc'
theorem IW {α:Type} (f:α->List Value) (k:Nat) (hf:∀ y,(f y).length=k):∀ (ys:List α) (i:Nat) (h:i<ys.length),((ys.flatMap f).drop (i * k)).take k=f ys[i]
 | [],i,h=>by simp at h
 | y::ys,0,h=>by
  rw [List.flatMap_cons,Nat.zero_mul,List.drop_zero,List.take_append_of_le_length (by rw [hf]; exact Nat.le_refl _),List.take_of_length_le (by rw [hf]; exact Nat.le_refl _)]
  rfl
 | y::ys,i+1,h=>by
  rw [List.flatMap_cons,Nat.succ_mul,Nat.add_comm,<- List.drop_drop,List.drop_left' (hf y)]
  exact IW f k hf ys i (by simpa using h)
theorem RowRd.rd {α:Type} {S:al} {v:Value} {e:TypeId} {k:Nat} {f:α->List Value} {R:List Value->α->Prop} {ys:List α} (hf:∀ y,(f y).length=k) (hR:∀ y∈ys,R (f y) y)
  (h:RowRd S v e k ys.length (ys.flatMap f)):RdSl S k R v ys:=by
 obtain ⟨hl,h⟩:=h
 rcases h with ⟨rfl,h0⟩|⟨g,cap,cur,rfl,hS,hnc,hcm,hcs,ht⟩
 ·have:ys=[]:=List.eq_nil_of_length_eq_zero h0
  subst this
  exact ⟨none,0,rfl,Nat.le_refl _,Nat.zero_le _,.inl rfl⟩
 ·refine ⟨_,cap,rfl,hnc,hcm,.inr ⟨g,0,cur,e,(0,0),rfl,hS,fun i hi=>?_⟩⟩
  have:=IW f k hf ys i hi
  have hik:i * k+k<=ys.length * k:=by rw [<- Nat.succ_mul]; exact Nat.mul_le_mul_right k hi
  rw [<- ht,List.drop_take,List.take_take,Nat.min_eq_left (by omega)] at this
  rw [bm,Nat.zero_add,this]
  exact hR _ (List.getElem_mem hi)

/- rows of numbers -/
def ints (ns:List Int):List Value:=ns.flatMap fun n=>[.int .i64 n]
abbrev ge (v:Value) (ns:List Int):Item:=.row v eW 1 ns.length (ints ns)
theorem A8 (ns:List Int) (n:Int):ints ns++[.int .i64 n]=ints (ns++[n]):=by simp [ints]
theorem RowRd.ints {S:al} {v:Value} {e:TypeId} {ns:List Int} (h:RowRd S v e 1 ns.length (ints ns)):RdSl S 1 gt v ns:=
 RowRd.rd (f:=fun n=>[Value.int .i64 n]) (fun _=>rfl) (fun _ _=>rfl) h
def Ff (l:List Int) (n:Int):Bool:=l.any fun x=>decide (n=x)
def vS (l:List Int) (n:Int):List Int:=if Ff l n=true then l else l++[n]
theorem Mh (l:List Int) (n:Int):(vS l n).length<=l.length+1:=by
 unfold vS
 split <;> simp

end Go.Proofs.YtfcbhfjomgopbaaGreat

/- The variables of terms, on both sides: lists of numbers that grow. -/
namespace Go.Proofs.YtfcbhfjomgopbaaGreat
open Go Go.RowKit
attribute [local irreducible] Run CondV ag aO

mutual
def eD:T->List Int->List Int
 | .mk k n _ ks,l=>if k=1 then vS l n else cI ks l
def cI:List T->List Int->List Int
 | [],l=>l
 | t::ts,l=>cI ts (eD t l)
end
mutual
theorem kr:∀ (t:T) (l:List Int),((eD t l).length:Int)<=l.length+dw t
 | .mk k n s ks,l=>by
  rw [eD,show dw (T.mk k n s ks)=1+cU ks from rfl]
  have h1:=Mh l n
  have:=eE ks
  split
  ·omega
  ·have:=BO ks l
   omega
theorem BO:∀ (ts:List T) (l:List Int),((cI ts l).length:Int)<=l.length+cU ts
 | [],l=>by simp [cI,cU]
 | t::ts,l=>by
  rw [cI,show cU (t::ts)=dw t+cU ts from rfl]
  have:=kr t l
  have:=BO ts (eD t l)
  omega
end
/- on valid terms the two are one -/
theorem uz {t:T} (h:dA t=true):fI t 30=true:=by
 rw [dA,Bool.and_eq_true] at h
 exact h.1
abbrev Ea (S:al) (r:List Int):Value->List Item->al->Prop:=fun v I' S'=>I'=[ge v r]/\S'=S

theorem ip:∀ (t:T) (S:al) (cs:List Value) (v:Value) (l:List Int),RdT S cs t->l.length+dw t<=1000000000->Tri Tryz.prog GN [v,.agg cs.toArray] [ge v l] S (Ea S (eD t l)):=by
 refine T.ind fun k n s ks ih S cs v l h hl=>?_
 intro w hI
 obtain ⟨kv,rfl,_,_,hs,hks⟩:=RdT.iff.1 h
 simp only [T.name,T.kids,T.kind,T.n] at hs hks ⊢
 have hlen:=hks.le
 simp only [maxLen] at hlen
 rw [show dw (T.mk k n s ks)=1+cU ks from rfl] at hl
 have hcp:=eE ks
 have hend:∀ {w':World} {v':Value} {b:Nat} {o:Obj} (r:List Int),Inv w (bW [ge v l]) [.blk b o,ge v' r] S w'->r=eD (.mk k n s ks) l->
   ∃ v'' I' S',Ending.returned v'=.returned v''/\Inv w (bW [ge v l]) I' S' w'/\Ext w.heap.size (bW [ge v l]) S S'/\Ea S (eD (.mk k n s ks) l) v'' I' S':=by
  intro w' v' b o r h1 h2
  subst h2
  exact ⟨_,_,_,rfl,h1.pick [false,true],Ext.refl _ _ _,rfl,rfl⟩
 refine zl ?_
 unfold un
 refine bS hI fun b3 w' hI=>?_
 have hI:=hI.perm (M:=[.blk b3 (.cells #[.int .i64 k,.int .i64 n,.string s,kv] ab),ge v l]) (List.Perm.swap _ _ _)
 refine ao hI 0 rfl bC aY rfl ?_
 refine bP ?_
 refine bz (fun hk=>?_) (fun hk=>?_)
 ·have hr:vS l n=eD (.mk k n s ks) l:=by rw [eD,if_pos hk]
  obtain ⟨S1,hle,hrd,hI,hback⟩:=Inv.lend (A:=[_]) hI
  have hrd:=hrd.ints
  refine ⟨fun i w'=>∃ j:Nat,j<=l.length/\i=.int .i64 j/\Ff (l.drop j) n=Ff l n/\Inv w (bW [ge v l]) [.blk b3 (.cells #[.int .i64 k,.int .i64 n,.string s,kv] ab)] S1 w',
   fun i _=>l.length - (intOf i).toNat,⟨0,Nat.zero_le _,rfl,rfl,hI⟩,?_⟩
  intro t5 _ _ _ _ t22 t21 t20 t19 t18 t17 t16 _ _ _ _ w'
  rintro ⟨j,hj,rfl,hrel,hI⟩
  refine bp hrd cX ?_
  refine cg ?_
  refine bz (fun hji=>?_) (fun hji=>?_)
  ·have hj':j<l.length:=by omega
   have hstep:Ff (l.drop j) n=(decide (n=l[j]) || Ff (l.drop (j+1)) n):=D6 _ l j hj'
   obtain ⟨b,o,cap,c,E,fz,rfl,hS,hR⟩:=hrd.at_ hj'
   refine ⟨fun D sH nU ku oZ xE tz BD w_=>(D 0=true->BD=.slice (some ⟨b,o,none⟩) l.length cap)/\(D 1=true->tz=.int .i64 j)/\(D 2=true->xE=.pointer (some ⟨b,o+j * 1,none⟩))/\(D 3=true->oZ=.int .i64 l[j])/\(D 4=true->ku=.pointer (some ⟨b3,1,none⟩))/\(D 5=true->nU=.int .i64 n)/\(D 6=true->sH=.bool (decide (l[j]=n)))/\Inv w (bW [ge (.slice (some ⟨b,o,none⟩) l.length cap) l]) [.blk b3 (.cells #[.int .i64 k,.int .i64 n,.string s,kv] ab)] S1 w_,⟨ac,ac,ac,ac,ac,ac,ac,hI.draw⟩,⟨?_,?_,?_,?_,?_,?_,?_,trivial⟩,?_⟩
   all_goals (intro D bX; intros; rename_i sH nU ku oZ xE tz BD w_ hA_; obtain ⟨ax,ay,az,aA,aF,aH,aE,hI⟩:=hA_)
   ·exact ⟨fun _=>rfl,ay,az,aA,aF,aH,aE,hI⟩
   ·exact ⟨ax,fun _=>rfl,az,aA,aF,aH,aE,hI⟩
   ·obtain rfl:=ax ‹_›
    obtain rfl:=ay ‹_›
    refine be cX hj' ?_
    exact ⟨ax,ay,fun _=>rfl,aA,aF,aH,aE,hI⟩
   ·obtain rfl:=az ‹_›
    refine dc aY (by rw [hI.cellS hS]; exact bh hR 0 _ rfl) ?_
    exact ⟨ax,ay,az,fun _=>rfl,aF,aH,aE,hI⟩
   ·refine aI bF ?_
    exact ⟨ax,ay,az,aA,fun _=>rfl,aH,aE,hI⟩
   ·obtain rfl:=aF ‹_›
    refine aX hI 0 aY rfl rfl ?_
    exact ⟨ax,ay,az,aA,aF,fun _=>rfl,aE,hI⟩
   ·obtain rfl:=aA ‹_›
    obtain rfl:=aH ‹_›
    refine bP ?_
    exact ⟨ax,ay,az,aA,aF,aH,fun _=>rfl,hI⟩
   obtain rfl:=aE ‹_›
   obtain rfl:=aH ‹_›
   obtain rfl:=aF ‹_›
   obtain rfl:=aA ‹_›
   obtain rfl:=az ‹_›
   obtain rfl:=ay ‹_›
   obtain rfl:=ax ‹_›
   clear ax ay az aA aF aH aE
   refine bz (fun he=>?_) (fun he=>?_)
   ·refine hend l (hback _ _ hI) ?_
    rw [<- hr,vS,if_pos (by rw [<- hrel,hstep,decide_eq_true he.symm]; rfl)]
   ·refine bT (by omega) ?_
    exact ⟨⟨j+1,hj',rfl,by rw [<- hrel,hstep,decide_eq_false (fun e=>he e.symm)]; rfl,hI⟩,by simp [intOf]; omega⟩
  ·have:j=l.length:=by omega
   subst this
   have hno:Ff l n=false:=by rw [<- hrel,List.drop_length]; rfl
   have hI:Inv w (bW [ge v l]) [.blk b3 (.cells #[.int .i64 k,.int .i64 n,.string s,kv] ab),ge v l] S _:=hback _ _ hI
   refine ao hI 0 rfl bF aY rfl ?_
   refine dh hI nL rfl (by omega) (by omega) fun b w' hI=>?_
   refine fm hI 1 (k:=1) [.int .i64 n] nL (by omega) rfl rfl ?_ ?_ (by omega) (by omega) fun v' w' hI=>?_
   ·intro j u hj
    rw [hI.cellL (i:=2) rfl]
    match j with
    | 0=>simpa [Value.cells] using hj
    | j+1=>simp at hj
   ·simp [Value.oneCell']
   ·rw [A8] at hI
    have hI:=hI.pick [true,true,false]
    refine hend (b:=b3) (o:=.cells #[.int .i64 k,.int .i64 n,.string s,kv] ab) (l++[n]) ?_ ?_
    ·have e:Item.row v' eW 1 (l.length+1) (ints (l++[n]))=ge v' (l++[n]):=by simp [ge]
     exact e ▸ hI
    ·rw [<- hr,vS,if_neg (by rw [hno]; decide)]
 ·have hr:cI ks l=eD (.mk k n s ks) l:=by rw [eD,if_neg hk]
  refine ⟨fun i t w'=>∃ (j:Nat) (l':List Int),j<=ks.length/\i=.int .i64 j/\cI (ks.drop j) l'=cI ks l/\l'.length+cU (ks.drop j)<=1000000000/\Inv w (bW [ge v l]) [.blk b3 (.cells #[.int .i64 k,.int .i64 n,.string s,kv] ab),ge t l'] S w',
   fun i _ _=>ks.length - (intOf i).toNat,⟨0,l,Nat.zero_le _,rfl,rfl,by rw [List.drop_zero]; omega,hI⟩,?_⟩
  intro t6 _ _ t0 _ _ _ _ _ _ _ _ _ _ _ _ w'
  rintro ⟨j,l',hj,rfl,hrel,hl',hI⟩
  refine ao hI 0 rfl aK aJ rfl ?_
  refine bp hks aC ?_
  refine cg ?_
  refine bz (fun hji=>?_) (fun hji=>?_)
  ·have hj':j<ks.length:=by omega
   rw [pl ks j hj'] at hl'
   rw [List.drop_eq_getElem_cons hj',cI] at hrel
   have hc1:=eE (ks.drop (j+1))
   have hc2:=kr ks[j] l'
   refine ao hI 0 rfl aK aJ rfl ?_
   refine cJ hI hks aC ai hj' (fun _ _=>RdT.length) fun cs' hcs'=>?_
   refine Run.call (A:=[_]) ie g9 hI (ih _ (List.getElem_mem hj') S cs' t0 l' hcs' (by omega)) fun v' I' S' w'=>?_
   rintro ⟨rfl,rfl⟩ _ hI
   refine bT (by omega) ?_
   exact ⟨⟨j+1,_,hj',rfl,hrel,by omega,hI⟩,by simp [intOf]; omega⟩
  ·have:j=ks.length:=by omega
   subst this
   rw [List.drop_length,cI] at hrel
   exact hend l' hI (by rw [hrel,hr])

end Go.Proofs.YtfcbhfjomgopbaaGreat

/- Flat clauses and programs, on both sides. -/
namespace Go.Proofs.YtfcbhfjomgopbaaGreat
open Go Go.RowKit
attribute [local irreducible] Run CondV ag aO

section
variable {P:Program} {w w0:World} {X:List Nat} {L:List Item} {S:al} {K:Value->World->Prop}
end
end Go.Proofs.YtfcbhfjomgopbaaGreat

/- The row's reading of the arguments gives the reading of this proof; and what a law that returns true owes. -/
namespace Go.Proofs.YtfcbhfjomgopbaaGreat
open Go Go.ChangeShapes Go.WideShapes Go.ChangeAt Go.RowKit

def IV (W:World):al:=fun b=>W.heap[b]?
section
variable {H:Type} {enc:TypeId × Value->H} {P:Program} {W:World} {sp:Nat->Bool} {held:Bool}
theorem I8 {a:Addr} {v:Value} (h:W.cell? a=some v):∃ b o c E fz,a=⟨b,o,none⟩/\W.heap[b]?=some (.cells c E fz)/\c[o]?=some v:=by
 obtain ⟨b,o,s⟩:=a
 simp only [World.cell?] at h
 split at h
 ·rename_i c E fz hb
  cases s with
  | none=>exact ⟨b,o,c,E,fz,rfl,hb,by simpa using h⟩
  | some s=>simp at h
 ·cases h
theorem Lj {b o k:Nat} {cs:List Value} {c:Array Value} {E:TypeId} {fz:Nat × Nat} (hb:W.heap[b]?=some (.cells c E fz)) (h:W.cells? 0 ⟨b,o,none⟩ k=some cs):bm c o k=cs:=by
 unfold World.cells? at h
 rw [if_pos (Nat.zero_le _)] at h
 have hl:cs.length=k:=by simpa using mapM_some_length h
 apply List.ext_getElem?
 intro i
 rw [bm,List.getElem?_take]
 by_cases hi:i<k
 ·rw [if_pos hi,List.getElem?_drop]
  have:=mapM_some_get h i i (by simp [hi])
  rw [<- this,iA]
  simp [World.cell?,hb]
 ·rw [if_neg hi,List.getElem?_eq_none (by omega)]
theorem tZ {α:Type} (p:Nat->α->Prop):∀ n:Nat,(∀ i,i<n->∃ t,p i t)->∃ xs:List α,xs.length=n/\∀ i (h:i<xs.length),p i xs[i]
 | 0,_=>⟨[],rfl,fun i h=>by simp at h⟩
 | n+1,h=>by
  obtain ⟨xs,hl,hx⟩:=tZ p n fun i hi=>h i (by omega)
  obtain ⟨t,ht⟩:=h n (by omega)
  refine ⟨xs++[t],by simp [hl],fun i hi=>?_⟩
  by_cases e:i<xs.length
  ·rw [List.getElem_append_left e]
   exact hx i e
  ·have:i=xs.length:=by simp at hi; omega
   subst this
   simp only [List.getElem_append_right (Nat.le_refl _),Nat.sub_self,List.getElem_cons_zero]
   rw [hl]
   exact ht
theorem tY {T e:TypeId} {k:Nat} (h:cw P T=some (e,k)):P.underlying T=some (.slice e)/\P.cellsOf e=k:=by
 unfold cw at h
 split at h
 ·rename_i e' he
  rw [Option.map_eq_some_iff] at h
  obtain ⟨i,hi,hx⟩:=h
  simp only [Prod.mk.injEq] at hx
  obtain ⟨rfl,rfl⟩:=hx
  exact ⟨he,by simp [Program.cellsOf,hi]⟩
 ·cases h
theorem Mq {α:Type} {R:List Value->α->Prop} {T e:TypeId} {k fuel:Nat} {v:Value} {x:DataW H × List MemPlace} (hu:cw P T=some (e,k)) (hk0:0<k)
  (h:DataW.trod enc P W 0 sp held fuel T [v]=some x) (hel:∀ n cs y,fuel=n+1->DataW.trod enc P W 0 sp held n e cs=some y->∃ t:α,R cs t):∃ xs,RdSl (IV W) k R v xs:=by
 obtain ⟨hu1,hk⟩:=tY hu
 rcases DataW.trod_slice hu1 h with ⟨hcs,_⟩|⟨a,len,cap,elems,rest,n,hf,hcs,_,_,hl,hc,hlen,hE,_⟩
 ·simp only [List.cons.injEq,and_true] at hcs
  subst hcs
  exact ⟨[],none,0,rfl,Nat.le_refl _,Nat.zero_le _,.inl rfl⟩
 ·simp only [List.cons.injEq,and_true] at hcs
  subst hcs
  have hE':∀ i,i<len->∃ t:α,∃ cs,W.cells? 0 (a.add (i * k)) k=some cs/\R cs t:=by
   intro i hi
   have:=hE i hi
   rw [hk,List.getElem?_eq_getElem (by omega),Option.bind_eq_some_iff] at this
   obtain ⟨cs,h1,h2⟩:=this
   obtain ⟨t,ht⟩:=hel n cs _ hf h2
   exact ⟨t,cs,h1,ht⟩
  obtain ⟨xs,hxl,hxs⟩:=tZ _ len hE'
  subst hxl
  refine ⟨xs,some a,cap,rfl,hl,hc,?_⟩
  by_cases h0:xs.length=0
  ·exact .inl (List.eq_nil_of_length_eq_zero h0)
  ·obtain ⟨cs0,h1,_⟩:=hxs 0 (by omega)
   have e0:a.add (0 * k)=a:=by rw [Nat.zero_mul]; simp [Addr.add]
   rw [e0] at h1
   have hc0:∃ u,W.cell? a=some u:=by
    unfold World.cells? at h1
    rw [if_pos (Nat.zero_le _)] at h1
    have hl0:cs0.length=k:=by simpa using mapM_some_length h1
    have:=mapM_some_get h1 0 0 (by simp [hk0])
    rw [List.getElem?_eq_getElem (by omega)] at this
    have e1:a.add 0=a:=by simp [Addr.add]
    rw [e1] at this
    exact ⟨_,this⟩
   obtain ⟨u,hu0⟩:=hc0
   obtain ⟨b,o,c,E,fz,rfl,hb,_⟩:=I8 hu0
   refine .inr ⟨b,o,c,E,fz,rfl,hb,fun i hi=>?_⟩
   obtain ⟨cs,h2,hR⟩:=hxs i hi
   rw [iA] at h2
   rw [Lj hb h2]
   exact hR
end

section
variable {H:Type} {enc:TypeId × Value->H} {W:World} {sp:Nat->Bool} {held:Bool}
end

theorem Inv.entry (W:World):Inv W [] [] (IV W) W:=Inv.start (L:=[]) (by simp) (by simp [bW]) fun b o hb=>⟨hb,by simp [bW]⟩
theorem Inv.same {W W':World} {L:List Item} {S:al} (h:Inv W [] L S W') (b:Nat) (hb:b<W.heap.size):W'.heap[b]?=W.heap[b]?:=h.old b hb (by simp)
theorem I7 {W W':World} {may:MemPlace->Prop} (ho:W'.os=W.os) (hp:W'.output=W.output) (h:∀ b,b<W.heap.size->W'.heap[b]?=W.heap[b]?):W.keptBut W' may:=by
 refine ⟨ho,hp,fun i hi=>?_⟩
 rw [h i hi]
 split
 ·rename_i e1 e2
  rw [e1] at e2
  simp only [Option.some.injEq,Obj.cells.injEq] at e2
  obtain ⟨rfl,rfl,rfl⟩:=e2
  exact ⟨rfl,rfl,rfl,fun _ _=>rfl⟩
 ·rename_i e1 e2
  rw [e1] at e2
  simp only [Option.some.injEq,Obj.map.injEq] at e2
  obtain ⟨rfl,rfl⟩:=e2
  exact .inr ⟨rfl,rfl⟩
 ·rfl

end Go.Proofs.YtfcbhfjomgopbaaGreat

/- The sizes: laws.szTerm and its kin. -/
namespace Go.Proofs.YtfcbhfjomgopbaaGreat
open Go Go.RowKit
attribute [local irreducible] Run CondV ag aO


end Go.Proofs.YtfcbhfjomgopbaaGreat

/- Equality of terms and clauses as the laws ask it. -/
namespace Go.Proofs.YtfcbhfjomgopbaaGreat
open Go Go.RowKit
attribute [local irreducible] Run CondV ag aO

mutual
def eqT:T->T->Bool
 | .mk k n s ks,.mk k' n' s' ks'=>decide (k=k') && (decide (n=n') && (decide (s=s') && eqL ks ks'))
def eqL:List T->List T->Bool
 | [],[]=>true
 | t::ts,u::us=>eqT t u && eqL ts us
 | _,_=>false
end
mutual
theorem Mn:∀ a b:T,eqT a b=true↔a=b
 | .mk k n s ks,.mk k' n' s' ks'=>by
  simp only [eqT,Bool.and_eq_true,decide_eq_true_eq,BR ks ks',T.mk.injEq]
theorem BR:∀ a b:List T,eqL a b=true↔a=b
 | [],[]=>by simp [eqL]
 | [],_::_=>by simp [eqL]
 | _::_,[]=>by simp [eqL]
 | t::ts,u::us=>by
  simp only [eqL,Bool.and_eq_true,Mn t u,BR ts us,List.cons.injEq]
end
theorem MA:∀ {a b:List T},a.length≠b.length->eqL a b=false:=by
 intro a b h
 rw [<- Bool.not_eq_true,BR]
 rintro rfl
 exact h rfl
theorem KL {a b c d e:Value}:∀ (j:Nat) (v:Value),([a,b,c,d]:List Value)[j]?=some v->(#[a,b,c,d,e]:Array Value)[0+j]?=some v
 | 0,_,h|1,_,h|2,_,h|3,_,h=>h
 | j+4,_,h=>by simp at h

end Go.Proofs.YtfcbhfjomgopbaaGreat

/- The sizes of clauses and of programs, and what they bound. -/
namespace Go.Proofs.YtfcbhfjomgopbaaGreat
open Go Go.RowKit
attribute [local irreducible] Run CondV ag aO

/- toClauseS, and what it made published -/
theorem Run.toClauseS {w w0:World} {X:List Nat} {L:List Item} {S:al} {K:Value->World->Prop} {p:List C} {v:Value} (hI:Inv w0 X L S w) (h:RdSl S 5 (RdC S) v p) (hw:p.length+wP p<=1048576)
  (hk:∀ v' S' w',Sle S S'->RdSl S' 5 (RdC S') v' p->Inv w0 X L S' w'->K v' w'):Run Tryz.prog (fN (.func (.func od) #[] #[]) [v]) w K:=by
 refine Run.call0 y6 wX hI (wx h hw) fun v' I' S' w'=>?_
 rintro ⟨rfl,M,rfl,hT⟩ _ hI
 obtain ⟨S2,hI,hle,hins,_⟩:=Inv.publishAll M hI
 exact hk _ _ _ hle (hT.rd hins fun _ _ _ hi h=>h.rd hi) hI
theorem Run.toClause {w w0:World} {X:List Nat} {L:List Item} {S:al} {K:Value->World->Prop} {c:C} {cs:List Value} (hI:Inv w0 X L S w) (h:RdC S cs c) (hw:wC c<=1048576)
  (hk:∀ cs' S' w',Sle S S'->RdC S' cs' c->Inv w0 X L S' w'->K (.agg cs'.toArray) w'):Run Tryz.prog (fN (.func (.func qF) #[] #[]) [.agg cs.toArray]) w K:=by
 refine Run.call0 o8 oF hI (mt h hw) fun v' I' S' w'=>?_
 rintro ⟨rfl,cs',M,rfl,rfl,hT⟩ _ hI
 obtain ⟨S2,hI,hle,hins,_⟩:=Inv.publishAll M hI
 exact hk _ _ _ hle (hT.rd hins) hI
theorem Run.toTerm {w w0:World} {X:List Nat} {L:List Item} {S:al} {K:Value->World->Prop} {t:T} {cs:List Value} (hI:Inv w0 X L S w) (h:RdT S cs t) (hw:wT t<=1048576)
  (hk:∀ cs' S' w',Sle S S'->RdT S' cs' t->Inv w0 X L S' w'->K (.agg cs'.toArray) w'):Run Tryz.prog (fN (.func (.func pn) #[] #[]) [.agg cs.toArray]) w K:=by
 refine Run.call0 mF mo hI (kS _ S _ h hw) fun v' I' S' w'=>?_
 rintro ⟨rfl,cs',M,rfl,rfl,hT⟩ _ hI
 obtain ⟨S2,hI,hle,hins,_⟩:=Inv.publishAll M hI
 exact hk _ _ _ hle (hT.rd hins) hI
theorem Run.toTermS {w w0:World} {X:List Nat} {L:List Item} {S:al} {K:Value->World->Prop} {p:List T} {v:Value} (hI:Inv w0 X L S w) (h:RdSl S 4 (RdT S) v p) (hw:p.length+wL p<=1048576)
  (hk:∀ v' S' w',Sle S S'->RdSl S' 4 (RdT S') v' p->Inv w0 X L S' w'->K v' w'):Run Tryz.prog (fN (.func (.func mM) #[] #[]) [v]) w K:=by
 refine Run.call0 kw kI hI (oc h hw) fun v' I' S' w'=>?_
 rintro ⟨rfl,M,rfl,hT⟩ _ hI
 obtain ⟨S2,hI,hle,hins,_⟩:=Inv.publishAll M hI
 exact hk _ _ _ hle (hT.rd hins fun _ _ _ hi h=>h.rd hi) hI

end Go.Proofs.YtfcbhfjomgopbaaGreat

/- The laws' marks: laws.markText. -/
namespace Go.Proofs.YtfcbhfjomgopbaaGreat
open Go Go.RowKit
section
variable {P:Program} {w w0:World} {X:List Nat} {L:List Item} {S:al} {K:Value->World->Prop}
attribute [local irreducible] Run CondV ag aO
theorem Oe {T:TypeId} {cx cy:Bool} {a b:Int} (hb:b≠0) (hk:K (.int .i64 (a.tmod b)) w):Run P (cS .rem T cx cy (.int .i64 a) (.int .i64 b)) w K:=
 Run.of (by simp [cS,cC,binOp,Op.intDiv,hb]) hk
theorem N1 {T:TypeId} {cx cy:Bool} {a b:Int} (hb:b≠0) (hr:-9223372036854775808<=a.tdiv b/\a.tdiv b<=9223372036854775807) (hk:K (.int .i64 (a.tdiv b)) w):Run P (cS .quo T cx cy (.int .i64 a) (.int .i64 b)) w K:=
 Run.of (by simp [cS,cC,binOp,Op.intDiv,hb,IntWalk.i64_in _ hr]) hk
end

section
attribute [local irreducible] Run CondV ag aO
end

end Go.Proofs.YtfcbhfjomgopbaaGreat

/- The laws' marks, written into trees of the function's own. -/
namespace Go.Proofs.YtfcbhfjomgopbaaGreat
open Go Go.RowKit

theorem Part.upd {α:Type} {k:Nat} {R:bG->List Value->α->Prop} {c c':Array Value} {Ls:List bG} {xs:List α} (h:Part k R c Ls xs) {i:Nat} {L':bG} {x:α} (hx:R L' (bm c' (i * k) k) x)
  (hne:∀ j,j≠i->bm c' (j * k) k=bm c (j * k) k):Part k R c' (Ls.set i L') (xs.set i x):=by
 refine ⟨by simp [h.1],fun j h1 h2=>?_⟩
 by_cases e:i=j
 ·subst e
  rw [List.getElem_set_self,List.getElem_set_self]
  exact hx
 ·rw [List.getElem_set_ne e,List.getElem_set_ne e,hne j fun e'=>e e'.symm]
  exact h.2 j (by simpa using h1) (by simpa using h2)
section
attribute [local irreducible] Run CondV ag aO
end

end Go.Proofs.YtfcbhfjomgopbaaGreat

/- The laws' marks, written into clauses of the function's own. -/
namespace Go.Proofs.YtfcbhfjomgopbaaGreat
open Go Go.RowKit

section
attribute [local irreducible] Run CondV ag aO
theorem TrC.parts {L:bG} {cs:List Value} {c:C} (h:TrC L cs c):∃ kv ks L1 L2,cs=[.int .i64 c.head.kind,.int .i64 c.head.n,.string c.head.name,kv,ks]/\L=L1++L2/\TrSl 4 TrT L1 kv c.head.kids/\TrSl 4 TrT L2 ks c.body:=by
 obtain ⟨hd,ks,L1,L2,rfl,rfl,h1,h2⟩:=h
 obtain ⟨kv,rfl,_,_,_,hkT⟩:=TrT.iff.1 h1
 exact ⟨kv,ks,L1,L2,rfl,rfl,hkT,h2⟩
end

end Go.Proofs.YtfcbhfjomgopbaaGreat

/- The laws' marks, read again. -/
namespace Go.Proofs.YtfcbhfjomgopbaaGreat
open Go Go.RowKit

section
attribute [local irreducible] Run CondV ag aO
end

end Go.Proofs.YtfcbhfjomgopbaaGreat

/- Names of goals with their numbers of arguments: built, compared; the clauses for one. -/
namespace Go.Proofs.YtfcbhfjomgopbaaGreat
open Go Go.RowKit

section
variable {w:World} {K:Value->World->Prop}
attribute [local irreducible] Run
end

attribute [local irreducible] Run CondV ag aO
structure Pd where
 name:ByteArray
 arity:Int
deriving DecidableEq
def Pd.cells (x:Pd):List Value:=[.string x.name,.int .i64 x.arity]
def gE (t:T):Pd:=⟨t.name,t.kids.length⟩
def CL (x y:Pd):Bool:=decide (x.name=y.name) && decide (x.arity=y.arity)
def jw (f:C->Bool):List C->Nat->List Int
 | [],_=>[]
 | c::cs,k=>if f c=true then (k:Int)::jw f cs (k+1) else jw f cs (k+1)
theorem FG (f:C->Bool):∀ (p:List C) (k:Nat) (n:Int),n∈jw f p k->∃ i:Nat,(k:Int)<=n/\n=k+i/\∃ h:i<p.length,f p[i]=true
 | [],k,n,h=>by simp [jw] at h
 | c::cs,k,n,h=>by
  have hrec:n∈jw f cs (k+1)->∃ i:Nat,(k:Int)<=n/\n=k+i/\∃ h:i<(c::cs).length,f (c::cs)[i]=true:=by
   intro h
   obtain ⟨i,h1,h2,h3,h4⟩:=FG f cs (k+1) n h
   exact ⟨i+1,by omega,by omega,by simpa using h3,by simpa using h4⟩
  rw [jw] at h
  split at h
  ·rcases List.mem_cons.1 h with rfl|h
   ·exact ⟨0,by omega,by omega,by simp,by simpa using ‹f c=true›⟩
   ·exact hrec h
  ·exact hrec h
end Go.Proofs.YtfcbhfjomgopbaaGreat

/- The clauses for a goal; which clauses can be unfolded: both sides. -/
namespace Go.Proofs.YtfcbhfjomgopbaaGreat
open Go Go.RowKit
attribute [local irreducible] Run CondV ag aO

theorem Gj (f:C->Bool) (p:List C) (k:Nat) (h:k<p.length) (l:List Int):(if f p[k]=true then l++[(k:Int)] else l)++jw f (p.drop (k+1)) (k+1)=l++jw f (p.drop k) k:=by
 rw [List.drop_eq_getElem_cons h,jw]
 split
 ·rw [List.append_assoc]; rfl
 ·rfl

theorem Ep {p:List C} {g:T} {S:al} {v:Value} {cs:List Value} (h:RdSl S 5 (RdC S) v p) (hg:RdT S cs g) (hp:p.length<=2000000) :
  Tri Tryz.prog JU [v,.agg cs.toArray] [] S (Ea S (jw (fun c=>CL (gE c.head) (gE g)) p 0)):=by
 intro w hI
 obtain ⟨gv,rfl,_,_,hgs,hgk⟩:=RdT.iff.1 hg
 obtain ⟨gk,gn,gs,gks⟩:=g
 simp only [T.name,T.kids,T.kind,T.n] at hgs hgk ⊢
 refine Ap ?_
 unfold xi
 refine bS hI fun b3 w' hI=>?_
 refine eh hI nL fun v0 w' hI=>?_
 refine ⟨fun i t w'=>∃ (k:Nat) (l:List Int),k<=p.length/\i=.int .i64 k/\l++jw (fun c=>CL (gE c.head) (gE (.mk gk gn gs gks))) (p.drop k) k=jw (fun c=>CL (gE c.head) (gE (.mk gk gn gs gks))) p 0/\l.length<=k/\
   Inv w [] [.blk b3 (.cells #[.int .i64 gk,.int .i64 gn,.string gs,gv] ab),ge t l] S w',fun i _ _=>p.length - (intOf i).toNat,⟨0,[],Nat.zero_le _,rfl,rfl,Nat.le_refl _,hI⟩,?_⟩
 intro t6 _ _ t5 _ _ _ _ t35 t34 t33 t32 t31 t30 t29 t28 t27 t26 t25 t24 t23 t22 t21 t20 t19 t18 t17 t16 t15 t14 _ _ _ _ w'
 rintro ⟨k,l,hk,rfl,hrel,hl,hI⟩
 refine bp h fl ?_
 refine cg ?_
 refine bz (fun hki=>?_) (fun hki=>?_)
 ·have hk':k<p.length:=by omega
  refine ⟨fun t w'=>Inv w [] [.blk b3 (.cells #[.int .i64 gk,.int .i64 gn,.string gs,gv] ab),ge t (if CL (gE p[k].head) (gE (.mk gk gn gs gks))=true then l++[(k:Int)] else l)] S w',?_,?_⟩
  ·obtain ⟨b,o,cap,c,E,fz,rfl,hS,hR⟩:=h.at_ hk'
   obtain ⟨hd,ks2,hcs,h1,h2⟩:=hR
   obtain ⟨kv,rfl,_,_,hs1,hk1⟩:=RdT.iff.1 h1
   have hf0:CL (gE p[k].head) (gE (.mk gk gn gs gks))=(decide (p[k].head.name=gs) && decide ((p[k].head.kids.length:Int)=gks.length)):=rfl
   cases hq:decide (p[k].head.name=gs)
   ·have hf:CL (gE p[k].head) (gE (.mk gk gn gs gks))=false:=by rw [hf0,hq]; rfl
    refine ⟨fun D kP ul lI rN jP jc jK gC mz oA ki qu uQ sH nU ku oZ xE tz BD Cx wH w_=>(D 0=true->wH=.slice (some ⟨b,o,none⟩) p.length cap)/\(D 1=true->Cx=.int .i64 k)/\(D 2=true->BD=.pointer (some ⟨b,o+k * 5,none⟩))/\(D 3=true->tz=.pointer (some ⟨b,o+k * 5,none⟩))/\(D 4=true->xE=.pointer (some ⟨b,o+k * 5+2,none⟩))/\(D 5=true->oZ=.string p[k].head.name)/\(D 6=true->ku=.pointer (some ⟨b3,2,none⟩))/\(D 7=true->nU=.string gs)/\(D 8=true->sH=.bool false)/\(D 9=true->uQ=.bool false)/\(D 10=true->qu=undef)/\(D 11=true->ki=undef)/\(D 12=true->oA=undef)/\(D 13=true->mz=undef)/\(D 14=true->gC=undef)/\(D 15=true->jK=undef)/\(D 16=true->jc=undef)/\(D 17=true->jP=undef)/\(D 18=true->rN=undef)/\(D 19=true->lI=undef)/\(D 20=true->ul=undef)/\(D 21=true->kP=.bool false)/\Inv w [] [.blk b3 (.cells #[.int .i64 gk,.int .i64 gn,.string gs,gv] ab),ge t5 l] S w_,⟨ac,ac,ac,ac,ac,ac,ac,ac,ac,ac,ac,ac,ac,ac,ac,ac,ac,ac,ac,ac,ac,ac,hI.draw⟩,⟨?_,?_,?_,?_,?_,?_,?_,?_,?_,?_,?_,?_,?_,?_,?_,?_,?_,?_,?_,?_,?_,?_,trivial⟩,?_⟩
    all_goals (intro D bX; intros; rename_i kP ul lI rN jP jc jK gC mz oA ki qu uQ sH nU ku oZ xE tz BD Cx wH w_ hA_; obtain ⟨ax,ay,az,aA,aF,aH,aE,aM,aN,aR,aq,ar,aD,aP,aQ,aT,aU,aV,aZ,bg,bk,bt,hI⟩:=hA_)
    ·exact ⟨fun _=>rfl,ay,az,aA,aF,aH,aE,aM,aN,aR,aq,ar,aD,aP,aQ,aT,aU,aV,aZ,bg,bk,bt,hI⟩
    ·exact ⟨ax,fun _=>rfl,az,aA,aF,aH,aE,aM,aN,aR,aq,ar,aD,aP,aQ,aT,aU,aV,aZ,bg,bk,bt,hI⟩
    ·obtain rfl:=ax ‹_›
     obtain rfl:=ay ‹_›
     refine be fl hk' ?_
     exact ⟨ax,ay,fun _=>rfl,aA,aF,aH,aE,aM,aN,aR,aq,ar,aD,aP,aQ,aT,aU,aV,aZ,bg,bk,bt,hI⟩
    ·obtain rfl:=az ‹_›
     refine aI dt ?_
     exact ⟨ax,ay,az,fun _=>rfl,aF,aH,aE,aM,aN,aR,aq,ar,aD,aP,aQ,aT,aU,aV,aZ,bg,bk,bt,hI⟩
    ·obtain rfl:=aA ‹_›
     refine aI bB ?_
     exact ⟨ax,ay,az,aA,fun _=>rfl,aH,aE,aM,aN,aR,aq,ar,aD,aP,aQ,aT,aU,aV,aZ,bg,bk,bt,hI⟩
    ·obtain rfl:=aF ‹_›
     refine dc bn (by rw [hI.cellS hS]; exact bh hcs 2 _ rfl) ?_
     exact ⟨ax,ay,az,aA,aF,fun _=>rfl,aE,aM,aN,aR,aq,ar,aD,aP,aQ,aT,aU,aV,aZ,bg,bk,bt,hI⟩
    ·refine aI bB ?_
     exact ⟨ax,ay,az,aA,aF,aH,fun _=>rfl,aM,aN,aR,aq,ar,aD,aP,aQ,aT,aU,aV,aZ,bg,bk,bt,hI⟩
    ·obtain rfl:=aE ‹_›
     refine aX hI 0 bn rfl rfl ?_
     exact ⟨ax,ay,az,aA,aF,aH,aE,fun _=>rfl,aN,aR,aq,ar,aD,aP,aQ,aT,aU,aV,aZ,bg,bk,bt,hI⟩
    ·obtain rfl:=aH ‹_›
     obtain rfl:=aM ‹_›
     refine bJ ?_; rw [hq]
     exact ⟨ax,ay,az,aA,aF,aH,aE,aM,fun _=>rfl,aR,aq,ar,aD,aP,aQ,aT,aU,aV,aZ,bg,bk,bt,hI⟩
    ·obtain rfl:=aN ‹_›
     exact ⟨ax,ay,az,aA,aF,aH,aE,aM,aN,fun _=>rfl,aq,ar,aD,aP,aQ,aT,aU,aV,aZ,bg,bk,bt,hI⟩
    ·obtain rfl:=aR ‹_›
     refine af (c:=false) (b:=true) (by decide) ?_
     exact ⟨ax,ay,az,aA,aF,aH,aE,aM,aN,aR,fun _=>rfl,ar,aD,aP,aQ,aT,aU,aV,aZ,bg,bk,bt,hI⟩
    ·obtain rfl:=aR ‹_›
     refine af (c:=false) (b:=true) (by decide) ?_
     exact ⟨ax,ay,az,aA,aF,aH,aE,aM,aN,aR,aq,fun _=>rfl,aD,aP,aQ,aT,aU,aV,aZ,bg,bk,bt,hI⟩
    ·obtain rfl:=aq ‹_›
     obtain rfl:=ar ‹_›
     obtain rfl:=aR ‹_›
     refine af (c:=false) (b:=true) (by decide) ?_
     exact ⟨ax,ay,az,aA,aF,aH,aE,aM,aN,aR,aq,ar,fun _=>rfl,aP,aQ,aT,aU,aV,aZ,bg,bk,bt,hI⟩
    ·obtain rfl:=aD ‹_›
     obtain rfl:=aR ‹_›
     refine af (c:=false) (b:=true) (by decide) ?_
     exact ⟨ax,ay,az,aA,aF,aH,aE,aM,aN,aR,aq,ar,aD,fun _=>rfl,aQ,aT,aU,aV,aZ,bg,bk,bt,hI⟩
    ·obtain rfl:=aP ‹_›
     obtain rfl:=aR ‹_›
     refine af (c:=false) (b:=true) (by decide) ?_
     exact ⟨ax,ay,az,aA,aF,aH,aE,aM,aN,aR,aq,ar,aD,aP,fun _=>rfl,aT,aU,aV,aZ,bg,bk,bt,hI⟩
    ·obtain rfl:=aQ ‹_›
     obtain rfl:=aR ‹_›
     refine af (c:=false) (b:=true) (by decide) ?_
     exact ⟨ax,ay,az,aA,aF,aH,aE,aM,aN,aR,aq,ar,aD,aP,aQ,fun _=>rfl,aU,aV,aZ,bg,bk,bt,hI⟩
    ·obtain rfl:=aT ‹_›
     obtain rfl:=aR ‹_›
     refine af (c:=false) (b:=true) (by decide) ?_
     exact ⟨ax,ay,az,aA,aF,aH,aE,aM,aN,aR,aq,ar,aD,aP,aQ,aT,fun _=>rfl,aV,aZ,bg,bk,bt,hI⟩
    ·obtain rfl:=aR ‹_›
     refine af (c:=false) (b:=true) (by decide) ?_
     exact ⟨ax,ay,az,aA,aF,aH,aE,aM,aN,aR,aq,ar,aD,aP,aQ,aT,aU,fun _=>rfl,aZ,bg,bk,bt,hI⟩
    ·obtain rfl:=aV ‹_›
     obtain rfl:=aR ‹_›
     refine af (c:=false) (b:=true) (by decide) ?_
     exact ⟨ax,ay,az,aA,aF,aH,aE,aM,aN,aR,aq,ar,aD,aP,aQ,aT,aU,aV,fun _=>rfl,bg,bk,bt,hI⟩
    ·obtain rfl:=aZ ‹_›
     obtain rfl:=aR ‹_›
     refine af (c:=false) (b:=true) (by decide) ?_
     exact ⟨ax,ay,az,aA,aF,aH,aE,aM,aN,aR,aq,ar,aD,aP,aQ,aT,aU,aV,aZ,fun _=>rfl,bk,bt,hI⟩
    ·obtain rfl:=aU ‹_›
     obtain rfl:=bg ‹_›
     obtain rfl:=aR ‹_›
     refine af (c:=false) (b:=true) (by decide) ?_
     exact ⟨ax,ay,az,aA,aF,aH,aE,aM,aN,aR,aq,ar,aD,aP,aQ,aT,aU,aV,aZ,bg,fun _=>rfl,bt,hI⟩
    ·obtain rfl:=aR ‹_›
     obtain rfl:=bk ‹_›
     refine aj ?_
     exact ⟨ax,ay,az,aA,aF,aH,aE,aM,aN,aR,aq,ar,aD,aP,aQ,aT,aU,aV,aZ,bg,bk,fun _=>rfl,hI⟩
    obtain rfl:=bt ‹_›
    obtain rfl:=bk ‹_›
    obtain rfl:=bg ‹_›
    obtain rfl:=aZ ‹_›
    obtain rfl:=aV ‹_›
    obtain rfl:=aU ‹_›
    obtain rfl:=aT ‹_›
    obtain rfl:=aQ ‹_›
    obtain rfl:=aP ‹_›
    obtain rfl:=aD ‹_›
    obtain rfl:=ar ‹_›
    obtain rfl:=aq ‹_›
    obtain rfl:=aR ‹_›
    obtain rfl:=aN ‹_›
    obtain rfl:=aM ‹_›
    obtain rfl:=aE ‹_›
    obtain rfl:=aH ‹_›
    obtain rfl:=aF ‹_›
    obtain rfl:=aA ‹_›
    obtain rfl:=az ‹_›
    obtain rfl:=ay ‹_›
    obtain rfl:=ax ‹_›
    clear ax ay az aA aF aH aE aM aN aR aq ar aD aP aQ aT aU aV aZ bg bk bt
    refine aS (fun hb=>by cases hb) (fun hb=>?_)
    rw [hf,if_neg (by decide)]
    exact hI
   ·have hf:CL (gE p[k].head) (gE (.mk gk gn gs gks))=decide ((p[k].head.kids.length:Int)=gks.length):=by rw [hf0,hq]; rfl
    refine ⟨fun D kP ul lI rN jP jc jK gC mz oA ki qu uQ sH nU ku oZ xE tz BD Cx wH w_=>(D 0=true->wH=.slice (some ⟨b,o,none⟩) p.length cap)/\(D 1=true->Cx=.int .i64 k)/\(D 2=true->BD=.pointer (some ⟨b,o+k * 5,none⟩))/\(D 3=true->tz=.pointer (some ⟨b,o+k * 5,none⟩))/\(D 4=true->xE=.pointer (some ⟨b,o+k * 5+2,none⟩))/\(D 5=true->oZ=.string p[k].head.name)/\(D 6=true->ku=.pointer (some ⟨b3,2,none⟩))/\(D 7=true->nU=.string gs)/\(D 8=true->sH=.bool true)/\(D 9=true->uQ=.bool true)/\(D 10=true->qu=.slice (some ⟨b,o,none⟩) p.length cap)/\(D 11=true->ki=.int .i64 k)/\(D 12=true->oA=.pointer (some ⟨b,o+k * 5,none⟩))/\(D 13=true->mz=.pointer (some ⟨b,o+k * 5,none⟩))/\(D 14=true->gC=.pointer (some ⟨b,o+k * 5+3,none⟩))/\(D 15=true->jK=kv)/\(D 16=true->jc=.int .i64 p[k].head.kids.length)/\(D 17=true->jP=.pointer (some ⟨b3,3,none⟩))/\(D 18=true->rN=gv)/\(D 19=true->lI=.int .i64 gks.length)/\(D 20=true->ul=.bool (decide ((p[k].head.kids.length:Int)=gks.length)))/\(D 21=true->kP=.bool (decide ((p[k].head.kids.length:Int)=gks.length)))/\Inv w [] [.blk b3 (.cells #[.int .i64 gk,.int .i64 gn,.string gs,gv] ab),ge t5 l] S w_,⟨ac,ac,ac,ac,ac,ac,ac,ac,ac,ac,ac,ac,ac,ac,ac,ac,ac,ac,ac,ac,ac,ac,hI.draw⟩,⟨?_,?_,?_,?_,?_,?_,?_,?_,?_,?_,?_,?_,?_,?_,?_,?_,?_,?_,?_,?_,?_,?_,trivial⟩,?_⟩
    all_goals (intro D bX; intros; rename_i kP ul lI rN jP jc jK gC mz oA ki qu uQ sH nU ku oZ xE tz BD Cx wH w_ hA_; obtain ⟨ax,ay,az,aA,aF,aH,aE,aM,aN,aR,aq,ar,aD,aP,aQ,aT,aU,aV,aZ,bg,bk,bt,hI⟩:=hA_)
    ·exact ⟨fun _=>rfl,ay,az,aA,aF,aH,aE,aM,aN,aR,aq,ar,aD,aP,aQ,aT,aU,aV,aZ,bg,bk,bt,hI⟩
    ·exact ⟨ax,fun _=>rfl,az,aA,aF,aH,aE,aM,aN,aR,aq,ar,aD,aP,aQ,aT,aU,aV,aZ,bg,bk,bt,hI⟩
    ·obtain rfl:=ax ‹_›
     obtain rfl:=ay ‹_›
     refine be fl hk' ?_
     exact ⟨ax,ay,fun _=>rfl,aA,aF,aH,aE,aM,aN,aR,aq,ar,aD,aP,aQ,aT,aU,aV,aZ,bg,bk,bt,hI⟩
    ·obtain rfl:=az ‹_›
     refine aI dt ?_
     exact ⟨ax,ay,az,fun _=>rfl,aF,aH,aE,aM,aN,aR,aq,ar,aD,aP,aQ,aT,aU,aV,aZ,bg,bk,bt,hI⟩
    ·obtain rfl:=aA ‹_›
     refine aI bB ?_
     exact ⟨ax,ay,az,aA,fun _=>rfl,aH,aE,aM,aN,aR,aq,ar,aD,aP,aQ,aT,aU,aV,aZ,bg,bk,bt,hI⟩
    ·obtain rfl:=aF ‹_›
     refine dc bn (by rw [hI.cellS hS]; exact bh hcs 2 _ rfl) ?_
     exact ⟨ax,ay,az,aA,aF,fun _=>rfl,aE,aM,aN,aR,aq,ar,aD,aP,aQ,aT,aU,aV,aZ,bg,bk,bt,hI⟩
    ·refine aI bB ?_
     exact ⟨ax,ay,az,aA,aF,aH,fun _=>rfl,aM,aN,aR,aq,ar,aD,aP,aQ,aT,aU,aV,aZ,bg,bk,bt,hI⟩
    ·obtain rfl:=aE ‹_›
     refine aX hI 0 bn rfl rfl ?_
     exact ⟨ax,ay,az,aA,aF,aH,aE,fun _=>rfl,aN,aR,aq,ar,aD,aP,aQ,aT,aU,aV,aZ,bg,bk,bt,hI⟩
    ·obtain rfl:=aH ‹_›
     obtain rfl:=aM ‹_›
     refine bJ ?_; rw [hq]
     exact ⟨ax,ay,az,aA,aF,aH,aE,aM,fun _=>rfl,aR,aq,ar,aD,aP,aQ,aT,aU,aV,aZ,bg,bk,bt,hI⟩
    ·obtain rfl:=aN ‹_›
     exact ⟨ax,ay,az,aA,aF,aH,aE,aM,aN,fun _=>rfl,aq,ar,aD,aP,aQ,aT,aU,aV,aZ,bg,bk,bt,hI⟩
    ·obtain rfl:=aR ‹_›
     refine ad ?_
     exact ⟨ax,ay,az,aA,aF,aH,aE,aM,aN,aR,fun _=>rfl,ar,aD,aP,aQ,aT,aU,aV,aZ,bg,bk,bt,hI⟩
    ·obtain rfl:=aR ‹_›
     refine ad ?_
     exact ⟨ax,ay,az,aA,aF,aH,aE,aM,aN,aR,aq,fun _=>rfl,aD,aP,aQ,aT,aU,aV,aZ,bg,bk,bt,hI⟩
    ·obtain rfl:=aq ‹_›
     obtain rfl:=ar ‹_›
     obtain rfl:=aR ‹_›
     refine ad ?_; refine be fl hk' ?_
     exact ⟨ax,ay,az,aA,aF,aH,aE,aM,aN,aR,aq,ar,fun _=>rfl,aP,aQ,aT,aU,aV,aZ,bg,bk,bt,hI⟩
    ·obtain rfl:=aD ‹_›
     obtain rfl:=aR ‹_›
     refine ad ?_; refine aI dt ?_
     exact ⟨ax,ay,az,aA,aF,aH,aE,aM,aN,aR,aq,ar,aD,fun _=>rfl,aQ,aT,aU,aV,aZ,bg,bk,bt,hI⟩
    ·obtain rfl:=aP ‹_›
     obtain rfl:=aR ‹_›
     refine ad ?_; refine aI aK ?_
     exact ⟨ax,ay,az,aA,aF,aH,aE,aM,aN,aR,aq,ar,aD,aP,fun _=>rfl,aT,aU,aV,aZ,bg,bk,bt,hI⟩
    ·obtain rfl:=aQ ‹_›
     obtain rfl:=aR ‹_›
     refine ad ?_; refine dc aJ (by rw [hI.cellS hS]; exact bh hcs 3 _ rfl) ?_
     exact ⟨ax,ay,az,aA,aF,aH,aE,aM,aN,aR,aq,ar,aD,aP,aQ,fun _=>rfl,aU,aV,aZ,bg,bk,bt,hI⟩
    ·obtain rfl:=aT ‹_›
     obtain rfl:=aR ‹_›
     refine ad ?_; refine bp hk1 aC ?_
     exact ⟨ax,ay,az,aA,aF,aH,aE,aM,aN,aR,aq,ar,aD,aP,aQ,aT,fun _=>rfl,aV,aZ,bg,bk,bt,hI⟩
    ·obtain rfl:=aR ‹_›
     refine ad ?_; refine aI aK ?_
     exact ⟨ax,ay,az,aA,aF,aH,aE,aM,aN,aR,aq,ar,aD,aP,aQ,aT,aU,fun _=>rfl,aZ,bg,bk,bt,hI⟩
    ·obtain rfl:=aV ‹_›
     obtain rfl:=aR ‹_›
     refine ad ?_; refine aX hI 0 aJ rfl rfl ?_
     exact ⟨ax,ay,az,aA,aF,aH,aE,aM,aN,aR,aq,ar,aD,aP,aQ,aT,aU,aV,fun _=>rfl,bg,bk,bt,hI⟩
    ·obtain rfl:=aZ ‹_›
     obtain rfl:=aR ‹_›
     refine ad ?_; refine bp hgk aC ?_
     exact ⟨ax,ay,az,aA,aF,aH,aE,aM,aN,aR,aq,ar,aD,aP,aQ,aT,aU,aV,aZ,fun _=>rfl,bk,bt,hI⟩
    ·obtain rfl:=aU ‹_›
     obtain rfl:=bg ‹_›
     obtain rfl:=aR ‹_›
     refine ad ?_; refine bP ?_
     exact ⟨ax,ay,az,aA,aF,aH,aE,aM,aN,aR,aq,ar,aD,aP,aQ,aT,aU,aV,aZ,bg,fun _=>rfl,bt,hI⟩
    ·obtain rfl:=aR ‹_›
     obtain rfl:=bk ‹_›
     refine ak ?_
     exact ⟨ax,ay,az,aA,aF,aH,aE,aM,aN,aR,aq,ar,aD,aP,aQ,aT,aU,aV,aZ,bg,bk,fun _=>rfl,hI⟩
    obtain rfl:=bt ‹_›
    obtain rfl:=bk ‹_›
    obtain rfl:=bg ‹_›
    obtain rfl:=aZ ‹_›
    obtain rfl:=aV ‹_›
    obtain rfl:=aU ‹_›
    obtain rfl:=aT ‹_›
    obtain rfl:=aQ ‹_›
    obtain rfl:=aP ‹_›
    obtain rfl:=aD ‹_›
    obtain rfl:=ar ‹_›
    obtain rfl:=aq ‹_›
    obtain rfl:=aR ‹_›
    obtain rfl:=aN ‹_›
    obtain rfl:=aM ‹_›
    obtain rfl:=aE ‹_›
    obtain rfl:=aH ‹_›
    obtain rfl:=aF ‹_›
    obtain rfl:=aA ‹_›
    obtain rfl:=az ‹_›
    obtain rfl:=ay ‹_›
    obtain rfl:=ax ‹_›
    clear ax ay az aA aF aH aE aM aN aR aq ar aD aP aQ aT aU aV aZ bg bk bt
    refine aS (fun hb=>?_) (fun hb=>?_)
    ·refine dh hI nL rfl (by omega) (by omega) fun b w' hI=>?_
     refine fm hI 1 (k:=1) [.int .i64 k] nL (by omega) rfl rfl ?_ ?_ (by omega) (by omega) fun v' w' hI=>?_
     ·intro j u hj
      rw [hI.cellL (i:=2) rfl]
      match j with
      | 0=>simpa [Value.cells] using hj
      | j+1=>simp at hj
     ·simp [Value.oneCell']
     ·rw [A8] at hI
      have hI:=hI.pick [true,true,false]
      rw [hf,if_pos hb]
      have e:Item.row v' eW 1 (l.length+1) (ints (l++[(k:Int)]))=ge v' (l++[(k:Int)]):=by simp [ge]
      rw [show List.length l+1=l.length+1 from rfl,e] at hI
      exact hI
    ·rw [hf,if_neg (by rw [hb]; decide)]
     exact hI
  intro t5 _ _ _ _ _ _ _ _ _ _ _ _ _ _ _ _ _ _ _ _ _ _ _ _ _ _ w' hI
  refine bT (by omega) ?_
  refine ⟨⟨k+1,_,hk',rfl,?_,?_,hI⟩,by simp [intOf]; omega⟩
  ·rw [Gj (fun c=>CL (gE c.head) (gE (.mk gk gn gs gks))) p k hk' l,hrel]
  ·split
   ·simp; omega
   ·omega
 ·have:k=p.length:=by omega
  subst this
  rw [List.drop_length,jw,List.append_nil] at hrel
  subst hrel
  exact ⟨_,_,_,rfl,hI.pick [false,true],Ext.refl _ _ _,rfl,rfl⟩

end Go.Proofs.YtfcbhfjomgopbaaGreat

/- Lists of predicates: asked and grown, on both sides. -/
namespace Go.Proofs.YtfcbhfjomgopbaaGreat
open Go Go.RowKit
attribute [local irreducible] Run CondV ag aO

end Go.Proofs.YtfcbhfjomgopbaaGreat

/- Marks in rows of predicates; trees lent and taken back. -/
namespace Go.Proofs.YtfcbhfjomgopbaaGreat
open Go Go.RowKit

/- a tree of the function's own, handed to readers, and taken back -/
theorem Inv.lendAll {w0 w:World} {X:List Nat} {A:List Item} (M:bG) {S:al} (h:Inv w0 X (A++bV M) S w) :
  ∃ S',Sle S S'/\Ins S' M/\Inv w0 X A S' w/\∀ B w',Inv w0 X B S' w'->Inv w0 X (B++bV M) S w':=by
 obtain ⟨S',h1,h2,h3,h4⟩:=Inv.publishAll M h
 have hnd:=h.nd
 rw [co,List.nodup_append] at hnd
 refine ⟨S',h2,h3,h1,fun B w' hB=>⟨hB.size,hB.os,hB.tape,hB.output,hB.old,fun it hit=>?_,?_,fun b hb=>?_,fun b o hb=>⟨(hB.pub b o (h2 b o hb)).1,fun hb'=>?_⟩⟩⟩
 ·rcases List.mem_append.1 hit with hit|hit
  ·exact hB.its it hit
  ·obtain ⟨p,hp,rfl⟩:=List.mem_map.1 hit
   exact (hB.pub _ _ (h3 p hp)).1
 ·rw [co,List.nodup_append]
  refine ⟨hB.nd,hnd.2.1,fun a ha b hb e=>?_⟩
  subst e
  obtain ⟨p,hp,rfl⟩:=gS.1 hb
  exact (hB.pub _ _ (h3 p hp)).2 ha
 ·rw [co] at hb
  rcases List.mem_append.1 hb with hb|hb
  ·exact hB.new b hb
  ·exact h.new b (by rw [co]; exact List.mem_append_right _ hb)
 ·rw [co] at hb'
  rcases List.mem_append.1 hb' with hb'|hb'
  ·exact (hB.pub b o (h2 b o hb)).2 hb'
  ·exact (h.pub b o hb).2 (by rw [co]; exact List.mem_append_right _ hb')
/- a row seen as its block -/
theorem Inv.openRow {w0 w:World} {X:List Nat} {A:List Item} {S:al} {v:Value} {e:TypeId} {k n:Nat} {xs:List Value} (h:Inv w0 X (A++[.row v e k n xs]) S w) :
  xs.length=n * k/\((v=.slice none 0 0/\n=0) ∨ ∃ g cap cur,v=.slice (some ⟨g,0,none⟩) n cap/\n<=cap/\cap<=maxLen/\cur.size=cap * k/\cur.toList.take (n * k)=xs/\Inv w0 X (A++[.blk g (.cells cur e)]) S w):=by
 have hm:w.ownsRow 0 e k v n xs:=h.its (.row v e k n xs) (by simp)
 obtain ⟨hl,hm⟩:=hm
 refine ⟨hl,?_⟩
 rcases hm with hn|⟨g,cap,cur,rfl,_,hg,hnc,hcm,hcs,ht⟩
 ·exact .inl hn
 ·have hf:bW (A++[Item.blk g (.cells cur e)])=bW (A++[Item.row (.slice (some ⟨g,0,none⟩) n cap) e k n xs]):=by
   simp [bW,Item.foot,Value.ownBlock]
  refine .inr ⟨g,cap,cur,rfl,hnc,hcm,hcs,ht,h.size,h.os,h.tape,h.output,h.old,fun it hit=>?_,by rw [hf]; exact h.nd,by rw [hf]; exact h.new,by rw [hf]; exact h.pub⟩
  rcases List.mem_append.1 hit with hit|hit
  ·exact h.its it (List.mem_append_left _ hit)
  ·simp at hit
   subst hit
   exact hg
theorem Inv.closeRow {w0 w:World} {X:List Nat} {A:List Item} {S:al} {g cap k n:Nat} {cur:Array Value} {e:TypeId} (h:Inv w0 X (A++[.blk g (.cells cur e)]) S w) (hn:n<=cap) (hc:cap<=maxLen) (hs:cur.size=cap * k) :
  Inv w0 X (A++[.row (.slice (some ⟨g,0,none⟩) n cap) e k n (cur.toList.take (n * k))]) S w:=by
 have hg:w.heap[g]?=some (.cells cur e):=h.its (.blk g (.cells cur e)) (by simp)
 have hf:bW (A++[Item.row (.slice (some ⟨g,0,none⟩) n cap) e k n (cur.toList.take (n * k))])=bW (A++[Item.blk g (.cells cur e)]):=by
  simp [bW,Item.foot,Value.ownBlock]
 refine ⟨h.size,h.os,h.tape,h.output,h.old,fun it hit=>?_,by rw [hf]; exact h.nd,by rw [hf]; exact h.new,by rw [hf]; exact h.pub⟩
 rcases List.mem_append.1 hit with hit|hit
 ·exact h.its it (List.mem_append_left _ hit)
 ·simp at hit
  subst hit
  refine ⟨?_,.inr ⟨g,cap,cur,rfl,Nat.zero_le _,hg,hn,hc,hs,rfl⟩⟩
  rw [List.length_take,Array.length_toList,hs]
  exact Nat.min_eq_left (Nat.mul_le_mul_right k hn)

section
attribute [local irreducible] Run CondV ag aO
end

end Go.Proofs.YtfcbhfjomgopbaaGreat

/- Trees grown by append; impl.own and its kin. -/
namespace Go.Proofs.YtfcbhfjomgopbaaGreat
open Go Go.RowKit

structure Grown {α:Type} (k:Nat) (R:bG->List Value->α->Prop) (Ls:List bG) (css:List (List Value)) (ys:List α):Prop where
 hL:Ls.length=ys.length
 hc:css.length=ys.length
 hk:∀ cs∈css,cs.length=k
 hR:∀ i (h:i<ys.length) (h1:i<Ls.length) (h2:i<css.length),R Ls[i] css[i] ys[i]
theorem Grown.nil {α:Type} (k:Nat) (R:bG->List Value->α->Prop):Grown k R [] [] ([]:List α):=⟨rfl,rfl,by simp,fun i h=>by simp at h⟩
theorem Grown.snoc {α:Type} {k:Nat} {R:bG->List Value->α->Prop} {Ls:List bG} {css:List (List Value)} {ys:List α} (h:Grown k R Ls css ys) {L:bG} {cs:List Value} {y:α} (hR:R L cs y) (hl:cs.length=k) :
  Grown k R (Ls++[L]) (css++[cs]) (ys++[y]):=by
 refine ⟨by simp [h.hL],by simp [h.hc],fun c hc=>?_,fun i h0 h1 h2=>?_⟩
 ·rcases List.mem_append.1 hc with hc|hc
  ·exact h.hk c hc
  ·simp at hc; subst hc; exact hl
 ·have e1:=h.hL
  have e2:=h.hc
  by_cases hi:i<ys.length
  ·rw [List.getElem_append_left (by omega),List.getElem_append_left (by omega),List.getElem_append_left hi]
   exact h.hR i hi (by omega) (by omega)
  ·have:i=ys.length:=by simp at h0; omega
   subst this
   rw [List.getElem_append_right (by omega),List.getElem_append_right (by omega),List.getElem_append_right (by omega)]
   simp only [e1,e2,Nat.sub_self,List.getElem_cons_zero]
   exact hR
theorem fT (k:Nat):∀ (css:List (List Value)) (i:Nat) (_:∀ cs∈css,cs.length=k) (h:i<css.length),(css.flatten.drop (i * k)).take k=css[i]
 | [],i,_,h=>by simp at h
 | c::css,0,hk,_=>by
  have:=hk c (List.mem_cons_self ..)
  rw [List.flatten_cons,Nat.zero_mul,List.drop_zero,List.take_append_of_le_length (by omega),List.take_of_length_le (by omega)]
  rfl
 | c::css,i+1,hk,h=>by
  have:=hk c (List.mem_cons_self ..)
  rw [List.flatten_cons,Nat.succ_mul,Nat.add_comm,<- List.drop_drop,List.drop_left' this]
  exact fT k css i (fun cs hc=>hk cs (List.mem_cons_of_mem _ hc)) (by simpa using h)
abbrev bq (v:Value) (e:TypeId) (k:Nat) (css:List (List Value)):Item:=.row v e k css.length css.flatten
theorem Inv.rowTree {α:Type} {w0 w:World} {X:List Nat} {A:List Item} {S:al} {v:Value} {e:TypeId} {k:Nat} {R:bG->List Value->α->Prop} {Ls:List bG} {css:List (List Value)} {ys:List α}
  (h:Inv w0 X (A++(bq v e k css::bV Ls.flatten)) S w) (hg:Grown k R Ls css ys):∃ L,TrSl k R L v ys/\Inv w0 X (A++bV L) S w:=by
 have hp:List.Perm ((A++bV Ls.flatten)++[bq v e k css]) (A++(bq v e k css::bV Ls.flatten)):=by
  rw [List.append_assoc]
  exact List.Perm.append_left _ List.perm_append_comm
 obtain ⟨hl,ho⟩:=(h.perm hp).openRow
 have hcy:=hg.hc
 have hLy:=hg.hL
 rcases ho with ⟨rfl,h0⟩|⟨g,cap,cur,rfl,hnc,hcm,hcs,ht,hI⟩
 ·have:ys=[]:=List.eq_nil_of_length_eq_zero (by omega)
  subst this
  refine ⟨[],TrSl.nil (by simp [maxLen]),?_⟩
  simpa [bV] using h.sub (List.sublist_append_left _ _)
 ·by_cases hy:ys=[]
  ·subst hy
   have:css=[]:=List.eq_nil_of_length_eq_zero (by simpa using hcy)
   subst this
   refine ⟨[],TrSl.nil hcm,?_⟩
   simpa [bV] using h.sub (List.sublist_append_left _ _)
  ·refine ⟨(g,.cells cur e)::Ls.flatten,⟨_,cap,by rw [hcy],by omega,hcm,.inr ⟨g,cur,e,Ls,rfl,rfl,hLy,by omega,fun i h1 h2=>?_⟩⟩,?_⟩
   ·have hik:i * k+k<=css.length * k:=by rw [<- Nat.succ_mul]; exact Nat.mul_le_mul_right k (by omega)
    have:=fT k css i hg.hk (by omega)
    rw [<- ht,List.drop_take,List.take_take,Nat.min_eq_left (by omega)] at this
    rw [bm,this]
    exact hg.hR i h1 h2 (by omega)
   ·refine hI.perm ?_
    rw [List.append_assoc]
    exact List.Perm.append_left _ (List.perm_append_comm (l₁:=[Item.blk g (.cells cur e)]))
theorem f1 (v:Value) (e:TypeId) (k:Nat) (css:List (List Value)) (cs:List Value):Item.row v e k (css.length+1) (css.flatten++cs)=bq v e k (css++[cs]):=by
 simp [bq]
section
variable {P:Program} {w w0:World} {X:List Nat} {L:List Item} {S:al} {K:Value->World->Prop}
attribute [local irreducible] Run CondV ag aO
/- append(row, x): x is put into a block of its own first -/
theorem f0 (h:Inv w0 X L S w) {T ty e:TypeId} {k by_:Nat} {z v:Value} {cs:List Bool} {css:List (List Value)} (i:Nat) (xs:List Value)
  (hT:fB P T=some (e,k,by_,z)) (hk0:0<k) (hk24:k<=65536) (hi:L[i]?=some (bq v e k css)) (hl:xs.length=k) (h1:∀ u∈xs,u.oneCell'=true) (hfit:css.length+1<=4294967296) (hby:by_<=32768)
  (hk:∀ v' w',Inv w0 X (L.set i (bq v' e k (css++[xs]))) S w'->K v' w') :
  Run P (av T 1 [(0,.agg xs.toArray)]) w fun u w'=>Run P (bx .append #[T,T] ty cs [v,u]) w' K:=by
 refine dh h hT (by simp [Value.cells,hl]) hk24 hk0 fun b w' hI=>?_
 have hil:i<L.length:=(List.getElem?_eq_some_iff.1 hi).1
 refine fm hI i xs hT hk0 (by rw [List.getElem?_append_left hil]; exact hi) (by omega) (m:=1) (o:=0) ?_ h1 hfit hby fun v' w' hI=>?_
 ·intro j u hj
  rw [hI.cellL (i:=L.length) (by rw [List.getElem?_append_right (Nat.le_refl _),Nat.sub_self]; rfl)]
  rw [Nat.zero_add]
  simpa [Value.cells] using hj
 ·refine hk _ _ ?_
  rw [<- f1]
  rw [List.set_append_left _ _ hil] at hI
  exact hI.sub (List.sublist_append_left _ _)
end

section
attribute [local irreducible] Run CondV ag aO
end

end Go.Proofs.YtfcbhfjomgopbaaGreat

/- impl.ownClause, impl.ownProgram. -/
namespace Go.Proofs.YtfcbhfjomgopbaaGreat
open Go Go.RowKit
section
variable {w:World} {K:Value->World->Prop}
attribute [local irreducible] Run
theorem uW {a b:Int} {s:ByteArray} {k:Value} (hk:K (.agg #[.int .i64 a,.int .i64 b,.string s,k,.slice none 0 0]) w):Run Tryz.prog (bD bw [(0,.agg #[.int .i64 a,.int .i64 b,.string s,k])]) w K:=by
 refine Run.of (v:=.agg #[.int .i64 a,.int .i64 b,.string s,k,.slice none 0 0]) (w':=w) ?_ hk
 unfold bD
 rw [Sem.run_bind,run_build w bw _ #[.int .i64 a,.int .i64 b,.string s,k,.slice none 0 0] (by kernel_rfl),Result.andThen_ok]
 rfl
theorem ia {a b:Int} {s:ByteArray} (hk:K (.agg #[.int .i64 a,.int .i64 b,.string s,.slice none 0 0]) w):Run Tryz.prog (bD ab [(0,.int .i64 a),(1,.int .i64 b),(2,.string s)]) w K:=by
 refine Run.of (v:=.agg #[.int .i64 a,.int .i64 b,.string s,.slice none 0 0]) (w':=w) ?_ hk
 unfold bD
 rw [Sem.run_bind,run_build w ab _ #[.int .i64 a,.int .i64 b,.string s,.slice none 0 0] (by kernel_rfl),Result.andThen_ok]
 rfl
end
section
attribute [local irreducible] Run CondV ag aO
end

end Go.Proofs.YtfcbhfjomgopbaaGreat

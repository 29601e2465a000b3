/- Goals, clauses, programs, queries: which are valid, on both sides. -/
import Derived.Test.YtemmhhdnlbmicaaGreatZMe0
import Derived.Test.YtemmhhdnlbmicaaGreatRows
import Derived.ProofKit
import Derived.ReadAgain
import Derived.Carry
import Derived.Test.YtemmhhdnlbmicaaGreatZMeS
import Derived.Test.YtemmhhdnlbmicaaGreatZMeF
import Derived.Test.YtemmhhdnlbmicaaGreatZMeh1
import Derived.Laws.BytesArg
namespace Go.Proofs.YtemmhhdnlbmicaaGreat
open Go Go.RowKit
section
variable {P:Program} {w:World} {K:Value->World->Prop} {ty:TypeId}
theorem ac {b:Bool} {A B:Prop} (h:B):ah undef b A B:=by unfold ah; exact h
theorem al {v u:Value} (hk:K v w):Run P (sOp (.pick (.const (.bool true)) (.const v) (.const u)) ty) w K:=qL hk
theorem aj {v u:Value} (hk:K u w):Run P (sOp (.pick (.const (.bool false)) (.const v) (.const u)) ty) w K:=qL hk
end
attribute [local irreducible] Run CondV ah be

def Au:List ByteArray:=[⟨#[61]⟩,⟨#[92,61]⟩,⟨#[61,61]⟩,⟨#[60]⟩,⟨#[62]⟩,⟨#[61,60]⟩,⟨#[62,61]⟩,⟨#[61,58,61]⟩,⟨#[105,115]⟩]
def qI:List ByteArray:=[⟨#[116,114,117,101]⟩,⟨#[102,97,105,108]⟩]
def Ac:List ByteArray:=[⟨#[118,97,114]⟩,⟨#[110,111,110,118,97,114]⟩,⟨#[97,116,111,109]⟩,⟨#[105,110,116]⟩]
def Ip:List ByteArray:=[⟨#[43]⟩,⟨#[45]⟩]
def yR:List ByteArray:=[⟨#[42]⟩,⟨#[47,47]⟩,⟨#[109,111,100]⟩]
def fR (s:ByteArray) (l:List ByteArray):Bool:=l.any fun x=>decide (s=x)
def gy (s:ByteArray) (n:Int):Bool:=
 if fR s Au=true then decide (n=2)
 else if fR s qI=true then decide (n=0)
 else if fR s Ac=true then decide (n=1)
 else if s=⟨#[97,114,103]⟩ then decide (n=3)
 else false
def dg (s:ByteArray):Int:=if fR s Au=true then 3 else if fR s Ip=true then 2 else if fR s yR=true then 1 else 0
def In (t:T):Bool:=decide (t.kind=3) && (decide (t.name=⟨#[33]⟩) && decide (t.kids.length=0))
def KW (t:T):Bool:=decide (t.kind=3) && decide (t.kids.length=0)
def qK (t:T):Bool:=decide (t.kind=3) && gy t.name t.kids.length
def ei (t:T):Bool:=decide (t.kind=3) && (kG t.name && (!gy t.name t.kids.length && decide (dg t.name=0)))
def g8 (t:T):Bool:=ft t && (In t || (ei t || qK t))
def dC (c:C):Bool:=decide (c.body.length<=6) && (c.body.all g8 && (ft c.head && ei c.head))
def CD (l:List T):Bool:=decide (l.length<=6) && l.all g8
def lo (p:List C):Bool:=decide (p.length<=20) && p.all dC
theorem JV (s:ByteArray):(!decide (0<dg s))=decide (dg s=0):=by
 unfold dg
 split
 ·rfl
 ·split
  ·rfl
  ·split <;> rfl

theorem lJ (s:ByteArray) (n:Int) (S:aF):Pure Tryz.prog Be [.string s,.int .i64 n] S (.bool (gy s n)):=by
 intro w hI
 refine tq ?_
 unfold oo
 obtain ⟨q,hq⟩:∃ q,fR s Au=q:=⟨_,rfl⟩
 have hq1:=hq
 refine ⟨fun t w'=>t=.bool q/\Inv w [] [] S w',?_,?_⟩
 ·unfold fR Au at hq
  iterate 8
   refine cN ?_
   refine ba (fun h=>⟨by rw [List.any_cons,h] at hq; rw [h,<- hq]; rfl,hI⟩) (fun h=>?_)
   rw [List.any_cons,h,Bool.false_or] at hq
  refine cN ⟨?_,hI⟩
  rw [<- hq]; simp
 intro t _ _ _ _ _ _ _ _ _ w'
 rintro ⟨rfl,hI⟩
 refine ba (fun h=>?_) (fun h=>?_)
 ·exact bR (done hI (by rw [gy,if_pos (hq1.trans h)]))
 have e1:gy s n=if fR s qI=true then decide (n=0) else if fR s Ac=true then decide (n=1) else if s=⟨#[97,114,103]⟩ then decide (n=3) else false:=by
  rw [gy,if_neg (by rw [hq1,h]; decide)]
 clear hq hq1 h
 obtain ⟨q,hq⟩:∃ q,fR s qI=q:=⟨_,rfl⟩
 have hq1:=hq
 refine ⟨fun t w'=>t=.bool q/\Inv w [] [] S w',?_,?_⟩
 ·unfold fR qI at hq
  refine cN ?_
  refine ba (fun h=>⟨by rw [List.any_cons,h] at hq; rw [h,<- hq]; rfl,hI⟩) (fun h=>?_)
  rw [List.any_cons,h,Bool.false_or] at hq
  refine cN ⟨?_,hI⟩
  rw [<- hq]; simp
 intro _ t _ w'
 rintro ⟨rfl,hI⟩
 refine ba (fun h=>?_) (fun h=>?_)
 ·exact bR (done hI (by rw [e1,if_pos (hq1.trans h)]))
 rw [if_neg (by rw [hq1,h]; decide)] at e1
 clear hq hq1 h
 obtain ⟨q,hq⟩:∃ q,fR s Ac=q:=⟨_,rfl⟩
 have hq1:=hq
 refine ⟨fun t w'=>t=.bool q/\Inv w [] [] S w',?_,?_⟩
 ·unfold fR Ac at hq
  iterate 3
   refine cN ?_
   refine ba (fun h=>⟨by rw [List.any_cons,h] at hq; rw [h,<- hq]; rfl,hI⟩) (fun h=>?_)
   rw [List.any_cons,h,Bool.false_or] at hq
  refine cN ⟨?_,hI⟩
  rw [<- hq]; simp
 intro _ _ _ t _ w'
 rintro ⟨rfl,hI⟩
 refine ba (fun h=>?_) (fun h=>?_)
 ·exact bR (done hI (by rw [e1,if_pos (hq1.trans h)]))
 rw [if_neg (by rw [hq1,h]; decide)] at e1
 refine cN ?_
 refine bl (fun h=>?_) (fun h=>?_)
 ·exact bR (done hI (by rw [e1,if_pos h]))
 ·exact done hI (by rw [e1,if_neg h])
theorem uI (s:ByteArray) (n:Int) (S:aF):Pure Tryz.prog Av [.string s,.int .i64 n] S (.bool (gy s n)):=by
 intro w hI
 refine rf ?_
 unfold nI
 obtain ⟨q,hq⟩:∃ q,fR s Au=q:=⟨_,rfl⟩
 have hq1:=hq
 refine ⟨fun t w'=>t=.bool q/\Inv w [] [] S w',?_,?_⟩
 ·unfold fR Au at hq
  iterate 8
   refine cN ?_
   refine ba (fun h=>⟨by rw [List.any_cons,h] at hq; rw [h,<- hq]; rfl,hI⟩) (fun h=>?_)
   rw [List.any_cons,h,Bool.false_or] at hq
  refine cN ⟨?_,hI⟩
  rw [<- hq]; simp
 intro t _ _ _ _ _ _ _ _ _ w'
 rintro ⟨rfl,hI⟩
 refine ba (fun h=>?_) (fun h=>?_)
 ·exact bR (done hI (by rw [gy,if_pos (hq1.trans h)]))
 have e1:gy s n=if fR s qI=true then decide (n=0) else if fR s Ac=true then decide (n=1) else if s=⟨#[97,114,103]⟩ then decide (n=3) else false:=by
  rw [gy,if_neg (by rw [hq1,h]; decide)]
 clear hq hq1 h
 obtain ⟨q,hq⟩:∃ q,fR s qI=q:=⟨_,rfl⟩
 have hq1:=hq
 refine ⟨fun t w'=>t=.bool q/\Inv w [] [] S w',?_,?_⟩
 ·unfold fR qI at hq
  refine cN ?_
  refine ba (fun h=>⟨by rw [List.any_cons,h] at hq; rw [h,<- hq]; rfl,hI⟩) (fun h=>?_)
  rw [List.any_cons,h,Bool.false_or] at hq
  refine cN ⟨?_,hI⟩
  rw [<- hq]; simp
 intro _ t _ w'
 rintro ⟨rfl,hI⟩
 refine ba (fun h=>?_) (fun h=>?_)
 ·exact bR (done hI (by rw [e1,if_pos (hq1.trans h)]))
 rw [if_neg (by rw [hq1,h]; decide)] at e1
 clear hq hq1 h
 obtain ⟨q,hq⟩:∃ q,fR s Ac=q:=⟨_,rfl⟩
 have hq1:=hq
 refine ⟨fun t w'=>t=.bool q/\Inv w [] [] S w',?_,?_⟩
 ·unfold fR Ac at hq
  iterate 3
   refine cN ?_
   refine ba (fun h=>⟨by rw [List.any_cons,h] at hq; rw [h,<- hq]; rfl,hI⟩) (fun h=>?_)
   rw [List.any_cons,h,Bool.false_or] at hq
  refine cN ⟨?_,hI⟩
  rw [<- hq]; simp
 intro _ _ _ t _ w'
 rintro ⟨rfl,hI⟩
 refine ba (fun h=>?_) (fun h=>?_)
 ·exact bR (done hI (by rw [e1,if_pos (hq1.trans h)]))
 rw [if_neg (by rw [hq1,h]; decide)] at e1
 refine cN ?_
 refine bl (fun h=>?_) (fun h=>?_)
 ·exact bR (done hI (by rw [e1,if_pos h]))
 ·exact done hI (by rw [e1,if_neg h])

theorem ex (s:ByteArray) (S:aF):Pure Tryz.prog FC [.string s] S (.int .i64 (dg s)):=by
 intro w hI
 refine ws ?_
 unfold sn
 obtain ⟨q,hq⟩:∃ q,fR s Au=q:=⟨_,rfl⟩
 have hq1:=hq
 refine ⟨fun t w'=>t=.bool q/\Inv w [] [] S w',?_,?_⟩
 ·unfold fR Au at hq
  iterate 8
   refine cN ?_
   refine ba (fun h=>⟨by rw [List.any_cons,h] at hq; rw [h,<- hq]; rfl,hI⟩) (fun h=>?_)
   rw [List.any_cons,h,Bool.false_or] at hq
  refine cN ⟨?_,hI⟩
  rw [<- hq]; simp
 intro _ _ _ _ _ _ _ _ t _ w'
 rintro ⟨rfl,hI⟩
 refine ba (fun h=>?_) (fun h=>?_)
 ·exact done hI (by rw [show dg s=3 from if_pos (hq1.trans h)] <;> rfl)
 have e1:dg s=if fR s Ip=true then 2 else if fR s yR=true then 1 else 0:=by
  rw [dg,if_neg (by rw [hq1,h]; decide)]
 clear hq hq1 h
 obtain ⟨q,hq⟩:∃ q,fR s Ip=q:=⟨_,rfl⟩
 have hq1:=hq
 refine ⟨fun t w'=>t=.bool q/\Inv w [] [] S w',?_,?_⟩
 ·unfold fR Ip at hq
  refine cN ?_
  refine ba (fun h=>⟨by rw [List.any_cons,h] at hq; rw [h,<- hq]; rfl,hI⟩) (fun h=>?_)
  rw [List.any_cons,h,Bool.false_or] at hq
  refine cN ⟨?_,hI⟩
  rw [<- hq]; simp
 intro _ t _ w'
 rintro ⟨rfl,hI⟩
 refine ba (fun h=>?_) (fun h=>?_)
 ·exact done hI (by rw [show dg s=2 from e1.trans (if_pos (hq1.trans h))] <;> rfl)
 rw [if_neg (by rw [hq1,h]; decide)] at e1
 clear hq hq1 h
 obtain ⟨q,hq⟩:∃ q,fR s yR=q:=⟨_,rfl⟩
 have hq1:=hq
 refine ⟨fun t w'=>t=.bool q/\Inv w [] [] S w',?_,?_⟩
 ·unfold fR yR at hq
  iterate 2
   refine cN ?_
   refine ba (fun h=>⟨by rw [List.any_cons,h] at hq; rw [h,<- hq]; rfl,hI⟩) (fun h=>?_)
   rw [List.any_cons,h,Bool.false_or] at hq
  refine cN ⟨?_,hI⟩
  rw [<- hq]; simp
 intro _ _ t _ w'
 rintro ⟨rfl,hI⟩
 refine ba (fun h=>?_) (fun h=>?_)
 ·exact done hI (by rw [show dg s=1 from e1.trans (if_pos (hq1.trans h))] <;> rfl)
 ·exact done hI (by rw [show dg s=0 from e1.trans (if_neg (by rw [hq1,h]; decide))] <;> rfl)
theorem wN (s:ByteArray) (S:aF):Pure Tryz.prog Ga [.string s] S (.tuple #[.int .i64 (dg s),.bool (decide (dg s=1) || decide (dg s=2))]):=by
 intro w hI
 refine xF ?_
 unfold sF
 obtain ⟨q,hq⟩:∃ q,fR s Au=q:=⟨_,rfl⟩
 have hq1:=hq
 refine ⟨fun t w'=>t=.bool q/\Inv w [] [] S w',?_,?_⟩
 ·unfold fR Au at hq
  iterate 8
   refine cN ?_
   refine ba (fun h=>⟨by rw [List.any_cons,h] at hq; rw [h,<- hq]; rfl,hI⟩) (fun h=>?_)
   rw [List.any_cons,h,Bool.false_or] at hq
  refine cN ⟨?_,hI⟩
  rw [<- hq]; simp
 intro _ _ _ _ _ _ _ _ t _ w'
 rintro ⟨rfl,hI⟩
 refine ba (fun h=>?_) (fun h=>?_)
 ·exact done hI (by rw [show dg s=3 from if_pos (hq1.trans h)] <;> rfl)
 have e1:dg s=if fR s Ip=true then 2 else if fR s yR=true then 1 else 0:=by
  rw [dg,if_neg (by rw [hq1,h]; decide)]
 clear hq hq1 h
 obtain ⟨q,hq⟩:∃ q,fR s Ip=q:=⟨_,rfl⟩
 have hq1:=hq
 refine ⟨fun t w'=>t=.bool q/\Inv w [] [] S w',?_,?_⟩
 ·unfold fR Ip at hq
  refine cN ?_
  refine ba (fun h=>⟨by rw [List.any_cons,h] at hq; rw [h,<- hq]; rfl,hI⟩) (fun h=>?_)
  rw [List.any_cons,h,Bool.false_or] at hq
  refine cN ⟨?_,hI⟩
  rw [<- hq]; simp
 intro _ t _ w'
 rintro ⟨rfl,hI⟩
 refine ba (fun h=>?_) (fun h=>?_)
 ·exact done hI (by rw [show dg s=2 from e1.trans (if_pos (hq1.trans h))] <;> rfl)
 rw [if_neg (by rw [hq1,h]; decide)] at e1
 clear hq hq1 h
 obtain ⟨q,hq⟩:∃ q,fR s yR=q:=⟨_,rfl⟩
 have hq1:=hq
 refine ⟨fun t w'=>t=.bool q/\Inv w [] [] S w',?_,?_⟩
 ·unfold fR yR at hq
  iterate 2
   refine cN ?_
   refine ba (fun h=>⟨by rw [List.any_cons,h] at hq; rw [h,<- hq]; rfl,hI⟩) (fun h=>?_)
   rw [List.any_cons,h,Bool.false_or] at hq
  refine cN ⟨?_,hI⟩
  rw [<- hq]; simp
 intro _ _ t _ w'
 rintro ⟨rfl,hI⟩
 refine ba (fun h=>?_) (fun h=>?_)
 ·exact done hI (by rw [show dg s=1 from e1.trans (if_pos (hq1.trans h))] <;> rfl)
 ·exact done hI (by rw [show dg s=0 from e1.trans (if_neg (by rw [hq1,h]; decide))] <;> rfl)

theorem E7 {t:T} {S:aF} {cs:List Value} (h:RdT S cs t):Pure Tryz.prog Ke [.agg cs.toArray] S (.bool (In t)):=by
 intro w hI
 obtain ⟨kv,rfl,_,_,hs,hks⟩:=RdT.iff.1 h
 obtain ⟨k,n,s,ks⟩:=t
 simp only [T.name,T.kids,T.kind,T.n] at hs hks ⊢
 refine AG ?_
 unfold ye;dsimp only
 refine bQ hI fun b1 w' hI=>?_
 refine aI hI 0 rfl bD bo rfl ?_
 refine bR ?_
 rw [show In (.mk k n s ks)=(decide (k=3) && (decide (s=⟨#[33]⟩) && decide (ks.length=0))) from rfl]
 cases h1:decide (k=3)
 ·repeat (first|refine ad ?_|refine af (by decide) ?_|refine ac ?_|refine al ?_|refine aj ?_)
  exact done hI rfl
 ·repeat (first|refine ad ?_|refine af (by decide) ?_|refine ac ?_|refine al ?_|refine aj ?_)
  refine aI hI 0 rfl bp bm rfl ?_
  refine cN ?_
  cases h2:decide (s=⟨#[33]⟩)
  ·repeat (first|refine ad ?_|refine af (by decide) ?_|refine ac ?_|refine al ?_|refine aj ?_)
   exact done hI rfl
  ·repeat (first|refine ad ?_|refine af (by decide) ?_|refine ac ?_|refine al ?_|refine aj ?_)
   refine aI hI 0 rfl aT aR rfl ?_
   refine a9 hks ay ?_
   refine bR ?_
   repeat (first|refine ad ?_|refine af (by decide) ?_|refine ac ?_|refine al ?_|refine aj ?_)
   exact done hI (by simp)

theorem kO {t:T} {S:aF} {cs:List Value} (h:RdT S cs t):Pure Tryz.prog Fe [.agg cs.toArray] S (.bool (ei t)):=by
 intro w hI
 obtain ⟨kv,rfl,_,_,hs,hks⟩:=RdT.iff.1 h
 obtain ⟨k,n,s,ks⟩:=t
 simp only [T.name,T.kids,T.kind,T.n] at hs hks ⊢
 refine wW ?_
 unfold rl;dsimp only
 refine bQ hI fun b1 w' hI=>?_
 refine aI hI 0 rfl bD bo rfl ?_
 refine bR ?_
 rw [show ei (.mk k n s ks)=(decide (k=3) && (kG s && (!gy s ks.length && decide (dg s=0)))) from rfl]
 cases h1:decide (k=3)
 ·repeat (first|refine ad ?_|refine af (by decide) ?_|refine ac ?_|refine al ?_|refine aj ?_)
  exact done hI rfl
 ·repeat (first|refine ad ?_|refine af (by decide) ?_|refine ac ?_|refine al ?_|refine aj ?_)
  refine aI hI 0 rfl bp bm rfl ?_
  refine Run.callPure vv vQ hI (rg s hs S) fun w' hI=>?_
  cases h2:kG s
  ·repeat (first|refine ad ?_|refine af (by decide) ?_|refine ac ?_|refine al ?_|refine aj ?_)
   exact done hI rfl
  ·repeat (first|refine ad ?_|refine af (by decide) ?_|refine ac ?_|refine al ?_|refine aj ?_)
   refine aI hI 0 rfl bp bm rfl ?_
   refine aI hI 0 rfl aT aR rfl ?_
   refine a9 hks ay ?_
   refine Run.callPure nt n5 hI (lJ s _ S) fun w' hI=>?_
   refine dh ?_
   cases h3:gy s ks.length
   ·repeat (first|refine ad ?_|refine af (by decide) ?_|refine ac ?_|refine al ?_|refine aj ?_)
    refine aI hI 0 rfl bp bm rfl ?_
    refine Run.callPure fO fI hI (ex s S) fun w' hI=>?_
    refine bR ?_
    repeat (first|refine ad ?_|refine af (by decide) ?_|refine ac ?_|refine al ?_|refine aj ?_)
    exact done hI rfl
   ·repeat (first|refine ad ?_|refine af (by decide) ?_|refine ac ?_|refine al ?_|refine aj ?_)
    exact done hI rfl

theorem C7 {t:T} {S:aF} {cs:List Value} (h:RdT S cs t):Pure Tryz.prog GX [.agg cs.toArray] S (.bool (In t || (ei t || qK t))):=by
 intro w hI
 have h0:=h
 obtain ⟨kv,rfl,_,_,hs,hks⟩:=RdT.iff.1 h
 obtain ⟨k,n,s,ks⟩:=t
 simp only [T.name,T.kids,T.kind,T.n] at h0 hs hks ⊢
 refine zH ?_
 unfold vU;dsimp only
 refine bQ hI fun b1 w' hI=>?_
 refine bb hI 0 ao rfl rfl ?_
 refine Run.callPure HC H1 hI (E7 h0) fun w' hI=>?_
 cases h1:In (.mk k n s ks)
 ·repeat (first|refine ad ?_|refine af (by decide) ?_|refine ac ?_|refine al ?_|refine aj ?_)
  refine bb hI 0 ao rfl rfl ?_
  refine Run.callPure lZ mg hI (kO h0) fun w' hI=>?_
  cases h2:ei (.mk k n s ks)
  ·repeat (first|refine ad ?_|refine af (by decide) ?_|refine ac ?_|refine al ?_|refine aj ?_)
   refine aI hI 0 rfl bD bo rfl ?_
   refine bR ?_
   rw [show qK (.mk k n s ks)=(decide (k=3) && gy s ks.length) from rfl]
   cases h3:decide (k=3)
   ·repeat (first|refine ad ?_|refine af (by decide) ?_|refine ac ?_|refine al ?_|refine aj ?_)
    exact done hI rfl
   ·repeat (first|refine ad ?_|refine af (by decide) ?_|refine ac ?_|refine al ?_|refine aj ?_)
    refine aI hI 0 rfl bp bm rfl ?_
    refine aI hI 0 rfl aT aR rfl ?_
    refine a9 hks ay ?_
    refine Run.callPure nt n5 hI (lJ s _ S) fun w' hI=>?_
    repeat (first|refine ad ?_|refine af (by decide) ?_|refine ac ?_|refine al ?_|refine aj ?_)
    exact done hI rfl
  ·repeat (first|refine ad ?_|refine af (by decide) ?_|refine ac ?_|refine al ?_|refine aj ?_)
   exact done hI rfl
 ·repeat (first|refine ad ?_|refine af (by decide) ?_|refine ac ?_|refine al ?_|refine aj ?_)
  exact done hI rfl

theorem IX {t:T} (h:wT t<=1048576):eR t<=4611686018427387904:=by
 have:=C0 t
 omega
theorem uN {t:T} {S:aF} {cs:List Value} (h:RdT S cs t) (hc:wT t<=1048576):Pure Tryz.prog A4 [.agg cs.toArray] S (.bool (g8 t)):=by
 intro w hI
 have hl:=h.length
 refine s8 ?_
 unfold ni
 refine bQ hI fun b1 w' hI=>?_
 refine bb hI 0 ao rfl (by simpa [Value.cells] using hl) ?_
 refine Run.callPure nv m8 hI (lx h (IX hc)) fun w' hI=>?_
 rw [g8]
 cases h1:ft t
 ·repeat (first|refine ad ?_|refine af (by decide) ?_|refine ac ?_|refine al ?_|refine aj ?_)
  exact done hI rfl
 ·repeat (first|refine ad ?_|refine af (by decide) ?_|refine ac ?_|refine al ?_|refine aj ?_)
  refine bb hI 0 ao rfl (by simpa [Value.cells] using hl) ?_
  refine Run.callPure E8 El hI (C7 h) fun w' hI=>?_
  repeat (first|refine ad ?_|refine af (by decide) ?_|refine ac ?_|refine al ?_|refine aj ?_)
  exact done hI rfl


theorem LR {ts:List T} {t:T} (h:t∈ts):wT t<=wL ts:=by
 induction ts with
 | nil=>simp at h
 | cons u us ih=>
  rw [wL]
  rcases List.mem_cons.1 h with rfl|h
  ·omega
  ·have:=ih h; omega
/- the loop of a list of goals, whatever comes behind it -/
theorem jN {c:C} {S:aF} {cs:List Value} (h:RdC S cs c) (hc:wC c<=1048576):Pure Tryz.prog wX [.agg cs.toArray] S (.bool (dC c)):=by
 intro w hI
 obtain ⟨hd,ks,rfl,h1,h2⟩:=h
 have h1':=h1
 obtain ⟨kv,rfl,g1,g2,g3,g4⟩:=RdT.iff.1 h1
 have hlen:=h2.le
 simp only [maxLen] at hlen
 unfold wC at hc
 refine pe ?_
 unfold lp;dsimp only
 refine bQ hI fun b1 w' hI=>?_
 refine ⟨fun i w'=>∃ k:Nat,k<=c.body.length/\k<=7/\i=.int .i64 k/\(∀ j (h:j<c.body.length),j<k->g8 c.body[j]=true)/\Inv w [] [.blk b1 (.cells #[.int .i64 c.head.kind,.int .i64 c.head.n,.string c.head.name,kv,ks] aQ)] S w',
  fun i _=>c.body.length - (intOf i).toNat,⟨0,Nat.zero_le _,by omega,rfl,fun j _ h=>by omega,hI⟩,?_⟩
 intro t3 _ _ _ _ _ _ _ _ _ _ _ _ _ _ _ _ _ _ _ w'
 rintro ⟨k,hk,hk7,rfl,hrel,hI⟩
 refine ⟨fun t w'=>t=.bool (decide (k<c.body.length/\k<=6))/\Inv w [] [.blk b1 (.cells #[.int .i64 c.head.kind,.int .i64 c.head.n,.string c.head.name,kv,ks] aQ)] S w',?_,?_⟩
 ·refine aI hI 0 rfl bq aR rfl ?_
  refine a9 h2 ay ?_
  refine bW ?_
  by_cases hki:(k:Int)<c.body.length
  ·rw [decide_eq_true hki]
   repeat (first|refine ad ?_|refine af (by decide) ?_|refine ac ?_|refine al ?_|refine aj ?_)
   refine fX ?_
   repeat (first|refine ad ?_|refine af (by decide) ?_|refine ac ?_|refine al ?_|refine aj ?_)
   refine ⟨?_,hI⟩
   congr 1
   rw [Bool.eq_iff_iff]; simp; omega
  ·rw [decide_eq_false hki]
   repeat (first|refine ad ?_|refine af (by decide) ?_|refine ac ?_|refine al ?_|refine aj ?_)
   exact ⟨by rw [decide_eq_false (by omega)],hI⟩
 intro t _ _ _ _ _ _ _ _ w'
 rintro ⟨rfl,hI⟩
 refine bl (fun hki=>?_) (fun hki=>?_)
 ·obtain ⟨hk',hk6⟩:=hki
  refine aI hI 0 rfl bq aR rfl ?_
  refine dZ hI h2 ay ao hk' (fun _ _=>RdT.length) fun cs' hcs'=>?_
  have hwm:=LR (List.getElem_mem hk')
  refine Run.callPure yM zu hI (uN hcs' (by omega)) fun w' hI=>?_
  refine dh ?_
  refine ba (fun hb=>done hI ?_) (fun hb=>?_)
  ·have hb':g8 c.body[k]=false:=by simpa using hb
   have:c.body.all g8=false:=by
    rw [<- Bool.not_eq_true,List.all_eq_true]
    intro hall
    rw [hall _ (List.getElem_mem hk')] at hb'
    cases hb'
   rw [dC,this]
   simp
  ·have hb':g8 c.body[k]=true:=by simpa using hb
   refine bN (by omega) ?_
   refine ⟨⟨k+1,hk',by omega,rfl,fun j hj hjk=>?_,hI⟩,by simp [intOf]; omega⟩
   by_cases e:j=k
   ·subst e; exact hb'
   ·exact hrel j hj (by omega)
 ·refine aI hI 0 rfl bq aR rfl ?_
  refine a9 h2 ay ?_
  refine fX ?_
  rw [dC]
  by_cases hle:c.body.length<=6
  ·have hall:c.body.all g8=true:=by
    rw [List.all_eq_true]
    intro x hx
    obtain ⟨j,hj,rfl⟩:=List.getElem_of_mem hx
    exact hrel j hj (by omega)
   rw [decide_eq_true (show (c.body.length:Int)<=6 by omega),decide_eq_true hle,hall]
   repeat (first|refine ad ?_|refine af (by decide) ?_|refine ac ?_|refine al ?_|refine aj ?_)
   refine bi df ?_
   refine fe hI 0 [.int .i64 c.head.kind,.int .i64 c.head.n,.string c.head.name,kv] ao rfl rfl ?_ ?_
   ·intro j v hj
    match j with
    | 0|1|2|3=>exact hj
    | j+4=>simp at hj
   refine Run.callPure nv m8 hI (lx h1' (IX (by omega))) fun w' hI=>?_
   cases hv:ft c.head
   ·repeat (first|refine ad ?_|refine af (by decide) ?_|refine ac ?_|refine al ?_|refine aj ?_)
    exact done hI rfl
   ·repeat (first|refine ad ?_|refine af (by decide) ?_|refine ac ?_|refine al ?_|refine aj ?_)
    refine bi df ?_
    refine fe hI 0 [.int .i64 c.head.kind,.int .i64 c.head.n,.string c.head.name,kv] ao rfl rfl ?_ ?_
    ·intro j v hj
     match j with
     | 0|1|2|3=>exact hj
     | j+4=>simp at hj
    refine Run.callPure lZ mg hI (kO h1') fun w' hI=>?_
    repeat (first|refine ad ?_|refine af (by decide) ?_|refine ac ?_|refine al ?_|refine aj ?_)
    exact done hI rfl
  ·rw [decide_eq_false (show ¬ (c.body.length:Int)<=6 by omega),decide_eq_false hle]
   repeat (first|refine ad ?_|refine af (by decide) ?_|refine ac ?_|refine al ?_|refine aj ?_)
   exact done hI rfl

theorem iG {xs:List C} {S:aF} {v:Value} (h:RdSl S 5 (RdC S) v xs) (hc:wP xs<=1048576):Pure Tryz.prog um [v] S (.bool (lo xs)):=by
 intro w hI
 have hlen:=h.le
 simp only [maxLen] at hlen
 refine oW ?_
 unfold j1
 refine ⟨fun i w'=>∃ k:Nat,k<=xs.length/\k<=20+1/\i=.int .i64 k/\(∀ j (h:j<xs.length),j<k->dC xs[j]=true)/\Inv w [] [] S w',
  fun i _=>xs.length - (intOf i).toNat,⟨0,Nat.zero_le _,by omega,rfl,fun j _ h=>by omega,hI⟩,?_⟩
 intro t3 _ _ _ _ _ _ _ _ _ _ _ _ _ _ _ _ _ w'
 rintro ⟨k,hk,hk7,rfl,hrel,hI⟩
 refine ⟨fun t w'=>t=.bool (decide (k<xs.length/\k<=20))/\Inv w [] [] S w',?_,?_⟩
 ·refine a9 h dt ?_
  refine bW ?_
  by_cases hki:(k:Int)<xs.length
  ·rw [decide_eq_true hki]
   repeat (first|refine ad ?_|refine af (by decide) ?_|refine ac ?_|refine al ?_|refine aj ?_)
   refine fX ?_
   repeat (first|refine ad ?_|refine af (by decide) ?_|refine ac ?_|refine al ?_|refine aj ?_)
   refine ⟨?_,hI⟩
   congr 1
   rw [Bool.eq_iff_iff]; simp; omega
  ·rw [decide_eq_false hki]
   repeat (first|refine ad ?_|refine af (by decide) ?_|refine ac ?_|refine al ?_|refine aj ?_)
   exact ⟨by rw [decide_eq_false (by omega)],hI⟩
 intro t _ _ _ _ _ _ _ w'
 rintro ⟨rfl,hI⟩
 refine bl (fun hki=>?_) (fun hki=>?_)
 ·obtain ⟨hk',hk6⟩:=hki
  refine dZ hI h dt bM hk' (fun _ _=>RdC.length) fun cs' hcs'=>?_
  have hwm:=Dw (List.getElem_mem hk')
  refine Run.callPure lE lg hI (jN hcs' (by omega)) fun w' hI=>?_
  refine dh ?_
  refine ba (fun hb=>done hI ?_) (fun hb=>?_)
  ·have hb':dC xs[k]=false:=by simpa using hb
   have:xs.all dC=false:=by
    rw [<- Bool.not_eq_true,List.all_eq_true]
    intro hall
    rw [hall _ (List.getElem_mem hk')] at hb'
    cases hb'
   rw [lo,this,Bool.and_false]
  ·have hb':dC xs[k]=true:=by simpa using hb
   refine bN (by omega) ?_
   refine ⟨⟨k+1,hk',by omega,rfl,fun j hj hjk=>?_,hI⟩,by simp [intOf]; omega⟩
   by_cases e:j=k
   ·subst e; exact hb'
   ·exact hrel j hj (by omega)
 ·refine a9 h dt ?_
  refine fX ?_
  rw [lo]
  refine done hI ?_
  by_cases hle:xs.length<=20
  ·have hall:xs.all dC=true:=by
    rw [List.all_eq_true]
    intro x hx
    obtain ⟨j,hj,rfl⟩:=List.getElem_of_mem hx
    exact hrel j hj (by omega)
   rw [decide_eq_true (show (xs.length:Int)<=20 by omega),decide_eq_true hle,hall]; rfl
  ·rw [decide_eq_false (show ¬ (xs.length:Int)<=20 by omega),decide_eq_false hle]; rfl

/- the program's side -/
theorem Iw (s:ByteArray) (S:aF):Pure Tryz.prog Kn [.string s] S (.bool (decide (0<dg s))):=by
 intro w hI
 refine CQ ?_
 unfold Ca
 refine Run.callPure DE Dq hI (wN s S) fun w' hI=>?_
 refine bd rfl ?_
 refine bd rfl ?_
 refine eh ?_
 exact done hI rfl
theorem pQ {t:T} {S:aF} {cs:List Value} (h:RdT S cs t):Pure Tryz.prog FD [.agg cs.toArray] S (.bool (qK t)):=by
 intro w hI
 obtain ⟨kv,rfl,_,_,hs,hks⟩:=RdT.iff.1 h
 obtain ⟨k,n,s,ks⟩:=t
 simp only [T.name,T.kids,T.kind,T.n] at hs hks ⊢
 refine wZ ?_
 unfold sA
 refine bQ hI fun b1 w' hI=>?_
 refine aI hI 0 rfl bD bo rfl ?_
 refine bR ?_
 rw [show qK (.mk k n s ks)=(decide (k=3) && gy s ks.length) from rfl]
 cases h3:decide (k=3)
 ·repeat (first|refine ad ?_|refine af (by decide) ?_|refine ac ?_|refine al ?_|refine aj ?_)
  exact done hI rfl
 ·repeat (first|refine ad ?_|refine af (by decide) ?_|refine ac ?_|refine al ?_|refine aj ?_)
  refine aI hI 0 rfl bp bm rfl ?_
  refine aI hI 0 rfl aT aR rfl ?_
  refine a9 hks ay ?_
  refine Run.callPure xO zA hI (uI s _ S) fun w' hI=>?_
  repeat (first|refine ad ?_|refine af (by decide) ?_|refine ac ?_|refine al ?_|refine aj ?_)
  exact done hI rfl
theorem kL {t:T} {S:aF} {cs:List Value} (h:RdT S cs t):Pure Tryz.prog EX [.agg cs.toArray] S (.bool (ei t)):=by
 intro w hI
 have h0:=h
 obtain ⟨kv,rfl,_,_,hs,hks⟩:=RdT.iff.1 h
 obtain ⟨k,n,s,ks⟩:=t
 simp only [T.name,T.kids,T.kind,T.n] at h0 hs hks ⊢
 refine wx ?_
 unfold qX;dsimp only
 refine bQ hI fun b1 w' hI=>?_
 refine aI hI 0 rfl bD bo rfl ?_
 refine bR ?_
 have hb:qK (.mk k n s ks)=(decide (k=3) && gy s ks.length):=rfl
 rw [show ei (.mk k n s ks)=(decide (k=3) && (kG s && (!gy s ks.length && decide (dg s=0)))) from rfl]
 cases h1:decide (k=3)
 ·repeat (first|refine ad ?_|refine af (by decide) ?_|refine ac ?_|refine al ?_|refine aj ?_)
  exact done hI rfl
 ·rw [h1] at hb
  repeat (first|refine ad ?_|refine af (by decide) ?_|refine ac ?_|refine al ?_|refine aj ?_)
  refine aI hI 0 rfl bp bm rfl ?_
  refine Run.callPure n7 oY hI (mv s hs S) fun w' hI=>?_
  cases h2:kG s
  ·repeat (first|refine ad ?_|refine af (by decide) ?_|refine ac ?_|refine al ?_|refine aj ?_)
   exact done hI rfl
  ·repeat (first|refine ad ?_|refine af (by decide) ?_|refine ac ?_|refine al ?_|refine aj ?_)
   refine aI hI 0 rfl bp bm rfl ?_
   refine Run.callPure Jm Kb hI (Iw s S) fun w' hI=>?_
   refine dh ?_
   rw [JV]
   cases h3:decide (dg s=0)
   ·repeat (first|refine ad ?_|refine af (by decide) ?_|refine ac ?_|refine al ?_|refine aj ?_)
    exact done hI (by simp)
   ·repeat (first|refine ad ?_|refine af (by decide) ?_|refine ac ?_|refine al ?_|refine aj ?_)
    refine bb hI 0 ao rfl rfl ?_
    refine Run.callPure qW sa hI (pQ h0) fun w' hI=>?_
    refine dh ?_
    repeat (first|refine ad ?_|refine af (by decide) ?_|refine ac ?_|refine al ?_|refine aj ?_)
    exact done hI (by rw [hb]; simp)
theorem CW {t:T} {S:aF} {cs:List Value} (h:RdT S cs t):Pure Tryz.prog Hj [.agg cs.toArray] S (.bool (KW t)):=by
 intro w hI
 obtain ⟨kv,rfl,_,_,hs,hks⟩:=RdT.iff.1 h
 obtain ⟨k,n,s,ks⟩:=t
 simp only [T.name,T.kids,T.kind,T.n] at hs hks ⊢
 refine zW ?_
 unfold ve
 refine bQ hI fun b1 w' hI=>?_
 refine aI hI 0 rfl bD bo rfl ?_
 refine bR ?_
 rw [show KW (.mk k n s ks)=(decide (k=3) && decide (ks.length=0)) from rfl]
 cases h3:decide (k=3)
 ·repeat (first|refine ad ?_|refine af (by decide) ?_|refine ac ?_|refine al ?_|refine aj ?_)
  exact done hI rfl
 ·repeat (first|refine ad ?_|refine af (by decide) ?_|refine ac ?_|refine al ?_|refine aj ?_)
  refine aI hI 0 rfl aT aR rfl ?_
  refine a9 hks ay ?_
  refine bR ?_
  repeat (first|refine ad ?_|refine af (by decide) ?_|refine ac ?_|refine al ?_|refine aj ?_)
  exact done hI (by simp)
theorem F6 {t:T} {S:aF} {cs:List Value} (h:RdT S cs t):Pure Tryz.prog Jp [.agg cs.toArray] S (.bool (In t)):=by
 intro w hI
 have h0:=h
 obtain ⟨kv,rfl,_,_,hs,hks⟩:=RdT.iff.1 h
 obtain ⟨k,n,s,ks⟩:=t
 simp only [T.name,T.kids,T.kind,T.n] at h0 hs hks ⊢
 refine AK ?_
 unfold zB
 refine bQ hI fun b1 w' hI=>?_
 refine bb hI 0 ao rfl rfl ?_
 refine Run.callPure Ej ES hI (CW h0) fun w' hI=>?_
 rw [show In (.mk k n s ks)=(decide (k=3) && (decide (s=⟨#[33]⟩) && decide (ks.length=0))) from rfl]
 cases h1:KW (.mk k n s ks)
 ·repeat (first|refine ad ?_|refine af (by decide) ?_|refine ac ?_|refine al ?_|refine aj ?_)
  refine done hI ?_
  replace h1:(decide (k=3) && decide (ks.length=0))=false:=h1
  cases h2:decide (k=3)
  ·rfl
  ·rw [h2,Bool.true_and] at h1
   rw [h1,Bool.and_false]; rfl
 ·repeat (first|refine ad ?_|refine af (by decide) ?_|refine ac ?_|refine al ?_|refine aj ?_)
  refine aI hI 0 rfl bp bm rfl ?_
  refine cN ?_
  repeat (first|refine ad ?_|refine af (by decide) ?_|refine ac ?_|refine al ?_|refine aj ?_)
  refine done hI ?_
  replace h1:(decide (k=3) && decide (ks.length=0))=true:=h1
  rw [Bool.and_eq_true] at h1
  rw [h1.1,h1.2]; simp
theorem uU {t:T} {S:aF} {cs:List Value} (h:RdT S cs t):Pure Tryz.prog Ag [.agg cs.toArray] S (.bool (g8 t)):=by
 intro w hI
 have hl:=h.length
 refine rL ?_
 unfold oG
 refine bQ hI fun b1 w' hI=>?_
 refine bb hI 0 ao rfl (by simpa [Value.cells] using hl) ?_
 refine Run.callPure oA og hI (ll h) fun w' hI=>?_
 rw [g8]
 cases h1:ft t
 ·repeat (first|refine ad ?_|refine af (by decide) ?_|refine ac ?_|refine al ?_|refine aj ?_)
  exact done hI rfl
 ·repeat (first|refine ad ?_|refine af (by decide) ?_|refine ac ?_|refine al ?_|refine aj ?_)
  refine bb hI 0 ao rfl (by simpa [Value.cells] using hl) ?_
  refine Run.callPure l0 l3 hI (kL h) fun w' hI=>?_
  cases h2:ei t
  ·repeat (first|refine ad ?_|refine af (by decide) ?_|refine ac ?_|refine al ?_|refine aj ?_)
   refine bb hI 0 ao rfl (by simpa [Value.cells] using hl) ?_
   refine Run.callPure qW sa hI (pQ h) fun w' hI=>?_
   cases h3:qK t
   ·repeat (first|refine ad ?_|refine af (by decide) ?_|refine ac ?_|refine al ?_|refine aj ?_)
    refine bb hI 0 ao rfl (by simpa [Value.cells] using hl) ?_
    refine Run.callPure G8 HO hI (F6 h) fun w' hI=>?_
    repeat (first|refine ad ?_|refine af (by decide) ?_|refine ac ?_|refine al ?_|refine aj ?_)
    exact done hI (by simp)
   ·repeat (first|refine ad ?_|refine af (by decide) ?_|refine ac ?_|refine al ?_|refine aj ?_)
    exact done hI (by simp)
  ·repeat (first|refine ad ?_|refine af (by decide) ?_|refine ac ?_|refine al ?_|refine aj ?_)
   exact done hI (by simp)

theorem l2 {α:Type} (p:α->Bool):∀ xs:List α,(!xs.any fun x=>!p x)=xs.all p
 | []=>rfl
 | x::xs=>by
  rw [List.any_cons,List.all_cons,<- l2 p xs]
  cases p x <;> simp

theorem pg {x:T} {S:aF} {cs:List Value} (h:RdT S cs x):Pure Tryz.prog lh [.agg cs.toArray] S (.bool (!g8 x)):=by
 intro w hI
 have hl:=h.length
 refine nf ?_
 unfold j7
 refine bQ hI fun b1 w' hI=>?_
 refine bb hI 0 ao rfl (by simpa [Value.cells] using hl) ?_
 refine Run.callPure z3 Ad hI (uU h) fun w' hI=>?_
 refine dh (done hI rfl)
theorem qT {xs:List T} {S:aF} {v:Value} (h:RdSl S 4 (RdT S) v xs):Pure Tryz.prog ze [v] S (.bool (CD xs)):=by
 intro w hI
 refine qj ?_
 unfold mE
 refine a9 h ay ?_
 refine fX ?_
 rw [CD]
 by_cases hle:xs.length<=6
 ·rw [decide_eq_true (show (xs.length:Int)<=6 by omega),decide_eq_true hle]
  repeat (first|refine ad ?_|refine af (by decide) ?_|refine ac ?_|refine al ?_|refine aj ?_)
  have hcb:Cb Tryz.prog lh _ [] S (fun _:Unit=>[]) (fun _=>True) (fun _ x=>(!g8 x,())) (fun v x=>∃ cs,v=.agg cs.toArray/\RdT S cs x) xs:=
   Cb.pure [] sq ti fun x v _=>by
    rintro ⟨cs,rfl,hcs⟩ w1 hI
    exact (pg hcs w1 hI).mono fun e w' ⟨he,hI⟩=>⟨_,_,_,he,hI,Ext.refl _ _ _,rfl,rfl,rfl⟩
  refine Run.call0 eB eA hI (ff hcb h (st:=()) trivial) fun v' I' S' w'=>?_
  rintro ⟨rfl,rfl,rfl⟩ _ hI
  refine dh ?_
  repeat (first|refine ad ?_|refine af (by decide) ?_|refine ac ?_|refine al ?_|refine aj ?_)
  refine done hI ?_
  rw [gq (fun x=>!g8 x) xs,l2]; rfl
 ·rw [decide_eq_false (show ¬ (xs.length:Int)<=6 by omega),decide_eq_false hle]
  repeat (first|refine ad ?_|refine af (by decide) ?_|refine ac ?_|refine al ?_|refine aj ?_)
  exact done hI rfl
theorem qs {c:C} {S:aF} {cs:List Value} (h:RdC S cs c):Pure Tryz.prog xG [.agg cs.toArray] S (.bool (dC c)):=by
 intro w hI
 obtain ⟨hd,ks,rfl,h1,h2⟩:=h
 have h1':=h1
 obtain ⟨kv,rfl,g1,g2,g3,g4⟩:=RdT.iff.1 h1
 have hfin:dC c=(ft c.head && (ei c.head && CD c.body)):=by
  unfold dC CD
  cases ft c.head <;> cases ei c.head <;> simp
 refine o8 ?_
 unfold lG;dsimp only
 rw [hfin]
 refine bQ hI fun b1 w' hI=>?_
 refine bi df ?_
 refine fe hI 0 [.int .i64 c.head.kind,.int .i64 c.head.n,.string c.head.name,kv] ao rfl rfl ?_ ?_
 ·intro j v hj
  match j with
  | 0|1|2|3=>exact hj
  | j+4=>simp at hj
 refine Run.callPure oA og hI (ll h1') fun w' hI=>?_
 cases hv:ft c.head
 ·repeat (first|refine ad ?_|refine af (by decide) ?_|refine ac ?_|refine al ?_|refine aj ?_)
  exact done hI rfl
 ·repeat (first|refine ad ?_|refine af (by decide) ?_|refine ac ?_|refine al ?_|refine aj ?_)
  refine bi df ?_
  refine fe hI 0 [.int .i64 c.head.kind,.int .i64 c.head.n,.string c.head.name,kv] ao rfl rfl ?_ ?_
  ·intro j v hj
   match j with
   | 0|1|2|3=>exact hj
   | j+4=>simp at hj
  refine Run.callPure l0 l3 hI (kL h1') fun w' hI=>?_
  cases hp:ei c.head
  ·repeat (first|refine ad ?_|refine af (by decide) ?_|refine ac ?_|refine al ?_|refine aj ?_)
   exact done hI rfl
  ·repeat (first|refine ad ?_|refine af (by decide) ?_|refine ac ?_|refine al ?_|refine aj ?_)
   refine aI hI 0 rfl bq aR rfl ?_
   refine Run.callPure xD ww hI (qT h2) fun w' hI=>?_
   repeat (first|refine ad ?_|refine af (by decide) ?_|refine ac ?_|refine al ?_|refine aj ?_)
   exact done hI rfl

theorem mR {x:C} {S:aF} {cs:List Value} (h:RdC S cs x):Pure Tryz.prog jG [.agg cs.toArray] S (.bool (!dC x)):=by
 intro w hI
 have hl:=h.length
 refine l4 ?_
 unfold iU
 refine bQ hI fun b1 w' hI=>?_
 refine bb hI 0 bM rfl (by simpa [Value.cells] using hl) ?_
 refine Run.callPure tM uA hI (qs h) fun w' hI=>?_
 refine dh (done hI rfl)
theorem iW {xs:List C} {S:aF} {v:Value} (h:RdSl S 5 (RdC S) v xs):Pure Tryz.prog tx [v] S (.bool (lo xs)):=by
 intro w hI
 refine n9 ?_
 unfold kz
 refine a9 h dt ?_
 refine fX ?_
 rw [lo]
 by_cases hle:xs.length<=20
 ·rw [decide_eq_true (show (xs.length:Int)<=20 by omega),decide_eq_true hle]
  repeat (first|refine ad ?_|refine af (by decide) ?_|refine ac ?_|refine al ?_|refine aj ?_)
  have hcb:Cb Tryz.prog jG _ [] S (fun _:Unit=>[]) (fun _=>True) (fun _ x=>(!dC x,())) (fun v x=>∃ cs,v=.agg cs.toArray/\RdC S cs x) xs:=
   Cb.pure [] px pn fun x v _=>by
    rintro ⟨cs,rfl,hcs⟩ w1 hI
    exact (mR hcs w1 hI).mono fun e w' ⟨he,hI⟩=>⟨_,_,_,he,hI,Ext.refl _ _ _,rfl,rfl,rfl⟩
  refine Run.call0 gA gC hI (gV hcb h (st:=()) trivial) fun v' I' S' w'=>?_
  rintro ⟨rfl,rfl,rfl⟩ _ hI
  refine dh ?_
  repeat (first|refine ad ?_|refine af (by decide) ?_|refine ac ?_|refine al ?_|refine aj ?_)
  refine done hI ?_
  rw [gq (fun x=>!dC x) xs,l2]; rfl
 ·rw [decide_eq_false (show ¬ (xs.length:Int)<=20 by omega),decide_eq_false hle]
  repeat (first|refine ad ?_|refine af (by decide) ?_|refine ac ?_|refine al ?_|refine aj ?_)
  exact done hI rfl
end Go.Proofs.YtemmhhdnlbmicaaGreat

/- A row of a function's own, handed to a function that only reads; rows of numbers. -/
namespace Go.Proofs.YtemmhhdnlbmicaaGreat
open Go Go.RowKit
attribute [local irreducible] Run CondV ah be

def RowRd (S:aF) (v:Value) (e:TypeId) (k n:Nat) (xs:List Value):Prop:=
 xs.length=n * k/\((v=.slice none 0 0/\n=0) ∨ ∃ g cap cur,v=.slice (some ⟨g,0,none⟩) n cap/\S g=some (.cells cur e)/\n<=cap/\cap<=maxLen/\cur.size=cap * k/\cur.toList.take (n * k)=xs)
theorem Inv.lend {w0 w:World} {X:List Nat} {A:List Item} {S:aF} {v:Value} {e:TypeId} {k n:Nat} {xs:List Value} (h:Inv w0 X (A++[.row v e k n xs]) S w) :
  ∃ S',Sle S S'/\RowRd S' v e k n xs/\Inv w0 X A S' w/\∀ B w',Inv w0 X B S' w'->Inv w0 X (B++[.row v e k n xs]) S w':=by
 have hm:w.ownsRow 0 e k v n xs:=h.its (.row v e k n xs) (by simp)
 obtain ⟨hl,hm⟩:=hm
 rcases hm with ⟨rfl,rfl⟩|⟨g,cap,cur,rfl,_,hg,hnc,hcm,hcs,ht⟩
 ·have:xs=[]:=List.eq_nil_of_length_eq_zero (by rw [hl,Nat.zero_mul])
  subst this
  exact ⟨S,Sle.refl S,⟨hl,.inl ⟨rfl,rfl⟩⟩,h.sub (List.sublist_append_left _ _),fun B w' hB=>hB.rowNil e k⟩
 ·have hf:bX (A++[Item.blk g (.cells cur e)])=bX (A++[Item.row (.slice (some ⟨g,0,none⟩) n cap) e k n xs]):=by
   simp [bX,Item.foot,Value.ownBlock]
  have hg':g∈bX (A++[Item.row (.slice (some ⟨g,0,none⟩) n cap) e k n xs]):=by simp [bX,Item.foot,Value.ownBlock]
  have h':Inv w0 X (A++[Item.blk g (.cells cur e)]) S w:=by
   refine ⟨h.size,h.os,h.tape,h.output,h.old,fun it hit=>?_,by rw [hf]; exact h.nd,by rw [hf]; exact h.new,by rw [hf]; exact h.pub⟩
   rcases List.mem_append.1 hit with hit|hit
   ·exact h.its it (List.mem_append_left _ hit)
   ·simp at hit
    subst hit
    exact hg
  obtain ⟨h1,h2⟩:=h'.publishLast
  refine ⟨lA S g (.cells cur e),h2,⟨hl,.inr ⟨g,cap,cur,rfl,by simp [lA],hnc,hcm,hcs,ht⟩⟩,h1,fun B w' hB=>?_⟩
  have hpg:=hB.pub g (.cells cur e) (by simp [lA])
  have hfB:bX (B++[Item.row (.slice (some ⟨g,0,none⟩) n cap) e k n xs])=bX B++[g]:=by simp [bX,Item.foot,Value.ownBlock]
  refine ⟨hB.size,hB.os,hB.tape,hB.output,hB.old,fun it hit=>?_,?_,?_,?_⟩
  ·rcases List.mem_append.1 hit with hit|hit
   ·exact hB.its it hit
   ·simp at hit
    subst hit
    exact ⟨hl,.inr ⟨g,cap,cur,rfl,Nat.zero_le _,hpg.1,hnc,hcm,hcs,ht⟩⟩
  ·rw [hfB,List.nodup_append]
   refine ⟨hB.nd,by simp,fun a ha b hb=>?_⟩
   simp at hb
   subst hb
   intro e'
   subst e'
   exact hpg.2 ha
  ·intro c hc
   rw [hfB] at hc
   rcases List.mem_append.1 hc with hc|hc
   ·exact hB.new c hc
   ·simp at hc
    subst hc
    exact h.new _ hg'
  ·intro c o hc
   have hne:c≠g:=fun e'=>by
    subst e'
    exact (h.pub c o hc).2 hg'
   have:=hB.pub c o (by simp only [lA]; rw [if_neg hne]; exact hc)
   refine ⟨this.1,?_⟩
   rw [hfB]
   intro hc'
   rcases List.mem_append.1 hc' with hc'|hc'
   ·exact this.2 hc'
   ·simp at hc'
    exact hne hc'
theorem I6 {α:Type} (f:α->List Value) (k:Nat) (hf:∀ y,(f y).length=k):∀ (ys:List α) (i:Nat) (h:i<ys.length),((ys.flatMap f).drop (i * k)).take k=f ys[i]
 | [],i,h=>by simp at h
 | y::ys,0,h=>by
  rw [List.flatMap_cons,Nat.zero_mul,List.drop_zero,List.take_append_of_le_length (by rw [hf]; exact Nat.le_refl _),List.take_of_length_le (by rw [hf]; exact Nat.le_refl _)]
  rfl
 | y::ys,i+1,h=>by
  rw [List.flatMap_cons,Nat.succ_mul,Nat.add_comm,<- List.drop_drop,List.drop_left' (hf y)]
  exact I6 f k hf ys i (by simpa using h)
theorem RowRd.rd {α:Type} {S:aF} {v:Value} {e:TypeId} {k:Nat} {f:α->List Value} {R:List Value->α->Prop} {ys:List α} (hf:∀ y,(f y).length=k) (hR:∀ y∈ys,R (f y) y)
  (h:RowRd S v e k ys.length (ys.flatMap f)):RdSl S k R v ys:=by
 obtain ⟨hl,h⟩:=h
 rcases h with ⟨rfl,h0⟩|⟨g,cap,cur,rfl,hS,hnc,hcm,hcs,ht⟩
 ·have:ys=[]:=List.eq_nil_of_length_eq_zero h0
  subst this
  exact ⟨none,0,rfl,Nat.le_refl _,Nat.zero_le _,.inl rfl⟩
 ·refine ⟨_,cap,rfl,hnc,hcm,.inr ⟨g,0,cur,e,(0,0),rfl,hS,fun i hi=>?_⟩⟩
  have:=I6 f k hf ys i hi
  have hik:i * k+k<=ys.length * k:=by rw [<- Nat.succ_mul]; exact Nat.mul_le_mul_right k hi
  rw [<- ht,List.drop_take,List.take_take,Nat.min_eq_left (by omega)] at this
  rw [bw,Nat.zero_add,this]
  exact hR _ (List.getElem_mem hi)

/- rows of numbers -/
def ints (ns:List Int):List Value:=ns.flatMap fun n=>[.int .i64 n]
abbrev gJ (v:Value) (ns:List Int):Item:=.row v fu 1 ns.length (ints ns)
theorem Ch (ns:List Int) (n:Int):ints ns++[.int .i64 n]=ints (ns++[n]):=by simp [ints]
theorem RowRd.ints {S:aF} {v:Value} {e:TypeId} {ns:List Int} (h:RowRd S v e 1 ns.length (ints ns)):RdSl S 1 oi v ns:=
 RowRd.rd (f:=fun n=>[Value.int .i64 n]) (fun _=>rfl) (fun _ _=>rfl) h
def io (l:List Int) (n:Int):Bool:=l.any fun x=>decide (n=x)
def jU (l:List Int) (n:Int):List Int:=if io l n=true then l else l++[n]
theorem Di (l:List Int) (n:Int):(jU l n).length<=l.length+1:=by
 unfold jU
 split <;> simp

theorem xt (s:Int) {xs:List Int} {S:aF} {v:Value} (h:RdSl S 1 oi v xs) :
  Pure Tryz.prog Ae [v,.int .i64 s] S (.int .i64 (cW (σ:=Unit) (fun _ x=>(decide (s=x),())) () xs 0).1):=by
 intro w hI
 have hlen:=h.le
 simp only [maxLen] at hlen
 refine tf ?_
 unfold nP
 refine a9 h fZ ?_
 refine ⟨fun i w'=>∃ k:Nat,k<=xs.length/\i=.int .i64 k/\cW (σ:=Unit) (fun _ x=>(decide (s=x),())) () (xs.drop k) k=cW (σ:=Unit) (fun _ x=>(decide (s=x),())) () xs 0/\Inv w [] [] S w',
  fun i _=>xs.length - (intOf i).toNat,⟨0,Nat.zero_le _,rfl,rfl,hI⟩,?_⟩
 intro t8 _ _ _ _ _ _ _ _ _ _ _ _ w'
 rintro ⟨k,hk,rfl,hrel,hI⟩
 refine bW ?_
 refine bl (fun hki=>?_) (fun hki=>?_)
 ·have hk':k<xs.length:=by omega
  rw [List.drop_eq_getElem_cons hk',cW] at hrel
  refine i6 hI h fZ bo hk' (fun cs hcs=>hcs) ?_
  refine bR ?_
  refine bl (fun he=>done hI ?_) (fun he=>?_)
  ·rw [<- hrel,if_pos (by simpa using he)]
  ·refine bN (by omega) ?_
   rw [if_neg (by simpa using he)] at hrel
   exact ⟨⟨k+1,hk',rfl,hrel,hI⟩,by simp [intOf]; omega⟩
 ·have:k=xs.length:=by omega
  subst this
  rw [List.drop_length,cW] at hrel
  exact done hI (by rw [<- hrel])
theorem jD (s:Int) {xs:List Int} {S:aF} {v:Value} (h:RdSl S 1 oi v xs):Pure Tryz.prog uB [v,.int .i64 s] S (.bool (io xs s)):=by
 intro w hI
 refine oP ?_
 unfold kD
 refine Run.callPure zC zj hI (xt s h) fun w' hI=>?_
 refine mw (done hI ?_)
 rw [(ij _ xs () 0).1,gq]; rfl
theorem ux {σ:Type} {f:FuncId} {fn:Func} {cap:List Value} {S:aF} {It:σ->List Item} {ok:σ->Prop} {step:σ->Int->Bool × σ} {xs:List Int} {v:Value}
  (hcb:Cb Tryz.prog f fn cap S It ok step (fun v x=>v=.int .i64 x) xs) (h:RdSl S 1 oi v xs) {st:σ} (hok:ok st) :
  Tri Tryz.prog sN [v,fv f cap] (It st) S fun r I' S'=>r=.int .i64 (cW step st xs 0).1/\I'=It (cW step st xs 0).2/\S'=S:=by
 intro w hI
 have hlen:=h.le
 simp only [maxLen] at hlen
 refine mW ?_
 unfold jx
 refine a9 h fZ ?_
 refine ⟨fun i w'=>∃ (k:Nat) (st':σ),k<=xs.length/\i=.int .i64 k/\ok st'/\cW step st' (xs.drop k) k=cW step st xs 0/\Inv w (bX (It st)) (It st') S w',fun i _=>xs.length - (intOf i).toNat,
  ⟨0,st,Nat.zero_le _,rfl,hok,rfl,hI⟩,?_⟩
 intro t8 _ _ _ _ _ _ _ _ _ _ _ _ w'
 rintro ⟨k,st',hk,rfl,hok',hrel,hI⟩
 refine bW ?_
 refine bl (fun hki=>?_) (fun hki=>?_)
 ·have hk':k<xs.length:=by omega
  have hm:=List.getElem_mem hk'
  have hstep:cW step st' (xs.drop k) k=if (step st' xs[k]).1 then ((k:Int),(step st' xs[k]).2) else cW step (step st' xs[k]).2 (xs.drop (k+1)) (k+1):=by
   rw [List.drop_eq_getElem_cons hk',cW]
  refine i6 hI h fZ bo hk' (fun cs hcs=>hcs) ?_
  refine Run.callV (A:=[]) (args:=[.int .i64 xs[k]]) hcb.hf hcb.hn (by simpa using hI) (hcb.call st' _ _ hm hok' rfl) fun v' I' S' w'=>?_
  rintro ⟨rfl,rfl,rfl⟩ _ hI
  refine ba (fun hb=>?_) (fun hb=>?_)
  ·rw [if_pos hb] at hstep
   refine ⟨_,_,_,rfl,by simpa using hI,Ext.refl _ _ _,?_,?_,rfl⟩
   ·rw [<- hrel,hstep]
   ·rw [<- hrel,hstep]
  ·refine bN (by omega) ?_
   rw [hb] at hstep
   refine ⟨⟨k+1,_,hk',rfl,hcb.keep st' _ hm hok' hb,?_,by simpa using hI⟩,by simp [intOf]; omega⟩
   rw [<- hrel,hstep]
   rfl
 ·have:k=xs.length:=by omega
  subst this
  rw [List.drop_length,cW] at hrel
  exact ⟨_,_,_,rfl,hI,Ext.refl _ _ _,by rw [<- hrel],by rw [<- hrel],rfl⟩
theorem pw {σ:Type} {f:FuncId} {fn:Func} {cap:List Value} {S:aF} {It:σ->List Item} {ok:σ->Prop} {step:σ->Int->Bool × σ} {xs:List Int} {v:Value}
  (hcb:Cb Tryz.prog f fn cap S It ok step (fun v x=>v=.int .i64 x) xs) (h:RdSl S 1 oi v xs) {st:σ} (hok:ok st) :
  Tri Tryz.prog ol [v,fv f cap] (It st) S fun r I' S'=>r=.bool (mT step st xs).1/\I'=It (mT step st xs).2/\S'=S:=by
 intro w hI
 refine kT ?_
 unfold hO
 refine Run.call (A:=[]) qh qr (by simpa using hI) (ux hcb h hok) fun v' I' S' w'=>?_
 rintro ⟨rfl,rfl,rfl⟩ _ hI
 refine mw ?_
 have he:=ij step xs st 0
 exact ⟨_,_,_,rfl,by simpa using hI,Ext.refl _ _ _,by rw [he.1],by rw [he.2],rfl⟩
theorem EW (s:Int) {xs:List Int} {S:aF} {v:Value} (h:RdSl S 1 oi v xs):Pure Tryz.prog JB [v,.int .i64 s] S (.bool (io xs s)):=by
 intro w hI
 have hlen:=h.le
 simp only [maxLen] at hlen
 refine AP ?_
 unfold yd
 refine ⟨fun i w'=>∃ k:Nat,k<=xs.length/\i=.int .i64 k/\io (xs.drop k) s=io xs s/\Inv w [] [] S w',fun i _=>xs.length - (intOf i).toNat,⟨0,Nat.zero_le _,rfl,rfl,hI⟩,?_⟩
 intro t5 _ _ _ _ _ _ _ _ _ _ _ _ _ w'
 rintro ⟨k,hk,rfl,hrel,hI⟩
 refine a9 h fZ ?_
 refine bW ?_
 refine bl (fun hki=>?_) (fun hki=>?_)
 ·have hk':k<xs.length:=by omega
  have hstep:io (xs.drop k) s=(decide (s=xs[k]) || io (xs.drop (k+1)) s):=x1 _ xs k hk'
  refine i6 hI h fZ bo hk' (fun cs hcs=>hcs) ?_
  refine bR ?_
  refine bl (fun he=>done hI ?_) (fun he=>?_)
  ·rw [<- hrel,hstep,decide_eq_true he.symm]; rfl
  ·refine bN (by omega) ?_
   exact ⟨⟨k+1,hk',rfl,by rw [<- hrel,hstep,decide_eq_false (fun e=>he e.symm)]; rfl,hI⟩,by simp [intOf]; omega⟩
 ·have:k=xs.length:=by omega
  subst this
  exact done hI (by rw [<- hrel,List.drop_length]; rfl)

end Go.Proofs.YtemmhhdnlbmicaaGreat

/- The variables of terms, on both sides: lists of numbers that grow. -/
namespace Go.Proofs.YtemmhhdnlbmicaaGreat
open Go Go.RowKit
attribute [local irreducible] Run CondV ah be

mutual
def fQ:T->List Int->List Int
 | .mk k n _ ks,l=>eE ks (if k=1 then jU l n else l)
def eE:List T->List Int->List Int
 | [],l=>l
 | t::ts,l=>eE ts (fQ t l)
end
mutual
def gS:T->List Int->List Int
 | .mk k n _ ks,l=>if k=1 then jU l n else f4 ks l
def f4:List T->List Int->List Int
 | [],l=>l
 | t::ts,l=>f4 ts (gS t l)
end
mutual
theorem xR:∀ (t:T) (l:List Int),((fQ t l).length:Int)<=l.length+eR t
 | .mk k n s ks,l=>by
  rw [fQ,show eR (T.mk k n s ks)=1+dX ks from rfl]
  have h1:=Di l n
  have:=Fj ks (if k=1 then jU l n else l)
  split at this <;> rename_i hk <;> simp only [hk,if_true,if_false] at this ⊢ <;> omega
theorem Fj:∀ (ts:List T) (l:List Int),((eE ts l).length:Int)<=l.length+dX ts
 | [],l=>by simp [eE,dX]
 | t::ts,l=>by
  rw [eE,show dX (t::ts)=eR t+dX ts from rfl]
  have:=xR t l
  have:=Fj ts (fQ t l)
  omega
end
mutual
theorem uS:∀ (t:T) (l:List Int),((gS t l).length:Int)<=l.length+eR t
 | .mk k n s ks,l=>by
  rw [gS,show eR (T.mk k n s ks)=1+dX ks from rfl]
  have h1:=Di l n
  have:=fA ks
  split
  ·omega
  ·have:=BX ks l
   omega
theorem BX:∀ (ts:List T) (l:List Int),((f4 ts l).length:Int)<=l.length+dX ts
 | [],l=>by simp [f4,dX]
 | t::ts,l=>by
  rw [f4,show dX (t::ts)=eR t+dX ts from rfl]
  have:=uS t l
  have:=BX ts (gS t l)
  omega
end
/- on valid terms the two are one -/
mutual
theorem FO:∀ (t:T) (d:Int) (l:List Int),fm t d=true->gS t l=fQ t l
 | .mk k n s ks,d,l,h=>by
  rw [fm] at h
  split at h
  ·cases h
  ·rw [Bool.and_eq_true] at h
   rw [gS,fQ]
   split
   ·rw [Ex h.1 (.inl ‹k=1›)]; rfl
   ·exact zy ks (d - 1) l h.2
theorem zy:∀ (ts:List T) (d:Int) (l:List Int),eW ts d=true->f4 ts l=eE ts l
 | [],d,l,h=>rfl
 | t::ts,d,l,h=>by
  rw [eW,Bool.and_eq_true] at h
  rw [f4,eE,FO t d l h.1]
  exact zy ts d _ h.2
end
theorem ng {t:T} (h:ft t=true):fm t 30=true:=by
 rw [ft,Bool.and_eq_true] at h
 exact h.1
abbrev IA (S:aF) (r:List Int):Value->List Item->aF->Prop:=fun v I' S'=>I'=[gJ v r]/\S'=S

theorem rO:∀ (t:T) (S:aF) (cs:List Value) (v:Value) (l:List Int),RdT S cs t->l.length+eR t<=1000000000->Tri Tryz.prog Ik [v,.agg cs.toArray] [gJ v l] S (IA S (gS t l)):=by
 refine T.ind fun k n s ks ih S cs v l h hl=>?_
 intro w hI
 obtain ⟨kv,rfl,_,_,hs,hks⟩:=RdT.iff.1 h
 simp only [T.name,T.kids,T.kind,T.n] at hs hks ⊢
 have hlen:=hks.le
 simp only [maxLen] at hlen
 rw [show eR (T.mk k n s ks)=1+dX ks from rfl] at hl
 have hcp:=fA ks
 have hend:∀ {w':World} {v':Value} {b:Nat} {o:Obj} (r:List Int),Inv w (bX [gJ v l]) [.blk b o,gJ v' r] S w'->r=gS (.mk k n s ks) l->
   ∃ v'' I' S',Ending.returned v'=.returned v''/\Inv w (bX [gJ v l]) I' S' w'/\Ext w.heap.size (bX [gJ v l]) S S'/\IA S (gS (.mk k n s ks) l) v'' I' S':=by
  intro w' v' b o r h1 h2
  subst h2
  exact ⟨_,_,_,rfl,h1.pick [false,true],Ext.refl _ _ _,rfl,rfl⟩
 refine z1 ?_
 unfold v6
 refine bQ hI fun b3 w' hI=>?_
 have hI:=hI.perm (M:=[.blk b3 (.cells #[.int .i64 k,.int .i64 n,.string s,kv] ab),gJ v l]) (List.Perm.swap _ _ _)
 refine aI hI 0 rfl bD bo rfl ?_
 refine bR ?_
 refine bl (fun hk=>?_) (fun hk=>?_)
 ·have hr:jU l n=gS (.mk k n s ks) l:=by rw [gS,if_pos hk]
  obtain ⟨S1,hle,hrd,hI,hback⟩:=Inv.lend (A:=[_]) hI
  have hrd:=hrd.ints
  refine ⟨fun i w'=>∃ j:Nat,j<=l.length/\i=.int .i64 j/\io (l.drop j) n=io l n/\Inv w (bX [gJ v l]) [.blk b3 (.cells #[.int .i64 k,.int .i64 n,.string s,kv] ab)] S1 w',
   fun i _=>l.length - (intOf i).toNat,⟨0,Nat.zero_le _,rfl,rfl,hI⟩,?_⟩
  intro t5 _ _ _ _ t22 t21 t20 t19 t18 t17 t16 _ _ _ _ w'
  rintro ⟨j,hj,rfl,hrel,hI⟩
  refine a9 hrd fZ ?_
  refine bW ?_
  refine bl (fun hji=>?_) (fun hji=>?_)
  ·have hj':j<l.length:=by omega
   have hstep:io (l.drop j) n=(decide (n=l[j]) || io (l.drop (j+1)) n):=x1 _ l j hj'
   obtain ⟨b,o,cap,c,E,fz,rfl,hS,hR⟩:=hrd.at_ hj'
   refine ⟨fun D cd cC cc bY du dw dF w_=>(D 0=true->dF=.slice (some ⟨b,o,none⟩) l.length cap)/\(D 1=true->dw=.int .i64 j)/\(D 2=true->du=.pointer (some ⟨b,o+j * 1,none⟩))/\(D 3=true->bY=.int .i64 l[j])/\(D 4=true->cc=.pointer (some ⟨b3,1,none⟩))/\(D 5=true->cC=.int .i64 n)/\(D 6=true->cd=.bool (decide (l[j]=n)))/\Inv w (bX [gJ (.slice (some ⟨b,o,none⟩) l.length cap) l]) [.blk b3 (.cells #[.int .i64 k,.int .i64 n,.string s,kv] ab)] S1 w_,⟨ae,ae,ae,ae,ae,ae,ae,hI.draw⟩,⟨?_,?_,?_,?_,?_,?_,?_,trivial⟩,?_⟩
   ·intro D aY  cd cC cc bY du dw dF w_
    rintro ⟨aA,aB,aC,az,av,aE,aD,hI⟩
    exact ⟨fun _=>rfl,aB,aC,az,av,aE,aD,hI⟩
   ·intro D aY  cd cC cc bY du dw dF w_
    rintro ⟨aA,aB,aC,az,av,aE,aD,hI⟩
    exact ⟨aA,fun _=>rfl,aC,az,av,aE,aD,hI⟩
   ·intro D aY b0 il cd cC cc bY du dw dF w_
    rintro ⟨aA,aB,aC,az,av,aE,aD,hI⟩
    obtain rfl:=aA b0
    obtain rfl:=aB il
    refine bk fZ hj' ?_
    exact ⟨aA,aB,fun _=>rfl,az,av,aE,aD,hI⟩
   ·intro D aY ec cd cC cc bY du dw dF w_
    rintro ⟨aA,aB,aC,az,av,aE,aD,hI⟩
    obtain rfl:=aC ec
    refine dY bo (by rw [hI.cellS hS]; exact bn hR 0 _ rfl) ?_
    exact ⟨aA,aB,aC,fun _=>rfl,av,aE,aD,hI⟩
   ·intro D aY  cd cC cc bY du dw dF w_
    rintro ⟨aA,aB,aC,az,av,aE,aD,hI⟩
    refine bi bF ?_
    exact ⟨aA,aB,aC,az,fun _=>rfl,aE,aD,hI⟩
   ·intro D aY cF cd cC cc bY du dw dF w_
    rintro ⟨aA,aB,aC,az,av,aE,aD,hI⟩
    obtain rfl:=av cF
    refine bG hI 0 bo rfl rfl ?_
    exact ⟨aA,aB,aC,az,av,fun _=>rfl,aD,hI⟩
   ·intro D aY dB g0 cd cC cc bY du dw dF w_
    rintro ⟨aA,aB,aC,az,av,aE,aD,hI⟩
    obtain rfl:=az dB
    obtain rfl:=aE g0
    refine bR ?_
    exact ⟨aA,aB,aC,az,av,aE,fun _=>rfl,hI⟩
   intro D fL fH fC fB fE fM fJ cd cC cc bY du dw dF w_
   rintro ⟨aA,aB,aC,az,av,aE,aD,hI⟩
   obtain rfl:=aD fL
   obtain rfl:=aE fH
   obtain rfl:=av fC
   obtain rfl:=az fB
   obtain rfl:=aC fE
   obtain rfl:=aB fM
   obtain rfl:=aA fJ
   clear aA aB aC az av aE aD
   refine bl (fun he=>?_) (fun he=>?_)
   ·refine hend l (hback _ _ hI) ?_
    rw [<- hr,jU,if_pos (by rw [<- hrel,hstep,decide_eq_true he.symm]; rfl)]
   ·refine bN (by omega) ?_
    exact ⟨⟨j+1,hj',rfl,by rw [<- hrel,hstep,decide_eq_false (fun e=>he e.symm)]; rfl,hI⟩,by simp [intOf]; omega⟩
  ·have:j=l.length:=by omega
   subst this
   have hno:io l n=false:=by rw [<- hrel,List.drop_length]; rfl
   have hI:Inv w (bX [gJ v l]) [.blk b3 (.cells #[.int .i64 k,.int .i64 n,.string s,kv] ab),gJ v l] S _:=hback _ _ hI
   refine aI hI 0 rfl bF bo rfl ?_
   refine eN hI o0 rfl (by omega) (by omega) fun b w' hI=>?_
   refine fy hI 1 (k:=1) [.int .i64 n] o0 (by omega) rfl rfl ?_ ?_ (by omega) (by omega) fun v' w' hI=>?_
   ·intro j u hj
    rw [hI.cellL (i:=2) rfl]
    match j with
    | 0=>simpa [Value.cells] using hj
    | j+1=>simp at hj
   ·simp [Value.oneCell']
   ·rw [Ch] at hI
    have hI:=hI.pick [true,true,false]
    refine hend (b:=b3) (o:=.cells #[.int .i64 k,.int .i64 n,.string s,kv] ab) (l++[n]) ?_ ?_
    ·have e:Item.row v' fu 1 (l.length+1) (ints (l++[n]))=gJ v' (l++[n]):=by simp [gJ]
     exact e ▸ hI
    ·rw [<- hr,jU,if_neg (by rw [hno]; decide)]
 ·have hr:f4 ks l=gS (.mk k n s ks) l:=by rw [gS,if_neg hk]
  refine ⟨fun i t w'=>∃ (j:Nat) (l':List Int),j<=ks.length/\i=.int .i64 j/\f4 (ks.drop j) l'=f4 ks l/\l'.length+dX (ks.drop j)<=1000000000/\Inv w (bX [gJ v l]) [.blk b3 (.cells #[.int .i64 k,.int .i64 n,.string s,kv] ab),gJ t l'] S w',
   fun i _ _=>ks.length - (intOf i).toNat,⟨0,l,Nat.zero_le _,rfl,rfl,by rw [List.drop_zero]; omega,hI⟩,?_⟩
  intro t6 _ _ t0 _ _ _ _ _ _ _ _ _ _ _ _ w'
  rintro ⟨j,l',hj,rfl,hrel,hl',hI⟩
  refine aI hI 0 rfl aT aR rfl ?_
  refine a9 hks ay ?_
  refine bW ?_
  refine bl (fun hji=>?_) (fun hji=>?_)
  ·have hj':j<ks.length:=by omega
   rw [jF ks j hj'] at hl'
   rw [List.drop_eq_getElem_cons hj',f4] at hrel
   have hc1:=fA (ks.drop (j+1))
   have hc2:=uS ks[j] l'
   refine aI hI 0 rfl aT aR rfl ?_
   refine dZ hI hks ay ao hj' (fun _ _=>RdT.length) fun cs' hcs'=>?_
   refine Run.call (A:=[_]) oB nJ hI (ih _ (List.getElem_mem hj') S cs' t0 l' hcs' (by omega)) fun v' I' S' w'=>?_
   rintro ⟨rfl,rfl⟩ _ hI
   refine bN (by omega) ?_
   exact ⟨⟨j+1,_,hj',rfl,hrel,by omega,hI⟩,by simp [intOf]; omega⟩
  ·have:j=ks.length:=by omega
   subst this
   rw [List.drop_length,f4] at hrel
   exact hend l' hI (by rw [hrel,hr])

theorem pR:∀ (t:T) (S:aF) (cs:List Value) (v:Value) (l:List Int),RdT S cs t->l.length+eR t<=1000000000->Tri Tryz.prog Fx [.agg cs.toArray,v] [gJ v l] S (IA S (fQ t l)):=by
 refine T.ind fun k n s ks ih S cs v l h hl=>?_
 intro w hI
 obtain ⟨kv,rfl,_,_,hs,hks⟩:=RdT.iff.1 h
 simp only [T.name,T.kids,T.kind,T.n] at hs hks ⊢
 have hlen:=hks.le
 simp only [maxLen] at hlen
 rw [show eR (T.mk k n s ks)=1+dX ks from rfl] at hl
 have hcp:=fA ks
 have hal:=Di l n
 refine wQ ?_
 unfold rN
 refine bQ hI fun b2 w' hI=>?_
 have hI:=hI.perm (M:=[.blk b2 (.cells #[.int .i64 k,.int .i64 n,.string s,kv] ab),gJ v l]) (List.Perm.swap _ _ _)
 refine ⟨fun t w'=>Inv w (bX [gJ v l]) [.blk b2 (.cells #[.int .i64 k,.int .i64 n,.string s,kv] ab),gJ t (if k=1 then jU l n else l)] S w',?_,?_⟩
 ·refine ⟨fun t w'=>t=.bool (decide (k=1) && !io l n)/\Inv w (bX [gJ v l]) [.blk b2 (.cells #[.int .i64 k,.int .i64 n,.string s,kv] ab),gJ v l] S w',?_,?_⟩
  ·refine aI hI 0 rfl bD bo rfl ?_
   refine bR ?_
   cases h1:decide (k=1)
   ·repeat (first|refine ad ?_|refine af (by decide) ?_|refine ac ?_|refine al ?_|refine aj ?_)
    exact ⟨rfl,hI⟩
   ·repeat (first|refine ad ?_|refine af (by decide) ?_|refine ac ?_|refine al ?_|refine aj ?_)
    refine aI hI 0 rfl bF bo rfl ?_
    obtain ⟨S1,hle,hrd,hI,hback⟩:=Inv.lend (A:=[_]) hI
    refine Run.callPure kC j8 hI (jD n hrd.ints) fun w' hI=>?_
    refine dh ?_
    repeat (first|refine ad ?_|refine af (by decide) ?_|refine ac ?_|refine al ?_|refine aj ?_)
    exact ⟨rfl,hback _ _ hI⟩
  intro t16 _ _ _ _ _ _ _ _ _ w'
  rintro ⟨rfl,hI⟩
  refine ba (fun hb=>?_) (fun hb=>?_)
  ·simp only [Bool.and_eq_true,decide_eq_true_eq,Bool.not_eq_true'] at hb
   refine aI hI 0 rfl bF bo rfl ?_
   refine eN hI o0 rfl (by omega) (by omega) fun b w' hI=>?_
   refine fy hI 1 (k:=1) [.int .i64 n] o0 (by omega) rfl rfl ?_ ?_ (by omega) (by omega) fun v' w' hI=>?_
   ·intro j u hj
    rw [hI.cellL (i:=2) rfl]
    match j with
    | 0=>simpa [Value.cells] using hj
    | j+1=>simp at hj
   ·simp [Value.oneCell']
   ·rw [Ch] at hI
    have hI:=hI.pick [true,true,false]
    rw [if_pos hb.1,jU,if_neg (by rw [hb.2]; decide)]
    have e:Item.row v' fu 1 (l.length+1) (ints (l++[n]))=gJ v' (l++[n]):=by simp [gJ]
    rw [show List.length l+1=l.length+1 from rfl,e] at hI
    exact hI
  ·have:(if k=1 then jU l n else l)=l:=by
    split
    ·rename_i hk
     rw [jU]
     simp [hk] at hb
     rw [if_pos hb]
    ·rfl
   rw [this]
   exact hI
 intro t1 _ _ _ _ _ _ _ _ _ _ _ _ _ _ _ w' hI
 have hl1:((if k=1 then jU l n else l).length:Int)+dX ks<=1000000000:=by split <;> omega
 rw [show fQ (.mk k n s ks) l=eE ks (if k=1 then jU l n else l) from by rw [fQ]]
 generalize (if k=1 then jU l n else l)=l1 at hI hl1 ⊢
 refine aI hI 0 rfl aT aR rfl ?_
 refine a9 hks ay ?_
 refine ⟨fun i t w'=>∃ (j:Nat) (l':List Int),j<=ks.length/\i=.int .i64 j/\eE (ks.drop j) l'=eE ks l1/\l'.length+dX (ks.drop j)<=1000000000/\Inv w (bX [gJ v l]) [.blk b2 (.cells #[.int .i64 k,.int .i64 n,.string s,kv] ab),gJ t l'] S w',
  fun i _ _=>ks.length - (intOf i).toNat,⟨0,l1,Nat.zero_le _,rfl,rfl,by rw [List.drop_zero]; omega,hI⟩,?_⟩
 intro t25 _ t1 _ _ _ _ _ _ _ w'
 rintro ⟨j,l',hj,rfl,hrel,hl',hI⟩
 refine bW ?_
 refine bl (fun hji=>?_) (fun hji=>?_)
 ·have hj':j<ks.length:=by omega
  rw [jF ks j hj'] at hl'
  rw [List.drop_eq_getElem_cons hj',eE] at hrel
  have hc1:=fA (ks.drop (j+1))
  have hc2:=xR ks[j] l'
  refine dZ hI hks ay ao hj' (fun _ _=>RdT.length) fun cs' hcs'=>?_
  have hlc:=hcs'.length
  refine bH hI bL fun b6 w' hI=>?_
  refine bg hI 2 rfl ao (by simpa using hlc) rfl (by simpa using hcs'.one) fun w' hI=>?_
  refine bb hI 2 ao rfl (by simpa using hlc) ?_
  have hI:=hI.pick [true,true,false]
  refine Run.call (A:=[_]) ma mo hI (ih _ (List.getElem_mem hj') S cs' t1 l' hcs' (by omega)) fun v' I' S' w'=>?_
  rintro ⟨rfl,rfl⟩ _ hI
  refine bN (by omega) ?_
  exact ⟨⟨j+1,_,hj',rfl,hrel,by omega,hI⟩,by simp [intOf]; omega⟩
 ·have:j=ks.length:=by omega
  subst this
  rw [List.drop_length,eE] at hrel
  subst hrel
  exact ⟨_,_,_,rfl,hI.pick [false,true],Ext.refl _ _ _,rfl,rfl⟩
theorem D6 {ts:List T} {S:aF} {v:Value} (h:RdSl S 4 (RdT S) v ts) (hl:dX ts<=1000000000):Tri Tryz.prog H4 [v] [] S (IA S (eE ts [])):=by
 intro w hI
 have hlen:=h.le
 simp only [maxLen] at hlen
 refine z7 ?_
 unfold vS
 refine a9 h ay ?_
 refine ⟨fun i t w'=>∃ (j:Nat) (l':List Int),j<=ts.length/\i=.int .i64 j/\eE (ts.drop j) l'=eE ts []/\l'.length+dX (ts.drop j)<=1000000000/\Inv w [] [gJ t l'] S w',
  fun i _ _=>ts.length - (intOf i).toNat,⟨0,[],Nat.zero_le _,rfl,rfl,by simpa using hl,hI.rowNil fu 1⟩,?_⟩
 intro t8 _ t3 _ _ _ _ _ _ _ w'
 rintro ⟨j,l',hj,rfl,hrel,hl',hI⟩
 refine bW ?_
 refine bl (fun hji=>?_) (fun hji=>?_)
 ·have hj':j<ts.length:=by omega
  rw [jF ts j hj'] at hl'
  rw [List.drop_eq_getElem_cons hj',eE] at hrel
  have hc1:=fA (ts.drop (j+1))
  have hc2:=xR ts[j] l'
  refine dZ hI h ay ao hj' (fun _ _=>RdT.length) fun cs' hcs'=>?_
  have hlc:=hcs'.length
  refine bH hI bL fun b6 w' hI=>?_
  refine bg hI 1 rfl ao (by simpa using hlc) rfl (by simpa using hcs'.one) fun w' hI=>?_
  refine bb hI 1 ao rfl (by simpa using hlc) ?_
  have hI:=hI.pick [true,false]
  refine Run.call (A:=[]) ma mo hI (pR _ S cs' t3 l' hcs' (by omega)) fun v' I' S' w'=>?_
  rintro ⟨rfl,rfl⟩ _ hI
  refine bN (by omega) ?_
  exact ⟨⟨j+1,_,hj',rfl,hrel,by omega,hI⟩,by simp [intOf]; omega⟩
 ·have:j=ts.length:=by omega
  subst this
  rw [List.drop_length,eE] at hrel
  subst hrel
  exact ⟨_,_,_,rfl,hI,Ext.refl _ _ _,rfl,rfl⟩

end Go.Proofs.YtemmhhdnlbmicaaGreat

/- Flat clauses and programs, on both sides. -/
namespace Go.Proofs.YtemmhhdnlbmicaaGreat
open Go Go.RowKit
attribute [local irreducible] Run CondV ah be

section
variable {P:Program} {w w0:World} {X:List Nat} {L:List Item} {S:aF} {K:Value->World->Prop}
theorem LA {α:Type} {T Tf U ty ty' ty'' E:TypeId} {k f d:Nat} {R:List Value->α->Prop} {v:Value} {xs:List α} (hI:Inv w0 X L S w) (h:RdSl S k R v xs) (hu:dy P T=some (E,k)) (hf:fx P Tf f=some d) (hU:oj P U=true)
  {i:Nat} (hi:i<xs.length) (hk:∀ cs,R cs xs[i]->∃ u,cs[d]?=some u/\K u w) :
  Run P (sOp (.indexAddr T (.const v) (.const (.int .i64 i))) ty) w fun p w'=>Run P (sOp (.fieldAddr Tf (.const p) f) ty') w' fun q w''=>Run P (sOp (.load U (.const q)) ty'') w'' K:=by
 obtain ⟨b,o,cap,c,E',fz,rfl,hS,hR⟩:=h.at_ hi
 obtain ⟨u,hu',hK⟩:=hk _ hR
 refine bk hu hi ?_
 refine bi hf ?_
 refine dY hU ?_ hK
 rw [hI.cellS hS]
 exact bn rfl d u hu'
end
def h8 (u:T):Bool:=decide (u.kids.length=0)
def ef (t:T):Bool:=t.kids.all h8 && ei t
def gl (c:C):Bool:=ef c.head && (decide (c.body.length<=3) && (c.body.all ef && (fQ c.head []).all fun n=>io (eE c.body []) n))
def eI (p:List C):Bool:=lo p && p.all gl

theorem pG {t:T} {S:aF} {cs:List Value} (h:RdT S cs t):Pure Tryz.prog Et [.agg cs.toArray] S (.bool (ef t)):=by
 intro w hI
 have h0:=h
 obtain ⟨kv,rfl,_,_,hs,hks⟩:=RdT.iff.1 h
 obtain ⟨k,n,s,ks⟩:=t
 simp only [T.name,T.kids,T.kind,T.n] at h0 hs hks ⊢
 have hlen:=hks.le
 simp only [maxLen] at hlen
 have hf:ef (.mk k n s ks)=(ks.all h8 && ei (.mk k n s ks)):=rfl
 refine xq ?_
 unfold te
 refine bQ hI fun b1 w' hI=>?_
 refine ⟨fun i w'=>∃ j:Nat,j<=ks.length/\i=.int .i64 j/\(ks.drop j).all h8=ks.all h8/\Inv w [] [.blk b1 (.cells #[.int .i64 k,.int .i64 n,.string s,kv] ab)] S w',
  fun i _=>ks.length - (intOf i).toNat,⟨0,Nat.zero_le _,rfl,rfl,hI⟩,?_⟩
 intro t3 _ _ _ _ _ _ _ _ _ _ _ _ _ _ _ _ w'
 rintro ⟨j,hj,rfl,hrel,hI⟩
 refine aI hI 0 rfl aT aR rfl ?_
 refine a9 hks ay ?_
 refine bW ?_
 refine bl (fun hji=>?_) (fun hji=>?_)
 ·have hj':j<ks.length:=by omega
  have hstep:=ld h8 ks j hj'
  refine aI hI 0 rfl aT aR rfl ?_
  refine LA hI hks ay aT aR hj' fun cs' hcs'=>?_
  obtain ⟨kv',rfl,_,_,_,hkk⟩:=RdT.iff.1 hcs'
  refine ⟨kv',rfl,?_⟩
  refine a9 hkk ay ?_
  refine eh ?_
  refine bl (fun hb=>done hI ?_) (fun hb=>?_)
  ·have:h8 ks[j]=false:=decide_eq_false (by omega)
   rw [hf,<- hrel,hstep,this]; rfl
  ·have:h8 ks[j]=true:=decide_eq_true (by omega)
   refine bN (by omega) ?_
   exact ⟨⟨j+1,hj',rfl,by rw [<- hrel,hstep,this]; rfl,hI⟩,by simp [intOf]; omega⟩
 ·have:j=ks.length:=by omega
  subst this
  refine bb hI 0 ao rfl rfl ?_
  refine Run.callPure lZ mg hI (kO h0) fun w' hI=>done hI ?_
  rw [hf,<- hrel,List.drop_length]; rfl
theorem zb {t:T} {S:aF} {cs:List Value} (h:RdT S cs t):Pure Tryz.prog rZ [.agg cs.toArray] S (.bool (!h8 t)):=by
 intro w hI
 obtain ⟨kv,rfl,_,_,hs,hks⟩:=RdT.iff.1 h
 obtain ⟨k,n,s,ks⟩:=t
 simp only [T.name,T.kids,T.kind,T.n] at hs hks ⊢
 refine tL ?_
 unfold p6
 refine bQ hI fun b1 w' hI=>?_
 refine aI hI 0 rfl aT aR rfl ?_
 refine a9 hks ay ?_
 refine eh (done hI ?_)
 congr 1
 show decide (0<(ks.length:Int))=!decide (ks.length=0)
 by_cases h:ks.length=0
 ·rw [decide_eq_true h,decide_eq_false (by omega)]; rfl
 ·rw [decide_eq_false h,decide_eq_true (by omega)]; rfl
theorem sk {t:T} {S:aF} {cs:List Value} (h:RdT S cs t):Pure Tryz.prog HL [.agg cs.toArray] S (.bool (ef t)):=by
 intro w hI
 have h0:=h
 obtain ⟨kv,rfl,_,_,hs,hks⟩:=RdT.iff.1 h
 obtain ⟨k,n,s,ks⟩:=t
 simp only [T.name,T.kids,T.kind,T.n] at h0 hs hks ⊢
 rw [show ef (.mk k n s ks)=(ks.all h8 && ei (.mk k n s ks)) from rfl]
 refine yo ?_
 unfold wb
 refine bQ hI fun b1 w' hI=>?_
 refine bb hI 0 ao rfl rfl ?_
 refine Run.callPure l0 l3 hI (kL h0) fun w' hI=>?_
 cases h1:ei (.mk k n s ks)
 ·repeat (first|refine ad ?_|refine af (by decide) ?_|refine ac ?_|refine al ?_|refine aj ?_)
  exact done hI (by simp)
 ·repeat (first|refine ad ?_|refine af (by decide) ?_|refine ac ?_|refine al ?_|refine aj ?_)
  refine aI hI 0 rfl aT aR rfl ?_
  have hcb:Cb Tryz.prog rZ _ [] S (fun _:Unit=>[]) (fun _=>True) (fun _ x=>(!h8 x,())) (fun v x=>∃ cs,v=.agg cs.toArray/\RdT S cs x) ks:=
   Cb.pure [] Ak Ax fun x v _=>by
    rintro ⟨cs,rfl,hcs⟩ w1 hI
    exact (zb hcs w1 hI).mono fun e w' ⟨he,hI⟩=>⟨_,_,_,he,hI,Ext.refl _ _ _,rfl,rfl,rfl⟩
  refine Run.call0 eB eA hI (ff hcb hks (st:=()) trivial) fun v' I' S' w'=>?_
  rintro ⟨rfl,rfl,rfl⟩ _ hI
  refine dh ?_
  repeat (first|refine ad ?_|refine af (by decide) ?_|refine ac ?_|refine al ?_|refine aj ?_)
  refine done hI ?_
  rw [gq (fun x=>!h8 x) ks,l2]; simp

theorem Ix {t:T} (h:g8 t=true):fm t 30=true:=by
 rw [g8,Bool.and_eq_true] at h
 exact ng h.1
theorem vq:∀ {ts:List T},ts.all g8=true->eW ts 30=true
 | [],_=>rfl
 | t::ts,h=>by
  rw [List.all_cons,Bool.and_eq_true] at h
  rw [eW,Ix h.1,vq h.2]; rfl
theorem Fv {c:C} (h:dC c=true) (l:List Int):gS c.head l=fQ c.head l/\f4 c.body l=eE c.body l:=by
 simp only [dC,Bool.and_eq_true] at h
 exact ⟨FO _ 30 _ (ng h.2.2.1),zy _ 30 _ (vq h.2.1)⟩
theorem xd {c:C} {S:aF} {cs:List Value} (h:RdC S cs c) (hv:dC c=true) (hw:wC c<=1048576):Pure Tryz.prog AX [.agg cs.toArray] S (.bool (gl c)):=by
 intro w hI
 obtain ⟨hd,ks,rfl,h1,h2⟩:=h
 have h1':=h1
 obtain ⟨kv,rfl,g1,g2,g3,g4⟩:=RdT.iff.1 h1
 have hlen:=h2.le
 simp only [maxLen] at hlen
 unfold wC at hw
 have hcl:=C6 c.body
 have hct:=C0 c.head
 have hsv:=fun l=>Fv hv l
 refine sT ?_
 unfold nq
 refine bQ hI fun b1 w' hI=>?_
 refine ⟨fun t w'=>t=.bool (!(ef c.head && decide (c.body.length<=3)))/\Inv w [] [.blk b1 (.cells #[.int .i64 c.head.kind,.int .i64 c.head.n,.string c.head.name,kv,ks] aQ)] S w',?_,?_⟩
 ·refine bi df ?_
  refine fe hI 0 [.int .i64 c.head.kind,.int .i64 c.head.n,.string c.head.name,kv] ao rfl rfl ?_ ?_
  ·intro j v hj
   match j with
   | 0|1|2|3=>exact hj
   | j+4=>simp at hj
  refine Run.callPure tr sH hI (pG h1') fun w' hI=>?_
  refine dh ?_
  cases hf:ef c.head
  ·repeat (first|refine ad ?_|refine af (by decide) ?_|refine ac ?_|refine al ?_|refine aj ?_)
   exact ⟨rfl,hI⟩
  ·repeat (first|refine ad ?_|refine af (by decide) ?_|refine ac ?_|refine al ?_|refine aj ?_)
   refine aI hI 0 rfl bq aR rfl ?_
   refine a9 h2 ay ?_
   refine eh ?_
   repeat (first|refine ad ?_|refine af (by decide) ?_|refine ac ?_|refine al ?_|refine aj ?_)
   refine ⟨?_,hI⟩
   congr 1
   by_cases hl:c.body.length<=3
   ·rw [decide_eq_true hl,decide_eq_false (by omega)]; rfl
   ·rw [decide_eq_false hl,decide_eq_true (by omega)]; rfl
 intro t _ _ _ _ _ _ _ _ _ w'
 rintro ⟨rfl,hI⟩
 refine ba (fun hb=>done hI ?_) (fun hb=>?_)
 ·have hb':(ef c.head && decide (c.body.length<=3))=false:=by rw [Bool.not_eq_true'] at hb; exact hb
  rw [gl,<- Bool.and_assoc,hb']; rfl
 have hb':(ef c.head && decide (c.body.length<=3))=true:=by rw [Bool.not_eq_false'] at hb; exact hb
 have hfc:gl c=(c.body.all ef && (fQ c.head []).all fun n=>io (eE c.body []) n):=by
  rw [gl,<- Bool.and_assoc,hb']; rfl
 refine eO hI o0 fun v0 w' hI=>?_
 refine ⟨fun i t w'=>∃ (j:Nat) (l:List Int),j<=c.body.length/\i=.int .i64 j/\(c.body.drop j).all ef=c.body.all ef/\f4 (c.body.drop j) l=f4 c.body []/\l.length+dX (c.body.drop j)<=3000000/\
   Inv w [] [.blk b1 (.cells #[.int .i64 c.head.kind,.int .i64 c.head.n,.string c.head.name,kv,ks] aQ),gJ t l] S w',
  fun i _ _=>c.body.length - (intOf i).toNat,⟨0,[],Nat.zero_le _,rfl,rfl,rfl,by simp only [List.drop_zero,List.length_nil]; omega,hI⟩,?_⟩
 intro t4 _ _ t3 _ _ _ _ _ _ _ _ _ _ _ _ _ _ _ _ _ _ _ _ w'
 rintro ⟨j,l,hj,rfl,hall,hvs,hl,hI⟩
 refine aI hI 0 rfl bq aR rfl ?_
 refine a9 h2 ay ?_
 refine bW ?_
 refine bl (fun hji=>?_) (fun hji=>?_)
 ·have hj':j<c.body.length:=by omega
  have hstep:=ld ef c.body j hj'
  rw [jF c.body j hj'] at hl
  rw [List.drop_eq_getElem_cons hj',f4] at hvs
  have hc1:=fA (c.body.drop (j+1))
  have hc2:=uS c.body[j] l
  refine aI hI 0 rfl bq aR rfl ?_
  refine dZ hI h2 ay ao hj' (fun _ _=>RdT.length) fun cs' hcs'=>?_
  refine Run.callPure tr sH hI (pG hcs') fun w' hI=>?_
  refine dh ?_
  refine ba (fun hne=>done hI ?_) (fun he=>?_)
  ·have hne':ef c.body[j]=false:=by simpa using hne
   rw [hfc,<- hall,hstep,hne']; rfl
  ·have he':ef c.body[j]=true:=by simpa using he
   refine aI hI 0 rfl bq aR rfl ?_
   refine dZ hI h2 ay ao hj' (fun _ _=>RdT.length) fun cs' hcs'=>?_
   refine Run.call (A:=[_]) oB nJ hI (rO _ S cs' t3 l hcs' (by omega)) fun v' I' S' w'=>?_
   rintro ⟨rfl,rfl⟩ _ hI
   refine bN (by omega) ?_
   exact ⟨⟨j+1,_,hj',rfl,by rw [<- hall,hstep,he']; rfl,hvs,by omega,hI⟩,by simp [intOf]; omega⟩
 ·have:j=c.body.length:=by omega
  subst this
  rw [List.drop_length] at hall hvs
  have hvs':l=eE c.body []:=by rw [<- (hsv []).2,<- hvs,f4]
  have hfc2:gl c=(fQ c.head []).all fun n=>io l n:=by
   rw [hfc,<- hall,<- hvs']; rfl
  refine bi df ?_
  refine fe hI 0 [.int .i64 c.head.kind,.int .i64 c.head.n,.string c.head.name,kv] ao rfl rfl ?_ ?_
  ·intro j v hj
   match j with
   | 0|1|2|3=>exact hj
   | j+4=>simp at hj
  have hI:=hI.rowNil fu 1
  refine Run.call (A:=[_,_]) oB nJ hI (rO _ S _ (.slice none 0 0) [] h1' (by simp only [List.length_nil]; omega)) fun v' I' S w'=>?_
  rintro ⟨rfl,rfl⟩ _ hI
  rw [(hsv []).1] at hI
  generalize fQ c.head []=hv at hI hfc2
  obtain ⟨S1,hle1,hrd1,hI,hback1⟩:=Inv.lend (A:=[_,_]) hI
  obtain ⟨S2,hle2,hrd2,hI,hback2⟩:=Inv.lend (A:=[_]) hI
  have hr1:=hrd1.ints.mono hle2 fun _ _ h=>h
  have hr2:=hrd2.ints
  have hle:Sle S S2:=hle1.trans hle2
  have hlv:=hr1.le
  simp only [maxLen] at hlv
  refine ⟨fun i w'=>∃ j:Nat,j<=hv.length/\i=.int .i64 j/\(hv.drop j).all (fun n=>io l n)=hv.all (fun n=>io l n)/\Inv w [] [.blk b1 (.cells #[.int .i64 c.head.kind,.int .i64 c.head.n,.string c.head.name,kv,ks] aQ)] S2 w',
   fun i _=>hv.length - (intOf i).toNat,⟨0,Nat.zero_le _,rfl,rfl,hI⟩,?_⟩
  intro t6 _ _ _ _ _ _ _ _ _ _ _ _ _ _ w'
  rintro ⟨j,hj,rfl,hall,hI⟩
  refine a9 hr1 fZ ?_
  refine bW ?_
  refine bl (fun hji=>?_) (fun hji=>?_)
  ·have hj':j<hv.length:=by omega
   have hstep:=ld (fun n=>io l n) hv j hj'
   refine i6 hI hr1 fZ bo hj' (fun cs hcs=>hcs) ?_
   refine Run.callPure HI Ii hI (EW hv[j] hr2) fun w' hI=>?_
   refine dh ?_
   refine ba (fun hne=>lD hI hle ?_) (fun he=>?_)
   ·have hne':io l hv[j]=false:=by simpa using hne
    rw [hfc2,<- hall,hstep,hne']; rfl
   ·have he':io l hv[j]=true:=by simpa using he
    refine bN (by omega) ?_
    exact ⟨⟨j+1,hj',rfl,by rw [<- hall,hstep,he']; rfl,hI⟩,by simp [intOf]; omega⟩
  ·have:j=hv.length:=by omega
   subst this
   refine lD hI hle ?_
   rw [hfc2,<- hall,List.drop_length]; rfl

theorem qD {t:T} {S:aF} {cs:List Value} (h:RdT S cs t):Pure Tryz.prog lj [.agg cs.toArray] S (.bool (!ef t)):=by
 intro w hI
 have hl:=h.length
 refine om ?_
 unfold j2
 refine bQ hI fun b1 w' hI=>?_
 refine bb hI 0 ao rfl (by simpa [Value.cells] using hl) ?_
 refine Run.callPure vo vd hI (sk h) fun w' hI=>?_
 exact dh (done hI rfl)
theorem tY {c:C} {S:aF} {cs:List Value} (h:RdC S cs c) (hw:wC c<=1048576):Pure Tryz.prog zE [.agg cs.toArray] S (.bool (gl c)):=by
 intro w hI
 obtain ⟨hd,ks,rfl,h1,h2⟩:=h
 have h1':=h1
 obtain ⟨kv,rfl,g1,g2,g3,g4⟩:=RdT.iff.1 h1
 have hlen:=h2.le
 simp only [maxLen] at hlen
 unfold wC at hw
 have hcl:=C6 c.body
 have hct:=C0 c.head
 refine qt ?_
 unfold mC;dsimp only
 refine bQ hI fun b1 w' hI=>?_
 have hcb:Cb Tryz.prog lj _ [] S (fun _:Unit=>[]) (fun _=>True) (fun _ x=>(!ef x,())) (fun v x=>∃ cs,v=.agg cs.toArray/\RdT S cs x) c.body:=
  Cb.pure [] r7 rp fun x v _=>by
   rintro ⟨cs,rfl,hcs⟩ w1 hI
   exact (qD hcs w1 hI).mono fun e w' ⟨he,hI⟩=>⟨_,_,_,he,hI,Ext.refl _ _ _,rfl,rfl,rfl⟩
 refine ⟨fun t w'=>t=.bool (!(ef c.head && (decide (c.body.length<=3) && c.body.all ef)))/\Inv w [] [.blk b1 (.cells #[.int .i64 c.head.kind,.int .i64 c.head.n,.string c.head.name,kv,ks] aQ)] S w',?_,?_⟩
 ·refine bi df ?_
  refine fe hI 0 [.int .i64 c.head.kind,.int .i64 c.head.n,.string c.head.name,kv] ao rfl rfl ?_ ?_
  ·intro j v hj
   match j with
   | 0|1|2|3=>exact hj
   | j+4=>simp at hj
  refine Run.callPure vo vd hI (sk h1') fun w' hI=>?_
  refine dh ?_
  cases hf:ef c.head
  ·repeat (first|refine ad ?_|refine af (by decide) ?_|refine ac ?_|refine al ?_|refine aj ?_)
   exact ⟨rfl,hI⟩
  ·repeat (first|refine ad ?_|refine af (by decide) ?_|refine ac ?_|refine al ?_|refine aj ?_)
   refine aI hI 0 rfl bq aR rfl ?_
   refine a9 h2 ay ?_
   refine eh ?_
   by_cases hl:c.body.length<=3
   ·rw [decide_eq_true hl,decide_eq_false (show ¬ (3:Int)<c.body.length by omega)]
    repeat (first|refine ad ?_|refine af (by decide) ?_|refine ac ?_|refine al ?_|refine aj ?_)
    refine aI hI 0 rfl bq aR rfl ?_
    refine Run.call0 eB eA hI (ff hcb h2 (st:=()) trivial) fun v' I' S' w'=>?_
    rintro ⟨rfl,rfl,rfl⟩ _ hI
    repeat (first|refine ad ?_|refine af (by decide) ?_|refine ac ?_|refine al ?_|refine aj ?_)
    refine ⟨?_,by rw [List.append_nil] at hI; exact hI⟩
    rw [gq (fun x=>!ef x) c.body,<- l2]; simp
   ·rw [decide_eq_false hl,decide_eq_true (show (3:Int)<c.body.length by omega)]
    repeat (first|refine ad ?_|refine af (by decide) ?_|refine ac ?_|refine al ?_|refine aj ?_)
    exact ⟨rfl,hI⟩
 intro t _ _ _ _ _ _ _ _ _ _ _ _ _ _ w'
 rintro ⟨rfl,hI⟩
 refine ba (fun hb=>done hI ?_) (fun hb=>?_)
 ·have hb':(ef c.head && (decide (c.body.length<=3) && c.body.all ef))=false:=by rw [Bool.not_eq_true'] at hb; exact hb
  rw [gl]
  rw [<- Bool.and_assoc,<- Bool.and_assoc,Bool.and_assoc (ef c.head),hb']; rfl
 have hb':(ef c.head && (decide (c.body.length<=3) && c.body.all ef))=true:=by rw [Bool.not_eq_false'] at hb; exact hb
 have hfc:gl c=(fQ c.head []).all fun n=>io (eE c.body []) n:=by
  rw [gl]
  rw [<- Bool.and_assoc,<- Bool.and_assoc,Bool.and_assoc (ef c.head),hb']; rfl
 refine aI hI 0 rfl bq aR rfl ?_
 refine Run.call0 F4 FX hI (D6 h2 (by omega)) fun v1 I' S w'=>?_
 rintro ⟨rfl,rfl⟩ _ hI
 generalize eE c.body []=l at hI hfc
 refine bH hI LL fun b3 w' hI=>?_
 have hv1:v1.cells=#[v1]/\v1.oneCell'=true:=by
  have:=hI.its (gJ v1 l) (by simp)
  rcases this.2 with ⟨rfl,_⟩|⟨g,cap,cur,rfl,_⟩ <;> exact ⟨rfl,rfl⟩
 refine fg hI 2 (n:=1) (by rw [hv1.1]; rfl) (by rw [Jc]; rfl) rfl (Nat.le_of_ble_eq_true rfl) (by rw [hv1.1]; simpa using hv1.2) fun w' hI=>?_
 refine bi df ?_
 refine fe hI 0 [.int .i64 c.head.kind,.int .i64 c.head.n,.string c.head.name,kv] ao rfl rfl ?_ ?_
 ·intro j v hj
  match j with
  | 0|1|2|3=>exact hj
  | j+4=>simp at hj
 have hI:=hI.rowNil fu 1
 refine Run.call (A:=[_,_,_]) ma mo hI (pR _ S _ (.slice none 0 0) [] h1' (by simp only [List.length_nil]; omega)) fun v' I' S w'=>?_
 rintro ⟨rfl,rfl⟩ _ hI
 generalize fQ c.head []=hv at hI hfc
 refine mq ?_
 have hst:bu (Value.slice none 0 0).cells 0 v1.cells.toList=#[v1]:=by
  rw [hv1.1]; rfl
 have hI:Inv w [] ([.blk b1 (.cells #[.int .i64 c.head.kind,.int .i64 c.head.n,.string c.head.name,kv,ks] aQ),gJ v1 l,.blk b3 (.cells #[v1] qE),gJ v' hv]) S w':=by
  have:=hI
  simp only [List.cons_append,List.nil_append] at this
  rw [hst] at this
  exact this
 obtain ⟨S1,hle1,hrd1,hI,hback1⟩:=Inv.lend (A:=[_,_,_]) hI
 have hI:=hI.perm (M:=[.blk b1 (.cells #[.int .i64 c.head.kind,.int .i64 c.head.n,.string c.head.name,kv,ks] aQ),.blk b3 (.cells #[v1] qE),gJ v1 l]) (List.Perm.cons _ (List.Perm.swap _ _ _))
 obtain ⟨S2,hle2,hrd2,hI,hback2⟩:=Inv.lend (A:=[_,_]) hI
 have hr1:=hrd1.ints.mono hle2 fun _ _ h=>h
 have hr2:=hrd2.ints
 have hle:Sle S S2:=hle1.trans hle2
 have hcb2:Cb Tryz.prog uC _ [.pointer (some ⟨b3,0,none⟩)] S2 (fun _:Unit=>[.blk b3 (.cells #[v1] qE)]) (fun _=>True) (fun _ x=>(!io l x,())) (fun v x=>v=.int .i64 x) hv:=
  Cb.pure [.blk b3 (.cells #[v1] qE)] rI tj fun x v _=>by
   rintro rfl w1 hI
   refine nL ?_
   unfold kH
   refine bG hI 0 Jc rfl rfl ?_
   refine Run.callPure kC j8 hI (jD x hr2) fun w' hI=>?_
   refine dh ?_
   exact ⟨_,_,_,rfl,hI,Ext.refl _ _ _,rfl,rfl,rfl⟩
 refine Run.call (A:=[_]) mM mU hI (pw hcb2 hr1 (st:=()) trivial) fun v' I' S' w'=>?_
 rintro ⟨rfl,rfl,rfl⟩ _ hI
 refine dh ?_
 refine lD hI hle ?_
 rw [gq (fun x=>!io l x) hv,l2,hfc]

theorem qB {p:List C} {S:aF} {v:Value} (h:RdSl S 5 (RdC S) v p) (hw:wP p<=1048576):Pure Tryz.prog xr [v] S (.bool (eI p)):=by
 intro w hI
 have hlen:=h.le
 simp only [maxLen] at hlen
 refine pt ?_
 unfold ly
 refine ⟨fun i w'=>∃ j:Nat,j<=p.length/\i=.int .i64 j/\(p.drop j).all gl=p.all gl/\Inv w [] [] S w',fun i _=>p.length - (intOf i).toNat,⟨0,Nat.zero_le _,rfl,rfl,hI⟩,?_⟩
 intro t3 _ _ _ _ _ _ _ _ _ _ _ _ _ _ _ _ _ w'
 rintro ⟨j,hj,rfl,hall,hI⟩
 refine ⟨fun t w'=>t=.bool (decide (j<p.length) && lo p)/\Inv w [] [] S w',?_,?_⟩
 ·refine a9 h dt ?_
  refine bW ?_
  by_cases hji:j<p.length
  ·rw [decide_eq_true (show (j:Int)<p.length by omega),decide_eq_true hji]
   repeat (first|refine ad ?_|refine af (by decide) ?_|refine ac ?_|refine al ?_|refine aj ?_)
   refine Run.callPure kB ki hI (iG h hw) fun w' hI=>?_
   repeat (first|refine ad ?_|refine af (by decide) ?_|refine ac ?_|refine al ?_|refine aj ?_)
   exact ⟨rfl,hI⟩
  ·rw [decide_eq_false (show ¬ (j:Int)<p.length by omega),decide_eq_false hji]
   repeat (first|refine ad ?_|refine af (by decide) ?_|refine ac ?_|refine al ?_|refine aj ?_)
   exact ⟨rfl,hI⟩
 intro t _ _ _ _ _ _ _ w'
 rintro ⟨rfl,hI⟩
 refine ba (fun hb=>?_) (fun hb=>?_)
 ·simp only [Bool.and_eq_true,decide_eq_true_eq] at hb
  obtain ⟨hj',hpv⟩:=hb
  have hstep:=ld gl p j hj'
  have hwm:=Dw (List.getElem_mem hj')
  have hcv:dC p[j]=true:=by
   simp only [lo,Bool.and_eq_true,List.all_eq_true] at hpv
   exact hpv.2 _ (List.getElem_mem hj')
  refine dZ hI h dt bM hj' (fun _ _=>RdC.length) fun cs' hcs'=>?_
  refine Run.callPure yq xY hI (xd hcs' hcv (by omega)) fun w' hI=>?_
  refine dh ?_
  refine ba (fun hne=>done hI ?_) (fun he=>?_)
  ·have hne':gl p[j]=false:=by simpa using hne
   rw [eI,<- hall,hstep,hne']; simp
  ·have he':gl p[j]=true:=by simpa using he
   refine bN (by omega) ?_
   exact ⟨⟨j+1,hj',rfl,by rw [<- hall,hstep,he']; rfl,hI⟩,by simp [intOf]; omega⟩
 ·refine Run.callPure kB ki hI (iG h hw) fun w' hI=>done hI ?_
  rw [eI]
  by_cases hji:j<p.length
  ·rw [decide_eq_true hji,Bool.true_and] at hb
   rw [hb]; rfl
  ·rw [<- hall,List.drop_of_length_le (by omega)]; simp
theorem oQ {c:C} {S:aF} {cs:List Value} (h:RdC S cs c) (hw:wC c<=1048576):Pure Tryz.prog km [.agg cs.toArray] S (.bool (!gl c)):=by
 intro w hI
 have hl:=h.length
 refine mN ?_
 unfold jI
 refine bQ hI fun b1 w' hI=>?_
 refine bb hI 0 bM rfl (by simpa [Value.cells] using hl) ?_
 refine Run.callPure wu xE hI (tY h hw) fun w' hI=>?_
 exact dh (done hI rfl)
theorem qO {p:List C} {S:aF} {v:Value} (h:RdSl S 5 (RdC S) v p) (hw:wP p<=1048576):Pure Tryz.prog xk [v] S (.bool (eI p)):=by
 intro w hI
 refine pj ?_
 unfold lS
 refine Run.callPure j3 kF hI (iW h) fun w' hI=>?_
 rw [eI]
 cases hv:lo p
 ·repeat (first|refine ad ?_|refine af (by decide) ?_|refine ac ?_|refine al ?_|refine aj ?_)
  exact done hI rfl
 ·repeat (first|refine ad ?_|refine af (by decide) ?_|refine ac ?_|refine al ?_|refine aj ?_)
  have hcb:Cb Tryz.prog km _ [] S (fun _:Unit=>[]) (fun _=>True) (fun _ x=>(!gl x,())) (fun v x=>∃ cs,v=.agg cs.toArray/\RdC S cs x) p:=
   Cb.pure [] qz qm fun x v hx=>by
    rintro ⟨cs,rfl,hcs⟩ w1 hI
    have hwm:=Dw hx
    exact (oQ hcs (by omega) w1 hI).mono fun e w' ⟨he,hI⟩=>⟨_,_,_,he,hI,Ext.refl _ _ _,rfl,rfl,rfl⟩
  refine Run.call0 gA gC hI (gV hcb h (st:=()) trivial) fun v' I' S' w'=>?_
  rintro ⟨rfl,rfl,rfl⟩ _ hI
  refine dh ?_
  repeat (first|refine ad ?_|refine af (by decide) ?_|refine ac ?_|refine al ?_|refine aj ?_)
  refine done hI ?_
  rw [gq (fun x=>!gl x) p,l2]; rfl

end Go.Proofs.YtemmhhdnlbmicaaGreat

/- The row's reading of the arguments gives the reading of this proof; and what a law that returns true owes. -/
namespace Go.Proofs.YtemmhhdnlbmicaaGreat
open Go Go.ChangeShapes Go.WideShapes Go.ChangeAt Go.RowKit

def IV (W:World):aF:=fun b=>W.heap[b]?
section
variable {H:Type} {enc:TypeId × Value->H} {P:Program} {W:World} {sp:Nat->Bool} {held:Bool}
theorem JJ {a:Addr} {v:Value} (h:W.cell? a=some v):∃ b o c E fz,a=⟨b,o,none⟩/\W.heap[b]?=some (.cells c E fz)/\c[o]?=some v:=by
 obtain ⟨b,o,s⟩:=a
 simp only [World.cell?] at h
 split at h
 ·rename_i c E fz hb
  cases s with
  | none=>exact ⟨b,o,c,E,fz,rfl,hb,by simpa using h⟩
  | some s=>simp at h
 ·cases h
theorem Le {b o k:Nat} {cs:List Value} {c:Array Value} {E:TypeId} {fz:Nat × Nat} (hb:W.heap[b]?=some (.cells c E fz)) (h:W.cells? 0 ⟨b,o,none⟩ k=some cs):bw c o k=cs:=by
 unfold World.cells? at h
 rw [if_pos (Nat.zero_le _)] at h
 have hl:cs.length=k:=by simpa using mapM_some_length h
 apply List.ext_getElem?
 intro i
 rw [bw,List.getElem?_take]
 by_cases hi:i<k
 ·rw [if_pos hi,List.getElem?_drop]
  have:=mapM_some_get h i i (by simp [hi])
  rw [<- this,fY]
  simp [World.cell?,hb]
 ·rw [if_neg hi,List.getElem?_eq_none (by omega)]
theorem u6 {α:Type} (p:Nat->α->Prop):∀ n:Nat,(∀ i,i<n->∃ t,p i t)->∃ xs:List α,xs.length=n/\∀ i (h:i<xs.length),p i xs[i]
 | 0,_=>⟨[],rfl,fun i h=>by simp at h⟩
 | n+1,h=>by
  obtain ⟨xs,hl,hx⟩:=u6 p n fun i hi=>h i (by omega)
  obtain ⟨t,ht⟩:=h n (by omega)
  refine ⟨xs++[t],by simp [hl],fun i hi=>?_⟩
  by_cases e:i<xs.length
  ·rw [List.getElem_append_left e]
   exact hx i e
  ·have:i=xs.length:=by simp at hi; omega
   subst this
   simp only [List.getElem_append_right (Nat.le_refl _),Nat.sub_self,List.getElem_cons_zero]
   rw [hl]
   exact ht
theorem oI {T e:TypeId} {k:Nat} (h:dy P T=some (e,k)):P.underlying T=some (.slice e)/\P.cellsOf e=k:=by
 unfold dy at h
 split at h
 ·rename_i e' he
  rw [Option.map_eq_some_iff] at h
  obtain ⟨i,hi,hx⟩:=h
  simp only [Prod.mk.injEq] at hx
  obtain ⟨rfl,rfl⟩:=hx
  exact ⟨he,by simp [Program.cellsOf,hi]⟩
 ·cases h
theorem L6 {α:Type} {R:List Value->α->Prop} {T e:TypeId} {k fuel:Nat} {v:Value} {x:DataW H × List MemPlace} (hu:dy P T=some (e,k)) (hk0:0<k)
  (h:DataW.trod enc P W 0 sp held fuel T [v]=some x) (hel:∀ n cs y,fuel=n+1->DataW.trod enc P W 0 sp held n e cs=some y->∃ t:α,R cs t):∃ xs,RdSl (IV W) k R v xs:=by
 obtain ⟨hu1,hk⟩:=oI hu
 rcases DataW.trod_slice hu1 h with ⟨hcs,_⟩|⟨a,len,cap,elems,rest,n,hf,hcs,_,_,hl,hc,hlen,hE,_⟩
 ·simp only [List.cons.injEq,and_true] at hcs
  subst hcs
  exact ⟨[],none,0,rfl,Nat.le_refl _,Nat.zero_le _,.inl rfl⟩
 ·simp only [List.cons.injEq,and_true] at hcs
  subst hcs
  have hE':∀ i,i<len->∃ t:α,∃ cs,W.cells? 0 (a.add (i * k)) k=some cs/\R cs t:=by
   intro i hi
   have:=hE i hi
   rw [hk,List.getElem?_eq_getElem (by omega),Option.bind_eq_some_iff] at this
   obtain ⟨cs,h1,h2⟩:=this
   obtain ⟨t,ht⟩:=hel n cs _ hf h2
   exact ⟨t,cs,h1,ht⟩
  obtain ⟨xs,hxl,hxs⟩:=u6 _ len hE'
  subst hxl
  refine ⟨xs,some a,cap,rfl,hl,hc,?_⟩
  by_cases h0:xs.length=0
  ·exact .inl (List.eq_nil_of_length_eq_zero h0)
  ·obtain ⟨cs0,h1,_⟩:=hxs 0 (by omega)
   have e0:a.add (0 * k)=a:=by rw [Nat.zero_mul]; simp [Addr.add]
   rw [e0] at h1
   have hc0:∃ u,W.cell? a=some u:=by
    unfold World.cells? at h1
    rw [if_pos (Nat.zero_le _)] at h1
    have hl0:cs0.length=k:=by simpa using mapM_some_length h1
    have:=mapM_some_get h1 0 0 (by simp [hk0])
    rw [List.getElem?_eq_getElem (by omega)] at this
    have e1:a.add 0=a:=by simp [Addr.add]
    rw [e1] at this
    exact ⟨_,this⟩
   obtain ⟨u,hu0⟩:=hc0
   obtain ⟨b,o,c,E,fz,rfl,hb,_⟩:=JJ hu0
   refine .inr ⟨b,o,c,E,fz,rfl,hb,fun i hi=>?_⟩
   obtain ⟨cs,h2,hR⟩:=hxs i hi
   rw [fY] at h2
   rw [Le hb h2]
   exact hR
end

section
variable {H:Type} {enc:TypeId × Value->H} {W:World} {sp:Nat->Bool} {held:Bool}
end

theorem Inv.entry (W:World):Inv W [] [] (IV W) W:=Inv.start (L:=[]) (by simp) (by simp [bX]) fun b o hb=>⟨hb,by simp [bX]⟩
theorem Inv.same {W W':World} {L:List Item} {S:aF} (h:Inv W [] L S W') (b:Nat) (hb:b<W.heap.size):W'.heap[b]?=W.heap[b]?:=h.old b hb (by simp)
theorem JD {W W':World} {may:MemPlace->Prop} (ho:W'.os=W.os) (hp:W'.output=W.output) (h:∀ b,b<W.heap.size->W'.heap[b]?=W.heap[b]?):W.keptBut W' may:=by
 refine ⟨ho,hp,fun i hi=>?_⟩
 rw [h i hi]
 split
 ·rename_i e1 e2
  rw [e1] at e2
  simp only [Option.some.injEq,Obj.cells.injEq] at e2
  obtain ⟨rfl,rfl,rfl⟩:=e2
  exact ⟨rfl,rfl,rfl,fun _ _=>rfl⟩
 ·rename_i e1 e2
  rw [e1] at e2
  simp only [Option.some.injEq,Obj.map.injEq] at e2
  obtain ⟨rfl,rfl⟩:=e2
  exact .inr ⟨rfl,rfl⟩
 ·rfl

end Go.Proofs.YtemmhhdnlbmicaaGreat

/- The sizes: laws.szTerm and its kin. -/
namespace Go.Proofs.YtemmhhdnlbmicaaGreat
open Go Go.RowKit
attribute [local irreducible] Run CondV ah be


end Go.Proofs.YtemmhhdnlbmicaaGreat

/- Equality of terms and clauses as the laws ask it. -/
namespace Go.Proofs.YtemmhhdnlbmicaaGreat
open Go Go.RowKit
attribute [local irreducible] Run CondV ah be

mutual
def eqT:T->T->Bool
 | .mk k n s ks,.mk k' n' s' ks'=>decide (k=k') && (decide (n=n') && (decide (s=s') && eqL ks ks'))
def eqL:List T->List T->Bool
 | [],[]=>true
 | t::ts,u::us=>eqT t u && eqL ts us
 | _,_=>false
end
mutual
theorem iZ:∀ a b:T,eqT a b=true↔a=b
 | .mk k n s ks,.mk k' n' s' ks'=>by
  simp only [eqT,Bool.and_eq_true,decide_eq_true_eq,C9 ks ks',T.mk.injEq]
theorem C9:∀ a b:List T,eqL a b=true↔a=b
 | [],[]=>by simp [eqL]
 | [],_::_=>by simp [eqL]
 | _::_,[]=>by simp [eqL]
 | t::ts,u::us=>by
  simp only [eqL,Bool.and_eq_true,iZ t u,C9 ts us,List.cons.injEq]
end
theorem IR:∀ {a b:List T},a.length≠b.length->eqL a b=false:=by
 intro a b h
 rw [<- Bool.not_eq_true,C9]
 rintro rfl
 exact h rfl
theorem K0 {a b c d e:Value}:∀ (j:Nat) (v:Value),([a,b,c,d]:List Value)[j]?=some v->(#[a,b,c,d,e]:Array Value)[0+j]?=some v
 | 0,_,h|1,_,h|2,_,h|3,_,h=>h
 | j+4,_,h=>by simp at h

end Go.Proofs.YtemmhhdnlbmicaaGreat

/- The sizes of clauses and of programs, and what they bound. -/
namespace Go.Proofs.YtemmhhdnlbmicaaGreat
open Go Go.RowKit
attribute [local irreducible] Run CondV ah be

/- toClauseS, and what it made published -/
end Go.Proofs.YtemmhhdnlbmicaaGreat

/- The laws' marks: laws.markText. -/
namespace Go.Proofs.YtemmhhdnlbmicaaGreat
open Go Go.RowKit
section
variable {P:Program} {w w0:World} {X:List Nat} {L:List Item} {S:aF} {K:Value->World->Prop}
attribute [local irreducible] Run CondV ah be
theorem Iz {T U ty:TypeId} {k k':IntKind} {n:Int} (hT:P.underlying T=some (.int k')) (hU:P.underlying U=some (.int k)) (hk:K (.int k (k.wrap n)) w):Run P (sOp (.convert T U (.const (.int k' n))) ty) w K:=
 Run.of (by simp [sOp,execOp,ev0,evE,convert,Conv.intToInt,run_underlying hT,run_underlying hU]) hk
end

section
attribute [local irreducible] Run CondV ah be
end

end Go.Proofs.YtemmhhdnlbmicaaGreat

/- The laws' marks, written into trees of the function's own. -/
namespace Go.Proofs.YtemmhhdnlbmicaaGreat
open Go Go.RowKit

theorem Part.upd {α:Type} {k:Nat} {R:bE->List Value->α->Prop} {c c':Array Value} {Ls:List bE} {xs:List α} (h:Part k R c Ls xs) {i:Nat} {L':bE} {x:α} (hx:R L' (bw c' (i * k) k) x)
  (hne:∀ j,j≠i->bw c' (j * k) k=bw c (j * k) k):Part k R c' (Ls.set i L') (xs.set i x):=by
 refine ⟨by simp [h.1],fun j h1 h2=>?_⟩
 by_cases e:i=j
 ·subst e
  rw [List.getElem_set_self,List.getElem_set_self]
  exact hx
 ·rw [List.getElem_set_ne e,List.getElem_set_ne e,hne j fun e'=>e e'.symm]
  exact h.2 j (by simpa using h1) (by simpa using h2)
section
attribute [local irreducible] Run CondV ah be
end

end Go.Proofs.YtemmhhdnlbmicaaGreat

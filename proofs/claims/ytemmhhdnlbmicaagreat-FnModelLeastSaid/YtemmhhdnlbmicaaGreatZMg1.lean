/- Goals, clauses, programs, queries: which are valid, on both sides. -/
import Derived.Test.YtemmhhdnlbmicaaGreatZMg0
import Derived.Test.YtemmhhdnlbmicaaGreatRows
import Derived.ProofKit
import Derived.ReadAgain
import Derived.Carry
import Derived.Test.YtemmhhdnlbmicaaGreatZMgS
import Derived.Test.YtemmhhdnlbmicaaGreatZMgF
import Derived.Test.YtemmhhdnlbmicaaGreatZMgh1
import Derived.Laws.BytesArg
namespace Go.Proofs.YtemmhhdnlbmicaaGreat
open Go Go.RowKit
section
variable {P:Program} {w:World} {K:Value->World->Prop} {ty:TypeId}
theorem ac {b:Bool} {A B:Prop} (h:B):aj undef b A B:=by unfold aj; exact h
theorem ah {v u:Value} (hk:K v w):Run P (sOp (.pick (.const (.bool true)) (.const v) (.const u)) ty) w K:=q9 hk
theorem ag {v u:Value} (hk:K u w):Run P (sOp (.pick (.const (.bool false)) (.const v) (.const u)) ty) w K:=q9 hk
end
attribute [local irreducible] Run CondV aj bd

def Cu:List ByteArray:=[⟨#[61]⟩,⟨#[92,61]⟩,⟨#[61,61]⟩,⟨#[60]⟩,⟨#[62]⟩,⟨#[61,60]⟩,⟨#[62,61]⟩,⟨#[61,58,61]⟩,⟨#[105,115]⟩]
def qP:List ByteArray:=[⟨#[116,114,117,101]⟩,⟨#[102,97,105,108]⟩]
def zk:List ByteArray:=[⟨#[118,97,114]⟩,⟨#[110,111,110,118,97,114]⟩,⟨#[97,116,111,109]⟩,⟨#[105,110,116]⟩]
def Jc:List ByteArray:=[⟨#[43]⟩,⟨#[45]⟩]
def AD:List ByteArray:=[⟨#[42]⟩,⟨#[47,47]⟩,⟨#[109,111,100]⟩]
def fP (s:ByteArray) (l:List ByteArray):Bool:=l.any fun x=>decide (s=x)
def gy (s:ByteArray) (n:Int):Bool:=
 if fP s Cu=true then decide (n=2)
 else if fP s qP=true then decide (n=0)
 else if fP s zk=true then decide (n=1)
 else if s=⟨#[97,114,103]⟩ then decide (n=3)
 else false
def dj (s:ByteArray):Int:=if fP s Cu=true then 3 else if fP s Jc=true then 2 else if fP s AD=true then 1 else 0
def Jg (t:T):Bool:=decide (t.kind=3) && (decide (t.name=⟨#[33]⟩) && decide (t.kids.length=0))
def LM (t:T):Bool:=decide (t.kind=3) && decide (t.kids.length=0)
def rl (t:T):Bool:=decide (t.kind=3) && gy t.name t.kids.length
def fZ (t:T):Bool:=decide (t.kind=3) && (kC t.name && (!gy t.name t.kids.length && decide (dj t.name=0)))
def ic (t:T):Bool:=ez t && (Jg t || (fZ t || rl t))
def dD (c:C):Bool:=decide (c.body.length<=6) && (c.body.all ic && (ez c.head && fZ c.head))
def Ev (l:List T):Bool:=decide (l.length<=6) && l.all ic
def n4 (p:List C):Bool:=decide (p.length<=20) && p.all dD
theorem KM (s:ByteArray):(!decide (0<dj s))=decide (dj s=0):=by
 unfold dj
 split
 ·rfl
 ·split
  ·rfl
  ·split <;> rfl

theorem mf (s:ByteArray) (n:Int) (S:az):Pure Tryz.prog Ce [.string s,.int .i64 n] S (.bool (gy s n)):=by
 intro w hI
 refine sM ?_
 unfold pf
 obtain ⟨q,hq⟩:∃ q,fP s Cu=q:=⟨_,rfl⟩
 have hq1:=hq
 refine ⟨fun t w'=>t=.bool q/\Inv w [] [] S w',?_,?_⟩
 ·unfold fP Cu at hq
  iterate 8
   refine cL ?_
   refine a8 (fun h=>⟨by rw [List.any_cons,h] at hq; rw [h,<- hq]; rfl,hI⟩) (fun h=>?_)
   rw [List.any_cons,h,Bool.false_or] at hq
  refine cL ⟨?_,hI⟩
  rw [<- hq]; simp
 intro t _ _ _ _ _ _ _ _ _ w'
 rintro ⟨rfl,hI⟩
 refine a8 (fun h=>?_) (fun h=>?_)
 ·exact bO (done hI (by rw [gy,if_pos (hq1.trans h)]))
 have e1:gy s n=if fP s qP=true then decide (n=0) else if fP s zk=true then decide (n=1) else if s=⟨#[97,114,103]⟩ then decide (n=3) else false:=by
  rw [gy,if_neg (by rw [hq1,h]; decide)]
 clear hq hq1 h
 obtain ⟨q,hq⟩:∃ q,fP s qP=q:=⟨_,rfl⟩
 have hq1:=hq
 refine ⟨fun t w'=>t=.bool q/\Inv w [] [] S w',?_,?_⟩
 ·unfold fP qP at hq
  refine cL ?_
  refine a8 (fun h=>⟨by rw [List.any_cons,h] at hq; rw [h,<- hq]; rfl,hI⟩) (fun h=>?_)
  rw [List.any_cons,h,Bool.false_or] at hq
  refine cL ⟨?_,hI⟩
  rw [<- hq]; simp
 intro _ t _ w'
 rintro ⟨rfl,hI⟩
 refine a8 (fun h=>?_) (fun h=>?_)
 ·exact bO (done hI (by rw [e1,if_pos (hq1.trans h)]))
 rw [if_neg (by rw [hq1,h]; decide)] at e1
 clear hq hq1 h
 obtain ⟨q,hq⟩:∃ q,fP s zk=q:=⟨_,rfl⟩
 have hq1:=hq
 refine ⟨fun t w'=>t=.bool q/\Inv w [] [] S w',?_,?_⟩
 ·unfold fP zk at hq
  iterate 3
   refine cL ?_
   refine a8 (fun h=>⟨by rw [List.any_cons,h] at hq; rw [h,<- hq]; rfl,hI⟩) (fun h=>?_)
   rw [List.any_cons,h,Bool.false_or] at hq
  refine cL ⟨?_,hI⟩
  rw [<- hq]; simp
 intro _ _ _ t _ w'
 rintro ⟨rfl,hI⟩
 refine a8 (fun h=>?_) (fun h=>?_)
 ·exact bO (done hI (by rw [e1,if_pos (hq1.trans h)]))
 rw [if_neg (by rw [hq1,h]; decide)] at e1
 refine cL ?_
 refine bk (fun h=>?_) (fun h=>?_)
 ·exact bO (done hI (by rw [e1,if_pos h]))
 ·exact done hI (by rw [e1,if_neg h])
theorem vG (s:ByteArray) (n:Int) (S:az):Pure Tryz.prog Bc [.string s,.int .i64 n] S (.bool (gy s n)):=by
 intro w hI
 refine sV ?_
 unfold oy
 obtain ⟨q,hq⟩:∃ q,fP s Cu=q:=⟨_,rfl⟩
 have hq1:=hq
 refine ⟨fun t w'=>t=.bool q/\Inv w [] [] S w',?_,?_⟩
 ·unfold fP Cu at hq
  iterate 8
   refine cL ?_
   refine a8 (fun h=>⟨by rw [List.any_cons,h] at hq; rw [h,<- hq]; rfl,hI⟩) (fun h=>?_)
   rw [List.any_cons,h,Bool.false_or] at hq
  refine cL ⟨?_,hI⟩
  rw [<- hq]; simp
 intro t _ _ _ _ _ _ _ _ _ w'
 rintro ⟨rfl,hI⟩
 refine a8 (fun h=>?_) (fun h=>?_)
 ·exact bO (done hI (by rw [gy,if_pos (hq1.trans h)]))
 have e1:gy s n=if fP s qP=true then decide (n=0) else if fP s zk=true then decide (n=1) else if s=⟨#[97,114,103]⟩ then decide (n=3) else false:=by
  rw [gy,if_neg (by rw [hq1,h]; decide)]
 clear hq hq1 h
 obtain ⟨q,hq⟩:∃ q,fP s qP=q:=⟨_,rfl⟩
 have hq1:=hq
 refine ⟨fun t w'=>t=.bool q/\Inv w [] [] S w',?_,?_⟩
 ·unfold fP qP at hq
  refine cL ?_
  refine a8 (fun h=>⟨by rw [List.any_cons,h] at hq; rw [h,<- hq]; rfl,hI⟩) (fun h=>?_)
  rw [List.any_cons,h,Bool.false_or] at hq
  refine cL ⟨?_,hI⟩
  rw [<- hq]; simp
 intro _ t _ w'
 rintro ⟨rfl,hI⟩
 refine a8 (fun h=>?_) (fun h=>?_)
 ·exact bO (done hI (by rw [e1,if_pos (hq1.trans h)]))
 rw [if_neg (by rw [hq1,h]; decide)] at e1
 clear hq hq1 h
 obtain ⟨q,hq⟩:∃ q,fP s zk=q:=⟨_,rfl⟩
 have hq1:=hq
 refine ⟨fun t w'=>t=.bool q/\Inv w [] [] S w',?_,?_⟩
 ·unfold fP zk at hq
  iterate 3
   refine cL ?_
   refine a8 (fun h=>⟨by rw [List.any_cons,h] at hq; rw [h,<- hq]; rfl,hI⟩) (fun h=>?_)
   rw [List.any_cons,h,Bool.false_or] at hq
  refine cL ⟨?_,hI⟩
  rw [<- hq]; simp
 intro _ _ _ t _ w'
 rintro ⟨rfl,hI⟩
 refine a8 (fun h=>?_) (fun h=>?_)
 ·exact bO (done hI (by rw [e1,if_pos (hq1.trans h)]))
 rw [if_neg (by rw [hq1,h]; decide)] at e1
 refine cL ?_
 refine bk (fun h=>?_) (fun h=>?_)
 ·exact bO (done hI (by rw [e1,if_pos h]))
 ·exact done hI (by rw [e1,if_neg h])

theorem ey (s:ByteArray) (S:az):Pure Tryz.prog FV [.string s] S (.int .i64 (dj s)):=by
 intro w hI
 refine yc ?_
 unfold rY
 obtain ⟨q,hq⟩:∃ q,fP s Cu=q:=⟨_,rfl⟩
 have hq1:=hq
 refine ⟨fun t w'=>t=.bool q/\Inv w [] [] S w',?_,?_⟩
 ·unfold fP Cu at hq
  iterate 8
   refine cL ?_
   refine a8 (fun h=>⟨by rw [List.any_cons,h] at hq; rw [h,<- hq]; rfl,hI⟩) (fun h=>?_)
   rw [List.any_cons,h,Bool.false_or] at hq
  refine cL ⟨?_,hI⟩
  rw [<- hq]; simp
 intro _ _ _ _ _ _ _ _ t _ w'
 rintro ⟨rfl,hI⟩
 refine a8 (fun h=>?_) (fun h=>?_)
 ·exact done hI (by rw [show dj s=3 from if_pos (hq1.trans h)] <;> rfl)
 have e1:dj s=if fP s Jc=true then 2 else if fP s AD=true then 1 else 0:=by
  rw [dj,if_neg (by rw [hq1,h]; decide)]
 clear hq hq1 h
 obtain ⟨q,hq⟩:∃ q,fP s Jc=q:=⟨_,rfl⟩
 have hq1:=hq
 refine ⟨fun t w'=>t=.bool q/\Inv w [] [] S w',?_,?_⟩
 ·unfold fP Jc at hq
  refine cL ?_
  refine a8 (fun h=>⟨by rw [List.any_cons,h] at hq; rw [h,<- hq]; rfl,hI⟩) (fun h=>?_)
  rw [List.any_cons,h,Bool.false_or] at hq
  refine cL ⟨?_,hI⟩
  rw [<- hq]; simp
 intro _ t _ w'
 rintro ⟨rfl,hI⟩
 refine a8 (fun h=>?_) (fun h=>?_)
 ·exact done hI (by rw [show dj s=2 from e1.trans (if_pos (hq1.trans h))] <;> rfl)
 rw [if_neg (by rw [hq1,h]; decide)] at e1
 clear hq hq1 h
 obtain ⟨q,hq⟩:∃ q,fP s AD=q:=⟨_,rfl⟩
 have hq1:=hq
 refine ⟨fun t w'=>t=.bool q/\Inv w [] [] S w',?_,?_⟩
 ·unfold fP AD at hq
  iterate 2
   refine cL ?_
   refine a8 (fun h=>⟨by rw [List.any_cons,h] at hq; rw [h,<- hq]; rfl,hI⟩) (fun h=>?_)
   rw [List.any_cons,h,Bool.false_or] at hq
  refine cL ⟨?_,hI⟩
  rw [<- hq]; simp
 intro _ _ t _ w'
 rintro ⟨rfl,hI⟩
 refine a8 (fun h=>?_) (fun h=>?_)
 ·exact done hI (by rw [show dj s=1 from e1.trans (if_pos (hq1.trans h))] <;> rfl)
 ·exact done hI (by rw [show dj s=0 from e1.trans (if_neg (by rw [hq1,h]; decide))] <;> rfl)
theorem yl (s:ByteArray) (S:az):Pure Tryz.prog FJ [.string s] S (.tuple #[.int .i64 (dj s),.bool (decide (dj s=1) || decide (dj s=2))]):=by
 intro w hI
 refine xB ?_
 unfold rX
 obtain ⟨q,hq⟩:∃ q,fP s Cu=q:=⟨_,rfl⟩
 have hq1:=hq
 refine ⟨fun t w'=>t=.bool q/\Inv w [] [] S w',?_,?_⟩
 ·unfold fP Cu at hq
  iterate 8
   refine cL ?_
   refine a8 (fun h=>⟨by rw [List.any_cons,h] at hq; rw [h,<- hq]; rfl,hI⟩) (fun h=>?_)
   rw [List.any_cons,h,Bool.false_or] at hq
  refine cL ⟨?_,hI⟩
  rw [<- hq]; simp
 intro _ _ _ _ _ _ _ _ t _ w'
 rintro ⟨rfl,hI⟩
 refine a8 (fun h=>?_) (fun h=>?_)
 ·exact done hI (by rw [show dj s=3 from if_pos (hq1.trans h)] <;> rfl)
 have e1:dj s=if fP s Jc=true then 2 else if fP s AD=true then 1 else 0:=by
  rw [dj,if_neg (by rw [hq1,h]; decide)]
 clear hq hq1 h
 obtain ⟨q,hq⟩:∃ q,fP s Jc=q:=⟨_,rfl⟩
 have hq1:=hq
 refine ⟨fun t w'=>t=.bool q/\Inv w [] [] S w',?_,?_⟩
 ·unfold fP Jc at hq
  refine cL ?_
  refine a8 (fun h=>⟨by rw [List.any_cons,h] at hq; rw [h,<- hq]; rfl,hI⟩) (fun h=>?_)
  rw [List.any_cons,h,Bool.false_or] at hq
  refine cL ⟨?_,hI⟩
  rw [<- hq]; simp
 intro _ t _ w'
 rintro ⟨rfl,hI⟩
 refine a8 (fun h=>?_) (fun h=>?_)
 ·exact done hI (by rw [show dj s=2 from e1.trans (if_pos (hq1.trans h))] <;> rfl)
 rw [if_neg (by rw [hq1,h]; decide)] at e1
 clear hq hq1 h
 obtain ⟨q,hq⟩:∃ q,fP s AD=q:=⟨_,rfl⟩
 have hq1:=hq
 refine ⟨fun t w'=>t=.bool q/\Inv w [] [] S w',?_,?_⟩
 ·unfold fP AD at hq
  iterate 2
   refine cL ?_
   refine a8 (fun h=>⟨by rw [List.any_cons,h] at hq; rw [h,<- hq]; rfl,hI⟩) (fun h=>?_)
   rw [List.any_cons,h,Bool.false_or] at hq
  refine cL ⟨?_,hI⟩
  rw [<- hq]; simp
 intro _ _ t _ w'
 rintro ⟨rfl,hI⟩
 refine a8 (fun h=>?_) (fun h=>?_)
 ·exact done hI (by rw [show dj s=1 from e1.trans (if_pos (hq1.trans h))] <;> rfl)
 ·exact done hI (by rw [show dj s=0 from e1.trans (if_neg (by rw [hq1,h]; decide))] <;> rfl)

theorem FA {t:T} {S:az} {cs:List Value} (h:RdT S cs t):Pure Tryz.prog Ko [.agg cs.toArray] S (.bool (Jg t)):=by
 intro w hI
 obtain ⟨kv,rfl,_,_,hs,hks⟩:=RdT.iff.1 h
 obtain ⟨k,n,s,ks⟩:=t
 simp only [T.name,T.kids,T.kind,T.n] at hs hks ⊢
 refine Bg ?_
 unfold yT;dsimp only
 refine bM hI fun b1 w' hI=>?_
 refine aI hI 0 rfl bx bn rfl ?_
 refine bO ?_
 rw [show Jg (.mk k n s ks)=(decide (k=3) && (decide (s=⟨#[33]⟩) && decide (ks.length=0))) from rfl]
 cases h1:decide (k=3)
 ·repeat (first|refine ad ?_|refine af (by decide) ?_|refine ac ?_|refine ah ?_|refine ag ?_)
  exact done hI rfl
 ·repeat (first|refine ad ?_|refine af (by decide) ?_|refine ac ?_|refine ah ?_|refine ag ?_)
  refine aI hI 0 rfl bo bl rfl ?_
  refine cL ?_
  cases h2:decide (s=⟨#[33]⟩)
  ·repeat (first|refine ad ?_|refine af (by decide) ?_|refine ac ?_|refine ah ?_|refine ag ?_)
   exact done hI rfl
  ·repeat (first|refine ad ?_|refine af (by decide) ?_|refine ac ?_|refine ah ?_|refine ag ?_)
   refine aI hI 0 rfl aT aP rfl ?_
   refine a9 hks av ?_
   refine bO ?_
   repeat (first|refine ad ?_|refine af (by decide) ?_|refine ac ?_|refine ah ?_|refine ag ?_)
   exact done hI (by simp)

theorem lF {t:T} {S:az} {cs:List Value} (h:RdT S cs t):Pure Tryz.prog Ft [.agg cs.toArray] S (.bool (fZ t)):=by
 intro w hI
 obtain ⟨kv,rfl,_,_,hs,hks⟩:=RdT.iff.1 h
 obtain ⟨k,n,s,ks⟩:=t
 simp only [T.name,T.kids,T.kind,T.n] at hs hks ⊢
 refine xo ?_
 unfold tg;dsimp only
 refine bM hI fun b1 w' hI=>?_
 refine aI hI 0 rfl bx bn rfl ?_
 refine bO ?_
 rw [show fZ (.mk k n s ks)=(decide (k=3) && (kC s && (!gy s ks.length && decide (dj s=0)))) from rfl]
 cases h1:decide (k=3)
 ·repeat (first|refine ad ?_|refine af (by decide) ?_|refine ac ?_|refine ah ?_|refine ag ?_)
  exact done hI rfl
 ·repeat (first|refine ad ?_|refine af (by decide) ?_|refine ac ?_|refine ah ?_|refine ag ?_)
  refine aI hI 0 rfl bo bl rfl ?_
  refine Run.callPure xd wQ hI (sN s hs S) fun w' hI=>?_
  cases h2:kC s
  ·repeat (first|refine ad ?_|refine af (by decide) ?_|refine ac ?_|refine ah ?_|refine ag ?_)
   exact done hI rfl
  ·repeat (first|refine ad ?_|refine af (by decide) ?_|refine ac ?_|refine ah ?_|refine ag ?_)
   refine aI hI 0 rfl bo bl rfl ?_
   refine aI hI 0 rfl aT aP rfl ?_
   refine a9 hks av ?_
   refine Run.callPure pm pk hI (mf s _ S) fun w' hI=>?_
   refine cF ?_
   cases h3:gy s ks.length
   ·repeat (first|refine ad ?_|refine af (by decide) ?_|refine ac ?_|refine ah ?_|refine ag ?_)
    refine aI hI 0 rfl bo bl rfl ?_
    refine Run.callPure fO fL hI (ey s S) fun w' hI=>?_
    refine bO ?_
    repeat (first|refine ad ?_|refine af (by decide) ?_|refine ac ?_|refine ah ?_|refine ag ?_)
    exact done hI rfl
   ·repeat (first|refine ad ?_|refine af (by decide) ?_|refine ac ?_|refine ah ?_|refine ag ?_)
    exact done hI rfl

theorem DL {t:T} {S:az} {cs:List Value} (h:RdT S cs t):Pure Tryz.prog HV [.agg cs.toArray] S (.bool (Jg t || (fZ t || rl t))):=by
 intro w hI
 have h0:=h
 obtain ⟨kv,rfl,_,_,hs,hks⟩:=RdT.iff.1 h
 obtain ⟨k,n,s,ks⟩:=t
 simp only [T.name,T.kids,T.kind,T.n] at h0 hs hks ⊢
 refine Ah ?_
 unfold wv;dsimp only
 refine bM hI fun b1 w' hI=>?_
 refine ba hI 0 ai rfl rfl ?_
 refine Run.callPure HD IE hI (FA h0) fun w' hI=>?_
 cases h1:Jg (.mk k n s ks)
 ·repeat (first|refine ad ?_|refine af (by decide) ?_|refine ac ?_|refine ah ?_|refine ag ?_)
  refine ba hI 0 ai rfl rfl ?_
  refine Run.callPure mM mB hI (lF h0) fun w' hI=>?_
  cases h2:fZ (.mk k n s ks)
  ·repeat (first|refine ad ?_|refine af (by decide) ?_|refine ac ?_|refine ah ?_|refine ag ?_)
   refine aI hI 0 rfl bx bn rfl ?_
   refine bO ?_
   rw [show rl (.mk k n s ks)=(decide (k=3) && gy s ks.length) from rfl]
   cases h3:decide (k=3)
   ·repeat (first|refine ad ?_|refine af (by decide) ?_|refine ac ?_|refine ah ?_|refine ag ?_)
    exact done hI rfl
   ·repeat (first|refine ad ?_|refine af (by decide) ?_|refine ac ?_|refine ah ?_|refine ag ?_)
    refine aI hI 0 rfl bo bl rfl ?_
    refine aI hI 0 rfl aT aP rfl ?_
    refine a9 hks av ?_
    refine Run.callPure pm pk hI (mf s _ S) fun w' hI=>?_
    repeat (first|refine ad ?_|refine af (by decide) ?_|refine ac ?_|refine ah ?_|refine ag ?_)
    exact done hI rfl
  ·repeat (first|refine ad ?_|refine af (by decide) ?_|refine ac ?_|refine ah ?_|refine ag ?_)
   exact done hI rfl
 ·repeat (first|refine ad ?_|refine af (by decide) ?_|refine ac ?_|refine ah ?_|refine ag ?_)
  exact done hI rfl

theorem EQ {t:T} (h:wT t<=1048576):eO t<=4611686018427387904:=by
 have:=vz t
 omega
theorem uP {t:T} {S:az} {cs:List Value} (h:RdT S cs t) (hc:wT t<=1048576):Pure Tryz.prog Bb [.agg cs.toArray] S (.bool (ic t)):=by
 intro w hI
 have hl:=h.length
 refine sX ?_
 unfold pr
 refine bM hI fun b1 w' hI=>?_
 refine ba hI 0 ai rfl (by simpa [Value.cells] using hl) ?_
 refine Run.callPure gS gY hI (gr h (EQ hc)) fun w' hI=>?_
 rw [ic]
 cases h1:ez t
 ·repeat (first|refine ad ?_|refine af (by decide) ?_|refine ac ?_|refine ah ?_|refine ag ?_)
  exact done hI rfl
 ·repeat (first|refine ad ?_|refine af (by decide) ?_|refine ac ?_|refine ah ?_|refine ag ?_)
  refine ba hI 0 ai rfl (by simpa [Value.cells] using hl) ?_
  refine Run.callPure GN GC hI (DL h) fun w' hI=>?_
  repeat (first|refine ad ?_|refine af (by decide) ?_|refine ac ?_|refine ah ?_|refine ag ?_)
  exact done hI rfl


theorem MQ {ts:List T} {t:T} (h:t∈ts):wT t<=wL ts:=by
 induction ts with
 | nil=>simp at h
 | cons u us ih=>
  rw [wL]
  rcases List.mem_cons.1 h with rfl|h
  ·omega
  ·have:=ih h; omega
/- the loop of a list of goals, whatever comes behind it -/
theorem jX {c:C} {S:az} {cs:List Value} (h:RdC S cs c) (hc:wC c<=1048576):Pure Tryz.prog ym [.agg cs.toArray] S (.bool (dD c)):=by
 intro w hI
 obtain ⟨hd,ks,rfl,h1,h2⟩:=h
 have h1':=h1
 obtain ⟨kv,rfl,g1,g2,g3,g4⟩:=RdT.iff.1 h1
 have hlen:=h2.le
 simp only [maxLen] at hlen
 unfold wC at hc
 refine p5 ?_
 unfold me;dsimp only
 refine bM hI fun b1 w' hI=>?_
 refine ⟨fun i w'=>∃ k:Nat,k<=c.body.length/\k<=7/\i=.int .i64 k/\(∀ j (h:j<c.body.length),j<k->ic c.body[j]=true)/\Inv w [] [.blk b1 (.cells #[.int .i64 c.head.kind,.int .i64 c.head.n,.string c.head.name,kv,ks] aR)] S w',
  fun i _=>c.body.length - (intOf i).toNat,⟨0,Nat.zero_le _,by omega,rfl,fun j _ h=>by omega,hI⟩,?_⟩
 intro t3 _ _ _ _ _ _ _ _ _ _ _ _ _ _ _ _ _ _ _ w'
 rintro ⟨k,hk,hk7,rfl,hrel,hI⟩
 refine ⟨fun t w'=>t=.bool (decide (k<c.body.length/\k<=6))/\Inv w [] [.blk b1 (.cells #[.int .i64 c.head.kind,.int .i64 c.head.n,.string c.head.name,kv,ks] aR)] S w',?_,?_⟩
 ·refine aI hI 0 rfl bq aP rfl ?_
  refine a9 h2 av ?_
  refine bR ?_
  by_cases hki:(k:Int)<c.body.length
  ·rw [decide_eq_true hki]
   repeat (first|refine ad ?_|refine af (by decide) ?_|refine ac ?_|refine ah ?_|refine ag ?_)
   refine fK ?_
   repeat (first|refine ad ?_|refine af (by decide) ?_|refine ac ?_|refine ah ?_|refine ag ?_)
   refine ⟨?_,hI⟩
   congr 1
   rw [Bool.eq_iff_iff]; simp; omega
  ·rw [decide_eq_false hki]
   repeat (first|refine ad ?_|refine af (by decide) ?_|refine ac ?_|refine ah ?_|refine ag ?_)
   exact ⟨by rw [decide_eq_false (by omega)],hI⟩
 intro t _ _ _ _ _ _ _ _ w'
 rintro ⟨rfl,hI⟩
 refine bk (fun hki=>?_) (fun hki=>?_)
 ·obtain ⟨hk',hk6⟩:=hki
  refine aI hI 0 rfl bq aP rfl ?_
  refine dG hI h2 av ai hk' (fun _ _=>RdT.length) fun cs' hcs'=>?_
  have hwm:=MQ (List.getElem_mem hk')
  refine Run.callPure Ag yL hI (uP hcs' (by omega)) fun w' hI=>?_
  refine cF ?_
  refine a8 (fun hb=>done hI ?_) (fun hb=>?_)
  ·have hb':ic c.body[k]=false:=by simpa using hb
   have:c.body.all ic=false:=by
    rw [<- Bool.not_eq_true,List.all_eq_true]
    intro hall
    rw [hall _ (List.getElem_mem hk')] at hb'
    cases hb'
   rw [dD,this]
   simp
  ·have hb':ic c.body[k]=true:=by simpa using hb
   refine bL (by omega) ?_
   refine ⟨⟨k+1,hk',by omega,rfl,fun j hj hjk=>?_,hI⟩,by simp [intOf]; omega⟩
   by_cases e:j=k
   ·subst e; exact hb'
   ·exact hrel j hj (by omega)
 ·refine aI hI 0 rfl bq aP rfl ?_
  refine a9 h2 av ?_
  refine fK ?_
  rw [dD]
  by_cases hle:c.body.length<=6
  ·have hall:c.body.all ic=true:=by
    rw [List.all_eq_true]
    intro x hx
    obtain ⟨j,hj,rfl⟩:=List.getElem_of_mem hx
    exact hrel j hj (by omega)
   rw [decide_eq_true (show (c.body.length:Int)<=6 by omega),decide_eq_true hle,hall]
   repeat (first|refine ad ?_|refine af (by decide) ?_|refine ac ?_|refine ah ?_|refine ag ?_)
   refine bh dh ?_
   refine fe hI 0 [.int .i64 c.head.kind,.int .i64 c.head.n,.string c.head.name,kv] ai rfl rfl ?_ ?_
   ·intro j v hj
    match j with
    | 0|1|2|3=>exact hj
    | j+4=>simp at hj
   refine Run.callPure gS gY hI (gr h1' (EQ (by omega))) fun w' hI=>?_
   cases hv:ez c.head
   ·repeat (first|refine ad ?_|refine af (by decide) ?_|refine ac ?_|refine ah ?_|refine ag ?_)
    exact done hI rfl
   ·repeat (first|refine ad ?_|refine af (by decide) ?_|refine ac ?_|refine ah ?_|refine ag ?_)
    refine bh dh ?_
    refine fe hI 0 [.int .i64 c.head.kind,.int .i64 c.head.n,.string c.head.name,kv] ai rfl rfl ?_ ?_
    ·intro j v hj
     match j with
     | 0|1|2|3=>exact hj
     | j+4=>simp at hj
    refine Run.callPure mM mB hI (lF h1') fun w' hI=>?_
    repeat (first|refine ad ?_|refine af (by decide) ?_|refine ac ?_|refine ah ?_|refine ag ?_)
    exact done hI rfl
  ·rw [decide_eq_false (show ¬ (c.body.length:Int)<=6 by omega),decide_eq_false hle]
   repeat (first|refine ad ?_|refine af (by decide) ?_|refine ac ?_|refine ah ?_|refine ag ?_)
   exact done hI rfl

theorem i7 {xs:List C} {S:az} {v:Value} (h:RdSl S 5 (RdC S) v xs) (hc:wP xs<=1048576):Pure Tryz.prog uN [v] S (.bool (n4 xs)):=by
 intro w hI
 have hlen:=h.le
 simp only [maxLen] at hlen
 refine oQ ?_
 unfold lc
 refine ⟨fun i w'=>∃ k:Nat,k<=xs.length/\k<=20+1/\i=.int .i64 k/\(∀ j (h:j<xs.length),j<k->dD xs[j]=true)/\Inv w [] [] S w',
  fun i _=>xs.length - (intOf i).toNat,⟨0,Nat.zero_le _,by omega,rfl,fun j _ h=>by omega,hI⟩,?_⟩
 intro t3 _ _ _ _ _ _ _ _ _ _ _ _ _ _ _ _ _ w'
 rintro ⟨k,hk,hk7,rfl,hrel,hI⟩
 refine ⟨fun t w'=>t=.bool (decide (k<xs.length/\k<=20))/\Inv w [] [] S w',?_,?_⟩
 ·refine a9 h cC ?_
  refine bR ?_
  by_cases hki:(k:Int)<xs.length
  ·rw [decide_eq_true hki]
   repeat (first|refine ad ?_|refine af (by decide) ?_|refine ac ?_|refine ah ?_|refine ag ?_)
   refine fK ?_
   repeat (first|refine ad ?_|refine af (by decide) ?_|refine ac ?_|refine ah ?_|refine ag ?_)
   refine ⟨?_,hI⟩
   congr 1
   rw [Bool.eq_iff_iff]; simp; omega
  ·rw [decide_eq_false hki]
   repeat (first|refine ad ?_|refine af (by decide) ?_|refine ac ?_|refine ah ?_|refine ag ?_)
   exact ⟨by rw [decide_eq_false (by omega)],hI⟩
 intro t _ _ _ _ _ _ _ w'
 rintro ⟨rfl,hI⟩
 refine bk (fun hki=>?_) (fun hki=>?_)
 ·obtain ⟨hk',hk6⟩:=hki
  refine dG hI h cC bF hk' (fun _ _=>RdC.length) fun cs' hcs'=>?_
  have hwm:=EH (List.getElem_mem hk')
  refine Run.callPure lN mi hI (jX hcs' (by omega)) fun w' hI=>?_
  refine cF ?_
  refine a8 (fun hb=>done hI ?_) (fun hb=>?_)
  ·have hb':dD xs[k]=false:=by simpa using hb
   have:xs.all dD=false:=by
    rw [<- Bool.not_eq_true,List.all_eq_true]
    intro hall
    rw [hall _ (List.getElem_mem hk')] at hb'
    cases hb'
   rw [n4,this,Bool.and_false]
  ·have hb':dD xs[k]=true:=by simpa using hb
   refine bL (by omega) ?_
   refine ⟨⟨k+1,hk',by omega,rfl,fun j hj hjk=>?_,hI⟩,by simp [intOf]; omega⟩
   by_cases e:j=k
   ·subst e; exact hb'
   ·exact hrel j hj (by omega)
 ·refine a9 h cC ?_
  refine fK ?_
  rw [n4]
  refine done hI ?_
  by_cases hle:xs.length<=20
  ·have hall:xs.all dD=true:=by
    rw [List.all_eq_true]
    intro x hx
    obtain ⟨j,hj,rfl⟩:=List.getElem_of_mem hx
    exact hrel j hj (by omega)
   rw [decide_eq_true (show (xs.length:Int)<=20 by omega),decide_eq_true hle,hall]; rfl
  ·rw [decide_eq_false (show ¬ (xs.length:Int)<=20 by omega),decide_eq_false hle]; rfl

/- the program's side -/
theorem Je (s:ByteArray) (S:az):Pure Tryz.prog Mv [.string s] S (.bool (decide (0<dj s))):=by
 intro w hI
 refine Es ?_
 unfold CR
 refine Run.callPure EF D5 hI (yl s S) fun w' hI=>?_
 refine bb rfl ?_
 refine bb rfl ?_
 refine d6 ?_
 exact done hI rfl
theorem qF {t:T} {S:az} {cs:List Value} (h:RdT S cs t):Pure Tryz.prog He [.agg cs.toArray] S (.bool (rl t)):=by
 intro w hI
 obtain ⟨kv,rfl,_,_,hs,hks⟩:=RdT.iff.1 h
 obtain ⟨k,n,s,ks⟩:=t
 simp only [T.name,T.kids,T.kind,T.n] at hs hks ⊢
 refine xI ?_
 unfold ti
 refine bM hI fun b1 w' hI=>?_
 refine aI hI 0 rfl bx bn rfl ?_
 refine bO ?_
 rw [show rl (.mk k n s ks)=(decide (k=3) && gy s ks.length) from rfl]
 cases h3:decide (k=3)
 ·repeat (first|refine ad ?_|refine af (by decide) ?_|refine ac ?_|refine ah ?_|refine ag ?_)
  exact done hI rfl
 ·repeat (first|refine ad ?_|refine af (by decide) ?_|refine ac ?_|refine ah ?_|refine ag ?_)
  refine aI hI 0 rfl bo bl rfl ?_
  refine aI hI 0 rfl aT aP rfl ?_
  refine a9 hks av ?_
  refine Run.callPure z5 zX hI (vG s _ S) fun w' hI=>?_
  repeat (first|refine ad ?_|refine af (by decide) ?_|refine ac ?_|refine ah ?_|refine ag ?_)
  exact done hI rfl
theorem lE {t:T} {S:az} {cs:List Value} (h:RdT S cs t):Pure Tryz.prog F8 [.agg cs.toArray] S (.bool (fZ t)):=by
 intro w hI
 have h0:=h
 obtain ⟨kv,rfl,_,_,hs,hks⟩:=RdT.iff.1 h
 obtain ⟨k,n,s,ks⟩:=t
 simp only [T.name,T.kids,T.kind,T.n] at h0 hs hks ⊢
 refine xt ?_
 unfold sB;dsimp only
 refine bM hI fun b1 w' hI=>?_
 refine aI hI 0 rfl bx bn rfl ?_
 refine bO ?_
 have hb:rl (.mk k n s ks)=(decide (k=3) && gy s ks.length):=rfl
 rw [show fZ (.mk k n s ks)=(decide (k=3) && (kC s && (!gy s ks.length && decide (dj s=0)))) from rfl]
 cases h1:decide (k=3)
 ·repeat (first|refine ad ?_|refine af (by decide) ?_|refine ac ?_|refine ah ?_|refine ag ?_)
  exact done hI rfl
 ·rw [h1] at hb
  repeat (first|refine ad ?_|refine af (by decide) ?_|refine ac ?_|refine ah ?_|refine ag ?_)
  refine aI hI 0 rfl bo bl rfl ?_
  refine Run.callPure pl o4 hI (nq s hs S) fun w' hI=>?_
  cases h2:kC s
  ·repeat (first|refine ad ?_|refine af (by decide) ?_|refine ac ?_|refine ah ?_|refine ag ?_)
   exact done hI rfl
  ·repeat (first|refine ad ?_|refine af (by decide) ?_|refine ac ?_|refine ah ?_|refine ag ?_)
   refine aI hI 0 rfl bo bl rfl ?_
   refine Run.callPure KY Kv hI (Je s S) fun w' hI=>?_
   refine cF ?_
   rw [KM]
   cases h3:decide (dj s=0)
   ·repeat (first|refine ad ?_|refine af (by decide) ?_|refine ac ?_|refine ah ?_|refine ag ?_)
    exact done hI (by simp)
   ·repeat (first|refine ad ?_|refine af (by decide) ?_|refine ac ?_|refine ah ?_|refine ag ?_)
    refine ba hI 0 ai rfl rfl ?_
    refine Run.callPure uq tR hI (qF h0) fun w' hI=>?_
    refine cF ?_
    repeat (first|refine ad ?_|refine af (by decide) ?_|refine ac ?_|refine ah ?_|refine ag ?_)
    exact done hI (by rw [hb]; simp)
theorem Et {t:T} {S:az} {cs:List Value} (h:RdT S cs t):Pure Tryz.prog Id [.agg cs.toArray] S (.bool (LM t)):=by
 intro w hI
 obtain ⟨kv,rfl,_,_,hs,hks⟩:=RdT.iff.1 h
 obtain ⟨k,n,s,ks⟩:=t
 simp only [T.name,T.kids,T.kind,T.n] at hs hks ⊢
 refine yP ?_
 unfold wE
 refine bM hI fun b1 w' hI=>?_
 refine aI hI 0 rfl bx bn rfl ?_
 refine bO ?_
 rw [show LM (.mk k n s ks)=(decide (k=3) && decide (ks.length=0)) from rfl]
 cases h3:decide (k=3)
 ·repeat (first|refine ad ?_|refine af (by decide) ?_|refine ac ?_|refine ah ?_|refine ag ?_)
  exact done hI rfl
 ·repeat (first|refine ad ?_|refine af (by decide) ?_|refine ac ?_|refine ah ?_|refine ag ?_)
  refine aI hI 0 rfl aT aP rfl ?_
  refine a9 hks av ?_
  refine bO ?_
  repeat (first|refine ad ?_|refine af (by decide) ?_|refine ac ?_|refine ah ?_|refine ag ?_)
  exact done hI (by simp)
theorem Fk {t:T} {S:az} {cs:List Value} (h:RdT S cs t):Pure Tryz.prog KW [.agg cs.toArray] S (.bool (Jg t)):=by
 intro w hI
 have h0:=h
 obtain ⟨kv,rfl,_,_,hs,hks⟩:=RdT.iff.1 h
 obtain ⟨k,n,s,ks⟩:=t
 simp only [T.name,T.kids,T.kind,T.n] at h0 hs hks ⊢
 refine BG ?_
 unfold yZ
 refine bM hI fun b1 w' hI=>?_
 refine ba hI 0 ai rfl rfl ?_
 refine Run.callPure GJ FW hI (Et h0) fun w' hI=>?_
 rw [show Jg (.mk k n s ks)=(decide (k=3) && (decide (s=⟨#[33]⟩) && decide (ks.length=0))) from rfl]
 cases h1:LM (.mk k n s ks)
 ·repeat (first|refine ad ?_|refine af (by decide) ?_|refine ac ?_|refine ah ?_|refine ag ?_)
  refine done hI ?_
  replace h1:(decide (k=3) && decide (ks.length=0))=false:=h1
  cases h2:decide (k=3)
  ·rfl
  ·rw [h2,Bool.true_and] at h1
   rw [h1,Bool.and_false]; rfl
 ·repeat (first|refine ad ?_|refine af (by decide) ?_|refine ac ?_|refine ah ?_|refine ag ?_)
  refine aI hI 0 rfl bo bl rfl ?_
  refine cL ?_
  repeat (first|refine ad ?_|refine af (by decide) ?_|refine ac ?_|refine ah ?_|refine ag ?_)
  refine done hI ?_
  replace h1:(decide (k=3) && decide (ks.length=0))=true:=h1
  rw [Bool.and_eq_true] at h1
  rw [h1.1,h1.2]; simp
theorem vx {t:T} {S:az} {cs:List Value} (h:RdT S cs t):Pure Tryz.prog B0 [.agg cs.toArray] S (.bool (ic t)):=by
 intro w hI
 have hl:=h.length
 refine r5 ?_
 unfold oH
 refine bM hI fun b1 w' hI=>?_
 refine ba hI 0 ai rfl (by simpa [Value.cells] using hl) ?_
 refine Run.callPure kq jO hI (iy h) fun w' hI=>?_
 rw [ic]
 cases h1:ez t
 ·repeat (first|refine ad ?_|refine af (by decide) ?_|refine ac ?_|refine ah ?_|refine ag ?_)
  exact done hI rfl
 ·repeat (first|refine ad ?_|refine af (by decide) ?_|refine ac ?_|refine ah ?_|refine ag ?_)
  refine ba hI 0 ai rfl (by simpa [Value.cells] using hl) ?_
  refine Run.callPure mV mT hI (lE h) fun w' hI=>?_
  cases h2:fZ t
  ·repeat (first|refine ad ?_|refine af (by decide) ?_|refine ac ?_|refine ah ?_|refine ag ?_)
   refine ba hI 0 ai rfl (by simpa [Value.cells] using hl) ?_
   refine Run.callPure uq tR hI (qF h) fun w' hI=>?_
   cases h3:rl t
   ·repeat (first|refine ad ?_|refine af (by decide) ?_|refine ac ?_|refine ah ?_|refine ag ?_)
    refine ba hI 0 ai rfl (by simpa [Value.cells] using hl) ?_
    refine Run.callPure Ig IZ hI (Fk h) fun w' hI=>?_
    repeat (first|refine ad ?_|refine af (by decide) ?_|refine ac ?_|refine ah ?_|refine ag ?_)
    exact done hI (by simp)
   ·repeat (first|refine ad ?_|refine af (by decide) ?_|refine ac ?_|refine ah ?_|refine ag ?_)
    exact done hI (by simp)
  ·repeat (first|refine ad ?_|refine af (by decide) ?_|refine ac ?_|refine ah ?_|refine ag ?_)
   exact done hI (by simp)

theorem ld {α:Type} (p:α->Bool):∀ xs:List α,(!xs.any fun x=>!p x)=xs.all p
 | []=>rfl
 | x::xs=>by
  rw [List.any_cons,List.all_cons,<- ld p xs]
  cases p x <;> simp

theorem qh {x:T} {S:az} {cs:List Value} (h:RdT S cs x):Pure Tryz.prog md [.agg cs.toArray] S (.bool (!ic x)):=by
 intro w hI
 have hl:=h.length
 refine oq ?_
 unfold ln
 refine bM hI fun b1 w' hI=>?_
 refine ba hI 0 ai rfl (by simpa [Value.cells] using hl) ?_
 refine Run.callPure Ad Ba hI (vx h) fun w' hI=>?_
 refine cF (done hI rfl)
theorem s9 {xs:List T} {S:az} {v:Value} (h:RdSl S 4 (RdT S) v xs):Pure Tryz.prog zH [v] S (.bool (Ev xs)):=by
 intro w hI
 refine qY ?_
 unfold mZ
 refine a9 h av ?_
 refine fK ?_
 rw [Ev]
 by_cases hle:xs.length<=6
 ·rw [decide_eq_true (show (xs.length:Int)<=6 by omega),decide_eq_true hle]
  repeat (first|refine ad ?_|refine af (by decide) ?_|refine ac ?_|refine ah ?_|refine ag ?_)
  have hcb:Cb Tryz.prog md _ [] S (fun _:Unit=>[]) (fun _=>True) (fun _ x=>(!ic x,())) (fun v x=>∃ cs,v=.agg cs.toArray/\RdT S cs x) xs:=
   Cb.pure [] sQ r7 fun x v _=>by
    rintro ⟨cs,rfl,hcs⟩ w1 hI
    exact (qh hcs w1 hI).mono fun e w' ⟨he,hI⟩=>⟨_,_,_,he,hI,Ext.refl _ _ _,rfl,rfl,rfl⟩
  refine Run.call0 dE dH hI (dS hcb h (st:=()) trivial) fun v' I' S' w'=>?_
  rintro ⟨rfl,rfl,rfl⟩ _ hI
  refine cF ?_
  repeat (first|refine ad ?_|refine af (by decide) ?_|refine ac ?_|refine ah ?_|refine ag ?_)
  refine done hI ?_
  rw [fy (fun x=>!ic x) xs,ld]; rfl
 ·rw [decide_eq_false (show ¬ (xs.length:Int)<=6 by omega),decide_eq_false hle]
  repeat (first|refine ad ?_|refine af (by decide) ?_|refine ac ?_|refine ah ?_|refine ag ?_)
  exact done hI rfl
theorem rx {c:C} {S:az} {cs:List Value} (h:RdC S cs c):Pure Tryz.prog xq [.agg cs.toArray] S (.bool (dD c)):=by
 intro w hI
 obtain ⟨hd,ks,rfl,h1,h2⟩:=h
 have h1':=h1
 obtain ⟨kv,rfl,g1,g2,g3,g4⟩:=RdT.iff.1 h1
 have hfin:dD c=(ez c.head && (fZ c.head && Ev c.body)):=by
  unfold dD Ev
  cases ez c.head <;> cases fZ c.head <;> simp
 refine qc ?_
 unfold mn;dsimp only
 rw [hfin]
 refine bM hI fun b1 w' hI=>?_
 refine bh dh ?_
 refine fe hI 0 [.int .i64 c.head.kind,.int .i64 c.head.n,.string c.head.name,kv] ai rfl rfl ?_ ?_
 ·intro j v hj
  match j with
  | 0|1|2|3=>exact hj
  | j+4=>simp at hj
 refine Run.callPure kq jO hI (iy h1') fun w' hI=>?_
 cases hv:ez c.head
 ·repeat (first|refine ad ?_|refine af (by decide) ?_|refine ac ?_|refine ah ?_|refine ag ?_)
  exact done hI rfl
 ·repeat (first|refine ad ?_|refine af (by decide) ?_|refine ac ?_|refine ah ?_|refine ag ?_)
  refine bh dh ?_
  refine fe hI 0 [.int .i64 c.head.kind,.int .i64 c.head.n,.string c.head.name,kv] ai rfl rfl ?_ ?_
  ·intro j v hj
   match j with
   | 0|1|2|3=>exact hj
   | j+4=>simp at hj
  refine Run.callPure mV mT hI (lE h1') fun w' hI=>?_
  cases hp:fZ c.head
  ·repeat (first|refine ad ?_|refine af (by decide) ?_|refine ac ?_|refine ah ?_|refine ag ?_)
   exact done hI rfl
  ·repeat (first|refine ad ?_|refine af (by decide) ?_|refine ac ?_|refine ah ?_|refine ag ?_)
   refine aI hI 0 rfl bq aP rfl ?_
   refine Run.callPure xx xm hI (s9 h2) fun w' hI=>?_
   repeat (first|refine ad ?_|refine af (by decide) ?_|refine ac ?_|refine ah ?_|refine ag ?_)
   exact done hI rfl

theorem nH {x:C} {S:az} {cs:List Value} (h:RdC S cs x):Pure Tryz.prog j8 [.agg cs.toArray] S (.bool (!dD x)):=by
 intro w hI
 have hl:=h.length
 refine mt ?_
 unfold jk
 refine bM hI fun b1 w' hI=>?_
 refine ba hI 0 bF rfl (by simpa [Value.cells] using hl) ?_
 refine Run.callPure vL vN hI (rx h) fun w' hI=>?_
 refine cF (done hI rfl)
theorem p8 {xs:List C} {S:az} {v:Value} (h:RdSl S 5 (RdC S) v xs):Pure Tryz.prog vK [v] S (.bool (n4 xs)):=by
 intro w hI
 refine pc ?_
 unfold kT
 refine a9 h cC ?_
 refine fK ?_
 rw [n4]
 by_cases hle:xs.length<=20
 ·rw [decide_eq_true (show (xs.length:Int)<=20 by omega),decide_eq_true hle]
  repeat (first|refine ad ?_|refine af (by decide) ?_|refine ac ?_|refine ah ?_|refine ag ?_)
  have hcb:Cb Tryz.prog j8 _ [] S (fun _:Unit=>[]) (fun _=>True) (fun _ x=>(!dD x,())) (fun v x=>∃ cs,v=.agg cs.toArray/\RdC S cs x) xs:=
   Cb.pure [] pT qe fun x v _=>by
    rintro ⟨cs,rfl,hcs⟩ w1 hI
    exact (nH hcs w1 hI).mono fun e w' ⟨he,hI⟩=>⟨_,_,_,he,hI,Ext.refl _ _ _,rfl,rfl,rfl⟩
  refine Run.call0 gI gE hI (gZ hcb h (st:=()) trivial) fun v' I' S' w'=>?_
  rintro ⟨rfl,rfl,rfl⟩ _ hI
  refine cF ?_
  repeat (first|refine ad ?_|refine af (by decide) ?_|refine ac ?_|refine ah ?_|refine ag ?_)
  refine done hI ?_
  rw [fy (fun x=>!dD x) xs,ld]; rfl
 ·rw [decide_eq_false (show ¬ (xs.length:Int)<=20 by omega),decide_eq_false hle]
  repeat (first|refine ad ?_|refine af (by decide) ?_|refine ac ?_|refine ah ?_|refine ag ?_)
  exact done hI rfl
end Go.Proofs.YtemmhhdnlbmicaaGreat

/- A row of a function's own, handed to a function that only reads; rows of numbers. -/
namespace Go.Proofs.YtemmhhdnlbmicaaGreat
open Go Go.RowKit
attribute [local irreducible] Run CondV aj bd

def RowRd (S:az) (v:Value) (e:TypeId) (k n:Nat) (xs:List Value):Prop:=
 xs.length=n * k/\((v=.slice none 0 0/\n=0) ∨ ∃ g cap cur,v=.slice (some ⟨g,0,none⟩) n cap/\S g=some (.cells cur e)/\n<=cap/\cap<=maxLen/\cur.size=cap * k/\cur.toList.take (n * k)=xs)
theorem Inv.lend {w0 w:World} {X:List Nat} {A:List Item} {S:az} {v:Value} {e:TypeId} {k n:Nat} {xs:List Value} (h:Inv w0 X (A++[.row v e k n xs]) S w) :
  ∃ S',Sle S S'/\RowRd S' v e k n xs/\Inv w0 X A S' w/\∀ B w',Inv w0 X B S' w'->Inv w0 X (B++[.row v e k n xs]) S w':=by
 have hm:w.ownsRow 0 e k v n xs:=h.its (.row v e k n xs) (by simp)
 obtain ⟨hl,hm⟩:=hm
 rcases hm with ⟨rfl,rfl⟩|⟨g,cap,cur,rfl,_,hg,hnc,hcm,hcs,ht⟩
 ·have:xs=[]:=List.eq_nil_of_length_eq_zero (by rw [hl,Nat.zero_mul])
  subst this
  exact ⟨S,Sle.refl S,⟨hl,.inl ⟨rfl,rfl⟩⟩,h.sub (List.sublist_append_left _ _),fun B w' hB=>hB.rowNil e k⟩
 ·have hf:bV (A++[Item.blk g (.cells cur e)])=bV (A++[Item.row (.slice (some ⟨g,0,none⟩) n cap) e k n xs]):=by
   simp [bV,Item.foot,Value.ownBlock]
  have hg':g∈bV (A++[Item.row (.slice (some ⟨g,0,none⟩) n cap) e k n xs]):=by simp [bV,Item.foot,Value.ownBlock]
  have h':Inv w0 X (A++[Item.blk g (.cells cur e)]) S w:=by
   refine ⟨h.size,h.os,h.tape,h.output,h.old,fun it hit=>?_,by rw [hf]; exact h.nd,by rw [hf]; exact h.new,by rw [hf]; exact h.pub⟩
   rcases List.mem_append.1 hit with hit|hit
   ·exact h.its it (List.mem_append_left _ hit)
   ·simp at hit
    subst hit
    exact hg
  obtain ⟨h1,h2⟩:=h'.publishLast
  refine ⟨lR S g (.cells cur e),h2,⟨hl,.inr ⟨g,cap,cur,rfl,by simp [lR],hnc,hcm,hcs,ht⟩⟩,h1,fun B w' hB=>?_⟩
  have hpg:=hB.pub g (.cells cur e) (by simp [lR])
  have hfB:bV (B++[Item.row (.slice (some ⟨g,0,none⟩) n cap) e k n xs])=bV B++[g]:=by simp [bV,Item.foot,Value.ownBlock]
  refine ⟨hB.size,hB.os,hB.tape,hB.output,hB.old,fun it hit=>?_,?_,?_,?_⟩
  ·rcases List.mem_append.1 hit with hit|hit
   ·exact hB.its it hit
   ·simp at hit
    subst hit
    exact ⟨hl,.inr ⟨g,cap,cur,rfl,Nat.zero_le _,hpg.1,hnc,hcm,hcs,ht⟩⟩
  ·rw [hfB,List.nodup_append]
   refine ⟨hB.nd,by simp,fun a ha b hb=>?_⟩
   simp at hb
   subst hb
   intro e'
   subst e'
   exact hpg.2 ha
  ·intro c hc
   rw [hfB] at hc
   rcases List.mem_append.1 hc with hc|hc
   ·exact hB.new c hc
   ·simp at hc
    subst hc
    exact h.new _ hg'
  ·intro c o hc
   have hne:c≠g:=fun e'=>by
    subst e'
    exact (h.pub c o hc).2 hg'
   have:=hB.pub c o (by simp only [lR]; rw [if_neg hne]; exact hc)
   refine ⟨this.1,?_⟩
   rw [hfB]
   intro hc'
   rcases List.mem_append.1 hc' with hc'|hc'
   ·exact this.2 hc'
   ·simp at hc'
    exact hne hc'
theorem Jx {α:Type} (f:α->List Value) (k:Nat) (hf:∀ y,(f y).length=k):∀ (ys:List α) (i:Nat) (h:i<ys.length),((ys.flatMap f).drop (i * k)).take k=f ys[i]
 | [],i,h=>by simp at h
 | y::ys,0,h=>by
  rw [List.flatMap_cons,Nat.zero_mul,List.drop_zero,List.take_append_of_le_length (by rw [hf]; exact Nat.le_refl _),List.take_of_length_le (by rw [hf]; exact Nat.le_refl _)]
  rfl
 | y::ys,i+1,h=>by
  rw [List.flatMap_cons,Nat.succ_mul,Nat.add_comm,<- List.drop_drop,List.drop_left' (hf y)]
  exact Jx f k hf ys i (by simpa using h)
theorem RowRd.rd {α:Type} {S:az} {v:Value} {e:TypeId} {k:Nat} {f:α->List Value} {R:List Value->α->Prop} {ys:List α} (hf:∀ y,(f y).length=k) (hR:∀ y∈ys,R (f y) y)
  (h:RowRd S v e k ys.length (ys.flatMap f)):RdSl S k R v ys:=by
 obtain ⟨hl,h⟩:=h
 rcases h with ⟨rfl,h0⟩|⟨g,cap,cur,rfl,hS,hnc,hcm,hcs,ht⟩
 ·have:ys=[]:=List.eq_nil_of_length_eq_zero h0
  subst this
  exact ⟨none,0,rfl,Nat.le_refl _,Nat.zero_le _,.inl rfl⟩
 ·refine ⟨_,cap,rfl,hnc,hcm,.inr ⟨g,0,cur,e,(0,0),rfl,hS,fun i hi=>?_⟩⟩
  have:=Jx f k hf ys i hi
  have hik:i * k+k<=ys.length * k:=by rw [<- Nat.succ_mul]; exact Nat.mul_le_mul_right k hi
  rw [<- ht,List.drop_take,List.take_take,Nat.min_eq_left (by omega)] at this
  rw [bu,Nat.zero_add,this]
  exact hR _ (List.getElem_mem hi)

/- rows of numbers -/
def ints (ns:List Int):List Value:=ns.flatMap fun n=>[.int .i64 n]
abbrev gN (v:Value) (ns:List Int):Item:=.row v ff 1 ns.length (ints ns)
theorem Dg (ns:List Int) (n:Int):ints ns++[.int .i64 n]=ints (ns++[n]):=by simp [ints]
theorem RowRd.ints {S:az} {v:Value} {e:TypeId} {ns:List Int} (h:RowRd S v e 1 ns.length (ints ns)):RdSl S 1 oc v ns:=
 RowRd.rd (f:=fun n=>[Value.int .i64 n]) (fun _=>rfl) (fun _ _=>rfl) h
def i6 (l:List Int) (n:Int):Bool:=l.any fun x=>decide (n=x)
def kw (l:List Int) (n:Int):List Int:=if i6 l n=true then l else l++[n]
theorem E8 (l:List Int) (n:Int):(kw l n).length<=l.length+1:=by
 unfold kw
 split <;> simp

theorem yC (s:Int) {xs:List Int} {S:az} {v:Value} (h:RdSl S 1 oc v xs) :
  Pure Tryz.prog Bh [v,.int .i64 s] S (.int .i64 (cY (σ:=Unit) (fun _ x=>(decide (s=x),())) () xs 0).1):=by
 intro w hI
 have hlen:=h.le
 simp only [maxLen] at hlen
 refine sd ?_
 unfold pC
 refine a9 h fl ?_
 refine ⟨fun i w'=>∃ k:Nat,k<=xs.length/\i=.int .i64 k/\cY (σ:=Unit) (fun _ x=>(decide (s=x),())) () (xs.drop k) k=cY (σ:=Unit) (fun _ x=>(decide (s=x),())) () xs 0/\Inv w [] [] S w',
  fun i _=>xs.length - (intOf i).toNat,⟨0,Nat.zero_le _,rfl,rfl,hI⟩,?_⟩
 intro t8 _ _ _ _ _ _ _ _ _ _ _ _ w'
 rintro ⟨k,hk,rfl,hrel,hI⟩
 refine bR ?_
 refine bk (fun hki=>?_) (fun hki=>?_)
 ·have hk':k<xs.length:=by omega
  rw [List.drop_eq_getElem_cons hk',cY] at hrel
  refine iF hI h fl bn hk' (fun cs hcs=>hcs) ?_
  refine bO ?_
  refine bk (fun he=>done hI ?_) (fun he=>?_)
  ·rw [<- hrel,if_pos (by simpa using he)]
  ·refine bL (by omega) ?_
   rw [if_neg (by simpa using he)] at hrel
   exact ⟨⟨k+1,hk',rfl,hrel,hI⟩,by simp [intOf]; omega⟩
 ·have:k=xs.length:=by omega
  subst this
  rw [List.drop_length,cY] at hrel
  exact done hI (by rw [<- hrel])
theorem jS (s:Int) {xs:List Int} {S:az} {v:Value} (h:RdSl S 1 oc v xs):Pure Tryz.prog vq [v,.int .i64 s] S (.bool (i6 xs s)):=by
 intro w hI
 refine pt ?_
 unfold lp
 refine Run.callPure yO zi hI (yC s h) fun w' hI=>?_
 refine nh (done hI ?_)
 rw [(ie _ xs () 0).1,fy]; rfl
theorem uw {σ:Type} {f:FuncId} {fn:Func} {cap:List Value} {S:az} {It:σ->List Item} {ok:σ->Prop} {step:σ->Int->Bool × σ} {xs:List Int} {v:Value}
  (hcb:Cb Tryz.prog f fn cap S It ok step (fun v x=>v=.int .i64 x) xs) (h:RdSl S 1 oc v xs) {st:σ} (hok:ok st) :
  Tri Tryz.prog tA [v,fv f cap] (It st) S fun r I' S'=>r=.int .i64 (cY step st xs 0).1/\I'=It (cY step st xs 0).2/\S'=S:=by
 intro w hI
 have hlen:=h.le
 simp only [maxLen] at hlen
 refine nz ?_
 unfold jN
 refine a9 h fl ?_
 refine ⟨fun i w'=>∃ (k:Nat) (st':σ),k<=xs.length/\i=.int .i64 k/\ok st'/\cY step st' (xs.drop k) k=cY step st xs 0/\Inv w (bV (It st)) (It st') S w',fun i _=>xs.length - (intOf i).toNat,
  ⟨0,st,Nat.zero_le _,rfl,hok,rfl,hI⟩,?_⟩
 intro t8 _ _ _ _ _ _ _ _ _ _ _ _ w'
 rintro ⟨k,st',hk,rfl,hok',hrel,hI⟩
 refine bR ?_
 refine bk (fun hki=>?_) (fun hki=>?_)
 ·have hk':k<xs.length:=by omega
  have hm:=List.getElem_mem hk'
  have hstep:cY step st' (xs.drop k) k=if (step st' xs[k]).1 then ((k:Int),(step st' xs[k]).2) else cY step (step st' xs[k]).2 (xs.drop (k+1)) (k+1):=by
   rw [List.drop_eq_getElem_cons hk',cY]
  refine iF hI h fl bn hk' (fun cs hcs=>hcs) ?_
  refine Run.callV (A:=[]) (args:=[.int .i64 xs[k]]) hcb.hf hcb.hn (by simpa using hI) (hcb.call st' _ _ hm hok' rfl) fun v' I' S' w'=>?_
  rintro ⟨rfl,rfl,rfl⟩ _ hI
  refine a8 (fun hb=>?_) (fun hb=>?_)
  ·rw [if_pos hb] at hstep
   refine ⟨_,_,_,rfl,by simpa using hI,Ext.refl _ _ _,?_,?_,rfl⟩
   ·rw [<- hrel,hstep]
   ·rw [<- hrel,hstep]
  ·refine bL (by omega) ?_
   rw [hb] at hstep
   refine ⟨⟨k+1,_,hk',rfl,hcb.keep st' _ hm hok' hb,?_,by simpa using hI⟩,by simp [intOf]; omega⟩
   rw [<- hrel,hstep]
   rfl
 ·have:k=xs.length:=by omega
  subst this
  rw [List.drop_length,cY] at hrel
  exact ⟨_,_,_,rfl,hI,Ext.refl _ _ _,by rw [<- hrel],by rw [<- hrel],rfl⟩
theorem pS {σ:Type} {f:FuncId} {fn:Func} {cap:List Value} {S:az} {It:σ->List Item} {ok:σ->Prop} {step:σ->Int->Bool × σ} {xs:List Int} {v:Value}
  (hcb:Cb Tryz.prog f fn cap S It ok step (fun v x=>v=.int .i64 x) xs) (h:RdSl S 1 oc v xs) {st:σ} (hok:ok st) :
  Tri Tryz.prog oN [v,fv f cap] (It st) S fun r I' S'=>r=.bool (nt step st xs).1/\I'=It (nt step st xs).2/\S'=S:=by
 intro w hI
 refine lq ?_
 unfold hO
 refine Run.call (A:=[]) rM rb (by simpa using hI) (uw hcb h hok) fun v' I' S' w'=>?_
 rintro ⟨rfl,rfl,rfl⟩ _ hI
 refine nh ?_
 have he:=ie step xs st 0
 exact ⟨_,_,_,rfl,by simpa using hI,Ext.refl _ _ _,by rw [he.1],by rw [he.2],rfl⟩
theorem GY (s:Int) {xs:List Int} {S:az} {v:Value} (h:RdSl S 1 oc v xs):Pure Tryz.prog Kp [v,.int .i64 s] S (.bool (i6 xs s)):=by
 intro w hI
 have hlen:=h.le
 simp only [maxLen] at hlen
 refine Br ?_
 unfold AE
 refine ⟨fun i w'=>∃ k:Nat,k<=xs.length/\i=.int .i64 k/\i6 (xs.drop k) s=i6 xs s/\Inv w [] [] S w',fun i _=>xs.length - (intOf i).toNat,⟨0,Nat.zero_le _,rfl,rfl,hI⟩,?_⟩
 intro t5 _ _ _ _ _ _ _ _ _ _ _ _ _ w'
 rintro ⟨k,hk,rfl,hrel,hI⟩
 refine a9 h fl ?_
 refine bR ?_
 refine bk (fun hki=>?_) (fun hki=>?_)
 ·have hk':k<xs.length:=by omega
  have hstep:i6 (xs.drop k) s=(decide (s=xs[k]) || i6 (xs.drop (k+1)) s):=sf _ xs k hk'
  refine iF hI h fl bn hk' (fun cs hcs=>hcs) ?_
  refine bO ?_
  refine bk (fun he=>done hI ?_) (fun he=>?_)
  ·rw [<- hrel,hstep,decide_eq_true he.symm]; rfl
  ·refine bL (by omega) ?_
   exact ⟨⟨k+1,hk',rfl,by rw [<- hrel,hstep,decide_eq_false (fun e=>he e.symm)]; rfl,hI⟩,by simp [intOf]; omega⟩
 ·have:k=xs.length:=by omega
  subst this
  exact done hI (by rw [<- hrel,List.drop_length]; rfl)

end Go.Proofs.YtemmhhdnlbmicaaGreat

/- The variables of terms, on both sides: lists of numbers that grow. -/
namespace Go.Proofs.YtemmhhdnlbmicaaGreat
open Go Go.RowKit
attribute [local irreducible] Run CondV aj bd

mutual
def f2:T->List Int->List Int
 | .mk k n _ ks,l=>eK ks (if k=1 then kw l n else l)
def eK:List T->List Int->List Int
 | [],l=>l
 | t::ts,l=>eK ts (f2 t l)
end
mutual
def g0:T->List Int->List Int
 | .mk k n _ ks,l=>if k=1 then kw l n else gl ks l
def gl:List T->List Int->List Int
 | [],l=>l
 | t::ts,l=>gl ts (g0 t l)
end
mutual
theorem y8:∀ (t:T) (l:List Int),((f2 t l).length:Int)<=l.length+eO t
 | .mk k n s ks,l=>by
  rw [f2,show eO (T.mk k n s ks)=1+d5 ks from rfl]
  have h1:=E8 l n
  have:=Hw ks (if k=1 then kw l n else l)
  split at this <;> rename_i hk <;> simp only [hk,if_true,if_false] at this ⊢ <;> omega
theorem Hw:∀ (ts:List T) (l:List Int),((eK ts l).length:Int)<=l.length+d5 ts
 | [],l=>by simp [eK,d5]
 | t::ts,l=>by
  rw [eK,show d5 (t::ts)=eO t+d5 ts from rfl]
  have:=y8 t l
  have:=Hw ts (f2 t l)
  omega
end
mutual
theorem ve:∀ (t:T) (l:List Int),((g0 t l).length:Int)<=l.length+eO t
 | .mk k n s ks,l=>by
  rw [g0,show eO (T.mk k n s ks)=1+d5 ks from rfl]
  have h1:=E8 l n
  have:=fu ks
  split
  ·omega
  ·have:=CD ks l
   omega
theorem CD:∀ (ts:List T) (l:List Int),((gl ts l).length:Int)<=l.length+d5 ts
 | [],l=>by simp [gl,d5]
 | t::ts,l=>by
  rw [gl,show d5 (t::ts)=eO t+d5 ts from rfl]
  have:=ve t l
  have:=CD ts (g0 t l)
  omega
end
/- on valid terms the two are one -/
mutual
theorem AB:∀ (t:T) (d:Int) (l:List Int),fh t d=true->g0 t l=f2 t l
 | .mk k n s ks,d,l,h=>by
  rw [fh] at h
  split at h
  ·cases h
  ·rw [Bool.and_eq_true] at h
   rw [g0,f2]
   split
   ·rw [F3 h.1 (.inl ‹k=1›)]; rfl
   ·exact Al ks (d - 1) l h.2
theorem Al:∀ (ts:List T) (d:Int) (l:List Int),eX ts d=true->gl ts l=eK ts l
 | [],d,l,h=>rfl
 | t::ts,d,l,h=>by
  rw [eX,Bool.and_eq_true] at h
  rw [gl,eK,AB t d l h.1]
  exact Al ts d _ h.2
end
theorem lm {t:T} (h:ez t=true):fh t 30=true:=by
 rw [ez,Bool.and_eq_true] at h
 exact h.1
abbrev JR (S:az) (r:List Int):Value->List Item->az->Prop:=fun v I' S'=>I'=[gN v r]/\S'=S

theorem mG:∀ (t:T) (S:az) (cs:List Value) (v:Value) (l:List Int),RdT S cs t->l.length+eO t<=1000000000->Tri Tryz.prog H8 [v,.agg cs.toArray] [gN v l] S (JR S (g0 t l)):=by
 refine T.ind fun k n s ks ih S cs v l h hl=>?_
 intro w hI
 obtain ⟨kv,rfl,_,_,hs,hks⟩:=RdT.iff.1 h
 simp only [T.name,T.kids,T.kind,T.n] at hs hks ⊢
 have hlen:=hks.le
 simp only [maxLen] at hlen
 rw [show eO (T.mk k n s ks)=1+d5 ks from rfl] at hl
 have hcp:=fu ks
 have hend:∀ {w':World} {v':Value} {b:Nat} {o:Obj} (r:List Int),Inv w (bV [gN v l]) [.blk b o,gN v' r] S w'->r=g0 (.mk k n s ks) l->
   ∃ v'' I' S',Ending.returned v'=.returned v''/\Inv w (bV [gN v l]) I' S' w'/\Ext w.heap.size (bV [gN v l]) S S'/\JR S (g0 (.mk k n s ks) l) v'' I' S':=by
  intro w' v' b o r h1 h2
  subst h2
  exact ⟨_,_,_,rfl,h1.pick [false,true],Ext.refl _ _ _,rfl,rfl⟩
 refine zb ?_
 unfold v6
 refine bM hI fun b3 w' hI=>?_
 have hI:=hI.perm (M:=[.blk b3 (.cells #[.int .i64 k,.int .i64 n,.string s,kv] ab),gN v l]) (List.Perm.swap _ _ _)
 refine aI hI 0 rfl bx bn rfl ?_
 refine bO ?_
 refine bk (fun hk=>?_) (fun hk=>?_)
 ·have hr:kw l n=g0 (.mk k n s ks) l:=by rw [g0,if_pos hk]
  obtain ⟨S1,hle,hrd,hI,hback⟩:=Inv.lend (A:=[_]) hI
  have hrd:=hrd.ints
  refine ⟨fun i w'=>∃ j:Nat,j<=l.length/\i=.int .i64 j/\i6 (l.drop j) n=i6 l n/\Inv w (bV [gN v l]) [.blk b3 (.cells #[.int .i64 k,.int .i64 n,.string s,kv] ab)] S1 w',
   fun i _=>l.length - (intOf i).toNat,⟨0,Nat.zero_le _,rfl,rfl,hI⟩,?_⟩
  intro t5 _ _ _ _ t22 t21 t20 t19 t18 t17 t16 _ _ _ _ w'
  rintro ⟨j,hj,rfl,hrel,hI⟩
  refine a9 hrd fl ?_
  refine bR ?_
  refine bk (fun hji=>?_) (fun hji=>?_)
  ·have hj':j<l.length:=by omega
   have hstep:i6 (l.drop j) n=(decide (n=l[j]) || i6 (l.drop (j+1)) n):=sf _ l j hj'
   obtain ⟨b,o,cap,c,E,fz,rfl,hS,hR⟩:=hrd.at_ hj'
   refine ⟨fun D ce cN cJ b0 dI dw dv w_=>(D 0=true->dv=.slice (some ⟨b,o,none⟩) l.length cap)/\(D 1=true->dw=.int .i64 j)/\(D 2=true->dI=.pointer (some ⟨b,o+j * 1,none⟩))/\(D 3=true->b0=.int .i64 l[j])/\(D 4=true->cJ=.pointer (some ⟨b3,1,none⟩))/\(D 5=true->cN=.int .i64 n)/\(D 6=true->ce=.bool (decide (l[j]=n)))/\Inv w (bV [gN (.slice (some ⟨b,o,none⟩) l.length cap) l]) [.blk b3 (.cells #[.int .i64 k,.int .i64 n,.string s,kv] ab)] S1 w_,⟨ae,ae,ae,ae,ae,ae,ae,hI.draw⟩,⟨?_,?_,?_,?_,?_,?_,?_,trivial⟩,?_⟩
   ·intro D aY  ce cN cJ b0 dI dw dv w_
    rintro ⟨aA,aB,aC,aD,aw,aE,aF,hI⟩
    exact ⟨fun _=>rfl,aB,aC,aD,aw,aE,aF,hI⟩
   ·intro D aY  ce cN cJ b0 dI dw dv w_
    rintro ⟨aA,aB,aC,aD,aw,aE,aF,hI⟩
    exact ⟨aA,fun _=>rfl,aC,aD,aw,aE,aF,hI⟩
   ·intro D aY cc ij ce cN cJ b0 dI dw dv w_
    rintro ⟨aA,aB,aC,aD,aw,aE,aF,hI⟩
    obtain rfl:=aA cc
    obtain rfl:=aB ij
    refine bi fl hj' ?_
    exact ⟨aA,aB,fun _=>rfl,aD,aw,aE,aF,hI⟩
   ·intro D aY eq ce cN cJ b0 dI dw dv w_
    rintro ⟨aA,aB,aC,aD,aw,aE,aF,hI⟩
    obtain rfl:=aC eq
    refine dM bn (by rw [hI.cellS hS]; exact bm hR 0 _ rfl) ?_
    exact ⟨aA,aB,aC,fun _=>rfl,aw,aE,aF,hI⟩
   ·intro D aY  ce cN cJ b0 dI dw dv w_
    rintro ⟨aA,aB,aC,aD,aw,aE,aF,hI⟩
    refine bh bJ ?_
    exact ⟨aA,aB,aC,aD,fun _=>rfl,aE,aF,hI⟩
   ·intro D aY cR ce cN cJ b0 dI dw dv w_
    rintro ⟨aA,aB,aC,aD,aw,aE,aF,hI⟩
    obtain rfl:=aw cR
    refine bH hI 0 bn rfl rfl ?_
    exact ⟨aA,aB,aC,aD,aw,fun _=>rfl,aF,hI⟩
   ·intro D aY dB km ce cN cJ b0 dI dw dv w_
    rintro ⟨aA,aB,aC,aD,aw,aE,aF,hI⟩
    obtain rfl:=aD dB
    obtain rfl:=aE km
    refine bO ?_
    exact ⟨aA,aB,aC,aD,aw,aE,fun _=>rfl,hI⟩
   intro D fY fE fm fw fF fC fD ce cN cJ b0 dI dw dv w_
   rintro ⟨aA,aB,aC,aD,aw,aE,aF,hI⟩
   obtain rfl:=aF fY
   obtain rfl:=aE fE
   obtain rfl:=aw fm
   obtain rfl:=aD fw
   obtain rfl:=aC fF
   obtain rfl:=aB fC
   obtain rfl:=aA fD
   clear aA aB aC aD aw aE aF
   refine bk (fun he=>?_) (fun he=>?_)
   ·refine hend l (hback _ _ hI) ?_
    rw [<- hr,kw,if_pos (by rw [<- hrel,hstep,decide_eq_true he.symm]; rfl)]
   ·refine bL (by omega) ?_
    exact ⟨⟨j+1,hj',rfl,by rw [<- hrel,hstep,decide_eq_false (fun e=>he e.symm)]; rfl,hI⟩,by simp [intOf]; omega⟩
  ·have:j=l.length:=by omega
   subst this
   have hno:i6 l n=false:=by rw [<- hrel,List.drop_length]; rfl
   have hI:Inv w (bV [gN v l]) [.blk b3 (.cells #[.int .i64 k,.int .i64 n,.string s,kv] ab),gN v l] S _:=hback _ _ hI
   refine aI hI 0 rfl bJ bn rfl ?_
   refine fb hI pF rfl (by omega) (by omega) fun b w' hI=>?_
   refine fo hI 1 (k:=1) [.int .i64 n] pF (by omega) rfl rfl ?_ ?_ (by omega) (by omega) fun v' w' hI=>?_
   ·intro j u hj
    rw [hI.cellL (i:=2) rfl]
    match j with
    | 0=>simpa [Value.cells] using hj
    | j+1=>simp at hj
   ·simp [Value.oneCell']
   ·rw [Dg] at hI
    have hI:=hI.pick [true,true,false]
    refine hend (b:=b3) (o:=.cells #[.int .i64 k,.int .i64 n,.string s,kv] ab) (l++[n]) ?_ ?_
    ·have e:Item.row v' ff 1 (l.length+1) (ints (l++[n]))=gN v' (l++[n]):=by simp [gN]
     exact e ▸ hI
    ·rw [<- hr,kw,if_neg (by rw [hno]; decide)]
 ·have hr:gl ks l=g0 (.mk k n s ks) l:=by rw [g0,if_neg hk]
  refine ⟨fun i t w'=>∃ (j:Nat) (l':List Int),j<=ks.length/\i=.int .i64 j/\gl (ks.drop j) l'=gl ks l/\l'.length+d5 (ks.drop j)<=1000000000/\Inv w (bV [gN v l]) [.blk b3 (.cells #[.int .i64 k,.int .i64 n,.string s,kv] ab),gN t l'] S w',
   fun i _ _=>ks.length - (intOf i).toNat,⟨0,l,Nat.zero_le _,rfl,rfl,by rw [List.drop_zero]; omega,hI⟩,?_⟩
  intro t6 _ _ t0 _ _ _ _ _ _ _ _ _ _ _ _ w'
  rintro ⟨j,l',hj,rfl,hrel,hl',hI⟩
  refine aI hI 0 rfl aT aP rfl ?_
  refine a9 hks av ?_
  refine bR ?_
  refine bk (fun hji=>?_) (fun hji=>?_)
  ·have hj':j<ks.length:=by omega
   rw [jY ks j hj'] at hl'
   rw [List.drop_eq_getElem_cons hj',gl] at hrel
   have hc1:=fu (ks.drop (j+1))
   have hc2:=ve ks[j] l'
   refine aI hI 0 rfl aT aP rfl ?_
   refine dG hI hks av ai hj' (fun _ _=>RdT.length) fun cs' hcs'=>?_
   refine Run.call (A:=[_]) kX kB hI (ih _ (List.getElem_mem hj') S cs' t0 l' hcs' (by omega)) fun v' I' S' w'=>?_
   rintro ⟨rfl,rfl⟩ _ hI
   refine bL (by omega) ?_
   exact ⟨⟨j+1,_,hj',rfl,hrel,by omega,hI⟩,by simp [intOf]; omega⟩
  ·have:j=ks.length:=by omega
   subst this
   rw [List.drop_length,gl] at hrel
   exact hend l' hI (by rw [hrel,hr])

theorem ly:∀ (t:T) (S:az) (cs:List Value) (v:Value) (l:List Int),RdT S cs t->l.length+eO t<=1000000000->Tri Tryz.prog G4 [.agg cs.toArray,v] [gN v l] S (JR S (f2 t l)):=by
 refine T.ind fun k n s ks ih S cs v l h hl=>?_
 intro w hI
 obtain ⟨kv,rfl,_,_,hs,hks⟩:=RdT.iff.1 h
 simp only [T.name,T.kids,T.kind,T.n] at hs hks ⊢
 have hlen:=hks.le
 simp only [maxLen] at hlen
 rw [show eO (T.mk k n s ks)=1+d5 ks from rfl] at hl
 have hcp:=fu ks
 have hal:=E8 l n
 refine xH ?_
 unfold s4
 refine bM hI fun b2 w' hI=>?_
 have hI:=hI.perm (M:=[.blk b2 (.cells #[.int .i64 k,.int .i64 n,.string s,kv] ab),gN v l]) (List.Perm.swap _ _ _)
 refine ⟨fun t w'=>Inv w (bV [gN v l]) [.blk b2 (.cells #[.int .i64 k,.int .i64 n,.string s,kv] ab),gN t (if k=1 then kw l n else l)] S w',?_,?_⟩
 ·refine ⟨fun t w'=>t=.bool (decide (k=1) && !i6 l n)/\Inv w (bV [gN v l]) [.blk b2 (.cells #[.int .i64 k,.int .i64 n,.string s,kv] ab),gN v l] S w',?_,?_⟩
  ·refine aI hI 0 rfl bx bn rfl ?_
   refine bO ?_
   cases h1:decide (k=1)
   ·repeat (first|refine ad ?_|refine af (by decide) ?_|refine ac ?_|refine ah ?_|refine ag ?_)
    exact ⟨rfl,hI⟩
   ·repeat (first|refine ad ?_|refine af (by decide) ?_|refine ac ?_|refine ah ?_|refine ag ?_)
    refine aI hI 0 rfl bJ bn rfl ?_
    obtain ⟨S1,hle,hrd,hI,hback⟩:=Inv.lend (A:=[_]) hI
    refine Run.callPure kF kE hI (jS n hrd.ints) fun w' hI=>?_
    refine cF ?_
    repeat (first|refine ad ?_|refine af (by decide) ?_|refine ac ?_|refine ah ?_|refine ag ?_)
    exact ⟨rfl,hback _ _ hI⟩
  intro t16 _ _ _ _ _ _ _ _ _ w'
  rintro ⟨rfl,hI⟩
  refine a8 (fun hb=>?_) (fun hb=>?_)
  ·simp only [Bool.and_eq_true,decide_eq_true_eq,Bool.not_eq_true'] at hb
   refine aI hI 0 rfl bJ bn rfl ?_
   refine fb hI pF rfl (by omega) (by omega) fun b w' hI=>?_
   refine fo hI 1 (k:=1) [.int .i64 n] pF (by omega) rfl rfl ?_ ?_ (by omega) (by omega) fun v' w' hI=>?_
   ·intro j u hj
    rw [hI.cellL (i:=2) rfl]
    match j with
    | 0=>simpa [Value.cells] using hj
    | j+1=>simp at hj
   ·simp [Value.oneCell']
   ·rw [Dg] at hI
    have hI:=hI.pick [true,true,false]
    rw [if_pos hb.1,kw,if_neg (by rw [hb.2]; decide)]
    have e:Item.row v' ff 1 (l.length+1) (ints (l++[n]))=gN v' (l++[n]):=by simp [gN]
    rw [show List.length l+1=l.length+1 from rfl,e] at hI
    exact hI
  ·have:(if k=1 then kw l n else l)=l:=by
    split
    ·rename_i hk
     rw [kw]
     simp [hk] at hb
     rw [if_pos hb]
    ·rfl
   rw [this]
   exact hI
 intro t1 _ _ _ _ _ _ _ _ _ _ _ _ _ _ _ w' hI
 have hl1:((if k=1 then kw l n else l).length:Int)+d5 ks<=1000000000:=by split <;> omega
 rw [show f2 (.mk k n s ks) l=eK ks (if k=1 then kw l n else l) from by rw [f2]]
 generalize (if k=1 then kw l n else l)=l1 at hI hl1 ⊢
 refine aI hI 0 rfl aT aP rfl ?_
 refine a9 hks av ?_
 refine ⟨fun i t w'=>∃ (j:Nat) (l':List Int),j<=ks.length/\i=.int .i64 j/\eK (ks.drop j) l'=eK ks l1/\l'.length+d5 (ks.drop j)<=1000000000/\Inv w (bV [gN v l]) [.blk b2 (.cells #[.int .i64 k,.int .i64 n,.string s,kv] ab),gN t l'] S w',
  fun i _ _=>ks.length - (intOf i).toNat,⟨0,l1,Nat.zero_le _,rfl,rfl,by rw [List.drop_zero]; omega,hI⟩,?_⟩
 intro t25 _ t1 _ _ _ _ _ _ _ w'
 rintro ⟨j,l',hj,rfl,hrel,hl',hI⟩
 refine bR ?_
 refine bk (fun hji=>?_) (fun hji=>?_)
 ·have hj':j<ks.length:=by omega
  rw [jY ks j hj'] at hl'
  rw [List.drop_eq_getElem_cons hj',eK] at hrel
  have hc1:=fu (ks.drop (j+1))
  have hc2:=y8 ks[j] l'
  refine dG hI hks av ai hj' (fun _ _=>RdT.length) fun cs' hcs'=>?_
  have hlc:=hcs'.length
  refine bw hI bG fun b6 w' hI=>?_
  refine bf hI 2 rfl ai (by simpa using hlc) rfl (by simpa using hcs'.one) fun w' hI=>?_
  refine ba hI 2 ai rfl (by simpa using hlc) ?_
  have hI:=hI.pick [true,true,false]
  refine Run.call (A:=[_]) jq jo hI (ih _ (List.getElem_mem hj') S cs' t1 l' hcs' (by omega)) fun v' I' S' w'=>?_
  rintro ⟨rfl,rfl⟩ _ hI
  refine bL (by omega) ?_
  exact ⟨⟨j+1,_,hj',rfl,hrel,by omega,hI⟩,by simp [intOf]; omega⟩
 ·have:j=ks.length:=by omega
  subst this
  rw [List.drop_length,eK] at hrel
  subst hrel
  exact ⟨_,_,_,rfl,hI.pick [false,true],Ext.refl _ _ _,rfl,rfl⟩
theorem Du {ts:List T} {S:az} {v:Value} (h:RdSl S 4 (RdT S) v ts) (hl:d5 ts<=1000000000):Tri Tryz.prog IP [v] [] S (JR S (eK ts [])):=by
 intro w hI
 have hlen:=h.le
 simp only [maxLen] at hlen
 refine y5 ?_
 unfold vQ
 refine a9 h av ?_
 refine ⟨fun i t w'=>∃ (j:Nat) (l':List Int),j<=ts.length/\i=.int .i64 j/\eK (ts.drop j) l'=eK ts []/\l'.length+d5 (ts.drop j)<=1000000000/\Inv w [] [gN t l'] S w',
  fun i _ _=>ts.length - (intOf i).toNat,⟨0,[],Nat.zero_le _,rfl,rfl,by simpa using hl,hI.rowNil ff 1⟩,?_⟩
 intro t8 _ t3 _ _ _ _ _ _ _ w'
 rintro ⟨j,l',hj,rfl,hrel,hl',hI⟩
 refine bR ?_
 refine bk (fun hji=>?_) (fun hji=>?_)
 ·have hj':j<ts.length:=by omega
  rw [jY ts j hj'] at hl'
  rw [List.drop_eq_getElem_cons hj',eK] at hrel
  have hc1:=fu (ts.drop (j+1))
  have hc2:=y8 ts[j] l'
  refine dG hI h av ai hj' (fun _ _=>RdT.length) fun cs' hcs'=>?_
  have hlc:=hcs'.length
  refine bw hI bG fun b6 w' hI=>?_
  refine bf hI 1 rfl ai (by simpa using hlc) rfl (by simpa using hcs'.one) fun w' hI=>?_
  refine ba hI 1 ai rfl (by simpa using hlc) ?_
  have hI:=hI.pick [true,false]
  refine Run.call (A:=[]) jq jo hI (ly _ S cs' t3 l' hcs' (by omega)) fun v' I' S' w'=>?_
  rintro ⟨rfl,rfl⟩ _ hI
  refine bL (by omega) ?_
  exact ⟨⟨j+1,_,hj',rfl,hrel,by omega,hI⟩,by simp [intOf]; omega⟩
 ·have:j=ts.length:=by omega
  subst this
  rw [List.drop_length,eK] at hrel
  subst hrel
  exact ⟨_,_,_,rfl,hI,Ext.refl _ _ _,rfl,rfl⟩

end Go.Proofs.YtemmhhdnlbmicaaGreat

/- Flat clauses and programs, on both sides. -/
namespace Go.Proofs.YtemmhhdnlbmicaaGreat
open Go Go.RowKit
attribute [local irreducible] Run CondV aj bd

section
variable {P:Program} {w w0:World} {X:List Nat} {L:List Item} {S:az} {K:Value->World->Prop}
theorem MG {α:Type} {T Tf U ty ty' ty'' E:TypeId} {k f d:Nat} {R:List Value->α->Prop} {v:Value} {xs:List α} (hI:Inv w0 X L S w) (h:RdSl S k R v xs) (hu:dA P T=some (E,k)) (hf:fB P Tf f=some d) (hU:pA P U=true)
  {i:Nat} (hi:i<xs.length) (hk:∀ cs,R cs xs[i]->∃ u,cs[d]?=some u/\K u w) :
  Run P (sOp (.indexAddr T (.const v) (.const (.int .i64 i))) ty) w fun p w'=>Run P (sOp (.fieldAddr Tf (.const p) f) ty') w' fun q w''=>Run P (sOp (.load U (.const q)) ty'') w'' K:=by
 obtain ⟨b,o,cap,c,E',fz,rfl,hS,hR⟩:=h.at_ hi
 obtain ⟨u,hu',hK⟩:=hk _ hR
 refine bi hu hi ?_
 refine bh hf ?_
 refine dM hU ?_ hK
 rw [hI.cellS hS]
 exact bm rfl d u hu'
end
def ix (u:T):Bool:=decide (u.kids.length=0)
def ex (t:T):Bool:=t.kids.all ix && fZ t
def gF (c:C):Bool:=ex c.head && (decide (c.body.length<=3) && (c.body.all ex && (f2 c.head []).all fun n=>i6 (eK c.body []) n))
def f1 (p:List C):Bool:=n4 p && p.all gF

theorem lr {t:T} {S:az} {cs:List Value} (h:RdT S cs t):Pure Tryz.prog Fh [.agg cs.toArray] S (.bool (ex t)):=by
 intro w hI
 have h0:=h
 obtain ⟨kv,rfl,_,_,hs,hks⟩:=RdT.iff.1 h
 obtain ⟨k,n,s,ks⟩:=t
 simp only [T.name,T.kids,T.kind,T.n] at h0 hs hks ⊢
 have hlen:=hks.le
 simp only [maxLen] at hlen
 have hf:ex (.mk k n s ks)=(ks.all ix && fZ (.mk k n s ks)):=rfl
 refine xl ?_
 unfold sv
 refine bM hI fun b1 w' hI=>?_
 refine ⟨fun i w'=>∃ j:Nat,j<=ks.length/\i=.int .i64 j/\(ks.drop j).all ix=ks.all ix/\Inv w [] [.blk b1 (.cells #[.int .i64 k,.int .i64 n,.string s,kv] ab)] S w',
  fun i _=>ks.length - (intOf i).toNat,⟨0,Nat.zero_le _,rfl,rfl,hI⟩,?_⟩
 intro t3 _ _ _ _ _ _ _ _ _ _ _ _ _ _ _ _ w'
 rintro ⟨j,hj,rfl,hrel,hI⟩
 refine aI hI 0 rfl aT aP rfl ?_
 refine a9 hks av ?_
 refine bR ?_
 refine bk (fun hji=>?_) (fun hji=>?_)
 ·have hj':j<ks.length:=by omega
  have hstep:=gT ix ks j hj'
  refine aI hI 0 rfl aT aP rfl ?_
  refine MG hI hks av aT aP hj' fun cs' hcs'=>?_
  obtain ⟨kv',rfl,_,_,_,hkk⟩:=RdT.iff.1 hcs'
  refine ⟨kv',rfl,?_⟩
  refine a9 hkk av ?_
  refine d6 ?_
  refine bk (fun hb=>done hI ?_) (fun hb=>?_)
  ·have:ix ks[j]=false:=decide_eq_false (by omega)
   rw [hf,<- hrel,hstep,this]; rfl
  ·have:ix ks[j]=true:=decide_eq_true (by omega)
   refine bL (by omega) ?_
   exact ⟨⟨j+1,hj',rfl,by rw [<- hrel,hstep,this]; rfl,hI⟩,by simp [intOf]; omega⟩
 ·have:j=ks.length:=by omega
  subst this
  refine ba hI 0 ai rfl rfl ?_
  refine Run.callPure mM mB hI (lF h0) fun w' hI=>done hI ?_
  rw [hf,<- hrel,List.drop_length]; rfl
theorem zQ {t:T} {S:az} {cs:List Value} (h:RdT S cs t):Pure Tryz.prog sI [.agg cs.toArray] S (.bool (!ix t)):=by
 intro w hI
 obtain ⟨kv,rfl,_,_,hs,hks⟩:=RdT.iff.1 h
 obtain ⟨k,n,s,ks⟩:=t
 simp only [T.name,T.kids,T.kind,T.n] at hs hks ⊢
 refine ux ?_
 unfold qq
 refine bM hI fun b1 w' hI=>?_
 refine aI hI 0 rfl aT aP rfl ?_
 refine a9 hks av ?_
 refine d6 (done hI ?_)
 congr 1
 show decide (0<(ks.length:Int))=!decide (ks.length=0)
 by_cases h:ks.length=0
 ·rw [decide_eq_true h,decide_eq_false (by omega)]; rfl
 ·rw [decide_eq_false h,decide_eq_true (by omega)]; rfl
theorem mJ {t:T} {S:az} {cs:List Value} (h:RdT S cs t):Pure Tryz.prog Im [.agg cs.toArray] S (.bool (ex t)):=by
 intro w hI
 have h0:=h
 obtain ⟨kv,rfl,_,_,hs,hks⟩:=RdT.iff.1 h
 obtain ⟨k,n,s,ks⟩:=t
 simp only [T.name,T.kids,T.kind,T.n] at h0 hs hks ⊢
 rw [show ex (.mk k n s ks)=(ks.all ix && fZ (.mk k n s ks)) from rfl]
 refine zw ?_
 unfold wA
 refine bM hI fun b1 w' hI=>?_
 refine ba hI 0 ai rfl rfl ?_
 refine Run.callPure mV mT hI (lE h0) fun w' hI=>?_
 cases h1:fZ (.mk k n s ks)
 ·repeat (first|refine ad ?_|refine af (by decide) ?_|refine ac ?_|refine ah ?_|refine ag ?_)
  exact done hI (by simp)
 ·repeat (first|refine ad ?_|refine af (by decide) ?_|refine ac ?_|refine ah ?_|refine ag ?_)
  refine aI hI 0 rfl aT aP rfl ?_
  have hcb:Cb Tryz.prog sI _ [] S (fun _:Unit=>[]) (fun _=>True) (fun _ x=>(!ix x,())) (fun v x=>∃ cs,v=.agg cs.toArray/\RdT S cs x) ks:=
   Cb.pure [] Cq BX fun x v _=>by
    rintro ⟨cs,rfl,hcs⟩ w1 hI
    exact (zQ hcs w1 hI).mono fun e w' ⟨he,hI⟩=>⟨_,_,_,he,hI,Ext.refl _ _ _,rfl,rfl,rfl⟩
  refine Run.call0 dE dH hI (dS hcb hks (st:=()) trivial) fun v' I' S' w'=>?_
  rintro ⟨rfl,rfl,rfl⟩ _ hI
  refine cF ?_
  repeat (first|refine ad ?_|refine af (by decide) ?_|refine ac ?_|refine ah ?_|refine ag ?_)
  refine done hI ?_
  rw [fy (fun x=>!ix x) ks,ld]; simp

theorem HZ {t:T} (h:ic t=true):fh t 30=true:=by
 rw [ic,Bool.and_eq_true] at h
 exact lm h.1
theorem wY:∀ {ts:List T},ts.all ic=true->eX ts 30=true
 | [],_=>rfl
 | t::ts,h=>by
  rw [List.all_cons,Bool.and_eq_true] at h
  rw [eX,HZ h.1,wY h.2]; rfl
theorem FD {c:C} (h:dD c=true) (l:List Int):g0 c.head l=f2 c.head l/\gl c.body l=eK c.body l:=by
 simp only [dD,Bool.and_eq_true] at h
 exact ⟨AB _ 30 _ (lm h.2.2.1),Al _ 30 _ (wY h.2.1)⟩
theorem yp {c:C} {S:az} {cs:List Value} (h:RdC S cs c) (hv:dD c=true) (hw:wC c<=1048576):Pure Tryz.prog B9 [.agg cs.toArray] S (.bool (gF c)):=by
 intro w hI
 obtain ⟨hd,ks,rfl,h1,h2⟩:=h
 have h1':=h1
 obtain ⟨kv,rfl,g1,g2,g3,g4⟩:=RdT.iff.1 h1
 have hlen:=h2.le
 simp only [maxLen] at hlen
 unfold wC at hw
 have hcl:=Eb c.body
 have hct:=vz c.head
 have hsv:=fun l=>FD hv l
 refine s5 ?_
 unfold oC
 refine bM hI fun b1 w' hI=>?_
 refine ⟨fun t w'=>t=.bool (!(ex c.head && decide (c.body.length<=3)))/\Inv w [] [.blk b1 (.cells #[.int .i64 c.head.kind,.int .i64 c.head.n,.string c.head.name,kv,ks] aR)] S w',?_,?_⟩
 ·refine bh dh ?_
  refine fe hI 0 [.int .i64 c.head.kind,.int .i64 c.head.n,.string c.head.name,kv] ai rfl rfl ?_ ?_
  ·intro j v hj
   match j with
   | 0|1|2|3=>exact hj
   | j+4=>simp at hj
  refine Run.callPure ms mW hI (lr h1') fun w' hI=>?_
  refine cF ?_
  cases hf:ex c.head
  ·repeat (first|refine ad ?_|refine af (by decide) ?_|refine ac ?_|refine ah ?_|refine ag ?_)
   exact ⟨rfl,hI⟩
  ·repeat (first|refine ad ?_|refine af (by decide) ?_|refine ac ?_|refine ah ?_|refine ag ?_)
   refine aI hI 0 rfl bq aP rfl ?_
   refine a9 h2 av ?_
   refine d6 ?_
   repeat (first|refine ad ?_|refine af (by decide) ?_|refine ac ?_|refine ah ?_|refine ag ?_)
   refine ⟨?_,hI⟩
   congr 1
   by_cases hl:c.body.length<=3
   ·rw [decide_eq_true hl,decide_eq_false (by omega)]; rfl
   ·rw [decide_eq_false hl,decide_eq_true (by omega)]; rfl
 intro t _ _ _ _ _ _ _ _ _ w'
 rintro ⟨rfl,hI⟩
 refine a8 (fun hb=>done hI ?_) (fun hb=>?_)
 ·have hb':(ex c.head && decide (c.body.length<=3))=false:=by rw [Bool.not_eq_true'] at hb; exact hb
  rw [gF,<- Bool.and_assoc,hb']; rfl
 have hb':(ex c.head && decide (c.body.length<=3))=true:=by rw [Bool.not_eq_false'] at hb; exact hb
 have hfc:gF c=(c.body.all ex && (f2 c.head []).all fun n=>i6 (eK c.body []) n):=by
  rw [gF,<- Bool.and_assoc,hb']; rfl
 refine eB hI pF fun v0 w' hI=>?_
 refine ⟨fun i t w'=>∃ (j:Nat) (l:List Int),j<=c.body.length/\i=.int .i64 j/\(c.body.drop j).all ex=c.body.all ex/\gl (c.body.drop j) l=gl c.body []/\l.length+d5 (c.body.drop j)<=3000000/\
   Inv w [] [.blk b1 (.cells #[.int .i64 c.head.kind,.int .i64 c.head.n,.string c.head.name,kv,ks] aR),gN t l] S w',
  fun i _ _=>c.body.length - (intOf i).toNat,⟨0,[],Nat.zero_le _,rfl,rfl,rfl,by simp only [List.drop_zero,List.length_nil]; omega,hI⟩,?_⟩
 intro t4 _ _ t3 _ _ _ _ _ _ _ _ _ _ _ _ _ _ _ _ _ _ _ _ w'
 rintro ⟨j,l,hj,rfl,hall,hvs,hl,hI⟩
 refine aI hI 0 rfl bq aP rfl ?_
 refine a9 h2 av ?_
 refine bR ?_
 refine bk (fun hji=>?_) (fun hji=>?_)
 ·have hj':j<c.body.length:=by omega
  have hstep:=gT ex c.body j hj'
  rw [jY c.body j hj'] at hl
  rw [List.drop_eq_getElem_cons hj',gl] at hvs
  have hc1:=fu (c.body.drop (j+1))
  have hc2:=ve c.body[j] l
  refine aI hI 0 rfl bq aP rfl ?_
  refine dG hI h2 av ai hj' (fun _ _=>RdT.length) fun cs' hcs'=>?_
  refine Run.callPure ms mW hI (lr hcs') fun w' hI=>?_
  refine cF ?_
  refine a8 (fun hne=>done hI ?_) (fun he=>?_)
  ·have hne':ex c.body[j]=false:=by simpa using hne
   rw [hfc,<- hall,hstep,hne']; rfl
  ·have he':ex c.body[j]=true:=by simpa using he
   refine aI hI 0 rfl bq aP rfl ?_
   refine dG hI h2 av ai hj' (fun _ _=>RdT.length) fun cs' hcs'=>?_
   refine Run.call (A:=[_]) kX kB hI (mG _ S cs' t3 l hcs' (by omega)) fun v' I' S' w'=>?_
   rintro ⟨rfl,rfl⟩ _ hI
   refine bL (by omega) ?_
   exact ⟨⟨j+1,_,hj',rfl,by rw [<- hall,hstep,he']; rfl,hvs,by omega,hI⟩,by simp [intOf]; omega⟩
 ·have:j=c.body.length:=by omega
  subst this
  rw [List.drop_length] at hall hvs
  have hvs':l=eK c.body []:=by rw [<- (hsv []).2,<- hvs,gl]
  have hfc2:gF c=(f2 c.head []).all fun n=>i6 l n:=by
   rw [hfc,<- hall,<- hvs']; rfl
  refine bh dh ?_
  refine fe hI 0 [.int .i64 c.head.kind,.int .i64 c.head.n,.string c.head.name,kv] ai rfl rfl ?_ ?_
  ·intro j v hj
   match j with
   | 0|1|2|3=>exact hj
   | j+4=>simp at hj
  have hI:=hI.rowNil ff 1
  refine Run.call (A:=[_,_]) kX kB hI (mG _ S _ (.slice none 0 0) [] h1' (by simp only [List.length_nil]; omega)) fun v' I' S w'=>?_
  rintro ⟨rfl,rfl⟩ _ hI
  rw [(hsv []).1] at hI
  generalize f2 c.head []=hv at hI hfc2
  obtain ⟨S1,hle1,hrd1,hI,hback1⟩:=Inv.lend (A:=[_,_]) hI
  obtain ⟨S2,hle2,hrd2,hI,hback2⟩:=Inv.lend (A:=[_]) hI
  have hr1:=hrd1.ints.mono hle2 fun _ _ h=>h
  have hr2:=hrd2.ints
  have hle:Sle S S2:=hle1.trans hle2
  have hlv:=hr1.le
  simp only [maxLen] at hlv
  refine ⟨fun i w'=>∃ j:Nat,j<=hv.length/\i=.int .i64 j/\(hv.drop j).all (fun n=>i6 l n)=hv.all (fun n=>i6 l n)/\Inv w [] [.blk b1 (.cells #[.int .i64 c.head.kind,.int .i64 c.head.n,.string c.head.name,kv,ks] aR)] S2 w',
   fun i _=>hv.length - (intOf i).toNat,⟨0,Nat.zero_le _,rfl,rfl,hI⟩,?_⟩
  intro t6 _ _ _ _ _ _ _ _ _ _ _ _ _ _ w'
  rintro ⟨j,hj,rfl,hall,hI⟩
  refine a9 hr1 fl ?_
  refine bR ?_
  refine bk (fun hji=>?_) (fun hji=>?_)
  ·have hj':j<hv.length:=by omega
   have hstep:=gT (fun n=>i6 l n) hv j hj'
   refine iF hI hr1 fl bn hj' (fun cs hcs=>hcs) ?_
   refine Run.callPure I0 Ja hI (GY hv[j] hr2) fun w' hI=>?_
   refine cF ?_
   refine a8 (fun hne=>iR hI hle ?_) (fun he=>?_)
   ·have hne':i6 l hv[j]=false:=by simpa using hne
    rw [hfc2,<- hall,hstep,hne']; rfl
   ·have he':i6 l hv[j]=true:=by simpa using he
    refine bL (by omega) ?_
    exact ⟨⟨j+1,hj',rfl,by rw [<- hall,hstep,he']; rfl,hI⟩,by simp [intOf]; omega⟩
  ·have:j=hv.length:=by omega
   subst this
   refine iR hI hle ?_
   rw [hfc2,<- hall,List.drop_length]; rfl

theorem rc {t:T} {S:az} {cs:List Value} (h:RdT S cs t):Pure Tryz.prog lP [.agg cs.toArray] S (.bool (!ex t)):=by
 intro w hI
 have hl:=h.length
 refine pn ?_
 unfold lj
 refine bM hI fun b1 w' hI=>?_
 refine ba hI 0 ai rfl (by simpa [Value.cells] using hl) ?_
 refine Run.callPure oZ oY hI (mJ h) fun w' hI=>?_
 exact cF (done hI rfl)
theorem uz {c:C} {S:az} {cs:List Value} (h:RdC S cs c) (hw:wC c<=1048576):Pure Tryz.prog zO [.agg cs.toArray] S (.bool (gF c)):=by
 intro w hI
 obtain ⟨hd,ks,rfl,h1,h2⟩:=h
 have h1':=h1
 obtain ⟨kv,rfl,g1,g2,g3,g4⟩:=RdT.iff.1 h1
 have hlen:=h2.le
 simp only [maxLen] at hlen
 unfold wC at hw
 have hcl:=Eb c.body
 have hct:=vz c.head
 refine rK ?_
 unfold no;dsimp only
 refine bM hI fun b1 w' hI=>?_
 have hcb:Cb Tryz.prog lP _ [] S (fun _:Unit=>[]) (fun _=>True) (fun _ x=>(!ex x,())) (fun v x=>∃ cs,v=.agg cs.toArray/\RdT S cs x) c.body:=
  Cb.pure [] sZ ue fun x v _=>by
   rintro ⟨cs,rfl,hcs⟩ w1 hI
   exact (rc hcs w1 hI).mono fun e w' ⟨he,hI⟩=>⟨_,_,_,he,hI,Ext.refl _ _ _,rfl,rfl,rfl⟩
 refine ⟨fun t w'=>t=.bool (!(ex c.head && (decide (c.body.length<=3) && c.body.all ex)))/\Inv w [] [.blk b1 (.cells #[.int .i64 c.head.kind,.int .i64 c.head.n,.string c.head.name,kv,ks] aR)] S w',?_,?_⟩
 ·refine bh dh ?_
  refine fe hI 0 [.int .i64 c.head.kind,.int .i64 c.head.n,.string c.head.name,kv] ai rfl rfl ?_ ?_
  ·intro j v hj
   match j with
   | 0|1|2|3=>exact hj
   | j+4=>simp at hj
  refine Run.callPure oZ oY hI (mJ h1') fun w' hI=>?_
  refine cF ?_
  cases hf:ex c.head
  ·repeat (first|refine ad ?_|refine af (by decide) ?_|refine ac ?_|refine ah ?_|refine ag ?_)
   exact ⟨rfl,hI⟩
  ·repeat (first|refine ad ?_|refine af (by decide) ?_|refine ac ?_|refine ah ?_|refine ag ?_)
   refine aI hI 0 rfl bq aP rfl ?_
   refine a9 h2 av ?_
   refine d6 ?_
   by_cases hl:c.body.length<=3
   ·rw [decide_eq_true hl,decide_eq_false (show ¬ (3:Int)<c.body.length by omega)]
    repeat (first|refine ad ?_|refine af (by decide) ?_|refine ac ?_|refine ah ?_|refine ag ?_)
    refine aI hI 0 rfl bq aP rfl ?_
    refine Run.call0 dE dH hI (dS hcb h2 (st:=()) trivial) fun v' I' S' w'=>?_
    rintro ⟨rfl,rfl,rfl⟩ _ hI
    repeat (first|refine ad ?_|refine af (by decide) ?_|refine ac ?_|refine ah ?_|refine ag ?_)
    refine ⟨?_,by rw [List.append_nil] at hI; exact hI⟩
    rw [fy (fun x=>!ex x) c.body,<- ld]; simp
   ·rw [decide_eq_false hl,decide_eq_true (show (3:Int)<c.body.length by omega)]
    repeat (first|refine ad ?_|refine af (by decide) ?_|refine ac ?_|refine ah ?_|refine ag ?_)
    exact ⟨rfl,hI⟩
 intro t _ _ _ _ _ _ _ _ _ _ _ _ _ _ w'
 rintro ⟨rfl,hI⟩
 refine a8 (fun hb=>done hI ?_) (fun hb=>?_)
 ·have hb':(ex c.head && (decide (c.body.length<=3) && c.body.all ex))=false:=by rw [Bool.not_eq_true'] at hb; exact hb
  rw [gF]
  rw [<- Bool.and_assoc,<- Bool.and_assoc,Bool.and_assoc (ex c.head),hb']; rfl
 have hb':(ex c.head && (decide (c.body.length<=3) && c.body.all ex))=true:=by rw [Bool.not_eq_false'] at hb; exact hb
 have hfc:gF c=(f2 c.head []).all fun n=>i6 (eK c.body []) n:=by
  rw [gF]
  rw [<- Bool.and_assoc,<- Bool.and_assoc,Bool.and_assoc (ex c.head),hb']; rfl
 refine aI hI 0 rfl bq aP rfl ?_
 refine Run.call0 Fo HB hI (Du h2 (by omega)) fun v1 I' S w'=>?_
 rintro ⟨rfl,rfl⟩ _ hI
 generalize eK c.body []=l at hI hfc
 refine bw hI MK fun b3 w' hI=>?_
 have hv1:v1.cells=#[v1]/\v1.oneCell'=true:=by
  have:=hI.its (gN v1 l) (by simp)
  rcases this.2 with ⟨rfl,_⟩|⟨g,cap,cur,rfl,_⟩ <;> exact ⟨rfl,rfl⟩
 refine el hI 2 (n:=1) (by rw [hv1.1]; rfl) (by rw [JV]; rfl) rfl (Nat.le_of_ble_eq_true rfl) (by rw [hv1.1]; simpa using hv1.2) fun w' hI=>?_
 refine bh dh ?_
 refine fe hI 0 [.int .i64 c.head.kind,.int .i64 c.head.n,.string c.head.name,kv] ai rfl rfl ?_ ?_
 ·intro j v hj
  match j with
  | 0|1|2|3=>exact hj
  | j+4=>simp at hj
 have hI:=hI.rowNil ff 1
 refine Run.call (A:=[_,_,_]) jq jo hI (ly _ S _ (.slice none 0 0) [] h1' (by simp only [List.length_nil]; omega)) fun v' I' S w'=>?_
 rintro ⟨rfl,rfl⟩ _ hI
 generalize f2 c.head []=hv at hI hfc
 refine ip ?_
 have hst:bp (Value.slice none 0 0).cells 0 v1.cells.toList=#[v1]:=by
  rw [hv1.1]; rfl
 have hI:Inv w [] ([.blk b1 (.cells #[.int .i64 c.head.kind,.int .i64 c.head.n,.string c.head.name,kv,ks] aR),gN v1 l,.blk b3 (.cells #[v1] q5),gN v' hv]) S w':=by
  have:=hI
  simp only [List.cons_append,List.nil_append] at this
  rw [hst] at this
  exact this
 obtain ⟨S1,hle1,hrd1,hI,hback1⟩:=Inv.lend (A:=[_,_,_]) hI
 have hI:=hI.perm (M:=[.blk b1 (.cells #[.int .i64 c.head.kind,.int .i64 c.head.n,.string c.head.name,kv,ks] aR),.blk b3 (.cells #[v1] q5),gN v1 l]) (List.Perm.cons _ (List.Perm.swap _ _ _))
 obtain ⟨S2,hle2,hrd2,hI,hback2⟩:=Inv.lend (A:=[_,_]) hI
 have hr1:=hrd1.ints.mono hle2 fun _ _ h=>h
 have hr2:=hrd2.ints
 have hle:Sle S S2:=hle1.trans hle2
 have hcb2:Cb Tryz.prog uC _ [.pointer (some ⟨b3,0,none⟩)] S2 (fun _:Unit=>[.blk b3 (.cells #[v1] q5)]) (fun _=>True) (fun _ x=>(!i6 l x,())) (fun v x=>v=.int .i64 x) hv:=
  Cb.pure [.blk b3 (.cells #[v1] q5)] sH tM fun x v _=>by
   rintro rfl w1 hI
   refine pw ?_
   unfold kU
   refine bH hI 0 JV rfl rfl ?_
   refine Run.callPure kF kE hI (jS x hr2) fun w' hI=>?_
   refine cF ?_
   exact ⟨_,_,_,rfl,hI,Ext.refl _ _ _,rfl,rfl,rfl⟩
 refine Run.call (A:=[_]) nM nN hI (pS hcb2 hr1 (st:=()) trivial) fun v' I' S' w'=>?_
 rintro ⟨rfl,rfl,rfl⟩ _ hI
 refine cF ?_
 refine iR hI hle ?_
 rw [fy (fun x=>!i6 l x) hv,ld,hfc]

theorem jW {p:List C} {S:az} {v:Value} (h:RdSl S 5 (RdC S) v p) (hw:wP p<=1048576):Pure Tryz.prog xr [v] S (.bool (f1 p)):=by
 intro w hI
 have hlen:=h.le
 simp only [maxLen] at hlen
 refine p6 ?_
 unfold l7
 refine ⟨fun i w'=>∃ j:Nat,j<=p.length/\i=.int .i64 j/\(p.drop j).all gF=p.all gF/\Inv w [] [] S w',fun i _=>p.length - (intOf i).toNat,⟨0,Nat.zero_le _,rfl,rfl,hI⟩,?_⟩
 intro t3 _ _ _ _ _ _ _ _ _ _ _ _ _ _ _ _ _ w'
 rintro ⟨j,hj,rfl,hall,hI⟩
 refine ⟨fun t w'=>t=.bool (decide (j<p.length) && n4 p)/\Inv w [] [] S w',?_,?_⟩
 ·refine a9 h cC ?_
  refine bR ?_
  by_cases hji:j<p.length
  ·rw [decide_eq_true (show (j:Int)<p.length by omega),decide_eq_true hji]
   repeat (first|refine ad ?_|refine af (by decide) ?_|refine ac ?_|refine ah ?_|refine ag ?_)
   refine Run.callPure kN kY hI (i7 h hw) fun w' hI=>?_
   repeat (first|refine ad ?_|refine af (by decide) ?_|refine ac ?_|refine ah ?_|refine ag ?_)
   exact ⟨rfl,hI⟩
  ·rw [decide_eq_false (show ¬ (j:Int)<p.length by omega),decide_eq_false hji]
   repeat (first|refine ad ?_|refine af (by decide) ?_|refine ac ?_|refine ah ?_|refine ag ?_)
   exact ⟨rfl,hI⟩
 intro t _ _ _ _ _ _ _ w'
 rintro ⟨rfl,hI⟩
 refine a8 (fun hb=>?_) (fun hb=>?_)
 ·simp only [Bool.and_eq_true,decide_eq_true_eq] at hb
  obtain ⟨hj',hpv⟩:=hb
  have hstep:=gT gF p j hj'
  have hwm:=EH (List.getElem_mem hj')
  have hcv:dD p[j]=true:=by
   simp only [n4,Bool.and_eq_true,List.all_eq_true] at hpv
   exact hpv.2 _ (List.getElem_mem hj')
  refine dG hI h cC bF hj' (fun _ _=>RdC.length) fun cs' hcs'=>?_
  refine Run.callPure ze zc hI (yp hcs' hcv (by omega)) fun w' hI=>?_
  refine cF ?_
  refine a8 (fun hne=>done hI ?_) (fun he=>?_)
  ·have hne':gF p[j]=false:=by simpa using hne
   rw [f1,<- hall,hstep,hne']; simp
  ·have he':gF p[j]=true:=by simpa using he
   refine bL (by omega) ?_
   exact ⟨⟨j+1,hj',rfl,by rw [<- hall,hstep,he']; rfl,hI⟩,by simp [intOf]; omega⟩
 ·refine Run.callPure kN kY hI (i7 h hw) fun w' hI=>done hI ?_
  rw [f1]
  by_cases hji:j<p.length
  ·rw [decide_eq_true hji,Bool.true_and] at hb
   rw [hb]; rfl
  ·rw [<- hall,List.drop_of_length_le (by omega)]; simp
theorem n8 {c:C} {S:az} {cs:List Value} (h:RdC S cs c) (hw:wC c<=1048576):Pure Tryz.prog lk [.agg cs.toArray] S (.bool (!gF c)):=by
 intro w hI
 have hl:=h.length
 refine nC ?_
 unfold jQ
 refine bM hI fun b1 w' hI=>?_
 refine ba hI 0 bF rfl (by simpa [Value.cells] using hl) ?_
 refine Run.callPure yA yw hI (uz h hw) fun w' hI=>?_
 exact cF (done hI rfl)
theorem j4 {p:List C} {S:az} {v:Value} (h:RdSl S 5 (RdC S) v p) (hw:wP p<=1048576):Pure Tryz.prog yo [v] S (.bool (f1 p)):=by
 intro w hI
 refine p9 ?_
 unfold mj
 refine Run.callPure sa tE hI (p8 h) fun w' hI=>?_
 rw [f1]
 cases hv:n4 p
 ·repeat (first|refine ad ?_|refine af (by decide) ?_|refine ac ?_|refine ah ?_|refine ag ?_)
  exact done hI rfl
 ·repeat (first|refine ad ?_|refine af (by decide) ?_|refine ac ?_|refine ah ?_|refine ag ?_)
  have hcb:Cb Tryz.prog lk _ [] S (fun _:Unit=>[]) (fun _=>True) (fun _ x=>(!gF x,())) (fun v x=>∃ cs,v=.agg cs.toArray/\RdC S cs x) p:=
   Cb.pure [] qQ rp fun x v hx=>by
    rintro ⟨cs,rfl,hcs⟩ w1 hI
    have hwm:=EH hx
    exact (n8 hcs (by omega) w1 hI).mono fun e w' ⟨he,hI⟩=>⟨_,_,_,he,hI,Ext.refl _ _ _,rfl,rfl,rfl⟩
  refine Run.call0 gI gE hI (gZ hcb h (st:=()) trivial) fun v' I' S' w'=>?_
  rintro ⟨rfl,rfl,rfl⟩ _ hI
  refine cF ?_
  repeat (first|refine ad ?_|refine af (by decide) ?_|refine ac ?_|refine ah ?_|refine ag ?_)
  refine done hI ?_
  rw [fy (fun x=>!gF x) p,ld]; rfl

end Go.Proofs.YtemmhhdnlbmicaaGreat

/- The row's reading of the arguments gives the reading of this proof; and what a law that returns true owes. -/
namespace Go.Proofs.YtemmhhdnlbmicaaGreat
open Go Go.ChangeShapes Go.WideShapes Go.ChangeAt Go.RowKit

def Ju (W:World):az:=fun b=>W.heap[b]?
section
variable {H:Type} {enc:TypeId × Value->H} {P:Program} {W:World} {sp:Nat->Bool} {held:Bool}
theorem Kh {a:Addr} {v:Value} (h:W.cell? a=some v):∃ b o c E fz,a=⟨b,o,none⟩/\W.heap[b]?=some (.cells c E fz)/\c[o]?=some v:=by
 obtain ⟨b,o,s⟩:=a
 simp only [World.cell?] at h
 split at h
 ·rename_i c E fz hb
  cases s with
  | none=>exact ⟨b,o,c,E,fz,rfl,hb,by simpa using h⟩
  | some s=>simp at h
 ·cases h
theorem Md {b o k:Nat} {cs:List Value} {c:Array Value} {E:TypeId} {fz:Nat × Nat} (hb:W.heap[b]?=some (.cells c E fz)) (h:W.cells? 0 ⟨b,o,none⟩ k=some cs):bu c o k=cs:=by
 unfold World.cells? at h
 rw [if_pos (Nat.zero_le _)] at h
 have hl:cs.length=k:=by simpa using mapM_some_length h
 apply List.ext_getElem?
 intro i
 rw [bu,List.getElem?_take]
 by_cases hi:i<k
 ·rw [if_pos hi,List.getElem?_drop]
  have:=mapM_some_get h i i (by simp [hi])
  rw [<- this,f4]
  simp [World.cell?,hb]
 ·rw [if_neg hi,List.getElem?_eq_none (by omega)]
theorem wX {α:Type} (p:Nat->α->Prop):∀ n:Nat,(∀ i,i<n->∃ t,p i t)->∃ xs:List α,xs.length=n/\∀ i (h:i<xs.length),p i xs[i]
 | 0,_=>⟨[],rfl,fun i h=>by simp at h⟩
 | n+1,h=>by
  obtain ⟨xs,hl,hx⟩:=wX p n fun i hi=>h i (by omega)
  obtain ⟨t,ht⟩:=h n (by omega)
  refine ⟨xs++[t],by simp [hl],fun i hi=>?_⟩
  by_cases e:i<xs.length
  ·rw [List.getElem_append_left e]
   exact hx i e
  ·have:i=xs.length:=by simp at hi; omega
   subst this
   simp only [List.getElem_append_right (Nat.le_refl _),Nat.sub_self,List.getElem_cons_zero]
   rw [hl]
   exact ht
theorem v9 {T e:TypeId} {k:Nat} (h:dA P T=some (e,k)):P.underlying T=some (.slice e)/\P.cellsOf e=k:=by
 unfold dA at h
 split at h
 ·rename_i e' he
  rw [Option.map_eq_some_iff] at h
  obtain ⟨i,hi,hx⟩:=h
  simp only [Prod.mk.injEq] at hx
  obtain ⟨rfl,rfl⟩:=hx
  exact ⟨he,by simp [Program.cellsOf,hi]⟩
 ·cases h
theorem M9 {α:Type} {R:List Value->α->Prop} {T e:TypeId} {k fuel:Nat} {v:Value} {x:DataW H × List MemPlace} (hu:dA P T=some (e,k)) (hk0:0<k)
  (h:DataW.trod enc P W 0 sp held fuel T [v]=some x) (hel:∀ n cs y,fuel=n+1->DataW.trod enc P W 0 sp held n e cs=some y->∃ t:α,R cs t):∃ xs,RdSl (Ju W) k R v xs:=by
 obtain ⟨hu1,hk⟩:=v9 hu
 rcases DataW.trod_slice hu1 h with ⟨hcs,_⟩|⟨a,len,cap,elems,rest,n,hf,hcs,_,_,hl,hc,hlen,hE,_⟩
 ·simp only [List.cons.injEq,and_true] at hcs
  subst hcs
  exact ⟨[],none,0,rfl,Nat.le_refl _,Nat.zero_le _,.inl rfl⟩
 ·simp only [List.cons.injEq,and_true] at hcs
  subst hcs
  have hE':∀ i,i<len->∃ t:α,∃ cs,W.cells? 0 (a.add (i * k)) k=some cs/\R cs t:=by
   intro i hi
   have:=hE i hi
   rw [hk,List.getElem?_eq_getElem (by omega),Option.bind_eq_some_iff] at this
   obtain ⟨cs,h1,h2⟩:=this
   obtain ⟨t,ht⟩:=hel n cs _ hf h2
   exact ⟨t,cs,h1,ht⟩
  obtain ⟨xs,hxl,hxs⟩:=wX _ len hE'
  subst hxl
  refine ⟨xs,some a,cap,rfl,hl,hc,?_⟩
  by_cases h0:xs.length=0
  ·exact .inl (List.eq_nil_of_length_eq_zero h0)
  ·obtain ⟨cs0,h1,_⟩:=hxs 0 (by omega)
   have e0:a.add (0 * k)=a:=by rw [Nat.zero_mul]; simp [Addr.add]
   rw [e0] at h1
   have hc0:∃ u,W.cell? a=some u:=by
    unfold World.cells? at h1
    rw [if_pos (Nat.zero_le _)] at h1
    have hl0:cs0.length=k:=by simpa using mapM_some_length h1
    have:=mapM_some_get h1 0 0 (by simp [hk0])
    rw [List.getElem?_eq_getElem (by omega)] at this
    have e1:a.add 0=a:=by simp [Addr.add]
    rw [e1] at this
    exact ⟨_,this⟩
   obtain ⟨u,hu0⟩:=hc0
   obtain ⟨b,o,c,E,fz,rfl,hb,_⟩:=Kh hu0
   refine .inr ⟨b,o,c,E,fz,rfl,hb,fun i hi=>?_⟩
   obtain ⟨cs,h2,hR⟩:=hxs i hi
   rw [f4] at h2
   rw [Md hb h2]
   exact hR
end

section
variable {H:Type} {enc:TypeId × Value->H} {W:World} {sp:Nat->Bool} {held:Bool}
end

theorem Inv.entry (W:World):Inv W [] [] (Ju W) W:=Inv.start (L:=[]) (by simp) (by simp [bV]) fun b o hb=>⟨hb,by simp [bV]⟩
theorem Inv.same {W W':World} {L:List Item} {S:az} (h:Inv W [] L S W') (b:Nat) (hb:b<W.heap.size):W'.heap[b]?=W.heap[b]?:=h.old b hb (by simp)
theorem KV {W W':World} {may:MemPlace->Prop} (ho:W'.os=W.os) (hp:W'.output=W.output) (h:∀ b,b<W.heap.size->W'.heap[b]?=W.heap[b]?):W.keptBut W' may:=by
 refine ⟨ho,hp,fun i hi=>?_⟩
 rw [h i hi]
 split
 ·rename_i e1 e2
  rw [e1] at e2
  simp only [Option.some.injEq,Obj.cells.injEq] at e2
  obtain ⟨rfl,rfl,rfl⟩:=e2
  exact ⟨rfl,rfl,rfl,fun _ _=>rfl⟩
 ·rename_i e1 e2
  rw [e1] at e2
  simp only [Option.some.injEq,Obj.map.injEq] at e2
  obtain ⟨rfl,rfl⟩:=e2
  exact .inr ⟨rfl,rfl⟩
 ·rfl

end Go.Proofs.YtemmhhdnlbmicaaGreat

/- The sizes: laws.szTerm and its kin. -/
namespace Go.Proofs.YtemmhhdnlbmicaaGreat
open Go Go.RowKit
attribute [local irreducible] Run CondV aj bd


end Go.Proofs.YtemmhhdnlbmicaaGreat

/- Equality of terms and clauses as the laws ask it. -/
namespace Go.Proofs.YtemmhhdnlbmicaaGreat
open Go Go.RowKit
attribute [local irreducible] Run CondV aj bd

mutual
def eqT:T->T->Bool
 | .mk k n s ks,.mk k' n' s' ks'=>decide (k=k') && (decide (n=n') && (decide (s=s') && eqL ks ks'))
def eqL:List T->List T->Bool
 | [],[]=>true
 | t::ts,u::us=>eqT t u && eqL ts us
 | _,_=>false
end
mutual
theorem pJ:∀ a b:T,eqT a b=true↔a=b
 | .mk k n s ks,.mk k' n' s' ks'=>by
  simp only [eqT,Bool.and_eq_true,decide_eq_true_eq,DN ks ks',T.mk.injEq]
theorem DN:∀ a b:List T,eqL a b=true↔a=b
 | [],[]=>by simp [eqL]
 | [],_::_=>by simp [eqL]
 | _::_,[]=>by simp [eqL]
 | t::ts,u::us=>by
  simp only [eqL,Bool.and_eq_true,pJ t u,DN ts us,List.cons.injEq]
end
theorem Jt:∀ {a b:List T},a.length≠b.length->eqL a b=false:=by
 intro a b h
 rw [<- Bool.not_eq_true,DN]
 rintro rfl
 exact h rfl
theorem Lk {a b c d e:Value}:∀ (j:Nat) (v:Value),([a,b,c,d]:List Value)[j]?=some v->(#[a,b,c,d,e]:Array Value)[0+j]?=some v
 | 0,_,h|1,_,h|2,_,h|3,_,h=>h
 | j+4,_,h=>by simp at h

end Go.Proofs.YtemmhhdnlbmicaaGreat

/- The sizes of clauses and of programs, and what they bound. -/
namespace Go.Proofs.YtemmhhdnlbmicaaGreat
open Go Go.RowKit
attribute [local irreducible] Run CondV aj bd

/- toClauseS, and what it made published -/
end Go.Proofs.YtemmhhdnlbmicaaGreat

/- The laws' marks: laws.markText. -/
namespace Go.Proofs.YtemmhhdnlbmicaaGreat
open Go Go.RowKit
section
variable {P:Program} {w w0:World} {X:List Nat} {L:List Item} {S:az} {K:Value->World->Prop}
attribute [local irreducible] Run CondV aj bd
theorem JS {T U ty:TypeId} {k k':IntKind} {n:Int} (hT:P.underlying T=some (.int k')) (hU:P.underlying U=some (.int k)) (hk:K (.int k (k.wrap n)) w):Run P (sOp (.convert T U (.const (.int k' n))) ty) w K:=
 Run.of (by simp [sOp,execOp,ev0,evE,convert,Conv.intToInt,run_underlying hT,run_underlying hU]) hk
end

section
attribute [local irreducible] Run CondV aj bd
end

end Go.Proofs.YtemmhhdnlbmicaaGreat

/- The laws' marks, written into trees of the function's own. -/
namespace Go.Proofs.YtemmhhdnlbmicaaGreat
open Go Go.RowKit

theorem Part.upd {α:Type} {k:Nat} {R:bI->List Value->α->Prop} {c c':Array Value} {Ls:List bI} {xs:List α} (h:Part k R c Ls xs) {i:Nat} {L':bI} {x:α} (hx:R L' (bu c' (i * k) k) x)
  (hne:∀ j,j≠i->bu c' (j * k) k=bu c (j * k) k):Part k R c' (Ls.set i L') (xs.set i x):=by
 refine ⟨by simp [h.1],fun j h1 h2=>?_⟩
 by_cases e:i=j
 ·subst e
  rw [List.getElem_set_self,List.getElem_set_self]
  exact hx
 ·rw [List.getElem_set_ne e,List.getElem_set_ne e,hne j fun e'=>e e'.symm]
  exact h.2 j (by simpa using h1) (by simpa using h2)
section
attribute [local irreducible] Run CondV aj bd
end

end Go.Proofs.YtemmhhdnlbmicaaGreat

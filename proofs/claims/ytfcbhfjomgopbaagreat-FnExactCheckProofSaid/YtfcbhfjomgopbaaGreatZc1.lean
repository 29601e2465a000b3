/- Goals, clauses, programs, queries: which are valid, on both sides. -/
import Derived.Test.YtfcbhfjomgopbaaGreatZc0
import Derived.Test.YtfcbhfjomgopbaaGreatRows
import Derived.ProofKit
import Derived.ReadAgain
import Derived.Carry
import Derived.Test.YtfcbhfjomgopbaaGreatZcS
import Derived.Test.YtfcbhfjomgopbaaGreatZcF
import Derived.Test.YtfcbhfjomgopbaaGreatZch1
namespace Go.Proofs.YtfcbhfjomgopbaaGreat
open Go Go.RowKit
section
variable {P:Program} {w:World} {K:Value->World->Prop} {ty:TypeId}
theorem aa {b:Bool} {A B:Prop} (h:B):ak undef b A B:=by unfold ak; exact h
theorem af {v u:Value} (hk:K v w):Run P (sOp (.pick (.const (.bool true)) (.const v) (.const u)) ty) w K:=rG hk
theorem ag {v u:Value} (hk:K u w):Run P (sOp (.pick (.const (.bool false)) (.const v) (.const u)) ty) w K:=rG hk
end
attribute [local irreducible] Run CondV ak bg

def ls:List ByteArray:=[⟨#[61]⟩,⟨#[92,61]⟩,⟨#[61,61]⟩,⟨#[60]⟩,⟨#[62]⟩,⟨#[61,60]⟩,⟨#[62,61]⟩,⟨#[61,58,61]⟩,⟨#[105,115]⟩]
def kW:List ByteArray:=[⟨#[116,114,117,101]⟩,⟨#[102,97,105,108]⟩]
def nn:List ByteArray:=[⟨#[118,97,114]⟩,⟨#[110,111,110,118,97,114]⟩,⟨#[97,116,111,109]⟩,⟨#[105,110,116]⟩]
def qu:List ByteArray:=[⟨#[43]⟩,⟨#[45]⟩]
def iR:List ByteArray:=[⟨#[42]⟩,⟨#[47,47]⟩,⟨#[109,111,100]⟩]
def ca (s:ByteArray) (l:List ByteArray):Bool:=l.any fun x=>decide (s=x)
def du (s:ByteArray) (n:Int):Bool:=
 if ca s ls=true then decide (n=2)
 else if ca s kW=true then decide (n=0)
 else if ca s nn=true then decide (n=1)
 else if s=⟨#[97,114,103]⟩ then decide (n=3)
 else false
def cH (s:ByteArray):Int:=if ca s ls=true then 3 else if ca s qu=true then 2 else if ca s iR=true then 1 else 0
def qU (t:T):Bool:=decide (t.kind=3) && (decide (t.name=⟨#[33]⟩) && decide (t.kids.length=0))
def Dk (t:T):Bool:=decide (t.kind=3) && decide (t.kids.length=0)
def c9 (t:T):Bool:=decide (t.kind=3) && du t.name t.kids.length
def gy (t:T):Bool:=decide (t.kind=3) && (iU t.name && (!du t.name t.kids.length && decide (cH t.name=0)))
def eg (t:T):Bool:=db t && (qU t || (gy t || c9 t))
def cF (c:C):Bool:=decide (c.body.length<=6) && (c.body.all eg && (db c.head && gy c.head))
def zI (l:List T):Bool:=decide (l.length<=6) && l.all eg
def jG (p:List C):Bool:=decide (p.length<=20) && p.all cF
theorem CN (s:ByteArray):(!decide (0<cH s))=decide (cH s=0):=by
 unfold cH
 split
 ·rfl
 ·split
  ·rfl
  ·split <;> rfl

theorem eM (s:ByteArray) (n:Int) (S:ar):Pure Tryz.prog wK [.string s,.int .i64 n] S (.bool (du s n)):=by
 intro w hI
 refine qD ?_
 unfold lM
 obtain ⟨q,hq⟩:∃ q,ca s ls=q:=⟨_,rfl⟩
 have hq1:=hq
 refine ⟨fun t w'=>t=.bool q/\Inv w [] [] S w',?_,?_⟩
 ·unfold ca ls at hq
  iterate 8
   refine bm ?_
   refine bd (fun h=>⟨by rw [List.any_cons,h] at hq; rw [h,<- hq]; rfl,hI⟩) (fun h=>?_)
   rw [List.any_cons,h,Bool.false_or] at hq
  refine bm ⟨?_,hI⟩
  rw [<- hq]; simp
 intro t _ _ _ _ _ _ _ _ _ w'
 rintro ⟨rfl,hI⟩
 refine bd (fun h=>?_) (fun h=>?_)
 ·exact bu (done hI (by rw [du,if_pos (hq1.trans h)]))
 have e1:du s n=if ca s kW=true then decide (n=0) else if ca s nn=true then decide (n=1) else if s=⟨#[97,114,103]⟩ then decide (n=3) else false:=by
  rw [du,if_neg (by rw [hq1,h]; decide)]
 clear hq hq1 h
 obtain ⟨q,hq⟩:∃ q,ca s kW=q:=⟨_,rfl⟩
 have hq1:=hq
 refine ⟨fun t w'=>t=.bool q/\Inv w [] [] S w',?_,?_⟩
 ·unfold ca kW at hq
  refine bm ?_
  refine bd (fun h=>⟨by rw [List.any_cons,h] at hq; rw [h,<- hq]; rfl,hI⟩) (fun h=>?_)
  rw [List.any_cons,h,Bool.false_or] at hq
  refine bm ⟨?_,hI⟩
  rw [<- hq]; simp
 intro _ t _ w'
 rintro ⟨rfl,hI⟩
 refine bd (fun h=>?_) (fun h=>?_)
 ·exact bu (done hI (by rw [e1,if_pos (hq1.trans h)]))
 rw [if_neg (by rw [hq1,h]; decide)] at e1
 clear hq hq1 h
 obtain ⟨q,hq⟩:∃ q,ca s nn=q:=⟨_,rfl⟩
 have hq1:=hq
 refine ⟨fun t w'=>t=.bool q/\Inv w [] [] S w',?_,?_⟩
 ·unfold ca nn at hq
  iterate 3
   refine bm ?_
   refine bd (fun h=>⟨by rw [List.any_cons,h] at hq; rw [h,<- hq]; rfl,hI⟩) (fun h=>?_)
   rw [List.any_cons,h,Bool.false_or] at hq
  refine bm ⟨?_,hI⟩
  rw [<- hq]; simp
 intro _ _ _ t _ w'
 rintro ⟨rfl,hI⟩
 refine bd (fun h=>?_) (fun h=>?_)
 ·exact bu (done hI (by rw [e1,if_pos (hq1.trans h)]))
 rw [if_neg (by rw [hq1,h]; decide)] at e1
 refine bm ?_
 refine bf (fun h=>?_) (fun h=>?_)
 ·exact bu (done hI (by rw [e1,if_pos h]))
 ·exact done hI (by rw [e1,if_neg h])
theorem rD (s:ByteArray) (n:Int) (S:ar):Pure Tryz.prog xy [.string s,.int .i64 n] S (.bool (du s n)):=by
 intro w hI
 refine oK ?_
 unfold lG
 obtain ⟨q,hq⟩:∃ q,ca s ls=q:=⟨_,rfl⟩
 have hq1:=hq
 refine ⟨fun t w'=>t=.bool q/\Inv w [] [] S w',?_,?_⟩
 ·unfold ca ls at hq
  iterate 8
   refine bm ?_
   refine bd (fun h=>⟨by rw [List.any_cons,h] at hq; rw [h,<- hq]; rfl,hI⟩) (fun h=>?_)
   rw [List.any_cons,h,Bool.false_or] at hq
  refine bm ⟨?_,hI⟩
  rw [<- hq]; simp
 intro t _ _ _ _ _ _ _ _ _ w'
 rintro ⟨rfl,hI⟩
 refine bd (fun h=>?_) (fun h=>?_)
 ·exact bu (done hI (by rw [du,if_pos (hq1.trans h)]))
 have e1:du s n=if ca s kW=true then decide (n=0) else if ca s nn=true then decide (n=1) else if s=⟨#[97,114,103]⟩ then decide (n=3) else false:=by
  rw [du,if_neg (by rw [hq1,h]; decide)]
 clear hq hq1 h
 obtain ⟨q,hq⟩:∃ q,ca s kW=q:=⟨_,rfl⟩
 have hq1:=hq
 refine ⟨fun t w'=>t=.bool q/\Inv w [] [] S w',?_,?_⟩
 ·unfold ca kW at hq
  refine bm ?_
  refine bd (fun h=>⟨by rw [List.any_cons,h] at hq; rw [h,<- hq]; rfl,hI⟩) (fun h=>?_)
  rw [List.any_cons,h,Bool.false_or] at hq
  refine bm ⟨?_,hI⟩
  rw [<- hq]; simp
 intro _ t _ w'
 rintro ⟨rfl,hI⟩
 refine bd (fun h=>?_) (fun h=>?_)
 ·exact bu (done hI (by rw [e1,if_pos (hq1.trans h)]))
 rw [if_neg (by rw [hq1,h]; decide)] at e1
 clear hq hq1 h
 obtain ⟨q,hq⟩:∃ q,ca s nn=q:=⟨_,rfl⟩
 have hq1:=hq
 refine ⟨fun t w'=>t=.bool q/\Inv w [] [] S w',?_,?_⟩
 ·unfold ca nn at hq
  iterate 3
   refine bm ?_
   refine bd (fun h=>⟨by rw [List.any_cons,h] at hq; rw [h,<- hq]; rfl,hI⟩) (fun h=>?_)
   rw [List.any_cons,h,Bool.false_or] at hq
  refine bm ⟨?_,hI⟩
  rw [<- hq]; simp
 intro _ _ _ t _ w'
 rintro ⟨rfl,hI⟩
 refine bd (fun h=>?_) (fun h=>?_)
 ·exact bu (done hI (by rw [e1,if_pos (hq1.trans h)]))
 rw [if_neg (by rw [hq1,h]; decide)] at e1
 refine bm ?_
 refine bf (fun h=>?_) (fun h=>?_)
 ·exact bu (done hI (by rw [e1,if_pos h]))
 ·exact done hI (by rw [e1,if_neg h])

theorem k9 (s:ByteArray) (S:ar):Pure Tryz.prog z9 [.string s] S (.int .i64 (cH s)):=by
 intro w hI
 refine tx ?_
 unfold pB
 obtain ⟨q,hq⟩:∃ q,ca s ls=q:=⟨_,rfl⟩
 have hq1:=hq
 refine ⟨fun t w'=>t=.bool q/\Inv w [] [] S w',?_,?_⟩
 ·unfold ca ls at hq
  iterate 8
   refine bm ?_
   refine bd (fun h=>⟨by rw [List.any_cons,h] at hq; rw [h,<- hq]; rfl,hI⟩) (fun h=>?_)
   rw [List.any_cons,h,Bool.false_or] at hq
  refine bm ⟨?_,hI⟩
  rw [<- hq]; simp
 intro _ _ _ _ _ _ _ _ t _ w'
 rintro ⟨rfl,hI⟩
 refine bd (fun h=>?_) (fun h=>?_)
 ·exact done hI (by rw [show cH s=3 from if_pos (hq1.trans h)] <;> rfl)
 have e1:cH s=if ca s qu=true then 2 else if ca s iR=true then 1 else 0:=by
  rw [cH,if_neg (by rw [hq1,h]; decide)]
 clear hq hq1 h
 obtain ⟨q,hq⟩:∃ q,ca s qu=q:=⟨_,rfl⟩
 have hq1:=hq
 refine ⟨fun t w'=>t=.bool q/\Inv w [] [] S w',?_,?_⟩
 ·unfold ca qu at hq
  refine bm ?_
  refine bd (fun h=>⟨by rw [List.any_cons,h] at hq; rw [h,<- hq]; rfl,hI⟩) (fun h=>?_)
  rw [List.any_cons,h,Bool.false_or] at hq
  refine bm ⟨?_,hI⟩
  rw [<- hq]; simp
 intro _ t _ w'
 rintro ⟨rfl,hI⟩
 refine bd (fun h=>?_) (fun h=>?_)
 ·exact done hI (by rw [show cH s=2 from e1.trans (if_pos (hq1.trans h))] <;> rfl)
 rw [if_neg (by rw [hq1,h]; decide)] at e1
 clear hq hq1 h
 obtain ⟨q,hq⟩:∃ q,ca s iR=q:=⟨_,rfl⟩
 have hq1:=hq
 refine ⟨fun t w'=>t=.bool q/\Inv w [] [] S w',?_,?_⟩
 ·unfold ca iR at hq
  iterate 2
   refine bm ?_
   refine bd (fun h=>⟨by rw [List.any_cons,h] at hq; rw [h,<- hq]; rfl,hI⟩) (fun h=>?_)
   rw [List.any_cons,h,Bool.false_or] at hq
  refine bm ⟨?_,hI⟩
  rw [<- hq]; simp
 intro _ _ t _ w'
 rintro ⟨rfl,hI⟩
 refine bd (fun h=>?_) (fun h=>?_)
 ·exact done hI (by rw [show cH s=1 from e1.trans (if_pos (hq1.trans h))] <;> rfl)
 ·exact done hI (by rw [show cH s=0 from e1.trans (if_neg (by rw [hq1,h]; decide))] <;> rfl)
theorem tL (s:ByteArray) (S:ar):Pure Tryz.prog Ay [.string s] S (.tuple #[.int .i64 (cH s),.bool (decide (cH s=1) || decide (cH s=2))]):=by
 intro w hI
 refine tW ?_
 unfold pY
 obtain ⟨q,hq⟩:∃ q,ca s ls=q:=⟨_,rfl⟩
 have hq1:=hq
 refine ⟨fun t w'=>t=.bool q/\Inv w [] [] S w',?_,?_⟩
 ·unfold ca ls at hq
  iterate 8
   refine bm ?_
   refine bd (fun h=>⟨by rw [List.any_cons,h] at hq; rw [h,<- hq]; rfl,hI⟩) (fun h=>?_)
   rw [List.any_cons,h,Bool.false_or] at hq
  refine bm ⟨?_,hI⟩
  rw [<- hq]; simp
 intro _ _ _ _ _ _ _ _ t _ w'
 rintro ⟨rfl,hI⟩
 refine bd (fun h=>?_) (fun h=>?_)
 ·exact done hI (by rw [show cH s=3 from if_pos (hq1.trans h)] <;> rfl)
 have e1:cH s=if ca s qu=true then 2 else if ca s iR=true then 1 else 0:=by
  rw [cH,if_neg (by rw [hq1,h]; decide)]
 clear hq hq1 h
 obtain ⟨q,hq⟩:∃ q,ca s qu=q:=⟨_,rfl⟩
 have hq1:=hq
 refine ⟨fun t w'=>t=.bool q/\Inv w [] [] S w',?_,?_⟩
 ·unfold ca qu at hq
  refine bm ?_
  refine bd (fun h=>⟨by rw [List.any_cons,h] at hq; rw [h,<- hq]; rfl,hI⟩) (fun h=>?_)
  rw [List.any_cons,h,Bool.false_or] at hq
  refine bm ⟨?_,hI⟩
  rw [<- hq]; simp
 intro _ t _ w'
 rintro ⟨rfl,hI⟩
 refine bd (fun h=>?_) (fun h=>?_)
 ·exact done hI (by rw [show cH s=2 from e1.trans (if_pos (hq1.trans h))] <;> rfl)
 rw [if_neg (by rw [hq1,h]; decide)] at e1
 clear hq hq1 h
 obtain ⟨q,hq⟩:∃ q,ca s iR=q:=⟨_,rfl⟩
 have hq1:=hq
 refine ⟨fun t w'=>t=.bool q/\Inv w [] [] S w',?_,?_⟩
 ·unfold ca iR at hq
  iterate 2
   refine bm ?_
   refine bd (fun h=>⟨by rw [List.any_cons,h] at hq; rw [h,<- hq]; rfl,hI⟩) (fun h=>?_)
   rw [List.any_cons,h,Bool.false_or] at hq
  refine bm ⟨?_,hI⟩
  rw [<- hq]; simp
 intro _ _ t _ w'
 rintro ⟨rfl,hI⟩
 refine bd (fun h=>?_) (fun h=>?_)
 ·exact done hI (by rw [show cH s=1 from e1.trans (if_pos (hq1.trans h))] <;> rfl)
 ·exact done hI (by rw [show cH s=0 from e1.trans (if_neg (by rw [hq1,h]; decide))] <;> rfl)

theorem mu {t:T} {S:ar} {cs:List Value} (h:RdT S cs t):Pure Tryz.prog C5 [.agg cs.toArray] S (.bool (qU t)):=by
 intro w hI
 obtain ⟨kv,rfl,_,_,hs,hks⟩:=RdT.iff.1 h
 obtain ⟨k,n,s,ks⟩:=t
 simp only [T.name,T.kids,T.kind,T.n] at hs hks ⊢
 refine ww ?_
 unfold uT;dsimp only
 refine bt hI fun b1 w' hI=>?_
 refine ah hI 0 rfl aU aR rfl ?_
 refine bu ?_
 rw [show qU (.mk k n s ks)=(decide (k=3) && (decide (s=⟨#[33]⟩) && decide (ks.length=0))) from rfl]
 cases h1:decide (k=3)
 ·repeat (first|refine ab ?_|refine ad (by decide) ?_|refine aa ?_|refine af ?_|refine ag ?_)
  exact done hI rfl
 ·repeat (first|refine ab ?_|refine ad (by decide) ?_|refine aa ?_|refine af ?_|refine ag ?_)
  refine ah hI 0 rfl bi bk rfl ?_
  refine bm ?_
  cases h2:decide (s=⟨#[33]⟩)
  ·repeat (first|refine ab ?_|refine ad (by decide) ?_|refine aa ?_|refine af ?_|refine ag ?_)
   exact done hI rfl
  ·repeat (first|refine ab ?_|refine ad (by decide) ?_|refine aa ?_|refine af ?_|refine ag ?_)
   refine ah hI 0 rfl aP aO rfl ?_
   refine a5 hks aC ?_
   refine bu ?_
   repeat (first|refine ab ?_|refine ad (by decide) ?_|refine aa ?_|refine af ?_|refine ag ?_)
   exact done hI (by simp)

theorem nK {t:T} {S:ar} {cs:List Value} (h:RdT S cs t):Pure Tryz.prog AX [.agg cs.toArray] S (.bool (gy t)):=by
 intro w hI
 obtain ⟨kv,rfl,_,_,hs,hks⟩:=RdT.iff.1 h
 obtain ⟨k,n,s,ks⟩:=t
 simp only [T.name,T.kids,T.kind,T.n] at hs hks ⊢
 refine tF ?_
 unfold oT;dsimp only
 refine bt hI fun b1 w' hI=>?_
 refine ah hI 0 rfl aU aR rfl ?_
 refine bu ?_
 rw [show gy (.mk k n s ks)=(decide (k=3) && (iU s && (!du s ks.length && decide (cH s=0)))) from rfl]
 cases h1:decide (k=3)
 ·repeat (first|refine ab ?_|refine ad (by decide) ?_|refine aa ?_|refine af ?_|refine ag ?_)
  exact done hI rfl
 ·repeat (first|refine ab ?_|refine ad (by decide) ?_|refine aa ?_|refine af ?_|refine ag ?_)
  refine ah hI 0 rfl bi bk rfl ?_
  refine Run.callPure sx sk hI (o7 s hs S) fun w' hI=>?_
  cases h2:iU s
  ·repeat (first|refine ab ?_|refine ad (by decide) ?_|refine aa ?_|refine af ?_|refine ag ?_)
   exact done hI rfl
  ·repeat (first|refine ab ?_|refine ad (by decide) ?_|refine aa ?_|refine af ?_|refine ag ?_)
   refine ah hI 0 rfl bi bk rfl ?_
   refine ah hI 0 rfl aP aO rfl ?_
   refine a5 hks aC ?_
   refine Run.callPure fW fQ hI (eM s _ S) fun w' hI=>?_
   refine bJ ?_
   cases h3:du s ks.length
   ·repeat (first|refine ab ?_|refine ad (by decide) ?_|refine aa ?_|refine af ?_|refine ag ?_)
    refine ah hI 0 rfl bi bk rfl ?_
    refine Run.callPure pj qq hI (k9 s S) fun w' hI=>?_
    refine bu ?_
    repeat (first|refine ab ?_|refine ad (by decide) ?_|refine aa ?_|refine af ?_|refine ag ?_)
    exact done hI rfl
   ·repeat (first|refine ab ?_|refine ad (by decide) ?_|refine aa ?_|refine af ?_|refine ag ?_)
    exact done hI rfl

theorem zj {t:T} {S:ar} {cs:List Value} (h:RdT S cs t):Pure Tryz.prog B1 [.agg cs.toArray] S (.bool (qU t || (gy t || c9 t))):=by
 intro w hI
 have h0:=h
 obtain ⟨kv,rfl,_,_,hs,hks⟩:=RdT.iff.1 h
 obtain ⟨k,n,s,ks⟩:=t
 simp only [T.name,T.kids,T.kind,T.n] at h0 hs hks ⊢
 refine wm ?_
 unfold rX;dsimp only
 refine bt hI fun b1 w' hI=>?_
 refine a8 hI 0 al rfl rfl ?_
 refine Run.callPure oc oi hI (mu h0) fun w' hI=>?_
 cases h1:qU (.mk k n s ks)
 ·repeat (first|refine ab ?_|refine ad (by decide) ?_|refine aa ?_|refine af ?_|refine ag ?_)
  refine a8 hI 0 al rfl rfl ?_
  refine Run.callPure pF o8 hI (nK h0) fun w' hI=>?_
  cases h2:gy (.mk k n s ks)
  ·repeat (first|refine ab ?_|refine ad (by decide) ?_|refine aa ?_|refine af ?_|refine ag ?_)
   refine ah hI 0 rfl aU aR rfl ?_
   refine bu ?_
   rw [show c9 (.mk k n s ks)=(decide (k=3) && du s ks.length) from rfl]
   cases h3:decide (k=3)
   ·repeat (first|refine ab ?_|refine ad (by decide) ?_|refine aa ?_|refine af ?_|refine ag ?_)
    exact done hI rfl
   ·repeat (first|refine ab ?_|refine ad (by decide) ?_|refine aa ?_|refine af ?_|refine ag ?_)
    refine ah hI 0 rfl bi bk rfl ?_
    refine ah hI 0 rfl aP aO rfl ?_
    refine a5 hks aC ?_
    refine Run.callPure fW fQ hI (eM s _ S) fun w' hI=>?_
    repeat (first|refine ab ?_|refine ad (by decide) ?_|refine aa ?_|refine af ?_|refine ag ?_)
    exact done hI rfl
  ·repeat (first|refine ab ?_|refine ad (by decide) ?_|refine aa ?_|refine af ?_|refine ag ?_)
   exact done hI rfl
 ·repeat (first|refine ab ?_|refine ad (by decide) ?_|refine aa ?_|refine af ?_|refine ag ?_)
  exact done hI rfl

theorem zo {t:T} (h:wT t<=1048576):dk t<=4611686018427387904:=by
 have:=Ef t
 omega
theorem jn {t:T} {S:ar} {cs:List Value} (h:RdT S cs t) (hc:wT t<=1048576):Pure Tryz.prog xr [.agg cs.toArray] S (.bool (eg t)):=by
 intro w hI
 have hl:=h.length
 refine o5 ?_
 unfold mA
 refine bt hI fun b1 w' hI=>?_
 refine a8 hI 0 al rfl (by simpa [Value.cells] using hl) ?_
 refine Run.callPure fT f8 hI (eV h (zo hc)) fun w' hI=>?_
 rw [eg]
 cases h1:db t
 ·repeat (first|refine ab ?_|refine ad (by decide) ?_|refine aa ?_|refine af ?_|refine ag ?_)
  exact done hI rfl
 ·repeat (first|refine ab ?_|refine ad (by decide) ?_|refine aa ?_|refine af ?_|refine ag ?_)
  refine a8 hI 0 al rfl (by simpa [Value.cells] using hl) ?_
  refine Run.callPure zP As hI (zj h) fun w' hI=>?_
  repeat (first|refine ab ?_|refine ad (by decide) ?_|refine aa ?_|refine af ?_|refine ag ?_)
  exact done hI rfl


theorem Cs {ts:List T} {t:T} (h:t∈ts):wT t<=wL ts:=by
 induction ts with
 | nil=>simp at h
 | cons u us ih=>
  rw [wL]
  rcases List.mem_cons.1 h with rfl|h
  ·omega
  ·have:=ih h; omega
/- the loop of a list of goals, whatever comes behind it -/
theorem nU {c:C} {S:ar} {cs:List Value} (h:RdC S cs c) (hc:wC c<=1048576):Pure Tryz.prog tV [.agg cs.toArray] S (.bool (cF c)):=by
 intro w hI
 obtain ⟨hd,ks,rfl,h1,h2⟩:=h
 have h1':=h1
 obtain ⟨kv,rfl,g1,g2,g3,g4⟩:=RdT.iff.1 h1
 have hlen:=h2.le
 simp only [maxLen] at hlen
 unfold wC at hc
 refine mP ?_
 unfold jv;dsimp only
 refine bt hI fun b1 w' hI=>?_
 refine ⟨fun i w'=>∃ k:Nat,k<=c.body.length/\k<=7/\i=.int .i64 k/\(∀ j (h:j<c.body.length),j<k->eg c.body[j]=true)/\Inv w [] [.blk b1 (.cells #[.int .i64 c.head.kind,.int .i64 c.head.n,.string c.head.name,kv,ks] cN)] S w',
  fun i _=>c.body.length - (intOf i).toNat,⟨0,Nat.zero_le _,by omega,rfl,fun j _ h=>by omega,hI⟩,?_⟩
 intro t3 _ _ _ _ _ _ _ _ _ _ _ _ _ _ _ _ _ _ _ w'
 rintro ⟨k,hk,hk7,rfl,hrel,hI⟩
 refine ⟨fun t w'=>t=.bool (decide (k<c.body.length/\k<=6))/\Inv w [] [.blk b1 (.cells #[.int .i64 c.head.kind,.int .i64 c.head.n,.string c.head.name,kv,ks] cN)] S w',?_,?_⟩
 ·refine ah hI 0 rfl cn aO rfl ?_
  refine a5 h2 aC ?_
  refine bz ?_
  by_cases hki:(k:Int)<c.body.length
  ·rw [decide_eq_true hki]
   repeat (first|refine ab ?_|refine ad (by decide) ?_|refine aa ?_|refine af ?_|refine ag ?_)
   refine gi ?_
   repeat (first|refine ab ?_|refine ad (by decide) ?_|refine aa ?_|refine af ?_|refine ag ?_)
   refine ⟨?_,hI⟩
   congr 1
   rw [Bool.eq_iff_iff]; simp; omega
  ·rw [decide_eq_false hki]
   repeat (first|refine ab ?_|refine ad (by decide) ?_|refine aa ?_|refine af ?_|refine ag ?_)
   exact ⟨by rw [decide_eq_false (by omega)],hI⟩
 intro t _ _ _ _ _ _ _ _ w'
 rintro ⟨rfl,hI⟩
 refine bf (fun hki=>?_) (fun hki=>?_)
 ·obtain ⟨hk',hk6⟩:=hki
  refine ah hI 0 rfl cn aO rfl ?_
  refine cj hI h2 aC al hk' (fun _ _=>RdT.length) fun cs' hcs'=>?_
  have hwm:=Cs (List.getElem_mem hk')
  refine Run.callPure lN lC hI (jn hcs' (by omega)) fun w' hI=>?_
  refine bJ ?_
  refine bd (fun hb=>done hI ?_) (fun hb=>?_)
  ·have hb':eg c.body[k]=false:=by simpa using hb
   have:c.body.all eg=false:=by
    rw [<- Bool.not_eq_true,List.all_eq_true]
    intro hall
    rw [hall _ (List.getElem_mem hk')] at hb'
    cases hb'
   rw [cF,this]
   simp
  ·have hb':eg c.body[k]=true:=by simpa using hb
   refine b0 (by omega) ?_
   refine ⟨⟨k+1,hk',by omega,rfl,fun j hj hjk=>?_,hI⟩,by simp [intOf]; omega⟩
   by_cases e:j=k
   ·subst e; exact hb'
   ·exact hrel j hj (by omega)
 ·refine ah hI 0 rfl cn aO rfl ?_
  refine a5 h2 aC ?_
  refine gi ?_
  rw [cF]
  by_cases hle:c.body.length<=6
  ·have hall:c.body.all eg=true:=by
    rw [List.all_eq_true]
    intro x hx
    obtain ⟨j,hj,rfl⟩:=List.getElem_of_mem hx
    exact hrel j hj (by omega)
   rw [decide_eq_true (show (c.body.length:Int)<=6 by omega),decide_eq_true hle,hall]
   repeat (first|refine ab ?_|refine ad (by decide) ?_|refine aa ?_|refine af ?_|refine ag ?_)
   refine bb dr ?_
   refine bY hI 0 [.int .i64 c.head.kind,.int .i64 c.head.n,.string c.head.name,kv] al rfl rfl ?_ ?_
   ·intro j v hj
    match j with
    | 0|1|2|3=>exact hj
    | j+4=>simp at hj
   refine Run.callPure fT f8 hI (eV h1' (zo (by omega))) fun w' hI=>?_
   cases hv:db c.head
   ·repeat (first|refine ab ?_|refine ad (by decide) ?_|refine aa ?_|refine af ?_|refine ag ?_)
    exact done hI rfl
   ·repeat (first|refine ab ?_|refine ad (by decide) ?_|refine aa ?_|refine af ?_|refine ag ?_)
    refine bb dr ?_
    refine bY hI 0 [.int .i64 c.head.kind,.int .i64 c.head.n,.string c.head.name,kv] al rfl rfl ?_ ?_
    ·intro j v hj
     match j with
     | 0|1|2|3=>exact hj
     | j+4=>simp at hj
    refine Run.callPure pF o8 hI (nK h1') fun w' hI=>?_
    repeat (first|refine ab ?_|refine ad (by decide) ?_|refine aa ?_|refine af ?_|refine ag ?_)
    exact done hI rfl
  ·rw [decide_eq_false (show ¬ (c.body.length:Int)<=6 by omega),decide_eq_false hle]
   repeat (first|refine ab ?_|refine ad (by decide) ?_|refine aa ?_|refine af ?_|refine ag ?_)
   exact done hI rfl

theorem lE {xs:List C} {S:ar} {v:Value} (h:RdSl S 5 (RdC S) v xs) (hc:wP xs<=1048576):Pure Tryz.prog rn [v] S (.bool (jG xs)):=by
 intro w hI
 have hlen:=h.le
 simp only [maxLen] at hlen
 refine mh ?_
 unfold iV
 refine ⟨fun i w'=>∃ k:Nat,k<=xs.length/\k<=20+1/\i=.int .i64 k/\(∀ j (h:j<xs.length),j<k->cF xs[j]=true)/\Inv w [] [] S w',
  fun i _=>xs.length - (intOf i).toNat,⟨0,Nat.zero_le _,by omega,rfl,fun j _ h=>by omega,hI⟩,?_⟩
 intro t3 _ _ _ _ _ _ _ _ _ _ _ _ _ _ _ _ _ w'
 rintro ⟨k,hk,hk7,rfl,hrel,hI⟩
 refine ⟨fun t w'=>t=.bool (decide (k<xs.length/\k<=20))/\Inv w [] [] S w',?_,?_⟩
 ·refine a5 h bI ?_
  refine bz ?_
  by_cases hki:(k:Int)<xs.length
  ·rw [decide_eq_true hki]
   repeat (first|refine ab ?_|refine ad (by decide) ?_|refine aa ?_|refine af ?_|refine ag ?_)
   refine gi ?_
   repeat (first|refine ab ?_|refine ad (by decide) ?_|refine aa ?_|refine af ?_|refine ag ?_)
   refine ⟨?_,hI⟩
   congr 1
   rw [Bool.eq_iff_iff]; simp; omega
  ·rw [decide_eq_false hki]
   repeat (first|refine ab ?_|refine ad (by decide) ?_|refine aa ?_|refine af ?_|refine ag ?_)
   exact ⟨by rw [decide_eq_false (by omega)],hI⟩
 intro t _ _ _ _ _ _ _ w'
 rintro ⟨rfl,hI⟩
 refine bf (fun hki=>?_) (fun hki=>?_)
 ·obtain ⟨hk',hk6⟩:=hki
  refine cj hI h bI dd hk' (fun _ _=>RdC.length) fun cs' hcs'=>?_
  have hwm:=BF (List.getElem_mem hk')
  refine Run.callPure rc qT hI (nU hcs' (by omega)) fun w' hI=>?_
  refine bJ ?_
  refine bd (fun hb=>done hI ?_) (fun hb=>?_)
  ·have hb':cF xs[k]=false:=by simpa using hb
   have:xs.all cF=false:=by
    rw [<- Bool.not_eq_true,List.all_eq_true]
    intro hall
    rw [hall _ (List.getElem_mem hk')] at hb'
    cases hb'
   rw [jG,this,Bool.and_false]
  ·have hb':cF xs[k]=true:=by simpa using hb
   refine b0 (by omega) ?_
   refine ⟨⟨k+1,hk',by omega,rfl,fun j hj hjk=>?_,hI⟩,by simp [intOf]; omega⟩
   by_cases e:j=k
   ·subst e; exact hb'
   ·exact hrel j hj (by omega)
 ·refine a5 h bI ?_
  refine gi ?_
  rw [jG]
  refine done hI ?_
  by_cases hle:xs.length<=20
  ·have hall:xs.all cF=true:=by
    rw [List.all_eq_true]
    intro x hx
    obtain ⟨j,hj,rfl⟩:=List.getElem_of_mem hx
    exact hrel j hj (by omega)
   rw [decide_eq_true (show (xs.length:Int)<=20 by omega),decide_eq_true hle,hall]; rfl
  ·rw [decide_eq_false (show ¬ (xs.length:Int)<=20 by omega),decide_eq_false hle]; rfl

/- the program's side -/
theorem BT (s:ByteArray) (S:ar):Pure Tryz.prog Ed [.string s] S (.bool (decide (0<cH s))):=by
 intro w hI
 refine zD ?_
 unfold yt
 refine Run.callPure y9 zF hI (tL s S) fun w' hI=>?_
 refine be rfl ?_
 refine be rfl ?_
 refine hG ?_
 exact done hI rfl
theorem gF {t:T} {S:ar} {cs:List Value} (h:RdT S cs t):Pure Tryz.prog Aa [.agg cs.toArray] S (.bool (c9 t)):=by
 intro w hI
 obtain ⟨kv,rfl,_,_,hs,hks⟩:=RdT.iff.1 h
 obtain ⟨k,n,s,ks⟩:=t
 simp only [T.name,T.kids,T.kind,T.n] at hs hks ⊢
 refine th ?_
 unfold oW
 refine bt hI fun b1 w' hI=>?_
 refine ah hI 0 rfl aU aR rfl ?_
 refine bu ?_
 rw [show c9 (.mk k n s ks)=(decide (k=3) && du s ks.length) from rfl]
 cases h3:decide (k=3)
 ·repeat (first|refine ab ?_|refine ad (by decide) ?_|refine aa ?_|refine af ?_|refine ag ?_)
  exact done hI rfl
 ·repeat (first|refine ab ?_|refine ad (by decide) ?_|refine aa ?_|refine af ?_|refine ag ?_)
  refine ah hI 0 rfl bi bk rfl ?_
  refine ah hI 0 rfl aP aO rfl ?_
  refine a5 hks aC ?_
  refine Run.callPure uv uZ hI (rD s _ S) fun w' hI=>?_
  repeat (first|refine ab ?_|refine ad (by decide) ?_|refine aa ?_|refine af ?_|refine ag ?_)
  exact done hI rfl
theorem nt {t:T} {S:ar} {cs:List Value} (h:RdT S cs t):Pure Tryz.prog A8 [.agg cs.toArray] S (.bool (gy t)):=by
 intro w hI
 have h0:=h
 obtain ⟨kv,rfl,_,_,hs,hks⟩:=RdT.iff.1 h
 obtain ⟨k,n,s,ks⟩:=t
 simp only [T.name,T.kids,T.kind,T.n] at h0 hs hks ⊢
 refine tz ?_
 unfold qd;dsimp only
 refine bt hI fun b1 w' hI=>?_
 refine ah hI 0 rfl aU aR rfl ?_
 refine bu ?_
 have hb:c9 (.mk k n s ks)=(decide (k=3) && du s ks.length):=rfl
 rw [show gy (.mk k n s ks)=(decide (k=3) && (iU s && (!du s ks.length && decide (cH s=0)))) from rfl]
 cases h1:decide (k=3)
 ·repeat (first|refine ab ?_|refine ad (by decide) ?_|refine aa ?_|refine af ?_|refine ag ?_)
  exact done hI rfl
 ·rw [h1] at hb
  repeat (first|refine ab ?_|refine ad (by decide) ?_|refine aa ?_|refine af ?_|refine ag ?_)
  refine ah hI 0 rfl bi bk rfl ?_
  refine Run.callPure mz ml hI (lb s hs S) fun w' hI=>?_
  cases h2:iU s
  ·repeat (first|refine ab ?_|refine ad (by decide) ?_|refine aa ?_|refine af ?_|refine ag ?_)
   exact done hI rfl
  ·repeat (first|refine ab ?_|refine ad (by decide) ?_|refine aa ?_|refine af ?_|refine ag ?_)
   refine ah hI 0 rfl bi bk rfl ?_
   refine Run.callPure CO Da hI (BT s S) fun w' hI=>?_
   refine bJ ?_
   rw [CN]
   cases h3:decide (cH s=0)
   ·repeat (first|refine ab ?_|refine ad (by decide) ?_|refine aa ?_|refine af ?_|refine ag ?_)
    exact done hI (by simp)
   ·repeat (first|refine ab ?_|refine ad (by decide) ?_|refine aa ?_|refine af ?_|refine ag ?_)
    refine a8 hI 0 al rfl rfl ?_
    refine Run.callPure ib ic hI (gF h0) fun w' hI=>?_
    refine bJ ?_
    repeat (first|refine ab ?_|refine ad (by decide) ?_|refine aa ?_|refine af ?_|refine ag ?_)
    exact done hI (by rw [hb]; simp)
theorem qA {t:T} {S:ar} {cs:List Value} (h:RdT S cs t):Pure Tryz.prog Bq [.agg cs.toArray] S (.bool (Dk t)):=by
 intro w hI
 obtain ⟨kv,rfl,_,_,hs,hks⟩:=RdT.iff.1 h
 obtain ⟨k,n,s,ks⟩:=t
 simp only [T.name,T.kids,T.kind,T.n] at hs hks ⊢
 refine uL ?_
 unfold r6
 refine bt hI fun b1 w' hI=>?_
 refine ah hI 0 rfl aU aR rfl ?_
 refine bu ?_
 rw [show Dk (.mk k n s ks)=(decide (k=3) && decide (ks.length=0)) from rfl]
 cases h3:decide (k=3)
 ·repeat (first|refine ab ?_|refine ad (by decide) ?_|refine aa ?_|refine af ?_|refine ag ?_)
  exact done hI rfl
 ·repeat (first|refine ab ?_|refine ad (by decide) ?_|refine aa ?_|refine af ?_|refine ag ?_)
  refine ah hI 0 rfl aP aO rfl ?_
  refine a5 hks aC ?_
  refine bu ?_
  repeat (first|refine ab ?_|refine ad (by decide) ?_|refine aa ?_|refine af ?_|refine ag ?_)
  exact done hI (by simp)
theorem iO {t:T} {S:ar} {cs:List Value} (h:RdT S cs t):Pure Tryz.prog C9 [.agg cs.toArray] S (.bool (qU t)):=by
 intro w hI
 have h0:=h
 obtain ⟨kv,rfl,_,_,hs,hks⟩:=RdT.iff.1 h
 obtain ⟨k,n,s,ks⟩:=t
 simp only [T.name,T.kids,T.kind,T.n] at h0 hs hks ⊢
 refine xh ?_
 unfold vo
 refine bt hI fun b1 w' hI=>?_
 refine a8 hI 0 al rfl rfl ?_
 refine Run.callPure sJ r5 hI (qA h0) fun w' hI=>?_
 rw [show qU (.mk k n s ks)=(decide (k=3) && (decide (s=⟨#[33]⟩) && decide (ks.length=0))) from rfl]
 cases h1:Dk (.mk k n s ks)
 ·repeat (first|refine ab ?_|refine ad (by decide) ?_|refine aa ?_|refine af ?_|refine ag ?_)
  refine done hI ?_
  replace h1:(decide (k=3) && decide (ks.length=0))=false:=h1
  cases h2:decide (k=3)
  ·rfl
  ·rw [h2,Bool.true_and] at h1
   rw [h1,Bool.and_false]; rfl
 ·repeat (first|refine ab ?_|refine ad (by decide) ?_|refine aa ?_|refine af ?_|refine ag ?_)
  refine ah hI 0 rfl bi bk rfl ?_
  refine bm ?_
  repeat (first|refine ab ?_|refine ad (by decide) ?_|refine aa ?_|refine af ?_|refine ag ?_)
  refine done hI ?_
  replace h1:(decide (k=3) && decide (ks.length=0))=true:=h1
  rw [Bool.and_eq_true] at h1
  rw [h1.1,h1.2]; simp
theorem kl {t:T} {S:ar} {cs:List Value} (h:RdT S cs t):Pure Tryz.prog xB [.agg cs.toArray] S (.bool (eg t)):=by
 intro w hI
 have hl:=h.length
 refine qK ?_
 unfold lS
 refine bt hI fun b1 w' hI=>?_
 refine a8 hI 0 al rfl (by simpa [Value.cells] using hl) ?_
 refine Run.callPure iE iv hI (gu h) fun w' hI=>?_
 rw [eg]
 cases h1:db t
 ·repeat (first|refine ab ?_|refine ad (by decide) ?_|refine aa ?_|refine af ?_|refine ag ?_)
  exact done hI rfl
 ·repeat (first|refine ab ?_|refine ad (by decide) ?_|refine aa ?_|refine af ?_|refine ag ?_)
  refine a8 hI 0 al rfl (by simpa [Value.cells] using hl) ?_
  refine Run.callPure pM p8 hI (nt h) fun w' hI=>?_
  cases h2:gy t
  ·repeat (first|refine ab ?_|refine ad (by decide) ?_|refine aa ?_|refine af ?_|refine ag ?_)
   refine a8 hI 0 al rfl (by simpa [Value.cells] using hl) ?_
   refine Run.callPure ib ic hI (gF h) fun w' hI=>?_
   cases h3:c9 t
   ·repeat (first|refine ab ?_|refine ad (by decide) ?_|refine aa ?_|refine af ?_|refine ag ?_)
    refine a8 hI 0 al rfl (by simpa [Value.cells] using hl) ?_
    refine Run.callPure kA kM hI (iO h) fun w' hI=>?_
    repeat (first|refine ab ?_|refine ad (by decide) ?_|refine aa ?_|refine af ?_|refine ag ?_)
    exact done hI (by simp)
   ·repeat (first|refine ab ?_|refine ad (by decide) ?_|refine aa ?_|refine af ?_|refine ag ?_)
    exact done hI (by simp)
  ·repeat (first|refine ab ?_|refine ad (by decide) ?_|refine aa ?_|refine af ?_|refine ag ?_)
   exact done hI (by simp)

theorem y4 {α:Type} (p:α->Bool):∀ xs:List α,(!xs.any fun x=>!p x)=xs.all p
 | []=>rfl
 | x::xs=>by
  rw [List.any_cons,List.all_cons,<- y4 p xs]
  cases p x <;> simp

theorem nc {x:T} {S:ar} {cs:List Value} (h:RdT S cs x):Pure Tryz.prog j9 [.agg cs.toArray] S (.bool (!eg x)):=by
 intro w hI
 have hl:=h.length
 refine l4 ?_
 unfold iQ
 refine bt hI fun b1 w' hI=>?_
 refine a8 hI 0 al rfl (by simpa [Value.cells] using hl) ?_
 refine Run.callPure md lB hI (kl h) fun w' hI=>?_
 refine bJ (done hI rfl)
theorem p7 {xs:List T} {S:ar} {v:Value} (h:RdSl S 4 (RdT S) v xs):Pure Tryz.prog uY [v] S (.bool (zI xs)):=by
 intro w hI
 refine oh ?_
 unfold la
 refine a5 h aC ?_
 refine gi ?_
 rw [zI]
 by_cases hle:xs.length<=6
 ·rw [decide_eq_true (show (xs.length:Int)<=6 by omega),decide_eq_true hle]
  repeat (first|refine ab ?_|refine ad (by decide) ?_|refine aa ?_|refine af ?_|refine ag ?_)
  have hcb:Cb Tryz.prog j9 _ [] S (fun _:Unit=>[]) (fun _=>True) (fun _ x=>(!eg x,())) (fun v x=>∃ cs,v=.agg cs.toArray/\RdT S cs x) xs:=
   Cb.pure [] oE oN fun x v _=>by
    rintro ⟨cs,rfl,hcs⟩ w1 hI
    exact (nc hcs w1 hI).mono fun e w' ⟨he,hI⟩=>⟨_,_,_,he,hI,Ext.refl _ _ _,rfl,rfl,rfl⟩
  refine Run.call0 ei ek hI (gN hcb h (st:=()) trivial) fun v' I' S' w'=>?_
  rintro ⟨rfl,rfl,rfl⟩ _ hI
  refine bJ ?_
  repeat (first|refine ab ?_|refine ad (by decide) ?_|refine aa ?_|refine af ?_|refine ag ?_)
  refine done hI ?_
  rw [mJ (fun x=>!eg x) xs,y4]; rfl
 ·rw [decide_eq_false (show ¬ (xs.length:Int)<=6 by omega),decide_eq_false hle]
  repeat (first|refine ab ?_|refine ad (by decide) ?_|refine aa ?_|refine af ?_|refine ag ?_)
  exact done hI rfl
theorem oa {c:C} {S:ar} {cs:List Value} (h:RdC S cs c):Pure Tryz.prog sZ [.agg cs.toArray] S (.bool (cF c)):=by
 intro w hI
 obtain ⟨hd,ks,rfl,h1,h2⟩:=h
 have h1':=h1
 obtain ⟨kv,rfl,g1,g2,g3,g4⟩:=RdT.iff.1 h1
 have hfin:cF c=(db c.head && (gy c.head && zI c.body)):=by
  unfold cF zI
  cases db c.head <;> cases gy c.head <;> simp
 refine mL ?_
 unfold jo;dsimp only
 rw [hfin]
 refine bt hI fun b1 w' hI=>?_
 refine bb dr ?_
 refine bY hI 0 [.int .i64 c.head.kind,.int .i64 c.head.n,.string c.head.name,kv] al rfl rfl ?_ ?_
 ·intro j v hj
  match j with
  | 0|1|2|3=>exact hj
  | j+4=>simp at hj
 refine Run.callPure iE iv hI (gu h1') fun w' hI=>?_
 cases hv:db c.head
 ·repeat (first|refine ab ?_|refine ad (by decide) ?_|refine aa ?_|refine af ?_|refine ag ?_)
  exact done hI rfl
 ·repeat (first|refine ab ?_|refine ad (by decide) ?_|refine aa ?_|refine af ?_|refine ag ?_)
  refine bb dr ?_
  refine bY hI 0 [.int .i64 c.head.kind,.int .i64 c.head.n,.string c.head.name,kv] al rfl rfl ?_ ?_
  ·intro j v hj
   match j with
   | 0|1|2|3=>exact hj
   | j+4=>simp at hj
  refine Run.callPure pM p8 hI (nt h1') fun w' hI=>?_
  cases hp:gy c.head
  ·repeat (first|refine ab ?_|refine ad (by decide) ?_|refine aa ?_|refine af ?_|refine ag ?_)
   exact done hI rfl
  ·repeat (first|refine ab ?_|refine ad (by decide) ?_|refine aa ?_|refine af ?_|refine ag ?_)
   refine ah hI 0 rfl cn aO rfl ?_
   refine Run.callPure uc tK hI (p7 h2) fun w' hI=>?_
   repeat (first|refine ab ?_|refine ad (by decide) ?_|refine aa ?_|refine af ?_|refine ag ?_)
   exact done hI rfl

theorem lp {x:C} {S:ar} {cs:List Value} (h:RdC S cs x):Pure Tryz.prog iA [.agg cs.toArray] S (.bool (!cF x)):=by
 intro w hI
 have hl:=h.length
 refine kH ?_
 unfold hC
 refine bt hI fun b1 w' hI=>?_
 refine a8 hI 0 dd rfl (by simpa [Value.cells] using hl) ?_
 refine Run.callPure rC qN hI (oa h) fun w' hI=>?_
 refine bJ (done hI rfl)
theorem mM {xs:List C} {S:ar} {v:Value} (h:RdSl S 5 (RdC S) v xs):Pure Tryz.prog q8 [v] S (.bool (jG xs)):=by
 intro w hI
 refine mj ?_
 unfold iX
 refine a5 h bI ?_
 refine gi ?_
 rw [jG]
 by_cases hle:xs.length<=20
 ·rw [decide_eq_true (show (xs.length:Int)<=20 by omega),decide_eq_true hle]
  repeat (first|refine ab ?_|refine ad (by decide) ?_|refine aa ?_|refine af ?_|refine ag ?_)
  have hcb:Cb Tryz.prog iA _ [] S (fun _:Unit=>[]) (fun _=>True) (fun _ x=>(!cF x,())) (fun v x=>∃ cs,v=.agg cs.toArray/\RdC S cs x) xs:=
   Cb.pure [] mK mN fun x v _=>by
    rintro ⟨cs,rfl,hcs⟩ w1 hI
    exact (lp hcs w1 hI).mono fun e w' ⟨he,hI⟩=>⟨_,_,_,he,hI,Ext.refl _ _ _,rfl,rfl,rfl⟩
  refine Run.call0 i9 jh hI (kT hcb h (st:=()) trivial) fun v' I' S' w'=>?_
  rintro ⟨rfl,rfl,rfl⟩ _ hI
  refine bJ ?_
  repeat (first|refine ab ?_|refine ad (by decide) ?_|refine aa ?_|refine af ?_|refine ag ?_)
  refine done hI ?_
  rw [mJ (fun x=>!cF x) xs,y4]; rfl
 ·rw [decide_eq_false (show ¬ (xs.length:Int)<=20 by omega),decide_eq_false hle]
  repeat (first|refine ab ?_|refine ad (by decide) ?_|refine aa ?_|refine af ?_|refine ag ?_)
  exact done hI rfl
end Go.Proofs.YtfcbhfjomgopbaaGreat

/- A row of a function's own, handed to a function that only reads; rows of numbers. -/
namespace Go.Proofs.YtfcbhfjomgopbaaGreat
open Go Go.RowKit
attribute [local irreducible] Run CondV ak bg

def RowRd (S:ar) (v:Value) (e:TypeId) (k n:Nat) (xs:List Value):Prop:=
 xs.length=n * k/\((v=.slice none 0 0/\n=0) ∨ ∃ g cap cur,v=.slice (some ⟨g,0,none⟩) n cap/\S g=some (.cells cur e)/\n<=cap/\cap<=maxLen/\cur.size=cap * k/\cur.toList.take (n * k)=xs)
theorem Inv.lend {w0 w:World} {X:List Nat} {A:List Item} {S:ar} {v:Value} {e:TypeId} {k n:Nat} {xs:List Value} (h:Inv w0 X (A++[.row v e k n xs]) S w) :
  ∃ S',Sle S S'/\RowRd S' v e k n xs/\Inv w0 X A S' w/\∀ B w',Inv w0 X B S' w'->Inv w0 X (B++[.row v e k n xs]) S w':=by
 have hm:w.ownsRow 0 e k v n xs:=h.its (.row v e k n xs) (by simp)
 obtain ⟨hl,hm⟩:=hm
 rcases hm with ⟨rfl,rfl⟩|⟨g,cap,cur,rfl,_,hg,hnc,hcm,hcs,ht⟩
 ·have:xs=[]:=List.eq_nil_of_length_eq_zero (by rw [hl,Nat.zero_mul])
  subst this
  exact ⟨S,Sle.refl S,⟨hl,.inl ⟨rfl,rfl⟩⟩,h.sub (List.sublist_append_left _ _),fun B w' hB=>hB.rowNil e k⟩
 ·have hf:bv (A++[Item.blk g (.cells cur e)])=bv (A++[Item.row (.slice (some ⟨g,0,none⟩) n cap) e k n xs]):=by
   simp [bv,Item.foot,Value.ownBlock]
  have hg':g∈bv (A++[Item.row (.slice (some ⟨g,0,none⟩) n cap) e k n xs]):=by simp [bv,Item.foot,Value.ownBlock]
  have h':Inv w0 X (A++[Item.blk g (.cells cur e)]) S w:=by
   refine ⟨h.size,h.os,h.tape,h.output,h.old,fun it hit=>?_,by rw [hf]; exact h.nd,by rw [hf]; exact h.new,by rw [hf]; exact h.pub⟩
   rcases List.mem_append.1 hit with hit|hit
   ·exact h.its it (List.mem_append_left _ hit)
   ·simp at hit
    subst hit
    exact hg
  obtain ⟨h1,h2⟩:=h'.publishLast
  refine ⟨mi S g (.cells cur e),h2,⟨hl,.inr ⟨g,cap,cur,rfl,by simp [mi],hnc,hcm,hcs,ht⟩⟩,h1,fun B w' hB=>?_⟩
  have hpg:=hB.pub g (.cells cur e) (by simp [mi])
  have hfB:bv (B++[Item.row (.slice (some ⟨g,0,none⟩) n cap) e k n xs])=bv B++[g]:=by simp [bv,Item.foot,Value.ownBlock]
  refine ⟨hB.size,hB.os,hB.tape,hB.output,hB.old,fun it hit=>?_,?_,?_,?_⟩
  ·rcases List.mem_append.1 hit with hit|hit
   ·exact hB.its it hit
   ·simp at hit
    subst hit
    exact ⟨hl,.inr ⟨g,cap,cur,rfl,Nat.zero_le _,hpg.1,hnc,hcm,hcs,ht⟩⟩
  ·rw [hfB,List.nodup_append]
   refine ⟨hB.nd,by simp,fun a ha b hb=>?_⟩
   simp at hb
   subst hb
   intro e'
   subst e'
   exact hpg.2 ha
  ·intro c hc
   rw [hfB] at hc
   rcases List.mem_append.1 hc with hc|hc
   ·exact hB.new c hc
   ·simp at hc
    subst hc
    exact h.new _ hg'
  ·intro c o hc
   have hne:c≠g:=fun e'=>by
    subst e'
    exact (h.pub c o hc).2 hg'
   have:=hB.pub c o (by simp only [mi]; rw [if_neg hne]; exact hc)
   refine ⟨this.1,?_⟩
   rw [hfB]
   intro hc'
   rcases List.mem_append.1 hc' with hc'|hc'
   ·exact this.2 hc'
   ·simp at hc'
    exact hne hc'
theorem Cy {α:Type} (f:α->List Value) (k:Nat) (hf:∀ y,(f y).length=k):∀ (ys:List α) (i:Nat) (h:i<ys.length),((ys.flatMap f).drop (i * k)).take k=f ys[i]
 | [],i,h=>by simp at h
 | y::ys,0,h=>by
  rw [List.flatMap_cons,Nat.zero_mul,List.drop_zero,List.take_append_of_le_length (by rw [hf]; exact Nat.le_refl _),List.take_of_length_le (by rw [hf]; exact Nat.le_refl _)]
  rfl
 | y::ys,i+1,h=>by
  rw [List.flatMap_cons,Nat.succ_mul,Nat.add_comm,<- List.drop_drop,List.drop_left' (hf y)]
  exact Cy f k hf ys i (by simpa using h)
theorem RowRd.rd {α:Type} {S:ar} {v:Value} {e:TypeId} {k:Nat} {f:α->List Value} {R:List Value->α->Prop} {ys:List α} (hf:∀ y,(f y).length=k) (hR:∀ y∈ys,R (f y) y)
  (h:RowRd S v e k ys.length (ys.flatMap f)):RdSl S k R v ys:=by
 obtain ⟨hl,h⟩:=h
 rcases h with ⟨rfl,h0⟩|⟨g,cap,cur,rfl,hS,hnc,hcm,hcs,ht⟩
 ·have:ys=[]:=List.eq_nil_of_length_eq_zero h0
  subst this
  exact ⟨none,0,rfl,Nat.le_refl _,Nat.zero_le _,.inl rfl⟩
 ·refine ⟨_,cap,rfl,hnc,hcm,.inr ⟨g,0,cur,e,(0,0),rfl,hS,fun i hi=>?_⟩⟩
  have:=Cy f k hf ys i hi
  have hik:i * k+k<=ys.length * k:=by rw [<- Nat.succ_mul]; exact Nat.mul_le_mul_right k hi
  rw [<- ht,List.drop_take,List.take_take,Nat.min_eq_left (by omega)] at this
  rw [ba,Nat.zero_add,this]
  exact hR _ (List.getElem_mem hi)

/- rows of numbers -/
def ints (ns:List Int):List Value:=ns.flatMap fun n=>[.int .i64 n]
abbrev em (v:Value) (ns:List Int):Item:=.row v ce 1 ns.length (ints ns)
theorem yr (ns:List Int) (n:Int):ints ns++[.int .i64 n]=ints (ns++[n]):=by simp [ints]
theorem RowRd.ints {S:ar} {v:Value} {e:TypeId} {ns:List Int} (h:RowRd S v e 1 ns.length (ints ns)):RdSl S 1 FW v ns:=
 RowRd.rd (f:=fun n=>[Value.int .i64 n]) (fun _=>rfl) (fun _ _=>rfl) h
def z7 (l:List Int) (n:Int):Bool:=l.any fun x=>decide (n=x)
def tR (l:List Int) (n:Int):List Int:=if z7 l n=true then l else l++[n]
theorem EI (l:List Int) (n:Int):(tR l n).length<=l.length+1:=by
 unfold tR
 split <;> simp

end Go.Proofs.YtfcbhfjomgopbaaGreat

/- The variables of terms, on both sides: lists of numbers that grow. -/
namespace Go.Proofs.YtfcbhfjomgopbaaGreat
open Go Go.RowKit
attribute [local irreducible] Run CondV ak bg

mutual
def eC:T->List Int->List Int
 | .mk k n _ ks,l=>if k=1 then tR l n else dV ks l
def dV:List T->List Int->List Int
 | [],l=>l
 | t::ts,l=>dV ts (eC t l)
end
mutual
theorem xZ:∀ (t:T) (l:List Int),((eC t l).length:Int)<=l.length+dk t
 | .mk k n s ks,l=>by
  rw [eC,show dk (T.mk k n s ks)=1+cJ ks from rfl]
  have h1:=EI l n
  have:=dH ks
  split
  ·omega
  ·have:=xQ ks l
   omega
theorem xQ:∀ (ts:List T) (l:List Int),((dV ts l).length:Int)<=l.length+cJ ts
 | [],l=>by simp [dV,cJ]
 | t::ts,l=>by
  rw [dV,show cJ (t::ts)=dk t+cJ ts from rfl]
  have:=xZ t l
  have:=xQ ts (eC t l)
  omega
end
/- on valid terms the two are one -/
theorem ss {t:T} (h:db t=true):er t 30=true:=by
 rw [db,Bool.and_eq_true] at h
 exact h.1
abbrev Fj (S:ar) (r:List Int):Value->List Item->ar->Prop:=fun v I' S'=>I'=[em v r]/\S'=S

theorem pk:∀ (t:T) (S:ar) (cs:List Value) (v:Value) (l:List Int),RdT S cs t->l.length+dk t<=1000000000->Tri Tryz.prog Bk [v,.agg cs.toArray] [em v l] S (Fj S (eC t l)):=by
 refine T.ind fun k n s ks ih S cs v l h hl=>?_
 intro w hI
 obtain ⟨kv,rfl,_,_,hs,hks⟩:=RdT.iff.1 h
 simp only [T.name,T.kids,T.kind,T.n] at hs hks ⊢
 have hlen:=hks.le
 simp only [maxLen] at hlen
 rw [show dk (T.mk k n s ks)=1+cJ ks from rfl] at hl
 have hcp:=dH ks
 have hend:∀ {w':World} {v':Value} {b:Nat} {o:Obj} (r:List Int),Inv w (bv [em v l]) [.blk b o,em v' r] S w'->r=eC (.mk k n s ks) l->
   ∃ v'' I' S',Ending.returned v'=.returned v''/\Inv w (bv [em v l]) I' S' w'/\Ext w.heap.size (bv [em v l]) S S'/\Fj S (eC (.mk k n s ks) l) v'' I' S':=by
  intro w' v' b o r h1 h2
  subst h2
  exact ⟨_,_,_,rfl,h1.pick [false,true],Ext.refl _ _ _,rfl,rfl⟩
 refine wi ?_
 unfold se
 refine bt hI fun b3 w' hI=>?_
 have hI:=hI.perm (M:=[.blk b3 (.cells #[.int .i64 k,.int .i64 n,.string s,kv] ac),em v l]) (List.Perm.swap _ _ _)
 refine ah hI 0 rfl aU aR rfl ?_
 refine bu ?_
 refine bf (fun hk=>?_) (fun hk=>?_)
 ·have hr:tR l n=eC (.mk k n s ks) l:=by rw [eC,if_pos hk]
  obtain ⟨S1,hle,hrd,hI,hback⟩:=Inv.lend (A:=[_]) hI
  have hrd:=hrd.ints
  refine ⟨fun i w'=>∃ j:Nat,j<=l.length/\i=.int .i64 j/\z7 (l.drop j) n=z7 l n/\Inv w (bv [em v l]) [.blk b3 (.cells #[.int .i64 k,.int .i64 n,.string s,kv] ac)] S1 w',
   fun i _=>l.length - (intOf i).toNat,⟨0,Nat.zero_le _,rfl,rfl,hI⟩,?_⟩
  intro t5 _ _ _ _ t22 t21 t20 t19 t18 t17 t16 _ _ _ _ w'
  rintro ⟨j,hj,rfl,hrel,hI⟩
  refine a5 hrd eU ?_
  refine bz ?_
  refine bf (fun hji=>?_) (fun hji=>?_)
  ·have hj':j<l.length:=by omega
   have hstep:z7 (l.drop j) n=(decide (n=l[j]) || z7 (l.drop (j+1)) n):=Aq _ l j hj'
   obtain ⟨b,o,cap,c,E,fz,rfl,hS,hR⟩:=hrd.at_ hj'
   refine ⟨fun D dS dQ dY dD dG dK lR w_=>(D 0=true->lR=.slice (some ⟨b,o,none⟩) l.length cap)/\(D 1=true->dK=.int .i64 j)/\(D 2=true->dG=.pointer (some ⟨b,o+j * 1,none⟩))/\(D 3=true->dD=.int .i64 l[j])/\(D 4=true->dY=.pointer (some ⟨b3,1,none⟩))/\(D 5=true->dQ=.int .i64 n)/\(D 6=true->dS=.bool (decide (l[j]=n)))/\Inv w (bv [em (.slice (some ⟨b,o,none⟩) l.length cap) l]) [.blk b3 (.cells #[.int .i64 k,.int .i64 n,.string s,kv] ac)] S1 w_,⟨ae,ae,ae,ae,ae,ae,ae,hI.draw⟩,⟨?_,?_,?_,?_,?_,?_,?_,trivial⟩,?_⟩
   ·intro D aY  dS dQ dY dD dG dK lR w_
    rintro ⟨av,aw,ao,au,az,aq,aA,hI⟩
    exact ⟨fun _=>rfl,aw,ao,au,az,aq,aA,hI⟩
   ·intro D aY  dS dQ dY dD dG dK lR w_
    rintro ⟨av,aw,ao,au,az,aq,aA,hI⟩
    exact ⟨av,fun _=>rfl,ao,au,az,aq,aA,hI⟩
   ·intro D aY cB q4 dS dQ dY dD dG dK lR w_
    rintro ⟨av,aw,ao,au,az,aq,aA,hI⟩
    obtain rfl:=av cB
    obtain rfl:=aw q4
    refine aT eU hj' ?_
    exact ⟨av,aw,fun _=>rfl,au,az,aq,aA,hI⟩
   ·intro D aY cc dS dQ dY dD dG dK lR w_
    rintro ⟨av,aw,ao,au,az,aq,aA,hI⟩
    obtain rfl:=ao cc
    refine fj aR (by rw [hI.cellS hS]; exact aS hR 0 _ rfl) ?_
    exact ⟨av,aw,ao,fun _=>rfl,az,aq,aA,hI⟩
   ·intro D aY  dS dQ dY dD dG dK lR w_
    rintro ⟨av,aw,ao,au,az,aq,aA,hI⟩
    refine bb a9 ?_
    exact ⟨av,aw,ao,au,fun _=>rfl,aq,aA,hI⟩
   ·intro D aY cZ dS dQ dY dD dG dK lR w_
    rintro ⟨av,aw,ao,au,az,aq,aA,hI⟩
    obtain rfl:=az cZ
    refine bj hI 0 aR rfl rfl ?_
    exact ⟨av,aw,ao,au,az,fun _=>rfl,aA,hI⟩
   ·intro D aY dq cm dS dQ dY dD dG dK lR w_
    rintro ⟨av,aw,ao,au,az,aq,aA,hI⟩
    obtain rfl:=au dq
    obtain rfl:=aq cm
    refine bu ?_
    exact ⟨av,aw,ao,au,az,aq,fun _=>rfl,hI⟩
   intro D fk fi e9 fe eQ eZ e8 dS dQ dY dD dG dK lR w_
   rintro ⟨av,aw,ao,au,az,aq,aA,hI⟩
   obtain rfl:=aA fk
   obtain rfl:=aq fi
   obtain rfl:=az e9
   obtain rfl:=au fe
   obtain rfl:=ao eQ
   obtain rfl:=aw eZ
   obtain rfl:=av e8
   clear av aw ao au az aq aA
   refine bf (fun he=>?_) (fun he=>?_)
   ·refine hend l (hback _ _ hI) ?_
    rw [<- hr,tR,if_pos (by rw [<- hrel,hstep,decide_eq_true he.symm]; rfl)]
   ·refine b0 (by omega) ?_
    exact ⟨⟨j+1,hj',rfl,by rw [<- hrel,hstep,decide_eq_false (fun e=>he e.symm)]; rfl,hI⟩,by simp [intOf]; omega⟩
  ·have:j=l.length:=by omega
   subst this
   have hno:z7 l n=false:=by rw [<- hrel,List.drop_length]; rfl
   have hI:Inv w (bv [em v l]) [.blk b3 (.cells #[.int .i64 k,.int .i64 n,.string s,kv] ac),em v l] S _:=hback _ _ hI
   refine ah hI 0 rfl a9 aR rfl ?_
   refine uS hI ui rfl (by omega) (by omega) fun b w' hI=>?_
   refine oD hI 1 (k:=1) [.int .i64 n] ui (by omega) rfl rfl ?_ ?_ (by omega) (by omega) fun v' w' hI=>?_
   ·intro j u hj
    rw [hI.cellL (i:=2) rfl]
    match j with
    | 0=>simpa [Value.cells] using hj
    | j+1=>simp at hj
   ·simp [Value.oneCell']
   ·rw [yr] at hI
    have hI:=hI.pick [true,true,false]
    refine hend (b:=b3) (o:=.cells #[.int .i64 k,.int .i64 n,.string s,kv] ac) (l++[n]) ?_ ?_
    ·have e:Item.row v' ce 1 (l.length+1) (ints (l++[n]))=em v' (l++[n]):=by simp [em]
     exact e ▸ hI
    ·rw [<- hr,tR,if_neg (by rw [hno]; decide)]
 ·have hr:dV ks l=eC (.mk k n s ks) l:=by rw [eC,if_neg hk]
  refine ⟨fun i t w'=>∃ (j:Nat) (l':List Int),j<=ks.length/\i=.int .i64 j/\dV (ks.drop j) l'=dV ks l/\l'.length+cJ (ks.drop j)<=1000000000/\Inv w (bv [em v l]) [.blk b3 (.cells #[.int .i64 k,.int .i64 n,.string s,kv] ac),em t l'] S w',
   fun i _ _=>ks.length - (intOf i).toNat,⟨0,l,Nat.zero_le _,rfl,rfl,by rw [List.drop_zero]; omega,hI⟩,?_⟩
  intro t6 _ _ t0 _ _ _ _ _ _ _ _ _ _ _ _ w'
  rintro ⟨j,l',hj,rfl,hrel,hl',hI⟩
  refine ah hI 0 rfl aP aO rfl ?_
  refine a5 hks aC ?_
  refine bz ?_
  refine bf (fun hji=>?_) (fun hji=>?_)
  ·have hj':j<ks.length:=by omega
   rw [wk ks j hj'] at hl'
   rw [List.drop_eq_getElem_cons hj',dV] at hrel
   have hc1:=dH (ks.drop (j+1))
   have hc2:=xZ ks[j] l'
   refine ah hI 0 rfl aP aO rfl ?_
   refine cj hI hks aC al hj' (fun _ _=>RdT.length) fun cs' hcs'=>?_
   refine Run.call (A:=[_]) mv lT hI (ih _ (List.getElem_mem hj') S cs' t0 l' hcs' (by omega)) fun v' I' S' w'=>?_
   rintro ⟨rfl,rfl⟩ _ hI
   refine b0 (by omega) ?_
   exact ⟨⟨j+1,_,hj',rfl,hrel,by omega,hI⟩,by simp [intOf]; omega⟩
  ·have:j=ks.length:=by omega
   subst this
   rw [List.drop_length,dV] at hrel
   exact hend l' hI (by rw [hrel,hr])

end Go.Proofs.YtfcbhfjomgopbaaGreat

/- Flat clauses and programs, on both sides. -/
namespace Go.Proofs.YtfcbhfjomgopbaaGreat
open Go Go.RowKit
attribute [local irreducible] Run CondV ak bg

section
variable {P:Program} {w w0:World} {X:List Nat} {L:List Item} {S:ar} {K:Value->World->Prop}
end
end Go.Proofs.YtfcbhfjomgopbaaGreat

/- The row's reading of the arguments gives the reading of this proof; and what a law that returns true owes. -/
namespace Go.Proofs.YtfcbhfjomgopbaaGreat
open Go Go.ChangeShapes Go.WideShapes Go.ChangeAt Go.RowKit

def lg (W:World):ar:=fun b=>W.heap[b]?
section
variable {H:Type} {enc:TypeId × Value->H} {P:Program} {W:World} {sp:Nat->Bool} {held:Bool}
theorem vq {t:TypeId} {fuel:Nat} {c:Value} {x:DataW H × List MemPlace} (ht:P.underlying t=some (.int .i64)) (h:DataW.trod enc P W 0 sp held fuel t [c]=some x) :
  ∃ n,c=.int .i64 n/\inI n:=by
 cases fuel with
 | zero=>simp [DataW.trod] at h
 | succ n=>
  unfold DataW.trod at h
  rw [ht] at h
  split at h <;> simp_all
  rename_i k1 k2 m he
  subst he
  obtain ⟨⟨_,h⟩,_⟩:=h
  simp only [Lit.wf,Bool.and_eq_true,decide_eq_true_eq] at h
  exact h
theorem DT {t:TypeId} {fuel:Nat} {c:Value} {x:DataW H × List MemPlace} (ht:P.underlying t=some .string) (h:DataW.trod enc P W 0 sp held fuel t [c]=some x) :
  ∃ s,c=.string s/\s.size<=maxLen:=by
 cases fuel with
 | zero=>simp [DataW.trod] at h
 | succ n=>
  unfold DataW.trod at h
  rw [ht] at h
  split at h <;> simp_all
theorem rr {t:TypeId} {fuel:Nat} {l:List (Nat × TypeId)} {cs:List Value} {x:DataW H × List MemPlace} (ht:DN P t=some l) (h:DataW.trod enc P W 0 sp held fuel t cs=some x) :
  ∃ n,fuel=n+1/\cs.length=P.cellsOf t/\∀ (i:Nat) (o:Nat) (u:TypeId),l[i]?=some (o,u)->∃ y,DataW.trod enc P W 0 sp held n u ((cs.drop o).take (P.cellsOf u))=some y:=by
 unfold DN at ht
 split at ht
 ·rename_i fs hfs
  obtain ⟨xs,n,hn,_,hl,hxs,hf⟩:=DataW.trod_struct hfs h
  refine ⟨n,hn,hl,fun i o u hi=>?_⟩
  simp only [Option.some.injEq] at ht
  subst ht
  rw [List.getElem?_map,Option.map_eq_some_iff] at hi
  obtain ⟨f,hfi,he⟩:=hi
  simp only [Prod.mk.injEq] at he
  obtain ⟨rfl,rfl⟩:=he
  have hfi':fs[i]?=some f:=by rw [<- Array.getElem?_toList]; exact hfi
  have hlt:i<xs.length:=by
   rw [hxs]
   exact (Array.getElem?_eq_some_iff.1 hfi').1
  have:=hf i f hfi'
  rw [List.getElem?_eq_getElem hlt] at this
  exact ⟨_,this⟩
 ·cases ht
theorem CI {a:Addr} {v:Value} (h:W.cell? a=some v):∃ b o c E fz,a=⟨b,o,none⟩/\W.heap[b]?=some (.cells c E fz)/\c[o]?=some v:=by
 obtain ⟨b,o,s⟩:=a
 simp only [World.cell?] at h
 split at h
 ·rename_i c E fz hb
  cases s with
  | none=>exact ⟨b,o,c,E,fz,rfl,hb,by simpa using h⟩
  | some s=>simp at h
 ·cases h
theorem Ej {b o k:Nat} {cs:List Value} {c:Array Value} {E:TypeId} {fz:Nat × Nat} (hb:W.heap[b]?=some (.cells c E fz)) (h:W.cells? 0 ⟨b,o,none⟩ k=some cs):ba c o k=cs:=by
 unfold World.cells? at h
 rw [if_pos (Nat.zero_le _)] at h
 have hl:cs.length=k:=by simpa using mapM_some_length h
 apply List.ext_getElem?
 intro i
 rw [ba,List.getElem?_take]
 by_cases hi:i<k
 ·rw [if_pos hi,List.getElem?_drop]
  have:=mapM_some_get h i i (by simp [hi])
  rw [<- this,mH]
  simp [World.cell?,hb]
 ·rw [if_neg hi,List.getElem?_eq_none (by omega)]
theorem sL {α:Type} (p:Nat->α->Prop):∀ n:Nat,(∀ i,i<n->∃ t,p i t)->∃ xs:List α,xs.length=n/\∀ i (h:i<xs.length),p i xs[i]
 | 0,_=>⟨[],rfl,fun i h=>by simp at h⟩
 | n+1,h=>by
  obtain ⟨xs,hl,hx⟩:=sL p n fun i hi=>h i (by omega)
  obtain ⟨t,ht⟩:=h n (by omega)
  refine ⟨xs++[t],by simp [hl],fun i hi=>?_⟩
  by_cases e:i<xs.length
  ·rw [List.getElem_append_left e]
   exact hx i e
  ·have:i=xs.length:=by simp at hi; omega
   subst this
   simp only [List.getElem_append_right (Nat.le_refl _),Nat.sub_self,List.getElem_cons_zero]
   rw [hl]
   exact ht
theorem sw {T e:TypeId} {k:Nat} (h:cG P T=some (e,k)):P.underlying T=some (.slice e)/\P.cellsOf e=k:=by
 unfold cG at h
 split at h
 ·rename_i e' he
  rw [Option.map_eq_some_iff] at h
  obtain ⟨i,hi,hx⟩:=h
  simp only [Prod.mk.injEq] at hx
  obtain ⟨rfl,rfl⟩:=hx
  exact ⟨he,by simp [Program.cellsOf,hi]⟩
 ·cases h
theorem ul {α:Type} {R:List Value->α->Prop} {T e:TypeId} {k fuel:Nat} {v:Value} {x:DataW H × List MemPlace} (hu:cG P T=some (e,k)) (hk0:0<k)
  (h:DataW.trod enc P W 0 sp held fuel T [v]=some x) (hel:∀ n cs y,fuel=n+1->DataW.trod enc P W 0 sp held n e cs=some y->∃ t:α,R cs t):∃ xs,RdSl (lg W) k R v xs:=by
 obtain ⟨hu1,hk⟩:=sw hu
 rcases DataW.trod_slice hu1 h with ⟨hcs,_⟩|⟨a,len,cap,elems,rest,n,hf,hcs,_,_,hl,hc,hlen,hE,_⟩
 ·simp only [List.cons.injEq,and_true] at hcs
  subst hcs
  exact ⟨[],none,0,rfl,Nat.le_refl _,Nat.zero_le _,.inl rfl⟩
 ·simp only [List.cons.injEq,and_true] at hcs
  subst hcs
  have hE':∀ i,i<len->∃ t:α,∃ cs,W.cells? 0 (a.add (i * k)) k=some cs/\R cs t:=by
   intro i hi
   have:=hE i hi
   rw [hk,List.getElem?_eq_getElem (by omega),Option.bind_eq_some_iff] at this
   obtain ⟨cs,h1,h2⟩:=this
   obtain ⟨t,ht⟩:=hel n cs _ hf h2
   exact ⟨t,cs,h1,ht⟩
  obtain ⟨xs,hxl,hxs⟩:=sL _ len hE'
  subst hxl
  refine ⟨xs,some a,cap,rfl,hl,hc,?_⟩
  by_cases h0:xs.length=0
  ·exact .inl (List.eq_nil_of_length_eq_zero h0)
  ·obtain ⟨cs0,h1,_⟩:=hxs 0 (by omega)
   have e0:a.add (0 * k)=a:=by rw [Nat.zero_mul]; simp [Addr.add]
   rw [e0] at h1
   have hc0:∃ u,W.cell? a=some u:=by
    unfold World.cells? at h1
    rw [if_pos (Nat.zero_le _)] at h1
    have hl0:cs0.length=k:=by simpa using mapM_some_length h1
    have:=mapM_some_get h1 0 0 (by simp [hk0])
    rw [List.getElem?_eq_getElem (by omega)] at this
    have e1:a.add 0=a:=by simp [Addr.add]
    rw [e1] at this
    exact ⟨_,this⟩
   obtain ⟨u,hu0⟩:=hc0
   obtain ⟨b,o,c,E,fz,rfl,hb,_⟩:=CI hu0
   refine .inr ⟨b,o,c,E,fz,rfl,hb,fun i hi=>?_⟩
   obtain ⟨cs,h2,hR⟩:=hxs i hi
   rw [mH] at h2
   rw [Ej hb h2]
   exact hR
end

section
variable {H:Type} {enc:TypeId × Value->H} {W:World} {sp:Nat->Bool} {held:Bool}
theorem Gc {cs:List Value} (h:cs.length=4):∃ a b c d,cs=[a,b,c,d]:=by
 match cs,h with
 | [a,b,c,d],_=>exact ⟨a,b,c,d,rfl⟩
theorem F9 {cs:List Value} (h:cs.length=5):∃ a b c d e,cs=[a,b,c,d,e]:=by
 match cs,h with
 | [a,b,c,d,e],_=>exact ⟨a,b,c,d,e,rfl⟩
theorem ry:∀ (fuel:Nat) (cs:List Value) (x:DataW H × List MemPlace),DataW.trod enc Tryz.prog W 0 sp held fuel EV cs=some x->∃ t,RdT (lg W) cs t:=by
 intro fuel
 induction fuel using Nat.strongRecOn with
 | _ fuel ih=>
  intro cs x h
  obtain ⟨n,hn,hl,hf⟩:=rr DS h
  rw [vf] at hl
  obtain ⟨c0,c1,c2,c3,rfl⟩:=Gc hl
  obtain ⟨y0,h0⟩:=hf 0 _ _ rfl
  obtain ⟨y1,h1⟩:=hf 1 _ _ rfl
  obtain ⟨y2,h2⟩:=hf 2 _ _ rfl
  obtain ⟨y3,h3⟩:=hf 3 _ _ rfl
  rw [Dq] at h0 h1
  rw [CM] at h2
  rw [ya] at h3
  obtain ⟨k,rfl,hk⟩:=vq fD h0
  obtain ⟨m,rfl,hm⟩:=vq fD h1
  obtain ⟨s,rfl,hs⟩:=DT dX h2
  obtain ⟨ks,hks⟩:=ul (R:=RdT (lg W)) fM (by omega) h3 fun n' cs' y hn' hy=>ih n' (by omega) cs' y hy
  exact ⟨.mk k m s ks,RdT.iff.2 ⟨c3,rfl,hk,hm,hs,hks⟩⟩
theorem Bi {fuel:Nat} {v:Value} {x:DataW H × List MemPlace} (h:DataW.trod enc Tryz.prog W 0 sp held fuel D3 [v]=some x):∃ ts,RdSl (lg W) 4 (RdT (lg W)) v ts:=
 ul fM (by omega) h fun n' cs' y _ hy=>ry n' cs' y hy
theorem z1 {fuel:Nat} {cs:List Value} {x:DataW H × List MemPlace} (h:DataW.trod enc Tryz.prog W 0 sp held fuel CU cs=some x):∃ c,RdC (lg W) cs c:=by
 obtain ⟨n,hn,hl,hf⟩:=rr BU h
 rw [BE] at hl
 obtain ⟨y0,h0⟩:=hf 0 _ _ rfl
 obtain ⟨y1,h1⟩:=hf 1 _ _ rfl
 rw [vf] at h0
 rw [ya] at h1
 obtain ⟨a,b,c,d,e,rfl⟩:=F9 hl
 obtain ⟨t,ht⟩:=ry _ [a,b,c,d] _ h0
 obtain ⟨ks,hks⟩:=Bi (v:=e) h1
 exact ⟨⟨t,ks⟩,[a,b,c,d],e,rfl,ht,hks⟩
theorem zu {fuel:Nat} {v:Value} {x:DataW H × List MemPlace} (h:DataW.trod enc Tryz.prog W 0 sp held fuel BR [v]=some x):∃ p,RdSl (lg W) 5 (RdC (lg W)) v p:=
 ul ef (by omega) h fun _ _ _ _ hy=>z1 hy
end

theorem Inv.entry (W:World):Inv W [] [] (lg W) W:=Inv.start (L:=[]) (by simp) (by simp [bv]) fun b o hb=>⟨hb,by simp [bv]⟩
theorem Inv.same {W W':World} {L:List Item} {S:ar} (h:Inv W [] L S W') (b:Nat) (hb:b<W.heap.size):W'.heap[b]?=W.heap[b]?:=h.old b hb (by simp)
theorem CZ {W W':World} {may:MemPlace->Prop} (ho:W'.os=W.os) (hp:W'.output=W.output) (h:∀ b,b<W.heap.size->W'.heap[b]?=W.heap[b]?):W.keptBut W' may:=by
 refine ⟨ho,hp,fun i hi=>?_⟩
 rw [h i hi]
 split
 ·rename_i e1 e2
  rw [e1] at e2
  simp only [Option.some.injEq,Obj.cells.injEq] at e2
  obtain ⟨rfl,rfl,rfl⟩:=e2
  exact ⟨rfl,rfl,rfl,fun _ _=>rfl⟩
 ·rename_i e1 e2
  rw [e1] at e2
  simp only [Option.some.injEq,Obj.map.injEq] at e2
  obtain ⟨rfl,rfl⟩:=e2
  exact .inr ⟨rfl,rfl⟩
 ·rfl

end Go.Proofs.YtfcbhfjomgopbaaGreat

/- The sizes: laws.szTerm and its kin. -/
namespace Go.Proofs.YtfcbhfjomgopbaaGreat
open Go Go.RowKit
attribute [local irreducible] Run CondV ak bg

mutual
def szT:T->Int->Int
 | .mk _ _ s ks,left=>if left - s.size<0 then -1 else if left - s.size - ks.length<0 then -1 else szL ks (left - s.size - ks.length)
def szL:List T->Int->Int
 | [],left=>left
 | t::ts,left=>if szT t left<0 then -1 else szL ts (szT t left)
end
def pd (ts:List T) (left:Int):Int:=if left - ts.length<0 then -1 else szL ts (left - ts.length)

mutual
theorem lO:∀ (t:T) (left:Int),0<=left->-1<=szT t left/\szT t left<=left
 | .mk k n s ks,left,h=>by
  simp only [szT]
  split
  ·omega
  ·split
   ·omega
   ·have:=ze ks (left - s.size - ks.length) (by omega)
    omega
theorem ze:∀ (ts:List T) (left:Int),0<=left->-1<=szL ts left/\szL ts left<=left
 | [],left,h=>by simp only [szL]; omega
 | t::ts,left,h=>by
  simp only [szL]
  have h1:=lO t left h
  split
  ·omega
  ·have h2:=ze ts (szT t left) (by omega)
   omega
end

theorem vS {ts:List T} (ih:∀ t∈ts,∀ (S:ar) (cs:List Value) (left:Int),RdT S cs t->0<=left->left<=4611686018427387904->Pure Tryz.prog vG [.agg cs.toArray,.int .i64 left] S (.int .i64 (szT t left)))
  {S:ar} {v:Value} {left:Int} (h:RdSl S 4 (RdT S) v ts) (h0:0<=left) (h1:left<=4611686018427387904):Pure Tryz.prog sj [v,.int .i64 left] S (.int .i64 (pd ts left)):=by
 intro w hI
 have hlen:(ts.length:Int)<=9223372036854775807:=by have:=h.le; simp only [maxLen] at this; omega
 refine te ?_
 unfold pG
 refine a5 h fM ?_
 refine jA (by omega) ?_
 refine bz ?_
 refine bf (fun hlt=>?_) (fun hlt=>?_)
 ·exact done hI (by rw [pd,if_pos hlt])
 refine ⟨fun i l w'=>∃ (k:Nat) (l':Int),k<=ts.length/\i=.int .i64 k/\l=.int .i64 l'/\0<=l'/\l'<=left/\szL (ts.drop k) l'=szL ts (left - ts.length)/\Inv w [] [] S w',
  fun i _ _=>ts.length - (intOf i).toNat,⟨0,_,Nat.zero_le _,rfl,rfl,by omega,by omega,rfl,hI⟩,?_⟩
 intro t5 _ _ _ _ _ t1 _ _ _ _ _ _ _ _ _ _ w'
 rintro ⟨k,l',hk,rfl,rfl,hl0,hl1,hrel,hI⟩
 refine a5 h fM ?_
 refine bz ?_
 refine bf (fun hki=>?_) (fun hki=>?_)
 ·have hk':k<ts.length:=by omega
  refine cj hI h fM km hk' (fun _ _=>RdT.length) fun cs hcs=>?_
  have hb:=lO ts[k] l' hl0
  refine Run.callPure mn mw hI (ih _ (List.getElem_mem _) S cs l' hcs hl0 (by omega)) fun w' hI=>?_
  have hstep:szL (ts.drop k) l'=if szT ts[k] l'<0 then -1 else szL (ts.drop (k+1)) (szT ts[k] l'):=by
   rw [List.drop_eq_getElem_cons hk',szL]
  refine bz ?_
  refine bf (fun hneg=>?_) (fun hneg=>?_)
  ·exact done hI (by rw [pd,if_neg hlt,<- hrel,hstep,if_pos hneg])
  ·refine b0 (by omega) ?_
   refine ⟨⟨k+1,_,hk',rfl,rfl,by omega,by omega,?_,hI⟩,by simp [intOf]; omega⟩
   rw [<- hrel,hstep,if_neg hneg]
 ·have:k=ts.length:=by omega
  subst this
  exact done hI (by rw [pd,if_neg hlt,<- hrel,List.drop_length,szL])

theorem kI:∀ (t:T) (S:ar) (cs:List Value) (left:Int),RdT S cs t->0<=left->left<=4611686018427387904->
  Pure Tryz.prog vG [.agg cs.toArray,.int .i64 left] S (.int .i64 (szT t left)):=by
 refine T.ind fun k n s ks ih S cs left h h0 h1=>?_
 intro w hI
 obtain ⟨kv,rfl,_,_,hs,hks⟩:=RdT.iff.1 h
 simp only [T.name,T.kids,T.kind,T.n] at hs hks ⊢
 simp only [maxLen] at hs
 have hlen:(ks.length:Int)<=9223372036854775807:=by have:=hks.le; simp only [maxLen] at this; omega
 refine wb ?_
 unfold sy
 refine bt hI fun b w' hI=>?_
 refine ah hI 0 rfl uO bk rfl ?_
 refine ki dX ?_
 refine jA (by omega) ?_
 refine bz ?_
 refine bf (fun hlt=>?_) (fun hlt=>?_)
 ·exact done hI (by rw [szT,if_pos hlt])
 refine ah hI 0 rfl uP mI rfl ?_
 refine Run.callPure pI oM hI (vS ih hks (by omega) (by omega)) fun w' hI=>?_
 refine bz ?_
 refine bf (fun hneg=>?_) (fun hneg=>?_)
 ·refine done hI ?_
  rw [szT,if_neg hlt]
  unfold pd at hneg
  split
  ·rfl
  ·rename_i h3
   rw [if_neg h3] at hneg
   have:=ze ks (left - s.size - ks.length) (by omega)
   congr 1; omega
 ·refine done hI ?_
  rw [szT,if_neg hlt]
  rfl
theorem xN {ts:List T} {S:ar} {v:Value} {left:Int} (h:RdSl S 4 (RdT S) v ts) (h0:0<=left) (h1:left<=4611686018427387904) :
  Pure Tryz.prog sj [v,.int .i64 left] S (.int .i64 (pd ts left)):=vS (fun t _=>kI t) h h0 h1

end Go.Proofs.YtfcbhfjomgopbaaGreat

/- Equality of terms and clauses as the laws ask it. -/
namespace Go.Proofs.YtfcbhfjomgopbaaGreat
open Go Go.RowKit
attribute [local irreducible] Run CondV ak bg

mutual
def eqT:T->T->Bool
 | .mk k n s ks,.mk k' n' s' ks'=>decide (k=k') && (decide (n=n') && (decide (s=s') && eqL ks ks'))
def eqL:List T->List T->Bool
 | [],[]=>true
 | t::ts,u::us=>eqT t u && eqL ts us
 | _,_=>false
end
mutual
theorem zl:∀ a b:T,eqT a b=true↔a=b
 | .mk k n s ks,.mk k' n' s' ks'=>by
  simp only [eqT,Bool.and_eq_true,decide_eq_true_eq,uj ks ks',T.mk.injEq]
theorem uj:∀ a b:List T,eqL a b=true↔a=b
 | [],[]=>by simp [eqL]
 | [],_::_=>by simp [eqL]
 | _::_,[]=>by simp [eqL]
 | t::ts,u::us=>by
  simp only [eqL,Bool.and_eq_true,zl t u,uj ts us,List.cons.injEq]
end
theorem y6:∀ {a b:List T},a.length≠b.length->eqL a b=false:=by
 intro a b h
 rw [<- Bool.not_eq_true,uj]
 rintro rfl
 exact h rfl
def eqC (a b:C):Bool:=eqT a.head b.head && eqL a.body b.body
theorem ET (a b:C):eqC a b=true↔a=b:=by
 cases a; cases b
 simp only [eqC,Bool.and_eq_true,zl,uj,C.mk.injEq]
def eqP:List C->List C->Bool
 | [],[]=>true
 | t::ts,u::us=>eqC t u && eqP ts us
 | _,_=>false
theorem zn:∀ a b:List C,eqP a b=true↔a=b
 | [],[]=>by simp [eqP]
 | [],_::_=>by simp [eqP]
 | _::_,[]=>by simp [eqP]
 | t::ts,u::us=>by simp only [eqP,Bool.and_eq_true,ET,zn ts us,List.cons.injEq]
theorem EY:∀ {a b:List C},a.length≠b.length->eqP a b=false:=by
 intro a b h
 rw [<- Bool.not_eq_true,zn]
 rintro rfl
 exact h rfl

theorem D5 {a b c d e:Value}:∀ (j:Nat) (v:Value),([a,b,c,d]:List Value)[j]?=some v->(#[a,b,c,d,e]:Array Value)[0+j]?=some v
 | 0,_,h|1,_,h|2,_,h|3,_,h=>h
 | j+4,_,h=>by simp at h

theorem vO {xs:List T} (ih:∀ t∈xs,∀ (u:T) (S:ar) (cs ds:List Value),RdT S cs t->RdT S ds u->Pure Tryz.prog ur [.agg cs.toArray,.agg ds.toArray] S (.bool (eqT t u)))
  {ys:List T} {S:ar} {v u:Value} (h:RdSl S 4 (RdT S) v xs) (h':RdSl S 4 (RdT S) u ys):Pure Tryz.prog sr [v,u] S (.bool (eqL xs ys)):=by
 intro w hI
 have hlen:(xs.length:Int)<=9223372036854775807:=by have:=h.le; simp only [maxLen] at this; omega
 refine tI ?_
 unfold qg
 refine a5 h aC ?_
 refine a5 h' aC ?_
 refine bQ ?_
 refine bd (fun hne=>?_) (fun he=>?_)
 ·exact done hI (by rw [y6 (by simp at hne; omega)])
 have he:xs.length=ys.length:=by simp at he; omega
 refine ⟨fun i w'=>∃ (k:Nat),k<=xs.length/\i=.int .i64 k/\eqL (xs.drop k) (ys.drop k)=eqL xs ys/\Inv w [] [] S w',fun i _=>xs.length - (intOf i).toNat,⟨0,Nat.zero_le _,rfl,rfl,hI⟩,?_⟩
 intro t5 _ _ _ _ _ _ _ _ _ _ _ _ _ _ _ _ _ w'
 rintro ⟨k,hk,rfl,hrel,hI⟩
 refine a5 h aC ?_
 refine bz ?_
 refine bf (fun hki=>?_) (fun hki=>?_)
 ·have hk1:k<xs.length:=by omega
  have hk2:k<ys.length:=by omega
  obtain ⟨b1,o1,cap1,c1,E1,fz1,rfl,hS1,hR1⟩:=h.at_ hk1
  obtain ⟨b2,o2,cap2,c2,E2,fz2,rfl,hS2,hR2⟩:=h'.at_ hk2
  have hstep:eqL (xs.drop k) (ys.drop k)=(eqT xs[k] ys[k] && eqL (xs.drop (k+1)) (ys.drop (k+1))):=by
   rw [List.drop_eq_getElem_cons hk1,List.drop_eq_getElem_cons hk2,eqL]
  refine ⟨fun D fm fl dM ev dS dQ dY dD dG dK w_=>(D 0=true->dK=.slice (some ⟨b1,o1,none⟩) xs.length cap1)/\(D 1=true->dG=.int .i64 k)/\(D 2=true->dD=.pointer (some ⟨b1,o1+k * 4,none⟩))/\(D 3=true->dY=.agg (ba c1 (o1+k * 4) 4).toArray)/\(D 4=true->dQ=.slice (some ⟨b2,o2,none⟩) ys.length cap2)/\(D 5=true->dS=.int .i64 k)/\(D 6=true->ev=.pointer (some ⟨b2,o2+k * 4,none⟩))/\(D 7=true->dM=.agg (ba c2 (o2+k * 4) 4).toArray)/\(D 8=true->fl=.bool (eqT xs[k] ys[k]))/\(D 9=true->fm=.bool (!eqT xs[k] ys[k]))/\Inv w [] [] S w_,⟨ae,ae,ae,ae,ae,ae,ae,ae,ae,ae,hI.draw⟩,⟨?_,?_,?_,?_,?_,?_,?_,?_,?_,?_,trivial⟩,?_⟩
  ·intro D aY  fm fl dM ev dS dQ dY dD dG dK w_
   rintro ⟨av,aw,ao,au,az,aq,aA,aE,aH,aL,hI⟩
   exact ⟨fun _=>rfl,aw,ao,au,az,aq,aA,aE,aH,aL,hI⟩
  ·intro D aY  fm fl dM ev dS dQ dY dD dG dK w_
   rintro ⟨av,aw,ao,au,az,aq,aA,aE,aH,aL,hI⟩
   exact ⟨av,fun _=>rfl,ao,au,az,aq,aA,aE,aH,aL,hI⟩
  ·intro D aY cB q4 fm fl dM ev dS dQ dY dD dG dK w_
   rintro ⟨av,aw,ao,au,az,aq,aA,aE,aH,aL,hI⟩
   obtain rfl:=av cB
   obtain rfl:=aw q4
   refine aT aC hk1 ?_
   exact ⟨av,aw,fun _=>rfl,au,az,aq,aA,aE,aH,aL,hI⟩
  ·intro D aY cc fm fl dM ev dS dQ dY dD dG dK w_
   rintro ⟨av,aw,ao,au,az,aq,aA,aE,aH,aL,hI⟩
   obtain rfl:=ao cc
   refine bw al hR1.length (fun j v hj=>by rw [hI.cellS hS1]; exact aS rfl j v hj) ?_
   exact ⟨av,aw,ao,fun _=>rfl,az,aq,aA,aE,aH,aL,hI⟩
  ·intro D aY  fm fl dM ev dS dQ dY dD dG dK w_
   rintro ⟨av,aw,ao,au,az,aq,aA,aE,aH,aL,hI⟩
   exact ⟨av,aw,ao,au,fun _=>rfl,aq,aA,aE,aH,aL,hI⟩
  ·intro D aY  fm fl dM ev dS dQ dY dD dG dK w_
   rintro ⟨av,aw,ao,au,az,aq,aA,aE,aH,aL,hI⟩
   exact ⟨av,aw,ao,au,az,fun _=>rfl,aA,aE,aH,aL,hI⟩
  ·intro D aY cZ cm fm fl dM ev dS dQ dY dD dG dK w_
   rintro ⟨av,aw,ao,au,az,aq,aA,aE,aH,aL,hI⟩
   obtain rfl:=az cZ
   obtain rfl:=aq cm
   refine aT aC hk2 ?_
   exact ⟨av,aw,ao,au,az,aq,fun _=>rfl,aE,aH,aL,hI⟩
  ·intro D aY ci fm fl dM ev dS dQ dY dD dG dK w_
   rintro ⟨av,aw,ao,au,az,aq,aA,aE,aH,aL,hI⟩
   obtain rfl:=aA ci
   refine bw al hR2.length (fun j v hj=>by rw [hI.cellS hS2]; exact aS rfl j v hj) ?_
   exact ⟨av,aw,ao,au,az,aq,aA,fun _=>rfl,aH,aL,hI⟩
  ·intro D aY dq gY fm fl dM ev dS dQ dY dD dG dK w_
   rintro ⟨av,aw,ao,au,az,aq,aA,aE,aH,aL,hI⟩
   obtain rfl:=au dq
   obtain rfl:=aE gY
   refine Run.callPure mp lY hI (ih _ (List.getElem_mem hk1) _ S _ _ hR1 hR2) fun w_ hI=>?_
   exact ⟨av,aw,ao,au,az,aq,aA,aE,fun _=>rfl,aL,hI⟩
  ·intro D aY dN fm fl dM ev dS dQ dY dD dG dK w_
   rintro ⟨av,aw,ao,au,az,aq,aA,aE,aH,aL,hI⟩
   obtain rfl:=aH dN
   refine bJ ?_
   exact ⟨av,aw,ao,au,az,aq,aA,aE,aH,fun _=>rfl,hI⟩
  intro D hY gh fB fk fi e9 fe eQ eZ e8 fm fl dM ev dS dQ dY dD dG dK w_
  rintro ⟨av,aw,ao,au,az,aq,aA,aE,aH,aL,hI⟩
  obtain rfl:=aL hY
  obtain rfl:=aH gh
  obtain rfl:=aE fB
  obtain rfl:=aA fk
  obtain rfl:=aq fi
  obtain rfl:=az e9
  obtain rfl:=au fe
  obtain rfl:=ao eQ
  obtain rfl:=aw eZ
  obtain rfl:=av e8
  clear av aw ao au az aq aA aE aH aL
  refine bd (fun hne=>?_) (fun he'=>?_)
  ·exact done hI (by rw [<- hrel,hstep]; simp at hne; rw [hne]; rfl)
  ·refine b0 (by omega) ?_
   refine ⟨⟨k+1,hk1,rfl,?_,hI⟩,by simp [intOf]; omega⟩
   rw [<- hrel,hstep]
   simp at he'
   rw [he',Bool.true_and]
 ·have:k=xs.length:=by omega
  subst this
  refine done hI ?_
  rw [<- hrel,List.drop_length,he,List.drop_length]
  rfl
theorem kR:∀ (t u:T) (S:ar) (cs ds:List Value),RdT S cs t->RdT S ds u->Pure Tryz.prog ur [.agg cs.toArray,.agg ds.toArray] S (.bool (eqT t u)):=by
 refine T.ind fun k n s ks ih u S cs ds h h'=>?_
 intro w hI
 obtain ⟨kv,rfl,_,_,_,hks⟩:=RdT.iff.1 h
 obtain ⟨kv',rfl,_,_,_,hks'⟩:=RdT.iff.1 h'
 obtain ⟨k',n',s',ks'⟩:=u
 simp only [T.name,T.kids,T.kind,T.n] at hks hks' ⊢
 refine uW ?_
 unfold r2
 refine bt hI fun b1 w' hI=>?_
 refine bt hI fun b2 w' hI=>?_
 refine ah hI 0 rfl aU aR rfl ?_
 refine ah hI 1 rfl aU aR rfl ?_
 refine bQ ?_
 refine bd (fun hne=>done hI ?_) (fun e1=>?_)
 ·simp at hne; simp [eqT,hne]
 refine ah hI 0 rfl a9 aR rfl ?_
 refine ah hI 1 rfl a9 aR rfl ?_
 refine bQ ?_
 refine bd (fun hne=>done hI ?_) (fun e2=>?_)
 ·simp at hne; simp [eqT,hne]
 refine ah hI 0 rfl bi bk rfl ?_
 refine ah hI 1 rfl bi bk rfl ?_
 refine qM ?_
 refine bd (fun hne=>done hI ?_) (fun e3=>?_)
 ·simp at hne; simp [eqT,hne]
 refine ah hI 0 rfl aP aO rfl ?_
 refine ah hI 1 rfl aP aO rfl ?_
 refine Run.callPure qh pQ hI (vO ih hks hks') fun w' hI=>?_
 refine bJ ?_
 simp at e1 e2 e3
 refine bd (fun hne=>done hI ?_) (fun e4=>done hI ?_)
 ·simp at hne; simp [eqT,hne]
 ·simp at e4; simp [eqT,e1,e2,e3,e4]
theorem xn {xs ys:List T} {S:ar} {v u:Value} (h:RdSl S 4 (RdT S) v xs) (h':RdSl S 4 (RdT S) u ys):Pure Tryz.prog sr [v,u] S (.bool (eqL xs ys)):=
 vO (fun t _ u=>kR t u) h h'
theorem v6 {a b:C} {S:ar} {cs ds:List Value} (h:RdC S cs a) (h':RdC S ds b):Pure Tryz.prog yS [.agg cs.toArray,.agg ds.toArray] S (.bool (eqC a b)):=by
 intro w hI
 obtain ⟨hd,ks,rfl,h1,h2⟩:=h
 obtain ⟨hd',ks',rfl,h1',h2'⟩:=h'
 obtain ⟨kv,rfl,_⟩:=RdT.iff.1 h1
 obtain ⟨kv',rfl,_⟩:=RdT.iff.1 h1'
 refine qY ?_
 unfold nl
 refine bt hI fun b1 w' hI=>?_
 refine bt hI fun b2 w' hI=>?_
 refine bb dr ?_
 refine bY hI 0 [_,_,_,_] al rfl rfl D5 ?_
 refine bb dr ?_
 refine bY hI 1 [_,_,_,_] al rfl rfl D5 ?_
 refine Run.callPure mp lY hI (kR _ _ S _ _ h1 h1') fun w' hI=>?_
 refine bJ ?_
 refine bd (fun hne=>done hI ?_) (fun e1=>?_)
 ·simp at hne; simp [eqC,hne]
 refine ah hI 0 rfl cn aO rfl ?_
 refine ah hI 1 rfl cn aO rfl ?_
 refine Run.callPure qh pQ hI (xn h2 h2') fun w' hI=>?_
 refine bJ ?_
 simp at e1
 refine bd (fun hne=>done hI ?_) (fun e4=>done hI ?_)
 ·simp at hne; simp [eqC,hne]
 ·simp at e4; simp [eqC,e1,e4]
theorem tp {xs ys:List C} {S:ar} {v u:Value} (h:RdSl S 5 (RdC S) v xs) (h':RdSl S 5 (RdC S) u ys):Pure Tryz.prog wu [v,u] S (.bool (eqP xs ys)):=by
 intro w hI
 have hlen:(xs.length:Int)<=9223372036854775807:=by have:=h.le; simp only [maxLen] at this; omega
 refine pJ ?_
 unfold lF
 refine a5 h bI ?_
 refine a5 h' bI ?_
 refine bQ ?_
 refine bd (fun hne=>?_) (fun he=>?_)
 ·exact done hI (by rw [EY (by simp at hne; omega)])
 have he:xs.length=ys.length:=by simp at he; omega
 refine ⟨fun i w'=>∃ (k:Nat),k<=xs.length/\i=.int .i64 k/\eqP (xs.drop k) (ys.drop k)=eqP xs ys/\Inv w [] [] S w',fun i _=>xs.length - (intOf i).toNat,⟨0,Nat.zero_le _,rfl,rfl,hI⟩,?_⟩
 intro t5 _ _ _ _ _ _ _ _ _ _ _ _ _ _ _ _ _ w'
 rintro ⟨k,hk,rfl,hrel,hI⟩
 refine a5 h bI ?_
 refine bz ?_
 refine bf (fun hki=>?_) (fun hki=>?_)
 ·have hk1:k<xs.length:=by omega
  have hk2:k<ys.length:=by omega
  obtain ⟨b1,o1,cap1,c1,E1,fz1,rfl,hS1,hR1⟩:=h.at_ hk1
  obtain ⟨b2,o2,cap2,c2,E2,fz2,rfl,hS2,hR2⟩:=h'.at_ hk2
  have hstep:eqP (xs.drop k) (ys.drop k)=(eqC xs[k] ys[k] && eqP (xs.drop (k+1)) (ys.drop (k+1))):=by
   rw [List.drop_eq_getElem_cons hk1,List.drop_eq_getElem_cons hk2,eqP]
  refine ⟨fun D fm fl dM ev dS dQ dY dD dG dK w_=>(D 0=true->dK=.slice (some ⟨b1,o1,none⟩) xs.length cap1)/\(D 1=true->dG=.int .i64 k)/\(D 2=true->dD=.pointer (some ⟨b1,o1+k * 5,none⟩))/\(D 3=true->dY=.agg (ba c1 (o1+k * 5) 5).toArray)/\(D 4=true->dQ=.slice (some ⟨b2,o2,none⟩) ys.length cap2)/\(D 5=true->dS=.int .i64 k)/\(D 6=true->ev=.pointer (some ⟨b2,o2+k * 5,none⟩))/\(D 7=true->dM=.agg (ba c2 (o2+k * 5) 5).toArray)/\(D 8=true->fl=.bool (eqC xs[k] ys[k]))/\(D 9=true->fm=.bool (!eqC xs[k] ys[k]))/\Inv w [] [] S w_,⟨ae,ae,ae,ae,ae,ae,ae,ae,ae,ae,hI.draw⟩,⟨?_,?_,?_,?_,?_,?_,?_,?_,?_,?_,trivial⟩,?_⟩
  ·intro D aY  fm fl dM ev dS dQ dY dD dG dK w_
   rintro ⟨av,aw,ao,au,az,aq,aA,aE,aH,aL,hI⟩
   exact ⟨fun _=>rfl,aw,ao,au,az,aq,aA,aE,aH,aL,hI⟩
  ·intro D aY  fm fl dM ev dS dQ dY dD dG dK w_
   rintro ⟨av,aw,ao,au,az,aq,aA,aE,aH,aL,hI⟩
   exact ⟨av,fun _=>rfl,ao,au,az,aq,aA,aE,aH,aL,hI⟩
  ·intro D aY cB q4 fm fl dM ev dS dQ dY dD dG dK w_
   rintro ⟨av,aw,ao,au,az,aq,aA,aE,aH,aL,hI⟩
   obtain rfl:=av cB
   obtain rfl:=aw q4
   refine aT bI hk1 ?_
   exact ⟨av,aw,fun _=>rfl,au,az,aq,aA,aE,aH,aL,hI⟩
  ·intro D aY cc fm fl dM ev dS dQ dY dD dG dK w_
   rintro ⟨av,aw,ao,au,az,aq,aA,aE,aH,aL,hI⟩
   obtain rfl:=ao cc
   refine bw dd hR1.length (fun j v hj=>by rw [hI.cellS hS1]; exact aS rfl j v hj) ?_
   exact ⟨av,aw,ao,fun _=>rfl,az,aq,aA,aE,aH,aL,hI⟩
  ·intro D aY  fm fl dM ev dS dQ dY dD dG dK w_
   rintro ⟨av,aw,ao,au,az,aq,aA,aE,aH,aL,hI⟩
   exact ⟨av,aw,ao,au,fun _=>rfl,aq,aA,aE,aH,aL,hI⟩
  ·intro D aY  fm fl dM ev dS dQ dY dD dG dK w_
   rintro ⟨av,aw,ao,au,az,aq,aA,aE,aH,aL,hI⟩
   exact ⟨av,aw,ao,au,az,fun _=>rfl,aA,aE,aH,aL,hI⟩
  ·intro D aY cZ cm fm fl dM ev dS dQ dY dD dG dK w_
   rintro ⟨av,aw,ao,au,az,aq,aA,aE,aH,aL,hI⟩
   obtain rfl:=az cZ
   obtain rfl:=aq cm
   refine aT bI hk2 ?_
   exact ⟨av,aw,ao,au,az,aq,fun _=>rfl,aE,aH,aL,hI⟩
  ·intro D aY ci fm fl dM ev dS dQ dY dD dG dK w_
   rintro ⟨av,aw,ao,au,az,aq,aA,aE,aH,aL,hI⟩
   obtain rfl:=aA ci
   refine bw dd hR2.length (fun j v hj=>by rw [hI.cellS hS2]; exact aS rfl j v hj) ?_
   exact ⟨av,aw,ao,au,az,aq,aA,fun _=>rfl,aH,aL,hI⟩
  ·intro D aY dq gY fm fl dM ev dS dQ dY dD dG dK w_
   rintro ⟨av,aw,ao,au,az,aq,aA,aE,aH,aL,hI⟩
   obtain rfl:=au dq
   obtain rfl:=aE gY
   refine Run.callPure wG xC hI (v6 hR1 hR2) fun w_ hI=>?_
   exact ⟨av,aw,ao,au,az,aq,aA,aE,fun _=>rfl,aL,hI⟩
  ·intro D aY dN fm fl dM ev dS dQ dY dD dG dK w_
   rintro ⟨av,aw,ao,au,az,aq,aA,aE,aH,aL,hI⟩
   obtain rfl:=aH dN
   refine bJ ?_
   exact ⟨av,aw,ao,au,az,aq,aA,aE,aH,fun _=>rfl,hI⟩
  intro D hY gh fB fk fi e9 fe eQ eZ e8 fm fl dM ev dS dQ dY dD dG dK w_
  rintro ⟨av,aw,ao,au,az,aq,aA,aE,aH,aL,hI⟩
  obtain rfl:=aL hY
  obtain rfl:=aH gh
  obtain rfl:=aE fB
  obtain rfl:=aA fk
  obtain rfl:=aq fi
  obtain rfl:=az e9
  obtain rfl:=au fe
  obtain rfl:=ao eQ
  obtain rfl:=aw eZ
  obtain rfl:=av e8
  clear av aw ao au az aq aA aE aH aL
  refine bd (fun hne=>?_) (fun he'=>?_)
  ·exact done hI (by rw [<- hrel,hstep]; simp at hne; rw [hne]; rfl)
  ·refine b0 (by omega) ?_
   refine ⟨⟨k+1,hk1,rfl,?_,hI⟩,by simp [intOf]; omega⟩
   rw [<- hrel,hstep]
   simp at he'
   rw [he',Bool.true_and]
 ·have:k=xs.length:=by omega
  subst this
  refine done hI ?_
  rw [<- hrel,List.drop_length,he,List.drop_length]
  rfl

end Go.Proofs.YtfcbhfjomgopbaaGreat

/- The sizes of clauses and of programs, and what they bound. -/
namespace Go.Proofs.YtfcbhfjomgopbaaGreat
open Go Go.RowKit
attribute [local irreducible] Run CondV ak bg

def szC (c:C) (left:Int):Int:=if szT c.head left<0 then -1 else if pd c.body (szT c.head left)<0 then -1 else pd c.body (szT c.head left)
def szP:List C->Int->Int
 | [],left=>left
 | c::cs,left=>if szC c left<0 then -1 else szP cs (szC c left)
def zY (p:List C) (left:Int):Int:=if left - p.length<0 then -1 else szP p (left - p.length)

mutual
theorem DQ:∀ (t:T) (left:Int),0<=left->0<=szT t left->szT t left+wT t<=left
 | .mk k n s ks,left,h,h2=>by
  simp only [szT] at h2 ⊢
  rw [wT]
  split at h2
  ·omega
  ·rename_i h3
   rw [if_neg h3]
   split at h2
   ·omega
   ·rename_i h4
    rw [if_neg h4]
    have:=DY ks _ (by omega) h2
    omega
theorem DY:∀ (ts:List T) (left:Int),0<=left->0<=szL ts left->szL ts left+wL ts<=left
 | [],left,h,h2=>by simp [szL,wL]
 | t::ts,left,h,h2=>by
  simp only [szL] at h2 ⊢
  rw [wL]
  split at h2
  ·omega
  ·rename_i h3
   rw [if_neg h3]
   have h4:=DQ t left h (by omega)
   have h5:=DY ts _ (by omega) h2
   omega
end
theorem EE (ts:List T) (left:Int) (h:0<=left):-1<=pd ts left/\pd ts left<=left:=by
 unfold pd
 split
 ·omega
 ·have:=ze ts (left - ts.length) (by omega)
  omega
theorem Ft {ts:List T} {left:Int} (h2:0<=pd ts left):pd ts left+(ts.length+wL ts)<=left:=by
 unfold pd at h2 ⊢
 split at h2
 ·omega
 ·rename_i h3
  rw [if_neg h3]
  have:=DY ts _ (by omega) h2
  omega
theorem Fq (c:C) (left:Int) (h:0<=left):-1<=szC c left/\szC c left<=left:=by
 unfold szC
 have h1:=lO c.head left h
 split
 ·omega
 ·have h2:=EE c.body (szT c.head left) (by omega)
  split <;> omega
theorem FY {c:C} {left:Int} (h:0<=left) (h2:0<=szC c left):szC c left+wC c<=left:=by
 unfold szC at h2 ⊢
 unfold wC
 have h1:=lO c.head left h
 split at h2
 ·omega
 ·rename_i h3
  rw [if_neg h3]
  split at h2
  ·omega
  ·rename_i h4
   rw [if_neg h4]
   have:=DQ c.head left h (by omega)
   have:=Ft (ts:=c.body) (left:=szT c.head left) h2
   omega
theorem Ff:∀ (p:List C) (left:Int),0<=left->0<=szP p left->szP p left+wP p<=left
 | [],left,h,h2=>by simp [szP,wP]
 | c::cs,left,h,h2=>by
  simp only [szP] at h2 ⊢
  rw [wP]
  split at h2
  ·omega
  ·rename_i h3
   rw [if_neg h3]
   have h4:=FY (c:=c) h (by omega)
   have h5:=Ff cs _ (by omega) h2
   omega
theorem Fs {p:List C} {left:Int} (h2:0<=zY p left):zY p left+(p.length+wP p)<=left:=by
 unfold zY at h2 ⊢
 split at h2
 ·omega
 ·rename_i h3
  rw [if_neg h3]
  have:=Ff p _ (by omega) h2
  omega

theorem uM {c:C} {S:ar} {cs:List Value} {left:Int} (h:RdC S cs c) (h0:0<=left) (h1:left<=4611686018427387904):Pure Tryz.prog zi [.agg cs.toArray,.int .i64 left] S (.int .i64 (szC c left)):=by
 intro w hI
 obtain ⟨hd,ks,rfl,g1,g2⟩:=h
 have g1':=g1
 obtain ⟨kv,rfl,_⟩:=RdT.iff.1 g1
 have hb:=lO c.head left h0
 refine rM ?_
 unfold nh
 refine bt hI fun b1 w' hI=>?_
 refine bb qG ?_
 refine bY hI 0 [.int .i64 c.head.kind,.int .i64 c.head.n,.string c.head.name,kv] km rfl rfl D5 ?_
 refine Run.callPure mn mw hI (kI _ S _ left g1' h0 h1) fun w' hI=>?_
 refine bz ?_
 refine bf (fun hlt=>done hI (by rw [szC,if_pos hlt])) (fun hlt=>?_)
 refine ah hI 0 rfl oV mI rfl ?_
 refine Run.callPure pI oM hI (xN g2 (by omega) (by omega)) fun w' hI=>?_
 refine bz ?_
 refine bf (fun hlt2=>done hI (by rw [szC,if_neg hlt,if_pos hlt2])) (fun hlt2=>done hI (by rw [szC,if_neg hlt,if_neg hlt2]))
theorem tQ {p:List C} {S:ar} {v:Value} {left:Int} (h:RdSl S 5 (RdC S) v p) (h0:0<=left) (h1:left<=4611686018427387904):Pure Tryz.prog wE [v,.int .i64 left] S (.int .i64 (zY p left)):=by
 intro w hI
 have hlen:(p.length:Int)<=9223372036854775807:=by have:=h.le; simp only [maxLen] at this; omega
 refine oX ?_
 unfold mf
 refine a5 h ef ?_
 refine jA (by omega) ?_
 refine bz ?_
 refine bf (fun hlt=>?_) (fun hlt=>?_)
 ·exact done hI (by rw [zY,if_pos hlt])
 refine ⟨fun i l w'=>∃ (k:Nat) (l':Int),k<=p.length/\i=.int .i64 k/\l=.int .i64 l'/\0<=l'/\l'<=left/\szP (p.drop k) l'=szP p (left - p.length)/\Inv w [] [] S w',
  fun i _ _=>p.length - (intOf i).toNat,⟨0,_,Nat.zero_le _,rfl,rfl,by omega,by omega,rfl,hI⟩,?_⟩
 intro t5 _ _ _ _ _ t1 _ _ _ _ _ _ _ _ _ _ w'
 rintro ⟨k,l',hk,rfl,rfl,hl0,hl1,hrel,hI⟩
 refine a5 h ef ?_
 refine bz ?_
 refine bf (fun hki=>?_) (fun hki=>?_)
 ·have hk':k<p.length:=by omega
  refine cj hI h ef wj hk' (fun _ _=>RdC.length) fun cs hcs=>?_
  have hb:=Fq p[k] l' hl0
  refine Run.callPure xx xe hI (uM hcs hl0 (by omega)) fun w' hI=>?_
  have hstep:szP (p.drop k) l'=if szC p[k] l'<0 then -1 else szP (p.drop (k+1)) (szC p[k] l'):=by
   rw [List.drop_eq_getElem_cons hk',szP]
  refine bz ?_
  refine bf (fun hneg=>?_) (fun hneg=>?_)
  ·exact done hI (by rw [zY,if_neg hlt,<- hrel,hstep,if_pos hneg])
  ·refine b0 (by omega) ?_
   refine ⟨⟨k+1,_,hk',rfl,rfl,by omega,by omega,?_,hI⟩,by simp [intOf]; omega⟩
   rw [<- hrel,hstep,if_neg hneg]
 ·have:k=p.length:=by omega
  subst this
  exact done hI (by rw [zY,if_neg hlt,<- hrel,List.drop_length,szP])

/- toClauseS, and what it made published -/
theorem Run.toClauseS {w w0:World} {X:List Nat} {L:List Item} {S:ar} {K:Value->World->Prop} {p:List C} {v:Value} (hI:Inv w0 X L S w) (h:RdSl S 5 (RdC S) v p) (hw:p.length+wP p<=1048576)
  (hk:∀ v' S' w',Sle S S'->RdSl S' 5 (RdC S') v' p->Inv w0 X L S' w'->K v' w'):Run Tryz.prog (aN (.func (.func nS) #[] #[]) [v]) w K:=by
 refine Run.call0 um vA hI (tf h hw) fun v' I' S' w'=>?_
 rintro ⟨rfl,M,rfl,hT⟩ _ hI
 obtain ⟨S2,hI,hle,hins,_⟩:=Inv.publishAll M hI
 exact hk _ _ _ hle (hT.rd hins fun _ _ _ hi h=>h.rd hi) hI
theorem Run.toClause {w w0:World} {X:List Nat} {L:List Item} {S:ar} {K:Value->World->Prop} {c:C} {cs:List Value} (hI:Inv w0 X L S w) (h:RdC S cs c) (hw:wC c<=1048576)
  (hk:∀ cs' S' w',Sle S S'->RdC S' cs' c->Inv w0 X L S' w'->K (.agg cs'.toArray) w'):Run Tryz.prog (aN (.func (.func pX) #[] #[]) [.agg cs.toArray]) w K:=by
 refine Run.call0 nj nR hI (lQ h hw) fun v' I' S' w'=>?_
 rintro ⟨rfl,cs',M,rfl,rfl,hT⟩ _ hI
 obtain ⟨S2,hI,hle,hins,_⟩:=Inv.publishAll M hI
 exact hk _ _ _ hle (hT.rd hins) hI
theorem Run.toTerm {w w0:World} {X:List Nat} {L:List Item} {S:ar} {K:Value->World->Prop} {t:T} {cs:List Value} (hI:Inv w0 X L S w) (h:RdT S cs t) (hw:wT t<=1048576)
  (hk:∀ cs' S' w',Sle S S'->RdT S' cs' t->Inv w0 X L S' w'->K (.agg cs'.toArray) w'):Run Tryz.prog (aN (.func (.func ol) #[] #[]) [.agg cs.toArray]) w K:=by
 refine Run.call0 iZ i4 hI (hZ _ S _ h hw) fun v' I' S' w'=>?_
 rintro ⟨rfl,cs',M,rfl,rfl,hT⟩ _ hI
 obtain ⟨S2,hI,hle,hins,_⟩:=Inv.publishAll M hI
 exact hk _ _ _ hle (hT.rd hins) hI
theorem Run.toTermS {w w0:World} {X:List Nat} {L:List Item} {S:ar} {K:Value->World->Prop} {p:List T} {v:Value} (hI:Inv w0 X L S w) (h:RdSl S 4 (RdT S) v p) (hw:p.length+wL p<=1048576)
  (hk:∀ v' S' w',Sle S S'->RdSl S' 4 (RdT S') v' p->Inv w0 X L S' w'->K v' w'):Run Tryz.prog (aN (.func (.func l1) #[] #[]) [v]) w K:=by
 refine Run.call0 kX kN hI (nO h hw) fun v' I' S' w'=>?_
 rintro ⟨rfl,M,rfl,hT⟩ _ hI
 obtain ⟨S2,hI,hle,hins,_⟩:=Inv.publishAll M hI
 exact hk _ _ _ hle (hT.rd hins fun _ _ _ hi h=>h.rd hi) hI

end Go.Proofs.YtfcbhfjomgopbaaGreat

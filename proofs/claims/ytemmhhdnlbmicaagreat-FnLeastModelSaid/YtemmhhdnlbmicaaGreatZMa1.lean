/- Goals, clauses, programs, queries: which are valid, on both sides. -/
import Derived.Test.YtemmhhdnlbmicaaGreatZMa0
import Derived.Test.YtemmhhdnlbmicaaGreatRows
import Derived.ProofKit
import Derived.ReadAgain
import Derived.Carry
import Derived.Test.YtemmhhdnlbmicaaGreatZMaS
import Derived.Test.YtemmhhdnlbmicaaGreatZMaF
import Derived.Test.YtemmhhdnlbmicaaGreatZMah1
import Derived.Laws.BytesArg
namespace Go.Proofs.YtemmhhdnlbmicaaGreat
open Go Go.RowKit
section
variable {P:Program} {w:World} {K:Value->World->Prop} {ty:TypeId}
theorem ab {b:Bool} {A B:Prop} (h:B):ag undef b A B:=by unfold ag; exact h
theorem ai {v u:Value} (hk:K v w):Run P (sOp (.pick (.const (.bool true)) (.const v) (.const u)) ty) w K:=sa hk
theorem ah {v u:Value} (hk:K u w):Run P (sOp (.pick (.const (.bool false)) (.const v) (.const u)) ty) w K:=sa hk
end
attribute [local irreducible] Run CondV ag be

def Ca:List ByteArray:=[⟨#[61]⟩,⟨#[92,61]⟩,⟨#[61,61]⟩,⟨#[60]⟩,⟨#[62]⟩,⟨#[61,60]⟩,⟨#[62,61]⟩,⟨#[61,58,61]⟩,⟨#[105,115]⟩]
def rD:List ByteArray:=[⟨#[116,114,117,101]⟩,⟨#[102,97,105,108]⟩]
def zG:List ByteArray:=[⟨#[118,97,114]⟩,⟨#[110,111,110,118,97,114]⟩,⟨#[97,116,111,109]⟩,⟨#[105,110,116]⟩]
def KE:List ByteArray:=[⟨#[43]⟩,⟨#[45]⟩]
def Ag:List ByteArray:=[⟨#[42]⟩,⟨#[47,47]⟩,⟨#[109,111,100]⟩]
def f2 (s:ByteArray) (l:List ByteArray):Bool:=l.any fun x=>decide (s=x)
def gK (s:ByteArray) (n:Int):Bool:=
 if f2 s Ca=true then decide (n=2)
 else if f2 s rD=true then decide (n=0)
 else if f2 s zG=true then decide (n=1)
 else if s=⟨#[97,114,103]⟩ then decide (n=3)
 else false
def dp (s:ByteArray):Int:=if f2 s Ca=true then 3 else if f2 s KE=true then 2 else if f2 s Ag=true then 1 else 0
def IG (t:T):Bool:=decide (t.kind=3) && (decide (t.name=⟨#[33]⟩) && decide (t.kids.length=0))
def Og (t:T):Bool:=decide (t.kind=3) && decide (t.kids.length=0)
def rS (t:T):Bool:=decide (t.kind=3) && gK t.name t.kids.length
def ef (t:T):Bool:=decide (t.kind=3) && (k0 t.name && (!gK t.name t.kids.length && decide (dp t.name=0)))
def ir (t:T):Bool:=eA t && (IG t || (ef t || rS t))
def dJ (c:C):Bool:=decide (c.body.length<=6) && (c.body.all ir && (eA c.head && ef c.head))
def EG (l:List T):Bool:=decide (l.length<=6) && l.all ir
def nq (p:List C):Bool:=decide (p.length<=20) && p.all dJ
theorem LT (s:ByteArray):(!decide (0<dp s))=decide (dp s=0):=by
 unfold dp
 split
 ·rfl
 ·split
  ·rfl
  ·split <;> rfl

theorem mJ (s:ByteArray) (n:Int) (S:aF):Pure Tryz.prog CL [.string s,.int .i64 n] S (.bool (gK s n)):=by
 intro w hI
 refine tk ?_
 unfold pd
 obtain ⟨q,hq⟩:∃ q,f2 s Ca=q:=⟨_,rfl⟩
 have hq1:=hq
 refine ⟨fun t w'=>t=.bool q/\Inv w [] [] S w',?_,?_⟩
 ·unfold f2 Ca at hq
  iterate 8
   refine cV ?_
   refine ba (fun h=>⟨by rw [List.any_cons,h] at hq; rw [h,<- hq]; rfl,hI⟩) (fun h=>?_)
   rw [List.any_cons,h,Bool.false_or] at hq
  refine cV ⟨?_,hI⟩
  rw [<- hq]; simp
 intro t _ _ _ _ _ _ _ _ _ w'
 rintro ⟨rfl,hI⟩
 refine ba (fun h=>?_) (fun h=>?_)
 ·exact bR (done hI (by rw [gK,if_pos (hq1.trans h)]))
 have e1:gK s n=if f2 s rD=true then decide (n=0) else if f2 s zG=true then decide (n=1) else if s=⟨#[97,114,103]⟩ then decide (n=3) else false:=by
  rw [gK,if_neg (by rw [hq1,h]; decide)]
 clear hq hq1 h
 obtain ⟨q,hq⟩:∃ q,f2 s rD=q:=⟨_,rfl⟩
 have hq1:=hq
 refine ⟨fun t w'=>t=.bool q/\Inv w [] [] S w',?_,?_⟩
 ·unfold f2 rD at hq
  refine cV ?_
  refine ba (fun h=>⟨by rw [List.any_cons,h] at hq; rw [h,<- hq]; rfl,hI⟩) (fun h=>?_)
  rw [List.any_cons,h,Bool.false_or] at hq
  refine cV ⟨?_,hI⟩
  rw [<- hq]; simp
 intro _ t _ w'
 rintro ⟨rfl,hI⟩
 refine ba (fun h=>?_) (fun h=>?_)
 ·exact bR (done hI (by rw [e1,if_pos (hq1.trans h)]))
 rw [if_neg (by rw [hq1,h]; decide)] at e1
 clear hq hq1 h
 obtain ⟨q,hq⟩:∃ q,f2 s zG=q:=⟨_,rfl⟩
 have hq1:=hq
 refine ⟨fun t w'=>t=.bool q/\Inv w [] [] S w',?_,?_⟩
 ·unfold f2 zG at hq
  iterate 3
   refine cV ?_
   refine ba (fun h=>⟨by rw [List.any_cons,h] at hq; rw [h,<- hq]; rfl,hI⟩) (fun h=>?_)
   rw [List.any_cons,h,Bool.false_or] at hq
  refine cV ⟨?_,hI⟩
  rw [<- hq]; simp
 intro _ _ _ t _ w'
 rintro ⟨rfl,hI⟩
 refine ba (fun h=>?_) (fun h=>?_)
 ·exact bR (done hI (by rw [e1,if_pos (hq1.trans h)]))
 rw [if_neg (by rw [hq1,h]; decide)] at e1
 refine cV ?_
 refine bk (fun h=>?_) (fun h=>?_)
 ·exact bR (done hI (by rw [e1,if_pos h]))
 ·exact done hI (by rw [e1,if_neg h])
theorem vx (s:ByteArray) (n:Int) (S:aF):Pure Tryz.prog Ck [.string s,.int .i64 n] S (.bool (gK s n)):=by
 intro w hI
 refine uX ?_
 unfold po
 obtain ⟨q,hq⟩:∃ q,f2 s Ca=q:=⟨_,rfl⟩
 have hq1:=hq
 refine ⟨fun t w'=>t=.bool q/\Inv w [] [] S w',?_,?_⟩
 ·unfold f2 Ca at hq
  iterate 8
   refine cV ?_
   refine ba (fun h=>⟨by rw [List.any_cons,h] at hq; rw [h,<- hq]; rfl,hI⟩) (fun h=>?_)
   rw [List.any_cons,h,Bool.false_or] at hq
  refine cV ⟨?_,hI⟩
  rw [<- hq]; simp
 intro t _ _ _ _ _ _ _ _ _ w'
 rintro ⟨rfl,hI⟩
 refine ba (fun h=>?_) (fun h=>?_)
 ·exact bR (done hI (by rw [gK,if_pos (hq1.trans h)]))
 have e1:gK s n=if f2 s rD=true then decide (n=0) else if f2 s zG=true then decide (n=1) else if s=⟨#[97,114,103]⟩ then decide (n=3) else false:=by
  rw [gK,if_neg (by rw [hq1,h]; decide)]
 clear hq hq1 h
 obtain ⟨q,hq⟩:∃ q,f2 s rD=q:=⟨_,rfl⟩
 have hq1:=hq
 refine ⟨fun t w'=>t=.bool q/\Inv w [] [] S w',?_,?_⟩
 ·unfold f2 rD at hq
  refine cV ?_
  refine ba (fun h=>⟨by rw [List.any_cons,h] at hq; rw [h,<- hq]; rfl,hI⟩) (fun h=>?_)
  rw [List.any_cons,h,Bool.false_or] at hq
  refine cV ⟨?_,hI⟩
  rw [<- hq]; simp
 intro _ t _ w'
 rintro ⟨rfl,hI⟩
 refine ba (fun h=>?_) (fun h=>?_)
 ·exact bR (done hI (by rw [e1,if_pos (hq1.trans h)]))
 rw [if_neg (by rw [hq1,h]; decide)] at e1
 clear hq hq1 h
 obtain ⟨q,hq⟩:∃ q,f2 s zG=q:=⟨_,rfl⟩
 have hq1:=hq
 refine ⟨fun t w'=>t=.bool q/\Inv w [] [] S w',?_,?_⟩
 ·unfold f2 zG at hq
  iterate 3
   refine cV ?_
   refine ba (fun h=>⟨by rw [List.any_cons,h] at hq; rw [h,<- hq]; rfl,hI⟩) (fun h=>?_)
   rw [List.any_cons,h,Bool.false_or] at hq
  refine cV ⟨?_,hI⟩
  rw [<- hq]; simp
 intro _ _ _ t _ w'
 rintro ⟨rfl,hI⟩
 refine ba (fun h=>?_) (fun h=>?_)
 ·exact bR (done hI (by rw [e1,if_pos (hq1.trans h)]))
 rw [if_neg (by rw [hq1,h]; decide)] at e1
 refine cV ?_
 refine bk (fun h=>?_) (fun h=>?_)
 ·exact bR (done hI (by rw [e1,if_pos h]))
 ·exact done hI (by rw [e1,if_neg h])

theorem ez (s:ByteArray) (S:aF):Pure Tryz.prog Ii [.string s] S (.int .i64 (dp s)):=by
 intro w hI
 refine yG ?_
 unfold uf
 obtain ⟨q,hq⟩:∃ q,f2 s Ca=q:=⟨_,rfl⟩
 have hq1:=hq
 refine ⟨fun t w'=>t=.bool q/\Inv w [] [] S w',?_,?_⟩
 ·unfold f2 Ca at hq
  iterate 8
   refine cV ?_
   refine ba (fun h=>⟨by rw [List.any_cons,h] at hq; rw [h,<- hq]; rfl,hI⟩) (fun h=>?_)
   rw [List.any_cons,h,Bool.false_or] at hq
  refine cV ⟨?_,hI⟩
  rw [<- hq]; simp
 intro _ _ _ _ _ _ _ _ t _ w'
 rintro ⟨rfl,hI⟩
 refine ba (fun h=>?_) (fun h=>?_)
 ·exact done hI (by rw [show dp s=3 from if_pos (hq1.trans h)] <;> rfl)
 have e1:dp s=if f2 s KE=true then 2 else if f2 s Ag=true then 1 else 0:=by
  rw [dp,if_neg (by rw [hq1,h]; decide)]
 clear hq hq1 h
 obtain ⟨q,hq⟩:∃ q,f2 s KE=q:=⟨_,rfl⟩
 have hq1:=hq
 refine ⟨fun t w'=>t=.bool q/\Inv w [] [] S w',?_,?_⟩
 ·unfold f2 KE at hq
  refine cV ?_
  refine ba (fun h=>⟨by rw [List.any_cons,h] at hq; rw [h,<- hq]; rfl,hI⟩) (fun h=>?_)
  rw [List.any_cons,h,Bool.false_or] at hq
  refine cV ⟨?_,hI⟩
  rw [<- hq]; simp
 intro _ t _ w'
 rintro ⟨rfl,hI⟩
 refine ba (fun h=>?_) (fun h=>?_)
 ·exact done hI (by rw [show dp s=2 from e1.trans (if_pos (hq1.trans h))] <;> rfl)
 rw [if_neg (by rw [hq1,h]; decide)] at e1
 clear hq hq1 h
 obtain ⟨q,hq⟩:∃ q,f2 s Ag=q:=⟨_,rfl⟩
 have hq1:=hq
 refine ⟨fun t w'=>t=.bool q/\Inv w [] [] S w',?_,?_⟩
 ·unfold f2 Ag at hq
  iterate 2
   refine cV ?_
   refine ba (fun h=>⟨by rw [List.any_cons,h] at hq; rw [h,<- hq]; rfl,hI⟩) (fun h=>?_)
   rw [List.any_cons,h,Bool.false_or] at hq
  refine cV ⟨?_,hI⟩
  rw [<- hq]; simp
 intro _ _ t _ w'
 rintro ⟨rfl,hI⟩
 refine ba (fun h=>?_) (fun h=>?_)
 ·exact done hI (by rw [show dp s=1 from e1.trans (if_pos (hq1.trans h))] <;> rfl)
 ·exact done hI (by rw [show dp s=0 from e1.trans (if_neg (by rw [hq1,h]; decide))] <;> rfl)
theorem zh (s:ByteArray) (S:aF):Pure Tryz.prog G8 [.string s] S (.tuple #[.int .i64 (dp s),.bool (decide (dp s=1) || decide (dp s=2))]):=by
 intro w hI
 refine yH ?_
 unfold ui
 obtain ⟨q,hq⟩:∃ q,f2 s Ca=q:=⟨_,rfl⟩
 have hq1:=hq
 refine ⟨fun t w'=>t=.bool q/\Inv w [] [] S w',?_,?_⟩
 ·unfold f2 Ca at hq
  iterate 8
   refine cV ?_
   refine ba (fun h=>⟨by rw [List.any_cons,h] at hq; rw [h,<- hq]; rfl,hI⟩) (fun h=>?_)
   rw [List.any_cons,h,Bool.false_or] at hq
  refine cV ⟨?_,hI⟩
  rw [<- hq]; simp
 intro _ _ _ _ _ _ _ _ t _ w'
 rintro ⟨rfl,hI⟩
 refine ba (fun h=>?_) (fun h=>?_)
 ·exact done hI (by rw [show dp s=3 from if_pos (hq1.trans h)] <;> rfl)
 have e1:dp s=if f2 s KE=true then 2 else if f2 s Ag=true then 1 else 0:=by
  rw [dp,if_neg (by rw [hq1,h]; decide)]
 clear hq hq1 h
 obtain ⟨q,hq⟩:∃ q,f2 s KE=q:=⟨_,rfl⟩
 have hq1:=hq
 refine ⟨fun t w'=>t=.bool q/\Inv w [] [] S w',?_,?_⟩
 ·unfold f2 KE at hq
  refine cV ?_
  refine ba (fun h=>⟨by rw [List.any_cons,h] at hq; rw [h,<- hq]; rfl,hI⟩) (fun h=>?_)
  rw [List.any_cons,h,Bool.false_or] at hq
  refine cV ⟨?_,hI⟩
  rw [<- hq]; simp
 intro _ t _ w'
 rintro ⟨rfl,hI⟩
 refine ba (fun h=>?_) (fun h=>?_)
 ·exact done hI (by rw [show dp s=2 from e1.trans (if_pos (hq1.trans h))] <;> rfl)
 rw [if_neg (by rw [hq1,h]; decide)] at e1
 clear hq hq1 h
 obtain ⟨q,hq⟩:∃ q,f2 s Ag=q:=⟨_,rfl⟩
 have hq1:=hq
 refine ⟨fun t w'=>t=.bool q/\Inv w [] [] S w',?_,?_⟩
 ·unfold f2 Ag at hq
  iterate 2
   refine cV ?_
   refine ba (fun h=>⟨by rw [List.any_cons,h] at hq; rw [h,<- hq]; rfl,hI⟩) (fun h=>?_)
   rw [List.any_cons,h,Bool.false_or] at hq
  refine cV ⟨?_,hI⟩
  rw [<- hq]; simp
 intro _ _ t _ w'
 rintro ⟨rfl,hI⟩
 refine ba (fun h=>?_) (fun h=>?_)
 ·exact done hI (by rw [show dp s=1 from e1.trans (if_pos (hq1.trans h))] <;> rfl)
 ·exact done hI (by rw [show dp s=0 from e1.trans (if_neg (by rw [hq1,h]; decide))] <;> rfl)

theorem GV {t:T} {S:aF} {cs:List Value} (h:RdT S cs t):Pure Tryz.prog Me [.agg cs.toArray] S (.bool (IG t)):=by
 intro w hI
 obtain ⟨kv,rfl,_,_,hs,hks⟩:=RdT.iff.1 h
 obtain ⟨k,n,s,ks⟩:=t
 simp only [T.name,T.kids,T.kind,T.n] at hs hks ⊢
 refine Cj ?_
 unfold AL;dsimp only
 refine bO hI fun b1 w' hI=>?_
 refine aJ hI 0 rfl bD bn rfl ?_
 refine bR ?_
 rw [show IG (.mk k n s ks)=(decide (k=3) && (decide (s=⟨#[33]⟩) && decide (ks.length=0))) from rfl]
 cases h1:decide (k=3)
 ·repeat (first|refine ad ?_|refine af (by decide) ?_|refine ab ?_|refine ai ?_|refine ah ?_)
  exact done hI rfl
 ·repeat (first|refine ad ?_|refine af (by decide) ?_|refine ab ?_|refine ai ?_|refine ah ?_)
  refine aJ hI 0 rfl bo bm rfl ?_
  refine cV ?_
  cases h2:decide (s=⟨#[33]⟩)
  ·repeat (first|refine ad ?_|refine af (by decide) ?_|refine ab ?_|refine ai ?_|refine ah ?_)
   exact done hI rfl
  ·repeat (first|refine ad ?_|refine af (by decide) ?_|refine ab ?_|refine ai ?_|refine ah ?_)
   refine aJ hI 0 rfl aS aQ rfl ?_
   refine a9 hks av ?_
   refine bR ?_
   repeat (first|refine ad ?_|refine af (by decide) ?_|refine ab ?_|refine ai ?_|refine ah ?_)
   exact done hI (by simp)

theorem lZ {t:T} {S:aF} {cs:List Value} (h:RdT S cs t):Pure Tryz.prog Gb [.agg cs.toArray] S (.bool (ef t)):=by
 intro w hI
 obtain ⟨kv,rfl,_,_,hs,hks⟩:=RdT.iff.1 h
 obtain ⟨k,n,s,ks⟩:=t
 simp only [T.name,T.kids,T.kind,T.n] at hs hks ⊢
 refine yP ?_
 unfold vd;dsimp only
 refine bO hI fun b1 w' hI=>?_
 refine aJ hI 0 rfl bD bn rfl ?_
 refine bR ?_
 rw [show ef (.mk k n s ks)=(decide (k=3) && (k0 s && (!gK s ks.length && decide (dp s=0)))) from rfl]
 cases h1:decide (k=3)
 ·repeat (first|refine ad ?_|refine af (by decide) ?_|refine ab ?_|refine ai ?_|refine ah ?_)
  exact done hI rfl
 ·repeat (first|refine ad ?_|refine af (by decide) ?_|refine ab ?_|refine ai ?_|refine ah ?_)
  refine aJ hI 0 rfl bo bm rfl ?_
  refine Run.callPure x1 xF hI (tU s hs S) fun w' hI=>?_
  cases h2:k0 s
  ·repeat (first|refine ad ?_|refine af (by decide) ?_|refine ab ?_|refine ai ?_|refine ah ?_)
   exact done hI rfl
  ·repeat (first|refine ad ?_|refine af (by decide) ?_|refine ab ?_|refine ai ?_|refine ah ?_)
   refine aJ hI 0 rfl bo bm rfl ?_
   refine aJ hI 0 rfl aS aQ rfl ?_
   refine a9 hks av ?_
   refine Run.callPure oK pX hI (mJ s _ S) fun w' hI=>?_
   refine cc ?_
   cases h3:gK s ks.length
   ·repeat (first|refine ad ?_|refine af (by decide) ?_|refine ab ?_|refine ai ?_|refine ah ?_)
    refine aJ hI 0 rfl bo bm rfl ?_
    refine Run.callPure fW fV hI (ez s S) fun w' hI=>?_
    refine bR ?_
    repeat (first|refine ad ?_|refine af (by decide) ?_|refine ab ?_|refine ai ?_|refine ah ?_)
    exact done hI rfl
   ·repeat (first|refine ad ?_|refine af (by decide) ?_|refine ab ?_|refine ai ?_|refine ah ?_)
    exact done hI rfl

theorem Fl {t:T} {S:aF} {cs:List Value} (h:RdT S cs t):Pure Tryz.prog Jj [.agg cs.toArray] S (.bool (IG t || (ef t || rS t))):=by
 intro w hI
 have h0:=h
 obtain ⟨kv,rfl,_,_,hs,hks⟩:=RdT.iff.1 h
 obtain ⟨k,n,s,ks⟩:=t
 simp only [T.name,T.kids,T.kind,T.n] at h0 hs hks ⊢
 refine Bx ?_
 unfold xe;dsimp only
 refine bO hI fun b1 w' hI=>?_
 refine bb hI 0 al rfl rfl ?_
 refine Run.callPure Jq JD hI (GV h0) fun w' hI=>?_
 cases h1:IG (.mk k n s ks)
 ·repeat (first|refine ad ?_|refine af (by decide) ?_|refine ab ?_|refine ai ?_|refine ah ?_)
  refine bb hI 0 al rfl rfl ?_
  refine Run.callPure m9 mW hI (lZ h0) fun w' hI=>?_
  cases h2:ef (.mk k n s ks)
  ·repeat (first|refine ad ?_|refine af (by decide) ?_|refine ab ?_|refine ai ?_|refine ah ?_)
   refine aJ hI 0 rfl bD bn rfl ?_
   refine bR ?_
   rw [show rS (.mk k n s ks)=(decide (k=3) && gK s ks.length) from rfl]
   cases h3:decide (k=3)
   ·repeat (first|refine ad ?_|refine af (by decide) ?_|refine ab ?_|refine ai ?_|refine ah ?_)
    exact done hI rfl
   ·repeat (first|refine ad ?_|refine af (by decide) ?_|refine ab ?_|refine ai ?_|refine ah ?_)
    refine aJ hI 0 rfl bo bm rfl ?_
    refine aJ hI 0 rfl aS aQ rfl ?_
    refine a9 hks av ?_
    refine Run.callPure oK pX hI (mJ s _ S) fun w' hI=>?_
    repeat (first|refine ad ?_|refine af (by decide) ?_|refine ab ?_|refine ai ?_|refine ah ?_)
    exact done hI rfl
  ·repeat (first|refine ad ?_|refine af (by decide) ?_|refine ab ?_|refine ai ?_|refine ah ?_)
   exact done hI rfl
 ·repeat (first|refine ad ?_|refine af (by decide) ?_|refine ab ?_|refine ai ?_|refine ah ?_)
  exact done hI rfl

theorem LB {t:T} (h:wT t<=1048576):eV t<=4611686018427387904:=by
 have:=Ah t
 omega
theorem vP {t:T} {S:aF} {cs:List Value} (h:RdT S cs t) (hc:wT t<=1048576):Pure Tryz.prog B0 [.agg cs.toArray] S (.bool (ir t)):=by
 intro w hI
 have hl:=h.length
 refine uT ?_
 unfold pa
 refine bO hI fun b1 w' hI=>?_
 refine bb hI 0 al rfl (by simpa [Value.cells] using hl) ?_
 refine Run.callPure oh pc hI (mH h (LB hc)) fun w' hI=>?_
 rw [ir]
 cases h1:eA t
 ·repeat (first|refine ad ?_|refine af (by decide) ?_|refine ab ?_|refine ai ?_|refine ah ?_)
  exact done hI rfl
 ·repeat (first|refine ad ?_|refine af (by decide) ?_|refine ab ?_|refine ai ?_|refine ah ?_)
  refine bb hI 0 al rfl (by simpa [Value.cells] using hl) ?_
  refine Run.callPure Gp H9 hI (Fl h) fun w' hI=>?_
  repeat (first|refine ad ?_|refine af (by decide) ?_|refine ab ?_|refine ai ?_|refine ah ?_)
  exact done hI rfl


theorem OU {ts:List T} {t:T} (h:t∈ts):wT t<=wL ts:=by
 induction ts with
 | nil=>simp at h
 | cons u us ih=>
  rw [wL]
  rcases List.mem_cons.1 h with rfl|h
  ·omega
  ·have:=ih h; omega
/- the loop of a list of goals, whatever comes behind it -/
theorem kO {c:C} {S:aF} {cs:List Value} (h:RdC S cs c) (hc:wC c<=1048576):Pure Tryz.prog yF [.agg cs.toArray] S (.bool (dJ c)):=by
 intro w hI
 obtain ⟨hd,ks,rfl,h1,h2⟩:=h
 have h1':=h1
 obtain ⟨kv,rfl,g1,g2,g3,g4⟩:=RdT.iff.1 h1
 have hlen:=h2.le
 simp only [maxLen] at hlen
 unfold wC at hc
 refine qG ?_
 unfold mi;dsimp only
 refine bO hI fun b1 w' hI=>?_
 refine ⟨fun i w'=>∃ k:Nat,k<=c.body.length/\k<=7/\i=.int .i64 k/\(∀ j (h:j<c.body.length),j<k->ir c.body[j]=true)/\Inv w [] [.blk b1 (.cells #[.int .i64 c.head.kind,.int .i64 c.head.n,.string c.head.name,kv,ks] aR)] S w',
  fun i _=>c.body.length - (intOf i).toNat,⟨0,Nat.zero_le _,by omega,rfl,fun j _ h=>by omega,hI⟩,?_⟩
 intro t3 _ _ _ _ _ _ _ _ _ _ _ _ _ _ _ _ _ _ _ w'
 rintro ⟨k,hk,hk7,rfl,hrel,hI⟩
 refine ⟨fun t w'=>t=.bool (decide (k<c.body.length/\k<=6))/\Inv w [] [.blk b1 (.cells #[.int .i64 c.head.kind,.int .i64 c.head.n,.string c.head.name,kv,ks] aR)] S w',?_,?_⟩
 ·refine aJ hI 0 rfl bp aQ rfl ?_
  refine a9 h2 av ?_
  refine bU ?_
  by_cases hki:(k:Int)<c.body.length
  ·rw [decide_eq_true hki]
   repeat (first|refine ad ?_|refine af (by decide) ?_|refine ab ?_|refine ai ?_|refine ah ?_)
   refine gk ?_
   repeat (first|refine ad ?_|refine af (by decide) ?_|refine ab ?_|refine ai ?_|refine ah ?_)
   refine ⟨?_,hI⟩
   congr 1
   rw [Bool.eq_iff_iff]; simp; omega
  ·rw [decide_eq_false hki]
   repeat (first|refine ad ?_|refine af (by decide) ?_|refine ab ?_|refine ai ?_|refine ah ?_)
   exact ⟨by rw [decide_eq_false (by omega)],hI⟩
 intro t _ _ _ _ _ _ _ _ w'
 rintro ⟨rfl,hI⟩
 refine bk (fun hki=>?_) (fun hki=>?_)
 ·obtain ⟨hk',hk6⟩:=hki
  refine aJ hI 0 rfl bp aQ rfl ?_
  refine ec hI h2 av al hk' (fun _ _=>RdT.length) fun cs' hcs'=>?_
  have hwm:=OU (List.getElem_mem hk')
  refine Run.callPure Bk z0 hI (vP hcs' (by omega)) fun w' hI=>?_
  refine cc ?_
  refine ba (fun hb=>done hI ?_) (fun hb=>?_)
  ·have hb':ir c.body[k]=false:=by simpa using hb
   have:c.body.all ir=false:=by
    rw [<- Bool.not_eq_true,List.all_eq_true]
    intro hall
    rw [hall _ (List.getElem_mem hk')] at hb'
    cases hb'
   rw [dJ,this]
   simp
  ·have hb':ir c.body[k]=true:=by simpa using hb
   refine bP (by omega) ?_
   refine ⟨⟨k+1,hk',by omega,rfl,fun j hj hjk=>?_,hI⟩,by simp [intOf]; omega⟩
   by_cases e:j=k
   ·subst e; exact hb'
   ·exact hrel j hj (by omega)
 ·refine aJ hI 0 rfl bp aQ rfl ?_
  refine a9 h2 av ?_
  refine gk ?_
  rw [dJ]
  by_cases hle:c.body.length<=6
  ·have hall:c.body.all ir=true:=by
    rw [List.all_eq_true]
    intro x hx
    obtain ⟨j,hj,rfl⟩:=List.getElem_of_mem hx
    exact hrel j hj (by omega)
   rw [decide_eq_true (show (c.body.length:Int)<=6 by omega),decide_eq_true hle,hall]
   repeat (first|refine ad ?_|refine af (by decide) ?_|refine ab ?_|refine ai ?_|refine ah ?_)
   refine bg dh ?_
   refine fg hI 0 [.int .i64 c.head.kind,.int .i64 c.head.n,.string c.head.name,kv] al rfl rfl ?_ ?_
   ·intro j v hj
    match j with
    | 0|1|2|3=>exact hj
    | j+4=>simp at hj
   refine Run.callPure oh pc hI (mH h1' (LB (by omega))) fun w' hI=>?_
   cases hv:eA c.head
   ·repeat (first|refine ad ?_|refine af (by decide) ?_|refine ab ?_|refine ai ?_|refine ah ?_)
    exact done hI rfl
   ·repeat (first|refine ad ?_|refine af (by decide) ?_|refine ab ?_|refine ai ?_|refine ah ?_)
    refine bg dh ?_
    refine fg hI 0 [.int .i64 c.head.kind,.int .i64 c.head.n,.string c.head.name,kv] al rfl rfl ?_ ?_
    ·intro j v hj
     match j with
     | 0|1|2|3=>exact hj
     | j+4=>simp at hj
    refine Run.callPure m9 mW hI (lZ h1') fun w' hI=>?_
    repeat (first|refine ad ?_|refine af (by decide) ?_|refine ab ?_|refine ai ?_|refine ah ?_)
    exact done hI rfl
  ·rw [decide_eq_false (show ¬ (c.body.length:Int)<=6 by omega),decide_eq_false hle]
   repeat (first|refine ad ?_|refine af (by decide) ?_|refine ab ?_|refine ai ?_|refine ah ?_)
   exact done hI rfl

theorem iY {xs:List C} {S:aF} {v:Value} (h:RdSl S 5 (RdC S) v xs) (hc:wP xs<=1048576):Pure Tryz.prog vy [v] S (.bool (nq xs)):=by
 intro w hI
 have hlen:=h.le
 simp only [maxLen] at hlen
 refine oX ?_
 unfold lC
 refine ⟨fun i w'=>∃ k:Nat,k<=xs.length/\k<=20+1/\i=.int .i64 k/\(∀ j (h:j<xs.length),j<k->dJ xs[j]=true)/\Inv w [] [] S w',
  fun i _=>xs.length - (intOf i).toNat,⟨0,Nat.zero_le _,by omega,rfl,fun j _ h=>by omega,hI⟩,?_⟩
 intro t3 _ _ _ _ _ _ _ _ _ _ _ _ _ _ _ _ _ w'
 rintro ⟨k,hk,hk7,rfl,hrel,hI⟩
 refine ⟨fun t w'=>t=.bool (decide (k<xs.length/\k<=20))/\Inv w [] [] S w',?_,?_⟩
 ·refine a9 h c4 ?_
  refine bU ?_
  by_cases hki:(k:Int)<xs.length
  ·rw [decide_eq_true hki]
   repeat (first|refine ad ?_|refine af (by decide) ?_|refine ab ?_|refine ai ?_|refine ah ?_)
   refine gk ?_
   repeat (first|refine ad ?_|refine af (by decide) ?_|refine ab ?_|refine ai ?_|refine ah ?_)
   refine ⟨?_,hI⟩
   congr 1
   rw [Bool.eq_iff_iff]; simp; omega
  ·rw [decide_eq_false hki]
   repeat (first|refine ad ?_|refine af (by decide) ?_|refine ab ?_|refine ai ?_|refine ah ?_)
   exact ⟨by rw [decide_eq_false (by omega)],hI⟩
 intro t _ _ _ _ _ _ _ w'
 rintro ⟨rfl,hI⟩
 refine bk (fun hki=>?_) (fun hki=>?_)
 ·obtain ⟨hk',hk6⟩:=hki
  refine ec hI h c4 bF hk' (fun _ _=>RdC.length) fun cs' hcs'=>?_
  have hwm:=FU (List.getElem_mem hk')
  refine Run.callPure ms mG hI (kO hcs' (by omega)) fun w' hI=>?_
  refine cc ?_
  refine ba (fun hb=>done hI ?_) (fun hb=>?_)
  ·have hb':dJ xs[k]=false:=by simpa using hb
   have:xs.all dJ=false:=by
    rw [<- Bool.not_eq_true,List.all_eq_true]
    intro hall
    rw [hall _ (List.getElem_mem hk')] at hb'
    cases hb'
   rw [nq,this,Bool.and_false]
  ·have hb':dJ xs[k]=true:=by simpa using hb
   refine bP (by omega) ?_
   refine ⟨⟨k+1,hk',by omega,rfl,fun j hj hjk=>?_,hI⟩,by simp [intOf]; omega⟩
   by_cases e:j=k
   ·subst e; exact hb'
   ·exact hrel j hj (by omega)
 ·refine a9 h c4 ?_
  refine gk ?_
  rw [nq]
  refine done hI ?_
  by_cases hle:xs.length<=20
  ·have hall:xs.all dJ=true:=by
    rw [List.all_eq_true]
    intro x hx
    obtain ⟨j,hj,rfl⟩:=List.getElem_of_mem hx
    exact hrel j hj (by omega)
   rw [decide_eq_true (show (xs.length:Int)<=20 by omega),decide_eq_true hle,hall]; rfl
  ·rw [decide_eq_false (show ¬ (xs.length:Int)<=20 by omega),decide_eq_false hle]; rfl

/- the program's side -/
theorem JX (s:ByteArray) (S:aF):Pure Tryz.prog Ne [.string s] S (.bool (decide (0<dp s))):=by
 intro w hI
 refine Em ?_
 unfold DG
 refine Run.callPure Fj Fb hI (zh s S) fun w' hI=>?_
 refine a7 rfl ?_
 refine a7 rfl ?_
 refine dX ?_
 exact done hI rfl
theorem qX {t:T} {S:aF} {cs:List Value} (h:RdT S cs t):Pure Tryz.prog HX [.agg cs.toArray] S (.bool (rS t)):=by
 intro w hI
 obtain ⟨kv,rfl,_,_,hs,hks⟩:=RdT.iff.1 h
 obtain ⟨k,n,s,ks⟩:=t
 simp only [T.name,T.kids,T.kind,T.n] at hs hks ⊢
 refine yL ?_
 unfold s7
 refine bO hI fun b1 w' hI=>?_
 refine aJ hI 0 rfl bD bn rfl ?_
 refine bR ?_
 rw [show rS (.mk k n s ks)=(decide (k=3) && gK s ks.length) from rfl]
 cases h3:decide (k=3)
 ·repeat (first|refine ad ?_|refine af (by decide) ?_|refine ab ?_|refine ai ?_|refine ah ?_)
  exact done hI rfl
 ·repeat (first|refine ad ?_|refine af (by decide) ?_|refine ab ?_|refine ai ?_|refine ah ?_)
  refine aJ hI 0 rfl bo bm rfl ?_
  refine aJ hI 0 rfl aS aQ rfl ?_
  refine a9 hks av ?_
  refine Run.callPure A2 zY hI (vx s _ S) fun w' hI=>?_
  repeat (first|refine ad ?_|refine af (by decide) ?_|refine ab ?_|refine ai ?_|refine ah ?_)
  exact done hI rfl
theorem iO {t:T} {S:aF} {cs:List Value} (h:RdT S cs t):Pure Tryz.prog GZ [.agg cs.toArray] S (.bool (ef t)):=by
 intro w hI
 have h0:=h
 obtain ⟨kv,rfl,_,_,hs,hks⟩:=RdT.iff.1 h
 obtain ⟨k,n,s,ks⟩:=t
 simp only [T.name,T.kids,T.kind,T.n] at h0 hs hks ⊢
 refine yJ ?_
 unfold tf;dsimp only
 refine bO hI fun b1 w' hI=>?_
 refine aJ hI 0 rfl bD bn rfl ?_
 refine bR ?_
 have hb:rS (.mk k n s ks)=(decide (k=3) && gK s ks.length):=rfl
 rw [show ef (.mk k n s ks)=(decide (k=3) && (k0 s && (!gK s ks.length && decide (dp s=0)))) from rfl]
 cases h1:decide (k=3)
 ·repeat (first|refine ad ?_|refine af (by decide) ?_|refine ab ?_|refine ai ?_|refine ah ?_)
  exact done hI rfl
 ·rw [h1] at hb
  repeat (first|refine ad ?_|refine af (by decide) ?_|refine ab ?_|refine ai ?_|refine ah ?_)
  refine aJ hI 0 rfl bo bm rfl ?_
  refine Run.callPure pj pF hI (nz s hs S) fun w' hI=>?_
  cases h2:k0 s
  ·repeat (first|refine ad ?_|refine af (by decide) ?_|refine ab ?_|refine ai ?_|refine ah ?_)
   exact done hI rfl
  ·repeat (first|refine ad ?_|refine af (by decide) ?_|refine ab ?_|refine ai ?_|refine ah ?_)
   refine aJ hI 0 rfl bo bm rfl ?_
   refine Run.callPure MM MQ hI (JX s S) fun w' hI=>?_
   refine cc ?_
   rw [LT]
   cases h3:decide (dp s=0)
   ·repeat (first|refine ad ?_|refine af (by decide) ?_|refine ab ?_|refine ai ?_|refine ah ?_)
    exact done hI (by simp)
   ·repeat (first|refine ad ?_|refine af (by decide) ?_|refine ab ?_|refine ai ?_|refine ah ?_)
    refine bb hI 0 al rfl rfl ?_
    refine Run.callPure uN tb hI (qX h0) fun w' hI=>?_
    refine cc ?_
    repeat (first|refine ad ?_|refine af (by decide) ?_|refine ab ?_|refine ai ?_|refine ah ?_)
    exact done hI (by rw [hb]; simp)
theorem Fw {t:T} {S:aF} {cs:List Value} (h:RdT S cs t):Pure Tryz.prog Iy [.agg cs.toArray] S (.bool (Og t)):=by
 intro w hI
 obtain ⟨kv,rfl,_,_,hs,hks⟩:=RdT.iff.1 h
 obtain ⟨k,n,s,ks⟩:=t
 simp only [T.name,T.kids,T.kind,T.n] at hs hks ⊢
 refine zJ ?_
 unfold xw
 refine bO hI fun b1 w' hI=>?_
 refine aJ hI 0 rfl bD bn rfl ?_
 refine bR ?_
 rw [show Og (.mk k n s ks)=(decide (k=3) && decide (ks.length=0)) from rfl]
 cases h3:decide (k=3)
 ·repeat (first|refine ad ?_|refine af (by decide) ?_|refine ab ?_|refine ai ?_|refine ah ?_)
  exact done hI rfl
 ·repeat (first|refine ad ?_|refine af (by decide) ?_|refine ab ?_|refine ai ?_|refine ah ?_)
  refine aJ hI 0 rfl aS aQ rfl ?_
  refine a9 hks av ?_
  refine bR ?_
  repeat (first|refine ad ?_|refine af (by decide) ?_|refine ab ?_|refine ai ?_|refine ah ?_)
  exact done hI (by simp)
theorem Gv {t:T} {S:aF} {cs:List Value} (h:RdT S cs t):Pure Tryz.prog LW [.agg cs.toArray] S (.bool (IG t)):=by
 intro w hI
 have h0:=h
 obtain ⟨kv,rfl,_,_,hs,hks⟩:=RdT.iff.1 h
 obtain ⟨k,n,s,ks⟩:=t
 simp only [T.name,T.kids,T.kind,T.n] at h0 hs hks ⊢
 refine CE ?_
 unfold AZ
 refine bO hI fun b1 w' hI=>?_
 refine bb hI 0 al rfl rfl ?_
 refine Run.callPure GE GX hI (Fw h0) fun w' hI=>?_
 rw [show IG (.mk k n s ks)=(decide (k=3) && (decide (s=⟨#[33]⟩) && decide (ks.length=0))) from rfl]
 cases h1:Og (.mk k n s ks)
 ·repeat (first|refine ad ?_|refine af (by decide) ?_|refine ab ?_|refine ai ?_|refine ah ?_)
  refine done hI ?_
  replace h1:(decide (k=3) && decide (ks.length=0))=false:=h1
  cases h2:decide (k=3)
  ·rfl
  ·rw [h2,Bool.true_and] at h1
   rw [h1,Bool.and_false]; rfl
 ·repeat (first|refine ad ?_|refine af (by decide) ?_|refine ab ?_|refine ai ?_|refine ah ?_)
  refine aJ hI 0 rfl bo bm rfl ?_
  refine cV ?_
  repeat (first|refine ad ?_|refine af (by decide) ?_|refine ab ?_|refine ai ?_|refine ah ?_)
  refine done hI ?_
  replace h1:(decide (k=3) && decide (ks.length=0))=true:=h1
  rw [Bool.and_eq_true] at h1
  rw [h1.1,h1.2]; simp
theorem v7 {t:T} {S:aF} {cs:List Value} (h:RdT S cs t):Pure Tryz.prog Cn [.agg cs.toArray] S (.bool (ir t)):=by
 intro w hI
 have hl:=h.length
 refine um ?_
 unfold o0
 refine bO hI fun b1 w' hI=>?_
 refine bb hI 0 al rfl (by simpa [Value.cells] using hl) ?_
 refine Run.callPure gx gw hI (fH h) fun w' hI=>?_
 rw [ir]
 cases h1:eA t
 ·repeat (first|refine ad ?_|refine af (by decide) ?_|refine ab ?_|refine ai ?_|refine ah ?_)
  exact done hI rfl
 ·repeat (first|refine ad ?_|refine af (by decide) ?_|refine ab ?_|refine ai ?_|refine ah ?_)
  refine bb hI 0 al rfl (by simpa [Value.cells] using hl) ?_
  refine Run.callPure jz jF hI (iO h) fun w' hI=>?_
  cases h2:ef t
  ·repeat (first|refine ad ?_|refine af (by decide) ?_|refine ab ?_|refine ai ?_|refine ah ?_)
   refine bb hI 0 al rfl (by simpa [Value.cells] using hl) ?_
   refine Run.callPure uN tb hI (qX h) fun w' hI=>?_
   cases h3:rS t
   ·repeat (first|refine ad ?_|refine af (by decide) ?_|refine ab ?_|refine ai ?_|refine ah ?_)
    refine bb hI 0 al rfl (by simpa [Value.cells] using hl) ?_
    refine Run.callPure Kj I0 hI (Gv h) fun w' hI=>?_
    repeat (first|refine ad ?_|refine af (by decide) ?_|refine ab ?_|refine ai ?_|refine ah ?_)
    exact done hI (by simp)
   ·repeat (first|refine ad ?_|refine af (by decide) ?_|refine ab ?_|refine ai ?_|refine ah ?_)
    exact done hI (by simp)
  ·repeat (first|refine ad ?_|refine af (by decide) ?_|refine ab ?_|refine ai ?_|refine ah ?_)
   exact done hI (by simp)

theorem lI {α:Type} (p:α->Bool):∀ xs:List α,(!xs.any fun x=>!p x)=xs.all p
 | []=>rfl
 | x::xs=>by
  rw [List.any_cons,List.all_cons,<- lI p xs]
  cases p x <;> simp

theorem qe {x:T} {S:aF} {cs:List Value} (h:RdT S cs x):Pure Tryz.prog l6 [.agg cs.toArray] S (.bool (!ir x)):=by
 intro w hI
 have hl:=h.length
 refine pZ ?_
 unfold lw
 refine bO hI fun b1 w' hI=>?_
 refine bb hI 0 al rfl (by simpa [Value.cells] using hl) ?_
 refine Run.callPure AD zS hI (v7 h) fun w' hI=>?_
 refine cc (done hI rfl)
theorem sQ {xs:List T} {S:aF} {v:Value} (h:RdSl S 4 (RdT S) v xs):Pure Tryz.prog AC [v] S (.bool (EG xs)):=by
 intro w hI
 refine r4 ?_
 unfold nH
 refine a9 h av ?_
 refine gk ?_
 rw [EG]
 by_cases hle:xs.length<=6
 ·rw [decide_eq_true (show (xs.length:Int)<=6 by omega),decide_eq_true hle]
  repeat (first|refine ad ?_|refine af (by decide) ?_|refine ab ?_|refine ai ?_|refine ah ?_)
  have hcb:Cb Tryz.prog l6 _ [] S (fun _:Unit=>[]) (fun _=>True) (fun _ x=>(!ir x,())) (fun v x=>∃ cs,v=.agg cs.toArray/\RdT S cs x) xs:=
   Cb.pure [] sG tP fun x v _=>by
    rintro ⟨cs,rfl,hcs⟩ w1 hI
    exact (qe hcs w1 hI).mono fun e w' ⟨he,hI⟩=>⟨_,_,_,he,hI,Ext.refl _ _ _,rfl,rfl,rfl⟩
  refine Run.call0 dk dq hI (dG hcb h (st:=()) trivial) fun v' I' S' w'=>?_
  rintro ⟨rfl,rfl,rfl⟩ _ hI
  refine cc ?_
  repeat (first|refine ad ?_|refine af (by decide) ?_|refine ab ?_|refine ai ?_|refine ah ?_)
  refine done hI ?_
  rw [eK (fun x=>!ir x) xs,lI]; rfl
 ·rw [decide_eq_false (show ¬ (xs.length:Int)<=6 by omega),decide_eq_false hle]
  repeat (first|refine ad ?_|refine af (by decide) ?_|refine ab ?_|refine ai ?_|refine ah ?_)
  exact done hI rfl
theorem sq {c:C} {S:aF} {cs:List Value} (h:RdC S cs c):Pure Tryz.prog yR [.agg cs.toArray] S (.bool (dJ c)):=by
 intro w hI
 obtain ⟨hd,ks,rfl,h1,h2⟩:=h
 have h1':=h1
 obtain ⟨kv,rfl,g1,g2,g3,g4⟩:=RdT.iff.1 h1
 have hfin:dJ c=(eA c.head && (ef c.head && EG c.body)):=by
  unfold dJ EG
  cases eA c.head <;> cases ef c.head <;> simp
 refine qE ?_
 unfold mK;dsimp only
 rw [hfin]
 refine bO hI fun b1 w' hI=>?_
 refine bg dh ?_
 refine fg hI 0 [.int .i64 c.head.kind,.int .i64 c.head.n,.string c.head.name,kv] al rfl rfl ?_ ?_
 ·intro j v hj
  match j with
  | 0|1|2|3=>exact hj
  | j+4=>simp at hj
 refine Run.callPure gx gw hI (fH h1') fun w' hI=>?_
 cases hv:eA c.head
 ·repeat (first|refine ad ?_|refine af (by decide) ?_|refine ab ?_|refine ai ?_|refine ah ?_)
  exact done hI rfl
 ·repeat (first|refine ad ?_|refine af (by decide) ?_|refine ab ?_|refine ai ?_|refine ah ?_)
  refine bg dh ?_
  refine fg hI 0 [.int .i64 c.head.kind,.int .i64 c.head.n,.string c.head.name,kv] al rfl rfl ?_ ?_
  ·intro j v hj
   match j with
   | 0|1|2|3=>exact hj
   | j+4=>simp at hj
  refine Run.callPure jz jF hI (iO h1') fun w' hI=>?_
  cases hp:ef c.head
  ·repeat (first|refine ad ?_|refine af (by decide) ?_|refine ab ?_|refine ai ?_|refine ah ?_)
   exact done hI rfl
  ·repeat (first|refine ad ?_|refine af (by decide) ?_|refine ab ?_|refine ai ?_|refine ah ?_)
   refine aJ hI 0 rfl bp aQ rfl ?_
   refine Run.callPure yU ze hI (sQ h2) fun w' hI=>?_
   repeat (first|refine ad ?_|refine af (by decide) ?_|refine ab ?_|refine ai ?_|refine ah ?_)
   exact done hI rfl

theorem nU {x:C} {S:aF} {cs:List Value} (h:RdC S cs x):Pure Tryz.prog kP [.agg cs.toArray] S (.bool (!dJ x)):=by
 intro w hI
 have hl:=h.length
 refine ni ?_
 unfold jy
 refine bO hI fun b1 w' hI=>?_
 refine bb hI 0 bF rfl (by simpa [Value.cells] using hl) ?_
 refine Run.callPure wK vm hI (sq h) fun w' hI=>?_
 refine cc (done hI rfl)
theorem ju {xs:List C} {S:aF} {v:Value} (h:RdSl S 5 (RdC S) v xs):Pure Tryz.prog vD [v] S (.bool (nq xs)):=by
 intro w hI
 refine oH ?_
 unfold lo
 refine a9 h c4 ?_
 refine gk ?_
 rw [nq]
 by_cases hle:xs.length<=20
 ·rw [decide_eq_true (show (xs.length:Int)<=20 by omega),decide_eq_true hle]
  repeat (first|refine ad ?_|refine af (by decide) ?_|refine ab ?_|refine ai ?_|refine ah ?_)
  have hcb:Cb Tryz.prog kP _ [] S (fun _:Unit=>[]) (fun _=>True) (fun _ x=>(!dJ x,())) (fun v x=>∃ cs,v=.agg cs.toArray/\RdC S cs x) xs:=
   Cb.pure [] qt qi fun x v _=>by
    rintro ⟨cs,rfl,hcs⟩ w1 hI
    exact (nU hcs w1 hI).mono fun e w' ⟨he,hI⟩=>⟨_,_,_,he,hI,Ext.refl _ _ _,rfl,rfl,rfl⟩
  refine Run.call0 fp fo hI (fY hcb h (st:=()) trivial) fun v' I' S' w'=>?_
  rintro ⟨rfl,rfl,rfl⟩ _ hI
  refine cc ?_
  repeat (first|refine ad ?_|refine af (by decide) ?_|refine ab ?_|refine ai ?_|refine ah ?_)
  refine done hI ?_
  rw [eK (fun x=>!dJ x) xs,lI]; rfl
 ·rw [decide_eq_false (show ¬ (xs.length:Int)<=20 by omega),decide_eq_false hle]
  repeat (first|refine ad ?_|refine af (by decide) ?_|refine ab ?_|refine ai ?_|refine ah ?_)
  exact done hI rfl
end Go.Proofs.YtemmhhdnlbmicaaGreat

/- A row of a function's own, handed to a function that only reads; rows of numbers. -/
namespace Go.Proofs.YtemmhhdnlbmicaaGreat
open Go Go.RowKit
attribute [local irreducible] Run CondV ag be

def RowRd (S:aF) (v:Value) (e:TypeId) (k n:Nat) (xs:List Value):Prop:=
 xs.length=n * k/\((v=.slice none 0 0/\n=0) ∨ ∃ g cap cur,v=.slice (some ⟨g,0,none⟩) n cap/\S g=some (.cells cur e)/\n<=cap/\cap<=maxLen/\cur.size=cap * k/\cur.toList.take (n * k)=xs)
theorem Inv.lend {w0 w:World} {X:List Nat} {A:List Item} {S:aF} {v:Value} {e:TypeId} {k n:Nat} {xs:List Value} (h:Inv w0 X (A++[.row v e k n xs]) S w) :
  ∃ S',Sle S S'/\RowRd S' v e k n xs/\Inv w0 X A S' w/\∀ B w',Inv w0 X B S' w'->Inv w0 X (B++[.row v e k n xs]) S w':=by
 have hm:w.ownsRow 0 e k v n xs:=h.its (.row v e k n xs) (by simp)
 obtain ⟨hl,hm⟩:=hm
 rcases hm with ⟨rfl,rfl⟩|⟨g,cap,cur,rfl,_,hg,hnc,hcm,hcs,ht⟩
 ·have:xs=[]:=List.eq_nil_of_length_eq_zero (by rw [hl,Nat.zero_mul])
  subst this
  exact ⟨S,Sle.refl S,⟨hl,.inl ⟨rfl,rfl⟩⟩,h.sub (List.sublist_append_left _ _),fun B w' hB=>hB.rowNil e k⟩
 ·have hf:bY (A++[Item.blk g (.cells cur e)])=bY (A++[Item.row (.slice (some ⟨g,0,none⟩) n cap) e k n xs]):=by
   simp [bY,Item.foot,Value.ownBlock]
  have hg':g∈bY (A++[Item.row (.slice (some ⟨g,0,none⟩) n cap) e k n xs]):=by simp [bY,Item.foot,Value.ownBlock]
  have h':Inv w0 X (A++[Item.blk g (.cells cur e)]) S w:=by
   refine ⟨h.size,h.os,h.tape,h.output,h.old,fun it hit=>?_,by rw [hf]; exact h.nd,by rw [hf]; exact h.new,by rw [hf]; exact h.pub⟩
   rcases List.mem_append.1 hit with hit|hit
   ·exact h.its it (List.mem_append_left _ hit)
   ·simp at hit
    subst hit
    exact hg
  obtain ⟨h1,h2⟩:=h'.publishLast
  refine ⟨mP S g (.cells cur e),h2,⟨hl,.inr ⟨g,cap,cur,rfl,by simp [mP],hnc,hcm,hcs,ht⟩⟩,h1,fun B w' hB=>?_⟩
  have hpg:=hB.pub g (.cells cur e) (by simp [mP])
  have hfB:bY (B++[Item.row (.slice (some ⟨g,0,none⟩) n cap) e k n xs])=bY B++[g]:=by simp [bY,Item.foot,Value.ownBlock]
  refine ⟨hB.size,hB.os,hB.tape,hB.output,hB.old,fun it hit=>?_,?_,?_,?_⟩
  ·rcases List.mem_append.1 hit with hit|hit
   ·exact hB.its it hit
   ·simp at hit
    subst hit
    exact ⟨hl,.inr ⟨g,cap,cur,rfl,Nat.zero_le _,hpg.1,hnc,hcm,hcs,ht⟩⟩
  ·rw [hfB,List.nodup_append]
   refine ⟨hB.nd,by simp,fun a ha b hb=>?_⟩
   simp at hb
   subst hb
   intro e'
   subst e'
   exact hpg.2 ha
  ·intro c hc
   rw [hfB] at hc
   rcases List.mem_append.1 hc with hc|hc
   ·exact hB.new c hc
   ·simp at hc
    subst hc
    exact h.new _ hg'
  ·intro c o hc
   have hne:c≠g:=fun e'=>by
    subst e'
    exact (h.pub c o hc).2 hg'
   have:=hB.pub c o (by simp only [mP]; rw [if_neg hne]; exact hc)
   refine ⟨this.1,?_⟩
   rw [hfB]
   intro hc'
   rcases List.mem_append.1 hc' with hc'|hc'
   ·exact this.2 hc'
   ·simp at hc'
    exact hne hc'
theorem K5 {α:Type} (f:α->List Value) (k:Nat) (hf:∀ y,(f y).length=k):∀ (ys:List α) (i:Nat) (h:i<ys.length),((ys.flatMap f).drop (i * k)).take k=f ys[i]
 | [],i,h=>by simp at h
 | y::ys,0,h=>by
  rw [List.flatMap_cons,Nat.zero_mul,List.drop_zero,List.take_append_of_le_length (by rw [hf]; exact Nat.le_refl _),List.take_of_length_le (by rw [hf]; exact Nat.le_refl _)]
  rfl
 | y::ys,i+1,h=>by
  rw [List.flatMap_cons,Nat.succ_mul,Nat.add_comm,<- List.drop_drop,List.drop_left' (hf y)]
  exact K5 f k hf ys i (by simpa using h)
theorem RowRd.rd {α:Type} {S:aF} {v:Value} {e:TypeId} {k:Nat} {f:α->List Value} {R:List Value->α->Prop} {ys:List α} (hf:∀ y,(f y).length=k) (hR:∀ y∈ys,R (f y) y)
  (h:RowRd S v e k ys.length (ys.flatMap f)):RdSl S k R v ys:=by
 obtain ⟨hl,h⟩:=h
 rcases h with ⟨rfl,h0⟩|⟨g,cap,cur,rfl,hS,hnc,hcm,hcs,ht⟩
 ·have:ys=[]:=List.eq_nil_of_length_eq_zero h0
  subst this
  exact ⟨none,0,rfl,Nat.le_refl _,Nat.zero_le _,.inl rfl⟩
 ·refine ⟨_,cap,rfl,hnc,hcm,.inr ⟨g,0,cur,e,(0,0),rfl,hS,fun i hi=>?_⟩⟩
  have:=K5 f k hf ys i hi
  have hik:i * k+k<=ys.length * k:=by rw [<- Nat.succ_mul]; exact Nat.mul_le_mul_right k hi
  rw [<- ht,List.drop_take,List.take_take,Nat.min_eq_left (by omega)] at this
  rw [bv,Nat.zero_add,this]
  exact hR _ (List.getElem_mem hi)

/- rows of numbers -/
def ints (ns:List Int):List Value:=ns.flatMap fun n=>[.int .i64 n]
abbrev g0 (v:Value) (ns:List Int):Item:=.row v fx 1 ns.length (ints ns)
theorem DU (ns:List Int) (n:Int):ints ns++[.int .i64 n]=ints (ns++[n]):=by simp [ints]
theorem RowRd.ints {S:aF} {v:Value} {e:TypeId} {ns:List Int} (h:RowRd S v e 1 ns.length (ints ns)):RdSl S 1 pE v ns:=
 RowRd.rd (f:=fun n=>[Value.int .i64 n]) (fun _=>rfl) (fun _ _=>rfl) h
def jg (l:List Int) (n:Int):Bool:=l.any fun x=>decide (n=x)
def kR (l:List Int) (n:Int):List Int:=if jg l n=true then l else l++[n]
theorem Et (l:List Int) (n:Int):(kR l n).length<=l.length+1:=by
 unfold kR
 split <;> simp

theorem zb (s:Int) {xs:List Int} {S:aF} {v:Value} (h:RdSl S 1 pE v xs) :
  Pure Tryz.prog Cr [v,.int .i64 s] S (.int .i64 (df (σ:=Unit) (fun _ x=>(decide (s=x),())) () xs 0).1):=by
 intro w hI
 have hlen:=h.le
 simp only [maxLen] at hlen
 refine s4 ?_
 unfold pl
 refine a9 h fU ?_
 refine ⟨fun i w'=>∃ k:Nat,k<=xs.length/\i=.int .i64 k/\df (σ:=Unit) (fun _ x=>(decide (s=x),())) () (xs.drop k) k=df (σ:=Unit) (fun _ x=>(decide (s=x),())) () xs 0/\Inv w [] [] S w',
  fun i _=>xs.length - (intOf i).toNat,⟨0,Nat.zero_le _,rfl,rfl,hI⟩,?_⟩
 intro t8 _ _ _ _ _ _ _ _ _ _ _ _ w'
 rintro ⟨k,hk,rfl,hrel,hI⟩
 refine bU ?_
 refine bk (fun hki=>?_) (fun hki=>?_)
 ·have hk':k<xs.length:=by omega
  rw [List.drop_eq_getElem_cons hk',df] at hrel
  refine jD hI h fU bn hk' (fun cs hcs=>hcs) ?_
  refine bR ?_
  refine bk (fun he=>done hI ?_) (fun he=>?_)
  ·rw [<- hrel,if_pos (by simpa using he)]
  ·refine bP (by omega) ?_
   rw [if_neg (by simpa using he)] at hrel
   exact ⟨⟨k+1,hk',rfl,hrel,hI⟩,by simp [intOf]; omega⟩
 ·have:k=xs.length:=by omega
  subst this
  rw [List.drop_length,df] at hrel
  exact done hI (by rw [<- hrel])
theorem ko (s:Int) {xs:List Int} {S:aF} {v:Value} (h:RdSl S 1 pE v xs):Pure Tryz.prog vM [v,.int .i64 s] S (.bool (jg xs s)):=by
 intro w hI
 refine oO ?_
 unfold lr
 refine Run.callPure A0 z1 hI (zb s h) fun w' hI=>?_
 refine lP (done hI ?_)
 rw [(ix _ xs () 0).1,eK]; rfl
theorem vr {σ:Type} {f:FuncId} {fn:Func} {cap:List Value} {S:aF} {It:σ->List Item} {ok:σ->Prop} {step:σ->Int->Bool × σ} {xs:List Int} {v:Value}
  (hcb:Cb Tryz.prog f fn cap S It ok step (fun v x=>v=.int .i64 x) xs) (h:RdSl S 1 pE v xs) {st:σ} (hok:ok st) :
  Tri Tryz.prog tT [v,fv f cap] (It st) S fun r I' S'=>r=.int .i64 (df step st xs 0).1/\I'=It (df step st xs 0).2/\S'=S:=by
 intro w hI
 have hlen:=h.le
 simp only [maxLen] at hlen
 refine nS ?_
 unfold kK
 refine a9 h fU ?_
 refine ⟨fun i w'=>∃ (k:Nat) (st':σ),k<=xs.length/\i=.int .i64 k/\ok st'/\df step st' (xs.drop k) k=df step st xs 0/\Inv w (bY (It st)) (It st') S w',fun i _=>xs.length - (intOf i).toNat,
  ⟨0,st,Nat.zero_le _,rfl,hok,rfl,hI⟩,?_⟩
 intro t8 _ _ _ _ _ _ _ _ _ _ _ _ w'
 rintro ⟨k,st',hk,rfl,hok',hrel,hI⟩
 refine bU ?_
 refine bk (fun hki=>?_) (fun hki=>?_)
 ·have hk':k<xs.length:=by omega
  have hm:=List.getElem_mem hk'
  have hstep:df step st' (xs.drop k) k=if (step st' xs[k]).1 then ((k:Int),(step st' xs[k]).2) else df step (step st' xs[k]).2 (xs.drop (k+1)) (k+1):=by
   rw [List.drop_eq_getElem_cons hk',df]
  refine jD hI h fU bn hk' (fun cs hcs=>hcs) ?_
  refine Run.callV (A:=[]) (args:=[.int .i64 xs[k]]) hcb.hf hcb.hn (by simpa using hI) (hcb.call st' _ _ hm hok' rfl) fun v' I' S' w'=>?_
  rintro ⟨rfl,rfl,rfl⟩ _ hI
  refine ba (fun hb=>?_) (fun hb=>?_)
  ·rw [if_pos hb] at hstep
   refine ⟨_,_,_,rfl,by simpa using hI,Ext.refl _ _ _,?_,?_,rfl⟩
   ·rw [<- hrel,hstep]
   ·rw [<- hrel,hstep]
  ·refine bP (by omega) ?_
   rw [hb] at hstep
   refine ⟨⟨k+1,_,hk',rfl,hcb.keep st' _ hm hok' hb,?_,by simpa using hI⟩,by simp [intOf]; omega⟩
   rw [<- hrel,hstep]
   rfl
 ·have:k=xs.length:=by omega
  subst this
  rw [List.drop_length,df] at hrel
  exact ⟨_,_,_,rfl,hI,Ext.refl _ _ _,by rw [<- hrel],by rw [<- hrel],rfl⟩
theorem qx {σ:Type} {f:FuncId} {fn:Func} {cap:List Value} {S:aF} {It:σ->List Item} {ok:σ->Prop} {step:σ->Int->Bool × σ} {xs:List Int} {v:Value}
  (hcb:Cb Tryz.prog f fn cap S It ok step (fun v x=>v=.int .i64 x) xs) (h:RdSl S 1 pE v xs) {st:σ} (hok:ok st) :
  Tri Tryz.prog pH [v,fv f cap] (It st) S fun r I' S'=>r=.bool (oe step st xs).1/\I'=It (oe step st xs).2/\S'=S:=by
 intro w hI
 refine lY ?_
 unfold im
 refine Run.call (A:=[]) rO sA (by simpa using hI) (vr hcb h hok) fun v' I' S' w'=>?_
 rintro ⟨rfl,rfl,rfl⟩ _ hI
 refine lP ?_
 have he:=ix step xs st 0
 exact ⟨_,_,_,rfl,by simpa using hI,Ext.refl _ _ _,by rw [he.1],by rw [he.2],rfl⟩
theorem GS (s:Int) {xs:List Int} {S:aF} {v:Value} (h:RdSl S 1 pE v xs):Pure Tryz.prog L9 [v,.int .i64 s] S (.bool (jg xs s)):=by
 intro w hI
 have hlen:=h.le
 simp only [maxLen] at hlen
 refine CJ ?_
 unfold Ay
 refine ⟨fun i w'=>∃ k:Nat,k<=xs.length/\i=.int .i64 k/\jg (xs.drop k) s=jg xs s/\Inv w [] [] S w',fun i _=>xs.length - (intOf i).toNat,⟨0,Nat.zero_le _,rfl,rfl,hI⟩,?_⟩
 intro t5 _ _ _ _ _ _ _ _ _ _ _ _ _ w'
 rintro ⟨k,hk,rfl,hrel,hI⟩
 refine a9 h fU ?_
 refine bU ?_
 refine bk (fun hki=>?_) (fun hki=>?_)
 ·have hk':k<xs.length:=by omega
  have hstep:jg (xs.drop k) s=(decide (s=xs[k]) || jg (xs.drop (k+1)) s):=tI _ xs k hk'
  refine jD hI h fU bn hk' (fun cs hcs=>hcs) ?_
  refine bR ?_
  refine bk (fun he=>done hI ?_) (fun he=>?_)
  ·rw [<- hrel,hstep,decide_eq_true he.symm]; rfl
  ·refine bP (by omega) ?_
   exact ⟨⟨k+1,hk',rfl,by rw [<- hrel,hstep,decide_eq_false (fun e=>he e.symm)]; rfl,hI⟩,by simp [intOf]; omega⟩
 ·have:k=xs.length:=by omega
  subst this
  exact done hI (by rw [<- hrel,List.drop_length]; rfl)

end Go.Proofs.YtemmhhdnlbmicaaGreat

/- The variables of terms, on both sides: lists of numbers that grow. -/
namespace Go.Proofs.YtemmhhdnlbmicaaGreat
open Go Go.RowKit
attribute [local irreducible] Run CondV ag be

mutual
def gq:T->List Int->List Int
 | .mk k n _ ks,l=>eT ks (if k=1 then kR l n else l)
def eT:List T->List Int->List Int
 | [],l=>l
 | t::ts,l=>eT ts (gq t l)
end
mutual
def hG:T->List Int->List Int
 | .mk k n _ ks,l=>if k=1 then kR l n else gp ks l
def gp:List T->List Int->List Int
 | [],l=>l
 | t::ts,l=>gp ts (hG t l)
end
mutual
theorem Bn:∀ (t:T) (l:List Int),((gq t l).length:Int)<=l.length+eV t
 | .mk k n s ks,l=>by
  rw [gq,show eV (T.mk k n s ks)=1+eh ks from rfl]
  have h1:=Et l n
  have:=H6 ks (if k=1 then kR l n else l)
  split at this <;> rename_i hk <;> simp only [hk,if_true,if_false] at this ⊢ <;> omega
theorem H6:∀ (ts:List T) (l:List Int),((eT ts l).length:Int)<=l.length+eh ts
 | [],l=>by simp [eT,eh]
 | t::ts,l=>by
  rw [eT,show eh (t::ts)=eV t+eh ts from rfl]
  have:=Bn t l
  have:=H6 ts (gq t l)
  omega
end
mutual
theorem wb:∀ (t:T) (l:List Int),((hG t l).length:Int)<=l.length+eV t
 | .mk k n s ks,l=>by
  rw [hG,show eV (T.mk k n s ks)=1+eh ks from rfl]
  have h1:=Et l n
  have:=fD ks
  split
  ·omega
  ·have:=DY ks l
   omega
theorem DY:∀ (ts:List T) (l:List Int),((gp ts l).length:Int)<=l.length+eh ts
 | [],l=>by simp [gp,eh]
 | t::ts,l=>by
  rw [gp,show eh (t::ts)=eV t+eh ts from rfl]
  have:=wb t l
  have:=DY ts (hG t l)
  omega
end
/- on valid terms the two are one -/
mutual
theorem HY:∀ (t:T) (d:Int) (l:List Int),eO t d=true->hG t l=gq t l
 | .mk k n s ks,d,l,h=>by
  rw [eO] at h
  split at h
  ·cases h
  ·rw [Bool.and_eq_true] at h
   rw [hG,gq]
   split
   ·rw [F4 h.1 (.inl ‹k=1›)]; rfl
   ·exact zR ks (d - 1) l h.2
theorem zR:∀ (ts:List T) (d:Int) (l:List Int),eF ts d=true->gp ts l=eT ts l
 | [],d,l,h=>rfl
 | t::ts,d,l,h=>by
  rw [eF,Bool.and_eq_true] at h
  rw [gp,eT,HY t d l h.1]
  exact zR ts d _ h.2
end
theorem p6 {t:T} (h:eA t=true):eO t 30=true:=by
 rw [eA,Bool.and_eq_true] at h
 exact h.1
abbrev Lt (S:aF) (r:List Int):Value->List Item->aF->Prop:=fun v I' S'=>I'=[g0 v r]/\S'=S

theorem tn:∀ (t:T) (S:aF) (cs:List Value) (v:Value) (l:List Int),RdT S cs t->l.length+eV t<=1000000000->Tri Tryz.prog Ke [v,.agg cs.toArray] [g0 v l] S (Lt S (hG t l)):=by
 refine T.ind fun k n s ks ih S cs v l h hl=>?_
 intro w hI
 obtain ⟨kv,rfl,_,_,hs,hks⟩:=RdT.iff.1 h
 simp only [T.name,T.kids,T.kind,T.n] at hs hks ⊢
 have hlen:=hks.le
 simp only [maxLen] at hlen
 rw [show eV (T.mk k n s ks)=1+eh ks from rfl] at hl
 have hcp:=fD ks
 have hend:∀ {w':World} {v':Value} {b:Nat} {o:Obj} (r:List Int),Inv w (bY [g0 v l]) [.blk b o,g0 v' r] S w'->r=hG (.mk k n s ks) l->
   ∃ v'' I' S',Ending.returned v'=.returned v''/\Inv w (bY [g0 v l]) I' S' w'/\Ext w.heap.size (bY [g0 v l]) S S'/\Lt S (hG (.mk k n s ks) l) v'' I' S':=by
  intro w' v' b o r h1 h2
  subst h2
  exact ⟨_,_,_,rfl,h1.pick [false,true],Ext.refl _ _ _,rfl,rfl⟩
 refine Aa ?_
 unfold xu
 refine bO hI fun b3 w' hI=>?_
 have hI:=hI.perm (M:=[.blk b3 (.cells #[.int .i64 k,.int .i64 n,.string s,kv] ac),g0 v l]) (List.Perm.swap _ _ _)
 refine aJ hI 0 rfl bD bn rfl ?_
 refine bR ?_
 refine bk (fun hk=>?_) (fun hk=>?_)
 ·have hr:kR l n=hG (.mk k n s ks) l:=by rw [hG,if_pos hk]
  obtain ⟨S1,hle,hrd,hI,hback⟩:=Inv.lend (A:=[_]) hI
  have hrd:=hrd.ints
  refine ⟨fun i w'=>∃ j:Nat,j<=l.length/\i=.int .i64 j/\jg (l.drop j) n=jg l n/\Inv w (bY [g0 v l]) [.blk b3 (.cells #[.int .i64 k,.int .i64 n,.string s,kv] ac)] S1 w',
   fun i _=>l.length - (intOf i).toNat,⟨0,Nat.zero_le _,rfl,rfl,hI⟩,?_⟩
  intro t5 _ _ _ _ t22 t21 t20 t19 t18 t17 t16 _ _ _ _ w'
  rintro ⟨j,hj,rfl,hrel,hI⟩
  refine a9 hrd fU ?_
  refine bU ?_
  refine bk (fun hji=>?_) (fun hji=>?_)
  ·have hj':j<l.length:=by omega
   have hstep:jg (l.drop j) n=(decide (n=l[j]) || jg (l.drop (j+1)) n):=tI _ l j hj'
   obtain ⟨b,o,cap,c,E,fz,rfl,hS,hR⟩:=hrd.at_ hj'
   refine ⟨fun D cf cF cd bZ dz dr dC w_=>(D 0=true->dC=.slice (some ⟨b,o,none⟩) l.length cap)/\(D 1=true->dr=.int .i64 j)/\(D 2=true->dz=.pointer (some ⟨b,o+j * 1,none⟩))/\(D 3=true->bZ=.int .i64 l[j])/\(D 4=true->cd=.pointer (some ⟨b3,1,none⟩))/\(D 5=true->cF=.int .i64 n)/\(D 6=true->cf=.bool (decide (l[j]=n)))/\Inv w (bY [g0 (.slice (some ⟨b,o,none⟩) l.length cap) l]) [.blk b3 (.cells #[.int .i64 k,.int .i64 n,.string s,kv] ac)] S1 w_,⟨ae,ae,ae,ae,ae,ae,ae,hI.draw⟩,⟨?_,?_,?_,?_,?_,?_,?_,trivial⟩,?_⟩
   ·intro D aY  cf cF cd bZ dz dr dC w_
    rintro ⟨az,ay,aA,aB,aw,aD,aE,hI⟩
    exact ⟨fun _=>rfl,ay,aA,aB,aw,aD,aE,hI⟩
   ·intro D aY  cf cF cd bZ dz dr dC w_
    rintro ⟨az,ay,aA,aB,aw,aD,aE,hI⟩
    exact ⟨az,fun _=>rfl,aA,aB,aw,aD,aE,hI⟩
   ·intro D aY ce iL cf cF cd bZ dz dr dC w_
    rintro ⟨az,ay,aA,aB,aw,aD,aE,hI⟩
    obtain rfl:=az ce
    obtain rfl:=ay iL
    refine bh fU hj' ?_
    exact ⟨az,ay,fun _=>rfl,aB,aw,aD,aE,hI⟩
   ·intro D aY ev cf cF cd bZ dz dr dC w_
    rintro ⟨az,ay,aA,aB,aw,aD,aE,hI⟩
    obtain rfl:=aA ev
    refine dM bn (by rw [hI.cellS hS]; exact bl hR 0 _ rfl) ?_
    exact ⟨az,ay,aA,fun _=>rfl,aw,aD,aE,hI⟩
   ·intro D aY  cf cF cd bZ dz dr dC w_
    rintro ⟨az,ay,aA,aB,aw,aD,aE,hI⟩
    refine bg bI ?_
    exact ⟨az,ay,aA,aB,fun _=>rfl,aD,aE,hI⟩
   ·intro D aY cK cf cF cd bZ dz dr dC w_
    rintro ⟨az,ay,aA,aB,aw,aD,aE,hI⟩
    obtain rfl:=aw cK
    refine bE hI 0 bn rfl rfl ?_
    exact ⟨az,ay,aA,aB,aw,fun _=>rfl,aE,hI⟩
   ·intro D aY dF jk cf cF cd bZ dz dr dC w_
    rintro ⟨az,ay,aA,aB,aw,aD,aE,hI⟩
    obtain rfl:=aB dF
    obtain rfl:=aD jk
    refine bR ?_
    exact ⟨az,ay,aA,aB,aw,aD,fun _=>rfl,hI⟩
   intro D f1 fM fF fI fK fL fN cf cF cd bZ dz dr dC w_
   rintro ⟨az,ay,aA,aB,aw,aD,aE,hI⟩
   obtain rfl:=aE f1
   obtain rfl:=aD fM
   obtain rfl:=aw fF
   obtain rfl:=aB fI
   obtain rfl:=aA fK
   obtain rfl:=ay fL
   obtain rfl:=az fN
   clear az ay aA aB aw aD aE
   refine bk (fun he=>?_) (fun he=>?_)
   ·refine hend l (hback _ _ hI) ?_
    rw [<- hr,kR,if_pos (by rw [<- hrel,hstep,decide_eq_true he.symm]; rfl)]
   ·refine bP (by omega) ?_
    exact ⟨⟨j+1,hj',rfl,by rw [<- hrel,hstep,decide_eq_false (fun e=>he e.symm)]; rfl,hI⟩,by simp [intOf]; omega⟩
  ·have:j=l.length:=by omega
   subst this
   have hno:jg l n=false:=by rw [<- hrel,List.drop_length]; rfl
   have hI:Inv w (bY [g0 v l]) [.blk b3 (.cells #[.int .i64 k,.int .i64 n,.string s,kv] ac),g0 v l] S _:=hback _ _ hI
   refine aJ hI 0 rfl bI bn rfl ?_
   refine fl hI p9 rfl (by omega) (by omega) fun b w' hI=>?_
   refine fE hI 1 (k:=1) [.int .i64 n] p9 (by omega) rfl rfl ?_ ?_ (by omega) (by omega) fun v' w' hI=>?_
   ·intro j u hj
    rw [hI.cellL (i:=2) rfl]
    match j with
    | 0=>simpa [Value.cells] using hj
    | j+1=>simp at hj
   ·simp [Value.oneCell']
   ·rw [DU] at hI
    have hI:=hI.pick [true,true,false]
    refine hend (b:=b3) (o:=.cells #[.int .i64 k,.int .i64 n,.string s,kv] ac) (l++[n]) ?_ ?_
    ·have e:Item.row v' fx 1 (l.length+1) (ints (l++[n]))=g0 v' (l++[n]):=by simp [g0]
     exact e ▸ hI
    ·rw [<- hr,kR,if_neg (by rw [hno]; decide)]
 ·have hr:gp ks l=hG (.mk k n s ks) l:=by rw [hG,if_neg hk]
  refine ⟨fun i t w'=>∃ (j:Nat) (l':List Int),j<=ks.length/\i=.int .i64 j/\gp (ks.drop j) l'=gp ks l/\l'.length+eh (ks.drop j)<=1000000000/\Inv w (bY [g0 v l]) [.blk b3 (.cells #[.int .i64 k,.int .i64 n,.string s,kv] ac),g0 t l'] S w',
   fun i _ _=>ks.length - (intOf i).toNat,⟨0,l,Nat.zero_le _,rfl,rfl,by rw [List.drop_zero]; omega,hI⟩,?_⟩
  intro t6 _ _ t0 _ _ _ _ _ _ _ _ _ _ _ _ w'
  rintro ⟨j,l',hj,rfl,hrel,hl',hI⟩
  refine aJ hI 0 rfl aS aQ rfl ?_
  refine a9 hks av ?_
  refine bU ?_
  refine bk (fun hji=>?_) (fun hji=>?_)
  ·have hj':j<ks.length:=by omega
   rw [kz ks j hj'] at hl'
   rw [List.drop_eq_getElem_cons hj',gp] at hrel
   have hc1:=fD (ks.drop (j+1))
   have hc2:=wb ks[j] l'
   refine aJ hI 0 rfl aS aQ rfl ?_
   refine ec hI hks av al hj' (fun _ _=>RdT.length) fun cs' hcs'=>?_
   refine Run.call (A:=[_]) pp pI hI (ih _ (List.getElem_mem hj') S cs' t0 l' hcs' (by omega)) fun v' I' S' w'=>?_
   rintro ⟨rfl,rfl⟩ _ hI
   refine bP (by omega) ?_
   exact ⟨⟨j+1,_,hj',rfl,hrel,by omega,hI⟩,by simp [intOf]; omega⟩
  ·have:j=ks.length:=by omega
   subst this
   rw [List.drop_length,gp] at hrel
   exact hend l' hI (by rw [hrel,hr])

theorem l5:∀ (t:T) (S:aF) (cs:List Value) (v:Value) (l:List Int),RdT S cs t->l.length+eV t<=1000000000->Tri Tryz.prog Gk [.agg cs.toArray,v] [g0 v l] S (Lt S (gq t l)):=by
 refine T.ind fun k n s ks ih S cs v l h hl=>?_
 intro w hI
 obtain ⟨kv,rfl,_,_,hs,hks⟩:=RdT.iff.1 h
 simp only [T.name,T.kids,T.kind,T.n] at hs hks ⊢
 have hlen:=hks.le
 simp only [maxLen] at hlen
 rw [show eV (T.mk k n s ks)=1+eh ks from rfl] at hl
 have hcp:=fD ks
 have hal:=Et l n
 refine yZ ?_
 unfold uC
 refine bO hI fun b2 w' hI=>?_
 have hI:=hI.perm (M:=[.blk b2 (.cells #[.int .i64 k,.int .i64 n,.string s,kv] ac),g0 v l]) (List.Perm.swap _ _ _)
 refine ⟨fun t w'=>Inv w (bY [g0 v l]) [.blk b2 (.cells #[.int .i64 k,.int .i64 n,.string s,kv] ac),g0 t (if k=1 then kR l n else l)] S w',?_,?_⟩
 ·refine ⟨fun t w'=>t=.bool (decide (k=1) && !jg l n)/\Inv w (bY [g0 v l]) [.blk b2 (.cells #[.int .i64 k,.int .i64 n,.string s,kv] ac),g0 v l] S w',?_,?_⟩
  ·refine aJ hI 0 rfl bD bn rfl ?_
   refine bR ?_
   cases h1:decide (k=1)
   ·repeat (first|refine ad ?_|refine af (by decide) ?_|refine ab ?_|refine ai ?_|refine ah ?_)
    exact ⟨rfl,hI⟩
   ·repeat (first|refine ad ?_|refine af (by decide) ?_|refine ab ?_|refine ai ?_|refine ah ?_)
    refine aJ hI 0 rfl bI bn rfl ?_
    obtain ⟨S1,hle,hrd,hI,hback⟩:=Inv.lend (A:=[_]) hI
    refine Run.callPure lQ kT hI (ko n hrd.ints) fun w' hI=>?_
    refine cc ?_
    repeat (first|refine ad ?_|refine af (by decide) ?_|refine ab ?_|refine ai ?_|refine ah ?_)
    exact ⟨rfl,hback _ _ hI⟩
  intro t16 _ _ _ _ _ _ _ _ _ w'
  rintro ⟨rfl,hI⟩
  refine ba (fun hb=>?_) (fun hb=>?_)
  ·simp only [Bool.and_eq_true,decide_eq_true_eq,Bool.not_eq_true'] at hb
   refine aJ hI 0 rfl bI bn rfl ?_
   refine fl hI p9 rfl (by omega) (by omega) fun b w' hI=>?_
   refine fE hI 1 (k:=1) [.int .i64 n] p9 (by omega) rfl rfl ?_ ?_ (by omega) (by omega) fun v' w' hI=>?_
   ·intro j u hj
    rw [hI.cellL (i:=2) rfl]
    match j with
    | 0=>simpa [Value.cells] using hj
    | j+1=>simp at hj
   ·simp [Value.oneCell']
   ·rw [DU] at hI
    have hI:=hI.pick [true,true,false]
    rw [if_pos hb.1,kR,if_neg (by rw [hb.2]; decide)]
    have e:Item.row v' fx 1 (l.length+1) (ints (l++[n]))=g0 v' (l++[n]):=by simp [g0]
    rw [show List.length l+1=l.length+1 from rfl,e] at hI
    exact hI
  ·have:(if k=1 then kR l n else l)=l:=by
    split
    ·rename_i hk
     rw [kR]
     simp [hk] at hb
     rw [if_pos hb]
    ·rfl
   rw [this]
   exact hI
 intro t1 _ _ _ _ _ _ _ _ _ _ _ _ _ _ _ w' hI
 have hl1:((if k=1 then kR l n else l).length:Int)+eh ks<=1000000000:=by split <;> omega
 rw [show gq (.mk k n s ks) l=eT ks (if k=1 then kR l n else l) from by rw [gq]]
 generalize (if k=1 then kR l n else l)=l1 at hI hl1 ⊢
 refine aJ hI 0 rfl aS aQ rfl ?_
 refine a9 hks av ?_
 refine ⟨fun i t w'=>∃ (j:Nat) (l':List Int),j<=ks.length/\i=.int .i64 j/\eT (ks.drop j) l'=eT ks l1/\l'.length+eh (ks.drop j)<=1000000000/\Inv w (bY [g0 v l]) [.blk b2 (.cells #[.int .i64 k,.int .i64 n,.string s,kv] ac),g0 t l'] S w',
  fun i _ _=>ks.length - (intOf i).toNat,⟨0,l1,Nat.zero_le _,rfl,rfl,by rw [List.drop_zero]; omega,hI⟩,?_⟩
 intro t25 _ t1 _ _ _ _ _ _ _ w'
 rintro ⟨j,l',hj,rfl,hrel,hl',hI⟩
 refine bU ?_
 refine bk (fun hji=>?_) (fun hji=>?_)
 ·have hj':j<ks.length:=by omega
  rw [kz ks j hj'] at hl'
  rw [List.drop_eq_getElem_cons hj',eT] at hrel
  have hc1:=fD (ks.drop (j+1))
  have hc2:=Bn ks[j] l'
  refine ec hI hks av al hj' (fun _ _=>RdT.length) fun cs' hcs'=>?_
  have hlc:=hcs'.length
  refine bH hI bN fun b6 w' hI=>?_
  refine bf hI 2 rfl al (by simpa using hlc) rfl (by simpa using hcs'.one) fun w' hI=>?_
  refine bb hI 2 al rfl (by simpa using hlc) ?_
  have hI:=hI.pick [true,true,false]
  refine Run.call (A:=[_]) jI jG hI (ih _ (List.getElem_mem hj') S cs' t1 l' hcs' (by omega)) fun v' I' S' w'=>?_
  rintro ⟨rfl,rfl⟩ _ hI
  refine bP (by omega) ?_
  exact ⟨⟨j+1,_,hj',rfl,hrel,by omega,hI⟩,by simp [intOf]; omega⟩
 ·have:j=ks.length:=by omega
  subst this
  rw [List.drop_length,eT] at hrel
  subst hrel
  exact ⟨_,_,_,rfl,hI.pick [false,true],Ext.refl _ _ _,rfl,rfl⟩
theorem FB {ts:List T} {S:aF} {v:Value} (h:RdSl S 4 (RdT S) v ts) (hl:eh ts<=1000000000):Tri Tryz.prog Jb [v] [] S (Lt S (eT ts [])):=by
 intro w hI
 have hlen:=h.le
 simp only [maxLen] at hlen
 refine BJ ?_
 unfold yi
 refine a9 h av ?_
 refine ⟨fun i t w'=>∃ (j:Nat) (l':List Int),j<=ts.length/\i=.int .i64 j/\eT (ts.drop j) l'=eT ts []/\l'.length+eh (ts.drop j)<=1000000000/\Inv w [] [g0 t l'] S w',
  fun i _ _=>ts.length - (intOf i).toNat,⟨0,[],Nat.zero_le _,rfl,rfl,by simpa using hl,hI.rowNil fx 1⟩,?_⟩
 intro t8 _ t3 _ _ _ _ _ _ _ w'
 rintro ⟨j,l',hj,rfl,hrel,hl',hI⟩
 refine bU ?_
 refine bk (fun hji=>?_) (fun hji=>?_)
 ·have hj':j<ts.length:=by omega
  rw [kz ts j hj'] at hl'
  rw [List.drop_eq_getElem_cons hj',eT] at hrel
  have hc1:=fD (ts.drop (j+1))
  have hc2:=Bn ts[j] l'
  refine ec hI h av al hj' (fun _ _=>RdT.length) fun cs' hcs'=>?_
  have hlc:=hcs'.length
  refine bH hI bN fun b6 w' hI=>?_
  refine bf hI 1 rfl al (by simpa using hlc) rfl (by simpa using hcs'.one) fun w' hI=>?_
  refine bb hI 1 al rfl (by simpa using hlc) ?_
  have hI:=hI.pick [true,false]
  refine Run.call (A:=[]) jI jG hI (l5 _ S cs' t3 l' hcs' (by omega)) fun v' I' S' w'=>?_
  rintro ⟨rfl,rfl⟩ _ hI
  refine bP (by omega) ?_
  exact ⟨⟨j+1,_,hj',rfl,hrel,by omega,hI⟩,by simp [intOf]; omega⟩
 ·have:j=ts.length:=by omega
  subst this
  rw [List.drop_length,eT] at hrel
  subst hrel
  exact ⟨_,_,_,rfl,hI,Ext.refl _ _ _,rfl,rfl⟩

end Go.Proofs.YtemmhhdnlbmicaaGreat

/- Flat clauses and programs, on both sides. -/
namespace Go.Proofs.YtemmhhdnlbmicaaGreat
open Go Go.RowKit
attribute [local irreducible] Run CondV ag be

section
variable {P:Program} {w w0:World} {X:List Nat} {L:List Item} {S:aF} {K:Value->World->Prop}
theorem OE {α:Type} {T Tf U ty ty' ty'' E:TypeId} {k f d:Nat} {R:List Value->α->Prop} {v:Value} {xs:List α} (hI:Inv w0 X L S w) (h:RdSl S k R v xs) (hu:dD P T=some (E,k)) (hf:fB P Tf f=some d) (hU:pf P U=true)
  {i:Nat} (hi:i<xs.length) (hk:∀ cs,R cs xs[i]->∃ u,cs[d]?=some u/\K u w) :
  Run P (sOp (.indexAddr T (.const v) (.const (.int .i64 i))) ty) w fun p w'=>Run P (sOp (.fieldAddr Tf (.const p) f) ty') w' fun q w''=>Run P (sOp (.load U (.const q)) ty'') w'' K:=by
 obtain ⟨b,o,cap,c,E',fz,rfl,hS,hR⟩:=h.at_ hi
 obtain ⟨u,hu',hK⟩:=hk _ hR
 refine bh hu hi ?_
 refine bg hf ?_
 refine dM hU ?_ hK
 rw [hI.cellS hS]
 exact bl rfl d u hu'
end
def iJ (u:T):Bool:=decide (u.kids.length=0)
def ew (t:T):Bool:=t.kids.all iJ && ef t
def gv (c:C):Bool:=ew c.head && (decide (c.body.length<=3) && (c.body.all ew && (gq c.head []).all fun n=>jg (eT c.body []) n))
def ei (p:List C):Bool:=nq p && p.all gv

theorem rn {t:T} {S:aF} {cs:List Value} (h:RdT S cs t):Pure Tryz.prog H7 [.agg cs.toArray] S (.bool (ew t)):=by
 intro w hI
 have h0:=h
 obtain ⟨kv,rfl,_,_,hs,hks⟩:=RdT.iff.1 h
 obtain ⟨k,n,s,ks⟩:=t
 simp only [T.name,T.kids,T.kind,T.n] at h0 hs hks ⊢
 have hlen:=hks.le
 simp only [maxLen] at hlen
 have hf:ew (.mk k n s ks)=(ks.all iJ && ef (.mk k n s ks)):=rfl
 refine yu ?_
 unfold tF
 refine bO hI fun b1 w' hI=>?_
 refine ⟨fun i w'=>∃ j:Nat,j<=ks.length/\i=.int .i64 j/\(ks.drop j).all iJ=ks.all iJ/\Inv w [] [.blk b1 (.cells #[.int .i64 k,.int .i64 n,.string s,kv] ac)] S w',
  fun i _=>ks.length - (intOf i).toNat,⟨0,Nat.zero_le _,rfl,rfl,hI⟩,?_⟩
 intro t3 _ _ _ _ _ _ _ _ _ _ _ _ _ _ _ _ w'
 rintro ⟨j,hj,rfl,hrel,hI⟩
 refine aJ hI 0 rfl aS aQ rfl ?_
 refine a9 hks av ?_
 refine bU ?_
 refine bk (fun hji=>?_) (fun hji=>?_)
 ·have hj':j<ks.length:=by omega
  have hstep:=mC iJ ks j hj'
  refine aJ hI 0 rfl aS aQ rfl ?_
  refine OE hI hks av aS aQ hj' fun cs' hcs'=>?_
  obtain ⟨kv',rfl,_,_,_,hkk⟩:=RdT.iff.1 hcs'
  refine ⟨kv',rfl,?_⟩
  refine a9 hkk av ?_
  refine dX ?_
  refine bk (fun hb=>done hI ?_) (fun hb=>?_)
  ·have:iJ ks[j]=false:=decide_eq_false (by omega)
   rw [hf,<- hrel,hstep,this]; rfl
  ·have:iJ ks[j]=true:=decide_eq_true (by omega)
   refine bP (by omega) ?_
   exact ⟨⟨j+1,hj',rfl,by rw [<- hrel,hstep,this]; rfl,hI⟩,by simp [intOf]; omega⟩
 ·have:j=ks.length:=by omega
  subst this
  refine bb hI 0 al rfl rfl ?_
  refine Run.callPure m9 mW hI (lZ h0) fun w' hI=>done hI ?_
  rw [hf,<- hrel,List.drop_length]; rfl
theorem Ai {t:T} {S:aF} {cs:List Value} (h:RdT S cs t):Pure Tryz.prog tj [.agg cs.toArray] S (.bool (!iJ t)):=by
 intro w hI
 obtain ⟨kv,rfl,_,_,hs,hks⟩:=RdT.iff.1 h
 obtain ⟨k,n,s,ks⟩:=t
 simp only [T.name,T.kids,T.kind,T.n] at hs hks ⊢
 refine wI ?_
 unfold rj
 refine bO hI fun b1 w' hI=>?_
 refine aJ hI 0 rfl aS aQ rfl ?_
 refine a9 hks av ?_
 refine dX (done hI ?_)
 congr 1
 show decide (0<(ks.length:Int))=!decide (ks.length=0)
 by_cases h:ks.length=0
 ·rw [decide_eq_true h,decide_eq_false (by omega)]; rfl
 ·rw [decide_eq_false h,decide_eq_true (by omega)]; rfl
theorem mX {t:T} {S:aF} {cs:List Value} (h:RdT S cs t):Pure Tryz.prog KJ [.agg cs.toArray] S (.bool (ew t)):=by
 intro w hI
 have h0:=h
 obtain ⟨kv,rfl,_,_,hs,hks⟩:=RdT.iff.1 h
 obtain ⟨k,n,s,ks⟩:=t
 simp only [T.name,T.kids,T.kind,T.n] at h0 hs hks ⊢
 rw [show ew (.mk k n s ks)=(ks.all iJ && ef (.mk k n s ks)) from rfl]
 refine A1 ?_
 unfold xE
 refine bO hI fun b1 w' hI=>?_
 refine bb hI 0 al rfl rfl ?_
 refine Run.callPure jz jF hI (iO h0) fun w' hI=>?_
 cases h1:ef (.mk k n s ks)
 ·repeat (first|refine ad ?_|refine af (by decide) ?_|refine ab ?_|refine ai ?_|refine ah ?_)
  exact done hI (by simp)
 ·repeat (first|refine ad ?_|refine af (by decide) ?_|refine ab ?_|refine ai ?_|refine ah ?_)
  refine aJ hI 0 rfl aS aQ rfl ?_
  have hcb:Cb Tryz.prog tj _ [] S (fun _:Unit=>[]) (fun _=>True) (fun _ x=>(!iJ x,())) (fun v x=>∃ cs,v=.agg cs.toArray/\RdT S cs x) ks:=
   Cb.pure [] B8 CC fun x v _=>by
    rintro ⟨cs,rfl,hcs⟩ w1 hI
    exact (Ai hcs w1 hI).mono fun e w' ⟨he,hI⟩=>⟨_,_,_,he,hI,Ext.refl _ _ _,rfl,rfl,rfl⟩
  refine Run.call0 dk dq hI (dG hcb hks (st:=()) trivial) fun v' I' S' w'=>?_
  rintro ⟨rfl,rfl,rfl⟩ _ hI
  refine cc ?_
  repeat (first|refine ad ?_|refine af (by decide) ?_|refine ab ?_|refine ai ?_|refine ah ?_)
  refine done hI ?_
  rw [eK (fun x=>!iJ x) ks,lI]; simp

theorem ID {t:T} (h:ir t=true):eO t 30=true:=by
 rw [ir,Bool.and_eq_true] at h
 exact p6 h.1
theorem xq:∀ {ts:List T},ts.all ir=true->eF ts 30=true
 | [],_=>rfl
 | t::ts,h=>by
  rw [List.all_cons,Bool.and_eq_true] at h
  rw [eF,ID h.1,xq h.2]; rfl
theorem GQ {c:C} (h:dJ c=true) (l:List Int):hG c.head l=gq c.head l/\gp c.body l=eT c.body l:=by
 simp only [dJ,Bool.and_eq_true] at h
 exact ⟨HY _ 30 _ (p6 h.2.2.1),zR _ 30 _ (xq h.2.1)⟩
theorem zm {c:C} {S:aF} {cs:List Value} (h:RdC S cs c) (hv:dJ c=true) (hw:wC c<=1048576):Pure Tryz.prog CM [.agg cs.toArray] S (.bool (gv c)):=by
 intro w hI
 obtain ⟨hd,ks,rfl,h1,h2⟩:=h
 have h1':=h1
 obtain ⟨kv,rfl,g1,g2,g3,g4⟩:=RdT.iff.1 h1
 have hlen:=h2.le
 simp only [maxLen] at hlen
 unfold wC at hw
 have hcl:=FQ c.body
 have hct:=Ah c.head
 have hsv:=fun l=>GQ hv l
 refine tx ?_
 unfold oj
 refine bO hI fun b1 w' hI=>?_
 refine ⟨fun t w'=>t=.bool (!(ew c.head && decide (c.body.length<=3)))/\Inv w [] [.blk b1 (.cells #[.int .i64 c.head.kind,.int .i64 c.head.n,.string c.head.name,kv,ks] aR)] S w',?_,?_⟩
 ·refine bg dh ?_
  refine fg hI 0 [.int .i64 c.head.kind,.int .i64 c.head.n,.string c.head.name,kv] al rfl rfl ?_ ?_
  ·intro j v hj
   match j with
   | 0|1|2|3=>exact hj
   | j+4=>simp at hj
  refine Run.callPure uM s5 hI (rn h1') fun w' hI=>?_
  refine cc ?_
  cases hf:ew c.head
  ·repeat (first|refine ad ?_|refine af (by decide) ?_|refine ab ?_|refine ai ?_|refine ah ?_)
   exact ⟨rfl,hI⟩
  ·repeat (first|refine ad ?_|refine af (by decide) ?_|refine ab ?_|refine ai ?_|refine ah ?_)
   refine aJ hI 0 rfl bp aQ rfl ?_
   refine a9 h2 av ?_
   refine dX ?_
   repeat (first|refine ad ?_|refine af (by decide) ?_|refine ab ?_|refine ai ?_|refine ah ?_)
   refine ⟨?_,hI⟩
   congr 1
   by_cases hl:c.body.length<=3
   ·rw [decide_eq_true hl,decide_eq_false (by omega)]; rfl
   ·rw [decide_eq_false hl,decide_eq_true (by omega)]; rfl
 intro t _ _ _ _ _ _ _ _ _ w'
 rintro ⟨rfl,hI⟩
 refine ba (fun hb=>done hI ?_) (fun hb=>?_)
 ·have hb':(ew c.head && decide (c.body.length<=3))=false:=by rw [Bool.not_eq_true'] at hb; exact hb
  rw [gv,<- Bool.and_assoc,hb']; rfl
 have hb':(ew c.head && decide (c.body.length<=3))=true:=by rw [Bool.not_eq_false'] at hb; exact hb
 have hfc:gv c=(c.body.all ew && (gq c.head []).all fun n=>jg (eT c.body []) n):=by
  rw [gv,<- Bool.and_assoc,hb']; rfl
 refine fk hI p9 fun v0 w' hI=>?_
 refine ⟨fun i t w'=>∃ (j:Nat) (l:List Int),j<=c.body.length/\i=.int .i64 j/\(c.body.drop j).all ew=c.body.all ew/\gp (c.body.drop j) l=gp c.body []/\l.length+eh (c.body.drop j)<=3000000/\
   Inv w [] [.blk b1 (.cells #[.int .i64 c.head.kind,.int .i64 c.head.n,.string c.head.name,kv,ks] aR),g0 t l] S w',
  fun i _ _=>c.body.length - (intOf i).toNat,⟨0,[],Nat.zero_le _,rfl,rfl,rfl,by simp only [List.drop_zero,List.length_nil]; omega,hI⟩,?_⟩
 intro t4 _ _ t3 _ _ _ _ _ _ _ _ _ _ _ _ _ _ _ _ _ _ _ _ w'
 rintro ⟨j,l,hj,rfl,hall,hvs,hl,hI⟩
 refine aJ hI 0 rfl bp aQ rfl ?_
 refine a9 h2 av ?_
 refine bU ?_
 refine bk (fun hji=>?_) (fun hji=>?_)
 ·have hj':j<c.body.length:=by omega
  have hstep:=mC ew c.body j hj'
  rw [kz c.body j hj'] at hl
  rw [List.drop_eq_getElem_cons hj',gp] at hvs
  have hc1:=fD (c.body.drop (j+1))
  have hc2:=wb c.body[j] l
  refine aJ hI 0 rfl bp aQ rfl ?_
  refine ec hI h2 av al hj' (fun _ _=>RdT.length) fun cs' hcs'=>?_
  refine Run.callPure uM s5 hI (rn hcs') fun w' hI=>?_
  refine cc ?_
  refine ba (fun hne=>done hI ?_) (fun he=>?_)
  ·have hne':ew c.body[j]=false:=by simpa using hne
   rw [hfc,<- hall,hstep,hne']; rfl
  ·have he':ew c.body[j]=true:=by simpa using he
   refine aJ hI 0 rfl bp aQ rfl ?_
   refine ec hI h2 av al hj' (fun _ _=>RdT.length) fun cs' hcs'=>?_
   refine Run.call (A:=[_]) pp pI hI (tn _ S cs' t3 l hcs' (by omega)) fun v' I' S' w'=>?_
   rintro ⟨rfl,rfl⟩ _ hI
   refine bP (by omega) ?_
   exact ⟨⟨j+1,_,hj',rfl,by rw [<- hall,hstep,he']; rfl,hvs,by omega,hI⟩,by simp [intOf]; omega⟩
 ·have:j=c.body.length:=by omega
  subst this
  rw [List.drop_length] at hall hvs
  have hvs':l=eT c.body []:=by rw [<- (hsv []).2,<- hvs,gp]
  have hfc2:gv c=(gq c.head []).all fun n=>jg l n:=by
   rw [hfc,<- hall,<- hvs']; rfl
  refine bg dh ?_
  refine fg hI 0 [.int .i64 c.head.kind,.int .i64 c.head.n,.string c.head.name,kv] al rfl rfl ?_ ?_
  ·intro j v hj
   match j with
   | 0|1|2|3=>exact hj
   | j+4=>simp at hj
  have hI:=hI.rowNil fx 1
  refine Run.call (A:=[_,_]) pp pI hI (tn _ S _ (.slice none 0 0) [] h1' (by simp only [List.length_nil]; omega)) fun v' I' S w'=>?_
  rintro ⟨rfl,rfl⟩ _ hI
  rw [(hsv []).1] at hI
  generalize gq c.head []=hv at hI hfc2
  obtain ⟨S1,hle1,hrd1,hI,hback1⟩:=Inv.lend (A:=[_,_]) hI
  obtain ⟨S2,hle2,hrd2,hI,hback2⟩:=Inv.lend (A:=[_]) hI
  have hr1:=hrd1.ints.mono hle2 fun _ _ h=>h
  have hr2:=hrd2.ints
  have hle:Sle S S2:=hle1.trans hle2
  have hlv:=hr1.le
  simp only [maxLen] at hlv
  refine ⟨fun i w'=>∃ j:Nat,j<=hv.length/\i=.int .i64 j/\(hv.drop j).all (fun n=>jg l n)=hv.all (fun n=>jg l n)/\Inv w [] [.blk b1 (.cells #[.int .i64 c.head.kind,.int .i64 c.head.n,.string c.head.name,kv,ks] aR)] S2 w',
   fun i _=>hv.length - (intOf i).toNat,⟨0,Nat.zero_le _,rfl,rfl,hI⟩,?_⟩
  intro t6 _ _ _ _ _ _ _ _ _ _ _ _ _ _ w'
  rintro ⟨j,hj,rfl,hall,hI⟩
  refine a9 hr1 fU ?_
  refine bU ?_
  refine bk (fun hji=>?_) (fun hji=>?_)
  ·have hj':j<hv.length:=by omega
   have hstep:=mC (fun n=>jg l n) hv j hj'
   refine jD hI hr1 fU bn hj' (fun cs hcs=>hcs) ?_
   refine Run.callPure Kh Kg hI (GS hv[j] hr2) fun w' hI=>?_
   refine cc ?_
   refine ba (fun hne=>gQ hI hle ?_) (fun he=>?_)
   ·have hne':jg l hv[j]=false:=by simpa using hne
    rw [hfc2,<- hall,hstep,hne']; rfl
   ·have he':jg l hv[j]=true:=by simpa using he
    refine bP (by omega) ?_
    exact ⟨⟨j+1,hj',rfl,by rw [<- hall,hstep,he']; rfl,hI⟩,by simp [intOf]; omega⟩
  ·have:j=hv.length:=by omega
   subst this
   refine gQ hI hle ?_
   rw [hfc2,<- hall,List.drop_length]; rfl

theorem rF {t:T} {S:aF} {cs:List Value} (h:RdT S cs t):Pure Tryz.prog l8 [.agg cs.toArray] S (.bool (!ew t)):=by
 intro w hI
 have hl:=h.length
 refine ou ?_
 unfold lN
 refine bO hI fun b1 w' hI=>?_
 refine bb hI 0 al rfl (by simpa [Value.cells] using hl) ?_
 refine Run.callPure pL pn hI (mX h) fun w' hI=>?_
 exact cc (done hI rfl)
theorem vk {c:C} {S:aF} {cs:List Value} (h:RdC S cs c) (hw:wC c<=1048576):Pure Tryz.prog zT [.agg cs.toArray] S (.bool (gv c)):=by
 intro w hI
 obtain ⟨hd,ks,rfl,h1,h2⟩:=h
 have h1':=h1
 obtain ⟨kv,rfl,g1,g2,g3,g4⟩:=RdT.iff.1 h1
 have hlen:=h2.le
 simp only [maxLen] at hlen
 unfold wC at hw
 have hcl:=FQ c.body
 have hct:=Ah c.head
 refine rK ?_
 unfold nL;dsimp only
 refine bO hI fun b1 w' hI=>?_
 have hcb:Cb Tryz.prog l8 _ [] S (fun _:Unit=>[]) (fun _=>True) (fun _ x=>(!ew x,())) (fun v x=>∃ cs,v=.agg cs.toArray/\RdT S cs x) c.body:=
  Cb.pure [] tC tv fun x v _=>by
   rintro ⟨cs,rfl,hcs⟩ w1 hI
   exact (rF hcs w1 hI).mono fun e w' ⟨he,hI⟩=>⟨_,_,_,he,hI,Ext.refl _ _ _,rfl,rfl,rfl⟩
 refine ⟨fun t w'=>t=.bool (!(ew c.head && (decide (c.body.length<=3) && c.body.all ew)))/\Inv w [] [.blk b1 (.cells #[.int .i64 c.head.kind,.int .i64 c.head.n,.string c.head.name,kv,ks] aR)] S w',?_,?_⟩
 ·refine bg dh ?_
  refine fg hI 0 [.int .i64 c.head.kind,.int .i64 c.head.n,.string c.head.name,kv] al rfl rfl ?_ ?_
  ·intro j v hj
   match j with
   | 0|1|2|3=>exact hj
   | j+4=>simp at hj
  refine Run.callPure pL pn hI (mX h1') fun w' hI=>?_
  refine cc ?_
  cases hf:ew c.head
  ·repeat (first|refine ad ?_|refine af (by decide) ?_|refine ab ?_|refine ai ?_|refine ah ?_)
   exact ⟨rfl,hI⟩
  ·repeat (first|refine ad ?_|refine af (by decide) ?_|refine ab ?_|refine ai ?_|refine ah ?_)
   refine aJ hI 0 rfl bp aQ rfl ?_
   refine a9 h2 av ?_
   refine dX ?_
   by_cases hl:c.body.length<=3
   ·rw [decide_eq_true hl,decide_eq_false (show ¬ (3:Int)<c.body.length by omega)]
    repeat (first|refine ad ?_|refine af (by decide) ?_|refine ab ?_|refine ai ?_|refine ah ?_)
    refine aJ hI 0 rfl bp aQ rfl ?_
    refine Run.call0 dk dq hI (dG hcb h2 (st:=()) trivial) fun v' I' S' w'=>?_
    rintro ⟨rfl,rfl,rfl⟩ _ hI
    repeat (first|refine ad ?_|refine af (by decide) ?_|refine ab ?_|refine ai ?_|refine ah ?_)
    refine ⟨?_,by rw [List.append_nil] at hI; exact hI⟩
    rw [eK (fun x=>!ew x) c.body,<- lI]; simp
   ·rw [decide_eq_false hl,decide_eq_true (show (3:Int)<c.body.length by omega)]
    repeat (first|refine ad ?_|refine af (by decide) ?_|refine ab ?_|refine ai ?_|refine ah ?_)
    exact ⟨rfl,hI⟩
 intro t _ _ _ _ _ _ _ _ _ _ _ _ _ _ w'
 rintro ⟨rfl,hI⟩
 refine ba (fun hb=>done hI ?_) (fun hb=>?_)
 ·have hb':(ew c.head && (decide (c.body.length<=3) && c.body.all ew))=false:=by rw [Bool.not_eq_true'] at hb; exact hb
  rw [gv]
  rw [<- Bool.and_assoc,<- Bool.and_assoc,Bool.and_assoc (ew c.head),hb']; rfl
 have hb':(ew c.head && (decide (c.body.length<=3) && c.body.all ew))=true:=by rw [Bool.not_eq_false'] at hb; exact hb
 have hfc:gv c=(gq c.head []).all fun n=>jg (eT c.body []) n:=by
  rw [gv]
  rw [<- Bool.and_assoc,<- Bool.and_assoc,Bool.and_assoc (ew c.head),hb']; rfl
 refine aJ hI 0 rfl bp aQ rfl ?_
 refine Run.call0 G6 HN hI (FB h2 (by omega)) fun v1 I' S w'=>?_
 rintro ⟨rfl,rfl⟩ _ hI
 generalize eT c.body []=l at hI hfc
 refine bH hI OS fun b3 w' hI=>?_
 have hv1:v1.cells=#[v1]/\v1.oneCell'=true:=by
  have:=hI.its (g0 v1 l) (by simp)
  rcases this.2 with ⟨rfl,_⟩|⟨g,cap,cur,rfl,_⟩ <;> exact ⟨rfl,rfl⟩
 refine eq hI 2 (n:=1) (by rw [hv1.1]; rfl) (by rw [Lb]; rfl) rfl (Nat.le_of_ble_eq_true rfl) (by rw [hv1.1]; simpa using hv1.2) fun w' hI=>?_
 refine bg dh ?_
 refine fg hI 0 [.int .i64 c.head.kind,.int .i64 c.head.n,.string c.head.name,kv] al rfl rfl ?_ ?_
 ·intro j v hj
  match j with
  | 0|1|2|3=>exact hj
  | j+4=>simp at hj
 have hI:=hI.rowNil fx 1
 refine Run.call (A:=[_,_,_]) jI jG hI (l5 _ S _ (.slice none 0 0) [] h1' (by simp only [List.length_nil]; omega)) fun v' I' S w'=>?_
 rintro ⟨rfl,rfl⟩ _ hI
 generalize gq c.head []=hv at hI hfc
 refine g7 ?_
 have hst:bw (Value.slice none 0 0).cells 0 v1.cells.toList=#[v1]:=by
  rw [hv1.1]; rfl
 have hI:Inv w [] ([.blk b1 (.cells #[.int .i64 c.head.kind,.int .i64 c.head.n,.string c.head.name,kv,ks] aR),g0 v1 l,.blk b3 (.cells #[v1] rX),g0 v' hv]) S w':=by
  have:=hI
  simp only [List.cons_append,List.nil_append] at this
  rw [hst] at this
  exact this
 obtain ⟨S1,hle1,hrd1,hI,hback1⟩:=Inv.lend (A:=[_,_,_]) hI
 have hI:=hI.perm (M:=[.blk b1 (.cells #[.int .i64 c.head.kind,.int .i64 c.head.n,.string c.head.name,kv,ks] aR),.blk b3 (.cells #[v1] rX),g0 v1 l]) (List.Perm.cons _ (List.Perm.swap _ _ _))
 obtain ⟨S2,hle2,hrd2,hI,hback2⟩:=Inv.lend (A:=[_,_]) hI
 have hr1:=hrd1.ints.mono hle2 fun _ _ h=>h
 have hr2:=hrd2.ints
 have hle:Sle S S2:=hle1.trans hle2
 have hcb2:Cb Tryz.prog we _ [.pointer (some ⟨b3,0,none⟩)] S2 (fun _:Unit=>[.blk b3 (.cells #[v1] rX)]) (fun _=>True) (fun _ x=>(!jg l x,())) (fun v x=>v=.int .i64 x) hv:=
  Cb.pure [.blk b3 (.cells #[v1] rX)] ur sJ fun x v _=>by
   rintro rfl w1 hI
   refine p5 ?_
   unfold lE
   refine bE hI 0 Lb rfl rfl ?_
   refine Run.callPure lQ kT hI (ko x hr2) fun w' hI=>?_
   refine cc ?_
   exact ⟨_,_,_,rfl,hI,Ext.refl _ _ _,rfl,rfl,rfl⟩
 refine Run.call (A:=[_]) nW od hI (qx hcb2 hr1 (st:=()) trivial) fun v' I' S' w'=>?_
 rintro ⟨rfl,rfl,rfl⟩ _ hI
 refine cc ?_
 refine gQ hI hle ?_
 rw [eK (fun x=>!jg l x) hv,lI,hfc]

theorem g5 {p:List C} {S:aF} {v:Value} (h:RdSl S 5 (RdC S) v p) (hw:wP p<=1048576):Pure Tryz.prog yp [v] S (.bool (ei p)):=by
 intro w hI
 have hlen:=h.le
 simp only [maxLen] at hlen
 refine qk ?_
 unfold l9
 refine ⟨fun i w'=>∃ j:Nat,j<=p.length/\i=.int .i64 j/\(p.drop j).all gv=p.all gv/\Inv w [] [] S w',fun i _=>p.length - (intOf i).toNat,⟨0,Nat.zero_le _,rfl,rfl,hI⟩,?_⟩
 intro t3 _ _ _ _ _ _ _ _ _ _ _ _ _ _ _ _ _ w'
 rintro ⟨j,hj,rfl,hall,hI⟩
 refine ⟨fun t w'=>t=.bool (decide (j<p.length) && nq p)/\Inv w [] [] S w',?_,?_⟩
 ·refine a9 h c4 ?_
  refine bU ?_
  by_cases hji:j<p.length
  ·rw [decide_eq_true (show (j:Int)<p.length by omega),decide_eq_true hji]
   repeat (first|refine ad ?_|refine af (by decide) ?_|refine ab ?_|refine ai ?_|refine ah ?_)
   refine Run.callPure kW lc hI (iY h hw) fun w' hI=>?_
   repeat (first|refine ad ?_|refine af (by decide) ?_|refine ab ?_|refine ai ?_|refine ah ?_)
   exact ⟨rfl,hI⟩
  ·rw [decide_eq_false (show ¬ (j:Int)<p.length by omega),decide_eq_false hji]
   repeat (first|refine ad ?_|refine af (by decide) ?_|refine ab ?_|refine ai ?_|refine ah ?_)
   exact ⟨rfl,hI⟩
 intro t _ _ _ _ _ _ _ w'
 rintro ⟨rfl,hI⟩
 refine ba (fun hb=>?_) (fun hb=>?_)
 ·simp only [Bool.and_eq_true,decide_eq_true_eq] at hb
  obtain ⟨hj',hpv⟩:=hb
  have hstep:=mC gv p j hj'
  have hwm:=FU (List.getElem_mem hj')
  have hcv:dJ p[j]=true:=by
   simp only [nq,Bool.and_eq_true,List.all_eq_true] at hpv
   exact hpv.2 _ (List.getElem_mem hj')
  refine ec hI h c4 bF hj' (fun _ _=>RdC.length) fun cs' hcs'=>?_
  refine Run.callPure zQ Bh hI (zm hcs' hcv (by omega)) fun w' hI=>?_
  refine cc ?_
  refine ba (fun hne=>done hI ?_) (fun he=>?_)
  ·have hne':gv p[j]=false:=by simpa using hne
   rw [ei,<- hall,hstep,hne']; simp
  ·have he':gv p[j]=true:=by simpa using he
   refine bP (by omega) ?_
   exact ⟨⟨j+1,hj',rfl,by rw [<- hall,hstep,he']; rfl,hI⟩,by simp [intOf]; omega⟩
 ·refine Run.callPure kW lc hI (iY h hw) fun w' hI=>done hI ?_
  rw [ei]
  by_cases hji:j<p.length
  ·rw [decide_eq_true hji,Bool.true_and] at hb
   rw [hb]; rfl
  ·rw [<- hall,List.drop_of_length_le (by omega)]; simp
theorem oi {c:C} {S:aF} {cs:List Value} (h:RdC S cs c) (hw:wC c<=1048576):Pure Tryz.prog lJ [.agg cs.toArray] S (.bool (!gv c)):=by
 intro w hI
 have hl:=h.length
 refine n6 ?_
 unfold ki
 refine bO hI fun b1 w' hI=>?_
 refine bb hI 0 bF rfl (by simpa [Value.cells] using hl) ?_
 refine Run.callPure zi y8 hI (vk h hw) fun w' hI=>?_
 exact cc (done hI rfl)
theorem g6 {p:List C} {S:aF} {v:Value} (h:RdSl S 5 (RdC S) v p) (hw:wP p<=1048576):Pure Tryz.prog yQ [v] S (.bool (ei p)):=by
 intro w hI
 refine qv ?_
 unfold mz
 refine Run.callPure lK ll hI (ju h) fun w' hI=>?_
 rw [ei]
 cases hv:nq p
 ·repeat (first|refine ad ?_|refine af (by decide) ?_|refine ab ?_|refine ai ?_|refine ah ?_)
  exact done hI rfl
 ·repeat (first|refine ad ?_|refine af (by decide) ?_|refine ab ?_|refine ai ?_|refine ah ?_)
  have hcb:Cb Tryz.prog lJ _ [] S (fun _:Unit=>[]) (fun _=>True) (fun _ x=>(!gv x,())) (fun v x=>∃ cs,v=.agg cs.toArray/\RdC S cs x) p:=
   Cb.pure [] rM rY fun x v hx=>by
    rintro ⟨cs,rfl,hcs⟩ w1 hI
    have hwm:=FU hx
    exact (oi hcs (by omega) w1 hI).mono fun e w' ⟨he,hI⟩=>⟨_,_,_,he,hI,Ext.refl _ _ _,rfl,rfl,rfl⟩
  refine Run.call0 fp fo hI (fY hcb h (st:=()) trivial) fun v' I' S' w'=>?_
  rintro ⟨rfl,rfl,rfl⟩ _ hI
  refine cc ?_
  repeat (first|refine ad ?_|refine af (by decide) ?_|refine ab ?_|refine ai ?_|refine ah ?_)
  refine done hI ?_
  rw [eK (fun x=>!gv x) p,lI]; rfl

end Go.Proofs.YtemmhhdnlbmicaaGreat

/- The row's reading of the arguments gives the reading of this proof; and what a law that returns true owes. -/
namespace Go.Proofs.YtemmhhdnlbmicaaGreat
open Go Go.ChangeShapes Go.WideShapes Go.ChangeAt Go.RowKit

def Ll (W:World):aF:=fun b=>W.heap[b]?
section
variable {H:Type} {enc:TypeId × Value->H} {P:Program} {W:World} {sp:Nat->Bool} {held:Bool}
theorem LV {a:Addr} {v:Value} (h:W.cell? a=some v):∃ b o c E fz,a=⟨b,o,none⟩/\W.heap[b]?=some (.cells c E fz)/\c[o]?=some v:=by
 obtain ⟨b,o,s⟩:=a
 simp only [World.cell?] at h
 split at h
 ·rename_i c E fz hb
  cases s with
  | none=>exact ⟨b,o,c,E,fz,rfl,hb,by simpa using h⟩
  | some s=>simp at h
 ·cases h
theorem NB {b o k:Nat} {cs:List Value} {c:Array Value} {E:TypeId} {fz:Nat × Nat} (hb:W.heap[b]?=some (.cells c E fz)) (h:W.cells? 0 ⟨b,o,none⟩ k=some cs):bv c o k=cs:=by
 unfold World.cells? at h
 rw [if_pos (Nat.zero_le _)] at h
 have hl:cs.length=k:=by simpa using mapM_some_length h
 apply List.ext_getElem?
 intro i
 rw [bv,List.getElem?_take]
 by_cases hi:i<k
 ·rw [if_pos hi,List.getElem?_drop]
  have:=mapM_some_get h i i (by simp [hi])
  rw [<- this,gi]
  simp [World.cell?,hb]
 ·rw [if_neg hi,List.getElem?_eq_none (by omega)]
theorem yj {α:Type} (p:Nat->α->Prop):∀ n:Nat,(∀ i,i<n->∃ t,p i t)->∃ xs:List α,xs.length=n/\∀ i (h:i<xs.length),p i xs[i]
 | 0,_=>⟨[],rfl,fun i h=>by simp at h⟩
 | n+1,h=>by
  obtain ⟨xs,hl,hx⟩:=yj p n fun i hi=>h i (by omega)
  obtain ⟨t,ht⟩:=h n (by omega)
  refine ⟨xs++[t],by simp [hl],fun i hi=>?_⟩
  by_cases e:i<xs.length
  ·rw [List.getElem_append_left e]
   exact hx i e
  ·have:i=xs.length:=by simp at hi; omega
   subst this
   simp only [List.getElem_append_right (Nat.le_refl _),Nat.sub_self,List.getElem_cons_zero]
   rw [hl]
   exact ht
theorem lm {T e:TypeId} {k:Nat} (h:dD P T=some (e,k)):P.underlying T=some (.slice e)/\P.cellsOf e=k:=by
 unfold dD at h
 split at h
 ·rename_i e' he
  rw [Option.map_eq_some_iff] at h
  obtain ⟨i,hi,hx⟩:=h
  simp only [Prod.mk.injEq] at hx
  obtain ⟨rfl,rfl⟩:=hx
  exact ⟨he,by simp [Program.cellsOf,hi]⟩
 ·cases h
theorem OO {α:Type} {R:List Value->α->Prop} {T e:TypeId} {k fuel:Nat} {v:Value} {x:DataW H × List MemPlace} (hu:dD P T=some (e,k)) (hk0:0<k)
  (h:DataW.trod enc P W 0 sp held fuel T [v]=some x) (hel:∀ n cs y,fuel=n+1->DataW.trod enc P W 0 sp held n e cs=some y->∃ t:α,R cs t):∃ xs,RdSl (Ll W) k R v xs:=by
 obtain ⟨hu1,hk⟩:=lm hu
 rcases DataW.trod_slice hu1 h with ⟨hcs,_⟩|⟨a,len,cap,elems,rest,n,hf,hcs,_,_,hl,hc,hlen,hE,_⟩
 ·simp only [List.cons.injEq,and_true] at hcs
  subst hcs
  exact ⟨[],none,0,rfl,Nat.le_refl _,Nat.zero_le _,.inl rfl⟩
 ·simp only [List.cons.injEq,and_true] at hcs
  subst hcs
  have hE':∀ i,i<len->∃ t:α,∃ cs,W.cells? 0 (a.add (i * k)) k=some cs/\R cs t:=by
   intro i hi
   have:=hE i hi
   rw [hk,List.getElem?_eq_getElem (by omega),Option.bind_eq_some_iff] at this
   obtain ⟨cs,h1,h2⟩:=this
   obtain ⟨t,ht⟩:=hel n cs _ hf h2
   exact ⟨t,cs,h1,ht⟩
  obtain ⟨xs,hxl,hxs⟩:=yj _ len hE'
  subst hxl
  refine ⟨xs,some a,cap,rfl,hl,hc,?_⟩
  by_cases h0:xs.length=0
  ·exact .inl (List.eq_nil_of_length_eq_zero h0)
  ·obtain ⟨cs0,h1,_⟩:=hxs 0 (by omega)
   have e0:a.add (0 * k)=a:=by rw [Nat.zero_mul]; simp [Addr.add]
   rw [e0] at h1
   have hc0:∃ u,W.cell? a=some u:=by
    unfold World.cells? at h1
    rw [if_pos (Nat.zero_le _)] at h1
    have hl0:cs0.length=k:=by simpa using mapM_some_length h1
    have:=mapM_some_get h1 0 0 (by simp [hk0])
    rw [List.getElem?_eq_getElem (by omega)] at this
    have e1:a.add 0=a:=by simp [Addr.add]
    rw [e1] at this
    exact ⟨_,this⟩
   obtain ⟨u,hu0⟩:=hc0
   obtain ⟨b,o,c,E,fz,rfl,hb,_⟩:=LV hu0
   refine .inr ⟨b,o,c,E,fz,rfl,hb,fun i hi=>?_⟩
   obtain ⟨cs,h2,hR⟩:=hxs i hi
   rw [gi] at h2
   rw [NB hb h2]
   exact hR
end

section
variable {H:Type} {enc:TypeId × Value->H} {W:World} {sp:Nat->Bool} {held:Bool}
end

theorem Inv.entry (W:World):Inv W [] [] (Ll W) W:=Inv.start (L:=[]) (by simp) (by simp [bY]) fun b o hb=>⟨hb,by simp [bY]⟩
theorem Inv.same {W W':World} {L:List Item} {S:aF} (h:Inv W [] L S W') (b:Nat) (hb:b<W.heap.size):W'.heap[b]?=W.heap[b]?:=h.old b hb (by simp)
theorem MF {W W':World} {may:MemPlace->Prop} (ho:W'.os=W.os) (hp:W'.output=W.output) (h:∀ b,b<W.heap.size->W'.heap[b]?=W.heap[b]?):W.keptBut W' may:=by
 refine ⟨ho,hp,fun i hi=>?_⟩
 rw [h i hi]
 split
 ·rename_i e1 e2
  rw [e1] at e2
  simp only [Option.some.injEq,Obj.cells.injEq] at e2
  obtain ⟨rfl,rfl,rfl⟩:=e2
  exact ⟨rfl,rfl,rfl,fun _ _=>rfl⟩
 ·rename_i e1 e2
  rw [e1] at e2
  simp only [Option.some.injEq,Obj.map.injEq] at e2
  obtain ⟨rfl,rfl⟩:=e2
  exact .inr ⟨rfl,rfl⟩
 ·rfl

end Go.Proofs.YtemmhhdnlbmicaaGreat

/- The sizes: laws.szTerm and its kin. -/
namespace Go.Proofs.YtemmhhdnlbmicaaGreat
open Go Go.RowKit
attribute [local irreducible] Run CondV ag be


end Go.Proofs.YtemmhhdnlbmicaaGreat

/- Equality of terms and clauses as the laws ask it. -/
namespace Go.Proofs.YtemmhhdnlbmicaaGreat
open Go Go.RowKit
attribute [local irreducible] Run CondV ag be

mutual
def eqT:T->T->Bool
 | .mk k n s ks,.mk k' n' s' ks'=>decide (k=k') && (decide (n=n') && (decide (s=s') && eqL ks ks'))
def eqL:List T->List T->Bool
 | [],[]=>true
 | t::ts,u::us=>eqT t u && eqL ts us
 | _,_=>false
end
mutual
theorem jJ:∀ a b:T,eqT a b=true↔a=b
 | .mk k n s ks,.mk k' n' s' ks'=>by
  simp only [eqT,Bool.and_eq_true,decide_eq_true_eq,EU ks ks',T.mk.injEq]
theorem EU:∀ a b:List T,eqL a b=true↔a=b
 | [],[]=>by simp [eqL]
 | [],_::_=>by simp [eqL]
 | _::_,[]=>by simp [eqL]
 | t::ts,u::us=>by
  simp only [eqL,Bool.and_eq_true,jJ t u,EU ts us,List.cons.injEq]
end
theorem K1:∀ {a b:List T},a.length≠b.length->eqL a b=false:=by
 intro a b h
 rw [<- Bool.not_eq_true,EU]
 rintro rfl
 exact h rfl
theorem NC {a b c d e:Value}:∀ (j:Nat) (v:Value),([a,b,c,d]:List Value)[j]?=some v->(#[a,b,c,d,e]:Array Value)[0+j]?=some v
 | 0,_,h|1,_,h|2,_,h|3,_,h=>h
 | j+4,_,h=>by simp at h

end Go.Proofs.YtemmhhdnlbmicaaGreat

/- The sizes of clauses and of programs, and what they bound. -/
namespace Go.Proofs.YtemmhhdnlbmicaaGreat
open Go Go.RowKit
attribute [local irreducible] Run CondV ag be

/- toClauseS, and what it made published -/
end Go.Proofs.YtemmhhdnlbmicaaGreat

/- The laws' marks: laws.markText. -/
namespace Go.Proofs.YtemmhhdnlbmicaaGreat
open Go Go.RowKit
section
variable {P:Program} {w w0:World} {X:List Nat} {L:List Item} {S:aF} {K:Value->World->Prop}
attribute [local irreducible] Run CondV ag be
theorem Lf {T U ty:TypeId} {k k':IntKind} {n:Int} (hT:P.underlying T=some (.int k')) (hU:P.underlying U=some (.int k)) (hk:K (.int k (k.wrap n)) w):Run P (sOp (.convert T U (.const (.int k' n))) ty) w K:=
 Run.of (by simp [sOp,execOp,ev0,evE,convert,Conv.intToInt,run_underlying hT,run_underlying hU]) hk
end

section
attribute [local irreducible] Run CondV ag be
end

end Go.Proofs.YtemmhhdnlbmicaaGreat

/- The laws' marks, written into trees of the function's own. -/
namespace Go.Proofs.YtemmhhdnlbmicaaGreat
open Go Go.RowKit

theorem Part.upd {α:Type} {k:Nat} {R:bG->List Value->α->Prop} {c c':Array Value} {Ls:List bG} {xs:List α} (h:Part k R c Ls xs) {i:Nat} {L':bG} {x:α} (hx:R L' (bv c' (i * k) k) x)
  (hne:∀ j,j≠i->bv c' (j * k) k=bv c (j * k) k):Part k R c' (Ls.set i L') (xs.set i x):=by
 refine ⟨by simp [h.1],fun j h1 h2=>?_⟩
 by_cases e:i=j
 ·subst e
  rw [List.getElem_set_self,List.getElem_set_self]
  exact hx
 ·rw [List.getElem_set_ne e,List.getElem_set_ne e,hne j fun e'=>e e'.symm]
  exact h.2 j (by simpa using h1) (by simpa using h2)
section
attribute [local irreducible] Run CondV ag be
end

end Go.Proofs.YtemmhhdnlbmicaaGreat

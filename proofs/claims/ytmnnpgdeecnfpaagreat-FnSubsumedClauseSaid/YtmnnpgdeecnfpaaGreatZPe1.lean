/- Goals, clauses, programs, queries: which are valid, on both sides. -/
import Derived.Test.YtmnnpgdeecnfpaaGreatZPe0
import Derived.Test.YtmnnpgdeecnfpaaGreatRows
import Derived.ProofKit
import Derived.ReadAgain
import Derived.Carry
import Derived.Test.YtmnnpgdeecnfpaaGreatData
import Derived.Test.YtmnnpgdeecnfpaaGreatZPeF
import Derived.Test.YtmnnpgdeecnfpaaGreatZPeh1
import Derived.Laws.BytesArg
import Derived.Laws.StructEq
import Derived.Laws.Tables
namespace Go.Proofs.YtmnnpgdeecnfpaaGreat
open Go Go.RowKit
section
variable {P:Program} {w:World} {K:Value->World->Prop} {ty:TypeId}
theorem ae {b:Bool} {A B:Prop} (h:B):GuardV undef b A B:=by unfold GuardV; exact h
theorem ai {v u:Value} (hk:K v w):Run P (sOp (.pick (.const (.bool true)) (.const v) (.const u)) ty) w K:=r_pick hk
theorem ah {v u:Value} (hk:K u w):Run P (sOp (.pick (.const (.bool false)) (.const v) (.const u)) ty) w K:=r_pick hk
end
attribute [local irreducible] Run CondV GuardV LoadV

def oP:List ByteArray:=[⟨#[61]⟩,⟨#[92,61]⟩,⟨#[61,61]⟩,⟨#[60]⟩,⟨#[62]⟩,⟨#[61,60]⟩,⟨#[62,61]⟩,⟨#[61,58,61]⟩,⟨#[105,115]⟩]
def ij:List ByteArray:=[⟨#[116,114,117,101]⟩,⟨#[102,97,105,108]⟩]
def nr:List ByteArray:=[⟨#[118,97,114]⟩,⟨#[110,111,110,118,97,114]⟩,⟨#[97,116,111,109]⟩,⟨#[105,110,116]⟩]
def tN:List ByteArray:=[⟨#[43]⟩,⟨#[45]⟩]
def ot:List ByteArray:=[⟨#[42]⟩,⟨#[47,47]⟩,⟨#[109,111,100]⟩]
def bN (s:ByteArray) (l:List ByteArray):Bool:=l.any fun x=>decide (s=x)
def cm (s:ByteArray) (n:Int):Bool:=
 if bN s oP=true then decide (n=2)
 else if bN s ij=true then decide (n=0)
 else if bN s nr=true then decide (n=1)
 else if s=⟨#[97,114,103]⟩ then decide (n=3)
 else false
def aU (s:ByteArray):Int:=if bN s oP=true then 3 else if bN s tN=true then 2 else if bN s ot=true then 1 else 0
def sT (t:T):Bool:=decide (t.kind=3) && (decide (t.name=⟨#[33]⟩) && decide (t.kids.length=0))
def wX (t:T):Bool:=decide (t.kind=3) && decide (t.kids.length=0)
def iq (t:T):Bool:=decide (t.kind=3) && cm t.name t.kids.length
def dc (t:T):Bool:=decide (t.kind=3) && (dH t.name && (!cm t.name t.kids.length && decide (aU t.name=0)))
def di (t:T):Bool:=bn t && (sT t || (dc t || iq t))
def aO (c:C):Bool:=decide (c.body.length<=6) && (c.body.all di && (bn c.head && dc c.head))
def qy (l:List T):Bool:=decide (l.length<=6) && l.all di
theorem uP (s:ByteArray):(!decide (0<aU s))=decide (aU s=0):=by
 unfold aU
 split
 ·rfl
 ·split
  ·rfl
  ·split <;> rfl

theorem ei (s:ByteArray) (n:Int) (S:Store):Pure Tryz.prog pj [.string s,.int .i64 n] S (.bool (cm s n)):=by
 intro w hI
 refine jL ?_
 unfold fT
 obtain ⟨q,hq⟩:∃ q,bN s oP=q:=⟨_,rfl⟩
 have hq1:=hq
 refine ⟨fun t w'=>t=.bool q/\Inv w [] [] S w',?_,?_⟩
 ·unfold bN oP at hq
  iterate 8
   refine r_seql ?_
   refine condV (fun h=>⟨by rw [List.any_cons,h] at hq; rw [h,<- hq]; rfl,hI⟩) (fun h=>?_)
   rw [List.any_cons,h,Bool.false_or] at hq
  refine r_seql ⟨?_,hI⟩
  rw [<- hq]; simp
 intro t _ _ _ _ _ _ _ _ _ w'
 rintro ⟨rfl,hI⟩
 refine condV (fun h=>?_) (fun h=>?_)
 ·exact r_eql (done hI (by rw [cm,if_pos (hq1.trans h)]))
 have e1:cm s n=if bN s ij=true then decide (n=0) else if bN s nr=true then decide (n=1) else if s=⟨#[97,114,103]⟩ then decide (n=3) else false:=by
  rw [cm,if_neg (by rw [hq1,h]; decide)]
 clear hq hq1 h
 obtain ⟨q,hq⟩:∃ q,bN s ij=q:=⟨_,rfl⟩
 have hq1:=hq
 refine ⟨fun t w'=>t=.bool q/\Inv w [] [] S w',?_,?_⟩
 ·unfold bN ij at hq
  refine r_seql ?_
  refine condV (fun h=>⟨by rw [List.any_cons,h] at hq; rw [h,<- hq]; rfl,hI⟩) (fun h=>?_)
  rw [List.any_cons,h,Bool.false_or] at hq
  refine r_seql ⟨?_,hI⟩
  rw [<- hq]; simp
 intro _ t _ w'
 rintro ⟨rfl,hI⟩
 refine condV (fun h=>?_) (fun h=>?_)
 ·exact r_eql (done hI (by rw [e1,if_pos (hq1.trans h)]))
 rw [if_neg (by rw [hq1,h]; decide)] at e1
 clear hq hq1 h
 obtain ⟨q,hq⟩:∃ q,bN s nr=q:=⟨_,rfl⟩
 have hq1:=hq
 refine ⟨fun t w'=>t=.bool q/\Inv w [] [] S w',?_,?_⟩
 ·unfold bN nr at hq
  iterate 3
   refine r_seql ?_
   refine condV (fun h=>⟨by rw [List.any_cons,h] at hq; rw [h,<- hq]; rfl,hI⟩) (fun h=>?_)
   rw [List.any_cons,h,Bool.false_or] at hq
  refine r_seql ⟨?_,hI⟩
  rw [<- hq]; simp
 intro _ _ _ t _ w'
 rintro ⟨rfl,hI⟩
 refine condV (fun h=>?_) (fun h=>?_)
 ·exact r_eql (done hI (by rw [e1,if_pos (hq1.trans h)]))
 rw [if_neg (by rw [hq1,h]; decide)] at e1
 refine r_seql ?_
 refine condP (fun h=>?_) (fun h=>?_)
 ·exact r_eql (done hI (by rw [e1,if_pos h]))
 ·exact done hI (by rw [e1,if_neg h])
theorem ld (s:ByteArray) (n:Int) (S:Store):Pure Tryz.prog oV [.string s,.int .i64 n] S (.bool (cm s n)):=by
 intro w hI
 refine jo ?_
 unfold fB
 obtain ⟨q,hq⟩:∃ q,bN s oP=q:=⟨_,rfl⟩
 have hq1:=hq
 refine ⟨fun t w'=>t=.bool q/\Inv w [] [] S w',?_,?_⟩
 ·unfold bN oP at hq
  iterate 8
   refine r_seql ?_
   refine condV (fun h=>⟨by rw [List.any_cons,h] at hq; rw [h,<- hq]; rfl,hI⟩) (fun h=>?_)
   rw [List.any_cons,h,Bool.false_or] at hq
  refine r_seql ⟨?_,hI⟩
  rw [<- hq]; simp
 intro t _ _ _ _ _ _ _ _ _ w'
 rintro ⟨rfl,hI⟩
 refine condV (fun h=>?_) (fun h=>?_)
 ·exact r_eql (done hI (by rw [cm,if_pos (hq1.trans h)]))
 have e1:cm s n=if bN s ij=true then decide (n=0) else if bN s nr=true then decide (n=1) else if s=⟨#[97,114,103]⟩ then decide (n=3) else false:=by
  rw [cm,if_neg (by rw [hq1,h]; decide)]
 clear hq hq1 h
 obtain ⟨q,hq⟩:∃ q,bN s ij=q:=⟨_,rfl⟩
 have hq1:=hq
 refine ⟨fun t w'=>t=.bool q/\Inv w [] [] S w',?_,?_⟩
 ·unfold bN ij at hq
  refine r_seql ?_
  refine condV (fun h=>⟨by rw [List.any_cons,h] at hq; rw [h,<- hq]; rfl,hI⟩) (fun h=>?_)
  rw [List.any_cons,h,Bool.false_or] at hq
  refine r_seql ⟨?_,hI⟩
  rw [<- hq]; simp
 intro _ t _ w'
 rintro ⟨rfl,hI⟩
 refine condV (fun h=>?_) (fun h=>?_)
 ·exact r_eql (done hI (by rw [e1,if_pos (hq1.trans h)]))
 rw [if_neg (by rw [hq1,h]; decide)] at e1
 clear hq hq1 h
 obtain ⟨q,hq⟩:∃ q,bN s nr=q:=⟨_,rfl⟩
 have hq1:=hq
 refine ⟨fun t w'=>t=.bool q/\Inv w [] [] S w',?_,?_⟩
 ·unfold bN nr at hq
  iterate 3
   refine r_seql ?_
   refine condV (fun h=>⟨by rw [List.any_cons,h] at hq; rw [h,<- hq]; rfl,hI⟩) (fun h=>?_)
   rw [List.any_cons,h,Bool.false_or] at hq
  refine r_seql ⟨?_,hI⟩
  rw [<- hq]; simp
 intro _ _ _ t _ w'
 rintro ⟨rfl,hI⟩
 refine condV (fun h=>?_) (fun h=>?_)
 ·exact r_eql (done hI (by rw [e1,if_pos (hq1.trans h)]))
 rw [if_neg (by rw [hq1,h]; decide)] at e1
 refine r_seql ?_
 refine condP (fun h=>?_) (fun h=>?_)
 ·exact r_eql (done hI (by rw [e1,if_pos h]))
 ·exact done hI (by rw [e1,if_neg h])

theorem bm (s:ByteArray) (S:Store):Pure Tryz.prog rD [.string s] S (.int .i64 (aU s)):=by
 intro w hI
 refine mz ?_
 unfold iU
 obtain ⟨q,hq⟩:∃ q,bN s oP=q:=⟨_,rfl⟩
 have hq1:=hq
 refine ⟨fun t w'=>t=.bool q/\Inv w [] [] S w',?_,?_⟩
 ·unfold bN oP at hq
  iterate 8
   refine r_seql ?_
   refine condV (fun h=>⟨by rw [List.any_cons,h] at hq; rw [h,<- hq]; rfl,hI⟩) (fun h=>?_)
   rw [List.any_cons,h,Bool.false_or] at hq
  refine r_seql ⟨?_,hI⟩
  rw [<- hq]; simp
 intro _ _ _ _ _ _ _ _ t _ w'
 rintro ⟨rfl,hI⟩
 refine condV (fun h=>?_) (fun h=>?_)
 ·exact done hI (by rw [show aU s=3 from if_pos (hq1.trans h)] <;> rfl)
 have e1:aU s=if bN s tN=true then 2 else if bN s ot=true then 1 else 0:=by
  rw [aU,if_neg (by rw [hq1,h]; decide)]
 clear hq hq1 h
 obtain ⟨q,hq⟩:∃ q,bN s tN=q:=⟨_,rfl⟩
 have hq1:=hq
 refine ⟨fun t w'=>t=.bool q/\Inv w [] [] S w',?_,?_⟩
 ·unfold bN tN at hq
  refine r_seql ?_
  refine condV (fun h=>⟨by rw [List.any_cons,h] at hq; rw [h,<- hq]; rfl,hI⟩) (fun h=>?_)
  rw [List.any_cons,h,Bool.false_or] at hq
  refine r_seql ⟨?_,hI⟩
  rw [<- hq]; simp
 intro _ t _ w'
 rintro ⟨rfl,hI⟩
 refine condV (fun h=>?_) (fun h=>?_)
 ·exact done hI (by rw [show aU s=2 from e1.trans (if_pos (hq1.trans h))] <;> rfl)
 rw [if_neg (by rw [hq1,h]; decide)] at e1
 clear hq hq1 h
 obtain ⟨q,hq⟩:∃ q,bN s ot=q:=⟨_,rfl⟩
 have hq1:=hq
 refine ⟨fun t w'=>t=.bool q/\Inv w [] [] S w',?_,?_⟩
 ·unfold bN ot at hq
  iterate 2
   refine r_seql ?_
   refine condV (fun h=>⟨by rw [List.any_cons,h] at hq; rw [h,<- hq]; rfl,hI⟩) (fun h=>?_)
   rw [List.any_cons,h,Bool.false_or] at hq
  refine r_seql ⟨?_,hI⟩
  rw [<- hq]; simp
 intro _ _ t _ w'
 rintro ⟨rfl,hI⟩
 refine condV (fun h=>?_) (fun h=>?_)
 ·exact done hI (by rw [show aU s=1 from e1.trans (if_pos (hq1.trans h))] <;> rfl)
 ·exact done hI (by rw [show aU s=0 from e1.trans (if_neg (by rw [hq1,h]; decide))] <;> rfl)
theorem mt (s:ByteArray) (S:Store):Pure Tryz.prog rK [.string s] S (.tuple #[.int .i64 (aU s),.bool (decide (aU s=1) || decide (aU s=2))]):=by
 intro w hI
 refine mU ?_
 unfold iJ
 obtain ⟨q,hq⟩:∃ q,bN s oP=q:=⟨_,rfl⟩
 have hq1:=hq
 refine ⟨fun t w'=>t=.bool q/\Inv w [] [] S w',?_,?_⟩
 ·unfold bN oP at hq
  iterate 8
   refine r_seql ?_
   refine condV (fun h=>⟨by rw [List.any_cons,h] at hq; rw [h,<- hq]; rfl,hI⟩) (fun h=>?_)
   rw [List.any_cons,h,Bool.false_or] at hq
  refine r_seql ⟨?_,hI⟩
  rw [<- hq]; simp
 intro _ _ _ _ _ _ _ _ t _ w'
 rintro ⟨rfl,hI⟩
 refine condV (fun h=>?_) (fun h=>?_)
 ·exact done hI (by rw [show aU s=3 from if_pos (hq1.trans h)] <;> rfl)
 have e1:aU s=if bN s tN=true then 2 else if bN s ot=true then 1 else 0:=by
  rw [aU,if_neg (by rw [hq1,h]; decide)]
 clear hq hq1 h
 obtain ⟨q,hq⟩:∃ q,bN s tN=q:=⟨_,rfl⟩
 have hq1:=hq
 refine ⟨fun t w'=>t=.bool q/\Inv w [] [] S w',?_,?_⟩
 ·unfold bN tN at hq
  refine r_seql ?_
  refine condV (fun h=>⟨by rw [List.any_cons,h] at hq; rw [h,<- hq]; rfl,hI⟩) (fun h=>?_)
  rw [List.any_cons,h,Bool.false_or] at hq
  refine r_seql ⟨?_,hI⟩
  rw [<- hq]; simp
 intro _ t _ w'
 rintro ⟨rfl,hI⟩
 refine condV (fun h=>?_) (fun h=>?_)
 ·exact done hI (by rw [show aU s=2 from e1.trans (if_pos (hq1.trans h))] <;> rfl)
 rw [if_neg (by rw [hq1,h]; decide)] at e1
 clear hq hq1 h
 obtain ⟨q,hq⟩:∃ q,bN s ot=q:=⟨_,rfl⟩
 have hq1:=hq
 refine ⟨fun t w'=>t=.bool q/\Inv w [] [] S w',?_,?_⟩
 ·unfold bN ot at hq
  iterate 2
   refine r_seql ?_
   refine condV (fun h=>⟨by rw [List.any_cons,h] at hq; rw [h,<- hq]; rfl,hI⟩) (fun h=>?_)
   rw [List.any_cons,h,Bool.false_or] at hq
  refine r_seql ⟨?_,hI⟩
  rw [<- hq]; simp
 intro _ _ t _ w'
 rintro ⟨rfl,hI⟩
 refine condV (fun h=>?_) (fun h=>?_)
 ·exact done hI (by rw [show aU s=1 from e1.trans (if_pos (hq1.trans h))] <;> rfl)
 ·exact done hI (by rw [show aU s=0 from e1.trans (if_neg (by rw [hq1,h]; decide))] <;> rfl)

theorem sJ {t:T} {S:Store} {cs:List Value} (h:RdT S cs t):Pure Tryz.prog uE [.agg cs.toArray] S (.bool (sT t)):=by
 intro w hI
 obtain ⟨kv,rfl,_,_,hs,hks⟩:=RdT.iff.1 h
 obtain ⟨k,n,s,ks⟩:=t
 simp only [T.name,T.kids,T.kind,T.n] at hs hks ⊢
 refine po ?_
 unfold nc
 refine r_box hI fun b1 w' hI=>?_
 refine r_fieldL hI 0 rfl aI aC rfl ?_
 refine r_eql ?_
 rw [show sT (.mk k n s ks)=(decide (k=3) && (decide (s=⟨#[33]⟩) && decide (ks.length=0))) from rfl]
 cases h1:decide (k=3)
 ·repeat (first|refine ac ?_|refine ag (by decide) ?_|refine ae ?_|refine ai ?_|refine ah ?_)
  exact done hI rfl
 ·repeat (first|refine ac ?_|refine ag (by decide) ?_|refine ae ?_|refine ai ?_|refine ah ?_)
  refine r_fieldL hI 0 rfl aA az rfl ?_
  refine r_seql ?_
  cases h2:decide (s=⟨#[33]⟩)
  ·repeat (first|refine ac ?_|refine ag (by decide) ?_|refine ae ?_|refine ai ?_|refine ah ?_)
   exact done hI rfl
  ·repeat (first|refine ac ?_|refine ag (by decide) ?_|refine ae ?_|refine ai ?_|refine ah ?_)
   refine r_fieldL hI 0 rfl ar ao rfl ?_
   refine r_lenSl hks aq ?_
   refine r_eql ?_
   repeat (first|refine ac ?_|refine ag (by decide) ?_|refine ae ?_|refine ai ?_|refine ah ?_)
   exact done hI (by simp)

theorem hK {t:T} {S:Store} {cs:List Value} (h:RdT S cs t):Pure Tryz.prog rV [.agg cs.toArray] S (.bool (dc t)):=by
 intro w hI
 obtain ⟨kv,rfl,_,_,hs,hks⟩:=RdT.iff.1 h
 obtain ⟨k,n,s,ks⟩:=t
 simp only [T.name,T.kids,T.kind,T.n] at hs hks ⊢
 refine mG ?_
 unfold ko
 refine r_box hI fun b1 w' hI=>?_
 refine r_fieldL hI 0 rfl aI aC rfl ?_
 refine r_eql ?_
 rw [show dc (.mk k n s ks)=(decide (k=3) && (dH s && (!cm s ks.length && decide (aU s=0)))) from rfl]
 cases h1:decide (k=3)
 ·repeat (first|refine ac ?_|refine ag (by decide) ?_|refine ae ?_|refine ai ?_|refine ah ?_)
  exact done hI rfl
 ·repeat (first|refine ac ?_|refine ag (by decide) ?_|refine ae ?_|refine ai ?_|refine ah ?_)
  refine r_fieldL hI 0 rfl aA az rfl ?_
  refine Run.callPure lC lJ hI (jK s hs S) fun w' hI=>?_
  cases h2:dH s
  ·repeat (first|refine ac ?_|refine ag (by decide) ?_|refine ae ?_|refine ai ?_|refine ah ?_)
   exact done hI rfl
  ·repeat (first|refine ac ?_|refine ag (by decide) ?_|refine ae ?_|refine ai ?_|refine ah ?_)
   refine r_fieldL hI 0 rfl aA az rfl ?_
   refine r_fieldL hI 0 rfl ar ao rfl ?_
   refine r_lenSl hks aq ?_
   refine Run.callPure fO fy hI (ei s _ S) fun w' hI=>?_
   refine r_not ?_
   cases h3:cm s ks.length
   ·repeat (first|refine ac ?_|refine ag (by decide) ?_|refine ae ?_|refine ai ?_|refine ah ?_)
    refine r_fieldL hI 0 rfl aA az rfl ?_
    refine Run.callPure bM bI hI (bm s S) fun w' hI=>?_
    refine r_eql ?_
    repeat (first|refine ac ?_|refine ag (by decide) ?_|refine ae ?_|refine ai ?_|refine ah ?_)
    exact done hI rfl
   ·repeat (first|refine ac ?_|refine ag (by decide) ?_|refine ae ?_|refine ai ?_|refine ah ?_)
    exact done hI rfl

theorem qi {t:T} {S:Store} {cs:List Value} (h:RdT S cs t):Pure Tryz.prog sO [.agg cs.toArray] S (.bool (sT t || (dc t || iq t))):=by
 intro w hI
 have h0:=h
 obtain ⟨kv,rfl,_,_,hs,hks⟩:=RdT.iff.1 h
 obtain ⟨k,n,s,ks⟩:=t
 simp only [T.name,T.kids,T.kind,T.n] at h0 hs hks ⊢
 refine nN ?_
 unfold lG
 refine r_box hI fun b1 w' hI=>?_
 refine r_loadW hI 0 aj rfl rfl ?_
 refine Run.callPure tO tZ hI (sJ h0) fun w' hI=>?_
 cases h1:sT (.mk k n s ks)
 ·repeat (first|refine ac ?_|refine ag (by decide) ?_|refine ae ?_|refine ai ?_|refine ah ?_)
  refine r_loadW hI 0 aj rfl rfl ?_
  refine Run.callPure kz jP hI (hK h0) fun w' hI=>?_
  cases h2:dc (.mk k n s ks)
  ·repeat (first|refine ac ?_|refine ag (by decide) ?_|refine ae ?_|refine ai ?_|refine ah ?_)
   refine r_fieldL hI 0 rfl aI aC rfl ?_
   refine r_eql ?_
   rw [show iq (.mk k n s ks)=(decide (k=3) && cm s ks.length) from rfl]
   cases h3:decide (k=3)
   ·repeat (first|refine ac ?_|refine ag (by decide) ?_|refine ae ?_|refine ai ?_|refine ah ?_)
    exact done hI rfl
   ·repeat (first|refine ac ?_|refine ag (by decide) ?_|refine ae ?_|refine ai ?_|refine ah ?_)
    refine r_fieldL hI 0 rfl aA az rfl ?_
    refine r_fieldL hI 0 rfl ar ao rfl ?_
    refine r_lenSl hks aq ?_
    refine Run.callPure fO fy hI (ei s _ S) fun w' hI=>?_
    repeat (first|refine ac ?_|refine ag (by decide) ?_|refine ae ?_|refine ai ?_|refine ah ?_)
    exact done hI rfl
  ·repeat (first|refine ac ?_|refine ag (by decide) ?_|refine ae ?_|refine ai ?_|refine ah ?_)
   exact done hI rfl
 ·repeat (first|refine ac ?_|refine ag (by decide) ?_|refine ae ?_|refine ai ?_|refine ah ?_)
  exact done hI rfl

theorem uo {t:T} (h:wT t<=1048576):ci t<=4611686018427387904:=by
 have:=wZ t
 omega
theorem kI {t:T} {S:Store} {cs:List Value} (h:RdT S cs t) (hc:wT t<=1048576):Pure Tryz.prog pa [.agg cs.toArray] S (.bool (di t)):=by
 intro w hI
 have hl:=h.length
 refine jV ?_
 unfold fD
 refine r_box hI fun b1 w' hI=>?_
 refine r_loadW hI 0 aj rfl (by simpa [Value.cells] using hl) ?_
 refine Run.callPure fJ fp hI (dU h (uo hc)) fun w' hI=>?_
 rw [di]
 cases h1:bn t
 ·repeat (first|refine ac ?_|refine ag (by decide) ?_|refine ae ?_|refine ai ?_|refine ah ?_)
  exact done hI rfl
 ·repeat (first|refine ac ?_|refine ag (by decide) ?_|refine ae ?_|refine ai ?_|refine ah ?_)
  refine r_loadW hI 0 aj rfl (by simpa [Value.cells] using hl) ?_
  refine Run.callPure rI r4 hI (qi h) fun w' hI=>?_
  repeat (first|refine ac ?_|refine ag (by decide) ?_|refine ae ?_|refine ai ?_|refine ah ?_)
  exact done hI rfl


theorem xE {ts:List T} {t:T} (h:t∈ts):wT t<=wL ts:=by
 induction ts with
 | nil=>simp at h
 | cons u us ih=>
  rw [wL]
  rcases List.mem_cons.1 h with rfl|h
  ·omega
  ·have:=ih h; omega
/- the loop of a list of goals, whatever comes behind it -/
theorem cu {c:C} {S:Store} {cs:List Value} (h:RdC S cs c) (hc:wC c<=1048576):Pure Tryz.prog mx [.agg cs.toArray] S (.bool (aO c)):=by
 intro w hI
 obtain ⟨hd,ks,rfl,h1,h2⟩:=h
 have h1':=h1
 obtain ⟨kv,rfl,g1,g2,g3,g4⟩:=RdT.iff.1 h1
 have hlen:=h2.le
 simp only [maxLen] at hlen
 unfold wC at hc
 refine gt ?_
 unfold dZ
 refine r_box hI fun b1 w' hI=>?_
 refine ⟨fun i w'=>∃ k:Nat,k<=c.body.length/\k<=7/\i=.int .i64 k/\(∀ j (h:j<c.body.length),j<k->di c.body[j]=true)/\Inv w [] [.blk b1 (.cells #[.int .i64 c.head.kind,.int .i64 c.head.n,.string c.head.name,kv,ks] af)] S w',
  fun i _=>c.body.length - (intOf i).toNat,⟨0,Nat.zero_le _,by omega,rfl,fun j _ h=>by omega,hI⟩,?_⟩
 intro t3 _ _ _ _ _ _ _ _ _ _ _ _ _ _ _ _ _ _ _ w'
 rintro ⟨k,hk,hk7,rfl,hrel,hI⟩
 refine ⟨fun t w'=>t=.bool (decide (k<c.body.length/\k<=6))/\Inv w [] [.blk b1 (.cells #[.int .i64 c.head.kind,.int .i64 c.head.n,.string c.head.name,kv,ks] af)] S w',?_,?_⟩
 ·refine r_fieldL hI 0 rfl aw ao rfl ?_
  refine r_lenSl h2 aq ?_
  refine r_lss ?_
  by_cases hki:(k:Int)<c.body.length
  ·rw [decide_eq_true hki]
   repeat (first|refine ac ?_|refine ag (by decide) ?_|refine ae ?_|refine ai ?_|refine ah ?_)
   refine r_leq ?_
   repeat (first|refine ac ?_|refine ag (by decide) ?_|refine ae ?_|refine ai ?_|refine ah ?_)
   refine ⟨?_,hI⟩
   congr 1
   rw [Bool.eq_iff_iff]; simp; omega
  ·rw [decide_eq_false hki]
   repeat (first|refine ac ?_|refine ag (by decide) ?_|refine ae ?_|refine ai ?_|refine ah ?_)
   exact ⟨by rw [decide_eq_false (by omega)],hI⟩
 intro t _ _ _ _ _ _ _ _ w'
 rintro ⟨rfl,hI⟩
 refine condP (fun hki=>?_) (fun hki=>?_)
 ·obtain ⟨hk',hk6⟩:=hki
  refine r_fieldL hI 0 rfl aw ao rfl ?_
  refine r_elem hI h2 aq aj hk' (fun _ _=>RdT.length) fun cs' hcs'=>?_
  have hwm:=xE (List.getElem_mem hk')
  refine Run.callPure nZ nu hI (kI hcs' (by omega)) fun w' hI=>?_
  refine r_not ?_
  refine condV (fun hb=>done hI ?_) (fun hb=>?_)
  ·have hb':di c.body[k]=false:=by simpa using hb
   have:c.body.all di=false:=by
    rw [<- Bool.not_eq_true,List.all_eq_true]
    intro hall
    rw [hall _ (List.getElem_mem hk')] at hb'
    cases hb'
   rw [aO,this]
   simp
  ·have hb':di c.body[k]=true:=by simpa using hb
   refine r_add (by omega) ?_
   refine ⟨⟨k+1,hk',by omega,rfl,fun j hj hjk=>?_,hI⟩,by simp [intOf]; omega⟩
   by_cases e:j=k
   ·subst e; exact hb'
   ·exact hrel j hj (by omega)
 ·refine r_fieldL hI 0 rfl aw ao rfl ?_
  refine r_lenSl h2 aq ?_
  refine r_leq ?_
  rw [aO]
  by_cases hle:c.body.length<=6
  ·have hall:c.body.all di=true:=by
    rw [List.all_eq_true]
    intro x hx
    obtain ⟨j,hj,rfl⟩:=List.getElem_of_mem hx
    exact hrel j hj (by omega)
   rw [decide_eq_true (show (c.body.length:Int)<=6 by omega),decide_eq_true hle,hall]
   repeat (first|refine ac ?_|refine ag (by decide) ?_|refine ae ?_|refine ai ?_|refine ah ?_)
   refine r_field aQ ?_
   refine r_loadLA hI 0 [.int .i64 c.head.kind,.int .i64 c.head.n,.string c.head.name,kv] aj rfl rfl ?_ ?_
   ·intro j v hj
    match j with
    | 0|1|2|3=>exact hj
    | j+4=>simp at hj
   refine Run.callPure fJ fp hI (dU h1' (uo (by omega))) fun w' hI=>?_
   cases hv:bn c.head
   ·repeat (first|refine ac ?_|refine ag (by decide) ?_|refine ae ?_|refine ai ?_|refine ah ?_)
    exact done hI rfl
   ·repeat (first|refine ac ?_|refine ag (by decide) ?_|refine ae ?_|refine ai ?_|refine ah ?_)
    refine r_field aQ ?_
    refine r_loadLA hI 0 [.int .i64 c.head.kind,.int .i64 c.head.n,.string c.head.name,kv] aj rfl rfl ?_ ?_
    ·intro j v hj
     match j with
     | 0|1|2|3=>exact hj
     | j+4=>simp at hj
    refine Run.callPure kz jP hI (hK h1') fun w' hI=>?_
    repeat (first|refine ac ?_|refine ag (by decide) ?_|refine ae ?_|refine ai ?_|refine ah ?_)
    exact done hI rfl
  ·rw [decide_eq_false (show ¬ (c.body.length:Int)<=6 by omega),decide_eq_false hle]
   repeat (first|refine ac ?_|refine ag (by decide) ?_|refine ae ?_|refine ai ?_|refine ah ?_)
   exact done hI rfl

/- the program's side -/
theorem tQ (s:ByteArray) (S:Store):Pure Tryz.prog xe [.string s] S (.bool (decide (0<aU s))):=by
 intro w hI
 refine qT ?_
 unfold pB
 refine Run.callPure qB qR hI (mt s S) fun w' hI=>?_
 refine r_extract rfl ?_
 refine r_extract rfl ?_
 refine r_gtr ?_
 exact done hI rfl
theorem gG {t:T} {S:Store} {cs:List Value} (h:RdT S cs t):Pure Tryz.prog rF [.agg cs.toArray] S (.bool (iq t)):=by
 intro w hI
 obtain ⟨kv,rfl,_,_,hs,hks⟩:=RdT.iff.1 h
 obtain ⟨k,n,s,ks⟩:=t
 simp only [T.name,T.kids,T.kind,T.n] at hs hks ⊢
 refine mH ?_
 unfold jB
 refine r_box hI fun b1 w' hI=>?_
 refine r_fieldL hI 0 rfl aI aC rfl ?_
 refine r_eql ?_
 rw [show iq (.mk k n s ks)=(decide (k=3) && cm s ks.length) from rfl]
 cases h3:decide (k=3)
 ·repeat (first|refine ac ?_|refine ag (by decide) ?_|refine ae ?_|refine ai ?_|refine ah ?_)
  exact done hI rfl
 ·repeat (first|refine ac ?_|refine ag (by decide) ?_|refine ae ?_|refine ai ?_|refine ah ?_)
  refine r_fieldL hI 0 rfl aA az rfl ?_
  refine r_fieldL hI 0 rfl ar ao rfl ?_
  refine r_lenSl hks aq ?_
  refine Run.callPure nM oi hI (ld s _ S) fun w' hI=>?_
  repeat (first|refine ac ?_|refine ag (by decide) ?_|refine ae ?_|refine ai ?_|refine ah ?_)
  exact done hI rfl
theorem gF {t:T} {S:Store} {cs:List Value} (h:RdT S cs t):Pure Tryz.prog rQ [.agg cs.toArray] S (.bool (dc t)):=by
 intro w hI
 have h0:=h
 obtain ⟨kv,rfl,_,_,hs,hks⟩:=RdT.iff.1 h
 obtain ⟨k,n,s,ks⟩:=t
 simp only [T.name,T.kids,T.kind,T.n] at h0 hs hks ⊢
 refine mB ?_
 unfold jG
 refine r_box hI fun b1 w' hI=>?_
 refine r_fieldL hI 0 rfl aI aC rfl ?_
 refine r_eql ?_
 have hb:iq (.mk k n s ks)=(decide (k=3) && cm s ks.length):=rfl
 rw [show dc (.mk k n s ks)=(decide (k=3) && (dH s && (!cm s ks.length && decide (aU s=0)))) from rfl]
 cases h1:decide (k=3)
 ·repeat (first|refine ac ?_|refine ag (by decide) ?_|refine ae ?_|refine ai ?_|refine ah ?_)
  exact done hI rfl
 ·rw [h1] at hb
  repeat (first|refine ac ?_|refine ag (by decide) ?_|refine ae ?_|refine ai ?_|refine ah ?_)
  refine r_fieldL hI 0 rfl aA az rfl ?_
  refine Run.callPure fL fV hI (eU s hs S) fun w' hI=>?_
  cases h2:dH s
  ·repeat (first|refine ac ?_|refine ag (by decide) ?_|refine ae ?_|refine ai ?_|refine ah ?_)
   exact done hI rfl
  ·repeat (first|refine ac ?_|refine ag (by decide) ?_|refine ae ?_|refine ai ?_|refine ah ?_)
   refine r_fieldL hI 0 rfl aA az rfl ?_
   refine Run.callPure vF vp hI (tQ s S) fun w' hI=>?_
   refine r_not ?_
   rw [uP]
   cases h3:decide (aU s=0)
   ·repeat (first|refine ac ?_|refine ag (by decide) ?_|refine ae ?_|refine ai ?_|refine ah ?_)
    exact done hI (by simp)
   ·repeat (first|refine ac ?_|refine ag (by decide) ?_|refine ae ?_|refine ai ?_|refine ah ?_)
    refine r_loadW hI 0 aj rfl rfl ?_
    refine Run.callPure jY jU hI (gG h0) fun w' hI=>?_
    refine r_not ?_
    repeat (first|refine ac ?_|refine ag (by decide) ?_|refine ae ?_|refine ai ?_|refine ah ?_)
    exact done hI (by rw [hb]; simp)
theorem qP {t:T} {S:Store} {cs:List Value} (h:RdT S cs t):Pure Tryz.prog sX [.agg cs.toArray] S (.bool (wX t)):=by
 intro w hI
 obtain ⟨kv,rfl,_,_,hs,hks⟩:=RdT.iff.1 h
 obtain ⟨k,n,s,ks⟩:=t
 simp only [T.name,T.kids,T.kind,T.n] at hs hks ⊢
 refine ne ?_
 unfold lA
 refine r_box hI fun b1 w' hI=>?_
 refine r_fieldL hI 0 rfl aI aC rfl ?_
 refine r_eql ?_
 rw [show wX (.mk k n s ks)=(decide (k=3) && decide (ks.length=0)) from rfl]
 cases h3:decide (k=3)
 ·repeat (first|refine ac ?_|refine ag (by decide) ?_|refine ae ?_|refine ai ?_|refine ah ?_)
  exact done hI rfl
 ·repeat (first|refine ac ?_|refine ag (by decide) ?_|refine ae ?_|refine ai ?_|refine ah ?_)
  refine r_fieldL hI 0 rfl ar ao rfl ?_
  refine r_lenSl hks aq ?_
  refine r_eql ?_
  repeat (first|refine ac ?_|refine ag (by decide) ?_|refine ae ?_|refine ai ?_|refine ah ?_)
  exact done hI (by simp)
theorem rq {t:T} {S:Store} {cs:List Value} (h:RdT S cs t):Pure Tryz.prog vu [.agg cs.toArray] S (.bool (sT t)):=by
 intro w hI
 have h0:=h
 obtain ⟨kv,rfl,_,_,hs,hks⟩:=RdT.iff.1 h
 obtain ⟨k,n,s,ks⟩:=t
 simp only [T.name,T.kids,T.kind,T.n] at h0 hs hks ⊢
 refine pr ?_
 unfold nt
 refine r_box hI fun b1 w' hI=>?_
 refine r_loadW hI 0 aj rfl rfl ?_
 refine Run.callPure su rS hI (qP h0) fun w' hI=>?_
 rw [show sT (.mk k n s ks)=(decide (k=3) && (decide (s=⟨#[33]⟩) && decide (ks.length=0))) from rfl]
 cases h1:wX (.mk k n s ks)
 ·repeat (first|refine ac ?_|refine ag (by decide) ?_|refine ae ?_|refine ai ?_|refine ah ?_)
  refine done hI ?_
  replace h1:(decide (k=3) && decide (ks.length=0))=false:=h1
  cases h2:decide (k=3)
  ·rfl
  ·rw [h2,Bool.true_and] at h1
   rw [h1,Bool.and_false]; rfl
 ·repeat (first|refine ac ?_|refine ag (by decide) ?_|refine ae ?_|refine ai ?_|refine ah ?_)
  refine r_fieldL hI 0 rfl aA az rfl ?_
  refine r_seql ?_
  repeat (first|refine ac ?_|refine ag (by decide) ?_|refine ae ?_|refine ai ?_|refine ah ?_)
  refine done hI ?_
  replace h1:(decide (k=3) && decide (ks.length=0))=true:=h1
  rw [Bool.and_eq_true] at h1
  rw [h1.1,h1.2]; simp
theorem li {t:T} {S:Store} {cs:List Value} (h:RdT S cs t):Pure Tryz.prog oG [.agg cs.toArray] S (.bool (di t)):=by
 intro w hI
 have hl:=h.length
 refine jD ?_
 unfold fx
 refine r_box hI fun b1 w' hI=>?_
 refine r_loadW hI 0 aj rfl (by simpa [Value.cells] using hl) ?_
 refine Run.callPure cG cI hI (ch h) fun w' hI=>?_
 rw [di]
 cases h1:bn t
 ·repeat (first|refine ac ?_|refine ag (by decide) ?_|refine ae ?_|refine ai ?_|refine ah ?_)
  exact done hI rfl
 ·repeat (first|refine ac ?_|refine ag (by decide) ?_|refine ae ?_|refine ai ?_|refine ah ?_)
  refine r_loadW hI 0 aj rfl (by simpa [Value.cells] using hl) ?_
  refine Run.callPure kF jt hI (gF h) fun w' hI=>?_
  cases h2:dc t
  ·repeat (first|refine ac ?_|refine ag (by decide) ?_|refine ae ?_|refine ai ?_|refine ah ?_)
   refine r_loadW hI 0 aj rfl (by simpa [Value.cells] using hl) ?_
   refine Run.callPure jY jU hI (gG h) fun w' hI=>?_
   cases h3:iq t
   ·repeat (first|refine ac ?_|refine ag (by decide) ?_|refine ae ?_|refine ai ?_|refine ah ?_)
    refine r_loadW hI 0 aj rfl (by simpa [Value.cells] using hl) ?_
    refine Run.callPure tR tV hI (rq h) fun w' hI=>?_
    repeat (first|refine ac ?_|refine ag (by decide) ?_|refine ae ?_|refine ai ?_|refine ah ?_)
    exact done hI (by simp)
   ·repeat (first|refine ac ?_|refine ag (by decide) ?_|refine ae ?_|refine ai ?_|refine ah ?_)
    exact done hI (by simp)
  ·repeat (first|refine ac ?_|refine ag (by decide) ?_|refine ae ?_|refine ai ?_|refine ah ?_)
   exact done hI (by simp)

theorem uu {α:Type} (p:α->Bool):∀ xs:List α,(!xs.any fun x=>!p x)=xs.all p
 | []=>rfl
 | x::xs=>by
  rw [List.any_cons,List.all_cons,<- uu p xs]
  cases p x <;> simp

theorem gu {x:T} {S:Store} {cs:List Value} (h:RdT S cs x):Pure Tryz.prog ef [.agg cs.toArray] S (.bool (!di x)):=by
 intro w hI
 have hl:=h.length
 refine gf ?_
 unfold dJ
 refine r_box hI fun b1 w' hI=>?_
 refine r_loadW hI 0 aj rfl (by simpa [Value.cells] using hl) ?_
 refine Run.callPure nX oz hI (li h) fun w' hI=>?_
 refine r_not (done hI rfl)
theorem jM {xs:List T} {S:Store} {v:Value} (h:RdSl S 4 (RdT S) v xs):Pure Tryz.prog ny [v] S (.bool (qy xs)):=by
 intro w hI
 refine iv ?_
 unfold eY
 refine r_lenSl h aq ?_
 refine r_leq ?_
 rw [qy]
 by_cases hle:xs.length<=6
 ·rw [decide_eq_true (show (xs.length:Int)<=6 by omega),decide_eq_true hle]
  repeat (first|refine ac ?_|refine ag (by decide) ?_|refine ae ?_|refine ai ?_|refine ah ?_)
  have hcb:Cb Tryz.prog ef _ [] S (fun _:Unit=>[]) (fun _=>True) (fun _ x=>(!di x,())) (fun v x=>∃ cs,v=.agg cs.toArray/\RdT S cs x) xs:=
   Cb.pure [] js jQ fun x v _=>by
    rintro ⟨cs,rfl,hcs⟩ w1 hI
    exact (gu hcs w1 hI).mono fun e w' ⟨he,hI⟩=>⟨_,_,_,he,hI,Ext.refl _ _ _,rfl,rfl,rfl⟩
  refine Run.call0 cB cD hI (cU hcb h (st:=()) trivial) fun v' I' S' w'=>?_
  rintro ⟨rfl,rfl,rfl⟩ _ hI
  refine r_not ?_
  repeat (first|refine ac ?_|refine ag (by decide) ?_|refine ae ?_|refine ai ?_|refine ah ?_)
  refine done hI ?_
  rw [lm (fun x=>!di x) xs,uu]; rfl
 ·rw [decide_eq_false (show ¬ (xs.length:Int)<=6 by omega),decide_eq_false hle]
  repeat (first|refine ac ?_|refine ag (by decide) ?_|refine ae ?_|refine ai ?_|refine ah ?_)
  exact done hI rfl
theorem bk {c:C} {S:Store} {cs:List Value} (h:RdC S cs c):Pure Tryz.prog mu [.agg cs.toArray] S (.bool (aO c)):=by
 intro w hI
 obtain ⟨hd,ks,rfl,h1,h2⟩:=h
 have h1':=h1
 obtain ⟨kv,rfl,g1,g2,g3,g4⟩:=RdT.iff.1 h1
 have hfin:aO c=(bn c.head && (dc c.head && qy c.body)):=by
  unfold aO qy
  cases bn c.head <;> cases dc c.head <;> simp
 refine gv ?_
 unfold ek
 rw [hfin]
 refine r_box hI fun b1 w' hI=>?_
 refine r_field aQ ?_
 refine r_loadLA hI 0 [.int .i64 c.head.kind,.int .i64 c.head.n,.string c.head.name,kv] aj rfl rfl ?_ ?_
 ·intro j v hj
  match j with
  | 0|1|2|3=>exact hj
  | j+4=>simp at hj
 refine Run.callPure cG cI hI (ch h1') fun w' hI=>?_
 cases hv:bn c.head
 ·repeat (first|refine ac ?_|refine ag (by decide) ?_|refine ae ?_|refine ai ?_|refine ah ?_)
  exact done hI rfl
 ·repeat (first|refine ac ?_|refine ag (by decide) ?_|refine ae ?_|refine ai ?_|refine ah ?_)
  refine r_field aQ ?_
  refine r_loadLA hI 0 [.int .i64 c.head.kind,.int .i64 c.head.n,.string c.head.name,kv] aj rfl rfl ?_ ?_
  ·intro j v hj
   match j with
   | 0|1|2|3=>exact hj
   | j+4=>simp at hj
  refine Run.callPure kF jt hI (gF h1') fun w' hI=>?_
  cases hp:dc c.head
  ·repeat (first|refine ac ?_|refine ag (by decide) ?_|refine ae ?_|refine ai ?_|refine ah ?_)
   exact done hI rfl
  ·repeat (first|refine ac ?_|refine ag (by decide) ?_|refine ae ?_|refine ai ?_|refine ah ?_)
   refine r_fieldL hI 0 rfl aw ao rfl ?_
   refine Run.callPure mE mP hI (jM h2) fun w' hI=>?_
   repeat (first|refine ac ?_|refine ag (by decide) ?_|refine ae ?_|refine ai ?_|refine ah ?_)
   exact done hI rfl

end Go.Proofs.YtmnnpgdeecnfpaaGreat

/- A row of a function's own, handed to a function that only reads; rows of numbers. -/
namespace Go.Proofs.YtmnnpgdeecnfpaaGreat
open Go Go.RowKit
attribute [local irreducible] Run CondV GuardV LoadV

def RowRd (S:Store) (v:Value) (e:TypeId) (k n:Nat) (xs:List Value):Prop:=
 xs.length=n * k/\((v=.slice none 0 0/\n=0) ∨ ∃ g cap cur,v=.slice (some ⟨g,0,none⟩) n cap/\S g=some (.cells cur e)/\n<=cap/\cap<=maxLen/\cur.size=cap * k/\cur.toList.take (n * k)=xs)
theorem uq {α:Type} (f:α->List Value) (k:Nat) (hf:∀ y,(f y).length=k):∀ (ys:List α) (i:Nat) (h:i<ys.length),((ys.flatMap f).drop (i * k)).take k=f ys[i]
 | [],i,h=>by simp at h
 | y::ys,0,h=>by
  rw [List.flatMap_cons,Nat.zero_mul,List.drop_zero,List.take_append_of_le_length (by rw [hf]; exact Nat.le_refl _),List.take_of_length_le (by rw [hf]; exact Nat.le_refl _)]
  rfl
 | y::ys,i+1,h=>by
  rw [List.flatMap_cons,Nat.succ_mul,Nat.add_comm,<- List.drop_drop,List.drop_left' (hf y)]
  exact uq f k hf ys i (by simpa using h)
theorem RowRd.rd {α:Type} {S:Store} {v:Value} {e:TypeId} {k:Nat} {f:α->List Value} {R:List Value->α->Prop} {ys:List α} (hf:∀ y,(f y).length=k) (hR:∀ y∈ys,R (f y) y)
  (h:RowRd S v e k ys.length (ys.flatMap f)):RdSl S k R v ys:=by
 obtain ⟨hl,h⟩:=h
 rcases h with ⟨rfl,h0⟩|⟨g,cap,cur,rfl,hS,hnc,hcm,hcs,ht⟩
 ·have:ys=[]:=List.eq_nil_of_length_eq_zero h0
  subst this
  exact ⟨none,0,rfl,Nat.le_refl _,Nat.zero_le _,.inl rfl⟩
 ·refine ⟨_,cap,rfl,hnc,hcm,.inr ⟨g,0,cur,e,(0,0),rfl,hS,fun i hi=>?_⟩⟩
  have:=uq f k hf ys i hi
  have hik:i * k+k<=ys.length * k:=by rw [<- Nat.succ_mul]; exact Nat.mul_le_mul_right k hi
  rw [<- ht,List.drop_take,List.take_take,Nat.min_eq_left (by omega)] at this
  rw [cellsAt,Nat.zero_add,this]
  exact hR _ (List.getElem_mem hi)

/- rows of numbers -/
end Go.Proofs.YtmnnpgdeecnfpaaGreat

/- The variables of terms, on both sides: lists of numbers that grow. -/
namespace Go.Proofs.YtmnnpgdeecnfpaaGreat
open Go Go.RowKit
attribute [local irreducible] Run CondV GuardV LoadV

/- on valid terms the two are one -/
theorem sN {t:T} (h:bn t=true):cj t 30=true:=by
 rw [bn,Bool.and_eq_true] at h
 exact h.1
end Go.Proofs.YtmnnpgdeecnfpaaGreat

/- Flat clauses and programs, on both sides. -/
namespace Go.Proofs.YtmnnpgdeecnfpaaGreat
open Go Go.RowKit
attribute [local irreducible] Run CondV GuardV LoadV

section
variable {P:Program} {w w0:World} {X:List Nat} {L:List Item} {S:Store} {K:Value->World->Prop}
end
end Go.Proofs.YtmnnpgdeecnfpaaGreat

/- The row's reading of the arguments gives the reading of this proof; and what a law that returns true owes. -/
namespace Go.Proofs.YtmnnpgdeecnfpaaGreat
open Go Go.ChangeShapes Go.WideShapes Go.ChangeAt Go.RowKit

def ug (W:World):Store:=fun b=>W.heap[b]?
section
variable {H:Type} {enc:TypeId × Value->H} {P:Program} {W:World} {sp:Nat->Bool} {held:Bool}
theorem vh {a:Addr} {v:Value} (h:W.cell? a=some v):∃ b o c E fz,a=⟨b,o,none⟩/\W.heap[b]?=some (.cells c E fz)/\c[o]?=some v:=by
 obtain ⟨b,o,s⟩:=a
 simp only [World.cell?] at h
 split at h
 ·rename_i c E fz hb
  cases s with
  | none=>exact ⟨b,o,c,E,fz,rfl,hb,by simpa using h⟩
  | some s=>simp at h
 ·cases h
theorem wA {b o k:Nat} {cs:List Value} {c:Array Value} {E:TypeId} {fz:Nat × Nat} (hb:W.heap[b]?=some (.cells c E fz)) (h:W.cells? 0 ⟨b,o,none⟩ k=some cs):cellsAt c o k=cs:=by
 unfold World.cells? at h
 rw [if_pos (Nat.zero_le _)] at h
 have hl:cs.length=k:=by simpa using mapM_some_length h
 apply List.ext_getElem?
 intro i
 rw [cellsAt,List.getElem?_take]
 by_cases hi:i<k
 ·rw [if_pos hi,List.getElem?_drop]
  have:=mapM_some_get h i i (by simp [hi])
  rw [<- this,add_lit]
  simp [World.cell?,hb]
 ·rw [if_neg hi,List.getElem?_eq_none (by omega)]
theorem lx {α:Type} (p:Nat->α->Prop):∀ n:Nat,(∀ i,i<n->∃ t,p i t)->∃ xs:List α,xs.length=n/\∀ i (h:i<xs.length),p i xs[i]
 | 0,_=>⟨[],rfl,fun i h=>by simp at h⟩
 | n+1,h=>by
  obtain ⟨xs,hl,hx⟩:=lx p n fun i hi=>h i (by omega)
  obtain ⟨t,ht⟩:=h n (by omega)
  refine ⟨xs++[t],by simp [hl],fun i hi=>?_⟩
  by_cases e:i<xs.length
  ·rw [List.getElem_append_left e]
   exact hx i e
  ·have:i=xs.length:=by simp at hi; omega
   subst this
   simp only [List.getElem_append_right (Nat.le_refl _),Nat.sub_self,List.getElem_cons_zero]
   rw [hl]
   exact ht
theorem dG {T e:TypeId} {k:Nat} (h:sliceOf P T=some (e,k)):P.underlying T=some (.slice e)/\P.cellsOf e=k:=by
 unfold sliceOf at h
 split at h
 ·rename_i e' he
  rw [Option.map_eq_some_iff] at h
  obtain ⟨i,hi,hx⟩:=h
  simp only [Prod.mk.injEq] at hx
  obtain ⟨rfl,rfl⟩:=hx
  exact ⟨he,by simp [Program.cellsOf,hi]⟩
 ·cases h
theorem xJ {α:Type} {R:List Value->α->Prop} {T e:TypeId} {k fuel:Nat} {v:Value} {x:DataW H × List MemPlace} (hu:sliceOf P T=some (e,k)) (hk0:0<k)
  (h:DataW.trod enc P W 0 sp held fuel T [v]=some x) (hel:∀ n cs y,fuel=n+1->DataW.trod enc P W 0 sp held n e cs=some y->∃ t:α,R cs t):∃ xs,RdSl (ug W) k R v xs:=by
 obtain ⟨hu1,hk⟩:=dG hu
 rcases DataW.trod_slice hu1 h with ⟨hcs,_⟩|⟨a,len,cap,elems,rest,n,hf,hcs,_,_,hl,hc,hlen,hE,_⟩
 ·simp only [List.cons.injEq,and_true] at hcs
  subst hcs
  exact ⟨[],none,0,rfl,Nat.le_refl _,Nat.zero_le _,.inl rfl⟩
 ·simp only [List.cons.injEq,and_true] at hcs
  subst hcs
  have hE':∀ i,i<len->∃ t:α,∃ cs,W.cells? 0 (a.add (i * k)) k=some cs/\R cs t:=by
   intro i hi
   have:=hE i hi
   rw [hk,List.getElem?_eq_getElem (by omega),Option.bind_eq_some_iff] at this
   obtain ⟨cs,h1,h2⟩:=this
   obtain ⟨t,ht⟩:=hel n cs _ hf h2
   exact ⟨t,cs,h1,ht⟩
  obtain ⟨xs,hxl,hxs⟩:=lx _ len hE'
  subst hxl
  refine ⟨xs,some a,cap,rfl,hl,hc,?_⟩
  by_cases h0:xs.length=0
  ·exact .inl (List.eq_nil_of_length_eq_zero h0)
  ·obtain ⟨cs0,h1,_⟩:=hxs 0 (by omega)
   have e0:a.add (0 * k)=a:=by rw [Nat.zero_mul]; simp [Addr.add]
   rw [e0] at h1
   have hc0:∃ u,W.cell? a=some u:=by
    unfold World.cells? at h1
    rw [if_pos (Nat.zero_le _)] at h1
    have hl0:cs0.length=k:=by simpa using mapM_some_length h1
    have:=mapM_some_get h1 0 0 (by simp [hk0])
    rw [List.getElem?_eq_getElem (by omega)] at this
    have e1:a.add 0=a:=by simp [Addr.add]
    rw [e1] at this
    exact ⟨_,this⟩
   obtain ⟨u,hu0⟩:=hc0
   obtain ⟨b,o,c,E,fz,rfl,hb,_⟩:=vh hu0
   refine .inr ⟨b,o,c,E,fz,rfl,hb,fun i hi=>?_⟩
   obtain ⟨cs,h2,hR⟩:=hxs i hi
   rw [add_lit] at h2
   rw [wA hb h2]
   exact hR
end

section
variable {H:Type} {enc:TypeId × Value->H} {W:World} {sp:Nat->Bool} {held:Bool}
end

theorem Inv.entry (W:World):Inv W [] [] (ug W) W:=Inv.start (L:=[]) (by simp) (by simp [feet]) fun b o hb=>⟨hb,by simp [feet]⟩
theorem Inv.same {W W':World} {L:List Item} {S:Store} (h:Inv W [] L S W') (b:Nat) (hb:b<W.heap.size):W'.heap[b]?=W.heap[b]?:=h.old b hb (by simp)
theorem vE {W W':World} {may:MemPlace->Prop} (ho:W'.os=W.os) (hp:W'.output=W.output) (h:∀ b,b<W.heap.size->W'.heap[b]?=W.heap[b]?):W.keptBut W' may:=by
 refine ⟨ho,hp,fun i hi=>?_⟩
 rw [h i hi]
 split
 ·rename_i e1 e2
  rw [e1] at e2
  simp only [Option.some.injEq,Obj.cells.injEq] at e2
  obtain ⟨rfl,rfl,rfl⟩:=e2
  exact ⟨rfl,rfl,rfl,fun _ _=>rfl⟩
 ·rename_i e1 e2
  rw [e1] at e2
  simp only [Option.some.injEq,Obj.map.injEq] at e2
  obtain ⟨rfl,rfl⟩:=e2
  exact .inr ⟨rfl,rfl⟩
 ·rfl

end Go.Proofs.YtmnnpgdeecnfpaaGreat

/- The sizes: laws.szTerm and its kin. -/
namespace Go.Proofs.YtmnnpgdeecnfpaaGreat
open Go Go.RowKit
attribute [local irreducible] Run CondV GuardV LoadV


end Go.Proofs.YtmnnpgdeecnfpaaGreat

/- Equality of terms and clauses as the laws ask it. -/
namespace Go.Proofs.YtmnnpgdeecnfpaaGreat
open Go Go.RowKit
attribute [local irreducible] Run CondV GuardV LoadV

mutual
def eqT:T->T->Bool
 | .mk k n s ks,.mk k' n' s' ks'=>decide (k=k') && (decide (n=n') && (decide (s=s') && eqL ks ks'))
def eqL:List T->List T->Bool
 | [],[]=>true
 | t::ts,u::us=>eqT t u && eqL ts us
 | _,_=>false
end
mutual
theorem qD:∀ a b:T,eqT a b=true↔a=b
 | .mk k n s ks,.mk k' n' s' ks'=>by
  simp only [eqT,Bool.and_eq_true,decide_eq_true_eq,rh ks ks',T.mk.injEq]
theorem rh:∀ a b:List T,eqL a b=true↔a=b
 | [],[]=>by simp [eqL]
 | [],_::_=>by simp [eqL]
 | _::_,[]=>by simp [eqL]
 | t::ts,u::us=>by
  simp only [eqL,Bool.and_eq_true,qD t u,rh ts us,List.cons.injEq]
end
theorem uj:∀ {a b:List T},a.length≠b.length->eqL a b=false:=by
 intro a b h
 rw [<- Bool.not_eq_true,rh]
 rintro rfl
 exact h rfl
theorem mK {a b c d e:Value}:∀ (j:Nat) (v:Value),([a,b,c,d]:List Value)[j]?=some v->(#[a,b,c,d,e]:Array Value)[0+j]?=some v
 | 0,_,h|1,_,h|2,_,h|3,_,h=>h
 | j+4,_,h=>by simp at h

end Go.Proofs.YtmnnpgdeecnfpaaGreat

/- The sizes of clauses and of programs, and what they bound. -/
namespace Go.Proofs.YtmnnpgdeecnfpaaGreat
open Go Go.RowKit
attribute [local irreducible] Run CondV GuardV LoadV

/- toClauseS, and what it made published -/
end Go.Proofs.YtmnnpgdeecnfpaaGreat

/- The laws' marks: laws.markText. -/
namespace Go.Proofs.YtmnnpgdeecnfpaaGreat
open Go Go.RowKit
section
variable {P:Program} {w w0:World} {X:List Nat} {L:List Item} {S:Store} {K:Value->World->Prop}
attribute [local irreducible] Run CondV GuardV LoadV
end

section
attribute [local irreducible] Run CondV GuardV LoadV
end

end Go.Proofs.YtmnnpgdeecnfpaaGreat

/- The laws' marks, written into trees of the function's own. -/
namespace Go.Proofs.YtmnnpgdeecnfpaaGreat
open Go Go.RowKit

section
attribute [local irreducible] Run CondV GuardV LoadV
end

end Go.Proofs.YtmnnpgdeecnfpaaGreat

/- The laws' marks, written into clauses of the function's own. -/
namespace Go.Proofs.YtmnnpgdeecnfpaaGreat
open Go Go.RowKit

section
attribute [local irreducible] Run CondV GuardV LoadV
end

end Go.Proofs.YtmnnpgdeecnfpaaGreat

/- The laws' marks, read again. -/
namespace Go.Proofs.YtmnnpgdeecnfpaaGreat
open Go Go.RowKit

section
attribute [local irreducible] Run CondV GuardV LoadV
end

end Go.Proofs.YtmnnpgdeecnfpaaGreat

/- Names of goals with their numbers of arguments: built, compared; the clauses for one. -/
namespace Go.Proofs.YtmnnpgdeecnfpaaGreat
open Go Go.RowKit

section
variable {w:World} {K:Value->World->Prop}
attribute [local irreducible] Run
end

attribute [local irreducible] Run CondV GuardV LoadV
structure Pd where
 name:ByteArray
 arity:Int
deriving DecidableEq
def Pd.cells (x:Pd):List Value:=[.string x.name,.int .i64 x.arity]
end Go.Proofs.YtmnnpgdeecnfpaaGreat

/- The clauses for a goal; which clauses can be unfolded: both sides. -/
namespace Go.Proofs.YtmnnpgdeecnfpaaGreat
open Go Go.RowKit
attribute [local irreducible] Run CondV GuardV LoadV

end Go.Proofs.YtmnnpgdeecnfpaaGreat

/- Lists of predicates: asked and grown, on both sides. -/
namespace Go.Proofs.YtmnnpgdeecnfpaaGreat
open Go Go.RowKit
attribute [local irreducible] Run CondV GuardV LoadV

end Go.Proofs.YtmnnpgdeecnfpaaGreat

/- Marks in rows of predicates; trees lent and taken back. -/
namespace Go.Proofs.YtmnnpgdeecnfpaaGreat
open Go Go.RowKit

/- a tree of the function's own, handed to readers, and taken back -/
/- a row seen as its block -/
theorem Inv.openRow {w0 w:World} {X:List Nat} {A:List Item} {S:Store} {v:Value} {e:TypeId} {k n:Nat} {xs:List Value} (h:Inv w0 X (A++[.row v e k n xs]) S w) :
  xs.length=n * k/\((v=.slice none 0 0/\n=0) ∨ ∃ g cap cur,v=.slice (some ⟨g,0,none⟩) n cap/\n<=cap/\cap<=maxLen/\cur.size=cap * k/\cur.toList.take (n * k)=xs/\Inv w0 X (A++[.blk g (.cells cur e)]) S w):=by
 have hm:w.ownsRow 0 e k v n xs:=h.its (.row v e k n xs) (by simp)
 obtain ⟨hl,hm⟩:=hm
 refine ⟨hl,?_⟩
 rcases hm with hn|⟨g,cap,cur,rfl,_,hg,hnc,hcm,hcs,ht⟩
 ·exact .inl hn
 ·have hf:feet (A++[Item.blk g (.cells cur e)])=feet (A++[Item.row (.slice (some ⟨g,0,none⟩) n cap) e k n xs]):=by
   simp [feet,Item.foot,Value.ownBlock]
  refine .inr ⟨g,cap,cur,rfl,hnc,hcm,hcs,ht,h.size,h.os,h.tape,h.output,h.old,fun it hit=>?_,by rw [hf]; exact h.nd,by rw [hf]; exact h.new,by rw [hf]; exact h.pub⟩
  rcases List.mem_append.1 hit with hit|hit
  ·exact h.its it (List.mem_append_left _ hit)
  ·simp at hit
   subst hit
   exact hg
section
attribute [local irreducible] Run CondV GuardV LoadV
end

end Go.Proofs.YtmnnpgdeecnfpaaGreat

/- Trees grown by append; impl.own and its kin. -/
namespace Go.Proofs.YtmnnpgdeecnfpaaGreat
open Go Go.RowKit

structure Grown {α:Type} (k:Nat) (R:aD->List Value->α->Prop) (Ls:List aD) (css:List (List Value)) (ys:List α):Prop where
 hL:Ls.length=ys.length
 hc:css.length=ys.length
 hk:∀ cs∈css,cs.length=k
 hR:∀ i (h:i<ys.length) (h1:i<Ls.length) (h2:i<css.length),R Ls[i] css[i] ys[i]
theorem Grown.nil {α:Type} (k:Nat) (R:aD->List Value->α->Prop):Grown k R [] [] ([]:List α):=⟨rfl,rfl,by simp,fun i h=>by simp at h⟩
theorem Grown.snoc {α:Type} {k:Nat} {R:aD->List Value->α->Prop} {Ls:List aD} {css:List (List Value)} {ys:List α} (h:Grown k R Ls css ys) {L:aD} {cs:List Value} {y:α} (hR:R L cs y) (hl:cs.length=k) :
  Grown k R (Ls++[L]) (css++[cs]) (ys++[y]):=by
 refine ⟨by simp [h.hL],by simp [h.hc],fun c hc=>?_,fun i h0 h1 h2=>?_⟩
 ·rcases List.mem_append.1 hc with hc|hc
  ·exact h.hk c hc
  ·simp at hc; subst hc; exact hl
 ·have e1:=h.hL
  have e2:=h.hc
  by_cases hi:i<ys.length
  ·rw [List.getElem_append_left (by omega),List.getElem_append_left (by omega),List.getElem_append_left hi]
   exact h.hR i hi (by omega) (by omega)
  ·have:i=ys.length:=by simp at h0; omega
   subst this
   rw [List.getElem_append_right (by omega),List.getElem_append_right (by omega),List.getElem_append_right (by omega)]
   simp only [e1,e2,Nat.sub_self,List.getElem_cons_zero]
   exact hR
theorem eM (k:Nat):∀ (css:List (List Value)) (i:Nat) (_:∀ cs∈css,cs.length=k) (h:i<css.length),(css.flatten.drop (i * k)).take k=css[i]
 | [],i,_,h=>by simp at h
 | c::css,0,hk,_=>by
  have:=hk c (List.mem_cons_self ..)
  rw [List.flatten_cons,Nat.zero_mul,List.drop_zero,List.take_append_of_le_length (by omega),List.take_of_length_le (by omega)]
  rfl
 | c::css,i+1,hk,h=>by
  have:=hk c (List.mem_cons_self ..)
  rw [List.flatten_cons,Nat.succ_mul,Nat.add_comm,<- List.drop_drop,List.drop_left' this]
  exact eM k css i (fun cs hc=>hk cs (List.mem_cons_of_mem _ hc)) (by simpa using h)
abbrev ax (v:Value) (e:TypeId) (k:Nat) (css:List (List Value)):Item:=.row v e k css.length css.flatten
theorem Inv.rowTree {α:Type} {w0 w:World} {X:List Nat} {A:List Item} {S:Store} {v:Value} {e:TypeId} {k:Nat} {R:aD->List Value->α->Prop} {Ls:List aD} {css:List (List Value)} {ys:List α}
  (h:Inv w0 X (A++(ax v e k css::aH Ls.flatten)) S w) (hg:Grown k R Ls css ys):∃ L,TrSl k R L v ys/\Inv w0 X (A++aH L) S w:=by
 have hp:List.Perm ((A++aH Ls.flatten)++[ax v e k css]) (A++(ax v e k css::aH Ls.flatten)):=by
  rw [List.append_assoc]
  exact List.Perm.append_left _ List.perm_append_comm
 obtain ⟨hl,ho⟩:=(h.perm hp).openRow
 have hcy:=hg.hc
 have hLy:=hg.hL
 rcases ho with ⟨rfl,h0⟩|⟨g,cap,cur,rfl,hnc,hcm,hcs,ht,hI⟩
 ·have:ys=[]:=List.eq_nil_of_length_eq_zero (by omega)
  subst this
  refine ⟨[],TrSl.nil (by simp [maxLen]),?_⟩
  simpa [aH] using h.sub (List.sublist_append_left _ _)
 ·by_cases hy:ys=[]
  ·subst hy
   have:css=[]:=List.eq_nil_of_length_eq_zero (by simpa using hcy)
   subst this
   refine ⟨[],TrSl.nil hcm,?_⟩
   simpa [aH] using h.sub (List.sublist_append_left _ _)
  ·refine ⟨(g,.cells cur e)::Ls.flatten,⟨_,cap,by rw [hcy],by omega,hcm,.inr ⟨g,cur,e,Ls,rfl,rfl,hLy,by omega,fun i h1 h2=>?_⟩⟩,?_⟩
   ·have hik:i * k+k<=css.length * k:=by rw [<- Nat.succ_mul]; exact Nat.mul_le_mul_right k (by omega)
    have:=eM k css i hg.hk (by omega)
    rw [<- ht,List.drop_take,List.take_take,Nat.min_eq_left (by omega)] at this
    rw [cellsAt,this]
    exact hg.hR i h1 h2 (by omega)
   ·refine hI.perm ?_
    rw [List.append_assoc]
    exact List.Perm.append_left _ (List.perm_append_comm (l₁:=[Item.blk g (.cells cur e)]))
theorem cg (v:Value) (e:TypeId) (k:Nat) (css:List (List Value)) (cs:List Value):Item.row v e k (css.length+1) (css.flatten++cs)=ax v e k (css++[cs]):=by
 simp [ax]
section
variable {P:Program} {w w0:World} {X:List Nat} {L:List Item} {S:Store} {K:Value->World->Prop}
attribute [local irreducible] Run CondV GuardV LoadV
/- append(row, x): x is put into a block of its own first -/
theorem gl (h:Inv w0 X L S w) {T ty e:TypeId} {k by_:Nat} {z v:Value} {cs:List Bool} {css:List (List Value)} (i:Nat) (xs:List Value)
  (hT:mkOf P T=some (e,k,by_,z)) (hk0:0<k) (hk24:k<=65536) (hi:L[i]?=some (ax v e k css)) (hl:xs.length=k) (h1:∀ u∈xs,u.oneCell'=true) (hfit:css.length+1<=4294967296) (hby:by_<=32768)
  (hk:∀ v' w',Inv w0 X (L.set i (ax v' e k (css++[xs]))) S w'->K v' w') :
  Run P (sBuildSlice T 1 [(0,.agg xs.toArray)]) w fun u w'=>Run P (sBuiltin .append #[T,T] ty cs [v,u]) w' K:=by
 refine r_slice1 h hT (by simp [Value.cells,hl]) hk24 hk0 fun b w' hI=>?_
 have hil:i<L.length:=(List.getElem?_eq_some_iff.1 hi).1
 refine r_append hI i xs hT hk0 (by rw [List.getElem?_append_left hil]; exact hi) (by omega) (m:=1) (o:=0) ?_ h1 hfit hby fun v' w' hI=>?_
 ·intro j u hj
  rw [hI.cellL (i:=L.length) (by rw [List.getElem?_append_right (Nat.le_refl _),Nat.sub_self]; rfl)]
  rw [Nat.zero_add]
  simpa [Value.cells] using hj
 ·refine hk _ _ ?_
  rw [<- cg]
  rw [List.set_append_left _ _ hil] at hI
  exact hI.sub (List.sublist_append_left _ _)
end

section
attribute [local irreducible] Run CondV GuardV LoadV
end

end Go.Proofs.YtmnnpgdeecnfpaaGreat

/- impl.ownClause, impl.ownProgram. -/
namespace Go.Proofs.YtmnnpgdeecnfpaaGreat
open Go Go.RowKit
section
variable {w:World} {K:Value->World->Prop}
attribute [local irreducible] Run
theorem cY {a b:Int} {s:ByteArray} {k:Value} (hk:K (.agg #[.int .i64 a,.int .i64 b,.string s,k,.slice none 0 0]) w):Run Tryz.prog (sBuild af [(0,.agg #[.int .i64 a,.int .i64 b,.string s,k])]) w K:=by
 refine Run.of (v:=.agg #[.int .i64 a,.int .i64 b,.string s,k,.slice none 0 0]) (w':=w) ?_ hk
 unfold sBuild
 rw [Sem.run_bind,run_build w af _ #[.int .i64 a,.int .i64 b,.string s,k,.slice none 0 0] (by kernel_rfl),Result.andThen_ok]
 rfl
theorem fA {a b:Int} {s:ByteArray} (hk:K (.agg #[.int .i64 a,.int .i64 b,.string s,.slice none 0 0]) w):Run Tryz.prog (sBuild ad [(0,.int .i64 a),(1,.int .i64 b),(2,.string s)]) w K:=by
 refine Run.of (v:=.agg #[.int .i64 a,.int .i64 b,.string s,.slice none 0 0]) (w':=w) ?_ hk
 unfold sBuild
 rw [Sem.run_bind,run_build w ad _ #[.int .i64 a,.int .i64 b,.string s,.slice none 0 0] (by kernel_rfl),Result.andThen_ok]
 rfl
end
section
attribute [local irreducible] Run CondV GuardV LoadV
end

end Go.Proofs.YtmnnpgdeecnfpaaGreat

/- impl.ownProgram; spec's copies. -/
namespace Go.Proofs.YtmnnpgdeecnfpaaGreat
open Go Go.RowKit
theorem RdC.one {S:Store} {cs:List Value} {c:C} (h:RdC S cs c):∀ u∈cs,u.oneCell'=true:=by
 obtain ⟨hd,ks,rfl,h1,a,cap,rfl,_⟩:=h
 intro u hu
 rcases List.mem_append.1 hu with hu|hu
 ·exact h1.one u hu
 ·simp at hu; subst hu; rfl
section
attribute [local irreducible] Run CondV GuardV LoadV
/- a row's value is a slice -/
theorem Inv.rowSlice {w0 w:World} {X:List Nat} {L:List Item} {S:Store} {v:Value} {e:TypeId} {k n:Nat} {xs:List Value} (h:Inv w0 X L S w) (i:Nat) (hi:L[i]?=some (.row v e k n xs)):∃ a m c,v=.slice a m c:=by
 have hm:w.ownsRow 0 e k v n xs:=h.its (.row v e k n xs) (List.mem_of_getElem? hi)
 rcases hm.2 with ⟨rfl,_⟩|⟨g,cap,cur,rfl,_⟩
 ·exact ⟨_,_,_,rfl⟩
 ·exact ⟨_,_,_,rfl⟩
def ay (B1 B2 B3 B3' r r':Item) (rest:List Item) (M:aD) (B27:Item) (d7 d8 d9 d11:Bool):List Item:=
 B1::B2::(match d11 with|true=>B3'|false=>B3)::(match d9 with|true=>r'|false=>r)::(rest++((match d7 with|true=>aH M|false=>[])++(match d8 with|true=>[B27]|false=>[])))

theorem cK:∀ (t:T) (S:Store) (cs:List Value),RdT S cs t->wT t<=1048576->Tri Tryz.prog ir [.agg cs.toArray] [] S (wB S t):=by
 refine T.ind fun k n s ks ih S cs h hw=>?_
 intro w hI
 obtain ⟨kv,rfl,h1,h2,hs,hks⟩:=RdT.iff.1 h
 simp only [T.name,T.kids,T.kind,T.n] at h1 h2 hs hks ⊢
 simp only [wT] at hw
 refine gd ?_
 unfold gi
 refine r_box hI fun b1 w' hI=>?_
 refine r_alloc hI aK fun b2 w' hI=>?_
 refine r_fieldL hI 0 rfl aI aC rfl ?_
 refine r_fieldL hI 0 rfl aJ aC rfl ?_
 refine r_fieldL hI 0 rfl aA az rfl ?_
 refine fA ?_
 refine r_alloc hI aK fun b3 w' hI=>?_
 refine au hI 2 rfl aj rfl rfl (by simp [Value.oneCell']) fun w' hI=>?_
 have hI:=hI.rowNil ad 4
 refine ⟨fun i w'=>∃ (j:Nat) (kvc:Value) (Ls:List aD) (css:List (List Value)),j<=ks.length/\i=.int .i64 j/\Grown 4 TrT Ls css (ks.take j)/\
   Inv w [] (.blk b1 (.cells #[.int .i64 k,.int .i64 n,.string s,kv] ad)::.blk b2 (.cells #[.int .i64 0,.int .i64 0,.string ⟨#[]⟩,.slice none 0 0] ad)::.blk b3 (.cells #[.int .i64 k,.int .i64 n,.string s,kvc] ad)::ax kvc ad 4 css::aH Ls.flatten) S w',
  fun i _=>ks.length - (intOf i).toNat,⟨0,_,[],[],Nat.zero_le _,rfl,Grown.nil _ _,hI⟩,?_⟩
 intro t4 _ _ _ _ _ _ _ _ _ _ _ _ _ _ _ _ _ _ w'
 rintro ⟨j,kvc,Ls,css,hj,rfl,hg,hI⟩
 refine r_fieldL hI 0 rfl ar ao rfl ?_
 refine r_lenSl hks aq ?_
 refine r_lss ?_
 refine condP (fun hji=>?_) (fun hji=>?_)
 ·have hj':j<ks.length:=by omega
  have hjl:(ks.take j).length=j:=by simp; omega
  have hcl:=hg.hc
  have hm:=List.getElem_mem hj'
  have hwm:=fu hm
  obtain ⟨b,o,cap,c,E,fz,rfl,hS,hR⟩:=hks.at_ hj'
  refine ⟨fun D x29 x28 x27 x26 x25 x24 x23 x22 x21 x20 x19 w_=>(D 0=true->x19=.pointer (some ⟨b3,3,none⟩))/\(D 1=true->x20=kvc)/\(D 2=true->x21=.pointer (some ⟨b1,3,none⟩))/\(D 3=true->x22=.slice (some ⟨b,o,none⟩) (ks).length cap)/\(D 4=true->x23=.int .i64 j)/\(D 5=true->x24=.pointer (some ⟨b,o+j * 4,none⟩))/\(D 6=true->x25=.agg (cellsAt c (o+j * 4) 4).toArray)/\(D 7=true->True)/\(D 8=true->True)/\(D 9=true->True)/\(D 10=true->x29=.pointer (some ⟨b3,3,none⟩))/\(D 11=true->True)/\∃ M cs7 b8,(D 7=true->x26=.agg cs7.toArray/\TrT M cs7 (ks)[j])/\(D 8=true->x27=.slice (some ⟨b8,0,none⟩) 1 1)/\(D 8=true->D 7=true)/\(D 9=true->D 8=true)/\(D 11=true->D 9=true)/\(D 11=true->D 1=true)/\Inv w [] (ay (.blk b1 (.cells #[.int .i64 k,.int .i64 n,.string s,.slice (some ⟨b,o,none⟩) ks.length cap] ad)) (.blk b2 (.cells #[.int .i64 0,.int .i64 0,.string ⟨#[]⟩,.slice none 0 0] ad)) (.blk b3 (.cells #[.int .i64 k,.int .i64 n,.string s,kvc] ad)) (.blk b3 (.cells #[.int .i64 k,.int .i64 n,.string s,x28] ad)) (ax kvc ad 4 css) (ax x28 ad 4 (css++[cs7])) (aH Ls.flatten) M (.blk b8 (.cells cs7.toArray ad)) (D 7) (D 8) (D 9) (D 11)) S w_,⟨fun h=>Bool.noConfusion h,fun h=>Bool.noConfusion h,fun h=>Bool.noConfusion h,fun h=>Bool.noConfusion h,fun h=>Bool.noConfusion h,fun h=>Bool.noConfusion h,fun h=>Bool.noConfusion h,fun h=>Bool.noConfusion h,fun h=>Bool.noConfusion h,fun h=>Bool.noConfusion h,fun h=>Bool.noConfusion h,fun h=>Bool.noConfusion h,⟨[],[],0,fun h=>Bool.noConfusion h,fun h=>Bool.noConfusion h,fun h=>Bool.noConfusion h,fun h=>Bool.noConfusion h,fun h=>Bool.noConfusion h,fun h=>Bool.noConfusion h,by simpa [ay,aH] using hI.draw⟩⟩,⟨?_,?_,?_,?_,?_,?_,?_,?_,?_,?_,?_,?_,trivial⟩,?_⟩
  ·intro D hD_  x29 x28 x27 x26 x25 x24 x23 x22 x21 x20 x19 w_
   rintro ⟨h0_,h1_,h2_,h3_,h4_,h5_,h6_,h7_,h8_,h9_,h10_,h11_,⟨M,cs7,b8,e7,e8,k8,k9,k11,k1,hI⟩⟩
   refine r_field ar ?_
   exact ⟨fun _=>rfl,h1_,h2_,h3_,h4_,h5_,h6_,h7_,h8_,h9_,h10_,h11_,⟨M,cs7,b8,e7,e8,k8,k9,k11,k1,hI⟩⟩
  ·intro D hD_ d0_0 x29 x28 x27 x26 x25 x24 x23 x22 x21 x20 x19 w_
   rintro ⟨h0_,h1_,h2_,h3_,h4_,h5_,h6_,h7_,h8_,h9_,h10_,h11_,⟨M,cs7,b8,e7,e8,k8,k9,k11,k1,hI⟩⟩
   obtain rfl:=h0_ d0_0
   have f11:D 11=false:=Bool.eq_false_iff.2 fun h=>by rw [k1 h] at hD_; cases hD_
   refine r_loadL (b:=b3) hI 2 (c:=(#[.int .i64 k,.int .i64 n,.string s,kvc])) ao (by rw [f11]; rfl) rfl ?_
   have k1:=fun (_:setD D 1 11=true)=>(rfl:setD D 1 1=true)
   exact ⟨h0_,fun _=>rfl,h2_,h3_,h4_,h5_,h6_,h7_,h8_,h9_,h10_,h11_,⟨M,cs7,b8,e7,e8,k8,k9,k11,k1,hI⟩⟩
  ·intro D hD_  x29 x28 x27 x26 x25 x24 x23 x22 x21 x20 x19 w_
   rintro ⟨h0_,h1_,h2_,h3_,h4_,h5_,h6_,h7_,h8_,h9_,h10_,h11_,⟨M,cs7,b8,e7,e8,k8,k9,k11,k1,hI⟩⟩
   refine r_field ar ?_
   exact ⟨h0_,h1_,fun _=>rfl,h3_,h4_,h5_,h6_,h7_,h8_,h9_,h10_,h11_,⟨M,cs7,b8,e7,e8,k8,k9,k11,k1,hI⟩⟩
  ·intro D hD_ d2_0 x29 x28 x27 x26 x25 x24 x23 x22 x21 x20 x19 w_
   rintro ⟨h0_,h1_,h2_,h3_,h4_,h5_,h6_,h7_,h8_,h9_,h10_,h11_,⟨M,cs7,b8,e7,e8,k8,k9,k11,k1,hI⟩⟩
   obtain rfl:=h2_ d2_0
   refine r_loadL hI 0 ao rfl rfl ?_
   exact ⟨h0_,h1_,h2_,fun _=>rfl,h4_,h5_,h6_,h7_,h8_,h9_,h10_,h11_,⟨M,cs7,b8,e7,e8,k8,k9,k11,k1,hI⟩⟩
  ·intro D hD_  x29 x28 x27 x26 x25 x24 x23 x22 x21 x20 x19 w_
   rintro ⟨h0_,h1_,h2_,h3_,h4_,h5_,h6_,h7_,h8_,h9_,h10_,h11_,⟨M,cs7,b8,e7,e8,k8,k9,k11,k1,hI⟩⟩
   exact ⟨h0_,h1_,h2_,h3_,fun _=>rfl,h5_,h6_,h7_,h8_,h9_,h10_,h11_,⟨M,cs7,b8,e7,e8,k8,k9,k11,k1,hI⟩⟩
  ·intro D hD_ d3_0 d4_1 x29 x28 x27 x26 x25 x24 x23 x22 x21 x20 x19 w_
   rintro ⟨h0_,h1_,h2_,h3_,h4_,h5_,h6_,h7_,h8_,h9_,h10_,h11_,⟨M,cs7,b8,e7,e8,k8,k9,k11,k1,hI⟩⟩
   obtain rfl:=h3_ d3_0
   obtain rfl:=h4_ d4_1
   refine r_indexAddr aq hj' ?_
   exact ⟨h0_,h1_,h2_,h3_,h4_,fun _=>rfl,h6_,h7_,h8_,h9_,h10_,h11_,⟨M,cs7,b8,e7,e8,k8,k9,k11,k1,hI⟩⟩
  ·intro D hD_ d5_0 x29 x28 x27 x26 x25 x24 x23 x22 x21 x20 x19 w_
   rintro ⟨h0_,h1_,h2_,h3_,h4_,h5_,h6_,h7_,h8_,h9_,h10_,h11_,⟨M,cs7,b8,e7,e8,k8,k9,k11,k1,hI⟩⟩
   obtain rfl:=h5_ d5_0
   refine r_loadA aj hR.length (fun j v hj=>by rw [hI.cellS hS]; exact cellsAt_get rfl j v hj) ?_
   exact ⟨h0_,h1_,h2_,h3_,h4_,h5_,fun _=>rfl,h7_,h8_,h9_,h10_,h11_,⟨M,cs7,b8,e7,e8,k8,k9,k11,k1,hI⟩⟩
  ·intro D hD_ d6_0 x29 x28 x27 x26 x25 x24 x23 x22 x21 x20 x19 w_
   rintro ⟨h0_,h1_,h2_,h3_,h4_,h5_,h6_,h7_,h8_,h9_,h10_,h11_,⟨M,cs7,b8,e7,e8,k8,k9,k11,k1,hI⟩⟩
   obtain rfl:=h6_ d6_0
   have f8:D 8=false:=Bool.eq_false_iff.2 fun h=>by rw [k8 h] at hD_; cases hD_
   have f9:D 9=false:=Bool.eq_false_iff.2 fun h=>by rw [k9 h] at f8; cases f8
   have f11:D 11=false:=Bool.eq_false_iff.2 fun h=>by rw [k11 h] at f9; cases f9
   rw [hD_,f8,f9,f11] at hI
   refine Run.call0 ca cf hI (ih _ (List.getElem_mem hj') S _ hR (by omega)) fun v' I' S w_=>?_
   rintro ⟨rfl,cs7,M,rfl,rfl,hT⟩ _ hI
   have e7:setD D 7 7=true->Value.agg cs7.toArray=Value.agg cs7.toArray/\TrT M cs7 (ks)[j]:=fun _=>⟨rfl,hT⟩
   have k8:=fun (_:setD D 7 8=true)=>(rfl:setD D 7 7=true)
   have hI:Inv w [] (ay (.blk b1 (.cells #[.int .i64 k,.int .i64 n,.string s,.slice (some ⟨b,o,none⟩) ks.length cap] ad)) (.blk b2 (.cells #[.int .i64 0,.int .i64 0,.string ⟨#[]⟩,.slice none 0 0] ad)) (.blk b3 (.cells #[.int .i64 k,.int .i64 n,.string s,kvc] ad)) (.blk b3 (.cells #[.int .i64 k,.int .i64 n,.string s,x28] ad)) (ax kvc ad 4 css) (ax x28 ad 4 (css++[cs7])) (aH Ls.flatten) M (.blk b8 (.cells cs7.toArray ad)) true (D 8) (D 9) (D 11)) S w_:=by
    rw [f8,f9,f11]
    simpa [ay] using hI
   exact ⟨h0_,h1_,h2_,h3_,h4_,h5_,h6_,fun _=>by first|assumption|trivial,h8_,h9_,h10_,h11_,⟨M,cs7,b8,e7,e8,k8,k9,k11,k1,hI⟩⟩
  ·intro D hD_ d7_0 x29 x28 x27 x26 x25 x24 x23 x22 x21 x20 x19 w_
   rintro ⟨h0_,h1_,h2_,h3_,h4_,h5_,h6_,h7_,h8_,h9_,h10_,h11_,⟨M,cs7,b8,e7,e8,k8,k9,k11,k1,hI⟩⟩
   have g7_:=h7_ d7_0
   have f9:D 9=false:=Bool.eq_false_iff.2 fun h=>by rw [k9 h] at hD_; cases hD_
   have f11:D 11=false:=Bool.eq_false_iff.2 fun h=>by rw [k11 h] at f9; cases f9
   obtain ⟨q7,hT⟩:=e7 d7_0
   subst q7
   rw [d7_0,hD_,f9,f11] at hI
   refine r_slice1 hI aR (by simp [Value.cells,hT.length]) (by omega) (by omega) fun b8 w_ hI=>?_
   have e7:setD D 8 7=true->Value.agg cs7.toArray=Value.agg cs7.toArray/\TrT M cs7 (ks)[j]:=fun _=>⟨rfl,hT⟩
   have e8:=fun (_:setD D 8 8=true)=>(rfl:Value.slice (some ⟨b8,0,none⟩) 1 1=_)
   have k8:=fun (_:setD D 8 8=true)=>d7_0
   have k9:=fun (_:setD D 8 9=true)=>(rfl:setD D 8 8=true)
   have hI:Inv w [] (ay (.blk b1 (.cells #[.int .i64 k,.int .i64 n,.string s,.slice (some ⟨b,o,none⟩) ks.length cap] ad)) (.blk b2 (.cells #[.int .i64 0,.int .i64 0,.string ⟨#[]⟩,.slice none 0 0] ad)) (.blk b3 (.cells #[.int .i64 k,.int .i64 n,.string s,kvc] ad)) (.blk b3 (.cells #[.int .i64 k,.int .i64 n,.string s,x28] ad)) (ax kvc ad 4 css) (ax x28 ad 4 (css++[cs7])) (aH Ls.flatten) M (.blk b8 (.cells cs7.toArray ad)) (D 7) true (D 9) (D 11)) S w_:=by
    rw [d7_0,f9,f11]
    simpa [ay,Value.cells] using hI
   exact ⟨h0_,h1_,h2_,h3_,h4_,h5_,h6_,h7_,fun _=>by first|assumption|trivial,h9_,h10_,h11_,⟨M,cs7,b8,e7,e8,k8,k9,k11,k1,hI⟩⟩
  ·intro D hD_ d1_0 d8_1 d7_2 x29 x28 x27 x26 x25 x24 x23 x22 x21 x20 x19 w_
   rintro ⟨h0_,h1_,h2_,h3_,h4_,h5_,h6_,h7_,h8_,h9_,h10_,h11_,⟨M,cs7,b8,e7,e8,k8,k9,k11,k1,hI⟩⟩
   obtain rfl:=h1_ d1_0
   have g8_:=h8_ d8_1
   have f11:D 11=false:=Bool.eq_false_iff.2 fun h=>by rw [k11 h] at hD_; cases hD_
   have q8:=e8 d8_1
   subst q8
   obtain ⟨_,hT⟩:=e7 d7_2
   rw [d7_2,d8_1,hD_,f11] at hI
   have hblk:((ay (.blk b1 (.cells #[.int .i64 k,.int .i64 n,.string s,.slice (some ⟨b,o,none⟩) ks.length cap] ad)) (.blk b2 (.cells #[.int .i64 0,.int .i64 0,.string ⟨#[]⟩,.slice none 0 0] ad)) (.blk b3 (.cells #[.int .i64 k,.int .i64 n,.string s,x20] ad)) (.blk b3 (.cells #[.int .i64 k,.int .i64 n,.string s,x28] ad)) (ax x20 ad 4 css) (ax x28 ad 4 (css++[cs7])) (aH Ls.flatten) M (.blk b8 (.cells cs7.toArray ad)) true true false false))[4+(aH Ls.flatten).length+(aH M).length]?=some (.blk b8 (.cells cs7.toArray ad)):=by
    have e4:4+(aH Ls.flatten).length+(aH M).length=((aH Ls.flatten).length+(aH M).length)+1+1+1+1:=by omega
    rw [e4]
    simp only [ay,List.getElem?_cons_succ]
    rw [List.getElem?_append_right (by omega),Nat.add_sub_cancel_left,List.getElem?_append_right (Nat.le_refl _),Nat.sub_self]; rfl
   refine r_append hI 3 cs7 aR (by omega) rfl (by rw [hT.length]) (m:=1) (o:=0) ?_ hT.one (by omega) (by omega) fun v' w_ hI=>?_
   ·intro i u hi
    rw [hI.cellL hblk,Nat.zero_add]
    simpa using hi
   rw [cg] at hI
   have k9:=fun (_:setD D 9 9=true)=>d8_1
   have k11:=fun (_:setD D 9 11=true)=>(rfl:setD D 9 9=true)
   have hI:Inv w [] (ay (.blk b1 (.cells #[.int .i64 k,.int .i64 n,.string s,.slice (some ⟨b,o,none⟩) ks.length cap] ad)) (.blk b2 (.cells #[.int .i64 0,.int .i64 0,.string ⟨#[]⟩,.slice none 0 0] ad)) (.blk b3 (.cells #[.int .i64 k,.int .i64 n,.string s,x20] ad)) (.blk b3 (.cells #[.int .i64 k,.int .i64 n,.string s,v'] ad)) (ax x20 ad 4 css) (ax v' ad 4 (css++[cs7])) (aH Ls.flatten) M (.blk b8 (.cells cs7.toArray ad)) (D 7) (D 8) true (D 11)) S w_:=by
    rw [d7_2,d8_1,f11]
    exact hI
   exact ⟨h0_,h1_,h2_,h3_,h4_,h5_,h6_,h7_,h8_,fun _=>by first|assumption|trivial,h10_,h11_,⟨M,cs7,b8,e7,e8,k8,k9,k11,k1,hI⟩⟩
  ·intro D hD_ d0_0 d1_1 d2_2 d3_3 d4_4 d5_5 d6_6 d7_7 d8_8 d9_9 x29 x28 x27 x26 x25 x24 x23 x22 x21 x20 x19 w_
   rintro ⟨h0_,h1_,h2_,h3_,h4_,h5_,h6_,h7_,h8_,h9_,h10_,h11_,⟨M,cs7,b8,e7,e8,k8,k9,k11,k1,hI⟩⟩
   refine r_field ar ?_
   exact ⟨h0_,h1_,h2_,h3_,h4_,h5_,h6_,h7_,h8_,h9_,fun _=>rfl,h11_,⟨M,cs7,b8,e7,e8,k8,k9,k11,k1,hI⟩⟩
  ·intro D hD_ d10_0 d9_1 d9_2 d0_3 d1_4 d2_5 d3_6 d4_7 d5_8 d6_9 d7_10 d8_11 d9_12 x29 x28 x27 x26 x25 x24 x23 x22 x21 x20 x19 w_
   rintro ⟨h0_,h1_,h2_,h3_,h4_,h5_,h6_,h7_,h8_,h9_,h10_,h11_,⟨M,cs7,b8,e7,e8,k8,k9,k11,k1,hI⟩⟩
   obtain rfl:=h10_ d10_0
   have g9_:=h9_ d9_1
   rw [d7_10,d8_11,d9_1,hD_] at hI
   obtain ⟨va,vn,vc,hv9⟩:=Inv.rowSlice hI 3 rfl
   refine r_store hI 2 (n:=1) (by rw [hv9]; rfl) (by decide +kernel) rfl (by simp) (by rw [hv9]; simp [Value.cells,Value.oneCell']) fun w_ hI=>?_
   have hcl9:Value.cells x28=#[x28]:=by rw [hv9]; rfl
   rw [hcl9] at hI
   have k1:=fun (_:setD D 11 11=true)=>d1_4
   have k11:=fun (_:setD D 11 11=true)=>d9_1
   have hI:Inv w [] (ay (.blk b1 (.cells #[.int .i64 k,.int .i64 n,.string s,.slice (some ⟨b,o,none⟩) ks.length cap] ad)) (.blk b2 (.cells #[.int .i64 0,.int .i64 0,.string ⟨#[]⟩,.slice none 0 0] ad)) (.blk b3 (.cells #[.int .i64 k,.int .i64 n,.string s,kvc] ad)) (.blk b3 (.cells #[.int .i64 k,.int .i64 n,.string s,x28] ad)) (ax kvc ad 4 css) (ax x28 ad 4 (css++[cs7])) (aH Ls.flatten) M (.blk b8 (.cells cs7.toArray ad)) (D 7) (D 8) (D 9) true) S w_:=by
    rw [d7_10,d8_11,d9_1]
    exact hI
   exact ⟨h0_,h1_,h2_,h3_,h4_,h5_,h6_,h7_,h8_,h9_,h10_,fun _=>trivial,⟨M,cs7,b8,e7,e8,k8,k9,k11,k1,hI⟩⟩
  intro D d11_ d10_ d9_ d8_ d7_ d6_ d5_ d4_ d3_ d2_ d1_ d0_ x29 x28 x27 x26 x25 x24 x23 x22 x21 x20 x19 w_
  rintro ⟨h0_,h1_,h2_,h3_,h4_,h5_,h6_,h7_,h8_,h9_,h10_,h11_,⟨M,cs7,b8,e7,e8,k8,k9,k11,k1,hI⟩⟩
  obtain rfl:=h10_ d10_
  have g9_:=h9_ d9_
  have g8_:=h8_ d8_
  have g7_:=h7_ d7_
  obtain rfl:=h6_ d6_
  obtain rfl:=h5_ d5_
  obtain rfl:=h4_ d4_
  obtain rfl:=h3_ d3_
  obtain rfl:=h2_ d2_
  obtain rfl:=h1_ d1_
  obtain rfl:=h0_ d0_
  clear h0_ h1_ h2_ h3_ h4_ h5_ h6_ h7_ h8_ h9_ h10_ h11_
  obtain ⟨_,hT⟩:=e7 d7_
  rw [d7_,d8_,d9_,d11_] at hI
  refine r_add (by omega) ?_
  refine ⟨⟨j+1,x28,Ls++[M],css++[cs7],hj',rfl,?_,?_⟩,by simp [intOf]; omega⟩
  ·rw [List.take_succ_eq_append_getElem hj']
   exact hg.snoc hT hT.length
  ·simp only [List.flatten_append,List.flatten_cons,List.flatten_nil,List.append_nil,bp]
   refine hI.sub ?_
   simp only [ay]
   rw [<- List.append_assoc]
   exact (((List.sublist_append_left _ _).cons_cons _).cons_cons _).cons_cons _ |>.cons_cons _
 ·have:j=ks.length:=by omega
  subst this
  rw [List.take_length] at hg
  obtain ⟨va,vn,vc,hvk⟩:=hI.rowSlice 3 rfl
  have hv1:kvc.oneCell'=true:=by rw [hvk]; rfl
  refine r_loadW hI 2 aj rfl rfl ?_
  refine au hI 1 rfl aj rfl rfl ?_ fun w' hI=>?_
  ·intro u hu
   have hu':u∈([.int .i64 k,.int .i64 n,.string s,kvc]:List Value):=hu
   simp at hu'
   rcases hu' with rfl|rfl|rfl|rfl <;> first|rfl|exact hv1
  refine loadV_W hI 1 aj rfl rfl ?_
  have hI:Inv w [] ([]++(ax kvc ad 4 css::aH Ls.flatten)) S w':=hI.sub (List.sublist_append_right [_,_,_] _)
  obtain ⟨L,hT,hI⟩:=Inv.rowTree hI hg
  exact ⟨_,_,_,rfl,hI,Ext.refl _ _ _,rfl,_,L,rfl,rfl,TrT.iff.2 ⟨kvc,rfl,h1,h2,hs,hT⟩⟩
end

end Go.Proofs.YtmnnpgdeecnfpaaGreat

/- spec.l4Copy, spec.l14Copy: clauses and programs copied. -/
namespace Go.Proofs.YtmnnpgdeecnfpaaGreat
open Go Go.RowKit
section
attribute [local irreducible] Run CondV GuardV LoadV
theorem qs {c0:C} {S:Store} {cs:List Value} (h:RdC S cs c0) (hw:wC c0<=1048576):Tri Tryz.prog nJ [.agg cs.toArray] [] S (xQ S c0):=by
 intro w hI
 obtain ⟨hd,ks,rfl,h1,h2⟩:=h
 have h1':=h1
 obtain ⟨kv,rfl,g1,g2,g3,g4⟩:=RdT.iff.1 h1
 unfold wC at hw
 refine ff ?_
 unfold fM
 refine r_box hI fun b1 w' hI=>?_
 refine r_alloc hI aP fun b2 w' hI=>?_
 refine r_field aQ ?_
 refine r_loadLA hI 0 [.int .i64 c0.head.kind,.int .i64 c0.head.n,.string c0.head.name,kv] aj rfl rfl mK ?_
 refine Run.call0 ca cf hI (cK _ S _ h1' (by omega)) fun v' I' S w'=>?_
 rintro ⟨rfl,cs1,N,rfl,rfl,hT1⟩ _ hI
 obtain ⟨kh,rfl,_⟩:=TrT.iff.1 hT1
 refine cY ?_
 refine r_alloc hI aP fun b3 w' hI=>?_
 have hI:=hI.perm (M:=.blk b1 _::.blk b2 _::.blk b3 _::aH N) (((List.perm_append_comm (l₁:=[_])).cons _).cons _)
 refine au hI 2 rfl al rfl rfl ?_ fun w' hI=>?_
 ·intro u hu
  have hu':u∈([.int .i64 c0.head.kind,.int .i64 c0.head.n,.string c0.head.name,kh,.slice none 0 0]:List Value):=hu
  simp at hu'
  have o1:kh.oneCell'=true:=hT1.one kh (by simp)
  rcases hu' with rfl|rfl|rfl|rfl|rfl <;> first|rfl|exact o1
 have hI:=hI.rowNil ad 4
 have hI:=hI.perm (M:=.blk b1 (.cells #[.int .i64 c0.head.kind,.int .i64 c0.head.n,.string c0.head.name,kv,ks] af)::.blk b2 (.cells #[.int .i64 0,.int .i64 0,.string ⟨#[]⟩,.slice none 0 0,.slice none 0 0] af)::.blk b3 (.cells #[.int .i64 c0.head.kind,.int .i64 c0.head.n,.string c0.head.name,kh,.slice none 0 0] af)::ax (.slice none 0 0) ad 4 []::aH N) ((((List.perm_append_comm (l₁:=[_])).cons _).cons _).cons _)
 refine ⟨fun i w'=>∃ (j:Nat) (kvc:Value) (Ls:List aD) (css:List (List Value)),j<=c0.body.length/\i=.int .i64 j/\Grown 4 TrT Ls css (c0.body.take j)/\
   Inv w [] (.blk b1 (.cells #[.int .i64 c0.head.kind,.int .i64 c0.head.n,.string c0.head.name,kv,ks] af)::.blk b2 (.cells #[.int .i64 0,.int .i64 0,.string ⟨#[]⟩,.slice none 0 0,.slice none 0 0] af)::.blk b3 (.cells #[.int .i64 c0.head.kind,.int .i64 c0.head.n,.string c0.head.name,kh,kvc] af)::ax kvc ad 4 css::aH (N::Ls).flatten) S w',
  fun i _=>c0.body.length - (intOf i).toNat,⟨0,_,[],[],Nat.zero_le _,rfl,Grown.nil _ _,by simp only [List.flatten_cons,List.flatten_nil,List.append_nil]; exact hI⟩,?_⟩
 intro t4 _ _ _ _ _ _ _ _ _ _ _ _ _ _ _ _ _ _ w'
 rintro ⟨j,kvc,Ls,css,hj,rfl,hg,hI⟩
 refine r_fieldL hI 0 rfl aw ao rfl ?_
 refine r_lenSl h2 aq ?_
 refine r_lss ?_
 refine condP (fun hji=>?_) (fun hji=>?_)
 ·have hj':j<c0.body.length:=by omega
  have hjl:(c0.body.take j).length=j:=by simp; omega
  have hcl:=hg.hc
  have hm:=List.getElem_mem hj'
  have hwm:=fu hm
  obtain ⟨b,o,cap,c,E,fz,rfl,hS,hR⟩:=h2.at_ hj'
  refine ⟨fun D x26 x25 x24 x23 x22 x21 x20 x19 x18 x17 x16 w_=>(D 0=true->x16=.pointer (some ⟨b3,4,none⟩))/\(D 1=true->x17=kvc)/\(D 2=true->x18=.pointer (some ⟨b1,4,none⟩))/\(D 3=true->x19=.slice (some ⟨b,o,none⟩) (c0.body).length cap)/\(D 4=true->x20=.int .i64 j)/\(D 5=true->x21=.pointer (some ⟨b,o+j * 4,none⟩))/\(D 6=true->x22=.agg (cellsAt c (o+j * 4) 4).toArray)/\(D 7=true->True)/\(D 8=true->True)/\(D 9=true->True)/\(D 10=true->x26=.pointer (some ⟨b3,4,none⟩))/\(D 11=true->True)/\∃ M cs7 b8,(D 7=true->x23=.agg cs7.toArray/\TrT M cs7 (c0.body)[j])/\(D 8=true->x24=.slice (some ⟨b8,0,none⟩) 1 1)/\(D 8=true->D 7=true)/\(D 9=true->D 8=true)/\(D 11=true->D 9=true)/\(D 11=true->D 1=true)/\Inv w [] (ay (.blk b1 (.cells #[.int .i64 c0.head.kind,.int .i64 c0.head.n,.string c0.head.name,kv,.slice (some ⟨b,o,none⟩) c0.body.length cap] af)) (.blk b2 (.cells #[.int .i64 0,.int .i64 0,.string ⟨#[]⟩,.slice none 0 0,.slice none 0 0] af)) (.blk b3 (.cells #[.int .i64 c0.head.kind,.int .i64 c0.head.n,.string c0.head.name,kh,kvc] af)) (.blk b3 (.cells #[.int .i64 c0.head.kind,.int .i64 c0.head.n,.string c0.head.name,kh,x25] af)) (ax kvc ad 4 css) (ax x25 ad 4 (css++[cs7])) (aH (N::Ls).flatten) M (.blk b8 (.cells cs7.toArray ad)) (D 7) (D 8) (D 9) (D 11)) S w_,⟨fun h=>Bool.noConfusion h,fun h=>Bool.noConfusion h,fun h=>Bool.noConfusion h,fun h=>Bool.noConfusion h,fun h=>Bool.noConfusion h,fun h=>Bool.noConfusion h,fun h=>Bool.noConfusion h,fun h=>Bool.noConfusion h,fun h=>Bool.noConfusion h,fun h=>Bool.noConfusion h,fun h=>Bool.noConfusion h,fun h=>Bool.noConfusion h,⟨[],[],0,fun h=>Bool.noConfusion h,fun h=>Bool.noConfusion h,fun h=>Bool.noConfusion h,fun h=>Bool.noConfusion h,fun h=>Bool.noConfusion h,fun h=>Bool.noConfusion h,by simpa [ay,aH] using hI.draw⟩⟩,⟨?_,?_,?_,?_,?_,?_,?_,?_,?_,?_,?_,?_,trivial⟩,?_⟩
  ·intro D hD_  x26 x25 x24 x23 x22 x21 x20 x19 x18 x17 x16 w_
   rintro ⟨h0_,h1_,h2_,h3_,h4_,h5_,h6_,h7_,h8_,h9_,h10_,h11_,⟨M,cs7,b8,e7,e8,k8,k9,k11,k1,hI⟩⟩
   refine r_field aw ?_
   exact ⟨fun _=>rfl,h1_,h2_,h3_,h4_,h5_,h6_,h7_,h8_,h9_,h10_,h11_,⟨M,cs7,b8,e7,e8,k8,k9,k11,k1,hI⟩⟩
  ·intro D hD_ d0_0 x26 x25 x24 x23 x22 x21 x20 x19 x18 x17 x16 w_
   rintro ⟨h0_,h1_,h2_,h3_,h4_,h5_,h6_,h7_,h8_,h9_,h10_,h11_,⟨M,cs7,b8,e7,e8,k8,k9,k11,k1,hI⟩⟩
   obtain rfl:=h0_ d0_0
   have f11:D 11=false:=Bool.eq_false_iff.2 fun h=>by rw [k1 h] at hD_; cases hD_
   refine r_loadL (b:=b3) hI 2 (c:=(#[.int .i64 c0.head.kind,.int .i64 c0.head.n,.string c0.head.name,kh,kvc])) ao (by rw [f11]; rfl) rfl ?_
   have k1:=fun (_:setD D 1 11=true)=>(rfl:setD D 1 1=true)
   exact ⟨h0_,fun _=>rfl,h2_,h3_,h4_,h5_,h6_,h7_,h8_,h9_,h10_,h11_,⟨M,cs7,b8,e7,e8,k8,k9,k11,k1,hI⟩⟩
  ·intro D hD_  x26 x25 x24 x23 x22 x21 x20 x19 x18 x17 x16 w_
   rintro ⟨h0_,h1_,h2_,h3_,h4_,h5_,h6_,h7_,h8_,h9_,h10_,h11_,⟨M,cs7,b8,e7,e8,k8,k9,k11,k1,hI⟩⟩
   refine r_field aw ?_
   exact ⟨h0_,h1_,fun _=>rfl,h3_,h4_,h5_,h6_,h7_,h8_,h9_,h10_,h11_,⟨M,cs7,b8,e7,e8,k8,k9,k11,k1,hI⟩⟩
  ·intro D hD_ d2_0 x26 x25 x24 x23 x22 x21 x20 x19 x18 x17 x16 w_
   rintro ⟨h0_,h1_,h2_,h3_,h4_,h5_,h6_,h7_,h8_,h9_,h10_,h11_,⟨M,cs7,b8,e7,e8,k8,k9,k11,k1,hI⟩⟩
   obtain rfl:=h2_ d2_0
   refine r_loadL hI 0 ao rfl rfl ?_
   exact ⟨h0_,h1_,h2_,fun _=>rfl,h4_,h5_,h6_,h7_,h8_,h9_,h10_,h11_,⟨M,cs7,b8,e7,e8,k8,k9,k11,k1,hI⟩⟩
  ·intro D hD_  x26 x25 x24 x23 x22 x21 x20 x19 x18 x17 x16 w_
   rintro ⟨h0_,h1_,h2_,h3_,h4_,h5_,h6_,h7_,h8_,h9_,h10_,h11_,⟨M,cs7,b8,e7,e8,k8,k9,k11,k1,hI⟩⟩
   exact ⟨h0_,h1_,h2_,h3_,fun _=>rfl,h5_,h6_,h7_,h8_,h9_,h10_,h11_,⟨M,cs7,b8,e7,e8,k8,k9,k11,k1,hI⟩⟩
  ·intro D hD_ d3_0 d4_1 x26 x25 x24 x23 x22 x21 x20 x19 x18 x17 x16 w_
   rintro ⟨h0_,h1_,h2_,h3_,h4_,h5_,h6_,h7_,h8_,h9_,h10_,h11_,⟨M,cs7,b8,e7,e8,k8,k9,k11,k1,hI⟩⟩
   obtain rfl:=h3_ d3_0
   obtain rfl:=h4_ d4_1
   refine r_indexAddr aq hj' ?_
   exact ⟨h0_,h1_,h2_,h3_,h4_,fun _=>rfl,h6_,h7_,h8_,h9_,h10_,h11_,⟨M,cs7,b8,e7,e8,k8,k9,k11,k1,hI⟩⟩
  ·intro D hD_ d5_0 x26 x25 x24 x23 x22 x21 x20 x19 x18 x17 x16 w_
   rintro ⟨h0_,h1_,h2_,h3_,h4_,h5_,h6_,h7_,h8_,h9_,h10_,h11_,⟨M,cs7,b8,e7,e8,k8,k9,k11,k1,hI⟩⟩
   obtain rfl:=h5_ d5_0
   refine r_loadA aj hR.length (fun j v hj=>by rw [hI.cellS hS]; exact cellsAt_get rfl j v hj) ?_
   exact ⟨h0_,h1_,h2_,h3_,h4_,h5_,fun _=>rfl,h7_,h8_,h9_,h10_,h11_,⟨M,cs7,b8,e7,e8,k8,k9,k11,k1,hI⟩⟩
  ·intro D hD_ d6_0 x26 x25 x24 x23 x22 x21 x20 x19 x18 x17 x16 w_
   rintro ⟨h0_,h1_,h2_,h3_,h4_,h5_,h6_,h7_,h8_,h9_,h10_,h11_,⟨M,cs7,b8,e7,e8,k8,k9,k11,k1,hI⟩⟩
   obtain rfl:=h6_ d6_0
   have f8:D 8=false:=Bool.eq_false_iff.2 fun h=>by rw [k8 h] at hD_; cases hD_
   have f9:D 9=false:=Bool.eq_false_iff.2 fun h=>by rw [k9 h] at f8; cases f8
   have f11:D 11=false:=Bool.eq_false_iff.2 fun h=>by rw [k11 h] at f9; cases f9
   rw [hD_,f8,f9,f11] at hI
   refine Run.call0 ca cf hI (cK _ S _ hR (by omega)) fun v' I' S w_=>?_
   rintro ⟨rfl,cs7,M,rfl,rfl,hT⟩ _ hI
   have e7:setD D 7 7=true->Value.agg cs7.toArray=Value.agg cs7.toArray/\TrT M cs7 (c0.body)[j]:=fun _=>⟨rfl,hT⟩
   have k8:=fun (_:setD D 7 8=true)=>(rfl:setD D 7 7=true)
   have hI:Inv w [] (ay (.blk b1 (.cells #[.int .i64 c0.head.kind,.int .i64 c0.head.n,.string c0.head.name,kv,.slice (some ⟨b,o,none⟩) c0.body.length cap] af)) (.blk b2 (.cells #[.int .i64 0,.int .i64 0,.string ⟨#[]⟩,.slice none 0 0,.slice none 0 0] af)) (.blk b3 (.cells #[.int .i64 c0.head.kind,.int .i64 c0.head.n,.string c0.head.name,kh,kvc] af)) (.blk b3 (.cells #[.int .i64 c0.head.kind,.int .i64 c0.head.n,.string c0.head.name,kh,x25] af)) (ax kvc ad 4 css) (ax x25 ad 4 (css++[cs7])) (aH (N::Ls).flatten) M (.blk b8 (.cells cs7.toArray ad)) true (D 8) (D 9) (D 11)) S w_:=by
    rw [f8,f9,f11]
    simpa [ay] using hI
   exact ⟨h0_,h1_,h2_,h3_,h4_,h5_,h6_,fun _=>by first|assumption|trivial,h8_,h9_,h10_,h11_,⟨M,cs7,b8,e7,e8,k8,k9,k11,k1,hI⟩⟩
  ·intro D hD_ d7_0 x26 x25 x24 x23 x22 x21 x20 x19 x18 x17 x16 w_
   rintro ⟨h0_,h1_,h2_,h3_,h4_,h5_,h6_,h7_,h8_,h9_,h10_,h11_,⟨M,cs7,b8,e7,e8,k8,k9,k11,k1,hI⟩⟩
   have g7_:=h7_ d7_0
   have f9:D 9=false:=Bool.eq_false_iff.2 fun h=>by rw [k9 h] at hD_; cases hD_
   have f11:D 11=false:=Bool.eq_false_iff.2 fun h=>by rw [k11 h] at f9; cases f9
   obtain ⟨q7,hT⟩:=e7 d7_0
   subst q7
   rw [d7_0,hD_,f9,f11] at hI
   refine r_slice1 hI aR (by simp [Value.cells,hT.length]) (by omega) (by omega) fun b8 w_ hI=>?_
   have e7:setD D 8 7=true->Value.agg cs7.toArray=Value.agg cs7.toArray/\TrT M cs7 (c0.body)[j]:=fun _=>⟨rfl,hT⟩
   have e8:=fun (_:setD D 8 8=true)=>(rfl:Value.slice (some ⟨b8,0,none⟩) 1 1=_)
   have k8:=fun (_:setD D 8 8=true)=>d7_0
   have k9:=fun (_:setD D 8 9=true)=>(rfl:setD D 8 8=true)
   have hI:Inv w [] (ay (.blk b1 (.cells #[.int .i64 c0.head.kind,.int .i64 c0.head.n,.string c0.head.name,kv,.slice (some ⟨b,o,none⟩) c0.body.length cap] af)) (.blk b2 (.cells #[.int .i64 0,.int .i64 0,.string ⟨#[]⟩,.slice none 0 0,.slice none 0 0] af)) (.blk b3 (.cells #[.int .i64 c0.head.kind,.int .i64 c0.head.n,.string c0.head.name,kh,kvc] af)) (.blk b3 (.cells #[.int .i64 c0.head.kind,.int .i64 c0.head.n,.string c0.head.name,kh,x25] af)) (ax kvc ad 4 css) (ax x25 ad 4 (css++[cs7])) (aH (N::Ls).flatten) M (.blk b8 (.cells cs7.toArray ad)) (D 7) true (D 9) (D 11)) S w_:=by
    rw [d7_0,f9,f11]
    simpa [ay,Value.cells] using hI
   exact ⟨h0_,h1_,h2_,h3_,h4_,h5_,h6_,h7_,fun _=>by first|assumption|trivial,h9_,h10_,h11_,⟨M,cs7,b8,e7,e8,k8,k9,k11,k1,hI⟩⟩
  ·intro D hD_ d1_0 d8_1 d7_2 x26 x25 x24 x23 x22 x21 x20 x19 x18 x17 x16 w_
   rintro ⟨h0_,h1_,h2_,h3_,h4_,h5_,h6_,h7_,h8_,h9_,h10_,h11_,⟨M,cs7,b8,e7,e8,k8,k9,k11,k1,hI⟩⟩
   obtain rfl:=h1_ d1_0
   have g8_:=h8_ d8_1
   have f11:D 11=false:=Bool.eq_false_iff.2 fun h=>by rw [k11 h] at hD_; cases hD_
   have q8:=e8 d8_1
   subst q8
   obtain ⟨_,hT⟩:=e7 d7_2
   rw [d7_2,d8_1,hD_,f11] at hI
   have hblk:((ay (.blk b1 (.cells #[.int .i64 c0.head.kind,.int .i64 c0.head.n,.string c0.head.name,kv,.slice (some ⟨b,o,none⟩) c0.body.length cap] af)) (.blk b2 (.cells #[.int .i64 0,.int .i64 0,.string ⟨#[]⟩,.slice none 0 0,.slice none 0 0] af)) (.blk b3 (.cells #[.int .i64 c0.head.kind,.int .i64 c0.head.n,.string c0.head.name,kh,x17] af)) (.blk b3 (.cells #[.int .i64 c0.head.kind,.int .i64 c0.head.n,.string c0.head.name,kh,x25] af)) (ax x17 ad 4 css) (ax x25 ad 4 (css++[cs7])) (aH (N::Ls).flatten) M (.blk b8 (.cells cs7.toArray ad)) true true false false))[4+(aH (N::Ls).flatten).length+(aH M).length]?=some (.blk b8 (.cells cs7.toArray ad)):=by
    have e4:4+(aH (N::Ls).flatten).length+(aH M).length=((aH (N::Ls).flatten).length+(aH M).length)+1+1+1+1:=by omega
    rw [e4]
    simp only [ay,List.getElem?_cons_succ]
    rw [List.getElem?_append_right (by omega),Nat.add_sub_cancel_left,List.getElem?_append_right (Nat.le_refl _),Nat.sub_self]; rfl
   refine r_append hI 3 cs7 aR (by omega) rfl (by rw [hT.length]) (m:=1) (o:=0) ?_ hT.one (by omega) (by omega) fun v' w_ hI=>?_
   ·intro i u hi
    rw [hI.cellL hblk,Nat.zero_add]
    simpa using hi
   rw [cg] at hI
   have k9:=fun (_:setD D 9 9=true)=>d8_1
   have k11:=fun (_:setD D 9 11=true)=>(rfl:setD D 9 9=true)
   have hI:Inv w [] (ay (.blk b1 (.cells #[.int .i64 c0.head.kind,.int .i64 c0.head.n,.string c0.head.name,kv,.slice (some ⟨b,o,none⟩) c0.body.length cap] af)) (.blk b2 (.cells #[.int .i64 0,.int .i64 0,.string ⟨#[]⟩,.slice none 0 0,.slice none 0 0] af)) (.blk b3 (.cells #[.int .i64 c0.head.kind,.int .i64 c0.head.n,.string c0.head.name,kh,x17] af)) (.blk b3 (.cells #[.int .i64 c0.head.kind,.int .i64 c0.head.n,.string c0.head.name,kh,v'] af)) (ax x17 ad 4 css) (ax v' ad 4 (css++[cs7])) (aH (N::Ls).flatten) M (.blk b8 (.cells cs7.toArray ad)) (D 7) (D 8) true (D 11)) S w_:=by
    rw [d7_2,d8_1,f11]
    exact hI
   exact ⟨h0_,h1_,h2_,h3_,h4_,h5_,h6_,h7_,h8_,fun _=>by first|assumption|trivial,h10_,h11_,⟨M,cs7,b8,e7,e8,k8,k9,k11,k1,hI⟩⟩
  ·intro D hD_ d0_0 d1_1 d2_2 d3_3 d4_4 d5_5 d6_6 d7_7 d8_8 d9_9 x26 x25 x24 x23 x22 x21 x20 x19 x18 x17 x16 w_
   rintro ⟨h0_,h1_,h2_,h3_,h4_,h5_,h6_,h7_,h8_,h9_,h10_,h11_,⟨M,cs7,b8,e7,e8,k8,k9,k11,k1,hI⟩⟩
   refine r_field aw ?_
   exact ⟨h0_,h1_,h2_,h3_,h4_,h5_,h6_,h7_,h8_,h9_,fun _=>rfl,h11_,⟨M,cs7,b8,e7,e8,k8,k9,k11,k1,hI⟩⟩
  ·intro D hD_ d10_0 d9_1 d9_2 d0_3 d1_4 d2_5 d3_6 d4_7 d5_8 d6_9 d7_10 d8_11 d9_12 x26 x25 x24 x23 x22 x21 x20 x19 x18 x17 x16 w_
   rintro ⟨h0_,h1_,h2_,h3_,h4_,h5_,h6_,h7_,h8_,h9_,h10_,h11_,⟨M,cs7,b8,e7,e8,k8,k9,k11,k1,hI⟩⟩
   obtain rfl:=h10_ d10_0
   have g9_:=h9_ d9_1
   rw [d7_10,d8_11,d9_1,hD_] at hI
   obtain ⟨va,vn,vc,hv9⟩:=Inv.rowSlice hI 3 rfl
   refine r_store hI 2 (n:=1) (by rw [hv9]; rfl) (by decide +kernel) rfl (by simp) (by rw [hv9]; simp [Value.cells,Value.oneCell']) fun w_ hI=>?_
   have hcl9:Value.cells x25=#[x25]:=by rw [hv9]; rfl
   rw [hcl9] at hI
   have k1:=fun (_:setD D 11 11=true)=>d1_4
   have k11:=fun (_:setD D 11 11=true)=>d9_1
   have hI:Inv w [] (ay (.blk b1 (.cells #[.int .i64 c0.head.kind,.int .i64 c0.head.n,.string c0.head.name,kv,.slice (some ⟨b,o,none⟩) c0.body.length cap] af)) (.blk b2 (.cells #[.int .i64 0,.int .i64 0,.string ⟨#[]⟩,.slice none 0 0,.slice none 0 0] af)) (.blk b3 (.cells #[.int .i64 c0.head.kind,.int .i64 c0.head.n,.string c0.head.name,kh,kvc] af)) (.blk b3 (.cells #[.int .i64 c0.head.kind,.int .i64 c0.head.n,.string c0.head.name,kh,x25] af)) (ax kvc ad 4 css) (ax x25 ad 4 (css++[cs7])) (aH (N::Ls).flatten) M (.blk b8 (.cells cs7.toArray ad)) (D 7) (D 8) (D 9) true) S w_:=by
    rw [d7_10,d8_11,d9_1]
    exact hI
   exact ⟨h0_,h1_,h2_,h3_,h4_,h5_,h6_,h7_,h8_,h9_,h10_,fun _=>trivial,⟨M,cs7,b8,e7,e8,k8,k9,k11,k1,hI⟩⟩
  intro D d11_ d10_ d9_ d8_ d7_ d6_ d5_ d4_ d3_ d2_ d1_ d0_ x26 x25 x24 x23 x22 x21 x20 x19 x18 x17 x16 w_
  rintro ⟨h0_,h1_,h2_,h3_,h4_,h5_,h6_,h7_,h8_,h9_,h10_,h11_,⟨M,cs7,b8,e7,e8,k8,k9,k11,k1,hI⟩⟩
  obtain rfl:=h10_ d10_
  have g9_:=h9_ d9_
  have g8_:=h8_ d8_
  have g7_:=h7_ d7_
  obtain rfl:=h6_ d6_
  obtain rfl:=h5_ d5_
  obtain rfl:=h4_ d4_
  obtain rfl:=h3_ d3_
  obtain rfl:=h2_ d2_
  obtain rfl:=h1_ d1_
  obtain rfl:=h0_ d0_
  clear h0_ h1_ h2_ h3_ h4_ h5_ h6_ h7_ h8_ h9_ h10_ h11_
  obtain ⟨_,hT⟩:=e7 d7_
  rw [d7_,d8_,d9_,d11_] at hI
  refine r_add (by omega) ?_
  refine ⟨⟨j+1,x25,Ls++[M],css++[cs7],hj',rfl,?_,?_⟩,by simp [intOf]; omega⟩
  ·rw [List.take_succ_eq_append_getElem hj']
   exact hg.snoc hT hT.length
  ·rw [<- List.cons_append,List.flatten_append,bp]
   simp only [List.flatten_cons,List.flatten_nil,List.append_nil]
   refine hI.sub ?_
   simp only [ay,List.flatten_cons]
   rw [<- List.append_assoc]
   exact (((List.sublist_append_left _ _).cons_cons _).cons_cons _).cons_cons _ |>.cons_cons _
 ·have:j=c0.body.length:=by omega
  subst this
  rw [List.take_length] at hg
  obtain ⟨va,vn,vc,hvk⟩:=hI.rowSlice 3 rfl
  have hv1:kvc.oneCell'=true:=by rw [hvk]; rfl
  have o1:kh.oneCell'=true:=hT1.one kh (by simp)
  refine r_loadW hI 2 al rfl rfl ?_
  refine au hI 1 rfl al rfl rfl ?_ fun w' hI=>?_
  ·intro u hu
   have hu':u∈([.int .i64 c0.head.kind,.int .i64 c0.head.n,.string c0.head.name,kh,kvc]:List Value):=hu
   simp at hu'
   rcases hu' with rfl|rfl|rfl|rfl|rfl <;> first|rfl|exact o1|exact hv1
  refine loadV_W hI 1 al rfl rfl ?_
  have hI:Inv w [] (ax kvc ad 4 css::aH (N::Ls).flatten) S w':=hI.sub (List.sublist_append_right [_,_,_] _)
  rw [List.flatten_cons,bp] at hI
  have hI:=hI.perm (M:=aH N++(ax kvc ad 4 css::aH Ls.flatten)) (List.perm_middle)
  obtain ⟨L,hT,hI⟩:=Inv.rowTree hI hg
  exact ⟨_,_,_,rfl,hI,Ext.refl _ _ _,rfl,_,N++L,rfl,by rw [bp],_,kvc,N,L,rfl,rfl,hT1,hT⟩
end

end Go.Proofs.YtmnnpgdeecnfpaaGreat

/- append of a whole slice that is only read to a row of the function's own. -/
namespace Go.Proofs.YtmnnpgdeecnfpaaGreat
open Go Go.RowKit
section
variable {P:Program} {w w0:World} {X:List Nat} {L:List Item} {S:Store} {K:Value->World->Prop}
theorem uN (h:Inv w0 X L S w) {T ty e:TypeId} {k by_ n cp:Nat} {z v:Value} {cs:List Bool} {xs:List Value} {a:Option Addr} (i:Nat)
  (hT:mkOf P T=some (e,k,by_,z)) (hi:L[i]?=some (.row v e k n xs)) (hk:K v w) :
  Run P (sBuiltin .append #[T,T] ty cs [v,.slice a 0 cp]) w K:=by
 obtain ⟨hu,inf,hi',hz,hs,hb,hzs⟩:=mkOf_some hT
 have hown:=h.its _ (List.mem_of_getElem? hi)
 simp only [Item.holds] at hown
 refine Run.of (v:=v) (w':=w) ?_ hk
 rcases hown.2 with ⟨rfl,rfl⟩|⟨g,cap,cur,rfl,_,hg,hnc,hcm,hcs,ht⟩
 ·cases a <;> simp [sBuiltin,builtin,Builtin.append_,run_underlying hu,sizeOf,typeInfo,hi',Builtin.lenOf,Builtin.firstCells,loadCells,loadCellsFrom]
 ·cases a <;> simp [sBuiltin,builtin,Builtin.append_,run_underlying hu,sizeOf,typeInfo,hi',storeCells,hnc,Builtin.lenOf,Builtin.firstCells,loadCells,loadCellsFrom]
end

end Go.Proofs.YtmnnpgdeecnfpaaGreat

/- Rows of clauses that are only read: grown, joined, copied. -/
namespace Go.Proofs.YtmnnpgdeecnfpaaGreat
open Go Go.RowKit

structure Rows {α:Type} (k:Nat) (R:List Value->α->Prop) (css:List (List Value)) (ys:List α):Prop where
 hc:css.length=ys.length
 hk:∀ cs∈css,cs.length=k
 hR:∀ i (h:i<ys.length) (h1:i<css.length),R css[i] ys[i]
theorem Rows.nil {α:Type} (k:Nat) (R:List Value->α->Prop):Rows k R [] ([]:List α):=⟨rfl,by simp,fun i h=>by simp at h⟩
theorem Rows.snoc {α:Type} {k:Nat} {R:List Value->α->Prop} {css:List (List Value)} {ys:List α} (h:Rows k R css ys) {cs:List Value} {y:α} (hR:R cs y) (hl:cs.length=k):Rows k R (css++[cs]) (ys++[y]):=by
 refine ⟨by simp [h.hc],fun c hc=>?_,fun i h0 h2=>?_⟩
 ·rcases List.mem_append.1 hc with hc|hc
  ·exact h.hk c hc
  ·simp at hc; subst hc; exact hl
 ·have e2:=h.hc
  by_cases hi:i<ys.length
  ·rw [List.getElem_append_left (by omega),List.getElem_append_left hi]
   exact h.hR i hi (by omega)
  ·have:i=ys.length:=by simp at h0; omega
   subst this
   rw [List.getElem_append_right (by omega),List.getElem_append_right (by omega)]
   simp only [e2,Nat.sub_self,List.getElem_cons_zero]
   exact hR
theorem Rows.append {α:Type} {k:Nat} {R:List Value->α->Prop} {css css':List (List Value)} {ys ys':List α} (h:Rows k R css ys) (h':Rows k R css' ys'):Rows k R (css++css') (ys++ys'):=by
 have e:=h.hc
 have e':=h'.hc
 refine ⟨by simp [e,e'],fun c hc=>?_,fun i h0 h2=>?_⟩
 ·rcases List.mem_append.1 hc with hc|hc
  ·exact h.hk c hc
  ·exact h'.hk c hc
 ·by_cases hi:i<ys.length
  ·rw [List.getElem_append_left (by omega),List.getElem_append_left hi]
   exact h.hR i hi (by omega)
  ·have hi':i - css.length<ys'.length:=by simp at h0; omega
   rw [List.getElem_append_right (by omega),List.getElem_append_right (by omega)]
   have:=h'.hR (i - css.length) hi' (by omega)
   simpa only [e] using this
theorem RowRd.rows {α:Type} {S:Store} {v:Value} {e:TypeId} {k:Nat} {R:List Value->α->Prop} {css:List (List Value)} {ys:List α} (hr:Rows k R css ys) (h:RowRd S v e k css.length css.flatten):RdSl S k R v ys:=by
 obtain ⟨hl,h⟩:=h
 have hcy:=hr.hc
 rcases h with ⟨rfl,h0⟩|⟨g,cap,cur,rfl,hS,hnc,hcm,hcs,ht⟩
 ·have:ys=[]:=List.eq_nil_of_length_eq_zero (by omega)
  subst this
  exact ⟨none,0,rfl,Nat.le_refl _,Nat.zero_le _,.inl rfl⟩
 ·refine ⟨_,cap,by rw [hcy],by omega,hcm,.inr ⟨g,0,cur,e,(0,0),rfl,hS,fun i hi=>?_⟩⟩
  have:=eM k css i hr.hk (by omega)
  have hik:i * k+k<=css.length * k:=by rw [<- Nat.succ_mul]; exact Nat.mul_le_mul_right k (by omega)
  rw [<- ht,List.drop_take,List.take_take,Nat.min_eq_left (by omega)] at this
  rw [cellsAt,Nat.zero_add,this]
  exact hr.hR i hi (by omega)
theorem mc {k:Nat}:∀ {css:List (List Value)},(∀ cs∈css,cs.length=k)->css.flatten.length=css.length * k
 | [],_=>by simp
 | c::css,h=>by
  have:=mc (css:=css) fun cs hc=>h cs (List.mem_cons_of_mem _ hc)
  rw [List.flatten_cons,List.length_append,h c (List.mem_cons_self ..),this,List.length_cons,Nat.succ_mul,Nat.add_comm]
section
variable {P:Program} {w w0:World} {X:List Nat} {L:List Item} {S:Store} {K:Value->World->Prop}
attribute [local irreducible] Run CondV GuardV LoadV
/- append(row, other row...) -/
end
end Go.Proofs.YtmnnpgdeecnfpaaGreat

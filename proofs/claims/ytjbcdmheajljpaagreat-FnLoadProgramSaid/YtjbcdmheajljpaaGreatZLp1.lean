/- Goals, clauses, programs, queries: which are valid, on both sides. -/
import Derived.Test.YtjbcdmheajljpaaGreatZLp0
import Derived.Test.YtjbcdmheajljpaaGreatRows
import Derived.ProofKit
import Derived.ReadAgain
import Derived.Carry
import Derived.Laws.BytesArg
import Derived.Laws.StructEq
import Derived.Laws.Tables
namespace Go.Proofs.YtjbcdmheajljpaaGreat
section
open Go Go.RowKit
attribute [local irreducible] Run CondV aC aU

def Ct:List ByteArray:=[⟨#[61]⟩,⟨#[92,61]⟩,⟨#[61,61]⟩,⟨#[60]⟩,⟨#[62]⟩,⟨#[61,60]⟩,⟨#[62,61]⟩,⟨#[61,58,61]⟩,⟨#[105,115]⟩]
def sx:List ByteArray:=[⟨#[116,114,117,101]⟩,⟨#[102,97,105,108]⟩]
def BR:List ByteArray:=[⟨#[118,97,114]⟩,⟨#[110,111,110,118,97,114]⟩,⟨#[97,116,111,109]⟩,⟨#[105,110,116]⟩]
def Jr:List ByteArray:=[⟨#[43]⟩,⟨#[45]⟩]
def zU:List ByteArray:=[⟨#[42]⟩,⟨#[47,47]⟩,⟨#[109,111,100]⟩]
def fU (s:ByteArray) (l:List ByteArray):Bool:=l.any fun x=>decide (s=x)
def gg (s:ByteArray) (n:Int):Bool:=
 if fU s Ct=true then decide (n=2)
 else if fU s sx=true then decide (n=0)
 else if fU s BR=true then decide (n=1)
 else if s=⟨#[97,114,103]⟩ then decide (n=3)
 else false
def cW (s:ByteArray):Int:=if fU s Ct=true then 3 else if fU s Jr=true then 2 else if fU s zU=true then 1 else 0
def oP (t:T):Bool:=decide (t.kind=3) && (decide (t.name=⟨#[33]⟩) && decide (t.kids.length=0))
def O9 (t:T):Bool:=decide (t.kind=3) && decide (t.kids.length=0)
def eX (t:T):Bool:=decide (t.kind=3) && gg t.name t.kids.length
def gw (t:T):Bool:=decide (t.kind=3) && (lx t.name && (!gg t.name t.kids.length && decide (cW t.name=0)))
def eI (t:T):Bool:=cA t && (oP t || (gw t || eX t))
def a9 (c:C):Bool:=decide (c.body.length<=6) && (c.body.all eI && (cA c.head && gw c.head))
def F8 (l:List T):Bool:=decide (l.length<=6) && l.all eI
def gK (p:List C):Bool:=decide (p.length<=20) && p.all a9
theorem Ns (s:ByteArray):(!decide (0<cW s))=decide (cW s=0):=by
 unfold cW;split
 ·rfl
 ·split
  ·rfl
  ·split <;> rfl

theorem i8 (s:ByteArray) (n:Int) (S:ag):Pure Tryz.prog CW [.string s,.int .i64 n] S (.bool (gg s n)):=by
 intro w i;refine pg.2 ?_;dsimp only[pg,bm];obtain ⟨q,a⟩:∃ q,fU s Ct=q:=⟨_,rfl⟩
 have g:=a;refine ⟨fun t w'=>t=.bool q/\Inv w [] [] S w',?_,?_⟩
 ·unfold fU Ct at a
  iterate 8
   refine cM ?_;refine aI (fun h=>⟨by rw [fm,h] at a; rw [h,<- a]; rfl,i⟩) (fun h=>?_);rw [fm,h,gI] at a
  refine cM ⟨?_,i⟩;rw [<- a]; simp
 intro t _ _ _ _ _ _ _ _ _ w';rintro ⟨rfl,i⟩;refine aI (fun h=>?_) (fun h=>?_)
 ·exact bn (done i (by rw [gg,af (g.trans h)]))
 have j:gg s n=if fU s sx=true then decide (n=0) else if fU s BR=true then decide (n=1) else if s=⟨#[97,114,103]⟩ then decide (n=3) else false:=by
  rw [gg,ae (by rw [g,h]; decide)]
 clear a g h;obtain ⟨q,a⟩:∃ q,fU s sx=q:=⟨_,rfl⟩
 have g:=a;refine ⟨fun t w'=>t=.bool q/\Inv w [] [] S w',?_,?_⟩
 ·unfold fU sx at a;refine cM ?_;refine aI (fun h=>⟨by rw [fm,h] at a; rw [h,<- a]; rfl,i⟩) (fun h=>?_);rw [fm,h,gI] at a;refine cM ⟨?_,i⟩;rw [<- a]; simp
 intro _ t _ w';rintro ⟨rfl,i⟩;refine aI (fun h=>?_) (fun h=>?_)
 ·exact bn (done i (by rw [j,af (g.trans h)]))
 rw [ae (by rw [g,h]; decide)] at j;clear a g h;obtain ⟨q,a⟩:∃ q,fU s BR=q:=⟨_,rfl⟩
 have g:=a;refine ⟨fun t w'=>t=.bool q/\Inv w [] [] S w',?_,?_⟩
 ·unfold fU BR at a
  iterate 3
   refine cM ?_;refine aI (fun h=>⟨by rw [fm,h] at a; rw [h,<- a]; rfl,i⟩) (fun h=>?_);rw [fm,h,gI] at a
  refine cM ⟨?_,i⟩;rw [<- a]; simp
 intro _ _ _ t _ w';rintro ⟨rfl,i⟩;refine aI (fun h=>?_) (fun h=>?_)
 ·exact bn (done i (by rw [j,af (g.trans h)]))
 rw [ae (by rw [g,h]; decide)] at j;refine cM ?_;refine aS (fun h=>?_) (fun h=>?_)
 ·exact bn (done i (by rw [j,af h]))
 ·exact done i (by rw [j,ae h])
theorem wc (s:ByteArray) (n:Int) (S:ag):Pure Tryz.prog CD [.string s,.int .i64 n] S (.bool (gg s n)):=by
 intro w i;refine qp.2 ?_;dsimp only[qp,bm];obtain ⟨q,a⟩:∃ q,fU s Ct=q:=⟨_,rfl⟩
 have g:=a;refine ⟨fun t w'=>t=.bool q/\Inv w [] [] S w',?_,?_⟩
 ·unfold fU Ct at a
  iterate 8
   refine cM ?_;refine aI (fun h=>⟨by rw [fm,h] at a; rw [h,<- a]; rfl,i⟩) (fun h=>?_);rw [fm,h,gI] at a
  refine cM ⟨?_,i⟩;rw [<- a]; simp
 intro t _ _ _ _ _ _ _ _ _ w';rintro ⟨rfl,i⟩;refine aI (fun h=>?_) (fun h=>?_)
 ·exact bn (done i (by rw [gg,af (g.trans h)]))
 have j:gg s n=if fU s sx=true then decide (n=0) else if fU s BR=true then decide (n=1) else if s=⟨#[97,114,103]⟩ then decide (n=3) else false:=by
  rw [gg,ae (by rw [g,h]; decide)]
 clear a g h;obtain ⟨q,a⟩:∃ q,fU s sx=q:=⟨_,rfl⟩
 have g:=a;refine ⟨fun t w'=>t=.bool q/\Inv w [] [] S w',?_,?_⟩
 ·unfold fU sx at a;refine cM ?_;refine aI (fun h=>⟨by rw [fm,h] at a; rw [h,<- a]; rfl,i⟩) (fun h=>?_);rw [fm,h,gI] at a;refine cM ⟨?_,i⟩;rw [<- a]; simp
 intro _ t _ w';rintro ⟨rfl,i⟩;refine aI (fun h=>?_) (fun h=>?_)
 ·exact bn (done i (by rw [j,af (g.trans h)]))
 rw [ae (by rw [g,h]; decide)] at j;clear a g h;obtain ⟨q,a⟩:∃ q,fU s BR=q:=⟨_,rfl⟩
 have g:=a;refine ⟨fun t w'=>t=.bool q/\Inv w [] [] S w',?_,?_⟩
 ·unfold fU BR at a
  iterate 3
   refine cM ?_;refine aI (fun h=>⟨by rw [fm,h] at a; rw [h,<- a]; rfl,i⟩) (fun h=>?_);rw [fm,h,gI] at a
  refine cM ⟨?_,i⟩;rw [<- a]; simp
 intro _ _ _ t _ w';rintro ⟨rfl,i⟩;refine aI (fun h=>?_) (fun h=>?_)
 ·exact bn (done i (by rw [j,af (g.trans h)]))
 rw [ae (by rw [g,h]; decide)] at j;refine cM ?_;refine aS (fun h=>?_) (fun h=>?_)
 ·exact bn (done i (by rw [j,af h]))
 ·exact done i (by rw [j,ae h])

theorem ey (s:ByteArray) (S:ag):Pure Tryz.prog HB [.string s] S (.int .i64 (cW s)):=by
 intro w i;refine tx.2 ?_;dsimp only[tx,aQ];obtain ⟨q,a⟩:∃ q,fU s Ct=q:=⟨_,rfl⟩
 have g:=a;refine ⟨fun t w'=>t=.bool q/\Inv w [] [] S w',?_,?_⟩
 ·unfold fU Ct at a
  iterate 8
   refine cM ?_;refine aI (fun h=>⟨by rw [fm,h] at a; rw [h,<- a]; rfl,i⟩) (fun h=>?_);rw [fm,h,gI] at a
  refine cM ⟨?_,i⟩;rw [<- a]; simp
 intro _ _ _ _ _ _ _ _ t _ w';rintro ⟨rfl,i⟩;refine aI (fun h=>?_) (fun h=>?_)
 ·exact done i (by rw [show cW s=3 from af (g.trans h)] <;> rfl)
 have j:cW s=if fU s Jr=true then 2 else if fU s zU=true then 1 else 0:=by
  rw [cW,ae (by rw [g,h]; decide)]
 clear a g h;obtain ⟨q,a⟩:∃ q,fU s Jr=q:=⟨_,rfl⟩
 have g:=a;refine ⟨fun t w'=>t=.bool q/\Inv w [] [] S w',?_,?_⟩
 ·unfold fU Jr at a;refine cM ?_;refine aI (fun h=>⟨by rw [fm,h] at a; rw [h,<- a]; rfl,i⟩) (fun h=>?_);rw [fm,h,gI] at a;refine cM ⟨?_,i⟩;rw [<- a]; simp
 intro _ t _ w';rintro ⟨rfl,i⟩;refine aI (fun h=>?_) (fun h=>?_)
 ·exact done i (by rw [show cW s=2 from j.trans (af (g.trans h))] <;> rfl)
 rw [ae (by rw [g,h]; decide)] at j;clear a g h;obtain ⟨q,a⟩:∃ q,fU s zU=q:=⟨_,rfl⟩
 have g:=a;refine ⟨fun t w'=>t=.bool q/\Inv w [] [] S w',?_,?_⟩
 ·unfold fU zU at a
  iterate 2
   refine cM ?_;refine aI (fun h=>⟨by rw [fm,h] at a; rw [h,<- a]; rfl,i⟩) (fun h=>?_);rw [fm,h,gI] at a
  refine cM ⟨?_,i⟩;rw [<- a]; simp
 intro _ _ t _ w';rintro ⟨rfl,i⟩;refine aI (fun h=>?_) (fun h=>?_)
 ·exact done i (by rw [show cW s=1 from j.trans (af (g.trans h))] <;> rfl)
 ·exact done i (by rw [show cW s=0 from j.trans (ae (by rw [g,h]; decide))] <;> rfl)
theorem zj (s:ByteArray) (S:ag):Pure Tryz.prog HF [.string s] S (.tuple #[.int .i64 (cW s),.bool (decide (cW s=1) || decide (cW s=2))]):=by
 intro w i;refine vP.2 ?_;dsimp only[vP,aQ];obtain ⟨q,a⟩:∃ q,fU s Ct=q:=⟨_,rfl⟩
 have g:=a;refine ⟨fun t w'=>t=.bool q/\Inv w [] [] S w',?_,?_⟩
 ·unfold fU Ct at a
  iterate 8
   refine cM ?_;refine aI (fun h=>⟨by rw [fm,h] at a; rw [h,<- a]; rfl,i⟩) (fun h=>?_);rw [fm,h,gI] at a
  refine cM ⟨?_,i⟩;rw [<- a]; simp
 intro _ _ _ _ _ _ _ _ t _ w';rintro ⟨rfl,i⟩;refine aI (fun h=>?_) (fun h=>?_)
 ·exact done i (by rw [show cW s=3 from af (g.trans h)] <;> rfl)
 have j:cW s=if fU s Jr=true then 2 else if fU s zU=true then 1 else 0:=by
  rw [cW,ae (by rw [g,h]; decide)]
 clear a g h;obtain ⟨q,a⟩:∃ q,fU s Jr=q:=⟨_,rfl⟩
 have g:=a;refine ⟨fun t w'=>t=.bool q/\Inv w [] [] S w',?_,?_⟩
 ·unfold fU Jr at a;refine cM ?_;refine aI (fun h=>⟨by rw [fm,h] at a; rw [h,<- a]; rfl,i⟩) (fun h=>?_);rw [fm,h,gI] at a;refine cM ⟨?_,i⟩;rw [<- a]; simp
 intro _ t _ w';rintro ⟨rfl,i⟩;refine aI (fun h=>?_) (fun h=>?_)
 ·exact done i (by rw [show cW s=2 from j.trans (af (g.trans h))] <;> rfl)
 rw [ae (by rw [g,h]; decide)] at j;clear a g h;obtain ⟨q,a⟩:∃ q,fU s zU=q:=⟨_,rfl⟩
 have g:=a;refine ⟨fun t w'=>t=.bool q/\Inv w [] [] S w',?_,?_⟩
 ·unfold fU zU at a
  iterate 2
   refine cM ?_;refine aI (fun h=>⟨by rw [fm,h] at a; rw [h,<- a]; rfl,i⟩) (fun h=>?_);rw [fm,h,gI] at a
  refine cM ⟨?_,i⟩;rw [<- a]; simp
 intro _ _ t _ w';rintro ⟨rfl,i⟩;refine aI (fun h=>?_) (fun h=>?_)
 ·exact done i (by rw [show cW s=1 from j.trans (af (g.trans h))] <;> rfl)
 ·exact done i (by rw [show cW s=0 from j.trans (ae (by rw [g,h]; decide))] <;> rfl)

theorem yE {t:T} {S:ag} {cs:List Value} (h:RdT S cs t):Pure Tryz.prog MZ [.agg cs.toArray] S (.bool (oP t)):=by
 intro w a;obtain ⟨kv,rfl,_,_,i,g⟩:=RdT.iff.1 h;obtain ⟨k,n,s,ks⟩:=t;simp only [T.name,T.kids,T.kind,T.n] at i g ⊢;refine Bw.2 ?_;dsimp only[Bw,aQ];refine bH a fun j w' a=>?_;refine ah a 0 rfl bb aw rfl ?_;refine bn ?_;rw [show oP (.mk k n s ks)=(decide (k=3) && (decide (s=⟨#[33]⟩) && decide (ks.length=0))) from rfl];cases l:decide (k=3)
 ·refine rpG ?_;exact done a rfl
 ·refine rpG ?_;refine ah a 0 rfl bk aZ rfl ?_;refine cM ?_;cases m:decide (s=⟨#[33]⟩)
  ·refine rpG ?_;exact done a rfl
  ·refine rpG ?_;refine ah a 0 rfl ay ax rfl ?_;refine aG g ao ?_;refine bn ?_;refine rpG ?_;exact done a (by simp)

theorem rp {t:T} {S:ag} {cs:List Value} (h:RdT S cs t):Pure Tryz.prog HA [.agg cs.toArray] S (.bool (gw t)):=by
 intro w a;obtain ⟨kv,rfl,_,_,i,g⟩:=RdT.iff.1 h;obtain ⟨k,n,s,ks⟩:=t;simp only [T.name,T.kids,T.kind,T.n] at i g ⊢;refine vp.2 ?_;dsimp only[vp,aQ];refine bH a fun j w' a=>?_;refine ah a 0 rfl bb aw rfl ?_;refine bn ?_;rw [show gw (.mk k n s ks)=(decide (k=3) && (lx s && (!gg s ks.length && decide (cW s=0)))) from rfl];cases l:decide (k=3)
 ·refine rpG ?_;exact done a rfl
 ·refine rpG ?_;refine ah a 0 rfl bk aZ rfl ?_;refine Run.callPure ya yw a (uH s i S) fun w' a=>?_;cases m:lx s
  ·refine rpG ?_;exact done a rfl
  ·refine rpG ?_;refine ah a 0 rfl bk aZ rfl ?_;refine ah a 0 rfl ay ax rfl ?_;refine aG g ao ?_;refine Run.callPure lg kG a (i8 s _ S) fun w' a=>?_;refine cU ?_;cases o:gg s ks.length
   ·refine rpG ?_;refine ah a 0 rfl bk aZ rfl ?_;refine Run.callPure fQ fK a (ey s S) fun w' a=>?_;refine bn ?_;refine rpG ?_;exact done a rfl
   ·refine rpG ?_;exact done a rfl

theorem Fy {t:T} {S:ag} {cs:List Value} (h:RdT S cs t):Pure Tryz.prog J0 [.agg cs.toArray] S (.bool (oP t || (gw t || eX t))):=by
 intro w a;have i:=h;obtain ⟨kv,rfl,_,_,j,g⟩:=RdT.iff.1 h;obtain ⟨k,n,s,ks⟩:=t;simp only [T.name,T.kids,T.kind,T.n] at i j g ⊢;refine xO.2 ?_;dsimp only[xO,aQ];refine bH a fun l w' a=>?_;refine aq a 0 ad rfl rfl ?_;refine Run.callPure Bj AN a (yE i) fun w' a=>?_;cases m:oP (.mk k n s ks)
 ·refine rpG ?_;refine aq a 0 ad rfl rfl ?_;refine Run.callPure tg uI a (rp i) fun w' a=>?_;cases o:gw (.mk k n s ks)
  ·refine rpG ?_;refine ah a 0 rfl bb aw rfl ?_;refine bn ?_;rw [show eX (.mk k n s ks)=(decide (k=3) && gg s ks.length) from rfl];cases p:decide (k=3)
   ·refine rpG ?_;exact done a rfl
   ·refine rpG ?_;refine ah a 0 rfl bk aZ rfl ?_;refine ah a 0 rfl ay ax rfl ?_;refine aG g ao ?_;refine Run.callPure lg kG a (i8 s _ S) fun w' a=>?_;refine rpG ?_;exact done a rfl
  ·refine rpG ?_;exact done a rfl
 ·refine rpG ?_;exact done a rfl

theorem Lj {t:T} (h:wT t<=1048576):bM t<=4611686018427387904:=by
 have:=NR t;omega
theorem wn {t:T} {S:ag} {cs:List Value} (h:RdT S cs t) (hc:wT t<=1048576):Pure Tryz.prog Dg [.agg cs.toArray] S (.bool (eI t)):=by
 intro w a;have g:=h.length;refine pi.2 ?_;dsimp only[pi,aQ];refine bH a fun i w' a=>?_;refine aq a 0 ad rfl (by simpa [Value.cells] using g) ?_;refine Run.callPure pk pZ a (mF h (Lj hc)) fun w' a=>?_;rw [eI];cases j:cA t
 ·refine rpG ?_;exact done a rfl
 ·refine rpG ?_;refine aq a 0 ad rfl (by simpa [Value.cells] using g) ?_;refine Run.callPure IL HQ a (Fy h) fun w' a=>?_;refine rpG ?_;exact done a rfl


theorem QL {ts:List T} {t:T} (h:t∈ts):wT t<=wL ts:=by
 induction ts with
 | nil=>simp at h
 | cons u g a=>
  rw [wL];rcases ek.1 h with rfl|h
  ·omega
  ·have:=a h; omega
theorem k0 {c:C} {S:ag} {cs:List Value} (h:RdC S cs c) (hc:wC c<=1048576):Pure Tryz.prog zl [.agg cs.toArray] S (.bool (a9 c)):=by
 intro w a;obtain ⟨hd,ks,rfl,N,G⟩:=h;have u:=N;obtain ⟨kv,rfl,g1,g2,g3,g4⟩:=RdT.iff.1 N;have B:=G.le;simp only [maxLen] at B;unfold wC at hc;refine mJ.2 ?_;dsimp only[mJ,aQ];refine bH a fun M w' a=>?_;refine ⟨fun i w'=>∃ k:Nat,k<=c.body.length/\k<=7/\i=.int .i64 k/\(∀ j (h:j<c.body.length),j<k->eI c.body[j]=true)/\Inv w [] [.blk M (.cells #[.int .i64 c.head.kind,.int .i64 c.head.n,.string c.head.name,kv,ks] ai)] S w',
  fun i _=>c.body.length - (intOf i).toNat,⟨0,aK _,by omega,rfl,fun j _ h=>by omega,a⟩,?_⟩
 intro t3 _ _ _ _ _ _ _ _ _ _ _ _ _ _ _ _ _ _ _ w';rintro ⟨k,hk,O,rfl,q,a⟩;refine ⟨fun t w'=>t=.bool (decide (k<c.body.length/\k<=6))/\Inv w [] [.blk M (.cells #[.int .i64 c.head.kind,.int .i64 c.head.n,.string c.head.name,kv,ks] ai)] S w',?_,?_⟩
 ·refine ah a 0 rfl bC ax rfl ?_;refine aG G ao ?_;refine cu ?_;by_cases l:(k:Int)<c.body.length
  ·rw [aP l];refine rpG ?_;refine fY ?_;refine rpG ?_;refine ⟨?_,a⟩
   congr 1
   rw [rZ]; simp; omega
  ·rw [bf l];refine rpG ?_;exact ⟨by rw [bf (by omega)],a⟩
 intro t _ _ _ _ _ _ _ _ w';rintro ⟨rfl,a⟩;refine aS (fun l=>?_) (fun l=>?_)
 ·obtain ⟨o,Z⟩:=l;refine ah a 0 rfl bC ax rfl ?_;refine dy a G ao ad o (fun _ _=>RdT.length) fun V r=>?_;have a0:=QL (cH o);refine Run.callPure Ao zZ a (wn r (by omega)) fun w' a=>?_;refine cU ?_;refine aI (fun J=>done a ?_) (fun J=>?_)
  ·have p:eI c.body[k]=false:=by simpa using J
   have:c.body.all eI=false:=by
    rw [<- Mn,fS];intro g;rw [g _ (cH o)] at p;cases p
   rw [a9,this];simp
  ·have p:eI c.body[k]=true:=by simpa using J
   refine bF (by omega) ?_;refine ⟨⟨k+1,o,by omega,rfl,fun j m Y=>?_,a⟩,by simp [intOf]; omega⟩;by_cases e:j=k
   ·subst e; exact p
   ·exact q j m (by omega)
 ·refine ah a 0 rfl bC ax rfl ?_;refine aG G ao ?_;refine fY ?_;rw [a9];by_cases D:c.body.length<=6
  ·have g:c.body.all eI=true:=by
    rw [fS];intro x U;obtain ⟨j,m,rfl⟩:=Ov U;exact q j m (by omega)
   rw [aP (show (c.body.length:Int)<=6 by omega),aP D,g];refine rpG ?_;refine au cC ?_;refine fo a 0 [.int .i64 c.head.kind,.int .i64 c.head.n,.string c.head.name,kv] ad rfl rfl ?_ ?_
   ·intro j v m
    match j with
    | 0|1|2|3=>exact m
    | j+4=>simp at m
   refine Run.callPure pk pZ a (mF u (Lj (by omega))) fun w' a=>?_;cases hv:cA c.head
   ·refine rpG ?_;exact done a rfl
   ·refine rpG ?_;refine au cC ?_;refine fo a 0 [.int .i64 c.head.kind,.int .i64 c.head.n,.string c.head.name,kv] ad rfl rfl ?_ ?_
    ·intro j v m
     match j with
     | 0|1|2|3=>exact m
     | j+4=>simp at m
    refine Run.callPure tg uI a (rp u) fun w' a=>?_;refine rpG ?_;exact done a rfl
  ·rw [bf (show ¬ (c.body.length:Int)<=6 by omega),bf D];refine rpG ?_;exact done a rfl

theorem pG {xs:List C} {S:ag} {v:Value} (h:RdSl S 5 (RdC S) v xs) (hc:wP xs<=1048576):Pure Tryz.prog wz [v] S (.bool (gK xs)):=by
 intro w a;have r:=h.le;simp only [maxLen] at r;refine lK.2 ?_;dsimp only[lK,aQ];refine ⟨fun i w'=>∃ k:Nat,k<=xs.length/\k<=20+1/\i=.int .i64 k/\(∀ j (h:j<xs.length),j<k->a9 xs[j]=true)/\Inv w [] [] S w',
  fun i _=>xs.length - (intOf i).toNat,⟨0,aK _,by omega,rfl,fun j _ h=>by omega,a⟩,?_⟩
 intro V _ _ _ _ _ _ _ _ _ _ _ _ _ _ _ _ _ w';rintro ⟨k,hk,G,rfl,p,a⟩;refine ⟨fun t w'=>t=.bool (decide (k<xs.length/\k<=20))/\Inv w [] [] S w',?_,?_⟩
 ·refine aG h ct ?_;refine cu ?_;by_cases l:(k:Int)<xs.length
  ·rw [aP l];refine rpG ?_;refine fY ?_;refine rpG ?_;refine ⟨?_,a⟩
   congr 1
   rw [rZ]; simp; omega
  ·rw [bf l];refine rpG ?_;exact ⟨by rw [bf (by omega)],a⟩
 intro t _ _ _ _ _ _ _ w';rintro ⟨rfl,a⟩;refine aS (fun l=>?_) (fun l=>?_)
 ·obtain ⟨m,O⟩:=l;refine dy a h ct aN m (fun _ _=>RdC.length) fun M q=>?_;have U:=Oz (cH m);refine Run.callPure mo mH a (k0 q (by omega)) fun w' a=>?_;refine cU ?_;refine aI (fun B=>done a ?_) (fun B=>?_)
  ·have o:a9 xs[k]=false:=by simpa using B
   have:xs.all a9=false:=by
    rw [<- Mn,fS];intro g;rw [g _ (cH m)] at o;cases o
   rw [gK,this,Bi]
  ·have o:a9 xs[k]=true:=by simpa using B
   refine bF (by omega) ?_;refine ⟨⟨k+1,m,by omega,rfl,fun j D N=>?_,a⟩,by simp [intOf]; omega⟩;by_cases e:j=k
   ·subst e; exact o
   ·exact p j D (by omega)
 ·refine aG h ct ?_;refine fY ?_;rw [gK];refine done a ?_;by_cases u:xs.length<=20
  ·have g:xs.all a9=true:=by
    rw [fS];intro x J;obtain ⟨j,D,rfl⟩:=Ov J;exact p j D (by omega)
   rw [aP (show (xs.length:Int)<=20 by omega),aP u,g]; rfl
  ·rw [bf (show ¬ (xs.length:Int)<=20 by omega),bf u]; rfl

theorem KR (s:ByteArray) (S:ag):Pure Tryz.prog NL [.string s] S (.bool (decide (0<cW s))):=by
 intro w a;refine DX.2 ?_;dsimp only[DX,aQ];refine Run.callPure EJ F4 a (zj s S) fun w' a=>?_;refine aA rfl ?_;refine aA rfl ?_;refine fC ?_;exact done a rfl
theorem me {t:T} {S:ag} {cs:List Value} (h:RdT S cs t):Pure Tryz.prog H3 [.agg cs.toArray] S (.bool (eX t)):=by
 intro w a;obtain ⟨kv,rfl,_,_,i,g⟩:=RdT.iff.1 h;obtain ⟨k,n,s,ks⟩:=t;simp only [T.name,T.kids,T.kind,T.n] at i g ⊢;refine vK.2 ?_;dsimp only[vK,aQ];refine bH a fun j w' a=>?_;refine ah a 0 rfl bb aw rfl ?_;refine bn ?_;rw [show eX (.mk k n s ks)=(decide (k=3) && gg s ks.length) from rfl];cases l:decide (k=3)
 ·refine rpG ?_;exact done a rfl
 ·refine rpG ?_;refine ah a 0 rfl bk aZ rfl ?_;refine ah a 0 rfl ay ax rfl ?_;refine aG g ao ?_;refine Run.callPure AW AR a (wc s _ S) fun w' a=>?_;refine rpG ?_;exact done a rfl
theorem ru {t:T} {S:ag} {cs:List Value} (h:RdT S cs t):Pure Tryz.prog HS [.agg cs.toArray] S (.bool (gw t)):=by
 intro w a;have j:=h;obtain ⟨kv,rfl,_,_,i,g⟩:=RdT.iff.1 h;obtain ⟨k,n,s,ks⟩:=t;simp only [T.name,T.kids,T.kind,T.n] at j i g ⊢;refine vt.2 ?_;dsimp only[vt,aQ];refine bH a fun o w' a=>?_;refine ah a 0 rfl bb aw rfl ?_;refine bn ?_;have l:eX (.mk k n s ks)=(decide (k=3) && gg s ks.length):=rfl;rw [show gw (.mk k n s ks)=(decide (k=3) && (lx s && (!gg s ks.length && decide (cW s=0)))) from rfl];cases m:decide (k=3)
 ·refine rpG ?_;exact done a rfl
 ·rw [m] at l;refine rpG ?_;refine ah a 0 rfl bk aZ rfl ?_;refine Run.callPure qn oX a (og s i S) fun w' a=>?_;cases p:lx s
  ·refine rpG ?_;exact done a rfl
  ·refine rpG ?_;refine ah a 0 rfl bk aZ rfl ?_;refine Run.callPure M6 MV a (KR s S) fun w' a=>?_;refine cU ?_;rw [Ns];cases q:decide (cW s=0)
   ·refine rpG ?_;exact done a (by simp)
   ·refine rpG ?_;refine aq a 0 ad rfl rfl ?_;refine Run.callPure nO nK a (me j) fun w' a=>?_;refine cU ?_;refine rpG ?_;exact done a (by rw [l]; simp)
theorem Gq {t:T} {S:ag} {cs:List Value} (h:RdT S cs t):Pure Tryz.prog KV [.agg cs.toArray] S (.bool (O9 t)):=by
 intro w a;obtain ⟨kv,rfl,_,_,i,g⟩:=RdT.iff.1 h;obtain ⟨k,n,s,ks⟩:=t;simp only [T.name,T.kids,T.kind,T.n] at i g ⊢;refine xT.2 ?_;dsimp only[xT,aQ];refine bH a fun j w' a=>?_;refine ah a 0 rfl bb aw rfl ?_;refine bn ?_;rw [show O9 (.mk k n s ks)=(decide (k=3) && decide (ks.length=0)) from rfl];cases l:decide (k=3)
 ·refine rpG ?_;exact done a rfl
 ·refine rpG ?_;refine ah a 0 rfl ay ax rfl ?_;refine aG g ao ?_;refine bn ?_;refine rpG ?_;exact done a (by simp)
theorem yS {t:T} {S:ag} {cs:List Value} (h:RdT S cs t):Pure Tryz.prog MW [.agg cs.toArray] S (.bool (oP t)):=by
 intro w g;have j:=h;obtain ⟨kv,rfl,_,_,l,i⟩:=RdT.iff.1 h;obtain ⟨k,n,s,ks⟩:=t;simp only [T.name,T.kids,T.kind,T.n] at j l i ⊢;refine AL.2 ?_;dsimp only[AL,aQ];refine bH g fun o w' g=>?_;refine aq g 0 ad rfl rfl ?_;refine Run.callPure Hb IX g (Gq j) fun w' g=>?_;rw [show oP (.mk k n s ks)=(decide (k=3) && (decide (s=⟨#[33]⟩) && decide (ks.length=0))) from rfl];cases a:O9 (.mk k n s ks)
 ·refine rpG ?_;refine done g ?_
  replace a:(decide (k=3) && decide (ks.length=0))=false:=a
  cases m:decide (k=3)
  ·rfl
  ·rw [m,eL] at a;rw [a,Bi]; rfl
 ·refine rpG ?_;refine ah g 0 rfl bk aZ rfl ?_;refine cM ?_;refine rpG ?_;refine done g ?_
  replace a:(decide (k=3) && decide (ks.length=0))=true:=a
  rw [bJ] at a;rw [a.1,a.2]; simp
theorem vZ {t:T} {S:ag} {cs:List Value} (h:RdT S cs t):Pure Tryz.prog C2 [.agg cs.toArray] S (.bool (eI t)):=by
 intro w a;have g:=h.length;refine p5.2 ?_;dsimp only[p5,aQ];refine bH a fun i w' a=>?_;refine aq a 0 ad rfl (by simpa [Value.cells] using g) ?_;refine Run.callPure pJ oS a (nc h) fun w' a=>?_;rw [eI];cases j:cA t
 ·refine rpG ?_;exact done a rfl
 ·refine rpG ?_;refine aq a 0 ad rfl (by simpa [Value.cells] using g) ?_;refine Run.callPure tY uW a (ru h) fun w' a=>?_;cases l:gw t
  ·refine rpG ?_;refine aq a 0 ad rfl (by simpa [Value.cells] using g) ?_;refine Run.callPure nO nK a (me h) fun w' a=>?_;cases m:eX t
   ·refine rpG ?_;refine aq a 0 ad rfl (by simpa [Value.cells] using g) ?_;refine Run.callPure Ab Ay a (yS h) fun w' a=>?_;refine rpG ?_;exact done a (by simp)
   ·refine rpG ?_;exact done a (by simp)
  ·refine rpG ?_;exact done a (by simp)

theorem Gu {α:Type} (p:α->Bool):∀ xs:List α,(!xs.any fun x=>!p x)=xs.all p
 | []=>rfl
 | x::xs=>by
  rw [fm,LZ,<- Gu p xs];cases p x <;> simp

theorem qU {x:T} {S:ag} {cs:List Value} (h:RdT S cs x):Pure Tryz.prog mL [.agg cs.toArray] S (.bool (!eI x)):=by
 intro w a;have g:=h.length;refine lO.2 ?_;dsimp only[lO,aQ];refine bH a fun i w' a=>?_;refine aq a 0 ad rfl (by simpa [Value.cells] using g) ?_;refine Run.callPure Cd Bc a (vZ h) fun w' a=>?_;refine cU (done a rfl)
theorem tc {xs:List T} {S:ag} {v:Value} (h:RdSl S 4 (RdT S) v xs):Pure Tryz.prog Cn [v] S (.bool (F8 xs)):=by
 intro w a;refine n4.2 ?_;dsimp only[n4,aQ];refine aG h ao ?_;refine fY ?_;rw [F8];by_cases g:xs.length<=6
 ·rw [aP (show (xs.length:Int)<=6 by omega),aP g];refine rpG ?_;have j:Cb Tryz.prog mL _ [] S (fun _:Unit=>[]) (fun _=>True) (fun _ x=>(!eI x,())) (fun v x=>∃ cs,v=.agg cs.toArray/\RdT S cs x) xs:=
   Cb.pure [] vq vm fun x v _=>by
    rintro ⟨cs,rfl,i⟩ l a;exact (qU i l a).mono fun e w' ⟨m,a⟩=>⟨_,_,_,m,a,Ext.refl _ _ _,rfl,rfl,rfl⟩
  refine Run.call0 fN fM a (jI j h (st:=()) trivial) fun v' I' S' w'=>?_;rintro ⟨rfl,rfl,rfl⟩ _ a;refine cU ?_;refine rpG ?_;refine done a ?_;rw [mY (fun x=>!eI x) xs,Gu]; rfl
 ·rw [bf (show ¬ (xs.length:Int)<=6 by omega),bf g];refine rpG ?_;exact done a rfl
theorem fO {c:C} {S:ag} {cs:List Value} (h:RdC S cs c):Pure Tryz.prog zy [.agg cs.toArray] S (.bool (a9 c)):=by
 intro w a;obtain ⟨q,ks,rfl,m,o⟩:=h;have i:=m;obtain ⟨kv,rfl,r,t,u,B⟩:=RdT.iff.1 m;have l:a9 c=(cA c.head && (gw c.head && F8 c.body)):=by
  unfold a9 F8;cases cA c.head <;> cases gw c.head <;> simp
 refine mx.2 ?_;dsimp only[mx,aQ];rw [l];refine bH a fun p w' a=>?_;refine au cC ?_;refine fo a 0 [.int .i64 c.head.kind,.int .i64 c.head.n,.string c.head.name,kv] ad rfl rfl ?_ ?_
 ·intro j v g
  match j with
  | 0|1|2|3=>exact g
  | j+4=>simp at g
 refine Run.callPure pJ oS a (nc i) fun w' a=>?_;cases D:cA c.head
 ·refine rpG ?_;exact done a rfl
 ·refine rpG ?_;refine au cC ?_;refine fo a 0 [.int .i64 c.head.kind,.int .i64 c.head.n,.string c.head.name,kv] ad rfl rfl ?_ ?_
  ·intro j v g
   match j with
   | 0|1|2|3=>exact g
   | j+4=>simp at g
  refine Run.callPure tY uW a (ru i) fun w' a=>?_;cases G:gw c.head
  ·refine rpG ?_;exact done a rfl
  ·refine rpG ?_;refine ah a 0 rfl bC ax rfl ?_;refine Run.callPure zd zi a (tc o) fun w' a=>?_;refine rpG ?_;exact done a rfl

theorem oL {x:C} {S:ag} {cs:List Value} (h:RdC S cs x):Pure Tryz.prog kZ [.agg cs.toArray] S (.bool (!a9 x)):=by
 intro w a;have g:=h.length;refine jV.2 ?_;dsimp only[jV,aQ];refine bH a fun i w' a=>?_;refine aq a 0 aN rfl (by simpa [Value.cells] using g) ?_;refine Run.callPure gE gx a (fO h) fun w' a=>?_;refine cU (done a rfl)
theorem gN {xs:List C} {S:ag} {v:Value} (h:RdSl S 5 (RdC S) v xs):Pure Tryz.prog wy [v] S (.bool (gK xs)):=by
 intro w a;refine lD.2 ?_;dsimp only[lD,aQ];refine aG h ct ?_;refine fY ?_;rw [gK];by_cases g:xs.length<=20
 ·rw [aP (show (xs.length:Int)<=20 by omega),aP g];refine rpG ?_;have j:Cb Tryz.prog kZ _ [] S (fun _:Unit=>[]) (fun _=>True) (fun _ x=>(!a9 x,())) (fun v x=>∃ cs,v=.agg cs.toArray/\RdC S cs x) xs:=
   Cb.pure [] ri rc fun x v _=>by
    rintro ⟨cs,rfl,i⟩ l a;exact (oL i l a).mono fun e w' ⟨m,a⟩=>⟨_,_,_,m,a,Ext.refl _ _ _,rfl,rfl,rfl⟩
  refine Run.call0 l9 ma a (nC j h (st:=()) trivial) fun v' I' S' w'=>?_;rintro ⟨rfl,rfl,rfl⟩ _ a;refine cU ?_;refine rpG ?_;refine done a ?_;rw [mY (fun x=>!a9 x) xs,Gu]; rfl
 ·rw [bf (show ¬ (xs.length:Int)<=20 by omega),bf g];refine rpG ?_;exact done a rfl
end
section
open Go Go.RowKit
attribute [local irreducible] Run CondV aC aU

def RowRd (S:ag) (v:Value) (e:TypeId) (k n:Nat) (xs:List Value):Prop:=
 xs.length=n * k/\((v=.slice none 0 0/\n=0) ∨ ∃ g cap cur,v=.slice (some ⟨g,0,none⟩) n cap/\S g=some (.cells cur e)/\n<=cap/\cap<=maxLen/\cur.size=cap * k/\cur.toList.take (n * k)=xs)
theorem Inv.lend {w0 w:World} {X:List Nat} {A:List Item} {S:ag} {v:Value} {e:TypeId} {k n:Nat} {xs:List Value} (h:Inv w0 X (A++[.row v e k n xs]) S w) :
  ∃ S',Sle S S'/\RowRd S' v e k n xs/\Inv w0 X A S' w/\∀ B w',Inv w0 X B S' w'->Inv w0 X (B++[.row v e k n xs]) S w':=by
 have M:w.ownsRow 0 e k v n xs:=h.its (.row v e k n xs) (by simp);obtain ⟨G,M⟩:=M;rcases M with ⟨rfl,rfl⟩|⟨g,cap,l,rfl,_,hg,u,C,D,O⟩
 ·have:xs=[]:=jK (by rw [G,mj]);subst this;exact ⟨S,Sle.refl S,⟨G,.inl ⟨rfl,rfl⟩⟩,h.sub (gR _ _),fun B w' m=>m.rowNil e k⟩
 ·have hf:bT (A++[Item.blk g (.cells l e)])=bT (A++[Item.row (.slice (some ⟨g,0,none⟩) n cap) e k n xs]):=by
   simp [bT,Item.foot,Value.ownBlock]
  have q:g∈bT (A++[Item.row (.slice (some ⟨g,0,none⟩) n cap) e k n xs]):=by simp [bT,Item.foot,Value.ownBlock]
  have Z:Inv w0 X (A++[Item.blk g (.cells l e)]) S w:=by
   refine ⟨h.size,h.os,h.tape,h.output,h.old,fun it i=>?_,by rw [hf]; exact h.nd,by rw [hf]; exact h.new,by rw [hf]; exact h.pub⟩;rcases cI.1 i with i|i
   ·exact h.its it (ic _ i)
   ·simp at i;subst i;exact hg
  obtain ⟨V,Y⟩:=Z.publishLast;refine ⟨nl S g (.cells l e),Y,⟨G,.inr ⟨g,cap,l,rfl,by simp [nl],u,C,D,O⟩⟩,V,fun B w' m=>?_⟩;have r:=m.pub g (.cells l e) (by simp [nl]);have p:bT (B++[Item.row (.slice (some ⟨g,0,none⟩) n cap) e k n xs])=bT B++[g]:=by simp [bT,Item.foot,Value.ownBlock]
  refine ⟨m.size,m.os,m.tape,m.output,m.old,fun it i=>?_,?_,?_,?_⟩
  ·rcases cI.1 i with i|i
   ·exact m.its it i
   ·simp at i;subst i;exact ⟨G,.inr ⟨g,cap,l,rfl,aK _,r.1,u,C,D,O⟩⟩
  ·rw [p,A8];refine ⟨m.nd,by simp,fun a U b N=>?_⟩;simp at N;subst N;intro J;subst J;exact r.2 U
  ·intro c hc;rw [p] at hc;rcases cI.1 hc with hc|hc
   ·exact m.new c hc
   ·simp at hc;subst hc;exact h.new _ q
  ·intro c o hc;have t:c≠g:=fun J=>by
    subst J;exact (h.pub c o hc).2 q
   have:=m.pub c o (by simp only [nl]; rw [ae t]; exact hc);refine ⟨this.1,?_⟩;rw [p];intro j;rcases cI.1 j with j|j
   ·exact this.2 j
   ·simp at j;exact t j
theorem Mr {α:Type} (f:α->List Value) (k:Nat) (hf:∀ y,(f y).length=k):∀ (ys:List α) (i:Nat) (h:i<ys.length),((ys.flatMap f).drop (i * k)).take k=f ys[i]
 | [],i,h=>by simp at h
 | y::ys,0,h=>by
  rw [GT,mj,dT,JR (by rw [hf]; exact be _),AQ (by rw [hf]; exact be _)];rfl
 | y::ys,i+1,h=>by
  rw [GT,jc,Nat.add_comm,<- G8,List.drop_left' (hf y)];exact Mr f k hf ys i (by simpa using h)
theorem RowRd.rd {α:Type} {S:ag} {v:Value} {e:TypeId} {k:Nat} {f:α->List Value} {R:List Value->α->Prop} {ys:List α} (hf:∀ y,(f y).length=k) (hR:∀ y∈ys,R (f y) y)
  (h:RowRd S v e k ys.length (ys.flatMap f)):RdSl S k R v ys:=by
 obtain ⟨u,h⟩:=h;rcases h with ⟨rfl,p⟩|⟨g,cap,j,rfl,q,l,m,r,t⟩
 ·have:ys=[]:=jK p;subst this;exact ⟨none,0,rfl,be _,aK _,.inl rfl⟩
 ·refine ⟨_,cap,rfl,l,m,.inr ⟨g,0,j,e,(0,0),rfl,q,fun i a=>?_⟩⟩;have:=Mr f k hf ys i a;have o:i * k+k<=ys.length * k:=by rw [<- jc]; exact fH k a
  rw [<- t,Hr,Fg,AM (by omega)] at this;rw [bB,df,this];exact hR _ (cH a)

def ints (ns:List Int):List Value:=ns.flatMap fun n=>[.int .i64 n]
abbrev cg (v:Value) (ns:List Int):Item:=.row v bD 1 ns.length (ints ns)
theorem Eo (a:List Int) (n:Int):ints a++[.int .i64 n]=ints (a++[n]):=by simp [ints]
theorem RowRd.ints {S:ag} {v:Value} {e:TypeId} {a:List Int} (h:RowRd S v e 1 a.length (ints a)):RdSl S 1 jG v a:=
 RowRd.rd (f:=fun n=>[Value.int .i64 n]) (fun _=>rfl) (fun _ _=>rfl) h
def KY (l:List Int) (n:Int):Bool:=l.any fun x=>decide (n=x)
def j4 (l:List Int) (n:Int):List Int:=if KY l n=true then l else l++[n]
theorem Me (l:List Int) (n:Int):(j4 l n).length<=l.length+1:=by
 unfold j4;split <;> simp

theorem oj (s:Int) {xs:List Int} {S:ag} {v:Value} (h:RdSl S 1 jG v xs) :
  Pure Tryz.prog De [v,.int .i64 s] S (.int .i64 (cw (σ:=Unit) (fun _ x=>(decide (s=x),())) () xs 0).1):=by
 intro w j;have l:=h.le;simp only [maxLen] at l;refine oU.2 ?_;dsimp only[oU,bm];refine aG h fI ?_;refine ⟨fun i w'=>∃ k:Nat,k<=xs.length/\i=.int .i64 k/\cw (σ:=Unit) (fun _ x=>(decide (s=x),())) () (xs.drop k) k=cw (σ:=Unit) (fun _ x=>(decide (s=x),())) () xs 0/\Inv w [] [] S w',
  fun i _=>xs.length - (intOf i).toNat,⟨0,aK _,rfl,rfl,j⟩,?_⟩
 intro q _ _ _ _ _ _ _ _ _ _ _ _ w';rintro ⟨k,hk,rfl,a,j⟩;refine cu ?_;refine aS (fun m=>?_) (fun m=>?_)
 ·have g:k<xs.length:=by omega
  rw [dR g,cw] at a;refine lr j h fI aw g (fun cs o=>o) ?_;refine bn ?_;refine aS (fun p=>done j ?_) (fun p=>?_)
  ·rw [<- a,af (by simpa using p)]
  ·refine bF (by omega) ?_;rw [ae (by simpa using p)] at a;exact ⟨⟨k+1,g,rfl,a,j⟩,by simp [intOf]; omega⟩
 ·have:k=xs.length:=by omega
  subst this;rw [ew,cw] at a;exact done j (by rw [<- a])
theorem r9 (s:Int) {xs:List Int} {S:ag} {v:Value} (h:RdSl S 1 jG v xs):Pure Tryz.prog xi [v,.int .i64 s] S (.bool (KY xs s)):=by
 intro w a;refine lX.2 ?_;dsimp only[lX,bm];refine Run.callPure qo pK a (oj s h) fun w' a=>?_;refine lj (done a ?_);rw [(li _ xs () 0).1,mY]; rfl
end
section
open Go Go.RowKit
attribute [local irreducible] Run CondV aC aU

mutual
def fV:T->List Int->List Int
 | .mk k n _ ks,l=>dk ks (if k=1 then j4 l n else l)
def dk:List T->List Int->List Int
 | [],l=>l
 | t::ts,l=>dk ts (fV t l)
end
mutual
def nR:T->List Int->List Int
 | .mk k n _ ks,l=>if k=1 then j4 l n else ja ks l
def ja:List T->List Int->List Int
 | [],l=>l
 | t::ts,l=>ja ts (nR t l)
end
mutual
theorem zV:∀ (t:T) (l:List Int),((fV t l).length:Int)<=l.length+bM t
 | .mk k n s ks,l=>by
  rw [fV,show bM (T.mk k n s ks)=1+bi ks from rfl];have a:=Me l n;have:=Ai ks (if k=1 then j4 l n else l);split at this <;> rename_i hk <;> simp only [hk,if_true,if_false] at this ⊢ <;> omega
theorem Ai:∀ (ts:List T) (l:List Int),((dk ts l).length:Int)<=l.length+bi ts
 | [],l=>by simp [dk,bi]
 | t::ts,l=>by
  rw [dk,show bi (t::ts)=bM t+bi ts from rfl];have:=zV t l;have:=Ai ts (fV t l);omega
end
mutual
theorem Jk:∀ (t:T) (d:Int) (l:List Int),dx t d=true->nR t l=fV t l
 | .mk k n s ks,d,l,h=>by
  rw [dx] at h;split at h
  ·cases h
  ·rw [bJ] at h;rw [nR,fV];split
   ·rw [HI h.1 (.inl ‹k=1›)]; rfl
   ·exact Cg ks (d - 1) l h.2
theorem Cg:∀ (ts:List T) (d:Int) (l:List Int),dj ts d=true->ja ts l=dk ts l
 | [],d,l,h=>rfl
 | t::ts,d,l,h=>by
  rw [dj,bJ] at h;rw [ja,dk,Jk t d l h.1];exact Cg ts d _ h.2
end
theorem pV {t:T} (h:cA t=true):dx t 30=true:=by
 rw [cA,bJ] at h;exact h.1
abbrev Q5 (S:ag) (r:List Int):Value->List Item->ag->Prop:=fun v I' S'=>I'=[cg v r]/\S'=S

theorem Dk:∀ (t:T) (S:ag) (cs:List Value) (v:Value) (l:List Int),RdT S cs t->l.length+bM t<=1000000000->Tri Tryz.prog Ij [.agg cs.toArray,v] [cg v l] S (Q5 S (fV t l)):=by
 refine T.ind fun k n s ks ih S cs v l h hl=>?_;intro w a;obtain ⟨kv,rfl,_,_,hs,p⟩:=RdT.iff.1 h;simp only [T.name,T.kids,T.kind,T.n] at hs p ⊢;have C:=p.le;simp only [maxLen] at C;rw [show bM (T.mk k n s ks)=1+bi ks from rfl] at hl;have a3:=bU ks;have a4:=Me l n;refine ug.2 ?_;dsimp only[ug,bm];refine bH a fun G w' a=>?_;have a:=a.perm (M:=[.blk G (.cells #[.int .i64 k,.int .i64 n,.string s,kv] ac),cg v l]) (List.Perm.swap _ _ _);refine ⟨fun t w'=>Inv w (bT [cg v l]) [.blk G (.cells #[.int .i64 k,.int .i64 n,.string s,kv] ac),cg t (if k=1 then j4 l n else l)] S w',?_,?_⟩
 ·refine ⟨fun t w'=>t=.bool (decide (k=1) && !KY l n)/\Inv w (bT [cg v l]) [.blk G (.cells #[.int .i64 k,.int .i64 n,.string s,kv] ac),cg v l] S w',?_,?_⟩
  ·refine ah a 0 rfl bb aw rfl ?_;refine bn ?_;cases h1:decide (k=1)
   ·refine rpG ?_;exact ⟨rfl,a⟩
   ·refine rpG ?_;refine ah a 0 rfl aV aw rfl ?_;obtain ⟨S1,a2,V,a,q⟩:=Inv.lend (A:=[_]) a;refine Run.callPure uC s9 a (r9 n V.ints) fun w' a=>?_;refine cU ?_;refine rpG ?_;exact ⟨rfl,q _ _ a⟩
  intro a0 _ _ _ _ _ _ _ _ _ w';rintro ⟨rfl,a⟩;refine aI (fun B=>?_) (fun B=>?_)
  ·simp only [bJ,bE,rn] at B;refine ah a 0 rfl aV aw rfl ?_;refine eQ a jl rfl (by omega) (by omega) fun b w' a=>?_;refine eU a 1 (k:=1) [.int .i64 n] jl (by omega) rfl rfl ?_ ?_ (by omega) (by omega) fun v' w' a=>?_
   ·intro j u J;rw [a.cellL (i:=2) rfl]
    match j with
    | 0=>simpa [Value.cells] using J
    | j+1=>simp at J
   ·simp [Value.oneCell']
   ·rw [Eo] at a;have a:=a.pick [true,true,false];rw [af B.1,j4,ae (by rw [B.2]; decide)];have e:Item.row v' bD 1 (l.length+1) (ints (l++[n]))=cg v' (l++[n]):=by simp [cg]
    rw [show List.length l+1=l.length+1 from rfl,e] at a;exact a
  ·have:(if k=1 then j4 l n else l)=l:=by
    split
    ·rename_i hk
     rw [j4];simp [hk] at B;rw [af B]
    ·rfl
   rw [this];exact a
 intro Z _ _ _ _ _ _ _ _ _ _ _ _ _ _ _ w' a;have Y:((if k=1 then j4 l n else l).length:Int)+bi ks<=1000000000:=by split <;> omega
 rw [show fV (.mk k n s ks) l=dk ks (if k=1 then j4 l n else l) from by rw [fV]];generalize (if k=1 then j4 l n else l)=l1 at a Y ⊢;refine ah a 0 rfl ay ax rfl ?_;refine aG p ao ?_;refine ⟨fun i t w'=>∃ (j:Nat) (r:List Int),j<=ks.length/\i=.int .i64 j/\dk (ks.drop j) r=dk ks l1/\r.length+bi (ks.drop j)<=1000000000/\Inv w (bT [cg v l]) [.blk G (.cells #[.int .i64 k,.int .i64 n,.string s,kv] ac),cg t r] S w',
  fun i _ _=>ks.length - (intOf i).toNat,⟨0,l1,aK _,rfl,rfl,by rw [dT]; omega,a⟩,?_⟩
 intro a1 _ Z _ _ _ _ _ _ _ w';rintro ⟨j,r,J,rfl,g,N,a⟩;refine cu ?_;refine aS (fun O=>?_) (fun O=>?_)
 ·have o:j<ks.length:=by omega
  rw [sM ks j o] at N;rw [dR o,dk] at g;have a5:=bU (ks.drop (j+1));have a6:=zV ks[j] r;refine dy a p ao ad o (fun _ _=>RdT.length) fun U m=>?_;have D:=m.length;refine aH a aM fun b6 w' a=>?_;refine al a 2 rfl ad (by simpa using D) rfl (by simpa using m.one) fun w' a=>?_;refine aq a 2 ad rfl (by simpa using D) ?_;have a:=a.pick [true,true,false];refine Run.call (A:=[_]) te uz a (ih _ (cH o) S U Z r m (by omega)) fun v' I' S' w'=>?_;rintro ⟨rfl,rfl⟩ _ a;refine bF (by omega) ?_;exact ⟨⟨j+1,_,o,rfl,g,by omega,a⟩,by simp [intOf]; omega⟩
 ·have:j=ks.length:=by omega
  subst this;rw [ew,dk] at g;subst g;exact ⟨_,_,_,rfl,a.pick [false,true],Ext.refl _ _ _,rfl,rfl⟩
theorem F2 {ts:List T} {S:ag} {v:Value} (h:RdSl S 4 (RdT S) v ts) (C:bi ts<=1000000000):Tri Tryz.prog JN [v] [] S (Q5 S (dk ts [])):=by
 intro w a;have p:=h.le;simp only [maxLen] at p;refine xx.2 ?_;dsimp only[xx,aQ];refine aG h ao ?_;refine ⟨fun i t w'=>∃ (j:Nat) (o:List Int),j<=ts.length/\i=.int .i64 j/\dk (ts.drop j) o=dk ts []/\o.length+bi (ts.drop j)<=1000000000/\Inv w [] [cg t o] S w',
  fun i _ _=>ts.length - (intOf i).toNat,⟨0,[],aK _,rfl,rfl,by simpa using C,a.rowNil bD 1⟩,?_⟩
 intro M _ D _ _ _ _ _ _ _ w';rintro ⟨j,o,N,rfl,g,r,a⟩;refine cu ?_;refine aS (fun u=>?_) (fun u=>?_)
 ·have m:j<ts.length:=by omega
  rw [sM ts j m] at r;rw [dR m,dk] at g;have G:=bU (ts.drop (j+1));have J:=zV ts[j] o;refine dy a h ao ad m (fun _ _=>RdT.length) fun B l=>?_;have q:=l.length;refine aH a aM fun O w' a=>?_;refine al a 1 rfl ad (by simpa using q) rfl (by simpa using l.one) fun w' a=>?_;refine aq a 1 ad rfl (by simpa using q) ?_;have a:=a.pick [true,false];refine Run.call (A:=[]) te uz a (Dk _ S B D o l (by omega)) fun v' I' S' w'=>?_;rintro ⟨rfl,rfl⟩ _ a;refine bF (by omega) ?_;exact ⟨⟨j+1,_,m,rfl,g,by omega,a⟩,by simp [intOf]; omega⟩
 ·have:j=ts.length:=by omega
  subst this;rw [ew,dk] at g;subst g;exact ⟨_,_,_,rfl,a,Ext.refl _ _ _,rfl,rfl⟩
end
section
open Go Go.RowKit
attribute [local irreducible] Run CondV aC aU

section
variable {P:Program} {w w0:World} {X:List Nat} {L:List Item} {S:ag} {K:Value->Value->Value->World->Prop}
end
theorem K6 {t:T} (h:eI t=true):dx t 30=true:=by
 rw [eI,bJ] at h;exact pV h.1
theorem yu:∀ {ts:List T},ts.all eI=true->dj ts 30=true
 | [],_=>rfl
 | t::ts,h=>by
  rw [LZ,bJ] at h;rw [dj,K6 h.1,yu h.2]; rfl
theorem yd {c:C} (h:a9 c=true) (l:List Int):nR c.head l=fV c.head l/\ja c.body l=dk c.body l:=by
 simp only [a9,bJ] at h;exact ⟨Jk _ 30 _ (pV h.2.2.1),Cg _ 30 _ (yu h.2.1)⟩
end
section
open Go Go.ChangeShapes Go.WideShapes Go.ChangeAt Go.RowKit

def LB (W:World):ag:=fun b=>W.heap[b]?
section
variable {H:Type} {enc:TypeId × Value->H} {P:Program} {W:World} {sp:Nat->Bool} {held:Bool}
theorem Nv {a:Addr} {v:Value} (h:W.cell? a=some v):∃ b o c E g,a=⟨b,o,none⟩/\W.heap[b]?=some (.cells c E g)/\c[o]?=some v:=by
 obtain ⟨b,o,s⟩:=a;simp only [World.cell?] at h;split at h
 ·rename_i c E g i
  cases s with
  | none=>exact ⟨b,o,c,E,g,rfl,i,by simpa using h⟩
  | some s=>simp at h
 ·cases h
theorem Pk {b o k:Nat} {cs:List Value} {c:Array Value} {E:TypeId} {g:Nat × Nat} (j:W.heap[b]?=some (.cells c E g)) (h:W.cells? 0 ⟨b,o,none⟩ k=some cs):bB c o k=cs:=by
 unfold World.cells? at h;rw [af (aK _)] at h;have l:cs.length=k:=by simpa using mapM_some_length h
 apply Mp;intro i;rw [bB,yI];by_cases a:i<k
 ·rw [af a,xI];have:=mapM_some_get h i i (by simp [a]);rw [<- this,add_lit];simp [World.cell?,j]
 ·rw [ae a,NK (by omega)]
theorem yN {α:Type} (p:Nat->α->Prop):∀ n:Nat,(∀ i,i<n->∃ t,p i t)->∃ xs:List α,xs.length=n/\∀ i (h:i<xs.length),p i xs[i]
 | 0,_=>⟨[],rfl,fun i h=>by simp at h⟩
 | n+1,h=>by
  obtain ⟨xs,g,j⟩:=yN p n fun i a=>h i (by omega);obtain ⟨t,l⟩:=h n (by omega);refine ⟨xs++[t],by simp [g],fun i a=>?_⟩;by_cases e:i<xs.length
  ·rw [oo e];exact j i e
  ·have:i=xs.length:=by simp at a; omega
   subst this;simp only [pM (be _),fg,oC];rw [g];exact l
theorem ym {T e:TypeId} {k:Nat} (h:cY P T=some (e,k)):P.underlying T=some (.slice e)/\P.cellsOf e=k:=by
 unfold cY at h;split at h
 ·rename_i l g
  rw [l0] at h;obtain ⟨i,j,a⟩:=h;simp only [di] at a;obtain ⟨rfl,rfl⟩:=a;exact ⟨g,by simp [Program.cellsOf,j]⟩
 ·cases h
theorem Qh {α:Type} {R:List Value->α->Prop} {T e:TypeId} {k j:Nat} {v:Value} {x:DataW H × List MemPlace} (Z:cY P T=some (e,k)) (q:0<k)
  (h:DataW.trod enc P W 0 sp held j T [v]=some x) (r:∀ n cs y,j=n+1->DataW.trod enc P W 0 sp held n e cs=some y->∃ t:α,R cs t):∃ xs,RdSl (LB W) k R v xs:=by
 obtain ⟨C,hk⟩:=ym Z;rcases DataW.trod_slice C h with ⟨g,_⟩|⟨a,len,cap,O,V,n,hf,g,_,_,hl,hc,Y,hE,_⟩
 ·simp only [rD,and_true] at g;subst g;exact ⟨[],none,0,rfl,be _,aK _,.inl rfl⟩
 ·simp only [rD,and_true] at g;subst g;have M:∀ i,i<len->∃ t:α,∃ cs,W.cells? 0 (a.add (i * k)) k=some cs/\R cs t:=by
   intro i B;have:=hE i B;rw [hk,z9 (by omega),l7] at this;obtain ⟨cs,l,p⟩:=this;obtain ⟨t,ht⟩:=r n cs _ hf p;exact ⟨t,cs,l,ht⟩
  obtain ⟨xs,D,m⟩:=yN _ len M;subst D;refine ⟨xs,some a,cap,rfl,hl,hc,?_⟩;by_cases h0:xs.length=0
  ·exact .inl (jK h0)
  ·obtain ⟨G,l,_⟩:=m 0 (by omega);have e0:a.add (0 * k)=a:=by rw [mj]; simp [Addr.add]
   rw [e0] at l;have N:∃ u,W.cell? a=some u:=by
    unfold World.cells? at l;rw [af (aK _)] at l;have a0:G.length=k:=by simpa using mapM_some_length l
    have:=mapM_some_get l 0 0 (by simp [q]);rw [z9 (by omega)] at this;have e1:a.add 0=a:=by simp [Addr.add]
    rw [e1] at this;exact ⟨_,this⟩
   obtain ⟨u,J⟩:=N;obtain ⟨b,o,c,E,fz,rfl,U,_⟩:=Nv J;refine .inr ⟨b,o,c,E,fz,rfl,U,fun i B=>?_⟩;obtain ⟨cs,p,hR⟩:=m i B;rw [add_lit] at p;rw [Pk U p];exact hR
end

section
variable {H:Type} {enc:TypeId × Value->H} {W:World} {sp:Nat->Bool} {held:Bool}
theorem four {cs:List Value} (h:cs.length=4):∃ a b c d,cs=[a,b,c,d]:=by
 match cs,h with
 | [a,b,c,d],_=>exact ⟨a,b,c,d,rfl⟩
end

theorem Inv.entry (W:World):Inv W [] [] (LB W) W:=Inv.start (L:=[]) (by simp) (by simp [bT]) fun b o a=>⟨a,by simp [bT]⟩
theorem Inv.same {W W':World} {L:List Item} {S:ag} (h:Inv W [] L S W') (b:Nat) (a:b<W.heap.size):W'.heap[b]?=W.heap[b]?:=h.old b a (by simp)
theorem NB {W W':World} {g:MemPlace->Prop} (l:W'.os=W.os) (m:W'.output=W.output) (h:∀ b,b<W.heap.size->W'.heap[b]?=W.heap[b]?):W.keptBut W' g:=by
 refine ⟨l,m,fun i o=>?_⟩;rw [h i o];split
 ·rename_i j a
  rw [j] at a;simp only [bh,Obj.cells.injEq] at a;obtain ⟨rfl,rfl,rfl⟩:=a;exact ⟨rfl,rfl,rfl,fun _ _=>rfl⟩
 ·rename_i j a
  rw [j] at a;simp only [bh,Obj.map.injEq] at a;obtain ⟨rfl,rfl⟩:=a;exact .inr ⟨rfl,rfl⟩
 ·rfl
end
section
open Go Go.RowKit
attribute [local irreducible] Run CondV aC aU
end
section
open Go Go.RowKit
attribute [local irreducible] Run CondV aC aU

mutual
def eqT:T->T->Bool
 | .mk k n s ks,.mk k' n' s' ks'=>decide (k=k') && (decide (n=n') && (decide (s=s') && eqL ks ks'))
def eqL:List T->List T->Bool
 | [],[]=>true
 | t::ts,u::us=>eqT t u && eqL ts us
 | _,_=>false
end
mutual
theorem LJ:∀ a b:T,eqT a b=true↔a=b
 | .mk k n s ks,.mk k' n' s' ks'=>by
  simp only [eqT,bJ,bE,zD ks ks',T.mk.injEq]
theorem zD:∀ a b:List T,eqL a b=true↔a=b
 | [],[]=>by simp [eqL]
 | [],_::_=>by simp [eqL]
 | _::_,[]=>by simp [eqL]
 | t::ts,u::us=>by
  simp only [eqL,bJ,LJ t u,zD ts us,rD]
end
theorem P2:∀ {a b:List T},a.length≠b.length->eqL a b=false:=by
 intro a b h;rw [<- Mn,zD];rintro rfl;exact h rfl
theorem Kl {a b c d e:Value}:∀ (j:Nat) (v:Value),([a,b,c,d]:List Value)[j]?=some v->(#[a,b,c,d,e]:Array Value)[0+j]?=some v
 | 0,_,h|1,_,h|2,_,h|3,_,h=>h
 | j+4,_,h=>by simp at h
end
section
open Go Go.RowKit
attribute [local irreducible] Run CondV aC aU
end
section
open Go Go.RowKit
section
variable {P:Program} {w w0:World} {X:List Nat} {L:List Item} {S:ag} {K:Value->World->Prop}
attribute [local irreducible] Run CondV aC aU
end

section
attribute [local irreducible] Run CondV aC aU
end
end
section
open Go Go.RowKit

theorem Part.upd {α:Type} {k:Nat} {R:bu->List Value->α->Prop} {c a:Array Value} {Ls:List bu} {xs:List α} (h:Part k R c Ls xs) {i:Nat} {L':bu} {x:α} (l:R L' (bB a (i * k) k) x)
  (g:∀ j,j≠i->bB a (j * k) k=bB c (j * k) k):Part k R a (Ls.set i L') (xs.set i x):=by
 refine ⟨by simp [h.1],fun j m o=>?_⟩;by_cases e:i=j
 ·subst e;rw [Hi,Hi];exact l
 ·rw [LP e,LP e,g j fun p=>e p.symm];exact h.2 j (by simpa using m) (by simpa using o)
section
attribute [local irreducible] Run CondV aC aU
end
end
section
open Go Go.RowKit

section
attribute [local irreducible] Run CondV aC aU
theorem TrC.parts {L:bu} {cs:List Value} {c:C} (h:TrC L cs c):∃ kv ks L1 L2,cs=[.int .i64 c.head.kind,.int .i64 c.head.n,.string c.head.name,kv,ks]/\L=L1++L2/\TrSl 4 TrT L1 kv c.head.kids/\TrSl 4 TrT L2 ks c.body:=by
 obtain ⟨j,ks,L1,L2,rfl,rfl,g,i⟩:=h;obtain ⟨kv,rfl,_,_,_,a⟩:=TrT.iff.1 g;exact ⟨kv,ks,L1,L2,rfl,rfl,a,i⟩
end
end
section
open Go Go.RowKit

section
attribute [local irreducible] Run CondV aC aU
end
end
section
open Go Go.RowKit

theorem dz {P:Program} {w:World} {T:TypeId} {cs:Array Value} {a:Nat} {v:Value} (h:jO P T=true) (g:cs[a]?=some v):(part T cs a).run P w=.ok v w:=by
 simp [part,(qy (w:=w) h).1,g]
section
variable {w:World} {K:Value->World->Prop}
attribute [local irreducible] Run
end

attribute [local irreducible] Run CondV aC aU
structure Pd where
 name:ByteArray
 arity:Int
deriving DecidableEq
def Pd.cells (x:Pd):List Value:=[.string x.name,.int .i64 x.arity]
def Q4 (t:T):Pd:=⟨t.name,t.kids.length⟩
def TD (x y:Pd):Bool:=decide (x.name=y.name) && decide (x.arity=y.arity)
end
section
open Go Go.RowKit
attribute [local irreducible] Run CondV aC aU
end
section
open Go Go.RowKit
attribute [local irreducible] Run CondV aC aU

def Uc (l:List Pd) (x:Pd):Bool:=l.any fun y=>TD x y
def T5 (l:List Pd) (x:Pd):List Pd:=if Uc l x=true then l else l++[x]
end
section
open Go Go.RowKit

theorem Inv.lendAll {w0 w:World} {X:List Nat} {A:List Item} (M:bu) {S:ag} (h:Inv w0 X (A++bG M) S w) :
  ∃ S',Sle S S'/\Ins S' M/\Inv w0 X A S' w/\∀ B w',Inv w0 X B S' w'->Inv w0 X (B++bG M) S w':=by
 obtain ⟨S',C,q,r,D⟩:=Inv.publishAll M h;have m:=h.nd;rw [cB,A8] at m;refine ⟨S',q,r,C,fun B w' i=>⟨i.size,i.os,i.tape,i.output,i.old,fun it l=>?_,?_,fun b j=>?_,fun b o j=>⟨(i.pub b o (q b o j)).1,fun g=>?_⟩⟩⟩
 ·rcases cI.1 l with l|l
  ·exact i.its it l
  ·obtain ⟨p,t,rfl⟩:=ng.1 l;exact (i.pub _ _ (r p t)).1
 ·rw [cB,A8];refine ⟨i.nd,m.2.1,fun a u b j e=>?_⟩;subst e;obtain ⟨p,t,rfl⟩:=jh.1 j;exact (i.pub _ _ (r p t)).2 u
 ·rw [cB] at j;rcases cI.1 j with j|j
  ·exact i.new b j
  ·exact h.new b (by rw [cB]; exact iW _ j)
 ·rw [cB] at g;rcases cI.1 g with g|g
  ·exact (i.pub b o (q b o j)).2 g
  ·exact (h.pub b o j).2 (by rw [cB]; exact iW _ g)
theorem Inv.openRow {w0 w:World} {X:List Nat} {A:List Item} {S:ag} {v:Value} {e:TypeId} {k n:Nat} {xs:List Value} (h:Inv w0 X (A++[.row v e k n xs]) S w) :
  xs.length=n * k/\((v=.slice none 0 0/\n=0) ∨ ∃ g cap i,v=.slice (some ⟨g,0,none⟩) n cap/\n<=cap/\cap<=maxLen/\i.size=cap * k/\i.toList.take (n * k)=xs/\Inv w0 X (A++[.blk g (.cells i e)]) S w):=by
 have j:w.ownsRow 0 e k v n xs:=h.its (.row v e k n xs) (by simp);obtain ⟨p,j⟩:=j;refine ⟨p,?_⟩;rcases j with hn|⟨g,cap,i,rfl,_,q,l,m,o,r⟩
 ·exact .inl hn
 ·have hf:bT (A++[Item.blk g (.cells i e)])=bT (A++[Item.row (.slice (some ⟨g,0,none⟩) n cap) e k n xs]):=by
   simp [bT,Item.foot,Value.ownBlock]
  refine .inr ⟨g,cap,i,rfl,l,m,o,r,h.size,h.os,h.tape,h.output,h.old,fun it a=>?_,by rw [hf]; exact h.nd,by rw [hf]; exact h.new,by rw [hf]; exact h.pub⟩;rcases cI.1 a with a|a
  ·exact h.its it (ic _ a)
  ·simp at a;subst a;exact q
theorem Inv.closeRow {w0 w:World} {X:List Nat} {A:List Item} {S:ag} {g cap k n:Nat} {a:Array Value} {e:TypeId} (h:Inv w0 X (A++[.blk g (.cells a e)]) S w) (hn:n<=cap) (hc:cap<=maxLen) (j:a.size=cap * k) :
  Inv w0 X (A++[.row (.slice (some ⟨g,0,none⟩) n cap) e k n (a.toList.take (n * k))]) S w:=by
 have l:w.heap[g]?=some (.cells a e):=h.its (.blk g (.cells a e)) (by simp);have hf:bT (A++[Item.row (.slice (some ⟨g,0,none⟩) n cap) e k n (a.toList.take (n * k))])=bT (A++[Item.blk g (.cells a e)]):=by
  simp [bT,Item.foot,Value.ownBlock]
 refine ⟨h.size,h.os,h.tape,h.output,h.old,fun it i=>?_,by rw [hf]; exact h.nd,by rw [hf]; exact h.new,by rw [hf]; exact h.pub⟩;rcases cI.1 i with i|i
 ·exact h.its it (ic _ i)
 ·simp at i;subst i;refine ⟨?_,.inr ⟨g,cap,a,rfl,aK _,l,hn,hc,j,rfl⟩⟩;rw [iJ,Np,j];exact AM (fH k hn)

section
attribute [local irreducible] Run CondV aC aU
end
end
section
open Go Go.RowKit

structure Grown {α:Type} (k:Nat) (R:bu->List Value->α->Prop) (Ls:List bu) (css:List (List Value)) (ys:List α):Prop where
 hL:Ls.length=ys.length
 hc:css.length=ys.length
 hk:∀ cs∈css,cs.length=k
 hR:∀ i (h:i<ys.length) (h1:i<Ls.length) (h2:i<css.length),R Ls[i] css[i] ys[i]
theorem Grown.nil {α:Type} (k:Nat) (R:bu->List Value->α->Prop):Grown k R [] [] ([]:List α):=⟨rfl,rfl,by simp,fun i h=>by simp at h⟩
theorem Grown.snoc {α:Type} {k:Nat} {R:bu->List Value->α->Prop} {Ls:List bu} {css:List (List Value)} {ys:List α} (h:Grown k R Ls css ys) {L:bu} {cs:List Value} {y:α} (hR:R L cs y) (g:cs.length=k) :
  Grown k R (Ls++[L]) (css++[cs]) (ys++[y]):=by
 refine ⟨by simp [h.hL],by simp [h.hc],fun c hc=>?_,fun i j o p=>?_⟩
 ·rcases cI.1 hc with hc|hc
  ·exact h.hk c hc
  ·simp at hc; subst hc; exact g
 ·have l:=h.hL;have m:=h.hc;by_cases a:i<ys.length
  ·rw [oo (by omega),oo (by omega),oo a];exact h.hR i a (by omega) (by omega)
  ·have:i=ys.length:=by simp at j; omega
   subst this;rw [pM (by omega),pM (by omega),pM (by omega)];simp only [l,m,fg,oC];exact hR
theorem gl (k:Nat):∀ (css:List (List Value)) (i:Nat) (_:∀ cs∈css,cs.length=k) (h:i<css.length),(css.flatten.drop (i * k)).take k=css[i]
 | [],i,_,h=>by simp at h
 | c::css,0,hk,_=>by
  have:=hk c (bL ..);rw [iX,mj,dT,JR (by omega),AQ (by omega)];rfl
 | c::css,i+1,hk,h=>by
  have:=hk c (bL ..);rw [iX,jc,Nat.add_comm,<- G8,List.drop_left' this];exact gl k css i (fun cs hc=>hk cs (bV _ hc)) (by simpa using h)
abbrev aB (v:Value) (e:TypeId) (k:Nat) (css:List (List Value)):Item:=.row v e k css.length css.flatten
theorem Inv.rowTree {α:Type} {w0 w:World} {X:List Nat} {A:List Item} {S:ag} {v:Value} {e:TypeId} {k:Nat} {R:bu->List Value->α->Prop} {Ls:List bu} {css:List (List Value)} {ys:List α}
  (h:Inv w0 X (A++(aB v e k css::bG Ls.flatten)) S w) (m:Grown k R Ls css ys):∃ L,TrSl k R L v ys/\Inv w0 X (A++bG L) S w:=by
 have t:List.Perm ((A++bG Ls.flatten)++[aB v e k css]) (A++(aB v e k css::bG Ls.flatten)):=by
  rw [cN];exact Bx _ bK
 obtain ⟨M,r⟩:=(h.perm t).openRow;have j:=m.hc;have o:=m.hL;rcases r with ⟨rfl,N⟩|⟨g,cap,a,rfl,B,l,C,D,G⟩
 ·have:ys=[]:=jK (by omega);subst this;refine ⟨[],TrSl.nil (by simp [maxLen]),?_⟩;simpa [bG] using h.sub (gR _ _)
 ·by_cases J:ys=[]
  ·subst J;have:css=[]:=jK (by simpa using j);subst this;refine ⟨[],TrSl.nil l,?_⟩;simpa [bG] using h.sub (gR _ _)
  ·refine ⟨(g,.cells a e)::Ls.flatten,⟨_,cap,by rw [j],by omega,l,.inr ⟨g,a,e,Ls,rfl,rfl,o,by omega,fun i p q=>?_⟩⟩,?_⟩
   ·have u:i * k+k<=css.length * k:=by rw [<- jc]; exact fH k (by omega)
    have:=gl k css i m.hk (by omega);rw [<- D,Hr,Fg,AM (by omega)] at this;rw [bB,this];exact m.hR i p q (by omega)
   ·refine G.perm ?_;rw [cN];exact Bx _ (bK (l₁:=[Item.blk g (.cells a e)]))
theorem fq (v:Value) (e:TypeId) (k:Nat) (css:List (List Value)) (cs:List Value):Item.row v e k (css.length+1) (css.flatten++cs)=aB v e k (css++[cs]):=by
 simp [aB]
section
variable {P:Program} {w w0:World} {X:List Nat} {L:List Item} {S:ag} {K:Value->World->Prop}
attribute [local irreducible] Run CondV aC aU
theorem dC (h:Inv w0 X L S w) {T ty e:TypeId} {k a:Nat} {z v:Value} {cs:List Bool} {css:List (List Value)} (i:Nat) (xs:List Value)
  (B:iB P T=some (e,k,a,z)) (g:0<k) (l:k<=65536) (C:L[i]?=some (aB v e k css)) (D:xs.length=k) (G:∀ u∈xs,u.oneCell'=true) (p:css.length+1<=4294967296) (t:a<=32768)
  {K:Value->Value->World->Prop} (hk:∀ v' w',Inv w0 X (L.set i (aB v' e k (css++[xs]))) S w'->K (.slice (some ⟨w.heap.size,0,none⟩) 1 1) v' w') :
  Run P (bI T 1 [(0,.agg xs.toArray)]) w fun u w'=>Run P (bO .append #[T,T] ty cs [v,u]) w' (K u):=by
 refine mW h B (by simp [Value.cells,D]) l g fun w' q=>?_;have r:i<L.length:=(iu.1 C).1;refine eU q i xs B g (by rw [Pf r]; exact C) (by omega) (m:=1) (o:=0) ?_ G p t fun v' w' q=>?_
 ·intro j u J;rw [q.cellL (i:=L.length) (by rw [kV (be _),fg]; rfl)];rw [df];simpa [Value.cells] using J
 ·refine hk _ _ ?_;rw [<- fq];rw [JI _ _ r] at q;exact q.sub (gR _ _)
end

section
attribute [local irreducible] Run CondV aC aU
theorem Bu {ts:List T} (B:∀ t∈ts,∀ (S:ag) (cs:List Value),RdT S cs t->wT t<=1048576->Tri Tryz.prog Lk [.agg cs.toArray] [] S (D2 S t))
  {S:ag} {v:Value} (h:RdSl S 4 (RdT S) v ts) (N:ts.length+wL ts<=1048576):Tri Tryz.prog yn [v] [] S (Ob 4 TrT S ts):=by
 intro w a;refine s5.2 ?_;dsimp only[s5,aQ];refine aG h ao ?_;refine ⟨fun i t w'=>∃ (k:Nat) (Ls:List bu) (css:List (List Value)),k<=ts.length/\i=.int .i64 k/\Grown 4 TrT Ls css (ts.take k)/\Inv w [] (aB t ac 4 css::bG Ls.flatten) S w',
  fun i _ _=>ts.length - (intOf i).toNat,⟨0,[],[],aK _,rfl,Grown.nil _ _,a.rowNil ac 4⟩,?_⟩
 intro O _ r _ _ _ _ _ _ _ _ _ w';rintro ⟨k,Ls,css,hk,rfl,p,a⟩;refine cu ?_;refine aS (fun q=>?_) (fun q=>?_)
 ·have g:k<ts.length:=by omega
  have D:(ts.take k).length=k:=by simp; omega
  have G:=p.hc;refine dy a h ao ad g (fun _ _=>RdT.length) fun cs j=>?_;have u:=cH g;have J:=qk u;have o:=j.length;refine aH a aM fun C w' a=>?_;have a:=a.perm (M:=.blk C _::(aB r ac 4 css::bG Ls.flatten)) (bK (l₁:=[_]));refine al a 0 rfl ad (by simpa using o) rfl (by simpa using j.one) fun w' a=>?_;refine aq a 0 ad rfl (by simpa using o) ?_;have a:Inv w [] (aB r ac 4 css::bG Ls.flatten) S w':=a.sub (gS _ _);refine Run.call0 Ja GL a (B _ u S cs j (by omega)) fun v' I' S' w'=>?_;rintro ⟨rfl,m,L,rfl,rfl,l⟩ _ a;refine dC a 0 m bA (by omega) (by omega) rfl l.length l.one (by omega) (by omega) fun v' w' a=>?_;refine bF (by omega) ?_;refine ⟨⟨k+1,Ls++[L],css++[m],g,rfl,?_,?_⟩,by simp [intOf]; omega⟩
  ·rw [ia g];exact p.snoc l l.length
  ·simp only [BP,iX,s4,dc,eK];exact a
 ·have:k=ts.length:=by omega
  subst this;rw [iz] at p;obtain ⟨L,l,a⟩:=Inv.rowTree (A:=[]) a p;exact ⟨_,_,_,rfl,a,Ext.refl _ _ _,rfl,_,rfl,l⟩
theorem Ds:∀ (t:T) (S:ag) (cs:List Value),RdT S cs t->wT t<=1048576->Tri Tryz.prog Lk [.agg cs.toArray] [] S (D2 S t):=by
 refine T.ind fun k n s ks B S cs h C=>?_;intro w g;obtain ⟨kv,rfl,o,p,q,i⟩:=RdT.iff.1 h;simp only [T.name,T.kids,T.kind,T.n] at o p q i ⊢;simp only [wT] at C;refine HU.2 ?_;dsimp only[HU,aQ];refine bH g fun D w' g=>?_;refine aH g aM fun G w' g=>?_;refine ah g 0 rfl ay ax rfl ?_;refine Run.call0 tj ud g (Bu B i (by omega)) fun v' I' S' w'=>?_;rintro ⟨rfl,L,rfl,m⟩ _ g;have l:v'.cells=#[v']/\v'.oneCell'=true:=by obtain ⟨a,cap,rfl,_⟩:=m; exact ⟨rfl,rfl⟩
 refine dG g 0 rfl ay ax rfl l.1 l.2 fun w' g=>?_;refine aq g 0 ad rfl rfl ?_;refine al g 1 rfl ad rfl rfl ?_ fun w' g=>?_
 ·intro u r;have j:u∈([.int .i64 k,.int .i64 n,.string s,v']:List Value):=r;simp at j;rcases j with rfl|rfl|rfl|rfl <;> first|rfl|exact l.2
 refine bp g 1 ad rfl rfl ?_;refine ⟨_,_,_,rfl,g.sub (dU [_,_] (bG L)),Ext.refl _ _ _,rfl,[.int .i64 k,.int .i64 n,.string s,v'],L,rfl,rfl,TrT.iff.2 ⟨v',rfl,o,p,q,m⟩⟩
theorem Cy {ts:List T} {S:ag} {v:Value} (h:RdSl S 4 (RdT S) v ts) (a:ts.length+wL ts<=1048576):Tri Tryz.prog yn [v] [] S (Ob 4 TrT S ts):=
 Bu (fun t _=>Ds t) h a
end
end
section
open Go Go.RowKit
section
variable {w:World} {K:Value->World->Prop}
attribute [local irreducible] Run
theorem md {a b:Int} {s:ByteArray} {k v:Value} (g:∃ p n m,v=.slice p n m) (hk:K (.agg #[.int .i64 a,.int .i64 b,.string s,k,v]) w):Run Tryz.prog (bR ai [(0,.agg #[.int .i64 a,.int .i64 b,.string s,k]),(1,v)]) w K:=by
 obtain ⟨p,n,m,rfl⟩:=g;refine Run.of (v:=.agg #[.int .i64 a,.int .i64 b,.string s,k,.slice p n m]) (w':=w) ?_ hk;unfold bR;rw [Sem.run_bind,run_build w ai _ #[.int .i64 a,.int .i64 b,.string s,k,.slice p n m] (by kernel_rfl),Result.andThen_ok];rfl
theorem lA {a b:Int} {s:ByteArray} {k:Value} (hk:K (.agg #[.int .i64 a,.int .i64 b,.string s,k,.slice none 0 0]) w):Run Tryz.prog (bR ai [(0,.agg #[.int .i64 a,.int .i64 b,.string s,k])]) w K:=by
 refine Run.of (v:=.agg #[.int .i64 a,.int .i64 b,.string s,k,.slice none 0 0]) (w':=w) ?_ hk;unfold bR;rw [Sem.run_bind,run_build w ai _ #[.int .i64 a,.int .i64 b,.string s,k,.slice none 0 0] (by kernel_rfl),Result.andThen_ok];rfl
theorem pb {a b:Int} {s:ByteArray} (hk:K (.agg #[.int .i64 a,.int .i64 b,.string s,.slice none 0 0]) w):Run Tryz.prog (bR ac [(0,.int .i64 a),(1,.int .i64 b),(2,.string s)]) w K:=by
 refine Run.of (v:=.agg #[.int .i64 a,.int .i64 b,.string s,.slice none 0 0]) (w':=w) ?_ hk;unfold bR;rw [Sem.run_bind,run_build w ac _ #[.int .i64 a,.int .i64 b,.string s,.slice none 0 0] (by kernel_rfl),Result.andThen_ok];rfl
end
section
attribute [local irreducible] Run CondV aC aU
def mq (B B2 B2':Item) (M1 M2:bu) (d2 d5 d7:Bool):List Item:=B::(match d7 with|true=>B2'|false=>B2)::((match d2 with|true=>bG M1|false=>[])++(match d5 with|true=>bG M2|false=>[]))
theorem n5 {c:C} {S:ag} {cs:List Value} (h:RdC S cs c) (hw:wC c<=1048576):Tri Tryz.prog Dn [.agg cs.toArray] [] S (Ra S c):=by
 intro w g;obtain ⟨hd,ks,rfl,h1,h2⟩:=h;have a2:=h1;obtain ⟨kv,rfl,g1,g2,g3,g4⟩:=RdT.iff.1 h1;unfold wC at hw;refine qd.2 ?_;dsimp only[qd,aQ];refine bH g fun M w' g=>?_;refine aH g dn fun B w' g=>?_;have g:Inv w [] [.blk M (.cells #[.int .i64 c.head.kind,.int .i64 c.head.n,.string c.head.name,kv,ks] ai),.blk B (.cells #[.int .i64 0,.int .i64 0,.string ⟨#[]⟩,.slice none 0 0,.slice none 0 0] ai)] S w':=g;refine ⟨fun D x9 l x7 x6 x5 x4 x3 G=>Fx D 0 [x3=.pointer (some ⟨M,0,none⟩),x4=.agg #[.int .i64 c.head.kind,.int .i64 c.head.n,.string c.head.name,kv],True,x6=.pointer (some ⟨M,4,none⟩),x7=ks,True,True,True]/\∃ M1 M2 i,(D 2=true->x5=.agg #[.int .i64 c.head.kind,.int .i64 c.head.n,.string c.head.name,i]/\TrT M1 [.int .i64 c.head.kind,.int .i64 c.head.n,.string c.head.name,i] c.head)/\(D 5=true->TrSl 4 TrT M2 l c.body)/\(D 6=true->x9=.agg #[.int .i64 c.head.kind,.int .i64 c.head.n,.string c.head.name,i,l])/\(D 5=true->D 2=true)/\(D 6=true->D 5=true)/\(D 7=true->D 6=true)/\Inv w [] (mq (.blk M (.cells #[.int .i64 c.head.kind,.int .i64 c.head.n,.string c.head.name,kv,ks] ai)) (.blk B (.cells #[.int .i64 0,.int .i64 0,.string ⟨#[]⟩,.slice none 0 0,.slice none 0 0] ai)) (.blk B (.cells #[.int .i64 c.head.kind,.int .i64 c.head.n,.string c.head.name,i,l] ai)) M1 M2 (D 2) (D 5) (D 7)) S G,⟨Fx.nil _ _,⟨[],[],undef,aY,aY,aY,aY,aY,aY,g.draw⟩⟩,⟨?_,?_,?_,?_,?_,?_,?_,?_,trivial⟩,?_⟩;all_goals (intro D J; intros; rename_i x9 l x7 x6 x5 x4 x3 G O; have j:=O.1; obtain ⟨⟨cG,cf,cD,cF,bQ,cE,bZ,cL,_⟩,⟨M1,M2,i,m,o,p,t,q,r,g⟩⟩:=O)
 ·refine au cC ?_;exact ⟨j.set 0 rfl,⟨M1,M2,i,m,o,p,t,q,r,g⟩⟩
 ·obtain rfl:=cG ‹_›;refine fo g 0 [.int .i64 c.head.kind,.int .i64 c.head.n,.string c.head.name,kv] ad rfl rfl Kl ?_;exact ⟨j.set 1 rfl,⟨M1,M2,i,m,o,p,t,q,r,g⟩⟩
 ·obtain rfl:=cf ‹_›;have f5:D 5=false:=cS.2 fun h=>by rw [t h] at J; cases J
  have N:D 6=false:=cS.2 fun h=>by rw [q h] at f5; cases f5
  have V:D 7=false:=cS.2 fun h=>by rw [r h] at N; cases N
  rw [J,f5,V] at g;refine Run.call0 Ja GL g (Ds c.head S _ a2 (by omega)) fun v' I' S G=>?_;rintro ⟨rfl,a4,M1,rfl,rfl,U⟩ _ g;obtain ⟨i,rfl,_⟩:=TrT.iff.1 U;have m:aE D 2 2=true->Value.agg #[.int .i64 c.head.kind,.int .i64 c.head.n,.string c.head.name,i]=Value.agg #[.int .i64 c.head.kind,.int .i64 c.head.n,.string c.head.name,i]/\TrT M1 [.int .i64 c.head.kind,.int .i64 c.head.n,.string c.head.name,i] c.head:=fun _=>⟨rfl,U⟩
  have p:=fun (h:D 6=true)=>(absurd h (by rw [N]; decide):x9=.agg #[.int .i64 c.head.kind,.int .i64 c.head.n,.string c.head.name,i,l])
  have t:=fun (_:aE D 2 5=true)=>(rfl:aE D 2 2=true)
  have g:Inv w [] (mq (.blk M (.cells #[.int .i64 c.head.kind,.int .i64 c.head.n,.string c.head.name,kv,ks] ai)) (.blk B (.cells #[.int .i64 0,.int .i64 0,.string ⟨#[]⟩,.slice none 0 0,.slice none 0 0] ai)) (.blk B (.cells #[.int .i64 c.head.kind,.int .i64 c.head.n,.string c.head.name,i,l] ai)) M1 M2 true (D 5) (D 7)) S G:=by
   rw [f5,V];simpa [mq] using g
  exact ⟨j.set 2 (by first|assumption|trivial),⟨M1,M2,i,m,o,p,t,q,r,g⟩⟩
 ·refine au bC ?_;exact ⟨j.set 3 rfl,⟨M1,M2,i,m,o,p,t,q,r,g⟩⟩
 ·obtain rfl:=cF ‹_›;refine aD g 0 ax rfl rfl ?_;exact ⟨j.set 4 (by first|assumption|trivial),⟨M1,M2,i,m,o,p,t,q,r,g⟩⟩
 ·have GE:=bQ ‹_›;have N:D 6=false:=cS.2 fun h=>by rw [q h] at J; cases J
  have V:D 7=false:=cS.2 fun h=>by rw [r h] at N; cases N
  rw [J,‹D 2=true›,V] at g;refine Run.call0 tj ud g (by rw [GE]; exact Cy h2 (by omega)) fun v' I' S G=>?_;rintro ⟨rfl,M2,rfl,a0⟩ _ g;have o:=fun (_:aE D 5 5=true)=>a0;have p:=fun (h:D 6=true)=>(absurd h (by rw [N]; decide):x9=.agg #[.int .i64 c.head.kind,.int .i64 c.head.n,.string c.head.name,i,v'])
  have q:=fun (_:aE D 5 6=true)=>(rfl:aE D 5 5=true)
  have t:=fun (_:aE D 5 5=true)=>‹D 2=true›;have g:Inv w [] (mq (.blk M (.cells #[.int .i64 c.head.kind,.int .i64 c.head.n,.string c.head.name,kv,ks] ai)) (.blk B (.cells #[.int .i64 0,.int .i64 0,.string ⟨#[]⟩,.slice none 0 0,.slice none 0 0] ai)) (.blk B (.cells #[.int .i64 c.head.kind,.int .i64 c.head.n,.string c.head.name,i,v'] ai)) M1 M2 (D 2) true (D 7)) S G:=by
   rw [‹D 2=true›,V];simpa [mq] using g
  exact ⟨j.set 5 (by first|assumption|trivial),⟨M1,M2,i,m,o,p,t,q,r,g⟩⟩
 ·have RP:=cD ‹_›;have Gv:=cE ‹_›;have Y:=(m ‹D 2=true›).1;subst Y;refine md (by obtain ⟨a8,a3,a1,_⟩:=o ‹D 5=true›; exact ⟨_,_,_,a1⟩) ?_;have p:aE D 6 6=true->Value.agg #[.int .i64 c.head.kind,.int .i64 c.head.n,.string c.head.name,i,l]=Value.agg #[.int .i64 c.head.kind,.int .i64 c.head.n,.string c.head.name,i,l]:=fun _=>rfl;have r:=fun (_:aE D 6 7=true)=>(rfl:aE D 6 6=true)
  have q:=fun (_:aE D 6 6=true)=>‹D 5=true›;exact ⟨j.set 6 (by first|assumption|trivial),⟨M1,M2,i,m,o,p,t,q,r,g⟩⟩
 ·have BB:=bZ ‹_›;have q6:=p ‹D 6=true›;subst q6;have Y:=(m ‹D 2=true›).2;have q5:=o ‹D 5=true›;rw [J,‹D 2=true›,‹D 5=true›] at g;refine al g 1 rfl aN rfl rfl ?_ fun G g=>?_
  ·intro u hu;have Z:u∈([.int .i64 c.head.kind,.int .i64 c.head.n,.string c.head.name,i,l]:List Value):=hu;simp at Z;have o1:i.oneCell'=true:=Y.one i (by simp);have o2:l.oneCell'=true:=by obtain ⟨a,cap,rfl,_⟩:=q5; rfl
   rcases Z with rfl|rfl|rfl|rfl|rfl <;> first|rfl|exact o1|exact o2
  have r:=fun (_:aE D 7 7=true)=>‹D 6=true›;have g:Inv w [] (mq (.blk M (.cells #[.int .i64 c.head.kind,.int .i64 c.head.n,.string c.head.name,kv,ks] ai)) (.blk B (.cells #[.int .i64 0,.int .i64 0,.string ⟨#[]⟩,.slice none 0 0,.slice none 0 0] ai)) (.blk B (.cells #[.int .i64 c.head.kind,.int .i64 c.head.n,.string c.head.name,i,l] ai)) M1 M2 (D 2) (D 5) true) S G:=by
   rw [‹D 2=true›,‹D 5=true›];exact g
  exact ⟨j.set 7 trivial,⟨M1,M2,i,m,o,p,t,q,r,g⟩⟩
 obtain ⟨rfl,rfl,RP,rfl,GE,Gv,BB,_,_⟩:=j.all;have T2:D 2=true:=by assumption
 have Q7:D 5=true:=by assumption
 have sZ:D 7=true:=by assumption
 clear j cG cf cD cF bQ cE bZ cL;have Y:=(m T2).2;have q5:=o Q7;rw [T2,Q7,sZ] at g;refine bp g 1 aN rfl rfl ?_;refine ⟨_,_,_,rfl,g.sub (dU [_,_] (bG M1++bG M2)),Ext.refl _ _ _,rfl,_,M1++M2,rfl,by rw [eK],_,l,M1,M2,rfl,rfl,Y,q5⟩
end
end
section
open Go Go.RowKit
theorem RdC.one {S:ag} {cs:List Value} {c:C} (h:RdC S cs c):∀ u∈cs,u.oneCell'=true:=by
 obtain ⟨j,ks,rfl,i,a,cap,rfl,_⟩:=h;intro u g;rcases cI.1 g with g|g
 ·exact i.one u g
 ·simp at g; subst g; rfl
section
attribute [local irreducible] Run CondV aC aU
theorem Inv.rowSlice {w0 w:World} {X:List Nat} {L:List Item} {S:ag} {v:Value} {e:TypeId} {k n:Nat} {xs:List Value} (h:Inv w0 X L S w) (i:Nat) (j:L[i]?=some (.row v e k n xs)):∃ a m c,v=.slice a m c:=by
 have l:w.ownsRow 0 e k v n xs:=h.its (.row v e k n xs) (fj j);rcases l.2 with ⟨rfl,_⟩|⟨g,cap,o,rfl,_⟩
 ·exact ⟨_,_,_,rfl⟩
 ·exact ⟨_,_,_,rfl⟩
def bz (B1 B2 B3 B3' r r':Item) (rest:List Item) (M:bu) (B27:Item) (d7 d8 d9 d11:Bool):List Item:=
 B1::B2::(match d11 with|true=>B3'|false=>B3)::(match d9 with|true=>r'|false=>r)::(rest++((match d7 with|true=>bG M|false=>[])++(match d8 with|true=>[B27]|false=>[])))

theorem iC:∀ (t:T) (S:ag) (cs:List Value),RdT S cs t->wT t<=1048576->Tri Tryz.prog sE [.agg cs.toArray] [] S (D2 S t):=by
 refine T.ind fun k n s ks ih S cs h hw=>?_;intro w g;obtain ⟨kv,rfl,h1,h2,hs,a0⟩:=RdT.iff.1 h;simp only [T.name,T.kids,T.kind,T.n] at h1 h2 hs a0 ⊢;simp only [wT] at hw;refine lF.2 ?_;dsimp only[lF,aQ];refine bH g fun b1 w' g=>?_;refine aH g aM fun b2 w' g=>?_;refine ah g 0 rfl bb aw rfl ?_;refine ah g 0 rfl aV aw rfl ?_;refine ah g 0 rfl bk aZ rfl ?_;refine pb ?_;refine aH g aM fun b3 w' g=>?_;refine al g 2 rfl ad rfl rfl (by simp [Value.oneCell']) fun w' g=>?_;have g:=g.rowNil ac 4;refine ⟨fun i w'=>∃ (j:Nat) (l:Value) (Ls:List bu) (css:List (List Value)),j<=ks.length/\i=.int .i64 j/\Grown 4 TrT Ls css (ks.take j)/\
   Inv w [] (.blk b1 (.cells #[.int .i64 k,.int .i64 n,.string s,kv] ac)::.blk b2 (.cells #[.int .i64 0,.int .i64 0,.string ⟨#[]⟩,.slice none 0 0] ac)::.blk b3 (.cells #[.int .i64 k,.int .i64 n,.string s,l] ac)::aB l ac 4 css::bG Ls.flatten) S w',
  fun i _=>ks.length - (intOf i).toNat,⟨0,_,[],[],aK _,rfl,Grown.nil _ _,g⟩,?_⟩
 intro t4 _ _ _ _ _ _ _ _ _ _ _ _ _ _ _ _ _ _ w';rintro ⟨j,l,Ls,css,hj,rfl,hg,g⟩;refine ah g 0 rfl ay ax rfl ?_;refine aG a0 ao ?_;refine cu ?_;refine aS (fun a6=>?_) (fun a6=>?_)
 ·have V:j<ks.length:=by omega
  have a9:(ks.take j).length=j:=by simp; omega
  have b0:=hg.hc;have hm:=cH V;have b4:=qk hm;obtain ⟨b,o,cap,c,E,fz,rfl,hS,hR⟩:=a0.at_ V;refine ⟨fun D AV O DL tq io pT rU ry oQ nq pX w_=>Fx D 0 [pX=.pointer (some ⟨b3,3,none⟩),nq=l,oQ=.pointer (some ⟨b1,3,none⟩),ry=.slice (some ⟨b,o,none⟩) (ks).length cap,rU=.int .i64 j,pT=.pointer (some ⟨b,o+j * 4,none⟩),io=.agg (bB c (o+j * 4) 4).toArray,True,True,True,AV=.pointer (some ⟨b3,3,none⟩),True]/\∃ M a r,(D 7=true->tq=.agg a.toArray/\TrT M a (ks)[j])/\(D 8=true->DL=.slice (some ⟨r,0,none⟩) 1 1)/\(D 8=true->D 7=true)/\(D 9=true->D 8=true)/\(D 11=true->D 9=true)/\(D 11=true->D 1=true)/\Inv w [] (bz (.blk b1 (.cells #[.int .i64 k,.int .i64 n,.string s,.slice (some ⟨b,o,none⟩) ks.length cap] ac)) (.blk b2 (.cells #[.int .i64 0,.int .i64 0,.string ⟨#[]⟩,.slice none 0 0] ac)) (.blk b3 (.cells #[.int .i64 k,.int .i64 n,.string s,l] ac)) (.blk b3 (.cells #[.int .i64 k,.int .i64 n,.string s,O] ac)) (aB l ac 4 css) (aB O ac 4 (css++[a])) (bG Ls.flatten) M (.blk r (.cells a.toArray ac)) (D 7) (D 8) (D 9) (D 11)) S w_,⟨Fx.nil _ _,⟨[],[],0,aY,aY,aY,aY,aY,aY,by simpa [bz,bG] using g.draw⟩⟩,⟨?_,?_,?_,?_,?_,?_,?_,?_,?_,?_,?_,?_,trivial⟩,?_⟩;all_goals (intro D Y; intros; rename_i AV O DL tq io pT rU ry oQ nq pX w_ a2; have q:=a2.1; obtain ⟨⟨cG,cf,cD,cF,bQ,cE,bZ,cL,dw,dl,ci,c8,_⟩,⟨M,a,r,C,U,J,G,p,N,g⟩⟩:=a2)
  ·refine au ay ?_;exact ⟨q.set 0 rfl,⟨M,a,r,C,U,J,G,p,N,g⟩⟩
  ·obtain rfl:=cG ‹_›;have B:D 11=false:=cS.2 fun h=>by rw [N h] at Y; cases Y
   refine aD (b:=b3) g 2 (c:=(#[.int .i64 k,.int .i64 n,.string s,l])) ax (by rw [B]; rfl) rfl ?_;have N:=fun (_:aE D 1 11=true)=>(rfl:aE D 1 1=true)
   exact ⟨q.set 1 rfl,⟨M,a,r,C,U,J,G,p,N,g⟩⟩
  ·refine au ay ?_;exact ⟨q.set 2 rfl,⟨M,a,r,C,U,J,G,p,N,g⟩⟩
  ·obtain rfl:=cD ‹_›;refine aD g 0 ax rfl rfl ?_;exact ⟨q.set 3 rfl,⟨M,a,r,C,U,J,G,p,N,g⟩⟩
  ·exact ⟨q.set 4 rfl,⟨M,a,r,C,U,J,G,p,N,g⟩⟩
  ·obtain rfl:=cF ‹_›;obtain rfl:=bQ ‹_›;refine aT ao V ?_;exact ⟨q.set 5 rfl,⟨M,a,r,C,U,J,G,p,N,g⟩⟩
  ·obtain rfl:=cE ‹_›;refine dX ad hR.length (fun j v hj=>by rw [g.cellS hS]; exact bd rfl j v hj) ?_;exact ⟨q.set 6 rfl,⟨M,a,r,C,U,J,G,p,N,g⟩⟩
  ·obtain rfl:=bZ ‹_›;have f8:D 8=false:=cS.2 fun h=>by rw [J h] at Y; cases Y
   have f9:D 9=false:=cS.2 fun h=>by rw [G h] at f8; cases f8
   have B:D 11=false:=cS.2 fun h=>by rw [p h] at f9; cases f9
   rw [Y,f8,f9,B] at g;refine Run.call0 gv gd g (ih _ (cH V) S _ hR (by omega)) fun v' I' S w_=>?_;rintro ⟨rfl,a,M,rfl,rfl,Z⟩ _ g;have C:aE D 7 7=true->Value.agg a.toArray=Value.agg a.toArray/\TrT M a (ks)[j]:=fun _=>⟨rfl,Z⟩
   have J:=fun (_:aE D 7 8=true)=>(rfl:aE D 7 7=true)
   have g:Inv w [] (bz (.blk b1 (.cells #[.int .i64 k,.int .i64 n,.string s,.slice (some ⟨b,o,none⟩) ks.length cap] ac)) (.blk b2 (.cells #[.int .i64 0,.int .i64 0,.string ⟨#[]⟩,.slice none 0 0] ac)) (.blk b3 (.cells #[.int .i64 k,.int .i64 n,.string s,l] ac)) (.blk b3 (.cells #[.int .i64 k,.int .i64 n,.string s,O] ac)) (aB l ac 4 css) (aB O ac 4 (css++[a])) (bG Ls.flatten) M (.blk r (.cells a.toArray ac)) true (D 8) (D 9) (D 11)) S w_:=by
    rw [f8,f9,B];simpa [bz] using g
   exact ⟨q.set 7 (by first|assumption|trivial),⟨M,a,r,C,U,J,G,p,N,g⟩⟩
  ·have Cs:=cL ‹_›;have f9:D 9=false:=cS.2 fun h=>by rw [G h] at Y; cases Y
   have B:D 11=false:=cS.2 fun h=>by rw [p h] at f9; cases f9
   obtain ⟨q7,Z⟩:=C ‹D 7=true›;subst q7;rw [‹D 7=true›,Y,f9,B] at g;refine eQ g bA (by simp [Value.cells,Z.length]) (by omega) (by omega) fun r w_ g=>?_;have C:aE D 8 7=true->Value.agg a.toArray=Value.agg a.toArray/\TrT M a (ks)[j]:=fun _=>⟨rfl,Z⟩
   have U:=fun (_:aE D 8 8=true)=>(rfl:Value.slice (some ⟨r,0,none⟩) 1 1=_)
   have J:=fun (_:aE D 8 8=true)=>‹D 7=true›;have G:=fun (_:aE D 8 9=true)=>(rfl:aE D 8 8=true)
   have g:Inv w [] (bz (.blk b1 (.cells #[.int .i64 k,.int .i64 n,.string s,.slice (some ⟨b,o,none⟩) ks.length cap] ac)) (.blk b2 (.cells #[.int .i64 0,.int .i64 0,.string ⟨#[]⟩,.slice none 0 0] ac)) (.blk b3 (.cells #[.int .i64 k,.int .i64 n,.string s,l] ac)) (.blk b3 (.cells #[.int .i64 k,.int .i64 n,.string s,O] ac)) (aB l ac 4 css) (aB O ac 4 (css++[a])) (bG Ls.flatten) M (.blk r (.cells a.toArray ac)) (D 7) true (D 9) (D 11)) S w_:=by
    rw [‹D 7=true›,f9,B];simpa [bz,Value.cells] using g
   exact ⟨q.set 8 (by first|assumption|trivial),⟨M,a,r,C,U,J,G,p,N,g⟩⟩
  ·obtain rfl:=cf ‹_›;have GD:=dw ‹_›;have B:D 11=false:=cS.2 fun h=>by rw [p h] at Y; cases Y
   have q8:=U ‹D 8=true›;subst q8;obtain ⟨_,Z⟩:=C ‹D 7=true›;rw [‹D 7=true›,‹D 8=true›,Y,B] at g;have a3:((bz (.blk b1 (.cells #[.int .i64 k,.int .i64 n,.string s,.slice (some ⟨b,o,none⟩) ks.length cap] ac)) (.blk b2 (.cells #[.int .i64 0,.int .i64 0,.string ⟨#[]⟩,.slice none 0 0] ac)) (.blk b3 (.cells #[.int .i64 k,.int .i64 n,.string s,nq] ac)) (.blk b3 (.cells #[.int .i64 k,.int .i64 n,.string s,O] ac)) (aB nq ac 4 css) (aB O ac 4 (css++[a])) (bG Ls.flatten) M (.blk r (.cells a.toArray ac)) true true false false))[4+(bG Ls.flatten).length+(bG M).length]?=some (.blk r (.cells a.toArray ac)):=by
    have e4:4+(bG Ls.flatten).length+(bG M).length=((bG Ls.flatten).length+(bG M).length)+1+1+1+1:=by omega
    rw [e4];simp only [bz,lY];rw [kV (by omega),sP,kV (be _),fg]; rfl
   refine eU g 3 a bA (by omega) rfl (by rw [Z.length]) (m:=1) (o:=0) ?_ Z.one (by omega) (by omega) fun v' w_ g=>?_
   ·intro i u hi;rw [g.cellL a3,df];simpa using hi
   rw [fq] at g;have G:=fun (_:aE D 9 9=true)=>‹D 8=true›;have p:=fun (_:aE D 9 11=true)=>(rfl:aE D 9 9=true)
   have g:Inv w [] (bz (.blk b1 (.cells #[.int .i64 k,.int .i64 n,.string s,.slice (some ⟨b,o,none⟩) ks.length cap] ac)) (.blk b2 (.cells #[.int .i64 0,.int .i64 0,.string ⟨#[]⟩,.slice none 0 0] ac)) (.blk b3 (.cells #[.int .i64 k,.int .i64 n,.string s,nq] ac)) (.blk b3 (.cells #[.int .i64 k,.int .i64 n,.string s,v'] ac)) (aB nq ac 4 css) (aB v' ac 4 (css++[a])) (bG Ls.flatten) M (.blk r (.cells a.toArray ac)) (D 7) (D 8) true (D 11)) S w_:=by
    rw [‹D 7=true›,‹D 8=true›,B];exact g
   exact ⟨q.set 9 (by first|assumption|trivial),⟨M,a,r,C,U,J,G,p,N,g⟩⟩
  ·refine au ay ?_;exact ⟨q.set 10 rfl,⟨M,a,r,C,U,J,G,p,N,g⟩⟩
  ·obtain rfl:=ci ‹_›;have DC:=dl ‹_›;rw [‹D 7=true›,‹D 8=true›,‹D 9=true›,Y] at g;obtain ⟨va,vn,vc,a1⟩:=Inv.rowSlice g 3 rfl;refine ef g 2 (n:=1) (by rw [a1]; rfl) (by decide +kernel) rfl (by simp) (by rw [a1]; simp [Value.cells,Value.oneCell']) fun w_ g=>?_;have a4:Value.cells O=#[O]:=by rw [a1]; rfl
   rw [a4] at g;have N:=fun (_:aE D 11 11=true)=>‹D 1=true›;have p:=fun (_:aE D 11 11=true)=>‹D 9=true›;have g:Inv w [] (bz (.blk b1 (.cells #[.int .i64 k,.int .i64 n,.string s,.slice (some ⟨b,o,none⟩) ks.length cap] ac)) (.blk b2 (.cells #[.int .i64 0,.int .i64 0,.string ⟨#[]⟩,.slice none 0 0] ac)) (.blk b3 (.cells #[.int .i64 k,.int .i64 n,.string s,l] ac)) (.blk b3 (.cells #[.int .i64 k,.int .i64 n,.string s,O] ac)) (aB l ac 4 css) (aB O ac 4 (css++[a])) (bG Ls.flatten) M (.blk r (.cells a.toArray ac)) (D 7) (D 8) (D 9) true) S w_:=by
    rw [‹D 7=true›,‹D 8=true›,‹D 9=true›];exact g
   exact ⟨q.set 11 trivial,⟨M,a,r,C,U,J,G,p,N,g⟩⟩
  obtain ⟨rfl,rfl,rfl,rfl,rfl,rfl,rfl,Cs,GD,DC,rfl,_,_⟩:=q.all;have sZ:D 7=true:=by assumption
  have Lh:D 8=true:=by assumption
  have NF:D 9=true:=by assumption
  have r6:D 11=true:=by assumption
  clear q cG cf cD cF bQ cE bZ cL dw dl ci c8;obtain ⟨_,Z⟩:=C sZ;rw [sZ,Lh,NF,r6] at g;refine bF (by omega) ?_;refine ⟨⟨j+1,O,Ls++[M],css++[a],V,rfl,?_,?_⟩,by simp [intOf]; omega⟩
  ·rw [ia V];exact hg.snoc Z Z.length
  ·simp only [BP,iX,s4,dc,eK];refine g.sub ?_;simp only [bz];rw [<- cN];exact (((gR _ _).cons_cons _).cons_cons _).cons_cons _ |>.cons_cons _
 ·have:j=ks.length:=by omega
  subst this;rw [iz] at hg;obtain ⟨va,vn,vc,a7⟩:=g.rowSlice 3 rfl;have a8:l.oneCell'=true:=by rw [a7]; rfl
  refine aq g 2 ad rfl rfl ?_;refine al g 1 rfl ad rfl rfl ?_ fun w' g=>?_
  ·intro u hu;have a5:u∈([.int .i64 k,.int .i64 n,.string s,l]:List Value):=hu;simp at a5;rcases a5 with rfl|rfl|rfl|rfl <;> first|rfl|exact a8
  refine bp g 1 ad rfl rfl ?_;have g:Inv w [] ([]++(aB l ac 4 css::bG Ls.flatten)) S w':=g.sub (dU [_,_,_] _);obtain ⟨L,Z,g⟩:=Inv.rowTree g hg;exact ⟨_,_,_,rfl,g,Ext.refl _ _ _,rfl,_,L,rfl,rfl,TrT.iff.2 ⟨l,rfl,h1,h2,hs,Z⟩⟩
end
end
section
open Go Go.RowKit
attribute [local irreducible] Run CondV aC aU

def sF (t u:T):Bool:=decide (t.kind=u.kind) && (decide (t.n=u.n) && (decide (t.name=u.name) && decide (t.kids.length=u.kids.length)))
theorem zG (k n g h:Int) (s i:ByteArray) (ks a:List T):sF (.mk k n s ks) (.mk g h i a)=(decide (k=g) && (decide (n=h) && (decide (s=i) && decide (ks.length=a.length)))):=rfl
theorem TP {α β:Type} (a:List α) (b:List β):decide (a.length=b.length)=decide ((a.length:Int)=(b.length:Int)):=by
 rw [rZ];simp only [bE];omega
end
end Go.Proofs.YtjbcdmheajljpaaGreat

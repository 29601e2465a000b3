/- Texts written: spec.l2Text and its kin, l4Text, FormatClause. -/
import Derived.Test.YtbocelianhcfmaaGreatDoorZEf1
namespace Go.Proofs.YtbocelianhcfmaaGreatDoor
section
open Go Go.RowKit
theorem re:Tryz.prog.underlying rV=some (.slice tU):=by kernel_rfl
section
variable {w:World} {S:ab}
attribute [local irreducible] Run CondV ah ax
theorem cX {t:T} {cs:List Value} (h:RdT S cs t):Pure Tryz.prog p9 [.agg cs.toArray] S (.bool (be t)):=by
 intro w hI
 obtain ⟨kv,rfl,_,_,_,hk⟩:=RdT.iff.1 h
 obtain ⟨ka,kc,rfl,_⟩:=id hk
 refine jR.2 ?_
 dsimp only[jR,am]
 refine aG hI fun b1 w' hI=>?_
 refine aa hI 0 rfl aB ar rfl ?_
 by_cases h3:t.kind=3
 ·refine bA h3 ?_
  refine rpG ?_
  refine aa hI 0 rfl ai al rfl ?_
  refine aJ (b:=st [46]) ?_
  cases hn:decide (t.name=st [46])
  ·refine rpG ?_
   exact ae hI (by rw [be,hn,Bool.false_and,Bool.and_false])
  ·refine rpG ?_
   refine aa hI 0 rfl af aj rfl ?_
   refine dC ag ?_
   refine a6 ?_
   refine rpG ?_
   refine ae hI ?_
   rw [be,hn,decide_eq_true h3,Bool.true_and,Bool.true_and]
   congr 1
   rw [decide_eq_decide]
   omega
 ·refine bk h3 ?_
  refine rpG ?_
  exact ae hI (by rw [be,decide_eq_false h3,Bool.false_and])
theorem mw {t:T} {cs:List Value} (h:RdT S cs t):Pure Tryz.prog rP [.agg cs.toArray] S (.bool (il t)):=by
 intro w hI
 obtain ⟨kv,rfl,_,_,_,hk⟩:=RdT.iff.1 h
 obtain ⟨ka,kc,rfl,_⟩:=id hk
 refine lc.2 ?_
 dsimp only[lc,am]
 refine aG hI fun b1 w' hI=>?_
 refine aa hI 0 rfl aB ar rfl ?_
 by_cases h3:t.kind=3
 ·refine bA h3 ?_
  refine rpG ?_
  refine aa hI 0 rfl ai al rfl ?_
  refine aJ (b:=st [91,93]) ?_
  cases hn:decide (t.name=st [91,93])
  ·refine rpG ?_
   exact ae hI (by rw [il,hn,Bool.false_and,Bool.and_false])
  ·refine rpG ?_
   refine aa hI 0 rfl af aj rfl ?_
   refine dC ag ?_
   refine a6 ?_
   refine rpG ?_
   refine ae hI ?_
   rw [il,hn,decide_eq_true h3,Bool.true_and,Bool.true_and]
   congr 1
   rw [decide_eq_decide]
   omega
 ·refine bk h3 ?_
  refine rpG ?_
  exact ae hI (by rw [il,decide_eq_false h3,Bool.false_and])
theorem eh {t:T} {cs:List Value} (h:RdT S cs t):Pure Tryz.prog oC [.agg cs.toArray] S (.bool (aU t)):=by
 intro w hI
 obtain ⟨kv,rfl,_,_,_,hk⟩:=RdT.iff.1 h
 obtain ⟨ka,kc,rfl,_⟩:=id hk
 refine h8.2 ?_
 dsimp only[h8,am]
 refine aG hI fun b1 w' hI=>?_
 refine aa hI 0 rfl aB ar rfl ?_
 by_cases h3:t.kind=3
 ·refine bA h3 ?_
  refine rpG ?_
  refine aa hI 0 rfl af aj rfl ?_
  refine dC ag ?_
  by_cases hn:t.kids.length=2
  ·refine bA (by omega) ?_
   refine rpG ?_
   refine aa hI 0 rfl ai al rfl ?_
   refine Run.callPure bX bV hI (bx _ S) fun w' hI=>?_
   refine cA ?_
   refine rpG ?_
   exact ae hI (by rw [aU,decide_eq_true h3,decide_eq_true hn,Bool.true_and,Bool.true_and])
  ·refine bk (by omega) ?_
   refine rpG ?_
   exact ae hI (by rw [aU,decide_eq_false hn,Bool.false_and,Bool.and_false])
 ·refine bk h3 ?_
  refine rpG ?_
  exact ae hI (by rw [aU,decide_eq_false h3,Bool.false_and])
theorem eU {t:T} {cs:List Value} (h:RdT S cs t):Pure Tryz.prog qw [.agg cs.toArray] S (.bool (cI t)):=by
 intro w hI
 obtain ⟨kv,rfl,_,_,_,hk⟩:=RdT.iff.1 h
 obtain ⟨ka,kc,rfl,_⟩:=id hk
 refine jT.2 ?_
 dsimp only[jT,am]
 refine aG hI fun b1 w' hI=>?_
 refine aa hI 0 rfl aB ar rfl ?_
 by_cases h3:t.kind=3
 ·refine bA h3 ?_
  refine rpG ?_
  refine aa hI 0 rfl af aj rfl ?_
  refine dC ag ?_
  by_cases hn:t.kids.length=0
  ·refine bA (by omega) ?_
   refine rpG ?_
   refine aa hI 0 rfl ai al rfl ?_
   refine Run.callPure bX bV hI (bx _ S) fun w' hI=>?_
   refine cA ?_
   refine rpG ?_
   exact ae hI (by rw [cI,decide_eq_true h3,decide_eq_true hn,Bool.true_and,Bool.true_and])
  ·refine bk (by omega) ?_
   refine rpG ?_
   exact ae hI (by rw [cI,decide_eq_false hn,Bool.false_and,Bool.and_false])
 ·refine bk h3 ?_
  refine rpG ?_
  exact ae hI (by rw [cI,decide_eq_false h3,Bool.false_and])
theorem lL (n:Bs) (hn:n.length<=1000000):Pure Tryz.prog nn [.string (st n)] S (.string (st (aV n))):=by
 intro w hI
 refine fH.2 ?_
 dsimp only[fH,am]
 refine ⟨fun b w'=>b=.bool (decide (n=[105,115]) || decide (n=[109,111,100]))/\Inv w [] [] S w',?_,?_⟩
 ·refine sd (b:=[105,115]) ?_
  cases h5:decide (n=[105,115])
  ·refine rpG ?_
   refine sd (b:=[109,111,100]) ?_
   refine rpG ?_
   exact ⟨by rw [Bool.false_or],hI⟩
  ·refine rpG ?_
   exact ⟨by rw [Bool.true_or],hI⟩
 intro t8 _ _ _ _ _ w'
 rintro ⟨rfl,hI⟩
 refine ak (fun hb=>?_) (fun hb=>?_)
 ·rw [Bool.or_eq_true,decide_eq_true_eq,decide_eq_true_eq] at hb
  refine av (a:=[32]) (by simp; omega) ?_
  refine av (b:=[32]) (by simp; omega) ?_
  exact ae hI (by rw [aV,if_pos hb]; rfl)
 ·rw [Bool.or_eq_false_iff,decide_eq_false_iff_not,decide_eq_false_iff_not] at hb
  exact ae hI (by rw [aV,if_neg (by rintro (h|h); exact hb.1 h; exact hb.2 h)])
theorem mb (s:Bs) (h0:0<s.length):Pure Tryz.prog po [.string (st s)] S (.bool (dY s)):=by
 intro w hI
 refine gk.2 ?_
 dsimp only[gk,am]
 have e1:dY s=(sml s 0 || (dig s 0 || (upp s 0 || (sgn s 0 91 || sgn s 0 40)))):=rfl
 have eu:upp s 0=(decide (65<=s[0].toNat) && decide (s[0].toNat<=90)):=qi h0 65 90
 have ea:sgn s 0 91=decide (s[0].toNat=91):=sO h0 91
 have eb:sgn s 0 40=decide (s[0].toNat=40):=sO h0 40
 refine Run.callPure nK nL hI (kq s 0 S) fun w' hI=>?_
 cases hs:sml s 0
 ·refine rpG ?_
  refine Run.callPure nv nW hI (ki s 0 S) fun w' hI=>?_
  cases hd:dig s 0
  ·refine rpG ?_
   refine cW (i:=0) aw h0 ?_
   rw [hs,hd,Bool.false_or,Bool.false_or] at e1
   by_cases h65:65<=s[0].toNat
   ·refine eY (by omega) ?_
    refine rpG ?_
    refine cW (i:=0) aw h0 ?_
    by_cases h90:s[0].toNat<=90
    ·refine qn (by omega) ?_
     refine rpG ?_
     exact ae hI (by rw [e1,eu,decide_eq_true h65,decide_eq_true h90]; rfl)
    ·refine pI (by omega) ?_
     refine rpG ?_
     refine cW (i:=0) aw h0 ?_
     by_cases h91:s[0].toNat=91
     ·refine bA (by omega) ?_
      refine rpG ?_
      exact ae hI (by rw [e1,ea,decide_eq_true h91,Bool.true_or,Bool.or_true])
     ·refine bk (by omega) ?_
      refine rpG ?_
      refine cW (i:=0) aw h0 ?_
      refine bk (by omega) ?_
      refine rpG ?_
      exact ae hI (by rw [e1,eu,ea,eb,decide_eq_false h90,decide_eq_false h91,decide_eq_false (show ¬ s[0].toNat=40 by omega),Bool.and_false]; rfl)
   ·refine iO (by omega) ?_
    refine rpG ?_
    refine cW (i:=0) aw h0 ?_
    refine bk (by omega) ?_
    refine rpG ?_
    refine cW (i:=0) aw h0 ?_
    by_cases h40:s[0].toNat=40
    ·refine bA (by omega) ?_
     refine rpG ?_
     exact ae hI (by rw [e1,eb,decide_eq_true h40,Bool.or_true,Bool.or_true])
    ·refine bk (by omega) ?_
     refine rpG ?_
     exact ae hI (by rw [e1,eu,ea,eb,decide_eq_false h65,decide_eq_false (show ¬ s[0].toNat=91 by omega),decide_eq_false h40,Bool.false_and]; rfl)
  ·refine rpG ?_
   exact ae hI (by rw [e1,hd,Bool.true_or,Bool.or_true])
 ·refine rpG ?_
  exact ae hI (by rw [e1,hs,Bool.true_or])
theorem kB {n:Int} (h:0<=n/\n<=25):Pure Tryz.prog nE [.int .i64 n] S (.string (st [UInt8.ofNat (65+n.toNat)])):=by
 intro w hI
 refine fU.2 ?_
 dsimp only[fU,am]
 refine nk ga cv (IntWalk.u8_in _ (by omega)) ?_
 refine ut (c:=((65+n.toNat:Nat):Int)) ?_ ?_
 ·rw [IntWalk.u8_in _ (by omega)]; omega
 refine g8 hI fr re cv aw fun w' hI=>?_
 exact ae hI rfl
theorem o5:∀ (f n:Nat) (out r:Bs),gK f n out=some r->out.length<r.length/\r.length<=out.length+f
 | 0,_,_,_,h=>by simp [gK] at h
 | f+1,n,out,r,h=>by
  rw [gK] at h
  split at h
  ·have:=o5 f _ _ _ h
   simp only [List.length_cons] at this
   omega
  ·simp only [Option.some.injEq] at h
   subst h
   simp only [List.length_cons]
   omega
theorem dW {f n:Nat} {r:Bs} (h:gK f n []=some r) (hn:n<=100000) (hf:f<=1000):Pure Tryz.prog qe [.int .i64 (n:Int)] S (.string (st r)):=by
 intro w hI
 refine j3.2 ?_
 dsimp only[j3,am]
 refine iI (by omega) ?_
 refine ak (fun hb=>by cases hb) (fun _=>?_)
 refine iI (by omega) ?_
 refine ak (fun hb=>by cases hb) (fun _=>?_)
 refine ⟨fun a b w'=>∃ (f' m:Nat) (out:Bs),a=.int .i64 (m:Int)/\b=.string (st out)/\m<=100000/\out.length+f'<=1000/\gK f' m out=some r/\Inv w [] [] S w',fun a _ _=>(intOf a).toNat,⟨f,n,[],rfl,rfl,hn,by simpa using hf,h,hI⟩,?_⟩
 intro t0 _ _ t3 _ _ _ _ _ _ _ _ _ _ w'
 rintro ⟨f',m,out,rfl,rfl,hm,hof,hd,hI⟩
 cases f' with
 | zero=>simp [gK] at hd
 | succ g=>
 rw [gK] at hd
 split at hd
 ·rename_i h9
  refine s4 (by omega) ?_
  refine ak (fun _=>?_) (fun hb=>by cases hb)
  refine un (a:=m) (b:=10) rfl rfl (by omega) ?_
  refine qC (a:=48) (b:=m % 10) rfl rfl (by omega) ?_
  refine nk ga cv (IntWalk.u8_in _ (by omega)) ?_
  refine g8 hI fr re cv aw fun w' hI=>?_
  refine av (by simp; omega) ?_
  refine uH (a:=m) (b:=10) rfl rfl (by omega) (by omega) ?_
  refine ⟨⟨g,m / 10,UInt8.ofNat (48+m % 10)::out,rfl,rfl,by omega,by simp only [List.length_cons]; omega,hd,hI⟩,?_⟩
  simp only [intOf,Int.toNat_natCast]
  omega
 ·rename_i h9
  refine qz (by omega) ?_
  refine ak (fun hb=>by cases hb) (fun _=>?_)
  refine qC (a:=48) (b:=m) rfl rfl (by omega) ?_
  refine nk ga cv (IntWalk.u8_in _ (by omega)) ?_
  refine g8 hI fr re cv aw fun w' hI=>?_
  refine av (by simp; omega) ?_
  simp only [Option.some.injEq] at hd
  exact ae hI (by rw [<- hd]; rfl)
theorem pA {n:Int} {r:Bs} (h:l6 n=some r) (hn:-999<=n/\n<=999):Pure Tryz.prog rt [.int .i64 n] S (.string (st r)):=by
 intro w hI
 refine lr.2 ?_
 dsimp only[lr,am]
 unfold l6 at h
 split at h
 ·rename_i h0
  refine qE h0 ?_
  refine ak (fun _=>?_) (fun hb=>by cases hb)
  refine va (by omega) ?_
  obtain ⟨m,hm⟩:∃ m:Nat,-n=(m:Int):=⟨(-n).toNat,by omega⟩
  rw [hm] at h ⊢
  rw [Int.toNat_natCast,Option.map_eq_some_iff] at h
  obtain ⟨l,hl,rfl⟩:=h
  have:=o5 _ _ _ _ hl
  refine Run.callPure eL eA hI (dW hl (by omega) (by omega)) fun w' hI=>?_
  refine av (a:=[45]) (by simp only [List.length_nil,List.length_cons] at this ⊢; omega) ?_
  exact ae hI rfl
 ·rename_i h0
  refine iI h0 ?_
  refine ak (fun hb=>by cases hb) (fun _=>?_)
  obtain ⟨m,rfl⟩:∃ m:Nat,n=(m:Int):=⟨n.toNat,by omega⟩
  rw [Int.toNat_natCast] at h
  refine Run.callPure eL eA hI (dW h (by omega) (by omega)) fun w' hI=>?_
  exact ae hI rfl
theorem nP {t:T} {cs:List Value} {x:Bs} (h:RdT S cs t) (hp:be t=false) (hx:fJ t=some x):Pure Tryz.prog qg [.agg cs.toArray] S (.string (st x)):=by
 intro w hI
 have h0:=h
 obtain ⟨kv,rfl,_,_,_,hk⟩:=RdT.iff.1 h
 obtain ⟨ka,kc,rfl,_⟩:=id hk
 refine jr.2 ?_
 dsimp only[jr,am]
 unfold fJ at hx
 refine aG hI fun b1 w' hI=>?_
 refine aa hI 0 rfl aB ar rfl ?_
 split at hx
 ·rename_i h1
  refine bA h1 ?_
  refine ak (fun _=>?_) (fun hb=>by cases hb)
  refine aa hI 0 rfl aR ar rfl ?_
  split at hx
  ·rename_i h2
   refine Run.callPure lR mx hI (kB h2) fun w' hI=>?_
   simp only [Option.some.injEq] at hx
   exact ae hI (by rw [<- hx])
  ·cases hx
 ·rename_i h1
  refine bk h1 ?_
  refine ak (fun hb=>by cases hb) (fun _=>?_)
  split at hx
  ·rename_i h2
   refine bA h2 ?_
   refine ak (fun _=>?_) (fun hb=>by cases hb)
   refine aa hI 0 rfl aR ar rfl ?_
   split at hx
   ·rename_i h3
    refine Run.callPure pL qy hI (pA hx h3) fun w' hI=>?_
    exact ae hI rfl
   ·cases hx
  ·rename_i h2
   refine bk h2 ?_
   refine ak (fun hb=>by cases hb) (fun _=>?_)
   split at hx
   ·rename_i h3
    simp only [Option.some.injEq] at hx
    refine ao hI 0 ac rfl rfl ?_
    refine Run.callPure eB fc hI (cX h0) fun w' hI=>?_
    rw [hp]
    refine ak (fun hb=>by cases hb) (fun _=>?_)
    refine aa hI 0 rfl ai al rfl ?_
    refine ⟨fun a b w'=>a=.int .i64 0/\b=.string t.name/\Inv w [] [.blk b1 (.cells #[.int .i64 t.kind,.int .i64 t.n,.string t.name,.slice ka t.kids.length kc] ay)] S w',fun _ _ _=>0,⟨rfl,rfl,hI⟩,?_⟩
    intro t4 _ _ _ _ _ _ _ _ _ _ _ _ t3 _ _ _ _ _ _ _ _ _ w'
    rintro ⟨rfl,rfl,hI⟩
    refine aa hI 0 rfl af aj rfl ?_
    refine dC ag ?_
    refine iI (by omega) ?_
    refine ak (fun hb=>by cases hb) (fun _=>?_)
    refine ⟨fun b w'=>b=.string t.name/\Inv w [] [.blk b1 (.cells #[.int .i64 t.kind,.int .i64 t.n,.string t.name,.slice ka t.kids.length kc] ay)] S w',?_,?_⟩
    ·refine aa hI 0 rfl af aj rfl ?_
     refine dC ag ?_
     refine qz (by omega) ?_
     refine ak (fun hb=>by cases hb) (fun _=>?_)
     exact ⟨rfl,hI⟩
    intro t3 _ _ _ _ _ _ w'
    rintro ⟨rfl,hI⟩
    exact ae hI (by rw [<- hx])
   ·cases hx
end
theorem mJ:∀ (f:Nat) (l:List T) (out x:Bs),da f l out=some x->out.length<=x.length
 | 0,_,_,_,h=>by simp [da] at h
 | _+1,[],out,x,h=>by simp [da] at h; subst h; exact Nat.le_refl _
 | f+1,t::l,out,x,h=>by
  rw [da] at h
  split at h
  ·cases h
  ·have:=mJ f _ _ _ h
   simp only [List.length_append] at this
   omega
def tW:Value->Nat
 | .slice _ n _=>n
 | _=>0
def kV (f:Nat):Prop:=∀ (t:T) (x:Bs) (S:ab) (cs:List Value),gf f t=some x->x.length<=1000000->RdT S cs t->Pure Tryz.prog k4 [.agg cs.toArray] S (.string (st x))
def qO (f:Nat):Prop:=∀ (t:T) (x:Bs) (S:ab) (cs:List Value),gL f t []=some x->x.length<=1000000->RdT S cs t->Pure Tryz.prog ql [.agg cs.toArray] S (.string (st x))
def nu (f:Nat):Prop:=∀ (ts:List T) (x:Bs) (S:ab) (u:Value),da f ts []=some x->x.length<=1000000->RdSl S 4 (RdT S) u ts->Pure Tryz.prog qa [u] S (.string (st x))
def fj (f:Nat):Prop:=∀ (t:T) (l:Int) (x:Bs) (S:ab) (cs:List Value),cU f t l=some x->x.length<=1000000->RdT S cs t->Pure Tryz.prog lT [.agg cs.toArray,.int .i64 l] S (.string (st x))
def qs (f:Nat):Prop:=∀ (t:T) (l:Int) (x:Bs) (S:ab) (cs:List Value),mY f t l=some x->x.length<=1000000->RdT S cs t->Pure Tryz.prog pK [.agg cs.toArray,.int .i64 l] S (.string (st x))
def ob (f:Nat):Prop:=∀ (t:T) (l:Int) (x:Bs) (S:ab) (cs:List Value),iL f t l=some x->x.length<=1000000->RdT S cs t->Pure Tryz.prog oq [.agg cs.toArray,.int .i64 l] S (.string (st x))
section
attribute [local irreducible] Run CondV ah ax
theorem tD {f:Nat} (ih:∀ g,g<f->kV g):nu f:=by
 intro ts x S u h hx hu w hI
 refine jS.2 ?_
 dsimp only[jS,am]
 refine ⟨fun a b w'=>∃ (f' j:Nat) (out acc:Bs),f'<=f/\j<=ts.length/\a=.int .i64 (j:Int)/\b=.string (st out)/\acc=out++(if 0<j/\j<ts.length then [44] else [])/\da f' (ts.drop j) acc=some x/\Inv w [] [] S w',
  fun a _ _=>ts.length - (intOf a).toNat,⟨f,0,[],[],Nat.le_refl _,Nat.zero_le _,rfl,rfl,by simp,h,hI⟩,?_⟩
 intro t4 _ _ _ _ _ _ _ _ _ t3 _ _ _ _ _ _ _ _ w'
 rintro ⟨f',j,out,acc,hf',hj,rfl,rfl,hacc,ha,hI⟩
 cases f' with
 | zero=>simp [da] at ha
 | succ g=>
 refine az hu ag ?_
 refine aZ ?_
 refine aP (fun hji=>?_) (fun hji=>?_)
 ·have hj':j<ts.length:=by omega
  rw [List.drop_eq_getElem_cons hj',da] at ha
  split at ha
  ·cases ha
  rename_i y hy
  have hlen:=mJ _ _ _ _ ha
  simp only [List.length_append] at hlen
  refine ⟨fun b w'=>b=.string (st acc)/\Inv w [] [] S w',?_,?_⟩
  ·refine cA ?_
   refine aP (fun h0=>?_) (fun h0=>?_)
   ·rw [if_pos (by omega)] at hacc
    refine av (b:=[44]) (by rw [hacc,List.length_append] at hlen; simp only [List.length_cons,List.length_nil] at hlen ⊢; omega) ?_
    exact ⟨by rw [hacc],hI⟩
   ·rw [if_neg (by omega),List.append_nil] at hacc
    exact ⟨by rw [hacc],hI⟩
  intro t3 _ _ _ _ w'
  rintro ⟨rfl,hI⟩
  refine bm hI hu ag ac hj' (fun _ _=>RdT.length) fun cs hcs=>?_
  refine Run.callPure bP bN hI (ih g (by omega) _ y S cs hy (by omega) hcs) fun w' hI=>?_
  refine av (by omega) ?_
  refine br (by have:=hu.le; simp only [maxLen] at this; omega) ?_
  refine ⟨⟨g,j+1,acc++y,_,by omega,hj',rfl,rfl,rfl,?_,hI⟩,by simp only [intOf,Int.toNat_natCast]; omega⟩
  have e:(if ts.drop (j+1)=[] then [] else [44]:Bs)=if 0<j+1/\j+1<ts.length then [44] else []:=by
   by_cases h1:j+1<ts.length
   ·rw [if_neg (fun h2=>by rw [List.drop_eq_nil_iff] at h2; omega),if_pos (by omega)]
   ·rw [if_pos (List.drop_eq_nil_of_le (by omega)),if_neg (by omega)]
  rw [<- e]
  exact ha
 ·have:j=ts.length:=by omega
  subst this
  rw [List.drop_length,da] at ha
  simp only [Option.some.injEq] at ha
  rw [if_neg (by omega),List.append_nil] at hacc
  exact ae hI (by rw [<- ha,hacc])
theorem qf {f:Nat} (ih:∀ g,g<f->kV g):fj f:=by
 intro t l x S cs h hx hc w hI
 cases f with
 | zero=>simp [cU] at h
 | succ g=>
 rw [cU] at h
 split at h
 ·cases h
 rename_i y hy
 simp only [Option.some.injEq] at h
 have h0:=hc
 obtain ⟨kv,rfl,_,_,_,hk⟩:=RdT.iff.1 hc
 obtain ⟨ka,kc,rfl,_⟩:=id hk
 have hyx:y.length<=1000000/\y.length+2<=9000000:=by
  have:y.length<=x.length:=by
   rw [<- h]; split
   ·simp; omega
   ·omega
  omega
 refine eN.2 ?_
 dsimp only[eN,aC]
 refine aG hI fun b1 w' hI=>?_
 refine ⟨fun b w'=>b=.bool (aU t && decide (l<ad t.name))/\Inv w [] [.blk b1 (.cells #[.int .i64 t.kind,.int .i64 t.n,.string t.name,.slice ka t.kids.length kc] ay)] S w',?_,?_⟩
 ·refine ao hI 0 ac rfl rfl ?_
  refine Run.callPure gV im hI (eh h0) fun w' hI=>?_
  cases hf:aU t
  ·refine rpG ?_
   exact ⟨by rw [Bool.false_and],hI⟩
  ·refine rpG ?_
   refine aa hI 0 rfl ai al rfl ?_
   refine Run.callPure bX bV hI (bx _ S) fun w' hI=>?_
   refine cA ?_
   refine rpG ?_
   exact ⟨by rw [Bool.true_and],hI⟩
 intro t13 _ _ _ _ _ _ _ _ w'
 rintro ⟨rfl,hI⟩
 refine ak (fun hb=>?_) (fun hb=>?_)
 ·rw [Bool.and_eq_true,decide_eq_true_eq] at hb
  rw [if_pos hb] at h
  refine ao hI 0 ac rfl rfl ?_
  refine Run.callPure bP bN hI (ih g (by omega) t y S _ hy hyx.1 h0) fun w' hI=>?_
  refine av (a:=[40]) (by simp only [List.length_cons,List.length_nil]; omega) ?_
  refine av (b:=[41]) (by simp only [List.length_append,List.length_cons,List.length_nil]; omega) ?_
  exact ae hI (by rw [<- h])
 ·rw [if_neg (fun hh=>by rw [Bool.and_eq_false_iff,decide_eq_false_iff_not] at hb; rcases hb with hb|hb; rw [hh.1] at hb; cases hb; exact hb hh.2)] at h
  refine ao hI 0 ac rfl rfl ?_
  refine Run.callPure bP bN hI (ih g (by omega) t y S _ hy hyx.1 h0) fun w' hI=>?_
  exact ae hI (by rw [<- h])
theorem tt {f:Nat} (ih:∀ g,g<f->kV g) (ihB:∀ g,g<f->fj g):qs f:=by
 intro t l x S cs h hx hc w hI
 cases f with
 | zero=>simp [mY] at h
 | succ g=>
 rw [mY] at h
 have h0:=hc
 obtain ⟨kv,rfl,_,_,_,hk⟩:=RdT.iff.1 hc
 obtain ⟨ka,kc,rfl,_⟩:=id hk
 refine jI.2 ?_
 dsimp only[jI,aC]
 refine aG hI fun b1 w' hI=>?_
 refine ao hI 0 ac rfl rfl ?_
 refine Run.callPure j6 jY hI (eU h0) fun w' hI=>?_
 split at h
 ·rename_i hs
  split at h
  ·cases h
  rename_i y hy
  simp only [Option.some.injEq] at h
  have hyx:y.length+2=x.length:=by rw [<- h]; simp only [List.length_append,List.length_cons,List.length_nil]; omega
  rw [hs]
  refine ak (fun _=>?_) (fun hb=>by cases hb)
  refine ao hI 0 ac rfl rfl ?_
  refine Run.callPure bP bN hI (ih g (by omega) t y S _ hy (by omega) h0) fun w' hI=>?_
  refine av (a:=[40]) (by simp only [List.length_cons,List.length_nil]; omega) ?_
  refine av (b:=[41]) (by simp only [List.length_append,List.length_cons,List.length_nil]; omega) ?_
  exact ae hI (by rw [<- h])
 ·rename_i hs
  rw [Bool.eq_false_iff.2 hs]
  refine ak (fun hb=>by cases hb) (fun _=>?_)
  refine ao hI 0 ac rfl rfl ?_
  refine Run.callPure eV eW hI (ihB g (by omega) t l x S _ h hx h0) fun w' hI=>?_
  exact ae hI rfl
theorem sB {f:Nat} (ihB:∀ g,g<f->fj g):ob f:=by
 intro t l x S cs h hx hc w hI
 cases f with
 | zero=>simp [iL] at h
 | succ g=>
 rw [iL] at h
 split at h
 ·cases h
 rename_i y hy
 split at h
 ·cases h
 rename_i hne
 simp only [Option.some.injEq] at h
 have hy0:0<y.length:=by
  cases y with
  | nil=>exact absurd rfl hne
  | cons a l=>simp
 have hyx:y.length<=1000000:=by
  have:y.length<=x.length:=by
   rw [<- h]; split
   ·simp; omega
   ·omega
  omega
 have h0:=hc
 obtain ⟨kv,rfl,_,_,_,hk⟩:=RdT.iff.1 hc
 obtain ⟨ka,kc,rfl,_⟩:=id hk
 refine gB.2 ?_
 dsimp only[gB,aC]
 refine aG hI fun b1 w' hI=>?_
 refine ao hI 0 ac rfl rfl ?_
 refine Run.callPure eV eW hI (ihB g (by omega) t l y S _ hy hyx h0) fun w' hI=>?_
 refine ⟨fun b w'=>b=.bool (cI t || !dY y)/\Inv w [] [.blk b1 (.cells #[.int .i64 t.kind,.int .i64 t.n,.string t.name,.slice ka t.kids.length kc] ay)] S w',?_,?_⟩
 ·refine ao hI 0 ac rfl rfl ?_
  refine Run.callPure j6 jY hI (eU h0) fun w' hI=>?_
  cases hs:cI t
  ·refine rpG ?_
   refine Run.callPure nQ nj hI (mb y hy0) fun w' hI=>?_
   refine bv ?_
   refine rpG ?_
   exact ⟨by rw [Bool.false_or],hI⟩
  ·refine rpG ?_
   exact ⟨by rw [Bool.true_or],hI⟩
 intro t15 _ _ _ _ _ _ w'
 rintro ⟨rfl,hI⟩
 refine ak (fun hb=>?_) (fun hb=>?_)
 ·rw [Bool.or_eq_true,Bool.not_eq_true'] at hb
  rw [if_pos hb] at h
  refine av (a:=[40]) (by simp only [List.length_cons,List.length_nil]; omega) ?_
  refine av (b:=[41]) (by simp only [List.length_append,List.length_cons,List.length_nil]; omega) ?_
  exact ae hI (by rw [<- h])
 ·rw [if_neg (fun hh=>by rw [<- Bool.not_eq_true',<- Bool.or_eq_true,hb] at hh; cases hh)] at h
  exact ae hI (by rw [<- h])
theorem tA {f:Nat} (hf:f<=100000) (ih:∀ g,g<f->kV g) (ihA:∀ g,g<f->nu g):qO f:=by
 intro t x S cs h hx hc w hI
 obtain ⟨kv,rfl,_,_,_,hk⟩:=RdT.iff.1 hc
 refine jw.2 ?_
 dsimp only[jw,am]
 refine aG hI fun b1 w' hI=>?_
 refine s5 hI jf fun v0 w' hI=>?_
 refine ⟨fun a w'=>∃ (f':Nat) (t':T) (items:List T) (ds:List Value) (css:List (List Value)),f'+items.length=f/\gL f' t' items=some x/\RdT S ds t'/\Rows 4 (RdT S) css items/\(∃ p m,a=.slice p items.length m)/\Inv w [] [.blk b1 (.cells ds.toArray ay),iH a ay 4 css] S w',
  fun a _=>f+1 - tW a,⟨f,t,[],_,[],by simp,h,hc,Rows.nil _ _,?_,hI⟩,?_⟩
 ·have hI2:Inv w [] ([Item.blk b1 (.cells #[.int .i64 t.kind,.int .i64 t.n,.string t.name,kv] ay)]++[iH v0 ay 4 []]) S w':=hI
  obtain ⟨S1,_,hrd,_⟩:=Inv.lendExt hI2
  obtain ⟨p,m,e,_⟩:=RowRd.rows (Rows.nil 4 (RdT S)) hrd
  exact ⟨p,m,e⟩
 clear h hc hk hI
 intro _ _ _ _ t3 _ _ _ _ _ _ _ _ _ w'
 rintro ⟨f',t',items,ds,css,hfl,hl,hd,hR,⟨p,m,rfl⟩,hI⟩
 have hd0:=hd
 obtain ⟨kd,rfl,_,_,_,hk⟩:=RdT.iff.1 hd
 have hcl:=hR.hc
 cases f' with
 | zero=>simp [gL] at hl
 | succ g=>
 rw [gL] at hl
 refine ao hI 0 ac rfl rfl ?_
 refine Run.callPure eB fc hI (cX hd0) fun w' hI=>?_
 split at hl
 ·rename_i hp
  split at hl
  ·rename_i a b hab
   rw [hp]
   refine ak (fun _=>?_) (fun hb=>by cases hb)
   rw [hab] at hk
   refine aa hI 0 rfl af aj rfl ?_
   refine bm (i:=0) hI hk ag ac (by simp) (fun _ _=>RdT.length) fun es hes=>?_
   rw [List.getElem_cons_zero] at hes
   refine rr (css:=css) hI 1 es jf (by omega) (by omega) rfl hes.length hes.one (by omega) (by omega) fun v' w' hI=>?_
   refine aa hI 0 rfl af aj rfl ?_
   refine bm (i:=1) hI hk ag ac (by simp) (fun _ _=>RdT.length) fun gs hgs=>?_
   rw [List.getElem_cons_succ,List.getElem_cons_zero] at hgs
   have hg1:=hgs.length
   refine cB hI 0 rfl ac (by simpa using hg1) rfl (by simpa using hgs.one) fun w' hI=>?_
   have hR2:=hR.snoc hes hes.length
   have hI2:Inv w [] ([Item.blk b1 (.cells gs.toArray ay)]++[iH v' ay 4 (css++[es])]) S w':=hI
   obtain ⟨S1,hE1,hrd,_⟩:=Inv.lendExt hI2
   obtain ⟨p',m',e',_⟩:=RowRd.rows hR2 hrd
   refine ⟨⟨g,b,items++[a],gs,css++[es],by rw [List.length_append]; simp only [List.length_cons,List.length_nil]; omega,hl,hgs,hR2,⟨p',m',e'⟩,hI⟩,?_⟩
   rw [e']
   simp only [tW,List.length_append,List.length_cons,List.length_nil]
   omega
  ·cases hl
 ·rename_i hp
  rw [Bool.eq_false_iff.2 hp]
  refine ak (fun hb=>by cases hb) (fun _=>?_)
  split at hl
  ·cases hl
  rename_i y hy
  refine ao hI 0 ac rfl rfl ?_
  refine Run.callPure qL qB hI (mw hd0) fun w' hI=>?_
  have hI2:Inv w [] ([Item.blk b1 (.cells #[.int .i64 t'.kind,.int .i64 t'.n,.string t'.name,kd] ay)]++[iH (.slice p items.length m) ay 4 css]) S w':=hI
  obtain ⟨S1,hE1,hrd,hI⟩:=Inv.lendExt hI2
  have hrs:=RowRd.rows (hR.monoR fun _ _ h=>RdT.mono hE1.1 h) hrd
  have hd1:=RdT.mono hE1.1 hd0
  split at hl
  ·rename_i hn
   simp only [Option.some.injEq] at hl
   have hyx:y.length+2=x.length:=by rw [<- hl]; simp only [List.length_append,List.length_cons,List.length_nil]; omega
   rw [hn]
   refine ak (fun _=>?_) (fun hb=>by cases hb)
   refine Run.callPure eC eJ hI (ihA g (by omega) items y S1 _ hy (by omega) hrs) fun w' hI=>?_
   refine av (a:=[91]) (by simp only [List.length_cons,List.length_nil]; omega) ?_
   refine av (b:=[93]) (by simp only [List.length_append,List.length_cons,List.length_nil]; omega) ?_
   exact oX hI hE1.1 (by rw [<- hl])
  ·rename_i hn
   split at hl
   ·cases hl
   rename_i z hz
   simp only [Option.some.injEq] at hl
   have hyx:y.length+z.length+3=x.length:=by rw [<- hl]; simp only [List.length_append,List.length_cons,List.length_nil]; omega
   rw [Bool.eq_false_iff.2 hn]
   refine ak (fun hb=>by cases hb) (fun _=>?_)
   refine ⟨fun D x2 ue uk tY ug tX pt oJ ri w_=>Fx D 0 [ri=.slice p items.length m,oJ=.string (st y),pt=.string (st ([91]++y)),tX=.string (st ([91]++y++[124])),ug=.agg #[.int .i64 t'.kind,.int .i64 t'.n,.string t'.name,kd],tY=.string (st z),uk=.string (st ([91]++y++[124]++z)),ue=.string (st ([91]++y++[124]++z++[93])),x2=.string (st ([91]++y++[124]++z++[93]))]/\Inv w [] [.blk b1 (.cells #[.int .i64 t'.kind,.int .i64 t'.n,.string t'.name,kd] ay)] S1 w_,⟨Fx.nil _ _,hI.draw⟩,⟨?_,?_,?_,?_,?_,?_,?_,?_,?_,trivial⟩,?_⟩
   all_goals (intro D uz; intros; rename_i x2 ue uk tY ug tX pt oJ ri w_ hA_; have hF_:=hA_.1; obtain ⟨⟨kA,kL,k0,lK,lP,mI,mS,nI,qo,_⟩,hI⟩:=hA_)
   ·exact ⟨hF_.set 0 rfl,hI⟩
   ·obtain rfl:=kA ‹_›
    refine Run.callPure eC eJ hI (ihA g (by omega) items y S1 _ hy (by omega) hrs) fun w_ hI=>?_
    exact ⟨hF_.set 1 rfl,hI⟩
   ·obtain rfl:=kL ‹_›
    refine av (a:=[91]) (by simp only [List.length_cons,List.length_nil]; omega) ?_
    exact ⟨hF_.set 2 rfl,hI⟩
   ·obtain rfl:=k0 ‹_›
    refine av (b:=[124]) (by simp only [List.length_append,List.length_cons,List.length_nil]; omega) ?_
    exact ⟨hF_.set 3 rfl,hI⟩
   ·refine ao hI 0 ac rfl rfl ?_
    exact ⟨hF_.set 4 rfl,hI⟩
   ·obtain rfl:=lP ‹_›
    refine Run.callPure bP bN hI (ih g (by omega) t' z S1 _ hz (by omega) hd1) fun w_ hI=>?_
    exact ⟨hF_.set 5 rfl,hI⟩
   ·obtain rfl:=lK ‹_›
    obtain rfl:=mI ‹_›
    refine av (by simp only [List.length_append,List.length_cons,List.length_nil]; omega) ?_
    exact ⟨hF_.set 6 rfl,hI⟩
   ·obtain rfl:=mS ‹_›
    refine av (b:=[93]) (by simp only [List.length_append,List.length_cons,List.length_nil]; omega) ?_
    exact ⟨hF_.set 7 rfl,hI⟩
   ·obtain rfl:=nI ‹_›
    exact ⟨hF_.set 8 rfl,hI⟩
   obtain ⟨rfl,rfl,rfl,rfl,rfl,rfl,rfl,rfl,rfl,_⟩:=hF_.all
   clear hF_ kA kL k0 lK lP mI mS nI qo
   exact oX hI hE1.1 (by rw [<- hl])
theorem uK {f:Nat} (ihL:∀ g,g<f->qO g) (ihA:∀ g,g<f->nu g) (ihF:∀ g,g<f->qs g) (ihR:∀ g,g<f->ob g):kV f:=by
 intro t x S cs h hx hc w hI
 cases f with
 | zero=>simp [gf] at h
 | succ g=>
 rw [gf] at h
 have h0:=hc
 obtain ⟨kv,rfl,_,_,_,hk⟩:=RdT.iff.1 hc
 refine jH.2 ?_
 dsimp only[jH,am]
 refine aG hI fun b1 w' hI=>?_
 obtain ⟨B1,hB1⟩:∃ B1,B1=Item.blk b1 (.cells #[.int .i64 t.kind,.int .i64 t.n,.string t.name,kv] ay):=⟨_,rfl⟩
 refine ao hI 0 ac rfl rfl ?_
 refine Run.callPure eB fc hI (cX h0) fun w' hI=>?_
 split at h
 ·rename_i hp
  rw [hp]
  refine ak (fun _=>?_) (fun hb=>by cases hb)
  refine ao hI 0 ac rfl rfl ?_
  refine Run.callPure oK oi hI (ihL g (by omega) t x S _ h hx h0) fun w' hI=>?_
  exact ae hI rfl
 rename_i hp
 have hp:=Bool.eq_false_iff.2 hp
 rw [hp]
 refine ak (fun hb=>by cases hb) (fun _=>?_)
 refine ao hI 0 ac rfl rfl ?_
 refine Run.callPure gV im hI (eh h0) fun w' hI=>?_
 split at h
 ·rename_i hf
  rw [hf]
  refine ak (fun _=>?_) (fun hb=>by cases hb)
  split at h
  ·rename_i a b hab
   obtain ⟨lv,hlv⟩:∃ lv,lv=ad t.name:=⟨_,rfl⟩
   rw [<- hlv] at h
   have hlr:1<=lv/\lv<=3:=by
    have h1:0<ad t.name:=by
     unfold aU at hf
     simp only [Bool.and_eq_true,decide_eq_true_eq] at hf
     exact hf.2.2
    have h2:ad t.name<=3:=by
     unfold ad
     split
     ·omega
     ·split
      ·omega
      ·split <;> omega
    omega
   split at h
   ·rename_i y z hy hz
    simp only [Option.some.injEq] at h
    have hlen:y.length+(aV (bs t.name)).length+z.length=x.length:=by rw [<- h]; simp only [List.length_append]
    have hsp:(bs t.name).length<=(aV (bs t.name)).length:=by
     unfold aV
     split
     ·simp; omega
     ·omega
    rw [hab] at hk
    obtain ⟨b2,o2,cap2,c2,E2,fz2,rfl,hS,hRa⟩:=hk.at_ (i:=0) (by simp)
    obtain ⟨b2',o2',cap2',c2',E2',fz2',hsl,hS',hRb⟩:=hk.at_ (i:=1) (by simp)
    cases hsl
    rw [hS] at hS'
    cases hS'
    rw [List.getElem_cons_zero] at hRa
    rw [List.getElem_cons_succ,List.getElem_cons_zero] at hRb
    refine aa hI 0 rfl ai al rfl ?_
    refine Run.callPure bX bV hI (bx _ S) fun w' hI=>?_
    rw [<- hlv]
    have hI:Inv w [] [B1] S w':=by rw [hB1]; exact hI
    refine ⟨fun v w'=>v=.int .i64 (if lv=3 then 2 else lv)/\Inv w [] [B1] S w',?_,?_⟩
    ·refine a6 ?_
     refine aP (fun h3=>⟨by rw [if_pos h3],hI⟩) (fun h3=>⟨by rw [if_neg h3],hI⟩)
    intro t4 _ _ w'
    rintro ⟨rfl,hI⟩
    subst hB1
    skip
    refine ⟨fun D x2 uM uR uV uU uO ue uk tY ug tX pt oJ ri sq sY tZ uf ud w_=>Fx D 0 [ud=.pointer (some ⟨b1,3,none⟩),uf=.slice (some ⟨b2,o2,none⟩) [a,b].length cap2,tZ=.pointer (some ⟨b2,o2+0 * 4,none⟩),sY=.agg (aF c2 (o2+0 * 4) 4).toArray,sq=.int .i64 (if lv=3 then 2 else lv),ri=.string (st y),oJ=.pointer (some ⟨b1,2,none⟩),pt=.string t.name,tX=.string (st (aV (bs t.name))),ug=.string (st (y++aV (bs t.name))),tY=.pointer (some ⟨b1,3,none⟩),uk=.slice (some ⟨b2,o2,none⟩) [a,b].length cap2,ue=.pointer (some ⟨b2,o2+1 * 4,none⟩),uO=.agg (aF c2 (o2+1 * 4) 4).toArray,uU=.int .i64 lv,uV=.int .i64 (lv - 1),uR=.string (st z),uM=.string (st (y++aV (bs t.name)++z)),x2=.string (st (y++aV (bs t.name)++z))]/\Inv w [] [.blk b1 (.cells #[.int .i64 t.kind,.int .i64 t.n,.string t.name,.slice (some ⟨b2,o2,none⟩) [a,b].length cap2] ay)] S w_,⟨Fx.nil _ _,hI.draw⟩,⟨?_,?_,?_,?_,?_,?_,?_,?_,?_,?_,?_,?_,?_,?_,?_,?_,?_,?_,?_,trivial⟩,?_⟩
    all_goals (intro D uz; intros; rename_i x2 uM uR uV uU uO ue uk tY ug tX pt oJ ri sq sY tZ uf ud w_ hA_; have hF_:=hA_.1; obtain ⟨⟨kA,kL,k0,lK,lP,mI,mS,nI,qo,tR,td,sk,sM,sL,si,rU,sw,ta,th,_⟩,hI⟩:=hA_)
    ·refine a8 af ?_
     exact ⟨hF_.set 0 rfl,hI⟩
    ·obtain rfl:=kA ‹_›
     refine aQ hI 0 aj rfl rfl ?_
     exact ⟨hF_.set 1 rfl,hI⟩
    ·obtain rfl:=kL ‹_›
     refine bd (i:=0) ag (by simp) ?_
     exact ⟨hF_.set 2 rfl,hI⟩
    ·obtain rfl:=k0 ‹_›
     refine cj ac hRa.length (fun j v hj=>by rw [hI.cellS hS]; exact bb rfl j v hj) ?_
     exact ⟨hF_.set 3 rfl,hI⟩
    ·exact ⟨hF_.set 4 rfl,hI⟩
    ·obtain rfl:=lK ‹_›
     obtain rfl:=lP ‹_›
     refine Run.callPure ol oZ hI (ihF g (by omega) a _ y S _ hy (by omega) hRa) fun w_ hI=>?_
     exact ⟨hF_.set 5 rfl,hI⟩
    ·refine a8 ai ?_
     exact ⟨hF_.set 6 rfl,hI⟩
    ·obtain rfl:=mS ‹_›
     refine aQ hI 0 al rfl rfl ?_
     exact ⟨hF_.set 7 rfl,hI⟩
    ·obtain rfl:=nI ‹_›
     refine Run.callPure my md hI (lL (bs t.name) (by omega)) fun w_ hI=>?_
     exact ⟨hF_.set 8 rfl,hI⟩
    ·obtain rfl:=mI ‹_›
     obtain rfl:=qo ‹_›
     refine av (by omega) ?_
     exact ⟨hF_.set 9 rfl,hI⟩
    ·refine a8 af ?_
     exact ⟨hF_.set 10 rfl,hI⟩
    ·obtain rfl:=td ‹_›
     refine aQ hI 0 aj rfl rfl ?_
     exact ⟨hF_.set 11 rfl,hI⟩
    ·obtain rfl:=sk ‹_›
     refine bd (i:=1) ag (by simp) ?_
     exact ⟨hF_.set 12 rfl,hI⟩
    ·obtain rfl:=sM ‹_›
     refine cj ac hRb.length (fun j v hj=>by rw [hI.cellS hS]; exact bb rfl j v hj) ?_
     exact ⟨hF_.set 13 rfl,hI⟩
    ·exact ⟨hF_.set 14 rfl,hI⟩
    ·obtain rfl:=si ‹_›
     refine fG (by omega) ?_
     exact ⟨hF_.set 15 rfl,hI⟩
    ·obtain rfl:=sL ‹_›
     obtain rfl:=rU ‹_›
     refine Run.callPure ns ny hI (ihR g (by omega) b _ z S _ hz (by omega) hRb) fun w_ hI=>?_
     exact ⟨hF_.set 16 rfl,hI⟩
    ·obtain rfl:=tR ‹_›
     obtain rfl:=sw ‹_›
     refine av (by rw [List.length_append]; omega) ?_
     exact ⟨hF_.set 17 rfl,hI⟩
    ·obtain rfl:=ta ‹_›
     exact ⟨hF_.set 18 rfl,hI⟩
    obtain ⟨rfl,rfl,rfl,rfl,rfl,rfl,rfl,rfl,rfl,rfl,rfl,rfl,rfl,rfl,rfl,rfl,rfl,rfl,rfl,_⟩:=hF_.all
    clear hF_ kA kL k0 lK lP mI mS nI qo tR td sk sM sL si rU sw ta th
    exact ae hI (by rw [<- h])
   ·cases h
  ·cases h
 ·rename_i hf
  rw [Bool.eq_false_iff.2 hf]
  refine ak (fun hb=>by cases hb) (fun _=>?_)
  obtain ⟨ka,kc,rfl,_⟩:=id hk
  refine ⟨fun v w'=>v=.bool (decide (t.kind=3) && decide (0<t.kids.length))/\Inv w [] [B1] S w',?_,?_⟩
  ·refine aa hI 0 rfl aB ar rfl ?_
   by_cases h3:t.kind=3
   ·refine bA h3 ?_
    refine rpG ?_
    refine aa hI 0 rfl af aj rfl ?_
    refine dC ag ?_
    refine cA ?_
    refine rpG ?_
    refine ⟨?_,by rw [hB1]; exact hI⟩
    rw [decide_eq_true h3,Bool.true_and]
    congr 1
    rw [decide_eq_decide]
    omega
   ·refine bk h3 ?_
    refine rpG ?_
    exact ⟨by rw [decide_eq_false h3,Bool.false_and],by rw [hB1]; exact hI⟩
  intro t37 _ _ _ _ _ _ _ _ _ w'
  rintro ⟨rfl,hI⟩
  subst hB1
  split at h
  ·rename_i hc3
   rw [decide_eq_true hc3.1,decide_eq_true hc3.2]
   refine ak (fun _=>?_) (fun hb=>by cases hb)
   split at h
   ·rename_i y hy
    simp only [Option.some.injEq] at h
    have hlen:(bs t.name).length+y.length+2=x.length:=by rw [<- h]; simp only [List.length_append,List.length_cons,List.length_nil]; omega
    skip
    refine ⟨fun D x2 vz vh vD vp vu vk vg vC w_=>Fx D 0 [vC=.pointer (some ⟨b1,2,none⟩),vg=.string t.name,vk=.string (st (bs t.name++[40])),vu=.pointer (some ⟨b1,3,none⟩),vp=.slice ka t.kids.length kc,vD=.string (st y),vh=.string (st (bs t.name++[40]++y)),vz=.string (st (bs t.name++[40]++y++[41])),x2=.string (st (bs t.name++[40]++y++[41]))]/\Inv w [] [.blk b1 (.cells #[.int .i64 t.kind,.int .i64 t.n,.string t.name,.slice ka t.kids.length kc] ay)] S w_,⟨Fx.nil _ _,hI.draw⟩,⟨?_,?_,?_,?_,?_,?_,?_,?_,?_,trivial⟩,?_⟩
    all_goals (intro D uz; intros; rename_i x2 vz vh vD vp vu vk vg vC w_ hA_; have hF_:=hA_.1; obtain ⟨⟨kA,kL,k0,lK,lP,mI,mS,nI,qo,_⟩,hI⟩:=hA_)
    ·refine a8 ai ?_
     exact ⟨hF_.set 0 rfl,hI⟩
    ·obtain rfl:=kA ‹_›
     refine aQ hI 0 al rfl rfl ?_
     exact ⟨hF_.set 1 rfl,hI⟩
    ·obtain rfl:=kL ‹_›
     refine av (a:=bs t.name) (b:=[40]) (by simp only [List.length_cons,List.length_nil]; omega) ?_
     exact ⟨hF_.set 2 rfl,hI⟩
    ·refine a8 af ?_
     exact ⟨hF_.set 3 rfl,hI⟩
    ·obtain rfl:=lK ‹_›
     refine aQ hI 0 aj rfl rfl ?_
     exact ⟨hF_.set 4 rfl,hI⟩
    ·obtain rfl:=lP ‹_›
     refine Run.callPure eC eJ hI (ihA g (by omega) t.kids y S _ hy (by omega) hk) fun w_ hI=>?_
     exact ⟨hF_.set 5 rfl,hI⟩
    ·obtain rfl:=k0 ‹_›
     obtain rfl:=mI ‹_›
     refine av (by simp only [List.length_append,List.length_cons,List.length_nil]; omega) ?_
     exact ⟨hF_.set 6 rfl,hI⟩
    ·obtain rfl:=mS ‹_›
     refine av (b:=[41]) (by simp only [List.length_append,List.length_cons,List.length_nil]; omega) ?_
     exact ⟨hF_.set 7 rfl,hI⟩
    ·obtain rfl:=nI ‹_›
     exact ⟨hF_.set 8 rfl,hI⟩
    obtain ⟨rfl,rfl,rfl,rfl,rfl,rfl,rfl,rfl,rfl,_⟩:=hF_.all
    clear hF_ kA kL k0 lK lP mI mS nI qo
    exact ae hI (by rw [<- h])
   ·cases h
  ·rename_i hc3
   have e:(decide (t.kind=3) && decide (0<t.kids.length))=false:=by
    rw [Bool.eq_false_iff,ne_eq,Bool.and_eq_true,decide_eq_true_eq,decide_eq_true_eq]; exact hc3
   rw [e]
   refine ak (fun hb=>by cases hb) (fun _=>?_)
   refine ao hI 0 ac rfl rfl ?_
   refine Run.callPure pl pa hI (nP h0 hp h) fun w' hI=>?_
   exact ae hI rfl
theorem q7:∀ F f,f<F->F<=1000->kV f/\qO f/\nu f/\fj f/\qs f/\ob f
 | 0,f,h,_=>by omega
 | F+1,f,h,hF=>by
  have ih:=fun g (hg:g<f)=>q7 F g (by omega) (by omega)
  have hT:kV f:=uK (fun g hg=>(ih g hg).2.1) (fun g hg=>(ih g hg).2.2.1) (fun g hg=>(ih g hg).2.2.2.2.1) (fun g hg=>(ih g hg).2.2.2.2.2)
  exact ⟨hT,tA (by omega) (fun g hg=>(ih g hg).1) (fun g hg=>(ih g hg).2.2.1),tD fun g hg=>(ih g hg).1,qf fun g hg=>(ih g hg).1,tt (fun g hg=>(ih g hg).1) (fun g hg=>(ih g hg).2.2.2.1),sB fun g hg=>(ih g hg).2.2.2.1⟩
end
end
section
open Go Go.RowKit
def qF (c:Nat):Bool:=decide ((97<=c/\c<=122) ∨ (65<=c/\c<=90) ∨ (48<=c/\c<=57) ∨ c=91 ∨ c=40)
theorem rX {s:Bs} (h:0<s.length):dY s=qF s[0].toNat:=by
 cases s with
 | nil=>simp at h
 | cons c l=>
  unfold dY sml dig upp btw sgn qF
  simp only [List.getElem?_cons_zero,List.getElem_cons_zero]
  rw [Bool.eq_iff_iff]
  simp only [Bool.or_eq_true,Bool.and_eq_true,decide_eq_true_eq]
  omega
def opx (t:T) (y:Bs) (m:Int) (r:Bool):Bs:=if m<(if t.kids.length=2 then ad t.name else 0) ∨ cI t=true ∨ (r=true/\dY y=false) then iZ y else y
theorem ry {t:T} (h:bn t=true):aU t=true↔t.kids.length=2/\0<ad t.name:=by
 simp only [aU,Bool.and_eq_true,decide_eq_true_eq]
 refine ⟨fun h1=>h1.2,fun h1=>⟨?_,h1⟩⟩
 rcases ce h with h2|h2|h2
 ·rw [h2.2.2] at h1; simp at h1
 ·rw [h2.2.2] at h1; simp at h1
 ·exact h2.1
theorem kt {t:T} {m:Int} (h:bn t=true) (hm:0<=m):(m<if t.kids.length=2 then ad t.name else 0)↔(aU t=true/\m<ad t.name):=by
 rw [ry h]
 split
 ·rename_i h2
  exact ⟨fun h1=>⟨⟨h2,by omega⟩,h1⟩,fun h1=>h1.2⟩
 ·rename_i h2
  exact ⟨fun h1=>by omega,fun h1=>absurd h1.1.1 h2⟩
theorem s6 {t:T} {y:Bs} {m:Int} (h:bn t=true) (hm:0<=m):opx t y m false=lfx t y m:=by
 unfold opx lfx
 by_cases h1:cI t=true
 ·rw [if_pos (.inr (.inl h1)),if_pos h1]
 ·rw [if_neg h1]
  by_cases h2:aU t=true/\m<ad t.name
  ·rw [if_pos h2,if_pos (.inl ((kt h hm).2 h2))]
  ·rw [if_neg h2,if_neg]
   rintro (h3|h3|h3)
   ·exact h2 ((kt h hm).1 h3)
   ·exact h1 h3
   ·cases h3.1
theorem rB {t:T} {y:Bs} {m:Int} (h:bn t=true) (hm:0<=m):opx t y m true=rtx t y m:=by
 unfold opx rtx brx
 by_cases h2:aU t=true/\m<ad t.name
 ·rw [if_pos h2,if_pos (.inl ((kt h hm).2 h2)),if_neg]
  rintro (h3|h3)
  ·simp only [cI,aU,Bool.and_eq_true,decide_eq_true_eq] at h3 h2
   omega
  ·cases h3
 ·rw [if_neg h2]
  have h3:¬ (m<if t.kids.length=2 then ad t.name else 0):=fun h3=>h2 ((kt h hm).1 h3)
  by_cases h4:cI t=true ∨ dY y=false
  ·rw [if_pos h4,if_pos]
   exact .inr (h4.imp id fun h5=>⟨rfl,h5⟩)
  ·rw [if_neg h4,if_neg]
   rintro (h5|h5|h5)
   ·exact h3 h5
   ·exact h4 (.inl h5)
   ·exact h4 (.inr h5.2)
def opsB:List ByteArray:=kF++(oM++jV)
theorem ru {s:ByteArray} (h:0<ad s):s∈opsB:=by
 unfold ad at h
 have hm:∀ {l:List ByteArray},bt s l=true->s∈l:=fun {l} hl=>by
  simp only [bt,List.any_eq_true,decide_eq_true_eq] at hl
  obtain ⟨x,hx,rfl⟩:=hl
  exact hx
 unfold opsB
 split at h
 ·rename_i h1; exact List.mem_append_left _ (hm h1)
 ·split at h
  ·rename_i h1; exact List.mem_append_right _ (List.mem_append_left _ (hm h1))
  ·split at h
   ·rename_i h1; exact List.mem_append_right _ (List.mem_append_right _ (hm h1))
   ·omega
theorem mG {s:ByteArray} (h:0<ad s):aV (bs s)=(if cH s=true then 32::(bs s++[32]) else bs s)/\s.size<=3/\(ad s=1 ∨ ad s=2 ∨ ad s=3):=by
 have hall:opsB.all (fun s=>decide (aV (bs s)=(if cH s=true then 32::(bs s++[32]) else bs s)) && (decide (s.size<=3) && decide (ad s=1 ∨ ad s=2 ∨ ad s=3)))=true:=by decide +kernel
 have:=List.all_eq_true.1 hall s (ru h)
 simp only [Bool.and_eq_true,decide_eq_true_eq] at this
 exact this
section
variable {S:ab}
attribute [local irreducible] Run CondV ah ax
theorem l8 {c:Nat}:Pure Tryz.prog jC [.int .u8 (c:Int)] S (.bool (decide (48<=c/\c<=57))):=by
 intro w hI
 refine gv.2 ?_
 dsimp only[gv,am]
 by_cases h1:48<=c
 ·refine eY (by omega) ?_
  refine rpG ?_
  refine c7 ?_
  refine rpG ?_
  exact ae hI (by congr 1; rw [decide_eq_decide]; omega)
 ·refine iO (by omega) ?_
  refine rpG ?_
  exact ae hI (by rw [decide_eq_false (by omega)])
theorem fZ {c:Nat} {b:Bool} (h:decide (48<=c/\c<=57)=b):Pure Tryz.prog jC [.int .u8 (c:Int)] S (.bool b):=h ▸ l8
theorem gy {t:T} {cs:List Value} (h:RdT S cs t):Pure Tryz.prog pT [.agg cs.toArray] S (.bool (be t)):=by
 intro w hI
 obtain ⟨kv,rfl,_,_,_,hk⟩:=RdT.iff.1 h
 obtain ⟨ka,kc,rfl,_⟩:=id hk
 refine jm.2 ?_
 dsimp only[jm,am]
 refine aG hI fun b1 w' hI=>?_
 refine aa hI 0 rfl aB ar rfl ?_
 by_cases h3:t.kind=3
 ·refine bA h3 ?_
  refine rpG ?_
  refine aa hI 0 rfl ai al rfl ?_
  refine aJ (b:=st [46]) ?_
  cases hn:decide (t.name=st [46])
  ·refine rpG ?_
   exact ae hI (by rw [be,hn,Bool.false_and,Bool.and_false])
  ·refine rpG ?_
   refine aa hI 0 rfl af aj rfl ?_
   refine dC ag ?_
   refine a6 ?_
   refine rpG ?_
   refine ae hI ?_
   rw [be,hn,decide_eq_true h3,Bool.true_and,Bool.true_and]
   congr 1
   rw [decide_eq_decide]
   omega
 ·refine bk h3 ?_
  refine rpG ?_
  exact ae hI (by rw [be,decide_eq_false h3,Bool.false_and])
theorem oB {t:T} {cs:List Value} (h:RdT S cs t):Pure Tryz.prog rS [.agg cs.toArray] S (.bool (il t)):=by
 intro w hI
 have h0:=h
 obtain ⟨kv,rfl,_,_,_,hk⟩:=RdT.iff.1 h
 obtain ⟨ka,kc,rfl,_⟩:=id hk
 refine ln.2 ?_
 dsimp only[ln,am]
 refine aG hI fun b1 w' hI=>?_
 refine ao hI 0 ac rfl rfl ?_
 refine Run.callPure eO ez hI (d4 h0) fun w' hI=>?_
 have e:il t=(io t && decide (t.name=st [91,93])):=by
  rw [il,io,Bool.and_assoc,Bool.and_comm (decide (t.kids.length=0))]
 rw [e]
 cases ha:io t
 ·refine rpG ?_
  exact ae hI rfl
 ·refine rpG ?_
  refine aa hI 0 rfl ai al rfl ?_
  refine aJ (b:=st [91,93]) ?_
  refine rpG ?_
  exact ae hI rfl
theorem nM {n:Int} (h:0<=n/\n<=25):Pure Tryz.prog qj [.int .i64 n] S (.string (st [UInt8.ofNat (65+n.toNat)])):=by
 intro w hI
 refine j1.2 ?_
 dsimp only[j1,am]
 obtain ⟨m,rfl⟩:∃ m:Nat,n=(m:Int):=⟨n.toNat,by omega⟩
 rw [Int.toNat_natCast]
 refine qC (a:=65) (b:=m) rfl rfl (by omega) ?_
 refine nk ga cv (IntWalk.u8_in _ (by omega)) ?_
 refine g8 hI fr re cv aw fun w' hI=>?_
 exact ae hI rfl
theorem k7 (s:ByteArray):Pure Tryz.prog gm [.string s] S (.int .i64 (if ad s=1 ∨ ad s=2 then ad s else ad s - 1)):=by
 intro w hI
 refine fV.2 ?_
 dsimp only[fV,am]
 refine Run.callPure cL cM hI (bJ s S) fun w' hI=>?_
 refine bS rfl ?_
 refine bS rfl ?_
 refine ak (fun hb=>?_) (fun hb=>?_)
 ·rw [Bool.or_eq_true,decide_eq_true_eq,decide_eq_true_eq] at hb
  exact ae hI (by rw [if_pos hb]; rfl)
 ·rw [Bool.or_eq_false_iff,decide_eq_false_iff_not,decide_eq_false_iff_not] at hb
  have hl:0<=ad s/\ad s<=3:=by
   unfold ad
   split <;> try split <;> try split <;> omega
   all_goals omega
  refine fG (by omega) ?_
  exact ae hI (by rw [if_neg (by omega)])
theorem nC {s:ByteArray} (h:0<ad s):Pure Tryz.prog ld [.string s] S (.string (st (aV (bs s)))):=by
 intro w hI
 obtain ⟨e,hs,_⟩:=mG h
 refine j2.2 ?_
 dsimp only[j2,am]
 refine Run.callPure de dc hI (cE s (by simp only [maxLen]; omega) S) fun w' hI=>?_
 have hl:(bs s).length=s.size:=Array.length_toList
 refine ak (fun hb=>?_) (fun hb=>?_)
 ·rw [if_pos hb] at e
  refine av (a:=[32]) (b:=bs s) (by simp only [List.length_cons,List.length_nil]; omega) ?_
  refine av (b:=[32]) (by simp only [List.length_append,List.length_cons,List.length_nil]; omega) ?_
  exact ae hI (by rw [e]; rfl)
 ·rw [if_neg (by rw [hb]; decide)] at e
  exact ae hI (by rw [e])
def u1:Value->Nat
 | .string s=>s.size
 | _=>0
def gR (N:Nat):Prop:=∀ (t:T) (S:ab) (cs:List Value),cn t<=N->okTx t->TabS S->RdT S cs t->Pure Tryz.prog jd [.agg cs.toArray] S (.string (st (tx t)))
theorem lz {t:T} (ho:okTx t) (h:cn t<=120):0<(tx t).length/\(tx t).length<=2400:=by
 have:=(sF t ho).1
 omega
set_option maxHeartbeats 1000000 in
theorem fF {t:T} {cs:List Value} {m:Int} {r:Bool} {N:Nat} (ih:gR N) (hN:N<=120) (hc:cn t<=N) (ho:okTx t) (hT:TabS S) (h:RdT S cs t) :
  Pure Tryz.prog ja [.agg cs.toArray,.int .i64 m,.bool r] S (.string (st (opx t (tx t) m r))):=by
 intro w hI
 have h0:=h
 have hlx:=lz ho (by omega)
 obtain ⟨kv,rfl,_,_,_,hk⟩:=RdT.iff.1 h
 obtain ⟨ka,kc,rfl,_⟩:=id hk
 obtain ⟨lv,hlv⟩:∃ lv:Int,lv=if t.kids.length=2 then ad t.name else 0:=⟨_,rfl⟩
 refine dg.2 ?_
 dsimp only[dg,ed]
 refine aG hI fun b3 w' hI=>?_
 refine ao hI 0 ac rfl rfl ?_
 refine Run.callPure cc cd hI (ih t S _ hc ho hT h0) fun w' hI=>?_
 refine ⟨fun v w'=>v=.int .i64 lv/\Inv w [] [.blk b3 (.cells #[.int .i64 t.kind,.int .i64 t.n,.string t.name,.slice ka t.kids.length kc] ay)] S w',?_,?_⟩
 ·refine aa hI 0 rfl af aj rfl ?_
  refine dC ag ?_
  refine a6 ?_
  refine aP (fun h2=>?_) (fun h2=>?_)
  ·refine aa hI 0 rfl ai al rfl ?_
   refine Run.callPure cL cM hI (bJ _ S) fun w' hI=>?_
   refine bS rfl ?_
   refine bS rfl ?_
   exact ⟨by rw [hlv,if_pos (by omega)]; rfl,hI⟩
  ·exact ⟨by rw [hlv,if_neg (by omega)],hI⟩
 intro t8 _ _ _ _ _ _ _ _ _ _ w'
 rintro ⟨rfl,hI⟩
 refine cW (i:=0) aw hlx.1 ?_
 have hpc:=rX hlx.1
 obtain ⟨c,hcc⟩:∃ c,c=(tx t)[0].toNat:=⟨_,rfl⟩
 rw [<- hcc] at hpc ⊢
 obtain ⟨p,hp⟩:∃ p,p=qF c:=⟨_,rfl⟩
 rw [<- hp] at hpc
 refine ⟨fun v w'=>v=.bool p/\Inv w [] [.blk b3 (.cells #[.int .i64 t.kind,.int .i64 t.n,.string t.name,.slice ka t.kids.length kc] ay)] S w',?_,?_⟩
 ·have hT1:(97<=c/\c<=122) ∨ (65<=c/\c<=90) ∨ (48<=c/\c<=57) ∨ c=91 ∨ c=40 ∨ (c<48/\c≠40) ∨ (57<c/\c<65) ∨ (90<c/\c<97/\c≠91) ∨ 122<c:=by omega
  rcases hT1 with hc1|hc1|hc1|hc1|hc1|hc1|hc1|hc1|hc1
  iterate 5
   obtain rfl:p=true:=hp.trans (decide_eq_true (by omega))
   clear hp
   repeat first
    | exact ⟨rfl,hI⟩
    | refine b8 ?_
    | refine dy (by decide) ?_
    | refine bO ?_
    | refine ft ?_
    | refine fq ?_
    | refine eY (by omega) ?_
    | refine iO (by omega) ?_
    | refine qn (by omega) ?_
    | refine pI (by omega) ?_
    | refine bA (by omega) ?_
    | refine bk (by omega) ?_
    | refine Run.callPure d6 dZ hI (fZ (b:=true) (decide_eq_true (by omega))) fun w' hI=>?_
    | refine Run.callPure d6 dZ hI (fZ (b:=false) (decide_eq_false (by omega))) fun w' hI=>?_
  iterate 4
   obtain rfl:p=false:=hp.trans (decide_eq_false (by omega))
   clear hp
   repeat first
    | exact ⟨rfl,hI⟩
    | refine b8 ?_
    | refine dy (by decide) ?_
    | refine bO ?_
    | refine ft ?_
    | refine fq ?_
    | refine eY (by omega) ?_
    | refine iO (by omega) ?_
    | refine qn (by omega) ?_
    | refine pI (by omega) ?_
    | refine bA (by omega) ?_
    | refine bk (by omega) ?_
    | refine Run.callPure d6 dZ hI (fZ (b:=false) (decide_eq_false (by omega))) fun w' hI=>?_
 intro t10 _ _ _ _ _ _ _ _ _ _ _ _ _ _ _ _ _ _ _ _ _ _ _ _ _ _ w'
 rintro ⟨rfl,hI⟩
 have hsl:cI t=(io t && decide (0<ad t.name)):=by rw [cI,io,Bool.and_assoc]
 obtain ⟨at_,ha⟩:∃ a,io t=a:=⟨_,rfl⟩
 obtain ⟨op_,ho_⟩:∃ a,decide (0<ad t.name)=a:=⟨_,rfl⟩
 have hlv3:-10<=lv/\lv<=10:=by
  rw [hlv]
  split
  ·unfold ad
   split <;> try split <;> try split <;> omega
   all_goals omega
  ·omega
 rw [ha,ho_] at hsl
 have hop:opx t (tx t) m r=if (decide (m<lv) || ((at_ && op_) || (r && !p)))=true then iZ (tx t) else tx t:=by
  unfold opx
  rw [<- hlv,hsl,hpc]
  congr 1
  simp only [Bool.or_eq_true,decide_eq_true_eq,Bool.and_eq_true,Bool.not_eq_true']
 rw [hop]
 clear hop hlv
 refine ⟨fun v w'=>v=.bool (decide (m<lv) || ((at_ && op_) || (r && !p)))/\Inv w [] [.blk b3 (.cells #[.int .i64 t.kind,.int .i64 t.n,.string t.name,.slice ka t.kids.length kc] ay)] S w',?_,?_⟩
 ·by_cases hlm:m<lv
  ·rw [decide_eq_true hlm]
   refine s4 (by omega) ?_
   repeat first
    | exact ⟨rfl,hI⟩
    | refine b8 ?_
    | refine dy (by decide) ?_
    | refine bO ?_
    | refine ft ?_
    | refine fq ?_
  ·rw [decide_eq_false hlm]
   refine qz (by omega) ?_
   refine rpG ?_
   refine ao hI 0 ac rfl rfl ?_
   refine Run.callPure eO ez hI (d4 h0) fun w' hI=>?_
   rw [ha]
   cases at_ <;> cases r <;> cases p
   iterate 4
    repeat first
     | exact ⟨rfl,hI⟩
     | refine b8 ?_
     | refine dy (by decide) ?_
     | refine bO ?_
     | refine ft ?_
     | refine fq ?_
     | refine bv ?_
   all_goals refine rpG ?_
   all_goals refine aa hI 0 rfl ai al rfl ?_
   all_goals refine Run.callPure iM iE hI (gd _ S) fun w' hI=>?_
   all_goals rw [ho_]
   all_goals cases op_
   all_goals
    repeat first
     | exact ⟨rfl,hI⟩
     | refine b8 ?_
     | refine dy (by decide) ?_
     | refine bO ?_
     | refine ft ?_
     | refine fq ?_
     | refine bv ?_
 intro t69 _ _ _ _ _ _ _ _ _ _ _ _ _ _ _ _ _ _ w'
 rintro ⟨rfl,hI⟩
 refine ak (fun hb=>?_) (fun hb=>?_)
 ·rw [if_pos hb]
  refine av (a:=[40]) (by simp only [List.length_cons,List.length_nil]; omega) ?_
  refine av (b:=[41]) (by simp only [List.length_append,List.length_cons,List.length_nil]; omega) ?_
  exact ae hI rfl
 ·rw [hb,if_neg (by decide)]
  exact ae hI rfl
end
end
section
open Go Go.RowKit
section
variable {w0 w:World} {X:List Nat} {L:List Item} {S:ab} {P:Program} {K:Value->World->Prop}
attribute [local irreducible] Run CondV ah ax
theorem qS (h:Inv w0 X L S w) {T ty e:TypeId} {by_:Nat} {z v x:Value} {cs:List Bool} {css:List (List Value)} (i:Nat)
  (hT:iW P T=some (e,1,by_,z)) (hi:L[i]?=some (iH v e 1 css)) (hx:x.cells=#[x]) (h1:x.oneCell'=true) (hfit:css.length+1<=4294967296) (hby:by_<=32768)
  {K:Value->Value->World->Prop} (hk:∀ v' w',Inv w0 X (L.set i (iH v' e 1 (css++[[x]]))) S w'->K (.slice (some ⟨w.heap.size,0,none⟩) 1 1) v' w') :
  Run P (aI T 1 [(0,x)]) w fun u w'=>Run P (aO .append #[T,T] ty cs [v,u]) w' (K u):=by
 refine iG h hT (by rw [hx]; rfl) (by omega) (by omega) fun w' hI=>?_
 have hil:i<L.length:=(List.getElem?_eq_some_iff.1 hi).1
 refine og hI i [x] hT (by omega) (by rw [List.getElem?_append_left hil]; exact hi) (by simp) (m:=1) (o:=0) ?_ (by simpa using h1) hfit hby fun v' w' hI=>?_
 ·intro j u hj
  rw [hI.cellL (i:=L.length) (by rw [List.getElem?_append_right (Nat.le_refl _),Nat.sub_self]; rfl)]
  rw [Nat.zero_add,hx]
  simpa using hj
 ·refine hk _ _ ?_
  rw [<- mZ]
  rw [List.set_append_left _ _ hil] at hI
  exact hI.sub (List.sublist_append_left _ _)
end
end
section
open Go Go.RowKit
section
variable {S:ab}
attribute [local irreducible] Run CondV ah ax
theorem pY {t:T} {cs:List Value} {N:Nat} (ih:gR N) (hN:N<120) (hc:cn t<=N+1) (ho:okTx t) (hT:TabS S) (hi:aU t=false) (h:RdT S cs t) :
  Pure Tryz.prog sg [.agg cs.toArray,.func (.func jd) #[] #[]] S (.string (st (tx t))):=by
 intro w hI
 have h0:=h
 have hcn:=lM t
 have hlx:=lz ho (by omega)
 obtain ⟨kv,rfl,_,_,_,hk⟩:=RdT.iff.1 h
 obtain ⟨ka,kc,rfl,_⟩:=id hk
 refine mX.2 ?_
 dsimp only[mX,aC]
 refine aG hI fun b2 w' hI=>?_
 refine aa hI 0 rfl aB ar rfl ?_
 rcases ce ho.own with ⟨h1,h2,h3⟩|⟨h1,h2,h3⟩|⟨h1,h2,h3⟩
 ·refine bA h1 ?_
  refine ak (fun _=>?_) (fun hb=>by cases hb)
  refine aa hI 0 rfl aR ar rfl ?_
  refine Run.callPure pj oV hI (nM h2) fun w' hI=>?_
  have hp:be t=false:=by rw [be,decide_eq_false (by omega)]; rfl
  exact ae hI (by rw [ik hp hi (by omega),fJ,if_pos h1,if_pos h2]; rfl)
 ·refine bk (by omega) ?_
  refine ak (fun hb=>by cases hb) (fun _=>?_)
  refine aa hI 0 rfl aB ar rfl ?_
  refine bA h1 ?_
  refine ak (fun _=>?_) (fun hb=>by cases hb)
  refine aa hI 0 rfl aR ar rfl ?_
  obtain ⟨r,hr,_⟩:=ie h2
  refine Run.callPure dp dk hI (lE hT h2 hr) fun w' hI=>?_
  have hp:be t=false:=by rw [be,decide_eq_false (by omega)]; rfl
  exact ae hI (by rw [ik hp hi (by omega),fJ,if_neg (by omega),if_pos h1,if_pos h2,hr]; rfl)
 refine bk (by omega) ?_
 refine ak (fun hb=>by cases hb) (fun _=>?_)
 refine aa hI 0 rfl aB ar rfl ?_
 refine bk (by omega) ?_
 refine ak (fun hb=>by cases hb) (fun _=>?_)
 refine ao hI 0 ac rfl rfl ?_
 refine Run.callPure jZ js hI (gy h0) fun w' hI=>?_
 cases hp:be t with
 | true=>
  obtain ⟨_,_,a,b,hab⟩:=cT hp
  refine ak (fun _=>?_) (fun hb=>by cases hb)
  have hoa:=ho.kid a (by rw [hab]; simp)
  have hob:=ho.kid b (by rw [hab]; simp)
  rw [hab] at hcn
  simp only [cnL] at hcn
  have hp1:=eD a
  have hp2:=eD b
  have hk2:=hk
  rw [hab] at hk2
  refine aa hI 0 rfl af aj rfl ?_
  refine bm (i:=0) hI (xs:=[a,b]) (by rw [<- hab]; exact hk) ag ac (by simp) (fun _ _=>RdT.length) fun es hes=>?_
  rw [List.getElem_cons_zero] at hes
  refine Run.callPure cc cd hI (ih a S es (by omega) hoa hT hes) fun w' hI=>?_
  have ha1:=lz hoa (by omega)
  refine av (a:=[91]) (by simp only [List.length_cons,List.length_nil]; omega) ?_
  refine aa hI 0 rfl af aj rfl ?_
  refine bm (i:=1) hI (xs:=[a,b]) (by rw [<- hab]; exact hk) ag ac (by simp) (fun _ _=>RdT.length) fun gs hgs=>?_
  rw [List.getElem_cons_succ,List.getElem_cons_zero] at hgs
  have hg1:=hgs.length
  refine cm hI gO fun b6 w' hI=>?_
  refine cB hI 1 rfl ac (by simpa using hg1) rfl (by simpa using hgs.one) fun w' hI=>?_
  have htx:=nT hp hab
  refine ⟨fun v w'=>∃ (out:Bs) (u:T) (ds:List Value),v=.string (st out)/\tx t=out++tl u++[93]/\okTx u/\cn u<=N/\RdT S ds u/\Inv w [] [.blk b2 (.cells #[.int .i64 t.kind,.int .i64 t.n,.string t.name,.slice ka t.kids.length kc] ay),.blk b6 (.cells ds.toArray ay)] S w',
   fun v _=>3000 - u1 v,⟨[91]++tx a,b,gs,rfl,by rw [htx],hob,by omega,hgs,hI⟩,?_⟩
  intro _ _ _ _ t5 _ _ _ _ _ _ _ _ _ _ _ w'
  rintro ⟨out,u,ds,rfl,hou,hu,hcu,hds,hI⟩
  have hlo:out.length+(tl u).length+1=(tx t).length:=by rw [hou]; simp only [List.length_append,List.length_cons,List.length_nil]
  have hds0:=hds
  have hl4:=hds.length
  refine ao hI 1 ac rfl (by simpa using hl4) ?_
  refine Run.callPure jZ js hI (gy hds) fun w' hI=>?_
  obtain ⟨ku,rfl,_,_,_,hku⟩:=RdT.iff.1 hds
  have hcu1:=lM u
  cases hpu:be u with
  | true=>
   obtain ⟨_,_,a',b',hab'⟩:=cT hpu
   refine ak (fun _=>?_) (fun hb=>by cases hb)
   have hoa':=hu.kid a' (by rw [hab']; simp)
   have hob':=hu.kid b' (by rw [hab']; simp)
   rw [hab'] at hcu1 hku
   simp only [cnL] at hcu1
   have htl:=nD hpu hab'
   have ha2:=lz hoa' (by omega)
   have hlt:(tl u).length=1+(tx a').length+(tl b').length:=by rw [htl]; simp only [List.length_append,List.length_cons,List.length_nil]
   refine aa hI 1 rfl af aj rfl ?_
   refine bm (i:=0) hI hku ag ac (by simp) (fun _ _=>RdT.length) fun es' hes'=>?_
   rw [List.getElem_cons_zero] at hes'
   refine Run.callPure cc cd hI (ih a' S es' (by omega) hoa' hT hes') fun w' hI=>?_
   refine av (a:=[44]) (by simp only [List.length_cons,List.length_nil]; omega) ?_
   refine av (by simp only [List.length_append,List.length_cons,List.length_nil]; omega) ?_
   refine aa hI 1 rfl af aj rfl ?_
   refine bm (i:=1) hI hku ag ac (by simp) (fun _ _=>RdT.length) fun gs' hgs'=>?_
   rw [List.getElem_cons_succ,List.getElem_cons_zero] at hgs'
   have hg2:=hgs'.length
   refine cB hI 1 rfl ac (by simpa using hg2) rfl (by simpa using hgs'.one) fun w' hI=>?_
   refine ⟨⟨_,b',gs',rfl,?_,hob',by omega,hgs',hI⟩,?_⟩
   ·rw [hou,htl]; simp
   ·simp only [u1,gn,List.length_append,List.length_cons,List.length_nil]
    omega
  | false=>
   refine ak (fun hb=>by cases hb) (fun _=>?_)
   refine ⟨fun v w'=>v=.string (st (out++tl u))/\Inv w [] [] S w',?_,?_⟩
   ·refine ao hI 1 ac rfl (by simp) ?_
    refine Run.callPure p7 qT hI (oB hds0) fun w' hI=>?_
    refine bv ?_
    cases hnu:il u with
    | true=>
     refine ak (fun hb=>by cases hb) (fun _=>?_)
     exact ⟨by rw [qb hpu hnu,List.append_nil],hI.nil⟩
    | false=>
     refine ak (fun _=>?_) (fun hb=>by cases hb)
     have htl:=np hpu hnu
     have hlt:(tl u).length=1+(tx u).length:=by rw [htl]; simp only [List.length_append,List.length_cons,List.length_nil]
     refine ao hI 1 ac rfl (by simp) ?_
     refine Run.callPure cc cd hI (ih u S _ hcu hu hT hds0) fun w' hI=>?_
     refine av (a:=[124]) (by simp only [List.length_cons,List.length_nil]; omega) ?_
     refine av (by simp only [List.length_append,List.length_cons,List.length_nil]; omega) ?_
     exact ⟨by rw [htl],hI.nil⟩
   intro t5 _ _ _ _ _ _ _ _ _ w'
   rintro ⟨rfl,hI⟩
   refine av (b:=[93]) (by simp only [List.length_append,List.length_cons,List.length_nil]; omega) ?_
   exact ae hI (by rw [hou])
 | false=>
 refine ak (fun hb=>by cases hb) (fun _=>?_)
 refine aa hI 0 rfl af aj rfl ?_
 refine dC ag ?_
 refine a6 ?_
 refine aP (fun hl0=>?_) (fun hl0=>?_)
 ·refine aa hI 0 rfl ai al rfl ?_
  exact ae hI (by rw [ik hp hi (by omega),fJ,if_neg (by omega),if_neg (by omega),if_pos (by omega)]; rfl)
 have htx:=nX hp hi ⟨h1,by omega⟩
 obtain ⟨n1,n2,n3⟩:=kr h2
 have hjl:(bq (t.kids.map tx)).length<=2400:=by
  have:=hlx.2
  rw [htx] at this
  simp only [List.length_append] at this
  omega
 refine aa hI 0 rfl af aj rfl ?_
 refine dC ag ?_
 have hI:=hI.rowNil eH 1
 refine ⟨fun i v w'=>∃ (j:Nat) (css:List (List Value)),j<=t.kids.length/\i=.int .i64 (j:Int)/\Rows 1 j8 css ((t.kids.take j).map fun a=>st (tx a))/\
   Inv w [] [.blk b2 (.cells #[.int .i64 t.kind,.int .i64 t.n,.string t.name,.slice ka t.kids.length kc] ay),iH v eH 1 css] S w',
  fun i _ _=>t.kids.length - (intOf i).toNat,⟨0,[],Nat.zero_le _,rfl,Rows.nil _ _,hI⟩,?_⟩
 intro t74 _ t7 _ _ _ _ _ _ _ _ _ _ w'
 rintro ⟨j,css,hj,rfl,hR,hI⟩
 refine aZ ?_
 have hcl:=hR.hc
 rw [List.length_map,List.length_take] at hcl
 refine aP (fun hji=>?_) (fun hji=>?_)
 ·have hj':j<t.kids.length:=by omega
  have hm:=List.getElem_mem hj'
  have hcm:=n5 hm
  refine bm hI hk ag ac hj' (fun _ _=>RdT.length) fun es hes=>?_
  have he4:=hes.length
  refine cm hI gO fun b9 w' hI=>?_
  refine cB hI 2 rfl ac (by simpa using he4) rfl (by simpa using hes.one) fun w' hI=>?_
  refine ao hI 2 ac rfl (by simpa using he4) ?_
  refine Run.callPure cc cd hI (ih _ S es (by omega) (ho.kid _ hm) hT hes) fun w' hI=>?_
  refine qS (css:=css) hI 1 qm rfl rfl rfl (by omega) (by omega) fun v' w' hI=>?_
  refine br (by omega) ?_
  refine ⟨⟨j+1,css++[[Value.string (st (tx t.kids[j]))]],hj',rfl,?_,hI.pick [true,true,false]⟩,by simp only [intOf,Int.toNat_natCast]; omega⟩
  rw [List.take_succ_eq_append_getElem hj',List.map_append]
  exact hR.snoc rfl rfl
 ·have:j=t.kids.length:=by omega
  subst this
  rw [List.take_length] at hR
  have hI2:Inv w [] ([Item.blk b2 (.cells #[.int .i64 t.kind,.int .i64 t.n,.string t.name,.slice ka t.kids.length kc] ay)]++[iH t7 eH 1 css]) S w':=hI
  obtain ⟨S1,hE1,hrd,hJ0⟩:=Inv.lendExt hI2
  clear hI hI2
  have hrs:=RowRd.rows hR hrd
  have hmm:(t.kids.map fun a=>st (tx a)).map bs=t.kids.map tx:=by rw [List.map_map]; exact List.map_congr_left fun a _=>su _
  have hJ:=pF hrs (fun e=>by rw [List.map_eq_nil_iff] at e; rw [e] at hl0; simp at hl0) (by rw [List.length_map]; omega) (by rw [hmm]; omega)
  rw [hmm] at hJ
  have hl6:(bs t.name).length<=6:=n2
  obtain ⟨ra,rc,rfl,_,_,_⟩:=id hrs
  have hI:=hJ0
  clear hJ0
  refine ⟨fun D x4 vw vF vA vm vo vt vq w_=>Fx D 0 [vq=.pointer (some ⟨b2,2,none⟩),vt=.string (st (bs t.name)),vo=.string (st (bs t.name++[40])),vm=.slice ra (t.kids.map fun a=>st (tx a)).length rc,vA=.string (st (bq (t.kids.map tx))),vF=.string (st (bs t.name++[40]++bq (t.kids.map tx))),vw=.string (st (bs t.name++[40]++bq (t.kids.map tx)++[41])),x4=.string (st (bs t.name++[40]++bq (t.kids.map tx)++[41]))]/\Inv w [] [Item.blk b2 (.cells #[.int .i64 t.kind,.int .i64 t.n,.string t.name,.slice ka t.kids.length kc] ay)] S1 w_,⟨Fx.nil _ _,hI.draw⟩,⟨?_,?_,?_,?_,?_,?_,?_,?_,trivial⟩,?_⟩
  all_goals (intro D uz; intros; rename_i x4 vw vF vA vm vo vt vq w_ hA_; have hF_:=hA_.1; obtain ⟨⟨kA,kL,k0,lK,lP,mI,mS,nI,_⟩,hI⟩:=hA_)
  ·refine a8 ai ?_
   exact ⟨hF_.set 0 rfl,hI⟩
  ·obtain rfl:=kA ‹_›
   refine aQ (b:=b2) hI 0 (c:=#[.int .i64 t.kind,.int .i64 t.n,.string t.name,.slice ka t.kids.length kc]) al rfl rfl ?_
   exact ⟨hF_.set 1 rfl,hI⟩
  ·obtain rfl:=kL ‹_›
   refine av (b:=[40]) (by simp only [List.length_cons,List.length_nil]; omega) ?_
   exact ⟨hF_.set 2 rfl,hI⟩
  ·exact ⟨hF_.set 3 rfl,hI⟩
  ·obtain rfl:=lK ‹_›
   refine Run.callPure gl gS hI hJ fun w_ hI=>?_
   exact ⟨hF_.set 4 rfl,hI⟩
  ·obtain rfl:=k0 ‹_›
   obtain rfl:=lP ‹_›
   refine av (by simp only [List.length_append,List.length_cons,List.length_nil]; omega) ?_
   exact ⟨hF_.set 5 rfl,hI⟩
  ·obtain rfl:=mI ‹_›
   refine av (b:=[41]) (by simp only [List.length_append,List.length_cons,List.length_nil]; omega) ?_
   exact ⟨hF_.set 6 rfl,hI⟩
  ·obtain rfl:=mS ‹_›
   exact ⟨hF_.set 7 rfl,hI⟩
  obtain ⟨rfl,rfl,rfl,rfl,rfl,rfl,rfl,rfl,_⟩:=hF_.all
  clear hF_ kA kL k0 lK lP mI mS nI
  exact ⟨by rw [htx],hI.nil.less hE1.1⟩
theorem pW {N:Nat} (ih:gR N) (hN:N<120):gR (N+1):=by
 intro t S cs hc ho hT h w hI
 have h0:=h
 have hcn:=lM t
 have hlx:=lz ho (by omega)
 obtain ⟨kv,rfl,_,_,_,hk⟩:=RdT.iff.1 h
 obtain ⟨ka,kc,rfl,_⟩:=id hk
 obtain ⟨i,hi⟩:∃ i,aU t=i:=⟨_,rfl⟩
 refine kJ.2 ?_
 dsimp only[kJ,am]
 refine aG hI fun b1 w' hI=>?_
 refine ⟨fun v w'=>v=.bool i/\Inv w [] [.blk b1 (.cells #[.int .i64 t.kind,.int .i64 t.n,.string t.name,.slice ka t.kids.length kc] ay)] S w',?_,?_⟩
 ·rw [aU] at hi
  refine aa hI 0 rfl aB ar rfl ?_
  by_cases h3:t.kind=3
  ·refine bA h3 ?_
   refine rpG ?_
   refine aa hI 0 rfl af aj rfl ?_
   refine dC ag ?_
   rw [decide_eq_true h3,Bool.true_and] at hi
   by_cases hn:t.kids.length=2
   ·refine bA (by omega) ?_
    refine rpG ?_
    refine aa hI 0 rfl ai al rfl ?_
    refine Run.callPure iM iE hI (gd _ S) fun w' hI=>?_
    refine rpG ?_
    rw [decide_eq_true hn,Bool.true_and] at hi
    exact ⟨by rw [hi],hI⟩
   ·refine bk (by omega) ?_
    refine rpG ?_
    rw [decide_eq_false hn,Bool.false_and] at hi
    exact ⟨by rw [hi],hI⟩
  ·refine bk h3 ?_
   refine rpG ?_
   rw [decide_eq_false h3,Bool.false_and] at hi
   exact ⟨by rw [hi],hI⟩
 intro t18 _ _ _ _ _ _ _ _ _ _ _ _ _ w'
 rintro ⟨rfl,hI⟩
 cases i with
 | false=>
  refine ak (fun hb=>by cases hb) (fun _=>?_)
  refine ao hI 0 ac rfl rfl ?_
  refine Run.callPure rJ rn hI (pY ih hN hc ho hT hi h0) fun w' hI=>?_
  exact ae hI rfl
 | true=>
  refine ak (fun _=>?_) (fun hb=>by cases hb)
  obtain ⟨h3,hlev,a,b,hab⟩:=gc hi
  have hp:be t=false:=by
   cases hp:be t with
   | false=>rfl
   | true=>
    obtain ⟨_,hn,_⟩:=cT hp
    rw [hn,show ad (st [46])=0 from by decide +kernel] at hlev
    omega
  obtain ⟨hsp,hs3,hl3⟩:=mG hlev
  have htx:=lD hp hi hab
  have hoa:=ho.kid a (by rw [hab]; simp)
  have hob:=ho.kid b (by rw [hab]; simp)
  rw [hab] at hcn
  simp only [cnL] at hcn
  have hp1:=eD a
  have hp2:=eD b
  have hk2:RdSl S 4 (RdT S) (.slice ka t.kids.length kc) [a,b]:=by rw [<- hab]; exact hk
  have hk3:t.kids.length=2:=by rw [hab]; rfl
  obtain ⟨ra,rc,he,_,_,hr⟩:=hk2
  rcases hr with hr|⟨kb,ko,c,E,fz,rfl,hS,hr⟩
  ·cases hr
  simp only [Value.slice.injEq] at he
  obtain ⟨rfl,_,rfl⟩:=he
  have hRa:=hr 0 (by simp)
  have hRb:=hr 1 (by simp)
  rw [List.getElem_cons_zero] at hRa
  rw [List.getElem_cons_succ,List.getElem_cons_zero] at hRb
  have hlm:(if ad t.name=1 ∨ ad t.name=2 then ad t.name else ad t.name - 1)=(if ad t.name=3 then 2 else ad t.name):=by
   rcases hl3 with e|e|e <;> rw [e] <;> rfl
  obtain ⟨lm,hlm2⟩:∃ lm:Int,lm=if ad t.name=3 then 2 else ad t.name:=⟨_,rfl⟩
  rw [<- hlm2] at hlm htx
  have hL3:Pure Tryz.prog gm [.string t.name] S (.int .i64 lm):=by rw [<- hlm]; exact k7 _
  have hlm0:0<=lm:=by rw [hlm2]; split <;> omega
  obtain ⟨X1,hX1⟩:∃ x,x=lfx a (tx a) lm:=⟨_,rfl⟩
  obtain ⟨X2,hX2⟩:∃ x,x=rtx b (tx b) (ad t.name - 1):=⟨_,rfl⟩
  obtain ⟨X3,hX3⟩:∃ x,x=aV (bs t.name):=⟨_,rfl⟩
  rw [<- hX1,<- hX2,<- hX3] at htx
  have hO3:Pure Tryz.prog ld [.string t.name] S (.string (st X3)):=by rw [hX3]; exact nC hlev
  have hln:(tx t).length=X1.length+X3.length+X2.length:=by rw [htx,List.length_append,List.length_append]
  refine aa hI 0 rfl ai al rfl ?_
  refine Run.callPure cL cM hI (bJ _ S) fun w' hI=>?_
  refine bS rfl ?_
  refine bS rfl ?_
  obtain ⟨lev,hlev2⟩:∃ l,l=ad t.name:=⟨_,rfl⟩
  refine ⟨fun D x2 vn vr vl vE vB vx vy vj uM uR uV uU uO ue uk tY ug tX pt oJ w_=>Fx D 0 [oJ=.pointer (some ⟨b1,3,none⟩),pt=.slice (some ⟨kb,ko,none⟩) t.kids.length kc,tX=.pointer (some ⟨kb,ko+0 * 4,none⟩),ug=.agg (aF c (ko+0 * 4) 4).toArray,tY=.pointer (some ⟨b1,2,none⟩),uk=.string t.name,ue=.int .i64 lm,uO=.string (st X1),uU=.pointer (some ⟨b1,2,none⟩),uV=.string t.name,uR=.string (st X3),uM=.string (st (X1++X3)),vj=.pointer (some ⟨b1,3,none⟩),vy=.slice (some ⟨kb,ko,none⟩) t.kids.length kc,vx=.pointer (some ⟨kb,ko+1 * 4,none⟩),vB=.agg (aF c (ko+1 * 4) 4).toArray,vE=.int .i64 (ad t.name),vl=.int .i64 (ad t.name - 1),vr=.string (st X2),vn=.string (st (X1++X3++X2)),x2=.string (st (X1++X3++X2))]/\Inv w [] [.blk b1 (.cells #[.int .i64 t.kind,.int .i64 t.n,.string t.name,.slice (some ⟨kb,ko,none⟩) t.kids.length kc] ay)] S w_,⟨Fx.nil _ _,hI.draw⟩,⟨?_,?_,?_,?_,?_,?_,?_,?_,?_,?_,?_,?_,?_,?_,?_,?_,?_,?_,?_,?_,?_,trivial⟩,?_⟩
  all_goals (intro D uz; intros; rename_i x2 vn vr vl vE vB vx vy vj uM uR uV uU uO ue uk tY ug tX pt oJ w_ hA_; have hF_:=hA_.1; obtain ⟨⟨kA,kL,k0,lK,lP,mI,mS,nI,qo,tR,td,sk,sM,sL,si,rU,sw,ta,th,uX,vd,_⟩,hI⟩:=hA_)
  ·refine a8 af ?_
   exact ⟨hF_.set 0 rfl,hI⟩
  ·obtain rfl:=kA ‹_›
   refine aQ (b:=b1) hI 0 (c:=#[.int .i64 t.kind,.int .i64 t.n,.string t.name,.slice (some ⟨kb,ko,none⟩) t.kids.length kc]) aj rfl rfl ?_
   exact ⟨hF_.set 1 rfl,hI⟩
  ·obtain rfl:=kL ‹_›
   refine bd (i:=0) ag (by omega) ?_
   exact ⟨hF_.set 2 rfl,hI⟩
  ·obtain rfl:=k0 ‹_›
   refine cj ac hRa.length (fun j v hj=>by rw [hI.cellS hS]; exact bb rfl j v hj) ?_
   exact ⟨hF_.set 3 rfl,hI⟩
  ·refine a8 ai ?_
   exact ⟨hF_.set 4 rfl,hI⟩
  ·obtain rfl:=lP ‹_›
   refine aQ (b:=b1) hI 0 (c:=#[.int .i64 t.kind,.int .i64 t.n,.string t.name,.slice (some ⟨kb,ko,none⟩) t.kids.length kc]) al rfl rfl ?_
   exact ⟨hF_.set 5 rfl,hI⟩
  ·obtain rfl:=mI ‹_›
   refine Run.callPure lV l5 hI hL3 fun w_ hI=>?_
   exact ⟨hF_.set 6 rfl,hI⟩
  ·obtain rfl:=lK ‹_›
   obtain rfl:=mS ‹_›
   refine Run.callPure dr dn hI (fF ih (by omega) (by omega) hoa hT hRa) fun w_ hI=>?_
   rw [s6 hoa.own hlm0,<- hX1]
   exact ⟨hF_.set 7 rfl,hI⟩
  ·refine a8 ai ?_
   exact ⟨hF_.set 8 rfl,hI⟩
  ·obtain rfl:=qo ‹_›
   refine aQ (b:=b1) hI 0 (c:=#[.int .i64 t.kind,.int .i64 t.n,.string t.name,.slice (some ⟨kb,ko,none⟩) t.kids.length kc]) al rfl rfl ?_
   exact ⟨hF_.set 9 rfl,hI⟩
  ·obtain rfl:=tR ‹_›
   refine Run.callPure oG pi hI hO3 fun w_ hI=>?_
   exact ⟨hF_.set 10 rfl,hI⟩
  ·obtain rfl:=nI ‹_›
   obtain rfl:=td ‹_›
   refine av (by omega) ?_
   exact ⟨hF_.set 11 rfl,hI⟩
  ·refine a8 af ?_
   exact ⟨hF_.set 12 rfl,hI⟩
  ·obtain rfl:=sM ‹_›
   refine aQ (b:=b1) hI 0 (c:=#[.int .i64 t.kind,.int .i64 t.n,.string t.name,.slice (some ⟨kb,ko,none⟩) t.kids.length kc]) aj rfl rfl ?_
   exact ⟨hF_.set 13 rfl,hI⟩
  ·obtain rfl:=sL ‹_›
   refine bd (i:=1) ag (by omega) ?_
   exact ⟨hF_.set 14 rfl,hI⟩
  ·obtain rfl:=si ‹_›
   refine cj ac hRb.length (fun j v hj=>by rw [hI.cellS hS]; exact bb rfl j v hj) ?_
   exact ⟨hF_.set 15 rfl,hI⟩
  ·exact ⟨hF_.set 16 rfl,hI⟩
  ·obtain rfl:=sw ‹_›
   refine fG (by omega) ?_
   exact ⟨hF_.set 17 rfl,hI⟩
  ·obtain rfl:=rU ‹_›
   obtain rfl:=ta ‹_›
   refine Run.callPure dr dn hI (fF ih (by omega) (by omega) hob hT hRb) fun w_ hI=>?_
   rw [rB hob.own (by omega),<- hX2]
   exact ⟨hF_.set 18 rfl,hI⟩
  ·obtain rfl:=sk ‹_›
   obtain rfl:=th ‹_›
   refine av (by rw [List.length_append]; omega) ?_
   exact ⟨hF_.set 19 rfl,hI⟩
  ·obtain rfl:=uX ‹_›
   exact ⟨hF_.set 20 rfl,hI⟩
  obtain ⟨rfl,rfl,rfl,rfl,rfl,rfl,rfl,rfl,rfl,rfl,rfl,rfl,rfl,rfl,rfl,rfl,rfl,rfl,rfl,rfl,rfl,_⟩:=hF_.all
  clear hF_ kA kL k0 lK lP mI mS nI qo tR td sk sM sL si rU sw ta th uX vd
  exact ⟨by rw [htx],hI.nil⟩
theorem ne:∀ N:Nat,N<=120->gR N
 | 0,_=>fun t S cs hc=>by have:=eD t; omega
 | N+1,h=>pW (ne N (by omega)) (by omega)
theorem oN {t:T} {cs:List Value} (hv:bz t=true) (hT:TabS S) (h:RdT S cs t):Pure Tryz.prog jd [.agg cs.toArray] S (.string (st (tx t))):=by
 have hc:cn t<=120:=by
  rw [bz,Bool.and_eq_true,decide_eq_true_eq] at hv
  have:=cV t
  unfold cn; omega
 exact ne 120 (Nat.le_refl _) t S cs hc (lj hv) hT h
end
end
end Go.Proofs.YtbocelianhcfmaaGreatDoor

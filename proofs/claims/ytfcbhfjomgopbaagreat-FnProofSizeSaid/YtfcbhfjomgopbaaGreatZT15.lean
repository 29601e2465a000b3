/- Texts written: spec.l2Text and its kin, l4Text, FormatClause. -/
import Derived.Test.YtfcbhfjomgopbaaGreatZT14
import Derived.Test.YtfcbhfjomgopbaaGreatZT12
import Derived.Test.YtfcbhfjomgopbaaGreatZT13
namespace Go.Proofs.YtfcbhfjomgopbaaGreat
open Go Go.RowKit
theorem KI:Tryz.prog.underlying FF=some (.slice CA):=by kernel_rfl
section
variable {w:World} {S:al}
attribute [local irreducible] Run CondV ag aO
theorem iN {t:T} {cs:List Value} (h:RdT S cs t):Pure Tryz.prog Id [.agg cs.toArray] S (.bool (yO t)):=by
 intro w hI
 obtain ⟨kv,rfl,_,_,_,hk⟩:=RdT.iff.1 h
 obtain ⟨ka,kc,rfl,_⟩:=id hk
 refine yq ?_
 unfold ug;dsimp only
 refine bS hI fun b1 w' hI=>?_
 refine ao hI 0 rfl bC aY rfl ?_
 by_cases h3:t.kind=3
 ·refine fe h3 ?_
  repeat (first|refine ad ?_|refine af (by decide) ?_|refine ae ?_|refine ak ?_|refine aj ?_)
  refine ao hI 0 rfl bB bn rfl ?_
  refine bJ (b:=st [46]) ?_
  cases hn:decide (t.name=st [46])
  ·repeat (first|refine ad ?_|refine af (by decide) ?_|refine ae ?_|refine ak ?_|refine aj ?_)
   exact done hI (by rw [yO,hn,Bool.false_and,Bool.and_false])
  ·repeat (first|refine ad ?_|refine af (by decide) ?_|refine ae ?_|refine ak ?_|refine aj ?_)
   refine ao hI 0 rfl aK aJ rfl ?_
   refine eT aC ?_
   refine bP ?_
   repeat (first|refine ad ?_|refine af (by decide) ?_|refine ae ?_|refine ak ?_|refine aj ?_)
   refine done hI ?_
   rw [yO,hn,decide_eq_true h3,Bool.true_and,Bool.true_and]
   congr 1
   rw [decide_eq_decide]
   omega
 ·refine ei h3 ?_
  repeat (first|refine ad ?_|refine af (by decide) ?_|refine ae ?_|refine ak ?_|refine aj ?_)
  exact done hI (by rw [yO,decide_eq_false h3,Bool.false_and])
theorem zu {t:T} {cs:List Value} (h:RdT S cs t):Pure Tryz.prog Ja [.agg cs.toArray] S (.bool (Lp t)):=by
 intro w hI
 obtain ⟨kv,rfl,_,_,_,hk⟩:=RdT.iff.1 h
 obtain ⟨ka,kc,rfl,_⟩:=id hk
 refine Au ?_
 unfold za;dsimp only
 refine bS hI fun b1 w' hI=>?_
 refine ao hI 0 rfl bC aY rfl ?_
 by_cases h3:t.kind=3
 ·refine fe h3 ?_
  repeat (first|refine ad ?_|refine af (by decide) ?_|refine ae ?_|refine ak ?_|refine aj ?_)
  refine ao hI 0 rfl bB bn rfl ?_
  refine bJ (b:=st [91,93]) ?_
  cases hn:decide (t.name=st [91,93])
  ·repeat (first|refine ad ?_|refine af (by decide) ?_|refine ae ?_|refine ak ?_|refine aj ?_)
   exact done hI (by rw [Lp,hn,Bool.false_and,Bool.and_false])
  ·repeat (first|refine ad ?_|refine af (by decide) ?_|refine ae ?_|refine ak ?_|refine aj ?_)
   refine ao hI 0 rfl aK aJ rfl ?_
   refine eT aC ?_
   refine bP ?_
   repeat (first|refine ad ?_|refine af (by decide) ?_|refine ae ?_|refine ak ?_|refine aj ?_)
   refine done hI ?_
   rw [Lp,hn,decide_eq_true h3,Bool.true_and,Bool.true_and]
   congr 1
   rw [decide_eq_decide]
   omega
 ·refine ei h3 ?_
  repeat (first|refine ad ?_|refine af (by decide) ?_|refine ae ?_|refine ak ?_|refine aj ?_)
  exact done hI (by rw [Lp,decide_eq_false h3,Bool.false_and])
theorem lq {t:T} {cs:List Value} (h:RdT S cs t):Pure Tryz.prog EY [.agg cs.toArray] S (.bool (kX t)):=by
 intro w hI
 obtain ⟨kv,rfl,_,_,_,hk⟩:=RdT.iff.1 h
 obtain ⟨ka,kc,rfl,_⟩:=id hk
 refine vX ?_
 unfold sB;dsimp only
 refine bS hI fun b1 w' hI=>?_
 refine ao hI 0 rfl bC aY rfl ?_
 by_cases h3:t.kind=3
 ·refine fe h3 ?_
  repeat (first|refine ad ?_|refine af (by decide) ?_|refine ae ?_|refine ak ?_|refine aj ?_)
  refine ao hI 0 rfl aK aJ rfl ?_
  refine eT aC ?_
  by_cases hn:t.kids.length=2
  ·refine fe (by omega) ?_
   repeat (first|refine ad ?_|refine af (by decide) ?_|refine ae ?_|refine ak ?_|refine aj ?_)
   refine ao hI 0 rfl bB bn rfl ?_
   refine Run.callPure eq ev hI (cY _ S) fun w' hI=>?_
   refine di ?_
   repeat (first|refine ad ?_|refine af (by decide) ?_|refine ae ?_|refine ak ?_|refine aj ?_)
   exact done hI (by rw [kX,decide_eq_true h3,decide_eq_true hn,Bool.true_and,Bool.true_and])
  ·refine ei (by omega) ?_
   repeat (first|refine ad ?_|refine af (by decide) ?_|refine ae ?_|refine ak ?_|refine aj ?_)
   exact done hI (by rw [kX,decide_eq_false hn,Bool.false_and,Bool.and_false])
 ·refine ei h3 ?_
  repeat (first|refine ad ?_|refine af (by decide) ?_|refine ae ?_|refine ak ?_|refine aj ?_)
  exact done hI (by rw [kX,decide_eq_false h3,Bool.false_and])
theorem mT {t:T} {cs:List Value} (h:RdT S cs t):Pure Tryz.prog HL [.agg cs.toArray] S (.bool (u4 t)):=by
 intro w hI
 obtain ⟨kv,rfl,_,_,_,hk⟩:=RdT.iff.1 h
 obtain ⟨ka,kc,rfl,_⟩:=id hk
 refine yK ?_
 unfold tX;dsimp only
 refine bS hI fun b1 w' hI=>?_
 refine ao hI 0 rfl bC aY rfl ?_
 by_cases h3:t.kind=3
 ·refine fe h3 ?_
  repeat (first|refine ad ?_|refine af (by decide) ?_|refine ae ?_|refine ak ?_|refine aj ?_)
  refine ao hI 0 rfl aK aJ rfl ?_
  refine eT aC ?_
  by_cases hn:t.kids.length=0
  ·refine fe (by omega) ?_
   repeat (first|refine ad ?_|refine af (by decide) ?_|refine ae ?_|refine ak ?_|refine aj ?_)
   refine ao hI 0 rfl bB bn rfl ?_
   refine Run.callPure eq ev hI (cY _ S) fun w' hI=>?_
   refine di ?_
   repeat (first|refine ad ?_|refine af (by decide) ?_|refine ae ?_|refine ak ?_|refine aj ?_)
   exact done hI (by rw [u4,decide_eq_true h3,decide_eq_true hn,Bool.true_and,Bool.true_and])
  ·refine ei (by omega) ?_
   repeat (first|refine ad ?_|refine af (by decide) ?_|refine ae ?_|refine ak ?_|refine aj ?_)
   exact done hI (by rw [u4,decide_eq_false hn,Bool.false_and,Bool.and_false])
 ·refine ei h3 ?_
  repeat (first|refine ad ?_|refine af (by decide) ?_|refine ae ?_|refine ak ?_|refine aj ?_)
  exact done hI (by rw [u4,decide_eq_false h3,Bool.false_and])
theorem ze (n:Bs) (hn:n.length<=1000000):Pure Tryz.prog DE [.string (st n)] S (.string (st (gp n))):=by
 intro w hI
 refine sX ?_
 unfold oO
 refine ⟨fun b w'=>b=.bool (decide (n=[105,115]) || decide (n=[109,111,100]))/\Inv w [] [] S w',?_,?_⟩
 ·refine xC (b:=[105,115]) ?_
  cases h5:decide (n=[105,115])
  ·repeat (first|refine ad ?_|refine af (by decide) ?_|refine ae ?_|refine ak ?_|refine aj ?_)
   refine xC (b:=[109,111,100]) ?_
   repeat (first|refine ad ?_|refine af (by decide) ?_|refine ae ?_|refine ak ?_|refine aj ?_)
   exact ⟨by rw [Bool.false_or],hI⟩
  ·repeat (first|refine ad ?_|refine af (by decide) ?_|refine ae ?_|refine ak ?_|refine aj ?_)
   exact ⟨by rw [Bool.true_or],hI⟩
 intro t8 _ _ _ _ _ w'
 rintro ⟨rfl,hI⟩
 refine aS (fun hb=>?_) (fun hb=>?_)
 ·rw [Bool.or_eq_true,decide_eq_true_eq,decide_eq_true_eq] at hb
  refine cZ (a:=[32]) (by simp; omega) ?_
  refine cZ (b:=[32]) (by simp; omega) ?_
  exact done hI (by rw [gp,if_pos hb]; rfl)
 ·rw [Bool.or_eq_false_iff,decide_eq_false_iff_not,decide_eq_false_iff_not] at hb
  exact done hI (by rw [gp,if_neg (by rintro (h|h); exact hb.1 h; exact hb.2 h)])
theorem zF (s:Bs) (h0:0<s.length):Pure Tryz.prog Eh [.string (st s)] S (.bool (CY s)):=by
 intro w hI
 refine vJ ?_
 unfold qY;dsimp only
 have e1:CY s=(sml s 0 || (dig s 0 || (upp s 0 || (sgn s 0 91 || sgn s 0 40)))):=rfl
 have eu:upp s 0=(decide (65<=s[0].toNat) && decide (s[0].toNat<=90)):=kR h0 65 90
 have ea:sgn s 0 91=decide (s[0].toNat=91):=i7 h0 91
 have eb:sgn s 0 40=decide (s[0].toNat=40):=i7 h0 40
 refine Run.callPure qP qH hI (lB s 0 S) fun w' hI=>?_
 cases hs:sml s 0
 ·repeat (first|refine ad ?_|refine af (by decide) ?_|refine ae ?_|refine ak ?_|refine aj ?_)
  refine Run.callPure ir iu hI (fR s 0 S) fun w' hI=>?_
  cases hd:dig s 0
  ·repeat (first|refine ad ?_|refine af (by decide) ?_|refine ae ?_|refine ak ?_|refine aj ?_)
   refine dZ (i:=0) bl h0 ?_
   rw [hs,hd,Bool.false_or,Bool.false_or] at e1
   by_cases h65:65<=s[0].toNat
   ·refine kU (by omega) ?_
    repeat (first|refine ad ?_|refine af (by decide) ?_|refine ae ?_|refine ak ?_|refine aj ?_)
    refine dZ (i:=0) bl h0 ?_
    by_cases h90:s[0].toNat<=90
    ·refine Db (by omega) ?_
     repeat (first|refine ad ?_|refine af (by decide) ?_|refine ae ?_|refine ak ?_|refine aj ?_)
     exact done hI (by rw [e1,eu,decide_eq_true h65,decide_eq_true h90]; rfl)
    ·refine Lo (by omega) ?_
     repeat (first|refine ad ?_|refine af (by decide) ?_|refine ae ?_|refine ak ?_|refine aj ?_)
     refine dZ (i:=0) bl h0 ?_
     by_cases h91:s[0].toNat=91
     ·refine fe (by omega) ?_
      repeat (first|refine ad ?_|refine af (by decide) ?_|refine ae ?_|refine ak ?_|refine aj ?_)
      exact done hI (by rw [e1,ea,decide_eq_true h91,Bool.true_or,Bool.or_true])
     ·refine ei (by omega) ?_
      repeat (first|refine ad ?_|refine af (by decide) ?_|refine ae ?_|refine ak ?_|refine aj ?_)
      refine dZ (i:=0) bl h0 ?_
      refine ei (by omega) ?_
      repeat (first|refine ad ?_|refine af (by decide) ?_|refine ae ?_|refine ak ?_|refine aj ?_)
      exact done hI (by rw [e1,eu,ea,eb,decide_eq_false h90,decide_eq_false h91,decide_eq_false (show ¬ s[0].toNat=40 by omega),Bool.and_false]; rfl)
   ·refine tg (by omega) ?_
    repeat (first|refine ad ?_|refine af (by decide) ?_|refine ae ?_|refine ak ?_|refine aj ?_)
    refine dZ (i:=0) bl h0 ?_
    refine ei (by omega) ?_
    repeat (first|refine ad ?_|refine af (by decide) ?_|refine ae ?_|refine ak ?_|refine aj ?_)
    refine dZ (i:=0) bl h0 ?_
    by_cases h40:s[0].toNat=40
    ·refine fe (by omega) ?_
     repeat (first|refine ad ?_|refine af (by decide) ?_|refine ae ?_|refine ak ?_|refine aj ?_)
     exact done hI (by rw [e1,eb,decide_eq_true h40,Bool.or_true,Bool.or_true])
    ·refine ei (by omega) ?_
     repeat (first|refine ad ?_|refine af (by decide) ?_|refine ae ?_|refine ak ?_|refine aj ?_)
     exact done hI (by rw [e1,eu,ea,eb,decide_eq_false h65,decide_eq_false (show ¬ s[0].toNat=91 by omega),decide_eq_false h40,Bool.false_and]; rfl)
  ·repeat (first|refine ad ?_|refine af (by decide) ?_|refine ae ?_|refine ak ?_|refine aj ?_)
   exact done hI (by rw [e1,hd,Bool.true_or,Bool.or_true])
 ·repeat (first|refine ad ?_|refine af (by decide) ?_|refine ae ?_|refine ak ?_|refine aj ?_)
  exact done hI (by rw [e1,hs,Bool.true_or])
theorem yW {n:Int} (h:0<=n/\n<=25):Pure Tryz.prog Dy [.int .i64 n] S (.string (st [UInt8.ofNat (65+n.toNat)])):=by
 intro w hI
 refine sW ?_
 unfold oe
 refine mQ mX fq (IntWalk.u8_in _ (by omega)) ?_
 refine NJ (c:=((65+n.toNat:Nat):Int)) ?_ ?_
 ·rw [IntWalk.u8_in _ (by omega)]; omega
 refine yh hI tp KI fq bl fun w' hI=>?_
 exact done hI rfl
theorem Fp:∀ (f n:Nat) (out r:Bs),zK f n out=some r->out.length<r.length/\r.length<=out.length+f
 | 0,_,_,_,h=>by simp [zK] at h
 | f+1,n,out,r,h=>by
  rw [zK] at h
  split at h
  ·have:=Fp f _ _ _ h
   simp only [List.length_cons] at this
   omega
  ·simp only [Option.some.injEq] at h
   subst h
   simp only [List.length_cons]
   omega
theorem rT {f n:Nat} {r:Bs} (h:zK f n []=some r) (hn:n<=100000) (hf:f<=1000):Pure Tryz.prog Ib [.int .i64 (n:Int)] S (.string (st r)):=by
 intro w hI
 refine yL ?_
 unfold uJ
 refine ey (by omega) ?_
 refine aS (fun hb=>by cases hb) (fun _=>?_)
 refine ey (by omega) ?_
 refine aS (fun hb=>by cases hb) (fun _=>?_)
 refine ⟨fun a b w'=>∃ (f' m:Nat) (out:Bs),a=.int .i64 (m:Int)/\b=.string (st out)/\m<=100000/\out.length+f'<=1000/\zK f' m out=some r/\Inv w [] [] S w',fun a _ _=>(intOf a).toNat,⟨f,n,[],rfl,rfl,hn,by simpa using hf,h,hI⟩,?_⟩
 intro t0 _ _ t3 _ _ _ _ _ _ _ _ _ _ w'
 rintro ⟨f',m,out,rfl,rfl,hm,hof,hd,hI⟩
 cases f' with
 | zero=>simp [zK] at hd
 | succ g=>
 rw [zK] at hd
 split at hd
 ·rename_i h9
  refine HO (by omega) ?_
  refine aS (fun _=>?_) (fun hb=>by cases hb)
  refine HS (a:=m) (b:=10) rfl rfl (by omega) ?_
  refine ew (a:=48) (b:=m % 10) rfl rfl (by omega) ?_
  refine mQ mX fq (IntWalk.u8_in _ (by omega)) ?_
  refine yh hI tp KI fq bl fun w' hI=>?_
  refine cZ (by simp; omega) ?_
  refine H1 (a:=m) (b:=10) rfl rfl (by omega) (by omega) ?_
  refine ⟨⟨g,m / 10,UInt8.ofNat (48+m % 10)::out,rfl,rfl,by omega,by simp only [List.length_cons]; omega,hd,hI⟩,?_⟩
  simp only [intOf,Int.toNat_natCast]
  omega
 ·rename_i h9
  refine ik (by omega) ?_
  refine aS (fun hb=>by cases hb) (fun _=>?_)
  refine ew (a:=48) (b:=m) rfl rfl (by omega) ?_
  refine mQ mX fq (IntWalk.u8_in _ (by omega)) ?_
  refine yh hI tp KI fq bl fun w' hI=>?_
  refine cZ (by simp; omega) ?_
  simp only [Option.some.injEq] at hd
  exact done hI (by rw [<- hd]; rfl)
theorem Fz {n:Int} {r:Bs} (h:NF n=some r) (hn:-999<=n/\n<=999):Pure Tryz.prog IY [.int .i64 n] S (.string (st r)):=by
 intro w hI
 refine Ag ?_
 unfold xb
 unfold NF at h
 split at h
 ·rename_i h0
  refine xy h0 ?_
  refine aS (fun _=>?_) (fun hb=>by cases hb)
  refine MY (by omega) ?_
  obtain ⟨m,hm⟩:∃ m:Nat,-n=(m:Int):=⟨(-n).toNat,by omega⟩
  rw [hm] at h ⊢
  rw [Int.toNat_natCast,Option.map_eq_some_iff] at h
  obtain ⟨l,hl,rfl⟩:=h
  have:=Fp _ _ _ _ hl
  refine Run.callPure uD uL hI (rT hl (by omega) (by omega)) fun w' hI=>?_
  refine cZ (a:=[45]) (by simp only [List.length_nil,List.length_cons] at this ⊢; omega) ?_
  exact done hI rfl
 ·rename_i h0
  refine ey h0 ?_
  refine aS (fun hb=>by cases hb) (fun _=>?_)
  obtain ⟨m,rfl⟩:∃ m:Nat,n=(m:Int):=⟨n.toNat,by omega⟩
  rw [Int.toNat_natCast] at h
  refine Run.callPure uD uL hI (rT h (by omega) (by omega)) fun w' hI=>?_
  exact done hI rfl
theorem C3 {t:T} {cs:List Value} {x:Bs} (h:RdT S cs t) (hp:yO t=false) (hx:KF t=some x):Pure Tryz.prog HP [.agg cs.toArray] S (.string (st x)):=by
 intro w hI
 have h0:=h
 obtain ⟨kv,rfl,_,_,_,hk⟩:=RdT.iff.1 h
 obtain ⟨ka,kc,rfl,_⟩:=id hk
 refine yv ?_
 unfold ve
 unfold KF at hx
 refine bS hI fun b1 w' hI=>?_
 refine ao hI 0 rfl bC aY rfl ?_
 split at hx
 ·rename_i h1
  refine fe h1 ?_
  refine aS (fun _=>?_) (fun hb=>by cases hb)
  refine ao hI 0 rfl bF aY rfl ?_
  split at hx
  ·rename_i h2
   refine Run.callPure zM zt hI (yW h2) fun w' hI=>?_
   simp only [Option.some.injEq] at hx
   exact done hI (by rw [<- hx])
  ·cases hx
 ·rename_i h1
  refine ei h1 ?_
  refine aS (fun hb=>by cases hb) (fun _=>?_)
  split at hx
  ·rename_i h2
   refine fe h2 ?_
   refine aS (fun _=>?_) (fun hb=>by cases hb)
   refine ao hI 0 rfl bF aY rfl ?_
   split at hx
   ·rename_i h3
    refine Run.callPure HC H8 hI (Fz hx h3) fun w' hI=>?_
    exact done hI rfl
   ·cases hx
  ·rename_i h2
   refine ei h2 ?_
   refine aS (fun hb=>by cases hb) (fun _=>?_)
   split at hx
   ·rename_i h3
    simp only [Option.some.injEq] at hx
    refine aL hI 0 ai rfl rfl ?_
    refine Run.callPure ma mr hI (iN h0) fun w' hI=>?_
    rw [hp]
    refine aS (fun hb=>by cases hb) (fun _=>?_)
    refine ao hI 0 rfl bB bn rfl ?_
    refine ⟨fun a b w'=>a=.int .i64 0/\b=.string t.name/\Inv w [] [.blk b1 (.cells #[.int .i64 t.kind,.int .i64 t.n,.string t.name,.slice ka t.kids.length kc] ab)] S w',fun _ _ _=>0,⟨rfl,rfl,hI⟩,?_⟩
    intro t4 _ _ _ _ _ _ _ _ _ _ _ _ t3 _ _ _ _ _ _ _ _ _ w'
    rintro ⟨rfl,rfl,hI⟩
    refine ao hI 0 rfl aK aJ rfl ?_
    refine eT aC ?_
    refine ey (by omega) ?_
    refine aS (fun hb=>by cases hb) (fun _=>?_)
    refine ⟨fun b w'=>b=.string t.name/\Inv w [] [.blk b1 (.cells #[.int .i64 t.kind,.int .i64 t.n,.string t.name,.slice ka t.kids.length kc] ab)] S w',?_,?_⟩
    ·refine ao hI 0 rfl aK aJ rfl ?_
     refine eT aC ?_
     refine ik (by omega) ?_
     refine aS (fun hb=>by cases hb) (fun _=>?_)
     exact ⟨rfl,hI⟩
    intro t3 _ _ _ _ _ _ w'
    rintro ⟨rfl,hI⟩
    exact done hI (by rw [<- hx])
   ·cases hx
end
/- lengths -/
theorem AP:∀ (f:Nat) (l:List T) (out x:Bs),lr f l out=some x->out.length<=x.length
 | 0,_,_,_,h=>by simp [lr] at h
 | _+1,[],out,x,h=>by simp [lr] at h; subst h; exact Nat.le_refl _
 | f+1,t::l,out,x,h=>by
  rw [lr] at h
  split at h
  ·cases h
  ·have:=AP f _ _ _ h
   simp only [List.length_append] at this
   omega
def lenOf:Value->Nat
 | .slice _ n _=>n
 | _=>0
def uw (f:Nat):Prop:=∀ (t:T) (x:Bs) (S:al) (cs:List Value),Df f t=some x->x.length<=1000000->RdT S cs t->Pure Tryz.prog GU [.agg cs.toArray] S (.string (st x))
def Hu (f:Nat):Prop:=∀ (t:T) (x:Bs) (S:al) (cs:List Value),Bf f t []=some x->x.length<=1000000->RdT S cs t->Pure Tryz.prog HM [.agg cs.toArray] S (.string (st x))
def Ce (f:Nat):Prop:=∀ (ts:List T) (x:Bs) (S:al) (u:Value),lr f ts []=some x->x.length<=1000000->RdSl S 4 (RdT S) u ts->Pure Tryz.prog Hv [u] S (.string (st x))
def nI (f:Nat):Prop:=∀ (t:T) (l:Int) (x:Bs) (S:al) (cs:List Value),mv f t l=some x->x.length<=1000000->RdT S cs t->Pure Tryz.prog At [.agg cs.toArray,.int .i64 l] S (.string (st x))
def GS (f:Nat):Prop:=∀ (t:T) (l:Int) (x:Bs) (S:al) (cs:List Value),Iw f t l=some x->x.length<=1000000->RdT S cs t->Pure Tryz.prog HW [.agg cs.toArray,.int .i64 l] S (.string (st x))
def C7 (f:Nat):Prop:=∀ (t:T) (l:Int) (x:Bs) (S:al) (cs:List Value),Dt f t l=some x->x.length<=1000000->RdT S cs t->Pure Tryz.prog EG [.agg cs.toArray,.int .i64 l] S (.string (st x))
section
attribute [local irreducible] Run CondV ag aO
theorem ML {f:Nat} (ih:∀ g,g<f->uw g):Ce f:=by
 intro ts x S u h hx hu w hI
 refine zi ?_
 unfold u0
 refine ⟨fun a b w'=>∃ (f' j:Nat) (out acc:Bs),f'<=f/\j<=ts.length/\a=.int .i64 (j:Int)/\b=.string (st out)/\acc=out++(if 0<j/\j<ts.length then [44] else [])/\lr f' (ts.drop j) acc=some x/\Inv w [] [] S w',
  fun a _ _=>ts.length - (intOf a).toNat,⟨f,0,[],[],Nat.le_refl _,Nat.zero_le _,rfl,rfl,by simp,h,hI⟩,?_⟩
 intro t4 _ _ _ _ _ _ _ _ _ t3 _ _ _ _ _ _ _ _ w'
 rintro ⟨f',j,out,acc,hf',hj,rfl,rfl,hacc,ha,hI⟩
 cases f' with
 | zero=>simp [lr] at ha
 | succ g=>
 refine bp hu aC ?_
 refine cg ?_
 refine bz (fun hji=>?_) (fun hji=>?_)
 ·have hj':j<ts.length:=by omega
  rw [List.drop_eq_getElem_cons hj',lr] at ha
  split at ha
  ·cases ha
  rename_i y hy
  have hlen:=AP _ _ _ _ ha
  simp only [List.length_append] at hlen
  refine ⟨fun b w'=>b=.string (st acc)/\Inv w [] [] S w',?_,?_⟩
  ·refine di ?_
   refine bz (fun h0=>?_) (fun h0=>?_)
   ·rw [if_pos (by omega)] at hacc
    refine cZ (b:=[44]) (by rw [hacc,List.length_append] at hlen; simp only [List.length_cons,List.length_nil] at hlen ⊢; omega) ?_
    exact ⟨by rw [hacc],hI⟩
   ·rw [if_neg (by omega),List.append_nil] at hacc
    exact ⟨by rw [hacc],hI⟩
  intro t3 _ _ _ _ w'
  rintro ⟨rfl,hI⟩
  refine cJ hI hu aC ai hj' (fun _ _=>RdT.length) fun cs hcs=>?_
  refine Run.callPure fp fw hI (ih g (by omega) _ y S cs hy (by omega) hcs) fun w' hI=>?_
  refine cZ (by omega) ?_
  refine bT (by have:=hu.le; simp only [maxLen] at this; omega) ?_
  refine ⟨⟨g,j+1,acc++y,_,by omega,hj',rfl,rfl,rfl,?_,hI⟩,by simp only [intOf,Int.toNat_natCast]; omega⟩
  have e:(if ts.drop (j+1)=[] then [] else [44]:Bs)=if 0<j+1/\j+1<ts.length then [44] else []:=by
   by_cases h1:j+1<ts.length
   ·rw [if_neg (fun h2=>by rw [List.drop_eq_nil_iff] at h2; omega),if_pos (by omega)]
   ·rw [if_pos (List.drop_eq_nil_of_le (by omega)),if_neg (by omega)]
  rw [<- e]
  exact ha
 ·have:j=ts.length:=by omega
  subst this
  rw [List.drop_length,lr] at ha
  simp only [Option.some.injEq] at ha
  rw [if_neg (by omega),List.append_nil] at hacc
  exact done hI (by rw [<- ha,hacc])
theorem H2 {f:Nat} (ih:∀ g,g<f->uw g):nI f:=by
 intro t l x S cs h hx hc w hI
 cases f with
 | zero=>simp [mv] at h
 | succ g=>
 rw [mv] at h
 split at h
 ·cases h
 rename_i y hy
 simp only [Option.some.injEq] at h
 have h0:=hc
 obtain ⟨kv,rfl,_,_,_,hk⟩:=RdT.iff.1 hc
 obtain ⟨ka,kc,rfl,_⟩:=id hk
 have hyx:y.length<=1000000/\y.length+2<=9000000:=by
  have:y.length<=x.length:=by
   rw [<- h]; split
   ·simp; omega
   ·omega
  omega
 refine rS ?_
 unfold nk
 refine bS hI fun b1 w' hI=>?_
 refine ⟨fun b w'=>b=.bool (kX t && decide (l<cq t.name))/\Inv w [] [.blk b1 (.cells #[.int .i64 t.kind,.int .i64 t.n,.string t.name,.slice ka t.kids.length kc] ab)] S w',?_,?_⟩
 ·refine aL hI 0 ai rfl rfl ?_
  refine Run.callPure qR sm hI (lq h0) fun w' hI=>?_
  cases hf:kX t
  ·repeat (first|refine ad ?_|refine af (by decide) ?_|refine ae ?_|refine ak ?_|refine aj ?_)
   exact ⟨by rw [Bool.false_and],hI⟩
  ·repeat (first|refine ad ?_|refine af (by decide) ?_|refine ae ?_|refine ak ?_|refine aj ?_)
   refine ao hI 0 rfl bB bn rfl ?_
   refine Run.callPure eq ev hI (cY _ S) fun w' hI=>?_
   refine di ?_
   repeat (first|refine ad ?_|refine af (by decide) ?_|refine ae ?_|refine ak ?_|refine aj ?_)
   exact ⟨by rw [Bool.true_and],hI⟩
 intro t13 _ _ _ _ _ _ _ _ w'
 rintro ⟨rfl,hI⟩
 refine aS (fun hb=>?_) (fun hb=>?_)
 ·rw [Bool.and_eq_true,decide_eq_true_eq] at hb
  rw [if_pos hb] at h
  refine aL hI 0 ai rfl rfl ?_
  refine Run.callPure fp fw hI (ih g (by omega) t y S _ hy hyx.1 h0) fun w' hI=>?_
  refine cZ (a:=[40]) (by simp only [List.length_cons,List.length_nil]; omega) ?_
  refine cZ (b:=[41]) (by simp only [List.length_append,List.length_cons,List.length_nil]; omega) ?_
  exact done hI (by rw [<- h])
 ·rw [if_neg (fun hh=>by rw [Bool.and_eq_false_iff,decide_eq_false_iff_not] at hb; rcases hb with hb|hb; rw [hh.1] at hb; cases hb; exact hb hh.2)] at h
  refine aL hI 0 ai rfl rfl ?_
  refine Run.callPure fp fw hI (ih g (by omega) t y S _ hy hyx.1 h0) fun w' hI=>?_
  exact done hI (by rw [<- h])
theorem LZ {f:Nat} (ih:∀ g,g<f->uw g) (ihB:∀ g,g<f->nI g):GS f:=by
 intro t l x S cs h hx hc w hI
 cases f with
 | zero=>simp [Iw] at h
 | succ g=>
 rw [Iw] at h
 have h0:=hc
 obtain ⟨kv,rfl,_,_,_,hk⟩:=RdT.iff.1 hc
 obtain ⟨ka,kc,rfl,_⟩:=id hk
 refine yX ?_
 unfold uZ
 refine bS hI fun b1 w' hI=>?_
 refine aL hI 0 ai rfl rfl ?_
 refine Run.callPure uU ui hI (mT h0) fun w' hI=>?_
 split at h
 ·rename_i hs
  split at h
  ·cases h
  rename_i y hy
  simp only [Option.some.injEq] at h
  have hyx:y.length+2=x.length:=by rw [<- h]; simp only [List.length_append,List.length_cons,List.length_nil]; omega
  rw [hs]
  refine aS (fun _=>?_) (fun hb=>by cases hb)
  refine aL hI 0 ai rfl rfl ?_
  refine Run.callPure fp fw hI (ih g (by omega) t y S _ hy (by omega) h0) fun w' hI=>?_
  refine cZ (a:=[40]) (by simp only [List.length_cons,List.length_nil]; omega) ?_
  refine cZ (b:=[41]) (by simp only [List.length_append,List.length_cons,List.length_nil]; omega) ?_
  exact done hI (by rw [<- h])
 ·rename_i hs
  rw [Bool.eq_false_iff.2 hs]
  refine aS (fun hb=>by cases hb) (fun _=>?_)
  refine aL hI 0 ai rfl rfl ?_
  refine Run.callPure mp mH hI (ihB g (by omega) t l x S _ h hx h0) fun w' hI=>?_
  exact done hI rfl
theorem Ki {f:Nat} (ihB:∀ g,g<f->nI g):C7 f:=by
 intro t l x S cs h hx hc w hI
 cases f with
 | zero=>simp [Dt] at h
 | succ g=>
 rw [Dt] at h
 split at h
 ·cases h
 rename_i y hy
 split at h
 ·cases h
 rename_i hne
 simp only [Option.some.injEq] at h
 have hy0:0<y.length:=by
  cases y with
  | nil=>exact absurd rfl hne
  | cons a l=>simp
 have hyx:y.length<=1000000:=by
  have:y.length<=x.length:=by
   rw [<- h]; split
   ·simp; omega
   ·omega
  omega
 have h0:=hc
 obtain ⟨kv,rfl,_,_,_,hk⟩:=RdT.iff.1 hc
 obtain ⟨ka,kc,rfl,_⟩:=id hk
 refine wz ?_
 unfold sn
 refine bS hI fun b1 w' hI=>?_
 refine aL hI 0 ai rfl rfl ?_
 refine Run.callPure mp mH hI (ihB g (by omega) t l y S _ hy hyx h0) fun w' hI=>?_
 refine ⟨fun b w'=>b=.bool (u4 t || !CY y)/\Inv w [] [.blk b1 (.cells #[.int .i64 t.kind,.int .i64 t.n,.string t.name,.slice ka t.kids.length kc] ab)] S w',?_,?_⟩
 ·refine aL hI 0 ai rfl rfl ?_
  refine Run.callPure uU ui hI (mT h0) fun w' hI=>?_
  cases hs:u4 t
  ·repeat (first|refine ad ?_|refine af (by decide) ?_|refine ae ?_|refine ak ?_|refine aj ?_)
   refine Run.callPure Dr CQ hI (zF y hy0) fun w' hI=>?_
   refine cK ?_
   repeat (first|refine ad ?_|refine af (by decide) ?_|refine ae ?_|refine ak ?_|refine aj ?_)
   exact ⟨by rw [Bool.false_or],hI⟩
  ·repeat (first|refine ad ?_|refine af (by decide) ?_|refine ae ?_|refine ak ?_|refine aj ?_)
   exact ⟨by rw [Bool.true_or],hI⟩
 intro t15 _ _ _ _ _ _ w'
 rintro ⟨rfl,hI⟩
 refine aS (fun hb=>?_) (fun hb=>?_)
 ·rw [Bool.or_eq_true,Bool.not_eq_true'] at hb
  rw [if_pos hb] at h
  refine cZ (a:=[40]) (by simp only [List.length_cons,List.length_nil]; omega) ?_
  refine cZ (b:=[41]) (by simp only [List.length_append,List.length_cons,List.length_nil]; omega) ?_
  exact done hI (by rw [<- h])
 ·rw [if_neg (fun hh=>by rw [<- Bool.not_eq_true',<- Bool.or_eq_true,hb] at hh; cases hh)] at h
  exact done hI (by rw [<- h])
theorem L0 {f:Nat} (hf:f<=100000) (ih:∀ g,g<f->uw g) (ihA:∀ g,g<f->Ce g):Hu f:=by
 intro t x S cs h hx hc w hI
 obtain ⟨kv,rfl,_,_,_,hk⟩:=RdT.iff.1 hc
 refine xG ?_
 unfold uf
 refine bS hI fun b1 w' hI=>?_
 refine eh hI bO fun v0 w' hI=>?_
 refine ⟨fun a w'=>∃ (f':Nat) (t':T) (items:List T) (ds:List Value) (css:List (List Value)),f'+items.length=f/\Bf f' t' items=some x/\RdT S ds t'/\Rows 4 (RdT S) css items/\(∃ p m,a=.slice p items.length m)/\Inv w [] [.blk b1 (.cells ds.toArray ab),bq a ab 4 css] S w',
  fun a _=>f+1 - lenOf a,⟨f,t,[],_,[],by simp,h,hc,Rows.nil _ _,?_,hI⟩,?_⟩
 ·have hI2:Inv w [] ([Item.blk b1 (.cells #[.int .i64 t.kind,.int .i64 t.n,.string t.name,kv] ab)]++[bq v0 ab 4 []]) S w':=hI
  obtain ⟨S1,_,hrd,_⟩:=Inv.lendExt hI2
  obtain ⟨p,m,e,_⟩:=RowRd.rows (Rows.nil 4 (RdT S)) hrd
  exact ⟨p,m,e⟩
 clear h hc hk hI
 intro _ _ _ _ t3 _ _ _ _ _ _ _ _ _ w'
 rintro ⟨f',t',items,ds,css,hfl,hl,hd,hR,⟨p,m,rfl⟩,hI⟩
 have hd0:=hd
 obtain ⟨kd,rfl,_,_,_,hk⟩:=RdT.iff.1 hd
 have hcl:=hR.hc
 cases f' with
 | zero=>simp [Bf] at hl
 | succ g=>
 rw [Bf] at hl
 refine aL hI 0 ai rfl rfl ?_
 refine Run.callPure ma mr hI (iN hd0) fun w' hI=>?_
 split at hl
 ·rename_i hp
  split at hl
  ·rename_i a b hab
   rw [hp]
   refine aS (fun _=>?_) (fun hb=>by cases hb)
   rw [hab] at hk
   refine ao hI 0 rfl aK aJ rfl ?_
   refine cJ (i:=0) hI hk aC ai (by simp) (fun _ _=>RdT.length) fun es hes=>?_
   rw [List.getElem_cons_zero] at hes
   refine f0 (css:=css) hI 1 es bO (by omega) (by omega) rfl hes.length hes.one (by omega) (by omega) fun v' w' hI=>?_
   refine ao hI 0 rfl aK aJ rfl ?_
   refine cJ (i:=1) hI hk aC ai (by simp) (fun _ _=>RdT.length) fun gs hgs=>?_
   rw [List.getElem_cons_succ,List.getElem_cons_zero] at hgs
   have hg1:=hgs.length
   refine aG hI 0 rfl ai (by simpa using hg1) rfl (by simpa using hgs.one) fun w' hI=>?_
   have hR2:=hR.snoc hes hes.length
   have hI2:Inv w [] ([Item.blk b1 (.cells gs.toArray ab)]++[bq v' ab 4 (css++[es])]) S w':=hI
   obtain ⟨S1,hE1,hrd,_⟩:=Inv.lendExt hI2
   obtain ⟨p',m',e',_⟩:=RowRd.rows hR2 hrd
   refine ⟨⟨g,b,items++[a],gs,css++[es],by rw [List.length_append]; simp only [List.length_cons,List.length_nil]; omega,hl,hgs,hR2,⟨p',m',e'⟩,hI⟩,?_⟩
   rw [e']
   simp only [lenOf,List.length_append,List.length_cons,List.length_nil]
   omega
  ·cases hl
 ·rename_i hp
  rw [Bool.eq_false_iff.2 hp]
  refine aS (fun hb=>by cases hb) (fun _=>?_)
  split at hl
  ·cases hl
  rename_i y hy
  refine aL hI 0 ai rfl rfl ?_
  refine Run.callPure HD Hg hI (zu hd0) fun w' hI=>?_
  have hI2:Inv w [] ([Item.blk b1 (.cells #[.int .i64 t'.kind,.int .i64 t'.n,.string t'.name,kd] ab)]++[bq (.slice p items.length m) ab 4 css]) S w':=hI
  obtain ⟨S1,hE1,hrd,hI⟩:=Inv.lendExt hI2
  have hrs:=RowRd.rows (hR.monoR fun _ _ h=>RdT.mono hE1.1 h) hrd
  have hd1:=RdT.mono hE1.1 hd0
  split at hl
  ·rename_i hn
   simp only [Option.some.injEq] at hl
   have hyx:y.length+2=x.length:=by rw [<- hl]; simp only [List.length_append,List.length_cons,List.length_nil]; omega
   rw [hn]
   refine aS (fun _=>?_) (fun hb=>by cases hb)
   refine Run.callPure mV mR hI (ihA g (by omega) items y S1 _ hy (by omega) hrs) fun w' hI=>?_
   refine cZ (a:=[91]) (by simp only [List.length_cons,List.length_nil]; omega) ?_
   refine cZ (b:=[93]) (by simp only [List.length_append,List.length_cons,List.length_nil]; omega) ?_
   exact u3 hI hE1.1 (by rw [<- hl])
  ·rename_i hn
   split at hl
   ·cases hl
   rename_i z hz
   simp only [Option.some.injEq] at hl
   have hyx:y.length+z.length+3=x.length:=by rw [<- hl]; simp only [List.length_append,List.length_cons,List.length_nil]; omega
   rw [Bool.eq_false_iff.2 hn]
   refine aS (fun hb=>by cases hb) (fun _=>?_)
   refine ⟨fun D x2 jP jc jK gC mz oA ki qu w_=>(D 0=true->qu=.slice p items.length m)/\(D 1=true->ki=.string (st y))/\(D 2=true->oA=.string (st ([91]++y)))/\(D 3=true->mz=.string (st ([91]++y++[124])))/\(D 4=true->gC=.agg #[.int .i64 t'.kind,.int .i64 t'.n,.string t'.name,kd])/\(D 5=true->jK=.string (st z))/\(D 6=true->jc=.string (st ([91]++y++[124]++z)))/\(D 7=true->jP=.string (st ([91]++y++[124]++z++[93])))/\(D 8=true->x2=.string (st ([91]++y++[124]++z++[93])))/\Inv w [] [.blk b1 (.cells #[.int .i64 t'.kind,.int .i64 t'.n,.string t'.name,kd] ab)] S1 w_,⟨ac,ac,ac,ac,ac,ac,ac,ac,ac,hI.draw⟩,⟨?_,?_,?_,?_,?_,?_,?_,?_,?_,trivial⟩,?_⟩
   all_goals (intro D bX; intros; rename_i x2 jP jc jK gC mz oA ki qu w_ hA_; obtain ⟨ax,ay,az,aA,aF,aH,aE,aM,aN,hI⟩:=hA_)
   ·exact ⟨fun _=>rfl,ay,az,aA,aF,aH,aE,aM,aN,hI⟩
   ·obtain rfl:=ax ‹_›
    refine Run.callPure mV mR hI (ihA g (by omega) items y S1 _ hy (by omega) hrs) fun w_ hI=>?_
    exact ⟨ax,fun _=>rfl,az,aA,aF,aH,aE,aM,aN,hI⟩
   ·obtain rfl:=ay ‹_›
    refine cZ (a:=[91]) (by simp only [List.length_cons,List.length_nil]; omega) ?_
    exact ⟨ax,ay,fun _=>rfl,aA,aF,aH,aE,aM,aN,hI⟩
   ·obtain rfl:=az ‹_›
    refine cZ (b:=[124]) (by simp only [List.length_append,List.length_cons,List.length_nil]; omega) ?_
    exact ⟨ax,ay,az,fun _=>rfl,aF,aH,aE,aM,aN,hI⟩
   ·refine aL hI 0 ai rfl rfl ?_
    exact ⟨ax,ay,az,aA,fun _=>rfl,aH,aE,aM,aN,hI⟩
   ·obtain rfl:=aF ‹_›
    refine Run.callPure fp fw hI (ih g (by omega) t' z S1 _ hz (by omega) hd1) fun w_ hI=>?_
    exact ⟨ax,ay,az,aA,aF,fun _=>rfl,aE,aM,aN,hI⟩
   ·obtain rfl:=aA ‹_›
    obtain rfl:=aH ‹_›
    refine cZ (by simp only [List.length_append,List.length_cons,List.length_nil]; omega) ?_
    exact ⟨ax,ay,az,aA,aF,aH,fun _=>rfl,aM,aN,hI⟩
   ·obtain rfl:=aE ‹_›
    refine cZ (b:=[93]) (by simp only [List.length_append,List.length_cons,List.length_nil]; omega) ?_
    exact ⟨ax,ay,az,aA,aF,aH,aE,fun _=>rfl,aN,hI⟩
   ·obtain rfl:=aM ‹_›
    exact ⟨ax,ay,az,aA,aF,aH,aE,aM,fun _=>rfl,hI⟩
   obtain rfl:=aN ‹_›
   obtain rfl:=aM ‹_›
   obtain rfl:=aE ‹_›
   obtain rfl:=aH ‹_›
   obtain rfl:=aF ‹_›
   obtain rfl:=aA ‹_›
   obtain rfl:=az ‹_›
   obtain rfl:=ay ‹_›
   obtain rfl:=ax ‹_›
   clear ax ay az aA aF aH aE aM aN
   exact u3 hI hE1.1 (by rw [<- hl])
theorem M4 {f:Nat} (ihL:∀ g,g<f->Hu g) (ihA:∀ g,g<f->Ce g) (ihF:∀ g,g<f->GS g) (ihR:∀ g,g<f->C7 g):uw f:=by
 intro t x S cs h hx hc w hI
 cases f with
 | zero=>simp [Df] at h
 | succ g=>
 rw [Df] at h
 have h0:=hc
 obtain ⟨kv,rfl,_,_,_,hk⟩:=RdT.iff.1 hc
 refine yP ?_
 unfold uP
 refine bS hI fun b1 w' hI=>?_
 obtain ⟨B1,hB1⟩:∃ B1,B1=Item.blk b1 (.cells #[.int .i64 t.kind,.int .i64 t.n,.string t.name,kv] ab):=⟨_,rfl⟩
 refine aL hI 0 ai rfl rfl ?_
 refine Run.callPure ma mr hI (iN h0) fun w' hI=>?_
 split at h
 ·rename_i hp
  rw [hp]
  refine aS (fun _=>?_) (fun hb=>by cases hb)
  refine aL hI 0 ai rfl rfl ?_
  refine Run.callPure Fo EC hI (ihL g (by omega) t x S _ h hx h0) fun w' hI=>?_
  exact done hI rfl
 rename_i hp
 have hp:=Bool.eq_false_iff.2 hp
 rw [hp]
 refine aS (fun hb=>by cases hb) (fun _=>?_)
 refine aL hI 0 ai rfl rfl ?_
 refine Run.callPure qR sm hI (lq h0) fun w' hI=>?_
 split at h
 ·rename_i hf
  rw [hf]
  refine aS (fun _=>?_) (fun hb=>by cases hb)
  split at h
  ·rename_i a b hab
   obtain ⟨lv,hlv⟩:∃ lv,lv=cq t.name:=⟨_,rfl⟩
   rw [<- hlv] at h
   have hlr:1<=lv/\lv<=3:=by
    have h1:0<cq t.name:=by
     unfold kX at hf
     simp only [Bool.and_eq_true,decide_eq_true_eq] at hf
     exact hf.2.2
    have h2:cq t.name<=3:=by
     unfold cq
     split
     ·omega
     ·split
      ·omega
      ·split <;> omega
    omega
   split at h
   ·rename_i y z hy hz
    simp only [Option.some.injEq] at h
    have hlen:y.length+(gp (bs t.name)).length+z.length=x.length:=by rw [<- h]; simp only [List.length_append]
    have hsp:(bs t.name).length<=(gp (bs t.name)).length:=by
     unfold gp
     split
     ·simp; omega
     ·omega
    rw [hab] at hk
    obtain ⟨b2,o2,cap2,c2,E2,fz2,rfl,hS,hRa⟩:=hk.at_ (i:=0) (by simp)
    obtain ⟨b2',o2',cap2',c2',E2',fz2',hsl,hS',hRb⟩:=hk.at_ (i:=1) (by simp)
    cases hsl
    rw [hS] at hS'
    cases hS'
    rw [List.getElem_cons_zero] at hRa
    rw [List.getElem_cons_succ,List.getElem_cons_zero] at hRb
    refine ao hI 0 rfl bB bn rfl ?_
    refine Run.callPure eq ev hI (cY _ S) fun w' hI=>?_
    rw [<- hlv]
    have hI:Inv w [] [B1] S w':=by rw [hB1]; exact hI
    refine ⟨fun v w'=>v=.int .i64 (if lv=3 then 2 else lv)/\Inv w [] [B1] S w',?_,?_⟩
    ·refine bP ?_
     refine bz (fun h3=>⟨by rw [if_pos h3],hI⟩) (fun h3=>⟨by rw [if_neg h3],hI⟩)
    intro t4 _ _ w'
    rintro ⟨rfl,hI⟩
    subst hB1
    skip
    refine ⟨fun D x2 jI kP ul lI rN jP jc jK gC mz oA ki qu uQ sH nU ku oZ w_=>(D 0=true->oZ=.pointer (some ⟨b1,3,none⟩))/\(D 1=true->ku=.slice (some ⟨b2,o2,none⟩) [a,b].length cap2)/\(D 2=true->nU=.pointer (some ⟨b2,o2+0 * 4,none⟩))/\(D 3=true->sH=.agg (bm c2 (o2+0 * 4) 4).toArray)/\(D 4=true->uQ=.int .i64 (if lv=3 then 2 else lv))/\(D 5=true->qu=.string (st y))/\(D 6=true->ki=.pointer (some ⟨b1,2,none⟩))/\(D 7=true->oA=.string t.name)/\(D 8=true->mz=.string (st (gp (bs t.name))))/\(D 9=true->gC=.string (st (y++gp (bs t.name))))/\(D 10=true->jK=.pointer (some ⟨b1,3,none⟩))/\(D 11=true->jc=.slice (some ⟨b2,o2,none⟩) [a,b].length cap2)/\(D 12=true->jP=.pointer (some ⟨b2,o2+1 * 4,none⟩))/\(D 13=true->rN=.agg (bm c2 (o2+1 * 4) 4).toArray)/\(D 14=true->lI=.int .i64 lv)/\(D 15=true->ul=.int .i64 (lv - 1))/\(D 16=true->kP=.string (st z))/\(D 17=true->jI=.string (st (y++gp (bs t.name)++z)))/\(D 18=true->x2=.string (st (y++gp (bs t.name)++z)))/\Inv w [] [.blk b1 (.cells #[.int .i64 t.kind,.int .i64 t.n,.string t.name,.slice (some ⟨b2,o2,none⟩) [a,b].length cap2] ab)] S w_,⟨ac,ac,ac,ac,ac,ac,ac,ac,ac,ac,ac,ac,ac,ac,ac,ac,ac,ac,ac,hI.draw⟩,⟨?_,?_,?_,?_,?_,?_,?_,?_,?_,?_,?_,?_,?_,?_,?_,?_,?_,?_,?_,trivial⟩,?_⟩
    all_goals (intro D bX; intros; rename_i x2 jI kP ul lI rN jP jc jK gC mz oA ki qu uQ sH nU ku oZ w_ hA_; obtain ⟨ax,ay,az,aA,aF,aH,aE,aM,aN,aR,aq,ar,aD,aP,aQ,aT,aU,aV,aZ,hI⟩:=hA_)
    ·refine aI aK ?_
     exact ⟨fun _=>rfl,ay,az,aA,aF,aH,aE,aM,aN,aR,aq,ar,aD,aP,aQ,aT,aU,aV,aZ,hI⟩
    ·obtain rfl:=ax ‹_›
     refine aX hI 0 aJ rfl rfl ?_
     exact ⟨ax,fun _=>rfl,az,aA,aF,aH,aE,aM,aN,aR,aq,ar,aD,aP,aQ,aT,aU,aV,aZ,hI⟩
    ·obtain rfl:=ay ‹_›
     refine be (i:=0) aC (by simp) ?_
     exact ⟨ax,ay,fun _=>rfl,aA,aF,aH,aE,aM,aN,aR,aq,ar,aD,aP,aQ,aT,aU,aV,aZ,hI⟩
    ·obtain rfl:=az ‹_›
     refine cL ai hRa.length (fun j v hj=>by rw [hI.cellS hS]; exact bh rfl j v hj) ?_
     exact ⟨ax,ay,az,fun _=>rfl,aF,aH,aE,aM,aN,aR,aq,ar,aD,aP,aQ,aT,aU,aV,aZ,hI⟩
    ·exact ⟨ax,ay,az,aA,fun _=>rfl,aH,aE,aM,aN,aR,aq,ar,aD,aP,aQ,aT,aU,aV,aZ,hI⟩
    ·obtain rfl:=aA ‹_›
     obtain rfl:=aF ‹_›
     refine Run.callPure Fv DO hI (ihF g (by omega) a _ y S _ hy (by omega) hRa) fun w_ hI=>?_
     exact ⟨ax,ay,az,aA,aF,fun _=>rfl,aE,aM,aN,aR,aq,ar,aD,aP,aQ,aT,aU,aV,aZ,hI⟩
    ·refine aI bB ?_
     exact ⟨ax,ay,az,aA,aF,aH,fun _=>rfl,aM,aN,aR,aq,ar,aD,aP,aQ,aT,aU,aV,aZ,hI⟩
    ·obtain rfl:=aE ‹_›
     refine aX hI 0 bn rfl rfl ?_
     exact ⟨ax,ay,az,aA,aF,aH,aE,fun _=>rfl,aN,aR,aq,ar,aD,aP,aQ,aT,aU,aV,aZ,hI⟩
    ·obtain rfl:=aM ‹_›
     refine Run.callPure zN Aw hI (ze (bs t.name) (by omega)) fun w_ hI=>?_
     exact ⟨ax,ay,az,aA,aF,aH,aE,aM,fun _=>rfl,aR,aq,ar,aD,aP,aQ,aT,aU,aV,aZ,hI⟩
    ·obtain rfl:=aH ‹_›
     obtain rfl:=aN ‹_›
     refine cZ (by omega) ?_
     exact ⟨ax,ay,az,aA,aF,aH,aE,aM,aN,fun _=>rfl,aq,ar,aD,aP,aQ,aT,aU,aV,aZ,hI⟩
    ·refine aI aK ?_
     exact ⟨ax,ay,az,aA,aF,aH,aE,aM,aN,aR,fun _=>rfl,ar,aD,aP,aQ,aT,aU,aV,aZ,hI⟩
    ·obtain rfl:=aq ‹_›
     refine aX hI 0 aJ rfl rfl ?_
     exact ⟨ax,ay,az,aA,aF,aH,aE,aM,aN,aR,aq,fun _=>rfl,aD,aP,aQ,aT,aU,aV,aZ,hI⟩
    ·obtain rfl:=ar ‹_›
     refine be (i:=1) aC (by simp) ?_
     exact ⟨ax,ay,az,aA,aF,aH,aE,aM,aN,aR,aq,ar,fun _=>rfl,aP,aQ,aT,aU,aV,aZ,hI⟩
    ·obtain rfl:=aD ‹_›
     refine cL ai hRb.length (fun j v hj=>by rw [hI.cellS hS]; exact bh rfl j v hj) ?_
     exact ⟨ax,ay,az,aA,aF,aH,aE,aM,aN,aR,aq,ar,aD,fun _=>rfl,aQ,aT,aU,aV,aZ,hI⟩
    ·exact ⟨ax,ay,az,aA,aF,aH,aE,aM,aN,aR,aq,ar,aD,aP,fun _=>rfl,aT,aU,aV,aZ,hI⟩
    ·obtain rfl:=aQ ‹_›
     refine ic (by omega) ?_
     exact ⟨ax,ay,az,aA,aF,aH,aE,aM,aN,aR,aq,ar,aD,aP,aQ,fun _=>rfl,aU,aV,aZ,hI⟩
    ·obtain rfl:=aP ‹_›
     obtain rfl:=aT ‹_›
     refine Run.callPure Cp C5 hI (ihR g (by omega) b _ z S _ hz (by omega) hRb) fun w_ hI=>?_
     exact ⟨ax,ay,az,aA,aF,aH,aE,aM,aN,aR,aq,ar,aD,aP,aQ,aT,fun _=>rfl,aV,aZ,hI⟩
    ·obtain rfl:=aR ‹_›
     obtain rfl:=aU ‹_›
     refine cZ (by rw [List.length_append]; omega) ?_
     exact ⟨ax,ay,az,aA,aF,aH,aE,aM,aN,aR,aq,ar,aD,aP,aQ,aT,aU,fun _=>rfl,aZ,hI⟩
    ·obtain rfl:=aV ‹_›
     exact ⟨ax,ay,az,aA,aF,aH,aE,aM,aN,aR,aq,ar,aD,aP,aQ,aT,aU,aV,fun _=>rfl,hI⟩
    obtain rfl:=aZ ‹_›
    obtain rfl:=aV ‹_›
    obtain rfl:=aU ‹_›
    obtain rfl:=aT ‹_›
    obtain rfl:=aQ ‹_›
    obtain rfl:=aP ‹_›
    obtain rfl:=aD ‹_›
    obtain rfl:=ar ‹_›
    obtain rfl:=aq ‹_›
    obtain rfl:=aR ‹_›
    obtain rfl:=aN ‹_›
    obtain rfl:=aM ‹_›
    obtain rfl:=aE ‹_›
    obtain rfl:=aH ‹_›
    obtain rfl:=aF ‹_›
    obtain rfl:=aA ‹_›
    obtain rfl:=az ‹_›
    obtain rfl:=ay ‹_›
    obtain rfl:=ax ‹_›
    clear ax ay az aA aF aH aE aM aN aR aq ar aD aP aQ aT aU aV aZ
    exact done hI (by rw [<- h])
   ·cases h
  ·cases h
 ·rename_i hf
  rw [Bool.eq_false_iff.2 hf]
  refine aS (fun hb=>by cases hb) (fun _=>?_)
  obtain ⟨ka,kc,rfl,_⟩:=id hk
  refine ⟨fun v w'=>v=.bool (decide (t.kind=3) && decide (0<t.kids.length))/\Inv w [] [B1] S w',?_,?_⟩
  ·refine ao hI 0 rfl bC aY rfl ?_
   by_cases h3:t.kind=3
   ·refine fe h3 ?_
    repeat (first|refine ad ?_|refine af (by decide) ?_|refine ae ?_|refine ak ?_|refine aj ?_)
    refine ao hI 0 rfl aK aJ rfl ?_
    refine eT aC ?_
    refine di ?_
    repeat (first|refine ad ?_|refine af (by decide) ?_|refine ae ?_|refine ak ?_|refine aj ?_)
    refine ⟨?_,by rw [hB1]; exact hI⟩
    rw [decide_eq_true h3,Bool.true_and]
    congr 1
    rw [decide_eq_decide]
    omega
   ·refine ei h3 ?_
    repeat (first|refine ad ?_|refine af (by decide) ?_|refine ae ?_|refine ak ?_|refine aj ?_)
    exact ⟨by rw [decide_eq_false h3,Bool.false_and],by rw [hB1]; exact hI⟩
  intro t37 _ _ _ _ _ _ _ _ _ w'
  rintro ⟨rfl,hI⟩
  subst hB1
  split at h
  ·rename_i hc3
   rw [decide_eq_true hc3.1,decide_eq_true hc3.2]
   refine aS (fun _=>?_) (fun hb=>by cases hb)
   split at h
   ·rename_i y hy
    simp only [Option.some.injEq] at h
    have hlen:(bs t.name).length+y.length+2=x.length:=by rw [<- h]; simp only [List.length_append,List.length_cons,List.length_nil]; omega
    skip
    refine ⟨fun D x2 uO pK jS sS tS uY pL lH w_=>(D 0=true->lH=.pointer (some ⟨b1,2,none⟩))/\(D 1=true->pL=.string t.name)/\(D 2=true->uY=.string (st (bs t.name++[40])))/\(D 3=true->tS=.pointer (some ⟨b1,3,none⟩))/\(D 4=true->sS=.slice ka t.kids.length kc)/\(D 5=true->jS=.string (st y))/\(D 6=true->pK=.string (st (bs t.name++[40]++y)))/\(D 7=true->uO=.string (st (bs t.name++[40]++y++[41])))/\(D 8=true->x2=.string (st (bs t.name++[40]++y++[41])))/\Inv w [] [.blk b1 (.cells #[.int .i64 t.kind,.int .i64 t.n,.string t.name,.slice ka t.kids.length kc] ab)] S w_,⟨ac,ac,ac,ac,ac,ac,ac,ac,ac,hI.draw⟩,⟨?_,?_,?_,?_,?_,?_,?_,?_,?_,trivial⟩,?_⟩
    all_goals (intro D bX; intros; rename_i x2 uO pK jS sS tS uY pL lH w_ hA_; obtain ⟨ax,ay,az,aA,aF,aH,aE,aM,aN,hI⟩:=hA_)
    ·refine aI bB ?_
     exact ⟨fun _=>rfl,ay,az,aA,aF,aH,aE,aM,aN,hI⟩
    ·obtain rfl:=ax ‹_›
     refine aX hI 0 bn rfl rfl ?_
     exact ⟨ax,fun _=>rfl,az,aA,aF,aH,aE,aM,aN,hI⟩
    ·obtain rfl:=ay ‹_›
     refine cZ (a:=bs t.name) (b:=[40]) (by simp only [List.length_cons,List.length_nil]; omega) ?_
     exact ⟨ax,ay,fun _=>rfl,aA,aF,aH,aE,aM,aN,hI⟩
    ·refine aI aK ?_
     exact ⟨ax,ay,az,fun _=>rfl,aF,aH,aE,aM,aN,hI⟩
    ·obtain rfl:=aA ‹_›
     refine aX hI 0 aJ rfl rfl ?_
     exact ⟨ax,ay,az,aA,fun _=>rfl,aH,aE,aM,aN,hI⟩
    ·obtain rfl:=aF ‹_›
     refine Run.callPure mV mR hI (ihA g (by omega) t.kids y S _ hy (by omega) hk) fun w_ hI=>?_
     exact ⟨ax,ay,az,aA,aF,fun _=>rfl,aE,aM,aN,hI⟩
    ·obtain rfl:=az ‹_›
     obtain rfl:=aH ‹_›
     refine cZ (by simp only [List.length_append,List.length_cons,List.length_nil]; omega) ?_
     exact ⟨ax,ay,az,aA,aF,aH,fun _=>rfl,aM,aN,hI⟩
    ·obtain rfl:=aE ‹_›
     refine cZ (b:=[41]) (by simp only [List.length_append,List.length_cons,List.length_nil]; omega) ?_
     exact ⟨ax,ay,az,aA,aF,aH,aE,fun _=>rfl,aN,hI⟩
    ·obtain rfl:=aM ‹_›
     exact ⟨ax,ay,az,aA,aF,aH,aE,aM,fun _=>rfl,hI⟩
    obtain rfl:=aN ‹_›
    obtain rfl:=aM ‹_›
    obtain rfl:=aE ‹_›
    obtain rfl:=aH ‹_›
    obtain rfl:=aF ‹_›
    obtain rfl:=aA ‹_›
    obtain rfl:=az ‹_›
    obtain rfl:=ay ‹_›
    obtain rfl:=ax ‹_›
    clear ax ay az aA aF aH aE aM aN
    exact done hI (by rw [<- h])
   ·cases h
  ·rename_i hc3
   have e:(decide (t.kind=3) && decide (0<t.kids.length))=false:=by
    rw [Bool.eq_false_iff,ne_eq,Bool.and_eq_true,decide_eq_true_eq,decide_eq_true_eq]; exact hc3
   rw [e]
   refine aS (fun hb=>by cases hb) (fun _=>?_)
   refine aL hI 0 ai rfl rfl ?_
   refine Run.callPure Eg Fk hI (C3 h0 hp h) fun w' hI=>?_
   exact done hI rfl
theorem IC:∀ F f,f<F->F<=1000->uw f/\Hu f/\Ce f/\nI f/\GS f/\C7 f
 | 0,f,h,_=>by omega
 | F+1,f,h,hF=>by
  have ih:=fun g (hg:g<f)=>IC F g (by omega) (by omega)
  have hT:uw f:=M4 (fun g hg=>(ih g hg).2.1) (fun g hg=>(ih g hg).2.2.1) (fun g hg=>(ih g hg).2.2.2.2.1) (fun g hg=>(ih g hg).2.2.2.2.2)
  exact ⟨hT,L0 (by omega) (fun g hg=>(ih g hg).1) (fun g hg=>(ih g hg).2.2.1),ML fun g hg=>(ih g hg).1,H2 fun g hg=>(ih g hg).1,LZ (fun g hg=>(ih g hg).1) (fun g hg=>(ih g hg).2.2.2.1),Ki fun g hg=>(ih g hg).2.2.2.1⟩
theorem A2 {f:Nat} (hf:f<=100):uw f:=(IC (f+1) f (by omega) (by omega)).1
end
end Go.Proofs.YtfcbhfjomgopbaaGreat

/- Copies whose topmost row is still the caller's own, all else published. (printed by gen_top.py out of Copy and CopyC) -/
namespace Go.Proofs.YtfcbhfjomgopbaaGreat
open Go Go.RowKit
theorem Grown.rows {α:Type} {k:Nat} {R:bG->List Value->α->Prop} {R':List Value->α->Prop} {Ls:List bG} {css:List (List Value)} {ys:List α} {S:al} (h:Grown k R Ls css ys) (hi:Ins S Ls.flatten)
  (hR:∀ L cs x,Ins S L->R L cs x->R' cs x):Rows k R' css ys:=
 ⟨h.hc,h.hk,fun i h1 h2=>hR _ _ _ (wO hi (by rw [h.hL]; exact h1)) (h.hR i h1 (by rw [h.hL]; exact h1) h2)⟩
abbrev Lf (t:T):Value->List Item->al->Prop:=fun v I' S'=>∃ kv css,v=.agg #[.int .i64 t.kind,.int .i64 t.n,.string t.name,kv]/\I'=[bq kv ab 4 css]/\Rows 4 (RdT S') css t.kids
section
attribute [local irreducible] Run CondV ag aO
theorem Je:∀ (t:T) (S:al) (cs:List Value),RdT S cs t->wT t<=1048576->Tri Tryz.prog pi [.agg cs.toArray] [] S (Lf t):=by
 intro t S cs h hw
 obtain ⟨k,n,s,ks⟩:=t
 have ih:∀ t∈ks,∀ (S:al) (cs:List Value),RdT S cs t->wT t<=1048576->Tri Tryz.prog pi [.agg cs.toArray] [] S (Bg S t):=fun t _=>fE t
 intro w hI
 obtain ⟨kv,rfl,h1,h2,hs,hks⟩:=RdT.iff.1 h
 simp only [T.name,T.kids,T.kind,T.n] at h1 h2 hs hks ⊢
 simp only [wT] at hw
 refine mL ?_
 unfold mi
 refine bS hI fun b1 w' hI=>?_
 refine bi hI bH fun b2 w' hI=>?_
 refine ao hI 0 rfl bC aY rfl ?_
 refine ao hI 0 rfl bF aY rfl ?_
 refine ao hI 0 rfl bB bn rfl ?_
 refine ia ?_
 refine bi hI bH fun b3 w' hI=>?_
 refine aG hI 2 rfl ai rfl rfl (by simp [Value.oneCell']) fun w' hI=>?_
 have hI:=hI.rowNil ab 4
 refine ⟨fun i w'=>∃ (j:Nat) (kvc:Value) (Ls:List bG) (css:List (List Value)),j<=ks.length/\i=.int .i64 j/\Grown 4 TrT Ls css (ks.take j)/\
   Inv w [] (.blk b1 (.cells #[.int .i64 k,.int .i64 n,.string s,kv] ab)::.blk b2 (.cells #[.int .i64 0,.int .i64 0,.string ⟨#[]⟩,.slice none 0 0] ab)::.blk b3 (.cells #[.int .i64 k,.int .i64 n,.string s,kvc] ab)::bq kvc ab 4 css::bV Ls.flatten) S w',
  fun i _=>ks.length - (intOf i).toNat,⟨0,_,[],[],Nat.zero_le _,rfl,Grown.nil _ _,hI⟩,?_⟩
 intro t4 _ _ _ _ _ _ _ _ _ _ _ _ _ _ _ _ _ _ w'
 rintro ⟨j,kvc,Ls,css,hj,rfl,hg,hI⟩
 refine ao hI 0 rfl aK aJ rfl ?_
 refine bp hks aC ?_
 refine cg ?_
 refine bz (fun hji=>?_) (fun hji=>?_)
 ·have hj':j<ks.length:=by omega
  have hjl:(ks.take j).length=j:=by simp; omega
  have hcl:=hg.hc
  have hm:=List.getElem_mem hj'
  have hwm:=jO hm
  obtain ⟨b,o,cap,c,E,fz,rfl,hS,hR⟩:=hks.at_ hj'
  refine ⟨fun D jK gC mz oA ki qu uQ sH nU ku oZ w_=>(D 0=true->oZ=.pointer (some ⟨b3,3,none⟩))/\(D 1=true->ku=kvc)/\(D 2=true->nU=.pointer (some ⟨b1,3,none⟩))/\(D 3=true->sH=.slice (some ⟨b,o,none⟩) (ks).length cap)/\(D 4=true->uQ=.int .i64 j)/\(D 5=true->qu=.pointer (some ⟨b,o+j * 4,none⟩))/\(D 6=true->ki=.agg (bm c (o+j * 4) 4).toArray)/\(D 7=true->True)/\(D 8=true->True)/\(D 9=true->True)/\(D 10=true->jK=.pointer (some ⟨b3,3,none⟩))/\(D 11=true->True)/\∃ M cs7 b8,(D 7=true->oA=.agg cs7.toArray/\TrT M cs7 (ks)[j])/\(D 8=true->mz=.slice (some ⟨b8,0,none⟩) 1 1)/\(D 8=true->D 7=true)/\(D 9=true->D 8=true)/\(D 11=true->D 9=true)/\(D 11=true->D 1=true)/\Inv w [] (bI (.blk b1 (.cells #[.int .i64 k,.int .i64 n,.string s,.slice (some ⟨b,o,none⟩) ks.length cap] ab)) (.blk b2 (.cells #[.int .i64 0,.int .i64 0,.string ⟨#[]⟩,.slice none 0 0] ab)) (.blk b3 (.cells #[.int .i64 k,.int .i64 n,.string s,kvc] ab)) (.blk b3 (.cells #[.int .i64 k,.int .i64 n,.string s,gC] ab)) (bq kvc ab 4 css) (bq gC ab 4 (css++[cs7])) (bV Ls.flatten) M (.blk b8 (.cells cs7.toArray ab)) (D 7) (D 8) (D 9) (D 11)) S w_,⟨ac,ac,ac,ac,ac,ac,ac,ac,ac,ac,ac,ac,⟨[],[],0,ac,ac,ac,ac,ac,ac,by simpa [bI,bV] using hI.draw⟩⟩,⟨?_,?_,?_,?_,?_,?_,?_,?_,?_,?_,?_,?_,trivial⟩,?_⟩
  all_goals (intro D bX; intros; rename_i jK gC mz oA ki qu uQ sH nU ku oZ w_ hA_; obtain ⟨ax,ay,az,aA,aF,aH,aE,aM,aN,aR,aq,ar,⟨M,cs7,b8,e7,e8,k8,k9,k11,k1,hI⟩⟩:=hA_)
  ·refine aI aK ?_
   exact ⟨fun _=>rfl,ay,az,aA,aF,aH,aE,aM,aN,aR,aq,ar,⟨M,cs7,b8,e7,e8,k8,k9,k11,k1,hI⟩⟩
  ·obtain rfl:=ax ‹_›
   have f11:D 11=false:=Bool.eq_false_iff.2 fun h=>by rw [k1 h] at bX; cases bX
   refine aX (b:=b3) hI 2 (c:=(#[.int .i64 k,.int .i64 n,.string s,kvc])) aJ (by rw [f11]; rfl) rfl ?_
   have k1:=fun (_:ah D 1 11=true)=>(rfl:ah D 1 1=true)
   exact ⟨ax,fun _=>rfl,az,aA,aF,aH,aE,aM,aN,aR,aq,ar,⟨M,cs7,b8,e7,e8,k8,k9,k11,k1,hI⟩⟩
  ·refine aI aK ?_
   exact ⟨ax,ay,fun _=>rfl,aA,aF,aH,aE,aM,aN,aR,aq,ar,⟨M,cs7,b8,e7,e8,k8,k9,k11,k1,hI⟩⟩
  ·obtain rfl:=az ‹_›
   refine aX hI 0 aJ rfl rfl ?_
   exact ⟨ax,ay,az,fun _=>rfl,aF,aH,aE,aM,aN,aR,aq,ar,⟨M,cs7,b8,e7,e8,k8,k9,k11,k1,hI⟩⟩
  ·exact ⟨ax,ay,az,aA,fun _=>rfl,aH,aE,aM,aN,aR,aq,ar,⟨M,cs7,b8,e7,e8,k8,k9,k11,k1,hI⟩⟩
  ·obtain rfl:=aA ‹_›
   obtain rfl:=aF ‹_›
   refine be aC hj' ?_
   exact ⟨ax,ay,az,aA,aF,fun _=>rfl,aE,aM,aN,aR,aq,ar,⟨M,cs7,b8,e7,e8,k8,k9,k11,k1,hI⟩⟩
  ·obtain rfl:=aH ‹_›
   refine cL ai hR.length (fun j v hj=>by rw [hI.cellS hS]; exact bh rfl j v hj) ?_
   exact ⟨ax,ay,az,aA,aF,aH,fun _=>rfl,aM,aN,aR,aq,ar,⟨M,cs7,b8,e7,e8,k8,k9,k11,k1,hI⟩⟩
  ·obtain rfl:=aE ‹_›
   have f8:D 8=false:=Bool.eq_false_iff.2 fun h=>by rw [k8 h] at bX; cases bX
   have f9:D 9=false:=Bool.eq_false_iff.2 fun h=>by rw [k9 h] at f8; cases f8
   have f11:D 11=false:=Bool.eq_false_iff.2 fun h=>by rw [k11 h] at f9; cases f9
   rw [bX,f8,f9,f11] at hI
   refine Run.call0 eK eH hI (ih _ (List.getElem_mem hj') S _ hR (by omega)) fun v' I' S w_=>?_
   rintro ⟨rfl,cs7,M,rfl,rfl,hT⟩ _ hI
   have e7:ah D 7 7=true->Value.agg cs7.toArray=Value.agg cs7.toArray/\TrT M cs7 (ks)[j]:=fun _=>⟨rfl,hT⟩
   have k8:=fun (_:ah D 7 8=true)=>(rfl:ah D 7 7=true)
   have hI:Inv w [] (bI (.blk b1 (.cells #[.int .i64 k,.int .i64 n,.string s,.slice (some ⟨b,o,none⟩) ks.length cap] ab)) (.blk b2 (.cells #[.int .i64 0,.int .i64 0,.string ⟨#[]⟩,.slice none 0 0] ab)) (.blk b3 (.cells #[.int .i64 k,.int .i64 n,.string s,kvc] ab)) (.blk b3 (.cells #[.int .i64 k,.int .i64 n,.string s,gC] ab)) (bq kvc ab 4 css) (bq gC ab 4 (css++[cs7])) (bV Ls.flatten) M (.blk b8 (.cells cs7.toArray ab)) true (D 8) (D 9) (D 11)) S w_:=by
    rw [f8,f9,f11]
    simpa [bI] using hI
   exact ⟨ax,ay,az,aA,aF,aH,aE,fun _=>by first|assumption|trivial,aN,aR,aq,ar,⟨M,cs7,b8,e7,e8,k8,k9,k11,k1,hI⟩⟩
  ·have Gd:=aM ‹_›
   have f9:D 9=false:=Bool.eq_false_iff.2 fun h=>by rw [k9 h] at bX; cases bX
   have f11:D 11=false:=Bool.eq_false_iff.2 fun h=>by rw [k11 h] at f9; cases f9
   obtain ⟨q7,hT⟩:=e7 ‹D 7=true›
   subst q7
   rw [‹D 7=true›,bX,f9,f11] at hI
   refine dh hI bO (by simp [Value.cells,hT.length]) (by omega) (by omega) fun b8 w_ hI=>?_
   have e7:ah D 8 7=true->Value.agg cs7.toArray=Value.agg cs7.toArray/\TrT M cs7 (ks)[j]:=fun _=>⟨rfl,hT⟩
   have e8:=fun (_:ah D 8 8=true)=>(rfl:Value.slice (some ⟨b8,0,none⟩) 1 1=_)
   have k8:=fun (_:ah D 8 8=true)=>‹D 7=true›
   have k9:=fun (_:ah D 8 9=true)=>(rfl:ah D 8 8=true)
   have hI:Inv w [] (bI (.blk b1 (.cells #[.int .i64 k,.int .i64 n,.string s,.slice (some ⟨b,o,none⟩) ks.length cap] ab)) (.blk b2 (.cells #[.int .i64 0,.int .i64 0,.string ⟨#[]⟩,.slice none 0 0] ab)) (.blk b3 (.cells #[.int .i64 k,.int .i64 n,.string s,kvc] ab)) (.blk b3 (.cells #[.int .i64 k,.int .i64 n,.string s,gC] ab)) (bq kvc ab 4 css) (bq gC ab 4 (css++[cs7])) (bV Ls.flatten) M (.blk b8 (.cells cs7.toArray ab)) (D 7) true (D 9) (D 11)) S w_:=by
    rw [‹D 7=true›,f9,f11]
    simpa [bI,Value.cells] using hI
   exact ⟨ax,ay,az,aA,aF,aH,aE,aM,fun _=>by first|assumption|trivial,aR,aq,ar,⟨M,cs7,b8,e7,e8,k8,k9,k11,k1,hI⟩⟩
  ·obtain rfl:=ay ‹_›
   have BL:=aN ‹_›
   have f11:D 11=false:=Bool.eq_false_iff.2 fun h=>by rw [k11 h] at bX; cases bX
   have q8:=e8 ‹D 8=true›
   subst q8
   obtain ⟨_,hT⟩:=e7 ‹D 7=true›
   rw [‹D 7=true›,‹D 8=true›,bX,f11] at hI
   have hblk:((bI (.blk b1 (.cells #[.int .i64 k,.int .i64 n,.string s,.slice (some ⟨b,o,none⟩) ks.length cap] ab)) (.blk b2 (.cells #[.int .i64 0,.int .i64 0,.string ⟨#[]⟩,.slice none 0 0] ab)) (.blk b3 (.cells #[.int .i64 k,.int .i64 n,.string s,ku] ab)) (.blk b3 (.cells #[.int .i64 k,.int .i64 n,.string s,gC] ab)) (bq ku ab 4 css) (bq gC ab 4 (css++[cs7])) (bV Ls.flatten) M (.blk b8 (.cells cs7.toArray ab)) true true false false))[4+(bV Ls.flatten).length+(bV M).length]?=some (.blk b8 (.cells cs7.toArray ab)):=by
    have e4:4+(bV Ls.flatten).length+(bV M).length=((bV Ls.flatten).length+(bV M).length)+1+1+1+1:=by omega
    rw [e4]
    simp only [bI,List.getElem?_cons_succ]
    rw [List.getElem?_append_right (by omega),Nat.add_sub_cancel_left,List.getElem?_append_right (Nat.le_refl _),Nat.sub_self]; rfl
   refine fm hI 3 cs7 bO (by omega) rfl (by rw [hT.length]) (m:=1) (o:=0) ?_ hT.one (by omega) (by omega) fun v' w_ hI=>?_
   ·intro i u hi
    rw [hI.cellL hblk,Nat.zero_add]
    simpa using hi
   rw [f1] at hI
   have k9:=fun (_:ah D 9 9=true)=>‹D 8=true›
   have k11:=fun (_:ah D 9 11=true)=>(rfl:ah D 9 9=true)
   have hI:Inv w [] (bI (.blk b1 (.cells #[.int .i64 k,.int .i64 n,.string s,.slice (some ⟨b,o,none⟩) ks.length cap] ab)) (.blk b2 (.cells #[.int .i64 0,.int .i64 0,.string ⟨#[]⟩,.slice none 0 0] ab)) (.blk b3 (.cells #[.int .i64 k,.int .i64 n,.string s,ku] ab)) (.blk b3 (.cells #[.int .i64 k,.int .i64 n,.string s,v'] ab)) (bq ku ab 4 css) (bq v' ab 4 (css++[cs7])) (bV Ls.flatten) M (.blk b8 (.cells cs7.toArray ab)) (D 7) (D 8) true (D 11)) S w_:=by
    rw [‹D 7=true›,‹D 8=true›,f11]
    exact hI
   exact ⟨ax,ay,az,aA,aF,aH,aE,aM,aN,fun _=>by first|assumption|trivial,aq,ar,⟨M,cs7,b8,e7,e8,k8,k9,k11,k1,hI⟩⟩
  ·refine aI aK ?_
   exact ⟨ax,ay,az,aA,aF,aH,aE,aM,aN,aR,fun _=>rfl,ar,⟨M,cs7,b8,e7,e8,k8,k9,k11,k1,hI⟩⟩
  ·obtain rfl:=aq ‹_›
   have Ge:=aR ‹_›
   rw [‹D 7=true›,‹D 8=true›,‹D 9=true›,bX] at hI
   obtain ⟨va,vn,vc,hv9⟩:=Inv.rowSlice hI 3 rfl
   refine dy hI 2 (n:=1) (by rw [hv9]; rfl) (by decide +kernel) rfl (by simp) (by rw [hv9]; simp [Value.cells,Value.oneCell']) fun w_ hI=>?_
   have hcl9:Value.cells gC=#[gC]:=by rw [hv9]; rfl
   rw [hcl9] at hI
   have k1:=fun (_:ah D 11 11=true)=>‹D 1=true›
   have k11:=fun (_:ah D 11 11=true)=>‹D 9=true›
   have hI:Inv w [] (bI (.blk b1 (.cells #[.int .i64 k,.int .i64 n,.string s,.slice (some ⟨b,o,none⟩) ks.length cap] ab)) (.blk b2 (.cells #[.int .i64 0,.int .i64 0,.string ⟨#[]⟩,.slice none 0 0] ab)) (.blk b3 (.cells #[.int .i64 k,.int .i64 n,.string s,kvc] ab)) (.blk b3 (.cells #[.int .i64 k,.int .i64 n,.string s,gC] ab)) (bq kvc ab 4 css) (bq gC ab 4 (css++[cs7])) (bV Ls.flatten) M (.blk b8 (.cells cs7.toArray ab)) (D 7) (D 8) (D 9) true) S w_:=by
    rw [‹D 7=true›,‹D 8=true›,‹D 9=true›]
    exact hI
   exact ⟨ax,ay,az,aA,aF,aH,aE,aM,aN,aR,aq,fun _=>trivial,⟨M,cs7,b8,e7,e8,k8,k9,k11,k1,hI⟩⟩
  obtain rfl:=aq ‹_›
  have Ge:=aR ‹_›
  have BL:=aN ‹_›
  have Gd:=aM ‹_›
  obtain rfl:=aE ‹_›
  obtain rfl:=aH ‹_›
  obtain rfl:=aF ‹_›
  obtain rfl:=aA ‹_›
  obtain rfl:=az ‹_›
  obtain rfl:=ay ‹_›
  obtain rfl:=ax ‹_›
  have Bk:D 7=true:=by assumption
  have zn:D 8=true:=by assumption
  have ES:D 9=true:=by assumption
  have sR:D 11=true:=by assumption
  clear ax ay az aA aF aH aE aM aN aR aq ar
  obtain ⟨_,hT⟩:=e7 Bk
  rw [Bk,zn,ES,sR] at hI
  refine bT (by omega) ?_
  refine ⟨⟨j+1,gC,Ls++[M],css++[cs7],hj',rfl,?_,?_⟩,by simp [intOf]; omega⟩
  ·rw [List.take_succ_eq_append_getElem hj']
   exact hg.snoc hT hT.length
  ·simp only [List.flatten_append,List.flatten_cons,List.flatten_nil,List.append_nil,eF]
   refine hI.sub ?_
   simp only [bI]
   rw [<- List.append_assoc]
   exact (((List.sublist_append_left _ _).cons_cons _).cons_cons _).cons_cons _ |>.cons_cons _
 ·have:j=ks.length:=by omega
  subst this
  rw [List.take_length] at hg
  obtain ⟨va,vn,vc,hvk⟩:=hI.rowSlice 3 rfl
  have hv1:kvc.oneCell'=true:=by rw [hvk]; rfl
  refine aL hI 2 ai rfl rfl ?_
  refine aG hI 1 rfl ai rfl rfl ?_ fun w' hI=>?_
  ·intro u hu
   have hu':u∈([.int .i64 k,.int .i64 n,.string s,kvc]:List Value):=hu
   simp at hu'
   rcases hu' with rfl|rfl|rfl|rfl <;> first|rfl|exact hv1
  refine bE hI 1 ai rfl rfl ?_
  have hI:Inv w [] ([bq kvc ab 4 css]++bV Ls.flatten) S w':=hI.sub (List.sublist_append_right [_,_,_] _)
  obtain ⟨S1,hI,hE,hins⟩:=hI.pubExt
  exact ⟨_,_,S1,rfl,hI,hE,_,css,rfl,rfl,hg.rows hins fun _ _ _ hi h=>h.rd hi⟩
end
end Go.Proofs.YtfcbhfjomgopbaaGreat

/- Clauses and programs read: spec.l4Text, FormatClause, l4Goals, ParseClause, l18Cut, ParseProgram. -/
namespace Go.Proofs.YtfcbhfjomgopbaaGreat
open Go Go.RowKit
theorem tH:∀ (f:Nat) (l:List T) (b:Bool) (out x:Bs),uh f l b out=some x->out.length<=x.length
 | _,[],_,out,x,h=>by simp only [uh,Option.some.injEq] at h; subst h; exact Nat.le_refl _
 | f,t::l,b,out,x,h=>by
  rw [uh] at h
  split at h
  ·cases h
  ·have:=tH f _ _ _ _ h
   simp only [List.length_append] at this
   omega
section
variable {w0 w:World} {X:List Nat} {L:List Item} {S:al} {P:Program} {K:Value->World->Prop}
attribute [local irreducible] Run CondV ag aO
theorem GP (h:Inv w0 X L S w) {T ty e:TypeId} {by_:Nat} {z v x:Value} {cs:List Bool} {css:List (List Value)} (i:Nat)
  (hT:fB P T=some (e,1,by_,z)) (hi:L[i]?=some (bq v e 1 css)) (hx:x.cells=#[x]) (h1:x.oneCell'=true) (hfit:css.length+1<=4294967296) (hby:by_<=32768)
  (hk:∀ v' w',Inv w0 X (L.set i (bq v' e 1 (css++[[x]]))) S w'->K v' w') :
  Run P (av T 1 [(0,x)]) w fun u w'=>Run P (bx .append #[T,T] ty cs [v,u]) w' K:=by
 refine dh h hT (by rw [hx]; rfl) (by omega) (by omega) fun b w' hI=>?_
 have hil:i<L.length:=(List.getElem?_eq_some_iff.1 hi).1
 refine fm hI i [x] hT (by omega) (by rw [List.getElem?_append_left hil]; exact hi) (by simp) (m:=1) (o:=0) ?_ (by simpa using h1) hfit hby fun v' w' hI=>?_
 ·intro j u hj
  rw [hI.cellL (i:=L.length) (by rw [List.getElem?_append_right (Nat.le_refl _),Nat.sub_self]; rfl)]
  rw [Nat.zero_add,hx]
  simpa using hj
 ·refine hk _ _ ?_
  rw [<- f1]
  rw [List.set_append_left _ _ hil] at hI
  exact hI.sub (List.sublist_append_left _ _)
end
section
variable {S:al}
attribute [local irreducible] Run CondV ag aO
theorem Dh {f:Nat} (hf:f<=100) {c:C} {cs:List Value} {x:Bs} (h:RdC S cs c) (hx:Iu f c=some x) (hl:x.length<=1000000):Pure Tryz.prog GD [.agg cs.toArray] S (.string (st x)):=by
 intro w hI
 obtain ⟨hd,ks,rfl,h1,h2⟩:=h
 have h1':=h1
 obtain ⟨kv,rfl,_⟩:=RdT.iff.1 h1
 unfold Iu at hx
 split at hx
 ·cases hx
 rename_i y hy
 split at hx
 ·cases hx
 rename_i z hz
 simp only [Option.some.injEq] at hx
 have hzx:z.length+1=x.length:=by rw [<- hx,List.length_append]; rfl
 have hyz:=tH _ _ _ _ _ hz
 have hb:c.body.length<=9223372036854775807:=by have:=h2.le; simpa [maxLen] using this
 refine yt ?_
 unfold u7
 refine bS hI fun b1 w' hI=>?_
 have hI:Inv w [] [.blk b1 (.cells #[.int .i64 c.head.kind,.int .i64 c.head.n,.string c.head.name,kv,ks] bw)] S w':=hI
 refine aI dt ?_
 refine cN hI 0 [.int .i64 c.head.kind,.int .i64 c.head.n,.string c.head.name,kv] ai rfl rfl KL ?_
 refine Run.callPure fp fw hI (A2 hf _ y S _ hy (by omega) h1') fun w' hI=>?_
 refine ⟨fun a b w'=>∃ (j:Nat) (out:Bs),j<=c.body.length/\a=.int .i64 (j:Int)/\b=.string (st out)/\uh f (c.body.drop j) (decide (j=0)) out=some z/\Inv w [] [.blk b1 (.cells #[.int .i64 c.head.kind,.int .i64 c.head.n,.string c.head.name,kv,ks] bw)] S w',
  fun a _ _=>c.body.length - (intOf a).toNat,⟨0,y,Nat.zero_le _,rfl,rfl,hz,hI⟩,?_⟩
 intro t4 _ _ _ _ _ _ _ _ _ _ _ _ t3 _ _ _ _ _ _ _ _ _ w'
 rintro ⟨j,out,hj,rfl,rfl,hbf,hI⟩
 refine ao hI 0 rfl cD aJ rfl ?_
 refine bp h2 aC ?_
 refine cg ?_
 refine bz (fun hji=>?_) (fun hji=>?_)
 ·have hj':j<c.body.length:=by omega
  rw [List.drop_eq_getElem_cons hj',uh] at hbf
  split at hbf
  ·cases hbf
  rename_i u hu
  have hlen:=tH _ _ _ _ _ hbf
  simp only [List.length_append] at hlen
  obtain ⟨pre,hpre⟩:∃ pre:Bs,pre=if decide (j=0)=true then [58,45] else [44]:=⟨_,rfl⟩
  rw [<- hpre] at hbf hlen
  refine ⟨fun b w'=>b=.string (st (out++pre))/\Inv w [] [.blk b1 (.cells #[.int .i64 c.head.kind,.int .i64 c.head.n,.string c.head.name,kv,ks] bw)] S w',?_,?_⟩
  ·refine bP ?_
   refine bz (fun h0=>?_) (fun h0=>?_)
   ·rw [if_pos (decide_eq_true (by omega))] at hpre
    subst hpre
    refine cZ (b:=[58,45]) (by omega) ?_
    exact ⟨rfl,hI⟩
   ·rw [if_neg (by rw [decide_eq_true_eq]; omega)] at hpre
    subst hpre
    refine cZ (b:=[44]) (by omega) ?_
    exact ⟨rfl,hI⟩
  intro _ _ t3 _ _ _ _ w'
  rintro ⟨rfl,hI⟩
  refine ao hI 0 rfl cD aJ rfl ?_
  refine cJ hI h2 aC ai hj' (fun _ _=>RdT.length) fun es hes=>?_
  refine Run.callPure fp fw hI (A2 hf _ u S _ hu (by omega) hes) fun w' hI=>?_
  refine cZ (by rw [List.length_append]; omega) ?_
  refine bT (by omega) ?_
  refine ⟨⟨j+1,out++pre++u,hj',rfl,rfl,?_,hI⟩,by simp only [intOf,Int.toNat_natCast]; omega⟩
  rw [decide_eq_false (by omega)]
  exact hbf
 ·have:j=c.body.length:=by omega
  subst this
  rw [List.drop_length,uh] at hbf
  simp only [Option.some.injEq] at hbf
  subst hbf
  refine cZ (b:=[46]) (by simp only [List.length_cons,List.length_nil]; omega) ?_
  exact done hI (by rw [<- hx])
theorem pv {f:Nat} (hf:f<=100) {c:C} {cs:List Value} {x:Bs} (h:RdC S cs c) (hc:dg c=true) (hw:wC c<=1048576) (hx:Iu f c=some x) (hl:x.length<=1000000):Pure Tryz.prog sT [.agg cs.toArray] S (.string (st x)):=by
 intro w hI
 have h0:=h
 obtain ⟨hd,ks,rfl,h1,h2⟩:=h
 obtain ⟨kv,rfl,_⟩:=RdT.iff.1 h1
 refine m1 ?_
 unfold jl
 refine bS hI fun b1 w' hI=>?_
 refine aL hI 0 cr rfl rfl ?_
 refine Run.callPure tM tc hI (pu h0 hw) fun w' hI=>?_
 refine cK ?_
 rw [hc]
 refine aS (fun hb=>by cases hb) (fun _=>?_)
 refine aL hI 0 cr rfl rfl ?_
 refine Run.callPure FT DW hI (Dh hf h0 hx hl) fun w' hI=>?_
 exact done hI rfl
theorem oa {f k:Nat} {s:Bs} {i:Nat} {ts:List T} {n:Nat} (h:kG f k s i []=some (ts,n)) (hs:s.length<=100000) (hi:i<=s.length):Tri Tryz.prog DU [.string (st s),.int .i64 (i:Int)] [] S (MX ts n):=by
 intro w hI
 refine wa ?_
 unfold rZ
 refine eh hI bO fun v0 w' hI=>?_
 refine ⟨fun a b w'=>∃ (k' i':Nat) (acc:List T) (S1:al) (css:List (List Value)),a=.int .i64 (i':Int)/\i'<=s.length/\kG f k' s i' acc=some (ts,n)/\Ext w.heap.size [] S S1/\Rows 4 (RdT S1) css acc/\(∃ p m,b=.slice p acc.length m)/\Inv w [] [bq b ab 4 css] S1 w',
  fun a _ _=>s.length+1 - (intOf a).toNat,⟨k,i,[],S,[],rfl,hi,h,Ext.refl _ _ _,Rows.nil _ _,?_,hI⟩,?_⟩
 ·have hI2:Inv w [] ([]++[bq v0 ab 4 []]) S w':=hI
  obtain ⟨S1,_,hrd,_⟩:=Inv.lendExt hI2
  obtain ⟨p,m,e,_⟩:=RowRd.rows (Rows.nil 4 (RdT S)) hrd
  exact ⟨p,m,e⟩
 intro t1 _ _ _ _ _ _ _ _ t6 _ _ _ _ _ _ _ _ _ _ _ _ _ _ _ _ _ _ _ w'
 rintro ⟨k',i',acc,S1,css,rfl,hi2,hT,hE,hR,⟨p,m,rfl⟩,hI⟩
 have hcl:=hR.hc
 cases k' with
 | zero=>simp [kG] at hT
 | succ g=>
 rw [kG] at hT
 split at hT
 ·cases hT
 rename_i h6
 split at hT
 ·cases hT
 rename_i t n' hr
 have hle:=(fS f).1 _ _ _ _ _ _ hr
 refine eT aC ?_
 refine Db (by omega) ?_
 refine aS (fun _=>?_) (fun hb=>by cases hb)
 refine Run.call0E eJ eM hI (s9 f s i' 30 3 t n' S1 hr hs hi2 (by omega) (by omega)) fun v I' S2 w'=>?_
 rintro ⟨rfl,cs,rfl,hcs⟩ hE2 hI
 have hR2:=hR.monoR fun _ _ h=>RdT.mono hE2.1 h
 obtain ⟨kv,rfl,_,_,_,a,q,rfl,_⟩:=RdT.iff.1 hcs
 refine aB (v:=.agg _) rfl ?_
 refine aB (v:=.int .i64 (n':Int)) rfl ?_
 refine bi hI bH fun b13 w' hI=>?_
 refine aG hI 1 rfl ai rfl rfl (by simp [Value.oneCell']) fun w' hI=>?_
 refine ey (by omega) ?_
 refine aS (fun hb=>by cases hb) (fun _=>?_)
 refine aL hI 1 ai rfl rfl ?_
 refine f0 (css:=css) hI 0 _ bO (by omega) (by omega) rfl hcs.length hcs.one (by omega) (by omega) fun v' w' hI=>?_
 have hI:Inv w [] [bq v' ab 4 (css++[[.int .i64 t.kind,.int .i64 t.n,.string t.name,.slice a t.kids.length q]])] S2 w':=hI.pick [true,false]
 have hR3:=hR2.snoc hcs hcs.length
 have hI2:Inv w [] ([]++[bq v' ab 4 (css++[[.int .i64 t.kind,.int .i64 t.n,.string t.name,.slice a t.kids.length q]])]) S2 w':=hI
 obtain ⟨S3,hE3,hrd,hI3⟩:=Inv.lendExt hI2
 have hrs:=RowRd.rows (hR3.monoR fun _ _ h=>RdT.mono hE3.1 h) hrd
 refine Run.callPure cF cG hI (cz s n' 44 S2) fun w' hI=>?_
 refine cK ?_
 split at hT
 ·rename_i h44
  rw [h44]
  refine aS (fun hb=>by cases hb) (fun _=>?_)
  have:=gz h44
  refine ew (a:=n') (b:=1) rfl rfl (by omega) ?_
  obtain ⟨p',m',e',_⟩:=hrs
  refine ⟨⟨g,n'+1,acc++[t],S2,_,rfl,by omega,hT,hE.trans hE2,hR3,⟨p',m',e'⟩,hI⟩,?_⟩
  simp only [intOf,Int.toNat_natCast]
  omega
 ·rename_i h44
  rw [Bool.eq_false_iff.2 h44]
  refine aS (fun _=>?_) (fun hb=>by cases hb)
  simp only [Option.some.injEq,Prod.mk.injEq] at hT
  obtain ⟨rfl,rfl⟩:=hT
  have hI2:Inv w [] ([]++[bq v' ab 4 (css++[[.int .i64 t.kind,.int .i64 t.n,.string t.name,.slice a t.kids.length q]])]) S2 w':=hI
  obtain ⟨S4,hE4,hrd,hI⟩:=Inv.lendExt hI2
  have hrs:=RowRd.rows (hR3.monoR fun _ _ h=>RdT.mono hE4.1 h) hrd
  exact ⟨_,[],S4,rfl,hI,(hE.trans hE2).trans hE4,rfl,_,rfl,hrs⟩
abbrev N0 (c:C) (b:Bool):Value->List Item->al->Prop:=fun v I' S'=>I'=[]/\∃ cs,v=.tuple #[.agg cs.toArray,.bool b]/\RdC S' cs c
theorem qf {f:Nat} (hf:f<=100) {s:Bs} {c:C} (h:qJ f s=some c):Tri Tryz.prog vz [.string (st s)] [] S (N0 c true):=by
 intro w hI
 refine nQ ?_
 unfold j5;dsimp only
 unfold qJ at h
 split at h
 ·cases h
 rename_i hs
 split at h
 ·cases h
 rename_i hd n hr
 have hle:=(fS f).1 _ _ _ _ _ _ hr
 have hfin:∃ b n2,c=⟨hd,b⟩/\IZ f s c n2=some c/\((sgn s n 58=true/\sgn s (n+1) 45=true/\kG f 8 s (n+2) []=some (b,n2)) ∨ (¬ (sgn s n 58=true/\sgn s (n+1) 45=true)/\b=[]/\n2=n)):=by
  have hcc:∀ (c':C) (m:Nat),IZ f s c' m=some c->c'=c:=fun c' m h=>by
   unfold IZ at h
   split at h
   ·exact Option.some.inj h
   ·cases h
  split at h
  ·rename_i h58
   split at h
   ·cases h
   rename_i b n2 hg
   have e:=hcc _ _ h
   subst e
   exact ⟨b,n2,rfl,h,.inl ⟨h58.1,h58.2,hg⟩⟩
  ·rename_i h58
   have e:=hcc _ _ h
   subst e
   exact ⟨[],n,rfl,h,.inr ⟨h58,rfl,rfl⟩⟩
 clear h
 obtain ⟨b,n2,rfl,hfin,hcase⟩:=hfin
 unfold IZ at hfin
 split at hfin
 case isFalse=>cases hfin
 rename_i hq
 obtain ⟨hq1,hq2,hq3,hq4,hq5⟩:=hq
 clear hfin
 refine bi hI fo fun b2 w' hI=>?_
 refine eN bl ?_
 refine ik (by omega) ?_
 refine aS (fun hb=>by cases hb) (fun _=>?_)
 refine Run.call0E eJ eM hI (s9 f s 0 30 3 hd n S hr (by omega) (by omega) (by omega) (by omega)) fun v I' S1 w'=>?_
 rintro ⟨rfl,cs,rfl,hcs⟩ hE1 hI
 obtain ⟨kv,rfl,_,_,_,a,q,rfl,_⟩:=RdT.iff.1 hcs
 refine aB (v:=.agg _) rfl ?_
 refine aB (v:=.int .i64 (n:Int)) rfl ?_
 refine bi hI bH fun b4 w' hI=>?_
 refine aG hI 1 rfl ai rfl rfl (by simp [Value.oneCell']) fun w' hI=>?_
 refine ey (by omega) ?_
 refine aS (fun hb=>by cases hb) (fun _=>?_)
 refine aL hI 1 ai rfl rfl ?_
 refine uW ?_
 refine bi hI fo fun b6 w' hI=>?_
 refine aG hI 2 rfl cr rfl rfl (by simp [Value.oneCell']) fun w' hI=>?_
 obtain ⟨B2,hB2⟩:∃ B2,B2=Item.blk b2 (.cells #[.int .i64 0,.int .i64 0,.string ⟨#[]⟩,.slice none 0 0,.slice none 0 0] bw):=⟨_,rfl⟩
 obtain ⟨B4,hB4⟩:∃ B4,B4=Item.blk b4 (.cells #[.int .i64 hd.kind,.int .i64 hd.n,.string hd.name,.slice a hd.kids.length q] ab):=⟨_,rfl⟩
 have hI:Inv w [] [B2,B4,.blk b6 (.cells #[.int .i64 hd.kind,.int .i64 hd.n,.string hd.name,.slice a hd.kids.length q,.slice none 0 0] bw)] S1 w':=by rw [hB2,hB4]; exact hI
 refine ⟨fun v w'=>∃ (kb:Value) (S2:al),v=.int .i64 (n2:Int)/\Ext w.heap.size [] S S2/\RdT S2 [.int .i64 hd.kind,.int .i64 hd.n,.string hd.name,.slice a hd.kids.length q] hd/\RdSl S2 4 (RdT S2) kb b/\
   Inv w [] [B2,B4,.blk b6 (.cells #[.int .i64 hd.kind,.int .i64 hd.n,.string hd.name,.slice a hd.kids.length q,kb] bw)] S2 w',?_,?_⟩
 ·refine ⟨fun v w'=>v=.bool (sgn s n 58 && sgn s (n+1) 45)/\Inv w [] [B2,B4,.blk b6 (.cells #[.int .i64 hd.kind,.int .i64 hd.n,.string hd.name,.slice a hd.kids.length q,.slice none 0 0] bw)] S1 w',?_,?_⟩
  ·refine Run.callPure cF cG hI (cz s n 58 S1) fun w' hI=>?_
   cases h58:sgn s n 58
   ·repeat (first|refine ad ?_|refine af (by decide) ?_|refine ae ?_|refine ak ?_|refine aj ?_)
    exact ⟨by rw [Bool.false_and],hI⟩
   ·repeat (first|refine ad ?_|refine af (by decide) ?_|refine ae ?_|refine ak ?_|refine aj ?_)
    refine ew (a:=n) (b:=1) rfl rfl (by omega) ?_
    refine Run.callPure cF cG hI (cz s (n+1) 45 S1) fun w' hI=>?_
    repeat (first|refine ad ?_|refine af (by decide) ?_|refine ae ?_|refine ak ?_|refine aj ?_)
    exact ⟨by rw [Bool.true_and],hI⟩
  intro t29 _ _ _ _ _ _ _ _ w'
  rintro ⟨rfl,hI⟩
  rcases hcase with ⟨h1,h2,hg⟩|⟨h1,rfl,rfl⟩
  ·rw [h1,h2]
   refine aS (fun _=>?_) (fun hb=>by cases hb)
   have h3:=gz h2
   refine ew (a:=n) (b:=2) rfl rfl (by omega) ?_
   refine Run.call0E rF r8 hI (oa hg (by omega) (by omega)) fun v I' S2 w'=>?_
   rintro ⟨rfl,u,rfl,hu⟩ hE2 hI
   obtain ⟨p,m,rfl,_⟩:=id hu
   refine aB (v:=.slice p b.length m) rfl ?_
   refine aB (v:=.int .i64 (n2:Int)) rfl ?_
   refine cM hI 2 rfl cD aJ rfl rfl rfl fun w' hI=>?_
   exact ⟨_,S2,rfl,hE1.trans hE2,RdT.mono hE2.1 hcs,hu,hI⟩
  ·have e:(sgn s n2 58 && sgn s (n2+1) 45)=false:=by
    rw [Bool.eq_false_iff,ne_eq,Bool.and_eq_true]; exact h1
   rw [e]
   refine aS (fun hb=>by cases hb) (fun _=>?_)
   exact ⟨_,S1,rfl,hE1,hcs,kF S1,hI⟩
 intro t5 _ _ _ _ _ _ _ _ _ _ _ _ _ _ _ _ _ w'
 rintro ⟨kb,S2,rfl,hE2,hhd,hb,hI⟩
 have hC:RdC S2 [.int .i64 hd.kind,.int .i64 hd.n,.string hd.name,.slice a hd.kids.length q,kb] ⟨hd,b⟩:=⟨[.int .i64 hd.kind,.int .i64 hd.n,.string hd.name,.slice a hd.kids.length q],kb,rfl,hhd,hb⟩
 refine ⟨fun v w'=>v=.bool false/\Inv w [] [B2,B4,.blk b6 (.cells #[.int .i64 hd.kind,.int .i64 hd.n,.string hd.name,.slice a hd.kids.length q,kb] bw)] S2 w',?_,?_⟩
 ·refine eN bl ?_
  refine ic (by omega) ?_
  refine dB ?_
  rw [decide_eq_true (show (n2:Int)=(s.length:Int) - 1 by omega)]
  refine ad (b:=false) ?_
  refine Run.callPure cF cG hI (cz s n2 46 S2) fun w' hI=>?_
  refine cK ?_
  rw [hq2]
  refine aj ?_
  refine ad (b:=false) ?_
  refine aL hI 2 cr rfl rfl ?_
  refine Run.callPure r4 rG hI (pv hf hC hq3 (by omega) hq5 (by omega)) fun w' hI=>?_
  refine Ir ?_
  rw [decide_eq_true rfl]
  refine aj ?_
  exact ⟨rfl,hI⟩
 intro t54 _ _ _ _ _ _ _ _ _ _ _ _ _ _ _ _ w'
 rintro ⟨rfl,hI⟩
 refine aS (fun hb=>by cases hb) (fun _=>?_)
 refine aL hI 2 cr rfl rfl ?_
 refine Run.call0E Fc FI hI (BT hC (by omega)) fun v I' S3 w'=>?_
 rintro ⟨rfl,ds,M,rfl,rfl,hT⟩ hE3 hI
 obtain ⟨S4,hI,hE4,hins⟩:=hI.pubExt
 have hR4:=hT.rd hins
 have hl5:=hR4.length
 have h15:=hT.one
 subst hB2
 refine aG hI 0 rfl cr (by simpa using hl5) rfl (by simpa using h15) fun w' hI=>?_
 refine bE hI 0 cr rfl (by simpa using hl5) ?_
 exact ⟨_,[],S4,rfl,hI.nil,(hE2.trans hE3).trans hE4,rfl,_,rfl,hR4⟩
def Nz (cs:List Value) (l:Bs):Prop:=cs=[.string (st l)]
theorem DD (s:Bs) (c:Nat) (hs:s.length<=100000):Tri Tryz.prog HY [.string (st s),.int .u8 (c:Int)] [] S fun v I' S'=>I'=[]/\RdSl S' 1 Nz v (zJ s c s.length 0 0 []):=by
 intro w hI
 refine xO ?_
 unfold uH
 refine eh hI yY fun v0 w' hI=>?_
 obtain ⟨R,hR⟩:∃ R,R=zJ s c s.length 0 0 []:=⟨_,rfl⟩
 rw [<- hR]
 refine ⟨fun t u v w'=>∃ (i fr:Nat) (acc:List Bs) (css:List (List Value)),t=.int .i64 (i:Int)/\u=.int .i64 (fr:Int)/\acc.length<=i/\((i<=s.length/\fr<=i/\zJ s c (s.length - i) i fr acc=R) ∨ (i=s.length+1/\acc=R))/\Rows 1 Nz css acc/\Inv w [] [bq v hY 1 css] S w',
  fun t _ _ _=>s.length+2 - (intOf t).toNat,⟨0,0,[],[],rfl,rfl,Nat.le_refl _,.inl ⟨Nat.zero_le _,Nat.le_refl _,hR.symm⟩,Rows.nil _ _,hI⟩,?_⟩
 intro t7 _ _ t6 _ _ t5 _ _ _ _ _ _ _ _ _ _ _ _ _ _ _ _ _ _ _ _ _ _ w'
 rintro ⟨i,fr,acc,css,rfl,rfl,hal,hc,hRw,hI⟩
 have hcl:=hRw.hc
 refine eN bl ?_
 refine fi ?_
 refine bz (fun hi=>?_) (fun hi=>?_)
 ·have hi':i<=s.length:=by omega
  obtain ⟨_,hfr,hcut⟩:i<=s.length/\fr<=i/\zJ s c (s.length - i) i fr acc=R:=by
   rcases hc with h|h
   ·exact h
   ·omega
  obtain ⟨br,hbr⟩:∃ br,br=(decide (i=s.length) || sgn s i c):=⟨_,rfl⟩
  refine ⟨fun u v w'=>∃ (fr':Nat) (acc':List Bs) (css':List (List Value)),u=.int .i64 (fr':Int)/\acc'.length<=i+1/\fr'<=i+1/\acc'=(if br=true then acc++[cut s fr i] else acc)/\fr'=(if br=true then i+1 else fr)/\Rows 1 Nz css' acc'/\Inv w [] [bq v hY 1 css'] S w',?_,?_⟩
  ·refine ⟨fun b w'=>b=.bool br/\Inv w [] [bq t5 hY 1 css] S w',?_,?_⟩
   ·refine eN bl ?_
    by_cases he:i=s.length
    ·refine fe (by omega) ?_
     repeat (first|refine ad ?_|refine af (by decide) ?_|refine ae ?_|refine ak ?_|refine aj ?_)
     exact ⟨by rw [hbr,decide_eq_true he,Bool.true_or],hI⟩
    ·refine ei (by omega) ?_
     repeat (first|refine ad ?_|refine af (by decide) ?_|refine ae ?_|refine ak ?_|refine aj ?_)
     have hlt:i<s.length:=by omega
     refine dZ bl hlt ?_
     refine bP ?_
     repeat (first|refine ad ?_|refine af (by decide) ?_|refine ae ?_|refine ak ?_|refine aj ?_)
     refine ⟨?_,hI⟩
     rw [hbr,decide_eq_false he,Bool.false_or,i7 hlt]
     congr 1
     rw [decide_eq_decide]
     omega
   intro t25 _ _ _ _ _ _ _ _ _ _ w'
   rintro ⟨rfl,hI⟩
   refine aS (fun hb=>?_) (fun hb=>?_)
   ·refine yA bl hfr hi' ?_
    refine GP (css:=css) hI 0 yY rfl rfl rfl (by omega) (by omega) fun v' w' hI=>?_
    refine ew (a:=i) (b:=1) rfl rfl (by omega) ?_
    refine ⟨i+1,acc++[cut s fr i],_,rfl,by rw [List.length_append]; simp only [List.length_cons,List.length_nil]; omega,Nat.le_refl _,by rw [if_pos hb],by rw [if_pos hb],hRw.snoc rfl rfl,hI⟩
   ·exact ⟨fr,acc,css,rfl,by omega,by omega,by rw [if_neg (by rw [hb]; decide)],by rw [if_neg (by rw [hb]; decide)],hRw,hI⟩
  intro t6 _ _ t5 _ _ _ _ _ _ _ _ _ _ _ _ _ _ _ _ _ _ w'
  rintro ⟨fr',acc',css',rfl,hal',hfr',hacc',hfe,hRw',hI⟩
  refine ew (a:=i) (b:=1) rfl rfl (by omega) ?_
  refine ⟨⟨i+1,fr',acc',css',rfl,rfl,hal',?_,hRw',hI⟩,by simp only [intOf,Int.toNat_natCast]; omega⟩
  by_cases he:i=s.length
  ·right
   refine ⟨by rw [he],?_⟩
   rw [he,Nat.sub_self,zJ,<- he] at hcut
   rw [hacc',if_pos (by rw [hbr,decide_eq_true he,Bool.true_or])]
   exact hcut
  ·left
   refine ⟨by omega,hfr',?_⟩
   rw [show s.length - i=(s.length - (i+1))+1 by omega,zJ] at hcut
   rw [hbr,decide_eq_false he,Bool.false_or] at hacc' hfe
   split at hcut
   ·rename_i hsg
    rw [if_pos hsg] at hacc' hfe
    rw [hacc',hfe]
    exact hcut
   ·rename_i hsg
    rw [if_neg hsg] at hacc' hfe
    rw [hacc',hfe]
    exact hcut
 ·obtain ⟨_,rfl⟩:i=s.length+1/\acc=R:=by
   rcases hc with h|h
   ·omega
   ·exact h
  have hI2:Inv w [] ([]++[bq t5 hY 1 css]) S w':=hI
  obtain ⟨S1,hE1,hrd,hI⟩:=Inv.lendExt hI2
  exact ⟨_,[],S1,rfl,hI,hE1,rfl,RowRd.rows hRw hrd⟩
theorem zG {f:Nat} {ls:List Bs} {i:Nat} (h:i<ls.length) (acc:List C):iP f (ls.drop i) acc=match qJ f ls[i] with
  | none=>none
  | some c=>iP f (ls.drop (i+1)) (acc++[c]):=by
 rw [List.drop_eq_getElem_cons h,iP]
 cases qJ f ls[i] <;> rfl
theorem pt {f:Nat} (hf:f<=100) {s:Bs} {p:List C} (h:Ik f s=some p) (hs:s.length<=100000):Tri Tryz.prog kj [.string (st s)] [] S fun v I' S'=>∃ u css,v=.tuple #[u,.bool true]/\I'=[bq u bw 5 css]/\Rows 5 (RdC S') css p:=by
 intro w hI
 refine me ?_
 unfold jp
 unfold Ik Kk at h
 refine eh hI lO fun v0 w' hI=>?_
 refine Run.call0E FL FZ hI (DD s 10 hs) fun v I' S1 w'=>?_
 rintro ⟨rfl,hls⟩ hE1 hI
 have hI:Inv w [] [bq v0 bw 5 []] S1 w':=hI
 obtain ⟨ls,hlsd⟩:∃ ls,ls=zJ s 10 s.length 0 0 []:=⟨_,rfl⟩
 rw [<- hlsd] at hls h
 simp only [] at h
 split at h
 ·cases h
 rename_i hc
 simp only [not_or,ne_eq,Classical.not_not] at hc
 obtain ⟨hc1,hc2⟩:=hc
 have hl0:0<ls.length:=by
  cases ls with
  | nil=>simp at hc2
  | cons a l=>simp
 have hlast:ls[ls.length - 1]=[]:=by
  rw [List.getLast?_eq_getElem?,List.getElem?_eq_getElem (by omega)] at hc2
  exact Option.some.inj hc2
 refine ⟨fun b w'=>b=.bool false/\Inv w [] [bq v0 bw 5 []] S1 w',?_,?_⟩
 ·refine bp hls ce ?_
  refine ik (by omega) ?_
  repeat (first|refine ad ?_|refine af (by decide) ?_|refine ae ?_|refine ak ?_|refine aj ?_)
  refine bp hls ce ?_
  refine yo (a:=ls.length) (b:=1) rfl rfl (by omega) (by omega) ?_
  have hlt:ls.length - 1<ls.length:=by omega
  obtain ⟨b,o,cap,c,E,fz,hv,hS,hR⟩:=hls.at_ hlt
  subst hv
  refine be ce hlt ?_
  refine dc bn ((hI.cellS hS).trans (bh hR 0 _ rfl)) ?_
  refine Ir (b:=[]) ?_
  rw [decide_eq_true hlast]
  repeat (first|refine ad ?_|refine af (by decide) ?_|refine ae ?_|refine ak ?_|refine aj ?_)
  exact ⟨rfl,hI⟩
 intro t23 _ _ _ _ _ _ _ _ _ _ _ w'
 rintro ⟨rfl,hI⟩
 refine aS (fun hb=>by cases hb) (fun _=>?_)
 refine ⟨fun a b w'=>∃ (i:Nat) (acc:List C) (S2:al) (css:List (List Value)),a=.int .i64 (i:Int)/\i+1<=ls.length/\acc.length=i/\iP f (ls.dropLast.drop i) acc=some p/\Sle S1 S2/\Ext w.heap.size [] S S2/\Rows 5 (RdC S2) css acc/\Inv w [] [bq b bw 5 css] S2 w',
  fun a _ _=>ls.length - (intOf a).toNat,⟨0,[],S1,[],rfl,by omega,rfl,h,Sle.refl _,hE1,Rows.nil _ _,hI⟩,?_⟩
 intro t6 _ _ t4 _ _ _ _ _ _ _ _ _ _ _ _ _ _ _ _ _ _ _ _ _ _ _ _ w'
 rintro ⟨i,acc,S2,css,rfl,hi,hal,hcl,hle2,hE2,hR,hI⟩
 have hcs:=hR.hc
 refine ew (a:=i) (b:=1) rfl rfl (by omega) ?_
 refine bp hls ce ?_
 refine cg ?_
 have hdl:ls.dropLast.length=ls.length - 1:=List.length_dropLast
 refine bz (fun hlt=>?_) (fun hge=>?_)
 ·have hi':i<ls.length:=by omega
  have hi2:i<ls.dropLast.length:=by omega
  rw [zG hi2] at hcl
  have eg:ls.dropLast[i]=ls[i]:=List.getElem_dropLast _
  rw [eg] at hcl
  obtain ⟨b,o,cap,c,E,fz,hv,hS,hRr⟩:=hls.at_ hi'
  subst hv
  split at hcl
  ·cases hcl
  rename_i cl hclf
  refine be ce hi' ?_
  refine dc bn ((hI.cellS (hle2 _ _ hS)).trans (bh hRr 0 _ rfl)) ?_
  refine Run.call0E sV tk hI (qf hf hclf) fun v I' S3 w'=>?_
  rintro ⟨rfl,ds,rfl,hds⟩ hE3 hI
  have hl5:=hds.length
  have hR3:=hR.monoR fun _ _ h=>RdC.mono hE3.1 h
  refine aB (v:=.agg ds.toArray) rfl ?_
  refine aB (v:=.bool true) rfl ?_
  refine bi hI fo fun b7 w' hI=>?_
  refine aG hI 1 rfl cr (by simpa using hl5) rfl (by simpa using hds.one) fun w' hI=>?_
  refine cK ?_
  refine aS (fun hb=>by cases hb) (fun _=>?_)
  refine aL hI 1 cr rfl (by simpa using hl5) ?_
  refine f0 (css:=css) hI 0 _ lO (by omega) (by omega) rfl hl5 hds.one (by omega) (by omega) fun v' w' hI=>?_
  have hI:Inv w [] [bq v' bw 5 (css++[ds])] S3 w':=hI.pick [true,false]
  refine ew (a:=i) (b:=1) rfl rfl (by omega) ?_
  exact ⟨⟨i+1,acc++[cl],S3,_,rfl,by omega,by rw [List.length_append,hal]; rfl,hcl,hle2.trans hE3.1,hE2.trans hE3,hR3.snoc hds hl5,hI⟩,by simp only [intOf,Int.toNat_natCast]; omega⟩
 ·have hi2:ls.dropLast.length<=i:=by omega
  rw [List.drop_eq_nil_of_le hi2,iP] at hcl
  simp only [Option.some.injEq] at hcl
  subst hcl
  exact ⟨_,_,S2,rfl,hI,hE2,_,css,rfl,rfl,hR⟩
end
end Go.Proofs.YtfcbhfjomgopbaaGreat

/- Texts written: spec.l2Text and its kin, l4Text, FormatClause. -/
import Derived.Test.YtemmhhdnlbmicaaGreatZMf4
import Derived.Test.YtemmhhdnlbmicaaGreatZMf5
import Derived.Test.YtemmhhdnlbmicaaGreatZMf1
import Derived.Test.YtemmhhdnlbmicaaGreatZMf3
namespace Go.Proofs.YtemmhhdnlbmicaaGreat
open Go Go.RowKit
theorem D9:Tryz.prog.underlying Aa=some (.slice yp):=by kernel_rfl
section
variable {w:World} {S:av}
attribute [local irreducible] Run CondV ag a4
theorem fR {t:T} {cs:List Value} (h:RdT S cs t):Pure Tryz.prog Cj [.agg cs.toArray] S (.bool (n8 t)):=by
 intro w hI
 obtain ⟨kv,rfl,_,_,_,hk⟩:=RdT.iff.1 h
 obtain ⟨ka,kc,rfl,_⟩:=id hk
 refine tB ?_
 unfold rx;dsimp only
 refine ca hI fun b1 w' hI=>?_
 refine az hI 0 rfl bt bj rfl ?_
 by_cases h3:t.kind=3
 ·refine eH h3 ?_
  repeat (first|refine ac ?_|refine af (by decide) ?_|refine ab ?_|refine al ?_|refine ak ?_)
  refine az hI 0 rfl bk bi rfl ?_
  refine dj (b:=st [46]) ?_
  cases hn:decide (t.name=st [46])
  ·repeat (first|refine ac ?_|refine af (by decide) ?_|refine ab ?_|refine al ?_|refine ak ?_)
   exact done hI (by rw [n8,hn,Bool.false_and,Bool.and_false])
  ·repeat (first|refine ac ?_|refine af (by decide) ?_|refine ab ?_|refine al ?_|refine ak ?_)
   refine az hI 0 rfl aT aS rfl ?_
   refine fu ay ?_
   refine cw ?_
   repeat (first|refine ac ?_|refine af (by decide) ?_|refine ab ?_|refine al ?_|refine ak ?_)
   refine done hI ?_
   rw [n8,hn,decide_eq_true h3,Bool.true_and,Bool.true_and]
   congr 1
   rw [decide_eq_decide]
   omega
 ·refine dw h3 ?_
  repeat (first|refine ac ?_|refine af (by decide) ?_|refine ab ?_|refine al ?_|refine ak ?_)
  exact done hI (by rw [n8,decide_eq_false h3,Bool.false_and])
theorem u0 {t:T} {cs:List Value} (h:RdT S cs t):Pure Tryz.prog Dq [.agg cs.toArray] S (.bool (EQ t)):=by
 intro w hI
 obtain ⟨kv,rfl,_,_,_,hk⟩:=RdT.iff.1 h
 obtain ⟨ka,kc,rfl,_⟩:=id hk
 refine vJ ?_
 unfold te;dsimp only
 refine ca hI fun b1 w' hI=>?_
 refine az hI 0 rfl bt bj rfl ?_
 by_cases h3:t.kind=3
 ·refine eH h3 ?_
  repeat (first|refine ac ?_|refine af (by decide) ?_|refine ab ?_|refine al ?_|refine ak ?_)
  refine az hI 0 rfl bk bi rfl ?_
  refine dj (b:=st [91,93]) ?_
  cases hn:decide (t.name=st [91,93])
  ·repeat (first|refine ac ?_|refine af (by decide) ?_|refine ab ?_|refine al ?_|refine ak ?_)
   exact done hI (by rw [EQ,hn,Bool.false_and,Bool.and_false])
  ·repeat (first|refine ac ?_|refine af (by decide) ?_|refine ab ?_|refine al ?_|refine ak ?_)
   refine az hI 0 rfl aT aS rfl ?_
   refine fu ay ?_
   refine cw ?_
   repeat (first|refine ac ?_|refine af (by decide) ?_|refine ab ?_|refine al ?_|refine ak ?_)
   refine done hI ?_
   rw [EQ,hn,decide_eq_true h3,Bool.true_and,Bool.true_and]
   congr 1
   rw [decide_eq_decide]
   omega
 ·refine dw h3 ?_
  repeat (first|refine ac ?_|refine af (by decide) ?_|refine ab ?_|refine al ?_|refine ak ?_)
  exact done hI (by rw [EQ,decide_eq_false h3,Bool.false_and])
theorem j7 {t:T} {cs:List Value} (h:RdT S cs t):Pure Tryz.prog zB [.agg cs.toArray] S (.bool (jM t)):=by
 intro w hI
 obtain ⟨kv,rfl,_,_,_,hk⟩:=RdT.iff.1 h
 obtain ⟨ka,kc,rfl,_⟩:=id hk
 refine sD ?_
 unfold n5;dsimp only
 refine ca hI fun b1 w' hI=>?_
 refine az hI 0 rfl bt bj rfl ?_
 by_cases h3:t.kind=3
 ·refine eH h3 ?_
  repeat (first|refine ac ?_|refine af (by decide) ?_|refine ab ?_|refine al ?_|refine ak ?_)
  refine az hI 0 rfl aT aS rfl ?_
  refine fu ay ?_
  by_cases hn:t.kids.length=2
  ·refine eH (by omega) ?_
   repeat (first|refine ac ?_|refine af (by decide) ?_|refine ab ?_|refine al ?_|refine ak ?_)
   refine az hI 0 rfl bk bi rfl ?_
   refine Run.callPure eI eK hI (dC _ S) fun w' hI=>?_
   refine dS ?_
   repeat (first|refine ac ?_|refine af (by decide) ?_|refine ab ?_|refine al ?_|refine ak ?_)
   exact done hI (by rw [jM,decide_eq_true h3,decide_eq_true hn,Bool.true_and,Bool.true_and])
  ·refine dw (by omega) ?_
   repeat (first|refine ac ?_|refine af (by decide) ?_|refine ab ?_|refine al ?_|refine ak ?_)
   exact done hI (by rw [jM,decide_eq_false hn,Bool.false_and,Bool.and_false])
 ·refine dw h3 ?_
  repeat (first|refine ac ?_|refine af (by decide) ?_|refine ab ?_|refine al ?_|refine ak ?_)
  exact done hI (by rw [jM,decide_eq_false h3,Bool.false_and])
theorem lQ {t:T} {cs:List Value} (h:RdT S cs t):Pure Tryz.prog Bl [.agg cs.toArray] S (.bool (rj t)):=by
 intro w hI
 obtain ⟨kv,rfl,_,_,_,hk⟩:=RdT.iff.1 h
 obtain ⟨ka,kc,rfl,_⟩:=id hk
 refine tH ?_
 unfold ra;dsimp only
 refine ca hI fun b1 w' hI=>?_
 refine az hI 0 rfl bt bj rfl ?_
 by_cases h3:t.kind=3
 ·refine eH h3 ?_
  repeat (first|refine ac ?_|refine af (by decide) ?_|refine ab ?_|refine al ?_|refine ak ?_)
  refine az hI 0 rfl aT aS rfl ?_
  refine fu ay ?_
  by_cases hn:t.kids.length=0
  ·refine eH (by omega) ?_
   repeat (first|refine ac ?_|refine af (by decide) ?_|refine ab ?_|refine al ?_|refine ak ?_)
   refine az hI 0 rfl bk bi rfl ?_
   refine Run.callPure eI eK hI (dC _ S) fun w' hI=>?_
   refine dS ?_
   repeat (first|refine ac ?_|refine af (by decide) ?_|refine ab ?_|refine al ?_|refine ak ?_)
   exact done hI (by rw [rj,decide_eq_true h3,decide_eq_true hn,Bool.true_and,Bool.true_and])
  ·refine dw (by omega) ?_
   repeat (first|refine ac ?_|refine af (by decide) ?_|refine ab ?_|refine al ?_|refine ak ?_)
   exact done hI (by rw [rj,decide_eq_false hn,Bool.false_and,Bool.and_false])
 ·refine dw h3 ?_
  repeat (first|refine ac ?_|refine af (by decide) ?_|refine ab ?_|refine al ?_|refine ak ?_)
  exact done hI (by rw [rj,decide_eq_false h3,Bool.false_and])
theorem uc (n:Bs) (hn:n.length<=1000000):Pure Tryz.prog xP [.string (st n)] S (.string (st (fQ n))):=by
 intro w hI
 refine pN ?_
 unfold ms
 refine ⟨fun b w'=>b=.bool (decide (n=[105,115]) || decide (n=[109,111,100]))/\Inv w [] [] S w',?_,?_⟩
 ·refine s5 (b:=[105,115]) ?_
  cases h5:decide (n=[105,115])
  ·repeat (first|refine ac ?_|refine af (by decide) ?_|refine ab ?_|refine al ?_|refine ak ?_)
   refine s5 (b:=[109,111,100]) ?_
   repeat (first|refine ac ?_|refine af (by decide) ?_|refine ab ?_|refine al ?_|refine ak ?_)
   exact ⟨by rw [Bool.false_or],hI⟩
  ·repeat (first|refine ac ?_|refine af (by decide) ?_|refine ab ?_|refine al ?_|refine ak ?_)
   exact ⟨by rw [Bool.true_or],hI⟩
 intro t8 _ _ _ _ _ w'
 rintro ⟨rfl,hI⟩
 refine aX (fun hb=>?_) (fun hb=>?_)
 ·rw [Bool.or_eq_true,decide_eq_true_eq,decide_eq_true_eq] at hb
  refine cY (a:=[32]) (by simp; omega) ?_
  refine cY (b:=[32]) (by simp; omega) ?_
  exact done hI (by rw [fQ,if_pos hb]; rfl)
 ·rw [Bool.or_eq_false_iff,decide_eq_false_iff_not,decide_eq_false_iff_not] at hb
  exact done hI (by rw [fQ,if_neg (by rintro (h|h); exact hb.1 h; exact hb.2 h)])
theorem vO (s:Bs) (h0:0<s.length):Pure Tryz.prog Af [.string (st s)] S (.bool (xj s)):=by
 intro w hI
 refine si ?_
 unfold nO;dsimp only
 have e1:xj s=(sml s 0 || (dig s 0 || (upp s 0 || (sgn s 0 91 || sgn s 0 40)))):=rfl
 have eu:upp s 0=(decide (65<=s[0].toNat) && decide (s[0].toNat<=90)):=gK h0 65 90
 have ea:sgn s 0 91=decide (s[0].toNat=91):=fU h0 91
 have eb:sgn s 0 40=decide (s[0].toNat=40):=fU h0 40
 refine Run.callPure oi o3 hI (kA s 0 S) fun w' hI=>?_
 cases hs:sml s 0
 ·repeat (first|refine ac ?_|refine af (by decide) ?_|refine ab ?_|refine al ?_|refine ak ?_)
  refine Run.callPure fg fc hI (dR s 0 S) fun w' hI=>?_
  cases hd:dig s 0
  ·repeat (first|refine ac ?_|refine af (by decide) ?_|refine ab ?_|refine al ?_|refine ak ?_)
   refine dn (i:=0) a7 h0 ?_
   rw [hs,hd,Bool.false_or,Bool.false_or] at e1
   by_cases h65:65<=s[0].toNat
   ·refine i6 (by omega) ?_
    repeat (first|refine ac ?_|refine af (by decide) ?_|refine ab ?_|refine al ?_|refine ak ?_)
    refine dn (i:=0) a7 h0 ?_
    by_cases h90:s[0].toNat<=90
    ·refine tT (by omega) ?_
     repeat (first|refine ac ?_|refine af (by decide) ?_|refine ab ?_|refine al ?_|refine ak ?_)
     exact done hI (by rw [e1,eu,decide_eq_true h65,decide_eq_true h90]; rfl)
    ·refine EM (by omega) ?_
     repeat (first|refine ac ?_|refine af (by decide) ?_|refine ab ?_|refine al ?_|refine ak ?_)
     refine dn (i:=0) a7 h0 ?_
     by_cases h91:s[0].toNat=91
     ·refine eH (by omega) ?_
      repeat (first|refine ac ?_|refine af (by decide) ?_|refine ab ?_|refine al ?_|refine ak ?_)
      exact done hI (by rw [e1,ea,decide_eq_true h91,Bool.true_or,Bool.or_true])
     ·refine dw (by omega) ?_
      repeat (first|refine ac ?_|refine af (by decide) ?_|refine ab ?_|refine al ?_|refine ak ?_)
      refine dn (i:=0) a7 h0 ?_
      refine dw (by omega) ?_
      repeat (first|refine ac ?_|refine af (by decide) ?_|refine ab ?_|refine al ?_|refine ak ?_)
      exact done hI (by rw [e1,eu,ea,eb,decide_eq_false h90,decide_eq_false h91,decide_eq_false (show ¬ s[0].toNat=40 by omega),Bool.and_false]; rfl)
   ·refine kS (by omega) ?_
    repeat (first|refine ac ?_|refine af (by decide) ?_|refine ab ?_|refine al ?_|refine ak ?_)
    refine dn (i:=0) a7 h0 ?_
    refine dw (by omega) ?_
    repeat (first|refine ac ?_|refine af (by decide) ?_|refine ab ?_|refine al ?_|refine ak ?_)
    refine dn (i:=0) a7 h0 ?_
    by_cases h40:s[0].toNat=40
    ·refine eH (by omega) ?_
     repeat (first|refine ac ?_|refine af (by decide) ?_|refine ab ?_|refine al ?_|refine ak ?_)
     exact done hI (by rw [e1,eb,decide_eq_true h40,Bool.or_true,Bool.or_true])
    ·refine dw (by omega) ?_
     repeat (first|refine ac ?_|refine af (by decide) ?_|refine ab ?_|refine al ?_|refine ak ?_)
     exact done hI (by rw [e1,eu,ea,eb,decide_eq_false h65,decide_eq_false (show ¬ s[0].toNat=91 by omega),decide_eq_false h40,Bool.false_and]; rfl)
  ·repeat (first|refine ac ?_|refine af (by decide) ?_|refine ab ?_|refine al ?_|refine ak ?_)
   exact done hI (by rw [e1,hd,Bool.true_or,Bool.or_true])
 ·repeat (first|refine ac ?_|refine af (by decide) ?_|refine ab ?_|refine al ?_|refine ak ?_)
  exact done hI (by rw [e1,hs,Bool.true_or])
theorem tR {n:Int} (h:0<=n/\n<=25):Pure Tryz.prog yl [.int .i64 n] S (.string (st [UInt8.ofNat (65+n.toNat)])):=by
 intro w hI
 refine qt ?_
 unfold mL
 refine jV gJ eM (IntWalk.u8_in _ (by omega)) ?_
 refine Gt (c:=((65+n.toNat:Nat):Int)) ?_ ?_
 ·rw [IntWalk.u8_in _ (by omega)]; omega
 refine ur hI p7 D9 eM a7 fun w' hI=>?_
 exact done hI rfl
theorem Aq:∀ (f n:Nat) (out r:Bs),vx f n out=some r->out.length<r.length/\r.length<=out.length+f
 | 0,_,_,_,h=>by simp [vx] at h
 | f+1,n,out,r,h=>by
  rw [vx] at h
  split at h
  ·have:=Aq f _ _ _ h
   simp only [List.length_cons] at this
   omega
  ·simp only [Option.some.injEq] at h
   subst h
   simp only [List.length_cons]
   omega
theorem oW {f n:Nat} {r:Bs} (h:vx f n []=some r) (hn:n<=100000) (hf:f<=1000):Pure Tryz.prog Bj [.int .i64 (n:Int)] S (.string (st r)):=by
 intro w hI
 refine sQ ?_
 unfold rh
 refine dI (by omega) ?_
 refine aX (fun hb=>by cases hb) (fun _=>?_)
 refine dI (by omega) ?_
 refine aX (fun hb=>by cases hb) (fun _=>?_)
 refine ⟨fun a b w'=>∃ (f' m:Nat) (out:Bs),a=.int .i64 (m:Int)/\b=.string (st out)/\m<=100000/\out.length+f'<=1000/\vx f' m out=some r/\Inv w [] [] S w',fun a _ _=>(intOf a).toNat,⟨f,n,[],rfl,rfl,hn,by simpa using hf,h,hI⟩,?_⟩
 intro t0 _ _ t3 _ _ _ _ _ _ _ _ _ _ w'
 rintro ⟨f',m,out,rfl,rfl,hm,hof,hd,hI⟩
 cases f' with
 | zero=>simp [vx] at hd
 | succ g=>
 rw [vx] at hd
 split at hd
 ·rename_i h9
  refine Ci (by omega) ?_
  refine aX (fun _=>?_) (fun hb=>by cases hb)
  refine Bb (a:=m) (b:=10) rfl rfl (by omega) ?_
  refine dx (a:=48) (b:=m % 10) rfl rfl (by omega) ?_
  refine jV gJ eM (IntWalk.u8_in _ (by omega)) ?_
  refine ur hI p7 D9 eM a7 fun w' hI=>?_
  refine cY (by simp; omega) ?_
  refine BD (a:=m) (b:=10) rfl rfl (by omega) (by omega) ?_
  refine ⟨⟨g,m / 10,UInt8.ofNat (48+m % 10)::out,rfl,rfl,by omega,by simp only [List.length_cons]; omega,hd,hI⟩,?_⟩
  simp only [intOf,Int.toNat_natCast]
  omega
 ·rename_i h9
  refine i7 (by omega) ?_
  refine aX (fun hb=>by cases hb) (fun _=>?_)
  refine dx (a:=48) (b:=m) rfl rfl (by omega) ?_
  refine jV gJ eM (IntWalk.u8_in _ (by omega)) ?_
  refine ur hI p7 D9 eM a7 fun w' hI=>?_
  refine cY (by simp; omega) ?_
  simp only [Option.some.injEq] at hd
  exact done hI (by rw [<- hd]; rfl)
theorem AH {n:Int} {r:Bs} (h:Ge n=some r) (hn:-999<=n/\n<=999):Pure Tryz.prog CX [.int .i64 n] S (.string (st r)):=by
 intro w hI
 refine vi ?_
 unfold uz
 unfold Ge at h
 split at h
 ·rename_i h0
  refine sN h0 ?_
  refine aX (fun _=>?_) (fun hb=>by cases hb)
  refine FT (by omega) ?_
  obtain ⟨m,hm⟩:∃ m:Nat,-n=(m:Int):=⟨(-n).toNat,by omega⟩
  rw [hm] at h ⊢
  rw [Int.toNat_natCast,Option.map_eq_some_iff] at h
  obtain ⟨l,hl,rfl⟩:=h
  have:=Aq _ _ _ _ hl
  refine Run.callPure rC qS hI (oW hl (by omega) (by omega)) fun w' hI=>?_
  refine cY (a:=[45]) (by simp only [List.length_nil,List.length_cons] at this ⊢; omega) ?_
  exact done hI rfl
 ·rename_i h0
  refine dI h0 ?_
  refine aX (fun hb=>by cases hb) (fun _=>?_)
  obtain ⟨m,rfl⟩:∃ m:Nat,n=(m:Int):=⟨n.toNat,by omega⟩
  rw [Int.toNat_natCast] at h
  refine Run.callPure rC qS hI (oW h (by omega) (by omega)) fun w' hI=>?_
  exact done hI rfl
theorem oe {t:T} {cs:List Value} {x:Bs} (h:RdT S cs t) (hp:n8 t=false) (hx:Cp t=some x):Pure Tryz.prog tk [.agg cs.toArray] S (.string (st x)):=by
 intro w hI
 have h0:=h
 obtain ⟨kv,rfl,_,_,_,hk⟩:=RdT.iff.1 h
 obtain ⟨ka,kc,rfl,_⟩:=id hk
 refine kR ?_
 unfold lz
 unfold Cp at hx
 refine ca hI fun b1 w' hI=>?_
 refine az hI 0 rfl bt bj rfl ?_
 split at hx
 ·rename_i h1
  refine eH h1 ?_
  refine aX (fun _=>?_) (fun hb=>by cases hb)
  refine az hI 0 rfl bv bj rfl ?_
  split at hx
  ·rename_i h2
   refine Run.callPure vk v8 hI (tR h2) fun w' hI=>?_
   simp only [Option.some.injEq] at hx
   exact done hI (by rw [<- hx])
  ·cases hx
 ·rename_i h1
  refine dw h1 ?_
  refine aX (fun hb=>by cases hb) (fun _=>?_)
  split at hx
  ·rename_i h2
   refine eH h2 ?_
   refine aX (fun _=>?_) (fun hb=>by cases hb)
   refine az hI 0 rfl bv bj rfl ?_
   split at hx
   ·rename_i h3
    refine Run.callPure Bn Bw hI (AH hx h3) fun w' hI=>?_
    exact done hI rfl
   ·cases hx
  ·rename_i h2
   refine dw h2 ?_
   refine aX (fun hb=>by cases hb) (fun _=>?_)
   split at hx
   ·rename_i h3
    simp only [Option.some.injEq] at hx
    refine a8 hI 0 ai rfl rfl ?_
    refine Run.callPure iP iL hI (fR h0) fun w' hI=>?_
    rw [hp]
    refine aX (fun hb=>by cases hb) (fun _=>?_)
    refine az hI 0 rfl bk bi rfl ?_
    refine ⟨fun a b w'=>a=.int .i64 0/\b=.string t.name/\Inv w [] [.blk b1 (.cells #[.int .i64 t.kind,.int .i64 t.n,.string t.name,.slice ka t.kids.length kc] ad)] S w',fun _ _ _=>0,⟨rfl,rfl,hI⟩,?_⟩
    intro t4 _ _ _ _ _ _ _ _ _ _ _ _ t3 _ _ _ _ _ _ _ _ _ w'
    rintro ⟨rfl,rfl,hI⟩
    refine az hI 0 rfl aT aS rfl ?_
    refine fu ay ?_
    refine dI (by omega) ?_
    refine aX (fun hb=>by cases hb) (fun _=>?_)
    refine ⟨fun b w'=>b=.string t.name/\Inv w [] [.blk b1 (.cells #[.int .i64 t.kind,.int .i64 t.n,.string t.name,.slice ka t.kids.length kc] ad)] S w',?_,?_⟩
    ·refine az hI 0 rfl aT aS rfl ?_
     refine fu ay ?_
     refine i7 (by omega) ?_
     refine aX (fun hb=>by cases hb) (fun _=>?_)
     exact ⟨rfl,hI⟩
    intro t3 _ _ _ _ _ _ w'
    rintro ⟨rfl,hI⟩
    exact done hI (by rw [<- hx])
   ·cases hx
end
/- lengths -/
theorem wF:∀ (f:Nat) (l:List T) (out x:Bs),ky f l out=some x->out.length<=x.length
 | 0,_,_,_,h=>by simp [ky] at h
 | _+1,[],out,x,h=>by simp [ky] at h; subst h; exact Nat.le_refl _
 | f+1,t::l,out,x,h=>by
  rw [ky] at h
  split at h
  ·cases h
  ·have:=wF f _ _ _ h
   simp only [List.length_append] at this
   omega
def lenOf:Value->Nat
 | .slice _ n _=>n
 | _=>0
def qT (f:Nat):Prop:=∀ (t:T) (x:Bs) (S:av) (cs:List Value),yk f t=some x->x.length<=1000000->RdT S cs t->Pure Tryz.prog Cd [.agg cs.toArray] S (.string (st x))
def AV (f:Nat):Prop:=∀ (t:T) (x:Bs) (S:av) (cs:List Value),ww f t []=some x->x.length<=1000000->RdT S cs t->Pure Tryz.prog A0 [.agg cs.toArray] S (.string (st x))
def yi (f:Nat):Prop:=∀ (ts:List T) (x:Bs) (S:av) (u:Value),ky f ts []=some x->x.length<=1000000->RdSl S 4 (RdT S) u ts->Pure Tryz.prog B6 [u] S (.string (st x))
def l8 (f:Nat):Prop:=∀ (t:T) (l:Int) (x:Bs) (S:av) (cs:List Value),lY f t l=some x->x.length<=1000000->RdT S cs t->Pure Tryz.prog vZ [.agg cs.toArray,.int .i64 l] S (.string (st x))
def AY (f:Nat):Prop:=∀ (t:T) (l:Int) (x:Bs) (S:av) (cs:List Value),CJ f t l=some x->x.length<=1000000->RdT S cs t->Pure Tryz.prog Cg [.agg cs.toArray,.int .i64 l] S (.string (st x))
def xr (f:Nat):Prop:=∀ (t:T) (l:Int) (x:Bs) (S:av) (cs:List Value),xL f t l=some x->x.length<=1000000->RdT S cs t->Pure Tryz.prog zh [.agg cs.toArray,.int .i64 l] S (.string (st x))
section
attribute [local irreducible] Run CondV ag a4
theorem Fx {f:Nat} (ih:∀ g,g<f->qT g):yi f:=by
 intro ts x S u h hx hu w hI
 refine tb ?_
 unfold qX
 refine ⟨fun a b w'=>∃ (f' j:Nat) (out acc:Bs),f'<=f/\j<=ts.length/\a=.int .i64 (j:Int)/\b=.string (st out)/\acc=out++(if 0<j/\j<ts.length then [44] else [])/\ky f' (ts.drop j) acc=some x/\Inv w [] [] S w',
  fun a _ _=>ts.length - (intOf a).toNat,⟨f,0,[],[],Nat.le_refl _,Nat.zero_le _,rfl,rfl,by simp,h,hI⟩,?_⟩
 intro t4 _ _ _ _ _ _ _ _ _ t3 _ _ _ _ _ _ _ _ w'
 rintro ⟨f',j,out,acc,hf',hj,rfl,rfl,hacc,ha,hI⟩
 cases f' with
 | zero=>simp [ky] at ha
 | succ g=>
 refine a9 hu ay ?_
 refine co ?_
 refine bp (fun hji=>?_) (fun hji=>?_)
 ·have hj':j<ts.length:=by omega
  rw [List.drop_eq_getElem_cons hj',ky] at ha
  split at ha
  ·cases ha
  rename_i y hy
  have hlen:=wF _ _ _ _ ha
  simp only [List.length_append] at hlen
  refine ⟨fun b w'=>b=.string (st acc)/\Inv w [] [] S w',?_,?_⟩
  ·refine dS ?_
   refine bp (fun h0=>?_) (fun h0=>?_)
   ·rw [if_pos (by omega)] at hacc
    refine cY (b:=[44]) (by rw [hacc,List.length_append] at hlen; simp only [List.length_cons,List.length_nil] at hlen ⊢; omega) ?_
    exact ⟨by rw [hacc],hI⟩
   ·rw [if_neg (by omega),List.append_nil] at hacc
    exact ⟨by rw [hacc],hI⟩
  intro t3 _ _ _ _ w'
  rintro ⟨rfl,hI⟩
  refine ec hI hu ay ai hj' (fun _ _=>RdT.length) fun cs hcs=>?_
  refine Run.callPure eY eT hI (ih g (by omega) _ y S cs hy (by omega) hcs) fun w' hI=>?_
  refine cY (by omega) ?_
  refine bC (by have:=hu.le; simp only [maxLen] at this; omega) ?_
  refine ⟨⟨g,j+1,acc++y,_,by omega,hj',rfl,rfl,rfl,?_,hI⟩,by simp only [intOf,Int.toNat_natCast]; omega⟩
  have e:(if ts.drop (j+1)=[] then [] else [44]:Bs)=if 0<j+1/\j+1<ts.length then [44] else []:=by
   by_cases h1:j+1<ts.length
   ·rw [if_neg (fun h2=>by rw [List.drop_eq_nil_iff] at h2; omega),if_pos (by omega)]
   ·rw [if_pos (List.drop_eq_nil_of_le (by omega)),if_neg (by omega)]
  rw [<- e]
  exact ha
 ·have:j=ts.length:=by omega
  subst this
  rw [List.drop_length,ky] at ha
  simp only [Option.some.injEq] at ha
  rw [if_neg (by omega),List.append_nil] at hacc
  exact done hI (by rw [<- ha,hacc])
theorem Bk {f:Nat} (ih:∀ g,g<f->qT g):l8 f:=by
 intro t l x S cs h hx hc w hI
 cases f with
 | zero=>simp [lY] at h
 | succ g=>
 rw [lY] at h
 split at h
 ·cases h
 rename_i y hy
 simp only [Option.some.injEq] at h
 have h0:=hc
 obtain ⟨kv,rfl,_,_,_,hk⟩:=RdT.iff.1 hc
 obtain ⟨ka,kc,rfl,_⟩:=id hk
 have hyx:y.length<=1000000/\y.length+2<=9000000:=by
  have:y.length<=x.length:=by
   rw [<- h]; split
   ·simp; omega
   ·omega
  omega
 refine og ?_
 unfold lG
 refine ca hI fun b1 w' hI=>?_
 refine ⟨fun b w'=>b=.bool (jM t && decide (l<dG t.name))/\Inv w [] [.blk b1 (.cells #[.int .i64 t.kind,.int .i64 t.n,.string t.name,.slice ka t.kids.length kc] ad)] S w',?_,?_⟩
 ·refine a8 hI 0 ai rfl rfl ?_
  refine Run.callPure nH ox hI (j7 h0) fun w' hI=>?_
  cases hf:jM t
  ·repeat (first|refine ac ?_|refine af (by decide) ?_|refine ab ?_|refine al ?_|refine ak ?_)
   exact ⟨by rw [Bool.false_and],hI⟩
  ·repeat (first|refine ac ?_|refine af (by decide) ?_|refine ab ?_|refine al ?_|refine ak ?_)
   refine az hI 0 rfl bk bi rfl ?_
   refine Run.callPure eI eK hI (dC _ S) fun w' hI=>?_
   refine dS ?_
   repeat (first|refine ac ?_|refine af (by decide) ?_|refine ab ?_|refine al ?_|refine ak ?_)
   exact ⟨by rw [Bool.true_and],hI⟩
 intro t13 _ _ _ _ _ _ _ _ w'
 rintro ⟨rfl,hI⟩
 refine aX (fun hb=>?_) (fun hb=>?_)
 ·rw [Bool.and_eq_true,decide_eq_true_eq] at hb
  rw [if_pos hb] at h
  refine a8 hI 0 ai rfl rfl ?_
  refine Run.callPure eY eT hI (ih g (by omega) t y S _ hy hyx.1 h0) fun w' hI=>?_
  refine cY (a:=[40]) (by simp only [List.length_cons,List.length_nil]; omega) ?_
  refine cY (b:=[41]) (by simp only [List.length_append,List.length_cons,List.length_nil]; omega) ?_
  exact done hI (by rw [<- h])
 ·rw [if_neg (fun hh=>by rw [Bool.and_eq_false_iff,decide_eq_false_iff_not] at hb; rcases hb with hb|hb; rw [hh.1] at hb; cases hb; exact hb hh.2)] at h
  refine a8 hI 0 ai rfl rfl ?_
  refine Run.callPure eY eT hI (ih g (by omega) t y S _ hy hyx.1 h0) fun w' hI=>?_
  exact done hI (by rw [<- h])
theorem FG {f:Nat} (ih:∀ g,g<f->qT g) (ihB:∀ g,g<f->l8 g):AY f:=by
 intro t l x S cs h hx hc w hI
 cases f with
 | zero=>simp [CJ] at h
 | succ g=>
 rw [CJ] at h
 have h0:=hc
 obtain ⟨kv,rfl,_,_,_,hk⟩:=RdT.iff.1 hc
 obtain ⟨ka,kc,rfl,_⟩:=id hk
 refine sO ?_
 unfold rM
 refine ca hI fun b1 w' hI=>?_
 refine a8 hI 0 ai rfl rfl ?_
 refine Run.callPure rc qY hI (lQ h0) fun w' hI=>?_
 split at h
 ·rename_i hs
  split at h
  ·cases h
  rename_i y hy
  simp only [Option.some.injEq] at h
  have hyx:y.length+2=x.length:=by rw [<- h]; simp only [List.length_append,List.length_cons,List.length_nil]; omega
  rw [hs]
  refine aX (fun _=>?_) (fun hb=>by cases hb)
  refine a8 hI 0 ai rfl rfl ?_
  refine Run.callPure eY eT hI (ih g (by omega) t y S _ hy (by omega) h0) fun w' hI=>?_
  refine cY (a:=[40]) (by simp only [List.length_cons,List.length_nil]; omega) ?_
  refine cY (b:=[41]) (by simp only [List.length_append,List.length_cons,List.length_nil]; omega) ?_
  exact done hI (by rw [<- h])
 ·rename_i hs
  rw [Bool.eq_false_iff.2 hs]
  refine aX (fun hb=>by cases hb) (fun _=>?_)
  refine a8 hI 0 ai rfl rfl ?_
  refine Run.callPure lV lU hI (ihB g (by omega) t l x S _ h hx h0) fun w' hI=>?_
  exact done hI rfl
theorem DW {f:Nat} (ihB:∀ g,g<f->l8 g):xr f:=by
 intro t l x S cs h hx hc w hI
 cases f with
 | zero=>simp [xL] at h
 | succ g=>
 rw [xL] at h
 split at h
 ·cases h
 rename_i y hy
 split at h
 ·cases h
 rename_i hne
 simp only [Option.some.injEq] at h
 have hy0:0<y.length:=by
  cases y with
  | nil=>exact absurd rfl hne
  | cons a l=>simp
 have hyx:y.length<=1000000:=by
  have:y.length<=x.length:=by
   rw [<- h]; split
   ·simp; omega
   ·omega
  omega
 have h0:=hc
 obtain ⟨kv,rfl,_,_,_,hk⟩:=RdT.iff.1 hc
 obtain ⟨ka,kc,rfl,_⟩:=id hk
 refine sd ?_
 unfold ot
 refine ca hI fun b1 w' hI=>?_
 refine a8 hI 0 ai rfl rfl ?_
 refine Run.callPure lV lU hI (ihB g (by omega) t l y S _ hy hyx h0) fun w' hI=>?_
 refine ⟨fun b w'=>b=.bool (rj t || !xj y)/\Inv w [] [.blk b1 (.cells #[.int .i64 t.kind,.int .i64 t.n,.string t.name,.slice ka t.kids.length kc] ad)] S w',?_,?_⟩
 ·refine a8 hI 0 ai rfl rfl ?_
  refine Run.callPure rc qY hI (lQ h0) fun w' hI=>?_
  cases hs:rj t
  ·repeat (first|refine ac ?_|refine af (by decide) ?_|refine ab ?_|refine al ?_|refine ak ?_)
   refine Run.callPure yu yM hI (vO y hy0) fun w' hI=>?_
   refine c9 ?_
   repeat (first|refine ac ?_|refine af (by decide) ?_|refine ab ?_|refine al ?_|refine ak ?_)
   exact ⟨by rw [Bool.false_or],hI⟩
  ·repeat (first|refine ac ?_|refine af (by decide) ?_|refine ab ?_|refine al ?_|refine ak ?_)
   exact ⟨by rw [Bool.true_or],hI⟩
 intro t15 _ _ _ _ _ _ w'
 rintro ⟨rfl,hI⟩
 refine aX (fun hb=>?_) (fun hb=>?_)
 ·rw [Bool.or_eq_true,Bool.not_eq_true'] at hb
  rw [if_pos hb] at h
  refine cY (a:=[40]) (by simp only [List.length_cons,List.length_nil]; omega) ?_
  refine cY (b:=[41]) (by simp only [List.length_append,List.length_cons,List.length_nil]; omega) ?_
  exact done hI (by rw [<- h])
 ·rw [if_neg (fun hh=>by rw [<- Bool.not_eq_true',<- Bool.or_eq_true,hb] at hh; cases hh)] at h
  exact done hI (by rw [<- h])
theorem E7 {f:Nat} (hf:f<=100000) (ih:∀ g,g<f->qT g) (ihA:∀ g,g<f->yi g):AV f:=by
 intro t x S cs h hx hc w hI
 obtain ⟨kv,rfl,_,_,_,hk⟩:=RdT.iff.1 hc
 refine tl ?_
 unfold qH
 refine ca hI fun b1 w' hI=>?_
 refine dL hI bn fun v0 w' hI=>?_
 refine ⟨fun a w'=>∃ (f':Nat) (t':T) (items:List T) (ds:List Value) (css:List (List Value)),f'+items.length=f/\ww f' t' items=some x/\RdT S ds t'/\Rows 4 (RdT S) css items/\(∃ p m,a=.slice p items.length m)/\Inv w [] [.blk b1 (.cells ds.toArray ad),bq a ad 4 css] S w',
  fun a _=>f+1 - lenOf a,⟨f,t,[],_,[],by simp,h,hc,Rows.nil _ _,?_,hI⟩,?_⟩
 ·have hI2:Inv w [] ([Item.blk b1 (.cells #[.int .i64 t.kind,.int .i64 t.n,.string t.name,kv] ad)]++[bq v0 ad 4 []]) S w':=hI
  obtain ⟨S1,_,hrd,_⟩:=Inv.lendExt hI2
  obtain ⟨p,m,e,_⟩:=RowRd.rows (Rows.nil 4 (RdT S)) hrd
  exact ⟨p,m,e⟩
 clear h hc hk hI
 intro _ _ _ _ t3 _ _ _ _ _ _ _ _ _ w'
 rintro ⟨f',t',items,ds,css,hfl,hl,hd,hR,⟨p,m,rfl⟩,hI⟩
 have hd0:=hd
 obtain ⟨kd,rfl,_,_,_,hk⟩:=RdT.iff.1 hd
 have hcl:=hR.hc
 cases f' with
 | zero=>simp [ww] at hl
 | succ g=>
 rw [ww] at hl
 refine a8 hI 0 ai rfl rfl ?_
 refine Run.callPure iP iL hI (fR hd0) fun w' hI=>?_
 split at hl
 ·rename_i hp
  split at hl
  ·rename_i a b hab
   rw [hp]
   refine aX (fun _=>?_) (fun hb=>by cases hb)
   rw [hab] at hk
   refine az hI 0 rfl aT aS rfl ?_
   refine ec (i:=0) hI hk ay ai (by simp) (fun _ _=>RdT.length) fun es hes=>?_
   rw [List.getElem_cons_zero] at hes
   refine fi (css:=css) hI 1 es bn (by omega) (by omega) rfl hes.length hes.one (by omega) (by omega) fun v' w' hI=>?_
   refine az hI 0 rfl aT aS rfl ?_
   refine ec (i:=1) hI hk ay ai (by simp) (fun _ _=>RdT.length) fun gs hgs=>?_
   rw [List.getElem_cons_succ,List.getElem_cons_zero] at hgs
   have hg1:=hgs.length
   refine bd hI 0 rfl ai (by simpa using hg1) rfl (by simpa using hgs.one) fun w' hI=>?_
   have hR2:=hR.snoc hes hes.length
   have hI2:Inv w [] ([Item.blk b1 (.cells gs.toArray ad)]++[bq v' ad 4 (css++[es])]) S w':=hI
   obtain ⟨S1,hE1,hrd,_⟩:=Inv.lendExt hI2
   obtain ⟨p',m',e',_⟩:=RowRd.rows hR2 hrd
   refine ⟨⟨g,b,items++[a],gs,css++[es],by rw [List.length_append]; simp only [List.length_cons,List.length_nil]; omega,hl,hgs,hR2,⟨p',m',e'⟩,hI⟩,?_⟩
   rw [e']
   simp only [lenOf,List.length_append,List.length_cons,List.length_nil]
   omega
  ·cases hl
 ·rename_i hp
  rw [Bool.eq_false_iff.2 hp]
  refine aX (fun hb=>by cases hb) (fun _=>?_)
  split at hl
  ·cases hl
  rename_i y hy
  refine a8 hI 0 ai rfl rfl ?_
  refine Run.callPure BT BI hI (u0 hd0) fun w' hI=>?_
  have hI2:Inv w [] ([Item.blk b1 (.cells #[.int .i64 t'.kind,.int .i64 t'.n,.string t'.name,kd] ad)]++[bq (.slice p items.length m) ad 4 css]) S w':=hI
  obtain ⟨S1,hE1,hrd,hI⟩:=Inv.lendExt hI2
  have hrs:=RowRd.rows (hR.monoR fun _ _ h=>RdT.mono hE1.1 h) hrd
  have hd1:=RdT.mono hE1.1 hd0
  split at hl
  ·rename_i hn
   simp only [Option.some.injEq] at hl
   have hyx:y.length+2=x.length:=by rw [<- hl]; simp only [List.length_append,List.length_cons,List.length_nil]; omega
   rw [hn]
   refine aX (fun _=>?_) (fun hb=>by cases hb)
   refine Run.callPure lT lN hI (ihA g (by omega) items y S1 _ hy (by omega) hrs) fun w' hI=>?_
   refine cY (a:=[91]) (by simp only [List.length_cons,List.length_nil]; omega) ?_
   refine cY (b:=[93]) (by simp only [List.length_append,List.length_cons,List.length_nil]; omega) ?_
   exact o6 hI hE1.1 (by rw [<- hl])
  ·rename_i hn
   split at hl
   ·cases hl
   rename_i z hz
   simp only [Option.some.injEq] at hl
   have hyx:y.length+z.length+3=x.length:=by rw [<- hl]; simp only [List.length_append,List.length_cons,List.length_nil]; omega
   rw [Bool.eq_false_iff.2 hn]
   refine aX (fun hb=>by cases hb) (fun _=>?_)
   refine ⟨fun D x2 dY dX dN dk dO de cU cW w_=>(D 0=true->cW=.slice p items.length m)/\(D 1=true->cU=.string (st y))/\(D 2=true->de=.string (st ([91]++y)))/\(D 3=true->dO=.string (st ([91]++y++[124])))/\(D 4=true->dk=.agg #[.int .i64 t'.kind,.int .i64 t'.n,.string t'.name,kd])/\(D 5=true->dN=.string (st z))/\(D 6=true->dX=.string (st ([91]++y++[124]++z)))/\(D 7=true->dY=.string (st ([91]++y++[124]++z++[93])))/\(D 8=true->x2=.string (st ([91]++y++[124]++z++[93])))/\Inv w [] [.blk b1 (.cells #[.int .i64 t'.kind,.int .i64 t'.n,.string t'.name,kd] ad)] S1 w_,⟨ae,ae,ae,ae,ae,ae,ae,ae,ae,hI.draw⟩,⟨?_,?_,?_,?_,?_,?_,?_,?_,?_,trivial⟩,?_⟩
   ·intro D a6  x2 dY dX dN dk dO de cU cW w_
    rintro ⟨aB,aC,aA,aD,ax,aF,aE,aG,aI,hI⟩
    exact ⟨fun _=>rfl,aC,aA,aD,ax,aF,aE,aG,aI,hI⟩
   ·intro D a6 cV x2 dY dX dN dk dO de cU cW w_
    rintro ⟨aB,aC,aA,aD,ax,aF,aE,aG,aI,hI⟩
    obtain rfl:=aB cV
    refine Run.callPure lT lN hI (ihA g (by omega) items y S1 _ hy (by omega) hrs) fun w_ hI=>?_
    exact ⟨aB,fun _=>rfl,aA,aD,ax,aF,aE,aG,aI,hI⟩
   ·intro D a6 d3 x2 dY dX dN dk dO de cU cW w_
    rintro ⟨aB,aC,aA,aD,ax,aF,aE,aG,aI,hI⟩
    obtain rfl:=aC d3
    refine cY (a:=[91]) (by simp only [List.length_cons,List.length_nil]; omega) ?_
    exact ⟨aB,aC,fun _=>rfl,aD,ax,aF,aE,aG,aI,hI⟩
   ·intro D a6 eL x2 dY dX dN dk dO de cU cW w_
    rintro ⟨aB,aC,aA,aD,ax,aF,aE,aG,aI,hI⟩
    obtain rfl:=aA eL
    refine cY (b:=[124]) (by simp only [List.length_append,List.length_cons,List.length_nil]; omega) ?_
    exact ⟨aB,aC,aA,fun _=>rfl,ax,aF,aE,aG,aI,hI⟩
   ·intro D a6  x2 dY dX dN dk dO de cU cW w_
    rintro ⟨aB,aC,aA,aD,ax,aF,aE,aG,aI,hI⟩
    refine a8 hI 0 ai rfl rfl ?_
    exact ⟨aB,aC,aA,aD,fun _=>rfl,aF,aE,aG,aI,hI⟩
   ·intro D a6 dr gH x2 dY dX dN dk dO de cU cW w_
    rintro ⟨aB,aC,aA,aD,ax,aF,aE,aG,aI,hI⟩
    obtain rfl:=ax dr
    refine Run.callPure eY eT hI (ih g (by omega) t' z S1 _ hz (by omega) hd1) fun w_ hI=>?_
    exact ⟨aB,aC,aA,aD,ax,fun _=>rfl,aE,aG,aI,hI⟩
   ·intro D a6 dg kH x2 dY dX dN dk dO de cU cW w_
    rintro ⟨aB,aC,aA,aD,ax,aF,aE,aG,aI,hI⟩
    obtain rfl:=aD dg
    obtain rfl:=aF kH
    refine cY (by simp only [List.length_append,List.length_cons,List.length_nil]; omega) ?_
    exact ⟨aB,aC,aA,aD,ax,aF,fun _=>rfl,aG,aI,hI⟩
   ·intro D a6 cA x2 dY dX dN dk dO de cU cW w_
    rintro ⟨aB,aC,aA,aD,ax,aF,aE,aG,aI,hI⟩
    obtain rfl:=aE cA
    refine cY (b:=[93]) (by simp only [List.length_append,List.length_cons,List.length_nil]; omega) ?_
    exact ⟨aB,aC,aA,aD,ax,aF,aE,fun _=>rfl,aI,hI⟩
   ·intro D a6 dl kH ul ve u5 vw yh Ar z0 Dv x2 dY dX dN dk dO de cU cW w_
    rintro ⟨aB,aC,aA,aD,ax,aF,aE,aG,aI,hI⟩
    obtain rfl:=aG dl
    exact ⟨aB,aC,aA,aD,ax,aF,aE,aG,fun _=>rfl,hI⟩
   intro D io gc gp f1 fL fJ fP fN fO x2 dY dX dN dk dO de cU cW w_
   rintro ⟨aB,aC,aA,aD,ax,aF,aE,aG,aI,hI⟩
   obtain rfl:=aI io
   obtain rfl:=aG gc
   obtain rfl:=aE gp
   obtain rfl:=aF f1
   obtain rfl:=ax fL
   obtain rfl:=aD fJ
   obtain rfl:=aA fP
   obtain rfl:=aC fN
   obtain rfl:=aB fO
   clear aB aC aA aD ax aF aE aG aI
   exact o6 hI hE1.1 (by rw [<- hl])
theorem Gh {f:Nat} (ihL:∀ g,g<f->AV g) (ihA:∀ g,g<f->yi g) (ihF:∀ g,g<f->AY g) (ihR:∀ g,g<f->xr g):qT f:=by
 intro t x S cs h hx hc w hI
 cases f with
 | zero=>simp [yk] at h
 | succ g=>
 rw [yk] at h
 have h0:=hc
 obtain ⟨kv,rfl,_,_,_,hk⟩:=RdT.iff.1 hc
 refine tC ?_
 unfold rF
 refine ca hI fun b1 w' hI=>?_
 obtain ⟨B1,hB1⟩:∃ B1,B1=Item.blk b1 (.cells #[.int .i64 t.kind,.int .i64 t.n,.string t.name,kv] ad):=⟨_,rfl⟩
 refine a8 hI 0 ai rfl rfl ?_
 refine Run.callPure iP iL hI (fR h0) fun w' hI=>?_
 split at h
 ·rename_i hp
  rw [hp]
  refine aX (fun _=>?_) (fun hb=>by cases hb)
  refine a8 hI 0 ai rfl rfl ?_
  refine Run.callPure zM zJ hI (ihL g (by omega) t x S _ h hx h0) fun w' hI=>?_
  exact done hI rfl
 rename_i hp
 have hp:=Bool.eq_false_iff.2 hp
 rw [hp]
 refine aX (fun hb=>by cases hb) (fun _=>?_)
 refine a8 hI 0 ai rfl rfl ?_
 refine Run.callPure nH ox hI (j7 h0) fun w' hI=>?_
 split at h
 ·rename_i hf
  rw [hf]
  refine aX (fun _=>?_) (fun hb=>by cases hb)
  split at h
  ·rename_i a b hab
   obtain ⟨lv,hlv⟩:∃ lv,lv=dG t.name:=⟨_,rfl⟩
   rw [<- hlv] at h
   have hlr:1<=lv/\lv<=3:=by
    have h1:0<dG t.name:=by
     unfold jM at hf
     simp only [Bool.and_eq_true,decide_eq_true_eq] at hf
     exact hf.2.2
    have h2:dG t.name<=3:=by
     unfold dG
     split
     ·omega
     ·split
      ·omega
      ·split <;> omega
    omega
   split at h
   ·rename_i y z hy hz
    simp only [Option.some.injEq] at h
    have hlen:y.length+(fQ (bs t.name)).length+z.length=x.length:=by rw [<- h]; simp only [List.length_append]
    have hsp:(bs t.name).length<=(fQ (bs t.name)).length:=by
     unfold fQ
     split
     ·simp; omega
     ·omega
    rw [hab] at hk
    obtain ⟨b2,o2,cap2,c2,E2,fz2,rfl,hS,hRa⟩:=hk.at_ (i:=0) (by simp)
    obtain ⟨b2',o2',cap2',c2',E2',fz2',hsl,hS',hRb⟩:=hk.at_ (i:=1) (by simp)
    cases hsl
    rw [hS] at hS'
    cases hS'
    rw [List.getElem_cons_zero] at hRa
    rw [List.getElem_cons_succ,List.getElem_cons_zero] at hRb
    refine az hI 0 rfl bk bi rfl ?_
    refine Run.callPure eI eK hI (dC _ S) fun w' hI=>?_
    rw [<- hlv]
    have hI:Inv w [] [B1] S w':=by rw [hB1]; exact hI
    refine ⟨fun v w'=>v=.int .i64 (if lv=3 then 2 else lv)/\Inv w [] [B1] S w',?_,?_⟩
    ·refine cw ?_
     refine bp (fun h3=>⟨by rw [if_pos h3],hI⟩) (fun h3=>⟨by rw [if_neg h3],hI⟩)
    intro t4 _ _ w'
    rintro ⟨rfl,hI⟩
    subst hB1
    skip
    refine ⟨fun D x2 d4 d5 fM dZ eQ dY dX dN dk dO de cU cW df c5 db c4 cq w_=>(D 0=true->cq=.pointer (some ⟨b1,3,none⟩))/\(D 1=true->c4=.slice (some ⟨b2,o2,none⟩) [a,b].length cap2)/\(D 2=true->db=.pointer (some ⟨b2,o2+0 * 4,none⟩))/\(D 3=true->c5=.agg (bf c2 (o2+0 * 4) 4).toArray)/\(D 4=true->df=.int .i64 (if lv=3 then 2 else lv))/\(D 5=true->cW=.string (st y))/\(D 6=true->cU=.pointer (some ⟨b1,2,none⟩))/\(D 7=true->de=.string t.name)/\(D 8=true->dO=.string (st (fQ (bs t.name))))/\(D 9=true->dk=.string (st (y++fQ (bs t.name))))/\(D 10=true->dN=.pointer (some ⟨b1,3,none⟩))/\(D 11=true->dX=.slice (some ⟨b2,o2,none⟩) [a,b].length cap2)/\(D 12=true->dY=.pointer (some ⟨b2,o2+1 * 4,none⟩))/\(D 13=true->eQ=.agg (bf c2 (o2+1 * 4) 4).toArray)/\(D 14=true->dZ=.int .i64 lv)/\(D 15=true->fM=.int .i64 (lv - 1))/\(D 16=true->d5=.string (st z))/\(D 17=true->d4=.string (st (y++fQ (bs t.name)++z)))/\(D 18=true->x2=.string (st (y++fQ (bs t.name)++z)))/\Inv w [] [.blk b1 (.cells #[.int .i64 t.kind,.int .i64 t.n,.string t.name,.slice (some ⟨b2,o2,none⟩) [a,b].length cap2] ad)] S w_,⟨ae,ae,ae,ae,ae,ae,ae,ae,ae,ae,ae,ae,ae,ae,ae,ae,ae,ae,ae,hI.draw⟩,⟨?_,?_,?_,?_,?_,?_,?_,?_,?_,?_,?_,?_,?_,?_,?_,?_,?_,?_,?_,trivial⟩,?_⟩
    ·intro D a6  x2 d4 d5 fM dZ eQ dY dX dN dk dO de cU cW df c5 db c4 cq w_
     rintro ⟨aB,aC,aA,aD,ax,aF,aE,aG,aI,aM,ah,aj,ar,aJ,aK,aL,aP,aO,aQ,hI⟩
     refine bo aT ?_
     exact ⟨fun _=>rfl,aC,aA,aD,ax,aF,aE,aG,aI,aM,ah,aj,ar,aJ,aK,aL,aP,aO,aQ,hI⟩
    ·intro D a6 cV x2 d4 d5 fM dZ eQ dY dX dN dk dO de cU cW df c5 db c4 cq w_
     rintro ⟨aB,aC,aA,aD,ax,aF,aE,aG,aI,aM,ah,aj,ar,aJ,aK,aL,aP,aO,aQ,hI⟩
     obtain rfl:=aB cV
     refine bA hI 0 aS rfl rfl ?_
     exact ⟨aB,fun _=>rfl,aA,aD,ax,aF,aE,aG,aI,aM,ah,aj,ar,aJ,aK,aL,aP,aO,aQ,hI⟩
    ·intro D a6 d3 x2 d4 d5 fM dZ eQ dY dX dN dk dO de cU cW df c5 db c4 cq w_
     rintro ⟨aB,aC,aA,aD,ax,aF,aE,aG,aI,aM,ah,aj,ar,aJ,aK,aL,aP,aO,aQ,hI⟩
     obtain rfl:=aC d3
     refine ba (i:=0) ay (by simp) ?_
     exact ⟨aB,aC,fun _=>rfl,aD,ax,aF,aE,aG,aI,aM,ah,aj,ar,aJ,aK,aL,aP,aO,aQ,hI⟩
    ·intro D a6 eL x2 d4 d5 fM dZ eQ dY dX dN dk dO de cU cW df c5 db c4 cq w_
     rintro ⟨aB,aC,aA,aD,ax,aF,aE,aG,aI,aM,ah,aj,ar,aJ,aK,aL,aP,aO,aQ,hI⟩
     obtain rfl:=aA eL
     refine cu ai hRa.length (fun j v hj=>by rw [hI.cellS hS]; exact be rfl j v hj) ?_
     exact ⟨aB,aC,aA,fun _=>rfl,ax,aF,aE,aG,aI,aM,ah,aj,ar,aJ,aK,aL,aP,aO,aQ,hI⟩
    ·intro D a6  x2 d4 d5 fM dZ eQ dY dX dN dk dO de cU cW df c5 db c4 cq w_
     rintro ⟨aB,aC,aA,aD,ax,aF,aE,aG,aI,aM,ah,aj,ar,aJ,aK,aL,aP,aO,aQ,hI⟩
     exact ⟨aB,aC,aA,aD,fun _=>rfl,aF,aE,aG,aI,aM,ah,aj,ar,aJ,aK,aL,aP,aO,aQ,hI⟩
    ·intro D a6 dg dW x2 d4 d5 fM dZ eQ dY dX dN dk dO de cU cW df c5 db c4 cq w_
     rintro ⟨aB,aC,aA,aD,ax,aF,aE,aG,aI,aM,ah,aj,ar,aJ,aK,aL,aP,aO,aQ,hI⟩
     obtain rfl:=aD dg
     obtain rfl:=ax dW
     refine Run.callPure AL Ao hI (ihF g (by omega) a _ y S _ hy (by omega) hRa) fun w_ hI=>?_
     exact ⟨aB,aC,aA,aD,ax,fun _=>rfl,aE,aG,aI,aM,ah,aj,ar,aJ,aK,aL,aP,aO,aQ,hI⟩
    ·intro D a6  x2 d4 d5 fM dZ eQ dY dX dN dk dO de cU cW df c5 db c4 cq w_
     rintro ⟨aB,aC,aA,aD,ax,aF,aE,aG,aI,aM,ah,aj,ar,aJ,aK,aL,aP,aO,aQ,hI⟩
     refine bo bk ?_
     exact ⟨aB,aC,aA,aD,ax,aF,fun _=>rfl,aG,aI,aM,ah,aj,ar,aJ,aK,aL,aP,aO,aQ,hI⟩
    ·intro D a6 cA x2 d4 d5 fM dZ eQ dY dX dN dk dO de cU cW df c5 db c4 cq w_
     rintro ⟨aB,aC,aA,aD,ax,aF,aE,aG,aI,aM,ah,aj,ar,aJ,aK,aL,aP,aO,aQ,hI⟩
     obtain rfl:=aE cA
     refine bA hI 0 bi rfl rfl ?_
     exact ⟨aB,aC,aA,aD,ax,aF,aE,fun _=>rfl,aI,aM,ah,aj,ar,aJ,aK,aL,aP,aO,aQ,hI⟩
    ·intro D a6 dl kH x2 d4 d5 fM dZ eQ dY dX dN dk dO de cU cW df c5 db c4 cq w_
     rintro ⟨aB,aC,aA,aD,ax,aF,aE,aG,aI,aM,ah,aj,ar,aJ,aK,aL,aP,aO,aQ,hI⟩
     obtain rfl:=aG dl
     refine Run.callPure uX vN hI (uc (bs t.name) (by omega)) fun w_ hI=>?_
     exact ⟨aB,aC,aA,aD,ax,aF,aE,aG,fun _=>rfl,aM,ah,aj,ar,aJ,aK,aL,aP,aO,aQ,hI⟩
    ·intro D a6 ef gf x2 d4 d5 fM dZ eQ dY dX dN dk dO de cU cW df c5 db c4 cq w_
     rintro ⟨aB,aC,aA,aD,ax,aF,aE,aG,aI,aM,ah,aj,ar,aJ,aK,aL,aP,aO,aQ,hI⟩
     obtain rfl:=aF ef
     obtain rfl:=aI gf
     refine cY (by omega) ?_
     exact ⟨aB,aC,aA,aD,ax,aF,aE,aG,aI,fun _=>rfl,ah,aj,ar,aJ,aK,aL,aP,aO,aQ,hI⟩
    ·intro D a6  x2 d4 d5 fM dZ eQ dY dX dN dk dO de cU cW df c5 db c4 cq w_
     rintro ⟨aB,aC,aA,aD,ax,aF,aE,aG,aI,aM,ah,aj,ar,aJ,aK,aL,aP,aO,aQ,hI⟩
     refine bo aT ?_
     exact ⟨aB,aC,aA,aD,ax,aF,aE,aG,aI,aM,fun _=>rfl,aj,ar,aJ,aK,aL,aP,aO,aQ,hI⟩
    ·intro D a6 f2 x2 d4 d5 fM dZ eQ dY dX dN dk dO de cU cW df c5 db c4 cq w_
     rintro ⟨aB,aC,aA,aD,ax,aF,aE,aG,aI,aM,ah,aj,ar,aJ,aK,aL,aP,aO,aQ,hI⟩
     obtain rfl:=ah f2
     refine bA hI 0 aS rfl rfl ?_
     exact ⟨aB,aC,aA,aD,ax,aF,aE,aG,aI,aM,ah,fun _=>rfl,ar,aJ,aK,aL,aP,aO,aQ,hI⟩
    ·intro D a6 im x2 d4 d5 fM dZ eQ dY dX dN dk dO de cU cW df c5 db c4 cq w_
     rintro ⟨aB,aC,aA,aD,ax,aF,aE,aG,aI,aM,ah,aj,ar,aJ,aK,aL,aP,aO,aQ,hI⟩
     obtain rfl:=aj im
     refine ba (i:=1) ay (by simp) ?_
     exact ⟨aB,aC,aA,aD,ax,aF,aE,aG,aI,aM,ah,aj,fun _=>rfl,aJ,aK,aL,aP,aO,aQ,hI⟩
    ·intro D a6 kf x2 d4 d5 fM dZ eQ dY dX dN dk dO de cU cW df c5 db c4 cq w_
     rintro ⟨aB,aC,aA,aD,ax,aF,aE,aG,aI,aM,ah,aj,ar,aJ,aK,aL,aP,aO,aQ,hI⟩
     obtain rfl:=ar kf
     refine cu ai hRb.length (fun j v hj=>by rw [hI.cellS hS]; exact be rfl j v hj) ?_
     exact ⟨aB,aC,aA,aD,ax,aF,aE,aG,aI,aM,ah,aj,ar,fun _=>rfl,aK,aL,aP,aO,aQ,hI⟩
    ·intro D a6  x2 d4 d5 fM dZ eQ dY dX dN dk dO de cU cW df c5 db c4 cq w_
     rintro ⟨aB,aC,aA,aD,ax,aF,aE,aG,aI,aM,ah,aj,ar,aJ,aK,aL,aP,aO,aQ,hI⟩
     exact ⟨aB,aC,aA,aD,ax,aF,aE,aG,aI,aM,ah,aj,ar,aJ,fun _=>rfl,aL,aP,aO,aQ,hI⟩
    ·intro D a6 zS x2 d4 d5 fM dZ eQ dY dX dN dk dO de cU cW df c5 db c4 cq w_
     rintro ⟨aB,aC,aA,aD,ax,aF,aE,aG,aI,aM,ah,aj,ar,aJ,aK,aL,aP,aO,aQ,hI⟩
     obtain rfl:=aK zS
     refine qV (by omega) ?_
     exact ⟨aB,aC,aA,aD,ax,aF,aE,aG,aI,aM,ah,aj,ar,aJ,aK,fun _=>rfl,aP,aO,aQ,hI⟩
    ·intro D a6 iw DB IJ x2 d4 d5 fM dZ eQ dY dX dN dk dO de cU cW df c5 db c4 cq w_
     rintro ⟨aB,aC,aA,aD,ax,aF,aE,aG,aI,aM,ah,aj,ar,aJ,aK,aL,aP,aO,aQ,hI⟩
     obtain rfl:=aJ iw
     obtain rfl:=aL DB
     refine Run.callPure x3 xp hI (ihR g (by omega) b _ z S _ hz (by omega) hRb) fun w_ hI=>?_
     exact ⟨aB,aC,aA,aD,ax,aF,aE,aG,aI,aM,ah,aj,ar,aJ,aK,aL,fun _=>rfl,aO,aQ,hI⟩
    ·intro D a6 xg rn x2 d4 d5 fM dZ eQ dY dX dN dk dO de cU cW df c5 db c4 cq w_
     rintro ⟨aB,aC,aA,aD,ax,aF,aE,aG,aI,aM,ah,aj,ar,aJ,aK,aL,aP,aO,aQ,hI⟩
     obtain rfl:=aM xg
     obtain rfl:=aP rn
     refine cY (by rw [List.length_append]; omega) ?_
     exact ⟨aB,aC,aA,aD,ax,aF,aE,aG,aI,aM,ah,aj,ar,aJ,aK,aL,aP,fun _=>rfl,aQ,hI⟩
    ·intro D a6 Ea rn ul ve u5 vw yh Ar z0 Dv EZ Ec A2 DO EF Gu F0 H7 H6 HV x2 d4 d5 fM dZ eQ dY dX dN dk dO de cU cW df c5 db c4 cq w_
     rintro ⟨aB,aC,aA,aD,ax,aF,aE,aG,aI,aM,ah,aj,ar,aJ,aK,aL,aP,aO,aQ,hI⟩
     obtain rfl:=aO Ea
     exact ⟨aB,aC,aA,aD,ax,aF,aE,aG,aI,aM,ah,aj,ar,aJ,aK,aL,aP,aO,fun _=>rfl,hI⟩
    intro D uQ sU sR oI pe qu i5 eR eX jG io gc gp f1 fL fJ fP fN fO x2 d4 d5 fM dZ eQ dY dX dN dk dO de cU cW df c5 db c4 cq w_
    rintro ⟨aB,aC,aA,aD,ax,aF,aE,aG,aI,aM,ah,aj,ar,aJ,aK,aL,aP,aO,aQ,hI⟩
    obtain rfl:=aQ uQ
    obtain rfl:=aO sU
    obtain rfl:=aP sR
    obtain rfl:=aL oI
    obtain rfl:=aK pe
    obtain rfl:=aJ qu
    obtain rfl:=ar i5
    obtain rfl:=aj eR
    obtain rfl:=ah eX
    obtain rfl:=aM jG
    obtain rfl:=aI io
    obtain rfl:=aG gc
    obtain rfl:=aE gp
    obtain rfl:=aF f1
    obtain rfl:=ax fL
    obtain rfl:=aD fJ
    obtain rfl:=aA fP
    obtain rfl:=aC fN
    obtain rfl:=aB fO
    clear aB aC aA aD ax aF aE aG aI aM ah aj ar aJ aK aL aP aO aQ
    exact done hI (by rw [<- h])
   ·cases h
  ·cases h
 ·rename_i hf
  rw [Bool.eq_false_iff.2 hf]
  refine aX (fun hb=>by cases hb) (fun _=>?_)
  obtain ⟨ka,kc,rfl,_⟩:=id hk
  refine ⟨fun v w'=>v=.bool (decide (t.kind=3) && decide (0<t.kids.length))/\Inv w [] [B1] S w',?_,?_⟩
  ·refine az hI 0 rfl bt bj rfl ?_
   by_cases h3:t.kind=3
   ·refine eH h3 ?_
    repeat (first|refine ac ?_|refine af (by decide) ?_|refine ab ?_|refine al ?_|refine ak ?_)
    refine az hI 0 rfl aT aS rfl ?_
    refine fu ay ?_
    refine dS ?_
    repeat (first|refine ac ?_|refine af (by decide) ?_|refine ab ?_|refine al ?_|refine ak ?_)
    refine ⟨?_,by rw [hB1]; exact hI⟩
    rw [decide_eq_true h3,Bool.true_and]
    congr 1
    rw [decide_eq_decide]
    omega
   ·refine dw h3 ?_
    repeat (first|refine ac ?_|refine af (by decide) ?_|refine ab ?_|refine al ?_|refine ak ?_)
    exact ⟨by rw [decide_eq_false h3,Bool.false_and],by rw [hB1]; exact hI⟩
  intro t37 _ _ _ _ _ _ _ _ _ w'
  rintro ⟨rfl,hI⟩
  subst hB1
  split at h
  ·rename_i hc3
   rw [decide_eq_true hc3.1,decide_eq_true hc3.2]
   refine aX (fun _=>?_) (fun hb=>by cases hb)
   split at h
   ·rename_i y hy
    simp only [Option.some.injEq] at h
    have hlen:(bs t.name).length+y.length+2=x.length:=by rw [<- h]; simp only [List.length_append,List.length_cons,List.length_nil]; omega
    skip
    refine ⟨fun D x2 cI cJ cv cd cf ce bD bE w_=>(D 0=true->bE=.pointer (some ⟨b1,2,none⟩))/\(D 1=true->bD=.string t.name)/\(D 2=true->ce=.string (st (bs t.name++[40])))/\(D 3=true->cf=.pointer (some ⟨b1,3,none⟩))/\(D 4=true->cd=.slice ka t.kids.length kc)/\(D 5=true->cv=.string (st y))/\(D 6=true->cJ=.string (st (bs t.name++[40]++y)))/\(D 7=true->cI=.string (st (bs t.name++[40]++y++[41])))/\(D 8=true->x2=.string (st (bs t.name++[40]++y++[41])))/\Inv w [] [.blk b1 (.cells #[.int .i64 t.kind,.int .i64 t.n,.string t.name,.slice ka t.kids.length kc] ad)] S w_,⟨ae,ae,ae,ae,ae,ae,ae,ae,ae,hI.draw⟩,⟨?_,?_,?_,?_,?_,?_,?_,?_,?_,trivial⟩,?_⟩
    ·intro D a6  x2 cI cJ cv cd cf ce bD bE w_
     rintro ⟨aB,aC,aA,aD,ax,aF,aE,aG,aI,hI⟩
     refine bo bk ?_
     exact ⟨fun _=>rfl,aC,aA,aD,ax,aF,aE,aG,aI,hI⟩
    ·intro D a6 cV x2 cI cJ cv cd cf ce bD bE w_
     rintro ⟨aB,aC,aA,aD,ax,aF,aE,aG,aI,hI⟩
     obtain rfl:=aB cV
     refine bA hI 0 bi rfl rfl ?_
     exact ⟨aB,fun _=>rfl,aA,aD,ax,aF,aE,aG,aI,hI⟩
    ·intro D a6 d3 x2 cI cJ cv cd cf ce bD bE w_
     rintro ⟨aB,aC,aA,aD,ax,aF,aE,aG,aI,hI⟩
     obtain rfl:=aC d3
     refine cY (a:=bs t.name) (b:=[40]) (by simp only [List.length_cons,List.length_nil]; omega) ?_
     exact ⟨aB,aC,fun _=>rfl,aD,ax,aF,aE,aG,aI,hI⟩
    ·intro D a6  x2 cI cJ cv cd cf ce bD bE w_
     rintro ⟨aB,aC,aA,aD,ax,aF,aE,aG,aI,hI⟩
     refine bo aT ?_
     exact ⟨aB,aC,aA,fun _=>rfl,ax,aF,aE,aG,aI,hI⟩
    ·intro D a6 dg x2 cI cJ cv cd cf ce bD bE w_
     rintro ⟨aB,aC,aA,aD,ax,aF,aE,aG,aI,hI⟩
     obtain rfl:=aD dg
     refine bA hI 0 aS rfl rfl ?_
     exact ⟨aB,aC,aA,aD,fun _=>rfl,aF,aE,aG,aI,hI⟩
    ·intro D a6 dr x2 cI cJ cv cd cf ce bD bE w_
     rintro ⟨aB,aC,aA,aD,ax,aF,aE,aG,aI,hI⟩
     obtain rfl:=ax dr
     refine Run.callPure lT lN hI (ihA g (by omega) t.kids y S _ hy (by omega) hk) fun w_ hI=>?_
     exact ⟨aB,aC,aA,aD,ax,fun _=>rfl,aE,aG,aI,hI⟩
    ·intro D a6 eL kH x2 cI cJ cv cd cf ce bD bE w_
     rintro ⟨aB,aC,aA,aD,ax,aF,aE,aG,aI,hI⟩
     obtain rfl:=aA eL
     obtain rfl:=aF kH
     refine cY (by simp only [List.length_append,List.length_cons,List.length_nil]; omega) ?_
     exact ⟨aB,aC,aA,aD,ax,aF,fun _=>rfl,aG,aI,hI⟩
    ·intro D a6 cA x2 cI cJ cv cd cf ce bD bE w_
     rintro ⟨aB,aC,aA,aD,ax,aF,aE,aG,aI,hI⟩
     obtain rfl:=aE cA
     refine cY (b:=[41]) (by simp only [List.length_append,List.length_cons,List.length_nil]; omega) ?_
     exact ⟨aB,aC,aA,aD,ax,aF,aE,fun _=>rfl,aI,hI⟩
    ·intro D a6 dl kH ul ve u5 vw yh Ar z0 Dv x2 cI cJ cv cd cf ce bD bE w_
     rintro ⟨aB,aC,aA,aD,ax,aF,aE,aG,aI,hI⟩
     obtain rfl:=aG dl
     exact ⟨aB,aC,aA,aD,ax,aF,aE,aG,fun _=>rfl,hI⟩
    intro D io gc gp f1 fL fJ fP fN fO x2 cI cJ cv cd cf ce bD bE w_
    rintro ⟨aB,aC,aA,aD,ax,aF,aE,aG,aI,hI⟩
    obtain rfl:=aI io
    obtain rfl:=aG gc
    obtain rfl:=aE gp
    obtain rfl:=aF f1
    obtain rfl:=ax fL
    obtain rfl:=aD fJ
    obtain rfl:=aA fP
    obtain rfl:=aC fN
    obtain rfl:=aB fO
    clear aB aC aA aD ax aF aE aG aI
    exact done hI (by rw [<- h])
   ·cases h
  ·rename_i hc3
   have e:(decide (t.kind=3) && decide (0<t.kids.length))=false:=by
    rw [Bool.eq_false_iff,ne_eq,Bool.and_eq_true,decide_eq_true_eq,decide_eq_true_eq]; exact hc3
   rw [e]
   refine aX (fun hb=>by cases hb) (fun _=>?_)
   refine a8 hI 0 ai rfl rfl ?_
   refine Run.callPure kL lx hI (oe h0 hp h) fun w' hI=>?_
   exact done hI rfl
theorem CV:∀ F f,f<F->F<=1000->qT f/\AV f/\yi f/\l8 f/\AY f/\xr f
 | 0,f,h,_=>by omega
 | F+1,f,h,hF=>by
  have ih:=fun g (hg:g<f)=>CV F g (by omega) (by omega)
  have hT:qT f:=Gh (fun g hg=>(ih g hg).2.1) (fun g hg=>(ih g hg).2.2.1) (fun g hg=>(ih g hg).2.2.2.2.1) (fun g hg=>(ih g hg).2.2.2.2.2)
  exact ⟨hT,E7 (by omega) (fun g hg=>(ih g hg).1) (fun g hg=>(ih g hg).2.2.1),Fx fun g hg=>(ih g hg).1,Bk fun g hg=>(ih g hg).1,FG (fun g hg=>(ih g hg).1) (fun g hg=>(ih g hg).2.2.2.1),DW fun g hg=>(ih g hg).2.2.2.1⟩
theorem we {f:Nat} (hf:f<=100):qT f:=(CV (f+1) f (by omega) (by omega)).1
end
end Go.Proofs.YtemmhhdnlbmicaaGreat

/- Copies whose topmost row is still the caller's own, all else published. (printed by gen_top.py out of Copy and CopyC) -/
namespace Go.Proofs.YtemmhhdnlbmicaaGreat
open Go Go.RowKit
theorem Grown.rows {α:Type} {k:Nat} {R:bl->List Value->α->Prop} {R':List Value->α->Prop} {Ls:List bl} {css:List (List Value)} {ys:List α} {S:av} (h:Grown k R Ls css ys) (hi:Ins S Ls.flatten)
  (hR:∀ L cs x,Ins S L->R L cs x->R' cs x):Rows k R' css ys:=
 ⟨h.hc,h.hk,fun i h1 h2=>hR _ _ _ (yK hi (by rw [h.hL]; exact h1)) (h.hR i h1 (by rw [h.hL]; exact h1) h2)⟩
abbrev D6 (t:T):Value->List Item->av->Prop:=fun v I' S'=>∃ kv css,v=.agg #[.int .i64 t.kind,.int .i64 t.n,.string t.name,kv]/\I'=[bq kv ad 4 css]/\Rows 4 (RdT S') css t.kids
section
attribute [local irreducible] Run CondV ag a4
theorem Do:∀ (t:T) (S:av) (cs:List Value),RdT S cs t->wT t<=1048576->Tri Tryz.prog na [.agg cs.toArray] [] S (D6 t):=by
 intro t S cs h hw
 obtain ⟨k,n,s,ks⟩:=t
 have ih:∀ t∈ks,∀ (S:av) (cs:List Value),RdT S cs t->wT t<=1048576->Tri Tryz.prog na [.agg cs.toArray] [] S (zT S t):=fun t _=>fh t
 intro w hI
 obtain ⟨kv,rfl,h1,h2,hs,hks⟩:=RdT.iff.1 h
 simp only [T.name,T.kids,T.kind,T.n] at h1 h2 hs hks ⊢
 simp only [wT] at hw
 refine lw ?_
 unfold lj
 refine ca hI fun b1 w' hI=>?_
 refine bw hI bu fun b2 w' hI=>?_
 refine az hI 0 rfl bt bj rfl ?_
 refine az hI 0 rfl bv bj rfl ?_
 refine az hI 0 rfl bk bi rfl ?_
 refine rl ?_
 refine bw hI bu fun b3 w' hI=>?_
 refine bd hI 2 rfl ai rfl rfl (by simp [Value.oneCell']) fun w' hI=>?_
 have hI:=hI.rowNil ad 4
 refine ⟨fun i w'=>∃ (j:Nat) (kvc:Value) (Ls:List bl) (css:List (List Value)),j<=ks.length/\i=.int .i64 j/\Grown 4 TrT Ls css (ks.take j)/\
   Inv w [] (.blk b1 (.cells #[.int .i64 k,.int .i64 n,.string s,kv] ad)::.blk b2 (.cells #[.int .i64 0,.int .i64 0,.string ⟨#[]⟩,.slice none 0 0] ad)::.blk b3 (.cells #[.int .i64 k,.int .i64 n,.string s,kvc] ad)::bq kvc ad 4 css::bB Ls.flatten) S w',
  fun i _=>ks.length - (intOf i).toNat,⟨0,_,[],[],Nat.zero_le _,rfl,Grown.nil _ _,hI⟩,?_⟩
 intro t4 _ _ _ _ _ _ _ _ _ _ _ _ _ _ _ _ _ _ w'
 rintro ⟨j,kvc,Ls,css,hj,rfl,hg,hI⟩
 refine az hI 0 rfl aT aS rfl ?_
 refine a9 hks ay ?_
 refine co ?_
 refine bp (fun hji=>?_) (fun hji=>?_)
 ·have hj':j<ks.length:=by omega
  have hjl:(ks.take j).length=j:=by simp; omega
  have hcl:=hg.hc
  have hm:=List.getElem_mem hj'
  have hwm:=i0 hm
  obtain ⟨b,o,cap,c,E,fz,rfl,hS,hR⟩:=hks.at_ hj'
  refine ⟨fun D dN dk dO de cU cW df c5 db c4 cq w_=>(D 0=true->cq=.pointer (some ⟨b3,3,none⟩))/\(D 1=true->c4=kvc)/\(D 2=true->db=.pointer (some ⟨b1,3,none⟩))/\(D 3=true->c5=.slice (some ⟨b,o,none⟩) (ks).length cap)/\(D 4=true->df=.int .i64 j)/\(D 5=true->cW=.pointer (some ⟨b,o+j * 4,none⟩))/\(D 6=true->cU=.agg (bf c (o+j * 4) 4).toArray)/\(D 7=true->True)/\(D 8=true->True)/\(D 9=true->True)/\(D 10=true->dN=.pointer (some ⟨b3,3,none⟩))/\(D 11=true->True)/\∃ M cs7 b8,(D 7=true->de=.agg cs7.toArray/\TrT M cs7 (ks)[j])/\(D 8=true->dO=.slice (some ⟨b8,0,none⟩) 1 1)/\(D 8=true->D 7=true)/\(D 9=true->D 8=true)/\(D 11=true->D 9=true)/\(D 11=true->D 1=true)/\Inv w [] (bx (.blk b1 (.cells #[.int .i64 k,.int .i64 n,.string s,.slice (some ⟨b,o,none⟩) ks.length cap] ad)) (.blk b2 (.cells #[.int .i64 0,.int .i64 0,.string ⟨#[]⟩,.slice none 0 0] ad)) (.blk b3 (.cells #[.int .i64 k,.int .i64 n,.string s,kvc] ad)) (.blk b3 (.cells #[.int .i64 k,.int .i64 n,.string s,dk] ad)) (bq kvc ad 4 css) (bq dk ad 4 (css++[cs7])) (bB Ls.flatten) M (.blk b8 (.cells cs7.toArray ad)) (D 7) (D 8) (D 9) (D 11)) S w_,⟨ae,ae,ae,ae,ae,ae,ae,ae,ae,ae,ae,ae,⟨[],[],0,ae,ae,ae,ae,ae,ae,by simpa [bx,bB] using hI.draw⟩⟩,⟨?_,?_,?_,?_,?_,?_,?_,?_,?_,?_,?_,?_,trivial⟩,?_⟩
  ·intro D a6  dN dk dO de cU cW df c5 db c4 cq w_
   rintro ⟨aB,aC,aA,aD,ax,aF,aE,aG,aI,aM,ah,aj,⟨M,cs7,b8,e7,e8,k8,k9,k11,k1,hI⟩⟩
   refine bo aT ?_
   exact ⟨fun _=>rfl,aC,aA,aD,ax,aF,aE,aG,aI,aM,ah,aj,⟨M,cs7,b8,e7,e8,k8,k9,k11,k1,hI⟩⟩
  ·intro D a6 cV dN dk dO de cU cW df c5 db c4 cq w_
   rintro ⟨aB,aC,aA,aD,ax,aF,aE,aG,aI,aM,ah,aj,⟨M,cs7,b8,e7,e8,k8,k9,k11,k1,hI⟩⟩
   obtain rfl:=aB cV
   have f11:D 11=false:=Bool.eq_false_iff.2 fun h=>by rw [k1 h] at a6; cases a6
   refine bA (b:=b3) hI 2 (c:=(#[.int .i64 k,.int .i64 n,.string s,kvc])) aS (by rw [f11]; rfl) rfl ?_
   have k1:=fun (_:aw D 1 11=true)=>(rfl:aw D 1 1=true)
   exact ⟨aB,fun _=>rfl,aA,aD,ax,aF,aE,aG,aI,aM,ah,aj,⟨M,cs7,b8,e7,e8,k8,k9,k11,k1,hI⟩⟩
  ·intro D a6  dN dk dO de cU cW df c5 db c4 cq w_
   rintro ⟨aB,aC,aA,aD,ax,aF,aE,aG,aI,aM,ah,aj,⟨M,cs7,b8,e7,e8,k8,k9,k11,k1,hI⟩⟩
   refine bo aT ?_
   exact ⟨aB,aC,fun _=>rfl,aD,ax,aF,aE,aG,aI,aM,ah,aj,⟨M,cs7,b8,e7,e8,k8,k9,k11,k1,hI⟩⟩
  ·intro D a6 eL dN dk dO de cU cW df c5 db c4 cq w_
   rintro ⟨aB,aC,aA,aD,ax,aF,aE,aG,aI,aM,ah,aj,⟨M,cs7,b8,e7,e8,k8,k9,k11,k1,hI⟩⟩
   obtain rfl:=aA eL
   refine bA hI 0 aS rfl rfl ?_
   exact ⟨aB,aC,aA,fun _=>rfl,ax,aF,aE,aG,aI,aM,ah,aj,⟨M,cs7,b8,e7,e8,k8,k9,k11,k1,hI⟩⟩
  ·intro D a6  dN dk dO de cU cW df c5 db c4 cq w_
   rintro ⟨aB,aC,aA,aD,ax,aF,aE,aG,aI,aM,ah,aj,⟨M,cs7,b8,e7,e8,k8,k9,k11,k1,hI⟩⟩
   exact ⟨aB,aC,aA,aD,fun _=>rfl,aF,aE,aG,aI,aM,ah,aj,⟨M,cs7,b8,e7,e8,k8,k9,k11,k1,hI⟩⟩
  ·intro D a6 dg dW dN dk dO de cU cW df c5 db c4 cq w_
   rintro ⟨aB,aC,aA,aD,ax,aF,aE,aG,aI,aM,ah,aj,⟨M,cs7,b8,e7,e8,k8,k9,k11,k1,hI⟩⟩
   obtain rfl:=aD dg
   obtain rfl:=ax dW
   refine ba ay hj' ?_
   exact ⟨aB,aC,aA,aD,ax,fun _=>rfl,aE,aG,aI,aM,ah,aj,⟨M,cs7,b8,e7,e8,k8,k9,k11,k1,hI⟩⟩
  ·intro D a6 ef dN dk dO de cU cW df c5 db c4 cq w_
   rintro ⟨aB,aC,aA,aD,ax,aF,aE,aG,aI,aM,ah,aj,⟨M,cs7,b8,e7,e8,k8,k9,k11,k1,hI⟩⟩
   obtain rfl:=aF ef
   refine cu ai hR.length (fun j v hj=>by rw [hI.cellS hS]; exact be rfl j v hj) ?_
   exact ⟨aB,aC,aA,aD,ax,aF,fun _=>rfl,aG,aI,aM,ah,aj,⟨M,cs7,b8,e7,e8,k8,k9,k11,k1,hI⟩⟩
  ·intro D a6 cA dN dk dO de cU cW df c5 db c4 cq w_
   rintro ⟨aB,aC,aA,aD,ax,aF,aE,aG,aI,aM,ah,aj,⟨M,cs7,b8,e7,e8,k8,k9,k11,k1,hI⟩⟩
   obtain rfl:=aE cA
   have f8:D 8=false:=Bool.eq_false_iff.2 fun h=>by rw [k8 h] at a6; cases a6
   have f9:D 9=false:=Bool.eq_false_iff.2 fun h=>by rw [k9 h] at f8; cases f8
   have f11:D 11=false:=Bool.eq_false_iff.2 fun h=>by rw [k11 h] at f9; cases f9
   rw [a6,f8,f9,f11] at hI
   refine Run.call0 er eG hI (ih _ (List.getElem_mem hj') S _ hR (by omega)) fun v' I' S w_=>?_
   rintro ⟨rfl,cs7,M,rfl,rfl,hT⟩ _ hI
   have e7:aw D 7 7=true->Value.agg cs7.toArray=Value.agg cs7.toArray/\TrT M cs7 (ks)[j]:=fun _=>⟨rfl,hT⟩
   have k8:=fun (_:aw D 7 8=true)=>(rfl:aw D 7 7=true)
   have hI:Inv w [] (bx (.blk b1 (.cells #[.int .i64 k,.int .i64 n,.string s,.slice (some ⟨b,o,none⟩) ks.length cap] ad)) (.blk b2 (.cells #[.int .i64 0,.int .i64 0,.string ⟨#[]⟩,.slice none 0 0] ad)) (.blk b3 (.cells #[.int .i64 k,.int .i64 n,.string s,kvc] ad)) (.blk b3 (.cells #[.int .i64 k,.int .i64 n,.string s,dk] ad)) (bq kvc ad 4 css) (bq dk ad 4 (css++[cs7])) (bB Ls.flatten) M (.blk b8 (.cells cs7.toArray ad)) true (D 8) (D 9) (D 11)) S w_:=by
    rw [f8,f9,f11]
    simpa [bx] using hI
   exact ⟨aB,aC,aA,aD,ax,aF,aE,fun _=>by first|assumption|trivial,aI,aM,ah,aj,⟨M,cs7,b8,e7,e8,k8,k9,k11,k1,hI⟩⟩
  ·intro D a6 dl dN dk dO de cU cW df c5 db c4 cq w_
   rintro ⟨aB,aC,aA,aD,ax,aF,aE,aG,aI,aM,ah,aj,⟨M,cs7,b8,e7,e8,k8,k9,k11,k1,hI⟩⟩
   have F6:=aG dl
   have f9:D 9=false:=Bool.eq_false_iff.2 fun h=>by rw [k9 h] at a6; cases a6
   have f11:D 11=false:=Bool.eq_false_iff.2 fun h=>by rw [k11 h] at f9; cases f9
   obtain ⟨q7,hT⟩:=e7 dl
   subst q7
   rw [dl,a6,f9,f11] at hI
   refine fq hI bn (by simp [Value.cells,hT.length]) (by omega) (by omega) fun b8 w_ hI=>?_
   have e7:aw D 8 7=true->Value.agg cs7.toArray=Value.agg cs7.toArray/\TrT M cs7 (ks)[j]:=fun _=>⟨rfl,hT⟩
   have e8:=fun (_:aw D 8 8=true)=>(rfl:Value.slice (some ⟨b8,0,none⟩) 1 1=_)
   have k8:=fun (_:aw D 8 8=true)=>dl
   have k9:=fun (_:aw D 8 9=true)=>(rfl:aw D 8 8=true)
   have hI:Inv w [] (bx (.blk b1 (.cells #[.int .i64 k,.int .i64 n,.string s,.slice (some ⟨b,o,none⟩) ks.length cap] ad)) (.blk b2 (.cells #[.int .i64 0,.int .i64 0,.string ⟨#[]⟩,.slice none 0 0] ad)) (.blk b3 (.cells #[.int .i64 k,.int .i64 n,.string s,kvc] ad)) (.blk b3 (.cells #[.int .i64 k,.int .i64 n,.string s,dk] ad)) (bq kvc ad 4 css) (bq dk ad 4 (css++[cs7])) (bB Ls.flatten) M (.blk b8 (.cells cs7.toArray ad)) (D 7) true (D 9) (D 11)) S w_:=by
    rw [dl,f9,f11]
    simpa [bx,Value.cells] using hI
   exact ⟨aB,aC,aA,aD,ax,aF,aE,aG,fun _=>by first|assumption|trivial,aM,ah,aj,⟨M,cs7,b8,e7,e8,k8,k9,k11,k1,hI⟩⟩
  ·intro D a6 d3 gf nl dN dk dO de cU cW df c5 db c4 cq w_
   rintro ⟨aB,aC,aA,aD,ax,aF,aE,aG,aI,aM,ah,aj,⟨M,cs7,b8,e7,e8,k8,k9,k11,k1,hI⟩⟩
   obtain rfl:=aC d3
   have GB:=aI gf
   have f11:D 11=false:=Bool.eq_false_iff.2 fun h=>by rw [k11 h] at a6; cases a6
   have q8:=e8 gf
   subst q8
   obtain ⟨_,hT⟩:=e7 nl
   rw [nl,gf,a6,f11] at hI
   have hblk:((bx (.blk b1 (.cells #[.int .i64 k,.int .i64 n,.string s,.slice (some ⟨b,o,none⟩) ks.length cap] ad)) (.blk b2 (.cells #[.int .i64 0,.int .i64 0,.string ⟨#[]⟩,.slice none 0 0] ad)) (.blk b3 (.cells #[.int .i64 k,.int .i64 n,.string s,c4] ad)) (.blk b3 (.cells #[.int .i64 k,.int .i64 n,.string s,dk] ad)) (bq c4 ad 4 css) (bq dk ad 4 (css++[cs7])) (bB Ls.flatten) M (.blk b8 (.cells cs7.toArray ad)) true true false false))[4+(bB Ls.flatten).length+(bB M).length]?=some (.blk b8 (.cells cs7.toArray ad)):=by
    have e4:4+(bB Ls.flatten).length+(bB M).length=((bB Ls.flatten).length+(bB M).length)+1+1+1+1:=by omega
    rw [e4]
    simp only [bx,List.getElem?_cons_succ]
    rw [List.getElem?_append_right (by omega),Nat.add_sub_cancel_left,List.getElem?_append_right (Nat.le_refl _),Nat.sub_self]; rfl
   refine fX hI 3 cs7 bn (by omega) rfl (by rw [hT.length]) (m:=1) (o:=0) ?_ hT.one (by omega) (by omega) fun v' w_ hI=>?_
   ·intro i u hi
    rw [hI.cellL hblk,Nat.zero_add]
    simpa using hi
   rw [gd] at hI
   have k9:=fun (_:aw D 9 9=true)=>gf
   have k11:=fun (_:aw D 9 11=true)=>(rfl:aw D 9 9=true)
   have hI:Inv w [] (bx (.blk b1 (.cells #[.int .i64 k,.int .i64 n,.string s,.slice (some ⟨b,o,none⟩) ks.length cap] ad)) (.blk b2 (.cells #[.int .i64 0,.int .i64 0,.string ⟨#[]⟩,.slice none 0 0] ad)) (.blk b3 (.cells #[.int .i64 k,.int .i64 n,.string s,c4] ad)) (.blk b3 (.cells #[.int .i64 k,.int .i64 n,.string s,v'] ad)) (bq c4 ad 4 css) (bq v' ad 4 (css++[cs7])) (bB Ls.flatten) M (.blk b8 (.cells cs7.toArray ad)) (D 7) (D 8) true (D 11)) S w_:=by
    rw [nl,gf,f11]
    exact hI
   exact ⟨aB,aC,aA,aD,ax,aF,aE,aG,aI,fun _=>by first|assumption|trivial,ah,aj,⟨M,cs7,b8,e7,e8,k8,k9,k11,k1,hI⟩⟩
  ·intro D a6 cV gH sq FD FC Gz GK G6 GJ Hj dN dk dO de cU cW df c5 db c4 cq w_
   rintro ⟨aB,aC,aA,aD,ax,aF,aE,aG,aI,aM,ah,aj,⟨M,cs7,b8,e7,e8,k8,k9,k11,k1,hI⟩⟩
   refine bo aT ?_
   exact ⟨aB,aC,aA,aD,ax,aF,aE,aG,aI,aM,fun _=>rfl,aj,⟨M,cs7,b8,e7,e8,k8,k9,k11,k1,hI⟩⟩
  ·intro D a6 f2 fB Fa Fq yI Fh Dn C1 Ga GV qM qZ FZ dN dk dO de cU cW df c5 db c4 cq w_
   rintro ⟨aB,aC,aA,aD,ax,aF,aE,aG,aI,aM,ah,aj,⟨M,cs7,b8,e7,e8,k8,k9,k11,k1,hI⟩⟩
   obtain rfl:=ah f2
   have Hb:=aM fB
   rw [qM,qZ,fB,a6] at hI
   obtain ⟨va,vn,vc,hv9⟩:=Inv.rowSlice hI 3 rfl
   refine fW hI 2 (n:=1) (by rw [hv9]; rfl) (by decide +kernel) rfl (by simp) (by rw [hv9]; simp [Value.cells,Value.oneCell']) fun w_ hI=>?_
   have hcl9:Value.cells dk=#[dk]:=by rw [hv9]; rfl
   rw [hcl9] at hI
   have k1:=fun (_:aw D 11 11=true)=>yI
   have k11:=fun (_:aw D 11 11=true)=>fB
   have hI:Inv w [] (bx (.blk b1 (.cells #[.int .i64 k,.int .i64 n,.string s,.slice (some ⟨b,o,none⟩) ks.length cap] ad)) (.blk b2 (.cells #[.int .i64 0,.int .i64 0,.string ⟨#[]⟩,.slice none 0 0] ad)) (.blk b3 (.cells #[.int .i64 k,.int .i64 n,.string s,kvc] ad)) (.blk b3 (.cells #[.int .i64 k,.int .i64 n,.string s,dk] ad)) (bq kvc ad 4 css) (bq dk ad 4 (css++[cs7])) (bB Ls.flatten) M (.blk b8 (.cells cs7.toArray ad)) (D 7) (D 8) (D 9) true) S w_:=by
    rw [qM,qZ,fB]
    exact hI
   exact ⟨aB,aC,aA,aD,ax,aF,aE,aG,aI,aM,ah,fun _=>trivial,⟨M,cs7,b8,e7,e8,k8,k9,k11,k1,hI⟩⟩
  intro D eR eX jG io gc gp f1 fL fJ fP fN fO dN dk dO de cU cW df c5 db c4 cq w_
  rintro ⟨aB,aC,aA,aD,ax,aF,aE,aG,aI,aM,ah,aj,⟨M,cs7,b8,e7,e8,k8,k9,k11,k1,hI⟩⟩
  obtain rfl:=ah eX
  have Hb:=aM jG
  have GB:=aI io
  have F6:=aG gc
  obtain rfl:=aE gp
  obtain rfl:=aF f1
  obtain rfl:=ax fL
  obtain rfl:=aD fJ
  obtain rfl:=aA fP
  obtain rfl:=aC fN
  obtain rfl:=aB fO
  clear aB aC aA aD ax aF aE aG aI aM ah aj
  obtain ⟨_,hT⟩:=e7 gc
  rw [gc,io,jG,eR] at hI
  refine bC (by omega) ?_
  refine ⟨⟨j+1,dk,Ls++[M],css++[cs7],hj',rfl,?_,?_⟩,by simp [intOf]; omega⟩
  ·rw [List.take_succ_eq_append_getElem hj']
   exact hg.snoc hT hT.length
  ·simp only [List.flatten_append,List.flatten_cons,List.flatten_nil,List.append_nil,dU]
   refine hI.sub ?_
   simp only [bx]
   rw [<- List.append_assoc]
   exact (((List.sublist_append_left _ _).cons_cons _).cons_cons _).cons_cons _ |>.cons_cons _
 ·have:j=ks.length:=by omega
  subst this
  rw [List.take_length] at hg
  obtain ⟨va,vn,vc,hvk⟩:=hI.rowSlice 3 rfl
  have hv1:kvc.oneCell'=true:=by rw [hvk]; rfl
  refine a8 hI 2 ai rfl rfl ?_
  refine bd hI 1 rfl ai rfl rfl ?_ fun w' hI=>?_
  ·intro u hu
   have hu':u∈([.int .i64 k,.int .i64 n,.string s,kvc]:List Value):=hu
   simp at hu'
   rcases hu' with rfl|rfl|rfl|rfl <;> first|rfl|exact hv1
  refine cz hI 1 ai rfl rfl ?_
  have hI:Inv w [] ([bq kvc ad 4 css]++bB Ls.flatten) S w':=hI.sub (List.sublist_append_right [_,_,_] _)
  obtain ⟨S1,hI,hE,hins⟩:=hI.pubExt
  exact ⟨_,_,S1,rfl,hI,hE,_,css,rfl,rfl,hg.rows hins fun _ _ _ hi h=>h.rd hi⟩
end
end Go.Proofs.YtemmhhdnlbmicaaGreat

/- Clauses and programs read: spec.l4Text, FormatClause, l4Goals, ParseClause, l18Cut, ParseProgram. -/
namespace Go.Proofs.YtemmhhdnlbmicaaGreat
open Go Go.RowKit
theorem qs:∀ (f:Nat) (l:List T) (b:Bool) (out x:Bs),qR f l b out=some x->out.length<=x.length
 | _,[],_,out,x,h=>by simp only [qR,Option.some.injEq] at h; subst h; exact Nat.le_refl _
 | f,t::l,b,out,x,h=>by
  rw [qR] at h
  split at h
  ·cases h
  ·have:=qs f _ _ _ _ h
   simp only [List.length_append] at this
   omega
section
variable {w0 w:World} {X:List Nat} {L:List Item} {S:av} {P:Program} {K:Value->World->Prop}
attribute [local irreducible] Run CondV ag a4
theorem BQ (h:Inv w0 X L S w) {T ty e:TypeId} {by_:Nat} {z v x:Value} {cs:List Bool} {css:List (List Value)} (i:Nat)
  (hT:l1 P T=some (e,1,by_,z)) (hi:L[i]?=some (bq v e 1 css)) (hx:x.cells=#[x]) (h1:x.oneCell'=true) (hfit:css.length+1<=4294967296) (hby:by_<=32768)
  (hk:∀ v' w',Inv w0 X (L.set i (bq v' e 1 (css++[[x]]))) S w'->K v' w') :
  Run P (aW T 1 [(0,x)]) w fun u w'=>Run P (aq .append #[T,T] ty cs [v,u]) w' K:=by
 refine fq h hT (by rw [hx]; rfl) (by omega) (by omega) fun b w' hI=>?_
 have hil:i<L.length:=(List.getElem?_eq_some_iff.1 hi).1
 refine fX hI i [x] hT (by omega) (by rw [List.getElem?_append_left hil]; exact hi) (by simp) (m:=1) (o:=0) ?_ (by simpa using h1) hfit hby fun v' w' hI=>?_
 ·intro j u hj
  rw [hI.cellL (i:=L.length) (by rw [List.getElem?_append_right (Nat.le_refl _),Nat.sub_self]; rfl)]
  rw [Nat.zero_add,hx]
  simpa using hj
 ·refine hk _ _ ?_
  rw [<- gd]
  rw [List.set_append_left _ _ hil] at hI
  exact hI.sub (List.sublist_append_left _ _)
end
section
variable {S:av}
attribute [local irreducible] Run CondV ag a4
theorem xt {f:Nat} (hf:f<=100) {c:C} {cs:List Value} {x:Bs} (h:RdC S cs c) (hx:CD f c=some x) (hl:x.length<=1000000):Pure Tryz.prog A5 [.agg cs.toArray] S (.string (st x)):=by
 intro w hI
 obtain ⟨hd,ks,rfl,h1,h2⟩:=h
 have h1':=h1
 obtain ⟨kv,rfl,_⟩:=RdT.iff.1 h1
 unfold CD at hx
 split at hx
 ·cases hx
 rename_i y hy
 split at hx
 ·cases hx
 rename_i z hz
 simp only [Option.some.injEq] at hx
 have hzx:z.length+1=x.length:=by rw [<- hx,List.length_append]; rfl
 have hyz:=qs _ _ _ _ _ hz
 have hb:c.body.length<=9223372036854775807:=by have:=h2.le; simpa [maxLen] using this
 refine s7 ?_
 unfold qP
 refine ca hI fun b1 w' hI=>?_
 have hI:Inv w [] [.blk b1 (.cells #[.int .i64 c.head.kind,.int .i64 c.head.n,.string c.head.name,kv,ks] bb)] S w':=hI
 refine bo eJ ?_
 refine ft hI 0 [.int .i64 c.head.kind,.int .i64 c.head.n,.string c.head.name,kv] ai rfl rfl Gi ?_
 refine Run.callPure eY eT hI (we hf _ y S _ hy (by omega) h1') fun w' hI=>?_
 refine ⟨fun a b w'=>∃ (j:Nat) (out:Bs),j<=c.body.length/\a=.int .i64 (j:Int)/\b=.string (st out)/\qR f (c.body.drop j) (decide (j=0)) out=some z/\Inv w [] [.blk b1 (.cells #[.int .i64 c.head.kind,.int .i64 c.head.n,.string c.head.name,kv,ks] bb)] S w',
  fun a _ _=>c.body.length - (intOf a).toNat,⟨0,y,Nat.zero_le _,rfl,rfl,hz,hI⟩,?_⟩
 intro t4 _ _ _ _ _ _ _ _ _ _ _ _ t3 _ _ _ _ _ _ _ _ _ w'
 rintro ⟨j,out,hj,rfl,rfl,hbf,hI⟩
 refine az hI 0 rfl cj aS rfl ?_
 refine a9 h2 ay ?_
 refine co ?_
 refine bp (fun hji=>?_) (fun hji=>?_)
 ·have hj':j<c.body.length:=by omega
  rw [List.drop_eq_getElem_cons hj',qR] at hbf
  split at hbf
  ·cases hbf
  rename_i u hu
  have hlen:=qs _ _ _ _ _ hbf
  simp only [List.length_append] at hlen
  obtain ⟨pre,hpre⟩:∃ pre:Bs,pre=if decide (j=0)=true then [58,45] else [44]:=⟨_,rfl⟩
  rw [<- hpre] at hbf hlen
  refine ⟨fun b w'=>b=.string (st (out++pre))/\Inv w [] [.blk b1 (.cells #[.int .i64 c.head.kind,.int .i64 c.head.n,.string c.head.name,kv,ks] bb)] S w',?_,?_⟩
  ·refine cw ?_
   refine bp (fun h0=>?_) (fun h0=>?_)
   ·rw [if_pos (decide_eq_true (by omega))] at hpre
    subst hpre
    refine cY (b:=[58,45]) (by omega) ?_
    exact ⟨rfl,hI⟩
   ·rw [if_neg (by rw [decide_eq_true_eq]; omega)] at hpre
    subst hpre
    refine cY (b:=[44]) (by omega) ?_
    exact ⟨rfl,hI⟩
  intro _ _ t3 _ _ _ _ w'
  rintro ⟨rfl,hI⟩
  refine az hI 0 rfl cj aS rfl ?_
  refine ec hI h2 ay ai hj' (fun _ _=>RdT.length) fun es hes=>?_
  refine Run.callPure eY eT hI (we hf _ u S _ hu (by omega) hes) fun w' hI=>?_
  refine cY (by rw [List.length_append]; omega) ?_
  refine bC (by omega) ?_
  refine ⟨⟨j+1,out++pre++u,hj',rfl,rfl,?_,hI⟩,by simp only [intOf,Int.toNat_natCast]; omega⟩
  rw [decide_eq_false (by omega)]
  exact hbf
 ·have:j=c.body.length:=by omega
  subst this
  rw [List.drop_length,qR] at hbf
  simp only [Option.some.injEq] at hbf
  subst hbf
  refine cY (b:=[46]) (by simp only [List.length_cons,List.length_nil]; omega) ?_
  exact done hI (by rw [<- hx])
theorem nt {f:Nat} (hf:f<=100) {c:C} {cs:List Value} {x:Bs} (h:RdC S cs c) (hc:dt c=true) (hw:wC c<=1048576) (hx:CD f c=some x) (hl:x.length<=1000000):Pure Tryz.prog qG [.agg cs.toArray] S (.string (st x)):=by
 intro w hI
 have h0:=h
 obtain ⟨hd,ks,rfl,h1,h2⟩:=h
 obtain ⟨kv,rfl,_⟩:=RdT.iff.1 h1
 refine lu ?_
 unfold iM
 refine ca hI fun b1 w' hI=>?_
 refine a8 hI 0 cL rfl rfl ?_
 refine Run.callPure jB jj hI (ik h0 hw) fun w' hI=>?_
 refine c9 ?_
 rw [hc]
 refine aX (fun hb=>by cases hb) (fun _=>?_)
 refine a8 hI 0 cL rfl rfl ?_
 refine Run.callPure yT Au hI (xt hf h0 hx hl) fun w' hI=>?_
 exact done hI rfl
theorem vF {f k:Nat} {s:Bs} {i:Nat} {ts:List T} {n:Nat} (h:no f k s i []=some (ts,n)) (hs:s.length<=100000) (hi:i<=s.length):Tri Tryz.prog Ab [.string (st s),.int .i64 (i:Int)] [] S (FW ts n):=by
 intro w hI
 refine rR ?_
 unfold oh
 refine dL hI bn fun v0 w' hI=>?_
 refine ⟨fun a b w'=>∃ (k' i':Nat) (acc:List T) (S1:av) (css:List (List Value)),a=.int .i64 (i':Int)/\i'<=s.length/\no f k' s i' acc=some (ts,n)/\Ext w.heap.size [] S S1/\Rows 4 (RdT S1) css acc/\(∃ p m,b=.slice p acc.length m)/\Inv w [] [bq b ad 4 css] S1 w',
  fun a _ _=>s.length+1 - (intOf a).toNat,⟨k,i,[],S,[],rfl,hi,h,Ext.refl _ _ _,Rows.nil _ _,?_,hI⟩,?_⟩
 ·have hI2:Inv w [] ([]++[bq v0 ad 4 []]) S w':=hI
  obtain ⟨S1,_,hrd,_⟩:=Inv.lendExt hI2
  obtain ⟨p,m,e,_⟩:=RowRd.rows (Rows.nil 4 (RdT S)) hrd
  exact ⟨p,m,e⟩
 intro t1 _ _ _ _ _ _ _ _ t6 _ _ _ _ _ _ _ _ _ _ _ _ _ _ _ _ _ _ _ w'
 rintro ⟨k',i',acc,S1,css,rfl,hi2,hT,hE,hR,⟨p,m,rfl⟩,hI⟩
 have hcl:=hR.hc
 cases k' with
 | zero=>simp [no] at hT
 | succ g=>
 rw [no] at hT
 split at hT
 ·cases hT
 rename_i h6
 split at hT
 ·cases hT
 rename_i t n' hr
 have hle:=(fG f).1 _ _ _ _ _ _ hr
 refine fu ay ?_
 refine tT (by omega) ?_
 refine aX (fun _=>?_) (fun hb=>by cases hb)
 refine Run.call0E eW fb hI (wz f s i' 30 3 t n' S1 hr hs hi2 (by omega) (by omega)) fun v I' S2 w'=>?_
 rintro ⟨rfl,cs,rfl,hcs⟩ hE2 hI
 have hR2:=hR.monoR fun _ _ h=>RdT.mono hE2.1 h
 obtain ⟨kv,rfl,_,_,_,a,q,rfl,_⟩:=RdT.iff.1 hcs
 refine a5 (v:=.agg _) rfl ?_
 refine a5 (v:=.int .i64 (n':Int)) rfl ?_
 refine bw hI bu fun b13 w' hI=>?_
 refine bd hI 1 rfl ai rfl rfl (by simp [Value.oneCell']) fun w' hI=>?_
 refine dI (by omega) ?_
 refine aX (fun hb=>by cases hb) (fun _=>?_)
 refine a8 hI 1 ai rfl rfl ?_
 refine fi (css:=css) hI 0 _ bn (by omega) (by omega) rfl hcs.length hcs.one (by omega) (by omega) fun v' w' hI=>?_
 have hI:Inv w [] [bq v' ad 4 (css++[[.int .i64 t.kind,.int .i64 t.n,.string t.name,.slice a t.kids.length q]])] S2 w':=hI.pick [true,false]
 have hR3:=hR2.snoc hcs hcs.length
 have hI2:Inv w [] ([]++[bq v' ad 4 (css++[[.int .i64 t.kind,.int .i64 t.n,.string t.name,.slice a t.kids.length q]])]) S2 w':=hI
 obtain ⟨S3,hE3,hrd,hI3⟩:=Inv.lendExt hI2
 have hrs:=RowRd.rows (hR3.monoR fun _ _ h=>RdT.mono hE3.1 h) hrd
 refine Run.callPure cm cn hI (bG s n' 44 S2) fun w' hI=>?_
 refine c9 ?_
 split at hT
 ·rename_i h44
  rw [h44]
  refine aX (fun hb=>by cases hb) (fun _=>?_)
  have:=eS h44
  refine dx (a:=n') (b:=1) rfl rfl (by omega) ?_
  obtain ⟨p',m',e',_⟩:=hrs
  refine ⟨⟨g,n'+1,acc++[t],S2,_,rfl,by omega,hT,hE.trans hE2,hR3,⟨p',m',e'⟩,hI⟩,?_⟩
  simp only [intOf,Int.toNat_natCast]
  omega
 ·rename_i h44
  rw [Bool.eq_false_iff.2 h44]
  refine aX (fun _=>?_) (fun hb=>by cases hb)
  simp only [Option.some.injEq,Prod.mk.injEq] at hT
  obtain ⟨rfl,rfl⟩:=hT
  have hI2:Inv w [] ([]++[bq v' ad 4 (css++[[.int .i64 t.kind,.int .i64 t.n,.string t.name,.slice a t.kids.length q]])]) S2 w':=hI
  obtain ⟨S4,hE4,hrd,hI⟩:=Inv.lendExt hI2
  have hrs:=RowRd.rows (hR3.monoR fun _ _ h=>RdT.mono hE4.1 h) hrd
  exact ⟨_,[],S4,rfl,hI,(hE.trans hE2).trans hE4,rfl,_,rfl,hrs⟩
abbrev G7 (c:C) (b:Bool):Value->List Item->av->Prop:=fun v I' S'=>I'=[]/\∃ cs,v=.tuple #[.agg cs.toArray,.bool b]/\RdC S' cs c
theorem oZ {f:Nat} (hf:f<=100) {s:Bs} {c:C} (h:pp f s=some c):Tri Tryz.prog rX [.string (st s)] [] S (G7 c true):=by
 intro w hI
 refine mj ?_
 unfold jA;dsimp only
 unfold pp at h
 split at h
 ·cases h
 rename_i hs
 split at h
 ·cases h
 rename_i hd n hr
 have hle:=(fG f).1 _ _ _ _ _ _ hr
 have hfin:∃ b n2,c=⟨hd,b⟩/\Dz f s c n2=some c/\((sgn s n 58=true/\sgn s (n+1) 45=true/\no f 8 s (n+2) []=some (b,n2)) ∨ (¬ (sgn s n 58=true/\sgn s (n+1) 45=true)/\b=[]/\n2=n)):=by
  have hcc:∀ (c':C) (m:Nat),Dz f s c' m=some c->c'=c:=fun c' m h=>by
   unfold Dz at h
   split at h
   ·exact Option.some.inj h
   ·cases h
  split at h
  ·rename_i h58
   split at h
   ·cases h
   rename_i b n2 hg
   have e:=hcc _ _ h
   subst e
   exact ⟨b,n2,rfl,h,.inl ⟨h58.1,h58.2,hg⟩⟩
  ·rename_i h58
   have e:=hcc _ _ h
   subst e
   exact ⟨[],n,rfl,h,.inr ⟨h58,rfl,rfl⟩⟩
 clear h
 obtain ⟨b,n2,rfl,hfin,hcase⟩:=hfin
 unfold Dz at hfin
 split at hfin
 case isFalse=>cases hfin
 rename_i hq
 obtain ⟨hq1,hq2,hq3,hq4,hq5⟩:=hq
 clear hfin
 refine bw hI ib fun b2 w' hI=>?_
 refine ek a7 ?_
 refine i7 (by omega) ?_
 refine aX (fun hb=>by cases hb) (fun _=>?_)
 refine Run.call0E eW fb hI (wz f s 0 30 3 hd n S hr (by omega) (by omega) (by omega) (by omega)) fun v I' S1 w'=>?_
 rintro ⟨rfl,cs,rfl,hcs⟩ hE1 hI
 obtain ⟨kv,rfl,_,_,_,a,q,rfl,_⟩:=RdT.iff.1 hcs
 refine a5 (v:=.agg _) rfl ?_
 refine a5 (v:=.int .i64 (n:Int)) rfl ?_
 refine bw hI bu fun b4 w' hI=>?_
 refine bd hI 1 rfl ai rfl rfl (by simp [Value.oneCell']) fun w' hI=>?_
 refine dI (by omega) ?_
 refine aX (fun hb=>by cases hb) (fun _=>?_)
 refine a8 hI 1 ai rfl rfl ?_
 refine rH ?_
 refine bw hI ib fun b6 w' hI=>?_
 refine bd hI 2 rfl cL rfl rfl (by simp [Value.oneCell']) fun w' hI=>?_
 obtain ⟨B2,hB2⟩:∃ B2,B2=Item.blk b2 (.cells #[.int .i64 0,.int .i64 0,.string ⟨#[]⟩,.slice none 0 0,.slice none 0 0] bb):=⟨_,rfl⟩
 obtain ⟨B4,hB4⟩:∃ B4,B4=Item.blk b4 (.cells #[.int .i64 hd.kind,.int .i64 hd.n,.string hd.name,.slice a hd.kids.length q] ad):=⟨_,rfl⟩
 have hI:Inv w [] [B2,B4,.blk b6 (.cells #[.int .i64 hd.kind,.int .i64 hd.n,.string hd.name,.slice a hd.kids.length q,.slice none 0 0] bb)] S1 w':=by rw [hB2,hB4]; exact hI
 refine ⟨fun v w'=>∃ (kb:Value) (S2:av),v=.int .i64 (n2:Int)/\Ext w.heap.size [] S S2/\RdT S2 [.int .i64 hd.kind,.int .i64 hd.n,.string hd.name,.slice a hd.kids.length q] hd/\RdSl S2 4 (RdT S2) kb b/\
   Inv w [] [B2,B4,.blk b6 (.cells #[.int .i64 hd.kind,.int .i64 hd.n,.string hd.name,.slice a hd.kids.length q,kb] bb)] S2 w',?_,?_⟩
 ·refine ⟨fun v w'=>v=.bool (sgn s n 58 && sgn s (n+1) 45)/\Inv w [] [B2,B4,.blk b6 (.cells #[.int .i64 hd.kind,.int .i64 hd.n,.string hd.name,.slice a hd.kids.length q,.slice none 0 0] bb)] S1 w',?_,?_⟩
  ·refine Run.callPure cm cn hI (bG s n 58 S1) fun w' hI=>?_
   cases h58:sgn s n 58
   ·repeat (first|refine ac ?_|refine af (by decide) ?_|refine ab ?_|refine al ?_|refine ak ?_)
    exact ⟨by rw [Bool.false_and],hI⟩
   ·repeat (first|refine ac ?_|refine af (by decide) ?_|refine ab ?_|refine al ?_|refine ak ?_)
    refine dx (a:=n) (b:=1) rfl rfl (by omega) ?_
    refine Run.callPure cm cn hI (bG s (n+1) 45 S1) fun w' hI=>?_
    repeat (first|refine ac ?_|refine af (by decide) ?_|refine ab ?_|refine al ?_|refine ak ?_)
    exact ⟨by rw [Bool.true_and],hI⟩
  intro t29 _ _ _ _ _ _ _ _ w'
  rintro ⟨rfl,hI⟩
  rcases hcase with ⟨h1,h2,hg⟩|⟨h1,rfl,rfl⟩
  ·rw [h1,h2]
   refine aX (fun _=>?_) (fun hb=>by cases hb)
   have h3:=eS h2
   refine dx (a:=n) (b:=2) rfl rfl (by omega) ?_
   refine Run.call0E yD xE hI (vF hg (by omega) (by omega)) fun v I' S2 w'=>?_
   rintro ⟨rfl,u,rfl,hu⟩ hE2 hI
   obtain ⟨p,m,rfl,_⟩:=id hu
   refine a5 (v:=.slice p b.length m) rfl ?_
   refine a5 (v:=.int .i64 (n2:Int)) rfl ?_
   refine jy hI 2 rfl cj aS rfl rfl rfl fun w' hI=>?_
   exact ⟨_,S2,rfl,hE1.trans hE2,RdT.mono hE2.1 hcs,hu,hI⟩
  ·have e:(sgn s n2 58 && sgn s (n2+1) 45)=false:=by
    rw [Bool.eq_false_iff,ne_eq,Bool.and_eq_true]; exact h1
   rw [e]
   refine aX (fun hb=>by cases hb) (fun _=>?_)
   exact ⟨_,S1,rfl,hE1,hcs,py S1,hI⟩
 intro t5 _ _ _ _ _ _ _ _ _ _ _ _ _ _ _ _ _ w'
 rintro ⟨kb,S2,rfl,hE2,hhd,hb,hI⟩
 have hC:RdC S2 [.int .i64 hd.kind,.int .i64 hd.n,.string hd.name,.slice a hd.kids.length q,kb] ⟨hd,b⟩:=⟨[.int .i64 hd.kind,.int .i64 hd.n,.string hd.name,.slice a hd.kids.length q],kb,rfl,hhd,hb⟩
 refine ⟨fun v w'=>v=.bool false/\Inv w [] [B2,B4,.blk b6 (.cells #[.int .i64 hd.kind,.int .i64 hd.n,.string hd.name,.slice a hd.kids.length q,kb] bb)] S2 w',?_,?_⟩
 ·refine ek a7 ?_
  refine qV (by omega) ?_
  refine fA ?_
  rw [decide_eq_true (show (n2:Int)=(s.length:Int) - 1 by omega)]
  refine ac (b:=false) ?_
  refine Run.callPure cm cn hI (bG s n2 46 S2) fun w' hI=>?_
  refine c9 ?_
  rw [hq2]
  refine ak ?_
  refine ac (b:=false) ?_
  refine a8 hI 2 cL rfl rfl ?_
  refine Run.callPure nK ov hI (nt hf hC hq3 (by omega) hq5 (by omega)) fun w' hI=>?_
  refine Cu ?_
  rw [decide_eq_true rfl]
  refine ak ?_
  exact ⟨rfl,hI⟩
 intro t54 _ _ _ _ _ _ _ _ _ _ _ _ _ _ _ _ w'
 rintro ⟨rfl,hI⟩
 refine aX (fun hb=>by cases hb) (fun _=>?_)
 refine a8 hI 2 cL rfl rfl ?_
 refine Run.call0E y5 zc hI (xB hC (by omega)) fun v I' S3 w'=>?_
 rintro ⟨rfl,ds,M,rfl,rfl,hT⟩ hE3 hI
 obtain ⟨S4,hI,hE4,hins⟩:=hI.pubExt
 have hR4:=hT.rd hins
 have hl5:=hR4.length
 have h15:=hT.one
 subst hB2
 refine bd hI 0 rfl cL (by simpa using hl5) rfl (by simpa using h15) fun w' hI=>?_
 refine cz hI 0 cL rfl (by simpa using hl5) ?_
 exact ⟨_,[],S4,rfl,hI.nil,(hE2.trans hE3).trans hE4,rfl,_,rfl,hR4⟩
def Gy (cs:List Value) (l:Bs):Prop:=cs=[.string (st l)]
theorem xf (s:Bs) (c:Nat) (hs:s.length<=100000):Tri Tryz.prog BS [.string (st s),.int .u8 (c:Int)] [] S fun v I' S'=>I'=[]/\RdSl S' 1 Gy v (vo s c s.length 0 0 []):=by
 intro w hI
 refine ui ?_
 unfold qO
 refine dL hI ua fun v0 w' hI=>?_
 obtain ⟨R,hR⟩:∃ R,R=vo s c s.length 0 0 []:=⟨_,rfl⟩
 rw [<- hR]
 refine ⟨fun t u v w'=>∃ (i fr:Nat) (acc:List Bs) (css:List (List Value)),t=.int .i64 (i:Int)/\u=.int .i64 (fr:Int)/\acc.length<=i/\((i<=s.length/\fr<=i/\vo s c (s.length - i) i fr acc=R) ∨ (i=s.length+1/\acc=R))/\Rows 1 Gy css acc/\Inv w [] [bq v gv 1 css] S w',
  fun t _ _ _=>s.length+2 - (intOf t).toNat,⟨0,0,[],[],rfl,rfl,Nat.le_refl _,.inl ⟨Nat.zero_le _,Nat.le_refl _,hR.symm⟩,Rows.nil _ _,hI⟩,?_⟩
 intro t7 _ _ t6 _ _ t5 _ _ _ _ _ _ _ _ _ _ _ _ _ _ _ _ _ _ _ _ _ _ w'
 rintro ⟨i,fr,acc,css,rfl,rfl,hal,hc,hRw,hI⟩
 have hcl:=hRw.hc
 refine ek a7 ?_
 refine fI ?_
 refine bp (fun hi=>?_) (fun hi=>?_)
 ·have hi':i<=s.length:=by omega
  obtain ⟨_,hfr,hcut⟩:i<=s.length/\fr<=i/\vo s c (s.length - i) i fr acc=R:=by
   rcases hc with h|h
   ·exact h
   ·omega
  obtain ⟨br,hbr⟩:∃ br,br=(decide (i=s.length) || sgn s i c):=⟨_,rfl⟩
  refine ⟨fun u v w'=>∃ (fr':Nat) (acc':List Bs) (css':List (List Value)),u=.int .i64 (fr':Int)/\acc'.length<=i+1/\fr'<=i+1/\acc'=(if br=true then acc++[cut s fr i] else acc)/\fr'=(if br=true then i+1 else fr)/\Rows 1 Gy css' acc'/\Inv w [] [bq v gv 1 css'] S w',?_,?_⟩
  ·refine ⟨fun b w'=>b=.bool br/\Inv w [] [bq t5 gv 1 css] S w',?_,?_⟩
   ·refine ek a7 ?_
    by_cases he:i=s.length
    ·refine eH (by omega) ?_
     repeat (first|refine ac ?_|refine af (by decide) ?_|refine ab ?_|refine al ?_|refine ak ?_)
     exact ⟨by rw [hbr,decide_eq_true he,Bool.true_or],hI⟩
    ·refine dw (by omega) ?_
     repeat (first|refine ac ?_|refine af (by decide) ?_|refine ab ?_|refine al ?_|refine ak ?_)
     have hlt:i<s.length:=by omega
     refine dn a7 hlt ?_
     refine cw ?_
     repeat (first|refine ac ?_|refine af (by decide) ?_|refine ab ?_|refine al ?_|refine ak ?_)
     refine ⟨?_,hI⟩
     rw [hbr,decide_eq_false he,Bool.false_or,fU hlt]
     congr 1
     rw [decide_eq_decide]
     omega
   intro t25 _ _ _ _ _ _ _ _ _ _ w'
   rintro ⟨rfl,hI⟩
   refine aX (fun hb=>?_) (fun hb=>?_)
   ·refine uj a7 hfr hi' ?_
    refine BQ (css:=css) hI 0 ua rfl rfl rfl (by omega) (by omega) fun v' w' hI=>?_
    refine dx (a:=i) (b:=1) rfl rfl (by omega) ?_
    refine ⟨i+1,acc++[cut s fr i],_,rfl,by rw [List.length_append]; simp only [List.length_cons,List.length_nil]; omega,Nat.le_refl _,by rw [if_pos hb],by rw [if_pos hb],hRw.snoc rfl rfl,hI⟩
   ·exact ⟨fr,acc,css,rfl,by omega,by omega,by rw [if_neg (by rw [hb]; decide)],by rw [if_neg (by rw [hb]; decide)],hRw,hI⟩
  intro t6 _ _ t5 _ _ _ _ _ _ _ _ _ _ _ _ _ _ _ _ _ _ w'
  rintro ⟨fr',acc',css',rfl,hal',hfr',hacc',hfe,hRw',hI⟩
  refine dx (a:=i) (b:=1) rfl rfl (by omega) ?_
  refine ⟨⟨i+1,fr',acc',css',rfl,rfl,hal',?_,hRw',hI⟩,by simp only [intOf,Int.toNat_natCast]; omega⟩
  by_cases he:i=s.length
  ·right
   refine ⟨by rw [he],?_⟩
   rw [he,Nat.sub_self,vo,<- he] at hcut
   rw [hacc',if_pos (by rw [hbr,decide_eq_true he,Bool.true_or])]
   exact hcut
  ·left
   refine ⟨by omega,hfr',?_⟩
   rw [show s.length - i=(s.length - (i+1))+1 by omega,vo] at hcut
   rw [hbr,decide_eq_false he,Bool.false_or] at hacc' hfe
   split at hcut
   ·rename_i hsg
    rw [if_pos hsg] at hacc' hfe
    rw [hacc',hfe]
    exact hcut
   ·rename_i hsg
    rw [if_neg hsg] at hacc' hfe
    rw [hacc',hfe]
    exact hcut
 ·obtain ⟨_,rfl⟩:i=s.length+1/\acc=R:=by
   rcases hc with h|h
   ·omega
   ·exact h
  have hI2:Inv w [] ([]++[bq t5 gv 1 css]) S w':=hI
  obtain ⟨S1,hE1,hrd,hI⟩:=Inv.lendExt hI2
  exact ⟨_,[],S1,rfl,hI,hE1,rfl,RowRd.rows hRw hrd⟩
theorem vb {f:Nat} {ls:List Bs} {i:Nat} (h:i<ls.length) (acc:List C):iu f (ls.drop i) acc=match pp f ls[i] with
  | none=>none
  | some c=>iu f (ls.drop (i+1)) (acc++[c]):=by
 rw [List.drop_eq_getElem_cons h,iu]
 cases pp f ls[i] <;> rfl
theorem ng {f:Nat} (hf:f<=100) {s:Bs} {p:List C} (h:CT f s=some p) (hs:s.length<=100000):Tri Tryz.prog jE [.string (st s)] [] S fun v I' S'=>∃ u css,v=.tuple #[u,.bool true]/\I'=[bq u bb 5 css]/\Rows 5 (RdC S') css p:=by
 intro w hI
 refine kK ?_
 unfold iK
 unfold CT ES at h
 refine dL hI qK fun v0 w' hI=>?_
 refine Run.call0E z8 z4 hI (xf s 10 hs) fun v I' S1 w'=>?_
 rintro ⟨rfl,hls⟩ hE1 hI
 have hI:Inv w [] [bq v0 bb 5 []] S1 w':=hI
 obtain ⟨ls,hlsd⟩:∃ ls,ls=vo s 10 s.length 0 0 []:=⟨_,rfl⟩
 rw [<- hlsd] at hls h
 simp only [] at h
 split at h
 ·cases h
 rename_i hc
 simp only [not_or,ne_eq,Classical.not_not] at hc
 obtain ⟨hc1,hc2⟩:=hc
 have hl0:0<ls.length:=by
  cases ls with
  | nil=>simp at hc2
  | cons a l=>simp
 have hlast:ls[ls.length - 1]=[]:=by
  rw [List.getLast?_eq_getElem?,List.getElem?_eq_getElem (by omega)] at hc2
  exact Option.some.inj hc2
 refine ⟨fun b w'=>b=.bool false/\Inv w [] [bq v0 bb 5 []] S1 w',?_,?_⟩
 ·refine a9 hls cg ?_
  refine i7 (by omega) ?_
  repeat (first|refine ac ?_|refine af (by decide) ?_|refine ab ?_|refine al ?_|refine ak ?_)
  refine a9 hls cg ?_
  refine p8 (a:=ls.length) (b:=1) rfl rfl (by omega) (by omega) ?_
  have hlt:ls.length - 1<ls.length:=by omega
  obtain ⟨b,o,cap,c,E,fz,hv,hS,hR⟩:=hls.at_ hlt
  subst hv
  refine ba cg hlt ?_
  refine eo bi ((hI.cellS hS).trans (be hR 0 _ rfl)) ?_
  refine Cu (b:=[]) ?_
  rw [decide_eq_true hlast]
  repeat (first|refine ac ?_|refine af (by decide) ?_|refine ab ?_|refine al ?_|refine ak ?_)
  exact ⟨rfl,hI⟩
 intro t23 _ _ _ _ _ _ _ _ _ _ _ w'
 rintro ⟨rfl,hI⟩
 refine aX (fun hb=>by cases hb) (fun _=>?_)
 refine ⟨fun a b w'=>∃ (i:Nat) (acc:List C) (S2:av) (css:List (List Value)),a=.int .i64 (i:Int)/\i+1<=ls.length/\acc.length=i/\iu f (ls.dropLast.drop i) acc=some p/\Sle S1 S2/\Ext w.heap.size [] S S2/\Rows 5 (RdC S2) css acc/\Inv w [] [bq b bb 5 css] S2 w',
  fun a _ _=>ls.length - (intOf a).toNat,⟨0,[],S1,[],rfl,by omega,rfl,h,Sle.refl _,hE1,Rows.nil _ _,hI⟩,?_⟩
 intro t6 _ _ t4 _ _ _ _ _ _ _ _ _ _ _ _ _ _ _ _ _ _ _ _ _ _ _ _ w'
 rintro ⟨i,acc,S2,css,rfl,hi,hal,hcl,hle2,hE2,hR,hI⟩
 have hcs:=hR.hc
 refine dx (a:=i) (b:=1) rfl rfl (by omega) ?_
 refine a9 hls cg ?_
 refine co ?_
 have hdl:ls.dropLast.length=ls.length - 1:=List.length_dropLast
 refine bp (fun hlt=>?_) (fun hge=>?_)
 ·have hi':i<ls.length:=by omega
  have hi2:i<ls.dropLast.length:=by omega
  rw [vb hi2] at hcl
  have eg:ls.dropLast[i]=ls[i]:=List.getElem_dropLast _
  rw [eg] at hcl
  obtain ⟨b,o,cap,c,E,fz,hv,hS,hRr⟩:=hls.at_ hi'
  subst hv
  split at hcl
  ·cases hcl
  rename_i cl hclf
  refine ba cg hi' ?_
  refine eo bi ((hI.cellS (hle2 _ _ hS)).trans (be hRr 0 _ rfl)) ?_
  refine Run.call0E qd qj hI (oZ hf hclf) fun v I' S3 w'=>?_
  rintro ⟨rfl,ds,rfl,hds⟩ hE3 hI
  have hl5:=hds.length
  have hR3:=hR.monoR fun _ _ h=>RdC.mono hE3.1 h
  refine a5 (v:=.agg ds.toArray) rfl ?_
  refine a5 (v:=.bool true) rfl ?_
  refine bw hI ib fun b7 w' hI=>?_
  refine bd hI 1 rfl cL (by simpa using hl5) rfl (by simpa using hds.one) fun w' hI=>?_
  refine c9 ?_
  refine aX (fun hb=>by cases hb) (fun _=>?_)
  refine a8 hI 1 cL rfl (by simpa using hl5) ?_
  refine fi (css:=css) hI 0 _ qK (by omega) (by omega) rfl hl5 hds.one (by omega) (by omega) fun v' w' hI=>?_
  have hI:Inv w [] [bq v' bb 5 (css++[ds])] S3 w':=hI.pick [true,false]
  refine dx (a:=i) (b:=1) rfl rfl (by omega) ?_
  exact ⟨⟨i+1,acc++[cl],S3,_,rfl,by omega,by rw [List.length_append,hal]; rfl,hcl,hle2.trans hE3.1,hE2.trans hE3,hR3.snoc hds hl5,hI⟩,by simp only [intOf,Int.toNat_natCast]; omega⟩
 ·have hi2:ls.dropLast.length<=i:=by omega
  rw [List.drop_eq_nil_of_le hi2,iu] at hcl
  simp only [Option.some.injEq] at hcl
  subst hcl
  exact ⟨_,_,S2,rfl,hI,hE2,_,css,rfl,rfl,hR⟩
end
end Go.Proofs.YtemmhhdnlbmicaaGreat

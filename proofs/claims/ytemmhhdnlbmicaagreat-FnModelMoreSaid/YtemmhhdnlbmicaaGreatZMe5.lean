/- Texts written: spec.l2Text and its kin, l4Text, FormatClause. -/
import Derived.Test.YtemmhhdnlbmicaaGreatZMe4
import Derived.Test.YtemmhhdnlbmicaaGreatZMe2
import Derived.Test.YtemmhhdnlbmicaaGreatZMe3
namespace Go.Proofs.YtemmhhdnlbmicaaGreat
open Go Go.RowKit
theorem Lb:Tryz.prog.underlying EE=some (.slice DV):=by kernel_rfl
section
variable {w:World} {S:aF}
attribute [local irreducible] Run CondV ah be
theorem jP {t:T} {cs:List Value} (h:RdT S cs t):Pure Tryz.prog GZ [.agg cs.toArray] S (.bool (z8 t)):=by
 intro w hI
 obtain ⟨kv,rfl,_,_,_,hk⟩:=RdT.iff.1 h
 obtain ⟨ka,kc,rfl,_⟩:=id hk
 refine yS ?_
 unfold vL;dsimp only
 refine bQ hI fun b1 w' hI=>?_
 refine aI hI 0 rfl bD bo rfl ?_
 by_cases h3:t.kind=3
 ·refine fW h3 ?_
  repeat (first|refine ad ?_|refine af (by decide) ?_|refine ac ?_|refine al ?_|refine aj ?_)
  refine aI hI 0 rfl bp bm rfl ?_
  refine cN (b:=st [46]) ?_
  cases hn:decide (t.name=st [46])
  ·repeat (first|refine ad ?_|refine af (by decide) ?_|refine ac ?_|refine al ?_|refine aj ?_)
   exact done hI (by rw [z8,hn,Bool.false_and,Bool.and_false])
  ·repeat (first|refine ad ?_|refine af (by decide) ?_|refine ac ?_|refine al ?_|refine aj ?_)
   refine aI hI 0 rfl aT aR rfl ?_
   refine ge ay ?_
   refine bR ?_
   repeat (first|refine ad ?_|refine af (by decide) ?_|refine ac ?_|refine al ?_|refine aj ?_)
   refine done hI ?_
   rw [z8,hn,decide_eq_true h3,Bool.true_and,Bool.true_and]
   congr 1
   rw [decide_eq_decide]
   omega
 ·refine eY h3 ?_
  repeat (first|refine ad ?_|refine af (by decide) ?_|refine ac ?_|refine al ?_|refine aj ?_)
  exact done hI (by rw [z8,decide_eq_false h3,Bool.false_and])
theorem AN {t:T} {cs:List Value} (h:RdT S cs t):Pure Tryz.prog Jr [.agg cs.toArray] S (.bool (KD t)):=by
 intro w hI
 obtain ⟨kv,rfl,_,_,_,hk⟩:=RdT.iff.1 h
 obtain ⟨ka,kc,rfl,_⟩:=id hk
 refine Ar ?_
 unfold yg;dsimp only
 refine bQ hI fun b1 w' hI=>?_
 refine aI hI 0 rfl bD bo rfl ?_
 by_cases h3:t.kind=3
 ·refine fW h3 ?_
  repeat (first|refine ad ?_|refine af (by decide) ?_|refine ac ?_|refine al ?_|refine aj ?_)
  refine aI hI 0 rfl bp bm rfl ?_
  refine cN (b:=st [91,93]) ?_
  cases hn:decide (t.name=st [91,93])
  ·repeat (first|refine ad ?_|refine af (by decide) ?_|refine ac ?_|refine al ?_|refine aj ?_)
   exact done hI (by rw [KD,hn,Bool.false_and,Bool.and_false])
  ·repeat (first|refine ad ?_|refine af (by decide) ?_|refine ac ?_|refine al ?_|refine aj ?_)
   refine aI hI 0 rfl aT aR rfl ?_
   refine ge ay ?_
   refine bR ?_
   repeat (first|refine ad ?_|refine af (by decide) ?_|refine ac ?_|refine al ?_|refine aj ?_)
   refine done hI ?_
   rw [KD,hn,decide_eq_true h3,Bool.true_and,Bool.true_and]
   congr 1
   rw [decide_eq_decide]
   omega
 ·refine eY h3 ?_
  repeat (first|refine ad ?_|refine af (by decide) ?_|refine ac ?_|refine al ?_|refine aj ?_)
  exact done hI (by rw [KD,decide_eq_false h3,Bool.false_and])
theorem mD {t:T} {cs:List Value} (h:RdT S cs t):Pure Tryz.prog Fl [.agg cs.toArray] S (.bool (lX t)):=by
 intro w hI
 obtain ⟨kv,rfl,_,_,_,hk⟩:=RdT.iff.1 h
 obtain ⟨ka,kc,rfl,_⟩:=id hk
 refine wK ?_
 unfold tv;dsimp only
 refine bQ hI fun b1 w' hI=>?_
 refine aI hI 0 rfl bD bo rfl ?_
 by_cases h3:t.kind=3
 ·refine fW h3 ?_
  repeat (first|refine ad ?_|refine af (by decide) ?_|refine ac ?_|refine al ?_|refine aj ?_)
  refine aI hI 0 rfl aT aR rfl ?_
  refine ge ay ?_
  by_cases hn:t.kids.length=2
  ·refine fW (by omega) ?_
   repeat (first|refine ad ?_|refine af (by decide) ?_|refine ac ?_|refine al ?_|refine aj ?_)
   refine aI hI 0 rfl bp bm rfl ?_
   refine Run.callPure fO fI hI (ex _ S) fun w' hI=>?_
   refine eh ?_
   repeat (first|refine ad ?_|refine af (by decide) ?_|refine ac ?_|refine al ?_|refine aj ?_)
   exact done hI (by rw [lX,decide_eq_true h3,decide_eq_true hn,Bool.true_and,Bool.true_and])
  ·refine eY (by omega) ?_
   repeat (first|refine ad ?_|refine af (by decide) ?_|refine ac ?_|refine al ?_|refine aj ?_)
   exact done hI (by rw [lX,decide_eq_false hn,Bool.false_and,Bool.and_false])
 ·refine eY h3 ?_
  repeat (first|refine ad ?_|refine af (by decide) ?_|refine ac ?_|refine al ?_|refine aj ?_)
  exact done hI (by rw [lX,decide_eq_false h3,Bool.false_and])
theorem nM {t:T} {cs:List Value} (h:RdT S cs t):Pure Tryz.prog Im [.agg cs.toArray] S (.bool (wh t)):=by
 intro w hI
 obtain ⟨kv,rfl,_,_,_,hk⟩:=RdT.iff.1 h
 obtain ⟨ka,kc,rfl,_⟩:=id hk
 refine zc ?_
 unfold u2;dsimp only
 refine bQ hI fun b1 w' hI=>?_
 refine aI hI 0 rfl bD bo rfl ?_
 by_cases h3:t.kind=3
 ·refine fW h3 ?_
  repeat (first|refine ad ?_|refine af (by decide) ?_|refine ac ?_|refine al ?_|refine aj ?_)
  refine aI hI 0 rfl aT aR rfl ?_
  refine ge ay ?_
  by_cases hn:t.kids.length=0
  ·refine fW (by omega) ?_
   repeat (first|refine ad ?_|refine af (by decide) ?_|refine ac ?_|refine al ?_|refine aj ?_)
   refine aI hI 0 rfl bp bm rfl ?_
   refine Run.callPure fO fI hI (ex _ S) fun w' hI=>?_
   refine eh ?_
   repeat (first|refine ad ?_|refine af (by decide) ?_|refine ac ?_|refine al ?_|refine aj ?_)
   exact done hI (by rw [wh,decide_eq_true h3,decide_eq_true hn,Bool.true_and,Bool.true_and])
  ·refine eY (by omega) ?_
   repeat (first|refine ad ?_|refine af (by decide) ?_|refine ac ?_|refine al ?_|refine aj ?_)
   exact done hI (by rw [wh,decide_eq_false hn,Bool.false_and,Bool.and_false])
 ·refine eY h3 ?_
  repeat (first|refine ad ?_|refine af (by decide) ?_|refine ac ?_|refine al ?_|refine aj ?_)
  exact done hI (by rw [wh,decide_eq_false h3,Bool.false_and])
theorem yt (n:Bs) (hn:n.length<=1000000):Pure Tryz.prog Da [.string (st n)] S (.string (st (gW n))):=by
 intro w hI
 refine uq ?_
 unfold pH
 refine ⟨fun b w'=>b=.bool (decide (n=[105,115]) || decide (n=[109,111,100]))/\Inv w [] [] S w',?_,?_⟩
 ·refine xS (b:=[105,115]) ?_
  cases h5:decide (n=[105,115])
  ·repeat (first|refine ad ?_|refine af (by decide) ?_|refine ac ?_|refine al ?_|refine aj ?_)
   refine xS (b:=[109,111,100]) ?_
   repeat (first|refine ad ?_|refine af (by decide) ?_|refine ac ?_|refine al ?_|refine aj ?_)
   exact ⟨by rw [Bool.false_or],hI⟩
  ·repeat (first|refine ad ?_|refine af (by decide) ?_|refine ac ?_|refine al ?_|refine aj ?_)
   exact ⟨by rw [Bool.true_or],hI⟩
 intro t8 _ _ _ _ _ w'
 rintro ⟨rfl,hI⟩
 refine ba (fun hb=>?_) (fun hb=>?_)
 ·rw [Bool.or_eq_true,decide_eq_true_eq,decide_eq_true_eq] at hb
  refine d3 (a:=[32]) (by simp; omega) ?_
  refine d3 (b:=[32]) (by simp; omega) ?_
  exact done hI (by rw [gW,if_pos hb]; rfl)
 ·rw [Bool.or_eq_false_iff,decide_eq_false_iff_not,decide_eq_false_iff_not] at hb
  exact done hI (by rw [gW,if_neg (by rintro (h|h); exact hb.1 h; exact hb.2 h)])
theorem At (s:Bs) (h0:0<s.length):Pure Tryz.prog EU [.string (st s)] S (.bool (DM s)):=by
 intro w hI
 refine xC ?_
 unfold rU;dsimp only
 have e1:DM s=(sml s 0 || (dig s 0 || (upp s 0 || (sgn s 0 91 || sgn s 0 40)))):=rfl
 have eu:upp s 0=(decide (65<=s[0].toNat) && decide (s[0].toNat<=90)):=mh h0 65 90
 have ea:sgn s 0 91=decide (s[0].toNat=91):=jC h0 91
 have eb:sgn s 0 40=decide (s[0].toNat=40):=jC h0 40
 refine Run.callPure rK sS hI (mH s 0 S) fun w' hI=>?_
 cases hs:sml s 0
 ·repeat (first|refine ad ?_|refine af (by decide) ?_|refine ac ?_|refine al ?_|refine aj ?_)
  refine Run.callPure iX iY hI (gG s 0 S) fun w' hI=>?_
  cases hd:dig s 0
  ·repeat (first|refine ad ?_|refine af (by decide) ?_|refine ac ?_|refine al ?_|refine aj ?_)
   refine eM (i:=0) bj h0 ?_
   rw [hs,hd,Bool.false_or,Bool.false_or] at e1
   by_cases h65:65<=s[0].toNat
   ·refine l7 (by omega) ?_
    repeat (first|refine ad ?_|refine af (by decide) ?_|refine ac ?_|refine al ?_|refine aj ?_)
    refine eM (i:=0) bj h0 ?_
    by_cases h90:s[0].toNat<=90
    ·refine Ds (by omega) ?_
     repeat (first|refine ad ?_|refine af (by decide) ?_|refine ac ?_|refine al ?_|refine aj ?_)
     exact done hI (by rw [e1,eu,decide_eq_true h65,decide_eq_true h90]; rfl)
    ·refine Kp (by omega) ?_
     repeat (first|refine ad ?_|refine af (by decide) ?_|refine ac ?_|refine al ?_|refine aj ?_)
     refine eM (i:=0) bj h0 ?_
     by_cases h91:s[0].toNat=91
     ·refine fW (by omega) ?_
      repeat (first|refine ad ?_|refine af (by decide) ?_|refine ac ?_|refine al ?_|refine aj ?_)
      exact done hI (by rw [e1,ea,decide_eq_true h91,Bool.true_or,Bool.or_true])
     ·refine eY (by omega) ?_
      repeat (first|refine ad ?_|refine af (by decide) ?_|refine ac ?_|refine al ?_|refine aj ?_)
      refine eM (i:=0) bj h0 ?_
      refine eY (by omega) ?_
      repeat (first|refine ad ?_|refine af (by decide) ?_|refine ac ?_|refine al ?_|refine aj ?_)
      exact done hI (by rw [e1,eu,ea,eb,decide_eq_false h90,decide_eq_false h91,decide_eq_false (show ¬ s[0].toNat=40 by omega),Bool.and_false]; rfl)
   ·refine uQ (by omega) ?_
    repeat (first|refine ad ?_|refine af (by decide) ?_|refine ac ?_|refine al ?_|refine aj ?_)
    refine eM (i:=0) bj h0 ?_
    refine eY (by omega) ?_
    repeat (first|refine ad ?_|refine af (by decide) ?_|refine ac ?_|refine al ?_|refine aj ?_)
    refine eM (i:=0) bj h0 ?_
    by_cases h40:s[0].toNat=40
    ·refine fW (by omega) ?_
     repeat (first|refine ad ?_|refine af (by decide) ?_|refine ac ?_|refine al ?_|refine aj ?_)
     exact done hI (by rw [e1,eb,decide_eq_true h40,Bool.or_true,Bool.or_true])
    ·refine eY (by omega) ?_
     repeat (first|refine ad ?_|refine af (by decide) ?_|refine ac ?_|refine al ?_|refine aj ?_)
     exact done hI (by rw [e1,eu,ea,eb,decide_eq_false h65,decide_eq_false (show ¬ s[0].toNat=91 by omega),decide_eq_false h40,Bool.false_and]; rfl)
  ·repeat (first|refine ad ?_|refine af (by decide) ?_|refine ac ?_|refine al ?_|refine aj ?_)
   exact done hI (by rw [e1,hd,Bool.true_or,Bool.or_true])
 ·repeat (first|refine ad ?_|refine af (by decide) ?_|refine ac ?_|refine al ?_|refine aj ?_)
  exact done hI (by rw [e1,hs,Bool.true_or])
theorem zS {n:Int} (h:0<=n/\n<=25):Pure Tryz.prog CN [.int .i64 n] S (.string (st [UInt8.ofNat (65+n.toNat)])):=by
 intro w hI
 refine ue ?_
 unfold pK
 refine nw jJ gf (IntWalk.u8_in _ (by omega)) ?_
 refine Mi (c:=((65+n.toNat:Nat):Int)) ?_ ?_
 ·rw [IntWalk.u8_in _ (by omega)]; omega
 refine z5 hI tI Lb gf bj fun w' hI=>?_
 exact done hI rfl
theorem Fo:∀ (f n:Nat) (out r:Bs),Ay f n out=some r->out.length<r.length/\r.length<=out.length+f
 | 0,_,_,_,h=>by simp [Ay] at h
 | f+1,n,out,r,h=>by
  rw [Ay] at h
  split at h
  ·have:=Fo f _ _ _ h
   simp only [List.length_cons] at this
   omega
  ·simp only [Option.some.injEq] at h
   subst h
   simp only [List.length_cons]
   omega
theorem ri {f n:Nat} {r:Bs} (h:Ay f n []=some r) (hn:n<=100000) (hf:f<=1000):Pure Tryz.prog GI [.int .i64 (n:Int)] S (.string (st r)):=by
 intro w hI
 refine yJ ?_
 unfold we
 refine fi (by omega) ?_
 refine ba (fun hb=>by cases hb) (fun _=>?_)
 refine fi (by omega) ?_
 refine ba (fun hb=>by cases hb) (fun _=>?_)
 refine ⟨fun a b w'=>∃ (f' m:Nat) (out:Bs),a=.int .i64 (m:Int)/\b=.string (st out)/\m<=100000/\out.length+f'<=1000/\Ay f' m out=some r/\Inv w [] [] S w',fun a _ _=>(intOf a).toNat,⟨f,n,[],rfl,rfl,hn,by simpa using hf,h,hI⟩,?_⟩
 intro t0 _ _ t3 _ _ _ _ _ _ _ _ _ _ w'
 rintro ⟨f',m,out,rfl,rfl,hm,hof,hd,hI⟩
 cases f' with
 | zero=>simp [Ay] at hd
 | succ g=>
 rw [Ay] at hd
 split at hd
 ·rename_i h9
  refine H8 (by omega) ?_
  refine ba (fun _=>?_) (fun hb=>by cases hb)
  refine Ib (a:=m) (b:=10) rfl rfl (by omega) ?_
  refine fj (a:=48) (b:=m % 10) rfl rfl (by omega) ?_
  refine nw jJ gf (IntWalk.u8_in _ (by omega)) ?_
  refine z5 hI tI Lb gf bj fun w' hI=>?_
  refine d3 (by simp; omega) ?_
  refine Hz (a:=m) (b:=10) rfl rfl (by omega) (by omega) ?_
  refine ⟨⟨g,m / 10,UInt8.ofNat (48+m % 10)::out,rfl,rfl,by omega,by simp only [List.length_cons]; omega,hd,hI⟩,?_⟩
  simp only [intOf,Int.toNat_natCast]
  omega
 ·rename_i h9
  refine kW (by omega) ?_
  refine ba (fun hb=>by cases hb) (fun _=>?_)
  refine fj (a:=48) (b:=m) rfl rfl (by omega) ?_
  refine nw jJ gf (IntWalk.u8_in _ (by omega)) ?_
  refine z5 hI tI Lb gf bj fun w' hI=>?_
  refine d3 (by simp; omega) ?_
  simp only [Option.some.injEq] at hd
  exact done hI (by rw [<- hd]; rfl)
theorem EB {n:Int} {r:Bs} (h:MD n=some r) (hn:-999<=n/\n<=999):Pure Tryz.prog Jo [.int .i64 n] S (.string (st r)):=by
 intro w hI
 refine Ao ?_
 unfold zg
 unfold MD at h
 split at h
 ·rename_i h0
  refine yG h0 ?_
  refine ba (fun _=>?_) (fun hb=>by cases hb)
  refine Md (by omega) ?_
  obtain ⟨m,hm⟩:∃ m:Nat,-n=(m:Int):=⟨(-n).toNat,by omega⟩
  rw [hm] at h ⊢
  rw [Int.toNat_natCast,Option.map_eq_some_iff] at h
  obtain ⟨l,hl,rfl⟩:=h
  have:=Fo _ _ _ _ hl
  refine Run.callPure vB vX hI (ri hl (by omega) (by omega)) fun w' hI=>?_
  refine d3 (a:=[45]) (by simp only [List.length_nil,List.length_cons] at this ⊢; omega) ?_
  exact done hI rfl
 ·rename_i h0
  refine fi h0 ?_
  refine ba (fun hb=>by cases hb) (fun _=>?_)
  obtain ⟨m,rfl⟩:∃ m:Nat,n=(m:Int):=⟨n.toNat,by omega⟩
  rw [Int.toNat_natCast] at h
  refine Run.callPure vB vX hI (ri h (by omega) (by omega)) fun w' hI=>?_
  exact done hI rfl
theorem DK {t:T} {cs:List Value} {x:Bs} (h:RdT S cs t) (hp:z8 t=false) (hx:Ki t=some x):Pure Tryz.prog G9 [.agg cs.toArray] S (.string (st x)):=by
 intro w hI
 have h0:=h
 obtain ⟨kv,rfl,_,_,_,hk⟩:=RdT.iff.1 h
 obtain ⟨ka,kc,rfl,_⟩:=id hk
 refine ym ?_
 unfold wd
 unfold Ki at hx
 refine bQ hI fun b1 w' hI=>?_
 refine aI hI 0 rfl bD bo rfl ?_
 split at hx
 ·rename_i h1
  refine fW h1 ?_
  refine ba (fun _=>?_) (fun hb=>by cases hb)
  refine aI hI 0 rfl bF bo rfl ?_
  split at hx
  ·rename_i h2
   refine Run.callPure Af Bn hI (zS h2) fun w' hI=>?_
   simp only [Option.some.injEq] at hx
   exact done hI (by rw [<- hx])
  ·cases hx
 ·rename_i h1
  refine eY h1 ?_
  refine ba (fun hb=>by cases hb) (fun _=>?_)
  split at hx
  ·rename_i h2
   refine fW h2 ?_
   refine ba (fun _=>?_) (fun hb=>by cases hb)
   refine aI hI 0 rfl bF bo rfl ?_
   split at hx
   ·rename_i h3
    refine Run.callPure GS GK hI (EB hx h3) fun w' hI=>?_
    exact done hI rfl
   ·cases hx
  ·rename_i h2
   refine eY h2 ?_
   refine ba (fun hb=>by cases hb) (fun _=>?_)
   split at hx
   ·rename_i h3
    simp only [Option.some.injEq] at hx
    refine bb hI 0 ao rfl rfl ?_
    refine Run.callPure oK ow hI (jP h0) fun w' hI=>?_
    rw [hp]
    refine ba (fun hb=>by cases hb) (fun _=>?_)
    refine aI hI 0 rfl bp bm rfl ?_
    refine ⟨fun a b w'=>a=.int .i64 0/\b=.string t.name/\Inv w [] [.blk b1 (.cells #[.int .i64 t.kind,.int .i64 t.n,.string t.name,.slice ka t.kids.length kc] ab)] S w',fun _ _ _=>0,⟨rfl,rfl,hI⟩,?_⟩
    intro t4 _ _ _ _ _ _ _ _ _ _ _ _ t3 _ _ _ _ _ _ _ _ _ w'
    rintro ⟨rfl,rfl,hI⟩
    refine aI hI 0 rfl aT aR rfl ?_
    refine ge ay ?_
    refine fi (by omega) ?_
    refine ba (fun hb=>by cases hb) (fun _=>?_)
    refine ⟨fun b w'=>b=.string t.name/\Inv w [] [.blk b1 (.cells #[.int .i64 t.kind,.int .i64 t.n,.string t.name,.slice ka t.kids.length kc] ab)] S w',?_,?_⟩
    ·refine aI hI 0 rfl aT aR rfl ?_
     refine ge ay ?_
     refine kW (by omega) ?_
     refine ba (fun hb=>by cases hb) (fun _=>?_)
     exact ⟨rfl,hI⟩
    intro t3 _ _ _ _ _ _ w'
    rintro ⟨rfl,hI⟩
    exact done hI (by rw [<- hx])
   ·cases hx
end
/- lengths -/
theorem B7:∀ (f:Nat) (l:List T) (out x:Bs),mG f l out=some x->out.length<=x.length
 | 0,_,_,_,h=>by simp [mG] at h
 | _+1,[],out,x,h=>by simp [mG] at h; subst h; exact Nat.le_refl _
 | f+1,t::l,out,x,h=>by
  rw [mG] at h
  split at h
  ·cases h
  ·have:=B7 f _ _ _ h
   simp only [List.length_append] at this
   omega
def lenOf:Value->Nat
 | .slice _ n _=>n
 | _=>0
def vK (f:Nat):Prop:=∀ (t:T) (x:Bs) (S:aF) (cs:List Value),Dv f t=some x->x.length<=1000000->RdT S cs t->Pure Tryz.prog Ir [.agg cs.toArray] S (.string (st x))
def Hl (f:Nat):Prop:=∀ (t:T) (x:Bs) (S:aF) (cs:List Value),Ce f t []=some x->x.length<=1000000->RdT S cs t->Pure Tryz.prog GH [.agg cs.toArray] S (.string (st x))
def Ea (f:Nat):Prop:=∀ (ts:List T) (x:Bs) (S:aF) (u:Value),mG f ts []=some x->x.length<=1000000->RdSl S 4 (RdT S) u ts->Pure Tryz.prog G6 [u] S (.string (st x))
def o4 (f:Nat):Prop:=∀ (t:T) (l:Int) (x:Bs) (S:aF) (cs:List Value),oq f t l=some x->x.length<=1000000->RdT S cs t->Pure Tryz.prog AW [.agg cs.toArray,.int .i64 l] S (.string (st x))
def Hv (f:Nat):Prop:=∀ (t:T) (l:Int) (x:Bs) (S:aF) (cs:List Value),IE f t l=some x->x.length<=1000000->RdT S cs t->Pure Tryz.prog Hf [.agg cs.toArray,.int .i64 l] S (.string (st x))
def CH (f:Nat):Prop:=∀ (t:T) (l:Int) (x:Bs) (S:aF) (cs:List Value),CR f t l=some x->x.length<=1000000->RdT S cs t->Pure Tryz.prog EY [.agg cs.toArray,.int .i64 l] S (.string (st x))
section
attribute [local irreducible] Run CondV ah be
theorem L7 {f:Nat} (ih:∀ g,g<f->vK g):Ea f:=by
 intro ts x S u h hx hu w hI
 refine ya ?_
 unfold vO
 refine ⟨fun a b w'=>∃ (f' j:Nat) (out acc:Bs),f'<=f/\j<=ts.length/\a=.int .i64 (j:Int)/\b=.string (st out)/\acc=out++(if 0<j/\j<ts.length then [44] else [])/\mG f' (ts.drop j) acc=some x/\Inv w [] [] S w',
  fun a _ _=>ts.length - (intOf a).toNat,⟨f,0,[],[],Nat.le_refl _,Nat.zero_le _,rfl,rfl,by simp,h,hI⟩,?_⟩
 intro t4 _ _ _ _ _ _ _ _ _ t3 _ _ _ _ _ _ _ _ w'
 rintro ⟨f',j,out,acc,hf',hj,rfl,rfl,hacc,ha,hI⟩
 cases f' with
 | zero=>simp [mG] at ha
 | succ g=>
 refine a9 hu ay ?_
 refine bW ?_
 refine bl (fun hji=>?_) (fun hji=>?_)
 ·have hj':j<ts.length:=by omega
  rw [List.drop_eq_getElem_cons hj',mG] at ha
  split at ha
  ·cases ha
  rename_i y hy
  have hlen:=B7 _ _ _ _ ha
  simp only [List.length_append] at hlen
  refine ⟨fun b w'=>b=.string (st acc)/\Inv w [] [] S w',?_,?_⟩
  ·refine eh ?_
   refine bl (fun h0=>?_) (fun h0=>?_)
   ·rw [if_pos (by omega)] at hacc
    refine d3 (b:=[44]) (by rw [hacc,List.length_append] at hlen; simp only [List.length_cons,List.length_nil] at hlen ⊢; omega) ?_
    exact ⟨by rw [hacc],hI⟩
   ·rw [if_neg (by omega),List.append_nil] at hacc
    exact ⟨by rw [hacc],hI⟩
  intro t3 _ _ _ _ w'
  rintro ⟨rfl,hI⟩
  refine dZ hI hu ay ao hj' (fun _ _=>RdT.length) fun cs hcs=>?_
  refine Run.callPure gd f3 hI (ih g (by omega) _ y S cs hy (by omega) hcs) fun w' hI=>?_
  refine d3 (by omega) ?_
  refine bN (by have:=hu.le; simp only [maxLen] at this; omega) ?_
  refine ⟨⟨g,j+1,acc++y,_,by omega,hj',rfl,rfl,rfl,?_,hI⟩,by simp only [intOf,Int.toNat_natCast]; omega⟩
  have e:(if ts.drop (j+1)=[] then [] else [44]:Bs)=if 0<j+1/\j+1<ts.length then [44] else []:=by
   by_cases h1:j+1<ts.length
   ·rw [if_neg (fun h2=>by rw [List.drop_eq_nil_iff] at h2; omega),if_pos (by omega)]
   ·rw [if_pos (List.drop_eq_nil_of_le (by omega)),if_neg (by omega)]
  rw [<- e]
  exact ha
 ·have:j=ts.length:=by omega
  subst this
  rw [List.drop_length,mG] at ha
  simp only [Option.some.injEq] at ha
  rw [if_neg (by omega),List.append_nil] at hacc
  exact done hI (by rw [<- ha,hacc])
theorem G7 {f:Nat} (ih:∀ g,g<f->vK g):o4 f:=by
 intro t l x S cs h hx hc w hI
 cases f with
 | zero=>simp [oq] at h
 | succ g=>
 rw [oq] at h
 split at h
 ·cases h
 rename_i y hy
 simp only [Option.some.injEq] at h
 have h0:=hc
 obtain ⟨kv,rfl,_,_,_,hk⟩:=RdT.iff.1 hc
 obtain ⟨ka,kc,rfl,_⟩:=id hk
 have hyx:y.length<=1000000/\y.length+2<=9000000:=by
  have:y.length<=x.length:=by
   rw [<- h]; split
   ·simp; omega
   ·omega
  omega
 refine ss ?_
 unfold nD
 refine bQ hI fun b1 w' hI=>?_
 refine ⟨fun b w'=>b=.bool (lX t && decide (l<dg t.name))/\Inv w [] [.blk b1 (.cells #[.int .i64 t.kind,.int .i64 t.n,.string t.name,.slice ka t.kids.length kc] ab)] S w',?_,?_⟩
 ·refine bb hI 0 ao rfl rfl ?_
  refine Run.callPure rR q4 hI (mD h0) fun w' hI=>?_
  cases hf:lX t
  ·repeat (first|refine ad ?_|refine af (by decide) ?_|refine ac ?_|refine al ?_|refine aj ?_)
   exact ⟨by rw [Bool.false_and],hI⟩
  ·repeat (first|refine ad ?_|refine af (by decide) ?_|refine ac ?_|refine al ?_|refine aj ?_)
   refine aI hI 0 rfl bp bm rfl ?_
   refine Run.callPure fO fI hI (ex _ S) fun w' hI=>?_
   refine eh ?_
   repeat (first|refine ad ?_|refine af (by decide) ?_|refine ac ?_|refine al ?_|refine aj ?_)
   exact ⟨by rw [Bool.true_and],hI⟩
 intro t13 _ _ _ _ _ _ _ _ w'
 rintro ⟨rfl,hI⟩
 refine ba (fun hb=>?_) (fun hb=>?_)
 ·rw [Bool.and_eq_true,decide_eq_true_eq] at hb
  rw [if_pos hb] at h
  refine bb hI 0 ao rfl rfl ?_
  refine Run.callPure gd f3 hI (ih g (by omega) t y S _ hy hyx.1 h0) fun w' hI=>?_
  refine d3 (a:=[40]) (by simp only [List.length_cons,List.length_nil]; omega) ?_
  refine d3 (b:=[41]) (by simp only [List.length_append,List.length_cons,List.length_nil]; omega) ?_
  exact done hI (by rw [<- h])
 ·rw [if_neg (fun hh=>by rw [Bool.and_eq_false_iff,decide_eq_false_iff_not] at hb; rcases hb with hb|hb; rw [hh.1] at hb; cases hb; exact hb hh.2)] at h
  refine bb hI 0 ao rfl rfl ?_
  refine Run.callPure gd f3 hI (ih g (by omega) t y S _ hy hyx.1 h0) fun w' hI=>?_
  exact done hI (by rw [<- h])
theorem LF {f:Nat} (ih:∀ g,g<f->vK g) (ihB:∀ g,g<f->o4 g):Hv f:=by
 intro t l x S cs h hx hc w hI
 cases f with
 | zero=>simp [IE] at h
 | succ g=>
 rw [IE] at h
 have h0:=hc
 obtain ⟨kv,rfl,_,_,_,hk⟩:=RdT.iff.1 hc
 obtain ⟨ka,kc,rfl,_⟩:=id hk
 refine y6 ?_
 unfold vh
 refine bQ hI fun b1 w' hI=>?_
 refine bb hI 0 ao rfl rfl ?_
 refine Run.callPure vI vW hI (nM h0) fun w' hI=>?_
 split at h
 ·rename_i hs
  split at h
  ·cases h
  rename_i y hy
  simp only [Option.some.injEq] at h
  have hyx:y.length+2=x.length:=by rw [<- h]; simp only [List.length_append,List.length_cons,List.length_nil]; omega
  rw [hs]
  refine ba (fun _=>?_) (fun hb=>by cases hb)
  refine bb hI 0 ao rfl rfl ?_
  refine Run.callPure gd f3 hI (ih g (by omega) t y S _ hy (by omega) h0) fun w' hI=>?_
  refine d3 (a:=[40]) (by simp only [List.length_cons,List.length_nil]; omega) ?_
  refine d3 (b:=[41]) (by simp only [List.length_append,List.length_cons,List.length_nil]; omega) ?_
  exact done hI (by rw [<- h])
 ·rename_i hs
  rw [Bool.eq_false_iff.2 hs]
  refine ba (fun hb=>by cases hb) (fun _=>?_)
  refine bb hI 0 ao rfl rfl ?_
  refine Run.callPure nW nU hI (ihB g (by omega) t l x S _ h hx h0) fun w' hI=>?_
  exact done hI rfl
theorem KS {f:Nat} (ihB:∀ g,g<f->o4 g):CH f:=by
 intro t l x S cs h hx hc w hI
 cases f with
 | zero=>simp [CR] at h
 | succ g=>
 rw [CR] at h
 split at h
 ·cases h
 rename_i y hy
 split at h
 ·cases h
 rename_i hne
 simp only [Option.some.injEq] at h
 have hy0:0<y.length:=by
  cases y with
  | nil=>exact absurd rfl hne
  | cons a l=>simp
 have hyx:y.length<=1000000:=by
  have:y.length<=x.length:=by
   rw [<- h]; split
   ·simp; omega
   ·omega
  omega
 have h0:=hc
 obtain ⟨kv,rfl,_,_,_,hk⟩:=RdT.iff.1 hc
 obtain ⟨ka,kc,rfl,_⟩:=id hk
 refine xm ?_
 unfold rT
 refine bQ hI fun b1 w' hI=>?_
 refine bb hI 0 ao rfl rfl ?_
 refine Run.callPure nW nU hI (ihB g (by omega) t l y S _ hy hyx h0) fun w' hI=>?_
 refine ⟨fun b w'=>b=.bool (wh t || !DM y)/\Inv w [] [.blk b1 (.cells #[.int .i64 t.kind,.int .i64 t.n,.string t.name,.slice ka t.kids.length kc] ab)] S w',?_,?_⟩
 ·refine bb hI 0 ao rfl rfl ?_
  refine Run.callPure vI vW hI (nM h0) fun w' hI=>?_
  cases hs:wh t
  ·repeat (first|refine ad ?_|refine af (by decide) ?_|refine ac ?_|refine al ?_|refine aj ?_)
   refine Run.callPure Df Dn hI (At y hy0) fun w' hI=>?_
   refine dh ?_
   repeat (first|refine ad ?_|refine af (by decide) ?_|refine ac ?_|refine al ?_|refine aj ?_)
   exact ⟨by rw [Bool.false_or],hI⟩
  ·repeat (first|refine ad ?_|refine af (by decide) ?_|refine ac ?_|refine al ?_|refine aj ?_)
   exact ⟨by rw [Bool.true_or],hI⟩
 intro t15 _ _ _ _ _ _ w'
 rintro ⟨rfl,hI⟩
 refine ba (fun hb=>?_) (fun hb=>?_)
 ·rw [Bool.or_eq_true,Bool.not_eq_true'] at hb
  rw [if_pos hb] at h
  refine d3 (a:=[40]) (by simp only [List.length_cons,List.length_nil]; omega) ?_
  refine d3 (b:=[41]) (by simp only [List.length_append,List.length_cons,List.length_nil]; omega) ?_
  exact done hI (by rw [<- h])
 ·rw [if_neg (fun hh=>by rw [<- Bool.not_eq_true',<- Bool.or_eq_true,hb] at hh; cases hh)] at h
  exact done hI (by rw [<- h])
theorem LN {f:Nat} (hf:f<=100000) (ih:∀ g,g<f->vK g) (ihA:∀ g,g<f->Ea g):Hl f:=by
 intro t x S cs h hx hc w hI
 obtain ⟨kv,rfl,_,_,_,hk⟩:=RdT.iff.1 hc
 refine xW ?_
 unfold vp
 refine bQ hI fun b1 w' hI=>?_
 refine eO hI bK fun v0 w' hI=>?_
 refine ⟨fun a w'=>∃ (f':Nat) (t':T) (items:List T) (ds:List Value) (css:List (List Value)),f'+items.length=f/\Ce f' t' items=some x/\RdT S ds t'/\Rows 4 (RdT S) css items/\(∃ p m,a=.slice p items.length m)/\Inv w [] [.blk b1 (.cells ds.toArray ab),bh a ab 4 css] S w',
  fun a _=>f+1 - lenOf a,⟨f,t,[],_,[],by simp,h,hc,Rows.nil _ _,?_,hI⟩,?_⟩
 ·have hI2:Inv w [] ([Item.blk b1 (.cells #[.int .i64 t.kind,.int .i64 t.n,.string t.name,kv] ab)]++[bh v0 ab 4 []]) S w':=hI
  obtain ⟨S1,_,hrd,_⟩:=Inv.lendExt hI2
  obtain ⟨p,m,e,_⟩:=RowRd.rows (Rows.nil 4 (RdT S)) hrd
  exact ⟨p,m,e⟩
 clear h hc hk hI
 intro _ _ _ _ t3 _ _ _ _ _ _ _ _ _ w'
 rintro ⟨f',t',items,ds,css,hfl,hl,hd,hR,⟨p,m,rfl⟩,hI⟩
 have hd0:=hd
 obtain ⟨kd,rfl,_,_,_,hk⟩:=RdT.iff.1 hd
 have hcl:=hR.hc
 cases f' with
 | zero=>simp [Ce] at hl
 | succ g=>
 rw [Ce] at hl
 refine bb hI 0 ao rfl rfl ?_
 refine Run.callPure oK ow hI (jP hd0) fun w' hI=>?_
 split at hl
 ·rename_i hp
  split at hl
  ·rename_i a b hab
   rw [hp]
   refine ba (fun _=>?_) (fun hb=>by cases hb)
   rw [hab] at hk
   refine aI hI 0 rfl aT aR rfl ?_
   refine dZ (i:=0) hI hk ay ao (by simp) (fun _ _=>RdT.length) fun es hes=>?_
   rw [List.getElem_cons_zero] at hes
   refine gt (css:=css) hI 1 es bK (by omega) (by omega) rfl hes.length hes.one (by omega) (by omega) fun v' w' hI=>?_
   refine aI hI 0 rfl aT aR rfl ?_
   refine dZ (i:=1) hI hk ay ao (by simp) (fun _ _=>RdT.length) fun gs hgs=>?_
   rw [List.getElem_cons_succ,List.getElem_cons_zero] at hgs
   have hg1:=hgs.length
   refine bg hI 0 rfl ao (by simpa using hg1) rfl (by simpa using hgs.one) fun w' hI=>?_
   have hR2:=hR.snoc hes hes.length
   have hI2:Inv w [] ([Item.blk b1 (.cells gs.toArray ab)]++[bh v' ab 4 (css++[es])]) S w':=hI
   obtain ⟨S1,hE1,hrd,_⟩:=Inv.lendExt hI2
   obtain ⟨p',m',e',_⟩:=RowRd.rows hR2 hrd
   refine ⟨⟨g,b,items++[a],gs,css++[es],by rw [List.length_append]; simp only [List.length_cons,List.length_nil]; omega,hl,hgs,hR2,⟨p',m',e'⟩,hI⟩,?_⟩
   rw [e']
   simp only [lenOf,List.length_append,List.length_cons,List.length_nil]
   omega
  ·cases hl
 ·rename_i hp
  rw [Bool.eq_false_iff.2 hp]
  refine ba (fun hb=>by cases hb) (fun _=>?_)
  split at hl
  ·cases hl
  rename_i y hy
  refine bb hI 0 ao rfl rfl ?_
  refine Run.callPure H3 Hh hI (AN hd0) fun w' hI=>?_
  have hI2:Inv w [] ([Item.blk b1 (.cells #[.int .i64 t'.kind,.int .i64 t'.n,.string t'.name,kd] ab)]++[bh (.slice p items.length m) ab 4 css]) S w':=hI
  obtain ⟨S1,hE1,hrd,hI⟩:=Inv.lendExt hI2
  have hrs:=RowRd.rows (hR.monoR fun _ _ h=>RdT.mono hE1.1 h) hrd
  have hd1:=RdT.mono hE1.1 hd0
  split at hl
  ·rename_i hn
   simp only [Option.some.injEq] at hl
   have hyx:y.length+2=x.length:=by rw [<- hl]; simp only [List.length_append,List.length_cons,List.length_nil]; omega
   rw [hn]
   refine ba (fun _=>?_) (fun hb=>by cases hb)
   refine Run.callPure oM nZ hI (ihA g (by omega) items y S1 _ hy (by omega) hrs) fun w' hI=>?_
   refine d3 (a:=[91]) (by simp only [List.length_cons,List.length_nil]; omega) ?_
   refine d3 (b:=[93]) (by simp only [List.length_append,List.length_cons,List.length_nil]; omega) ?_
   exact lD hI hE1.1 (by rw [<- hl])
  ·rename_i hn
   split at hl
   ·cases hl
   rename_i z hz
   simp only [Option.some.injEq] at hl
   have hyx:y.length+z.length+3=x.length:=by rw [<- hl]; simp only [List.length_append,List.length_cons,List.length_nil]; omega
   rw [Bool.eq_false_iff.2 hn]
   refine ba (fun hb=>by cases hb) (fun _=>?_)
   refine ⟨fun D x2 dU dH dv cI cX bZ bS bV w_=>(D 0=true->bV=.slice p items.length m)/\(D 1=true->bS=.string (st y))/\(D 2=true->bZ=.string (st ([91]++y)))/\(D 3=true->cX=.string (st ([91]++y++[124])))/\(D 4=true->cI=.agg #[.int .i64 t'.kind,.int .i64 t'.n,.string t'.name,kd])/\(D 5=true->dv=.string (st z))/\(D 6=true->dH=.string (st ([91]++y++[124]++z)))/\(D 7=true->dU=.string (st ([91]++y++[124]++z++[93])))/\(D 8=true->x2=.string (st ([91]++y++[124]++z++[93])))/\Inv w [] [.blk b1 (.cells #[.int .i64 t'.kind,.int .i64 t'.n,.string t'.name,kd] ab)] S1 w_,⟨ae,ae,ae,ae,ae,ae,ae,ae,ae,hI.draw⟩,⟨?_,?_,?_,?_,?_,?_,?_,?_,?_,trivial⟩,?_⟩
   ·intro D aY  x2 dU dH dv cI cX bZ bS bV w_
    rintro ⟨aA,aB,aC,az,av,aE,aD,aH,aK,hI⟩
    exact ⟨fun _=>rfl,aB,aC,az,av,aE,aD,aH,aK,hI⟩
   ·intro D aY b0 x2 dU dH dv cI cX bZ bS bV w_
    rintro ⟨aA,aB,aC,az,av,aE,aD,aH,aK,hI⟩
    obtain rfl:=aA b0
    refine Run.callPure oM nZ hI (ihA g (by omega) items y S1 _ hy (by omega) hrs) fun w_ hI=>?_
    exact ⟨aA,fun _=>rfl,aC,az,av,aE,aD,aH,aK,hI⟩
   ·intro D aY dE x2 dU dH dv cI cX bZ bS bV w_
    rintro ⟨aA,aB,aC,az,av,aE,aD,aH,aK,hI⟩
    obtain rfl:=aB dE
    refine d3 (a:=[91]) (by simp only [List.length_cons,List.length_nil]; omega) ?_
    exact ⟨aA,aB,fun _=>rfl,az,av,aE,aD,aH,aK,hI⟩
   ·intro D aY ec x2 dU dH dv cI cX bZ bS bV w_
    rintro ⟨aA,aB,aC,az,av,aE,aD,aH,aK,hI⟩
    obtain rfl:=aC ec
    refine d3 (b:=[124]) (by simp only [List.length_append,List.length_cons,List.length_nil]; omega) ?_
    exact ⟨aA,aB,aC,fun _=>rfl,av,aE,aD,aH,aK,hI⟩
   ·intro D aY  x2 dU dH dv cI cX bZ bS bV w_
    rintro ⟨aA,aB,aC,az,av,aE,aD,aH,aK,hI⟩
    refine bb hI 0 ao rfl rfl ?_
    exact ⟨aA,aB,aC,az,fun _=>rfl,aE,aD,aH,aK,hI⟩
   ·intro D aY cF il x2 dU dH dv cI cX bZ bS bV w_
    rintro ⟨aA,aB,aC,az,av,aE,aD,aH,aK,hI⟩
    obtain rfl:=av cF
    refine Run.callPure gd f3 hI (ih g (by omega) t' z S1 _ hz (by omega) hd1) fun w_ hI=>?_
    exact ⟨aA,aB,aC,az,av,fun _=>rfl,aD,aH,aK,hI⟩
   ·intro D aY dB g0 x2 dU dH dv cI cX bZ bS bV w_
    rintro ⟨aA,aB,aC,az,av,aE,aD,aH,aK,hI⟩
    obtain rfl:=az dB
    obtain rfl:=aE g0
    refine d3 (by simp only [List.length_append,List.length_cons,List.length_nil]; omega) ?_
    exact ⟨aA,aB,aC,az,av,aE,fun _=>rfl,aH,aK,hI⟩
   ·intro D aY cJ x2 dU dH dv cI cX bZ bS bV w_
    rintro ⟨aA,aB,aC,az,av,aE,aD,aH,aK,hI⟩
    obtain rfl:=aD cJ
    refine d3 (b:=[93]) (by simp only [List.length_append,List.length_cons,List.length_nil]; omega) ?_
    exact ⟨aA,aB,aC,az,av,aE,aD,fun _=>rfl,aK,hI⟩
   ·intro D aY d6 g0 nY tb s0 qY s5 xu wt Ei x2 dU dH dv cI cX bZ bS bV w_
    rintro ⟨aA,aB,aC,az,av,aE,aD,aH,aK,hI⟩
    obtain rfl:=aH d6
    exact ⟨aA,aB,aC,az,av,aE,aD,aH,fun _=>rfl,hI⟩
   intro D gI fK fL fH fC fB fE fM fJ x2 dU dH dv cI cX bZ bS bV w_
   rintro ⟨aA,aB,aC,az,av,aE,aD,aH,aK,hI⟩
   obtain rfl:=aK gI
   obtain rfl:=aH fK
   obtain rfl:=aD fL
   obtain rfl:=aE fH
   obtain rfl:=av fC
   obtain rfl:=az fB
   obtain rfl:=aC fE
   obtain rfl:=aB fM
   obtain rfl:=aA fJ
   clear aA aB aC az av aE aD aH aK
   exact lD hI hE1.1 (by rw [<- hl])
theorem Mw {f:Nat} (ihL:∀ g,g<f->Hl g) (ihA:∀ g,g<f->Ea g) (ihF:∀ g,g<f->Hv g) (ihR:∀ g,g<f->CH g):vK f:=by
 intro t x S cs h hx hc w hI
 cases f with
 | zero=>simp [Dv] at h
 | succ g=>
 rw [Dv] at h
 have h0:=hc
 obtain ⟨kv,rfl,_,_,_,hk⟩:=RdT.iff.1 hc
 refine y0 ?_
 unfold vj
 refine bQ hI fun b1 w' hI=>?_
 obtain ⟨B1,hB1⟩:∃ B1,B1=Item.blk b1 (.cells #[.int .i64 t.kind,.int .i64 t.n,.string t.name,kv] ab):=⟨_,rfl⟩
 refine bb hI 0 ao rfl rfl ?_
 refine Run.callPure oK ow hI (jP h0) fun w' hI=>?_
 split at h
 ·rename_i hp
  rw [hp]
  refine ba (fun _=>?_) (fun hb=>by cases hb)
  refine bb hI 0 ao rfl rfl ?_
  refine Run.callPure FS FK hI (ihL g (by omega) t x S _ h hx h0) fun w' hI=>?_
  exact done hI rfl
 rename_i hp
 have hp:=Bool.eq_false_iff.2 hp
 rw [hp]
 refine ba (fun hb=>by cases hb) (fun _=>?_)
 refine bb hI 0 ao rfl rfl ?_
 refine Run.callPure rR q4 hI (mD h0) fun w' hI=>?_
 split at h
 ·rename_i hf
  rw [hf]
  refine ba (fun _=>?_) (fun hb=>by cases hb)
  split at h
  ·rename_i a b hab
   obtain ⟨lv,hlv⟩:∃ lv,lv=dg t.name:=⟨_,rfl⟩
   rw [<- hlv] at h
   have hlr:1<=lv/\lv<=3:=by
    have h1:0<dg t.name:=by
     unfold lX at hf
     simp only [Bool.and_eq_true,decide_eq_true_eq] at hf
     exact hf.2.2
    have h2:dg t.name<=3:=by
     unfold dg
     split
     ·omega
     ·split
      ·omega
      ·split <;> omega
    omega
   split at h
   ·rename_i y z hy hz
    simp only [Option.some.injEq] at h
    have hlen:y.length+(gW (bs t.name)).length+z.length=x.length:=by rw [<- h]; simp only [List.length_append]
    have hsp:(bs t.name).length<=(gW (bs t.name)).length:=by
     unfold gW
     split
     ·simp; omega
     ·omega
    rw [hab] at hk
    obtain ⟨b2,o2,cap2,c2,E2,fz2,rfl,hS,hRa⟩:=hk.at_ (i:=0) (by simp)
    obtain ⟨b2',o2',cap2',c2',E2',fz2',hsl,hS',hRb⟩:=hk.at_ (i:=1) (by simp)
    cases hsl
    rw [hS] at hS'
    cases hS'
    rw [List.getElem_cons_zero] at hRa
    rw [List.getElem_cons_succ,List.getElem_cons_zero] at hRb
    refine aI hI 0 rfl bp bm rfl ?_
    refine Run.callPure fO fI hI (ex _ S) fun w' hI=>?_
    rw [<- hlv]
    have hI:Inv w [] [B1] S w':=by rw [hB1]; exact hI
    refine ⟨fun v w'=>v=.int .i64 (if lv=3 then 2 else lv)/\Inv w [] [B1] S w',?_,?_⟩
    ·refine bR ?_
     refine bl (fun h3=>⟨by rw [if_pos h3],hI⟩) (fun h3=>⟨by rw [if_neg h3],hI⟩)
    intro t4 _ _ w'
    rintro ⟨rfl,hI⟩
    subst hB1
    skip
    refine ⟨fun D x2 dQ dO g6 ek eK dU dH dv cI cX bZ bS bV cf cd cC cc bY w_=>(D 0=true->bY=.pointer (some ⟨b1,3,none⟩))/\(D 1=true->cc=.slice (some ⟨b2,o2,none⟩) [a,b].length cap2)/\(D 2=true->cC=.pointer (some ⟨b2,o2+0 * 4,none⟩))/\(D 3=true->cd=.agg (bw c2 (o2+0 * 4) 4).toArray)/\(D 4=true->cf=.int .i64 (if lv=3 then 2 else lv))/\(D 5=true->bV=.string (st y))/\(D 6=true->bS=.pointer (some ⟨b1,2,none⟩))/\(D 7=true->bZ=.string t.name)/\(D 8=true->cX=.string (st (gW (bs t.name))))/\(D 9=true->cI=.string (st (y++gW (bs t.name))))/\(D 10=true->dv=.pointer (some ⟨b1,3,none⟩))/\(D 11=true->dH=.slice (some ⟨b2,o2,none⟩) [a,b].length cap2)/\(D 12=true->dU=.pointer (some ⟨b2,o2+1 * 4,none⟩))/\(D 13=true->eK=.agg (bw c2 (o2+1 * 4) 4).toArray)/\(D 14=true->ek=.int .i64 lv)/\(D 15=true->g6=.int .i64 (lv - 1))/\(D 16=true->dO=.string (st z))/\(D 17=true->dQ=.string (st (y++gW (bs t.name)++z)))/\(D 18=true->x2=.string (st (y++gW (bs t.name)++z)))/\Inv w [] [.blk b1 (.cells #[.int .i64 t.kind,.int .i64 t.n,.string t.name,.slice (some ⟨b2,o2,none⟩) [a,b].length cap2] ab)] S w_,⟨ae,ae,ae,ae,ae,ae,ae,ae,ae,ae,ae,ae,ae,ae,ae,ae,ae,ae,ae,hI.draw⟩,⟨?_,?_,?_,?_,?_,?_,?_,?_,?_,?_,?_,?_,?_,?_,?_,?_,?_,?_,?_,trivial⟩,?_⟩
    ·intro D aY  x2 dQ dO g6 ek eK dU dH dv cI cX bZ bS bV cf cd cC cc bY w_
     rintro ⟨aA,aB,aC,az,av,aE,aD,aH,aK,aP,ag,ai,aG,aM,aO,aN,aV,aU,aW,hI⟩
     refine bi aT ?_
     exact ⟨fun _=>rfl,aB,aC,az,av,aE,aD,aH,aK,aP,ag,ai,aG,aM,aO,aN,aV,aU,aW,hI⟩
    ·intro D aY b0 x2 dQ dO g6 ek eK dU dH dv cI cX bZ bS bV cf cd cC cc bY w_
     rintro ⟨aA,aB,aC,az,av,aE,aD,aH,aK,aP,ag,ai,aG,aM,aO,aN,aV,aU,aW,hI⟩
     obtain rfl:=aA b0
     refine bG hI 0 aR rfl rfl ?_
     exact ⟨aA,fun _=>rfl,aC,az,av,aE,aD,aH,aK,aP,ag,ai,aG,aM,aO,aN,aV,aU,aW,hI⟩
    ·intro D aY dE x2 dQ dO g6 ek eK dU dH dv cI cX bZ bS bV cf cd cC cc bY w_
     rintro ⟨aA,aB,aC,az,av,aE,aD,aH,aK,aP,ag,ai,aG,aM,aO,aN,aV,aU,aW,hI⟩
     obtain rfl:=aB dE
     refine bk (i:=0) ay (by simp) ?_
     exact ⟨aA,aB,fun _=>rfl,az,av,aE,aD,aH,aK,aP,ag,ai,aG,aM,aO,aN,aV,aU,aW,hI⟩
    ·intro D aY ec x2 dQ dO g6 ek eK dU dH dv cI cX bZ bS bV cf cd cC cc bY w_
     rintro ⟨aA,aB,aC,az,av,aE,aD,aH,aK,aP,ag,ai,aG,aM,aO,aN,aV,aU,aW,hI⟩
     obtain rfl:=aC ec
     refine cU ao hRa.length (fun j v hj=>by rw [hI.cellS hS]; exact bn rfl j v hj) ?_
     exact ⟨aA,aB,aC,fun _=>rfl,av,aE,aD,aH,aK,aP,ag,ai,aG,aM,aO,aN,aV,aU,aW,hI⟩
    ·intro D aY  x2 dQ dO g6 ek eK dU dH dv cI cX bZ bS bV cf cd cC cc bY w_
     rintro ⟨aA,aB,aC,az,av,aE,aD,aH,aK,aP,ag,ai,aG,aM,aO,aN,aV,aU,aW,hI⟩
     exact ⟨aA,aB,aC,az,fun _=>rfl,aE,aD,aH,aK,aP,ag,ai,aG,aM,aO,aN,aV,aU,aW,hI⟩
    ·intro D aY dB dM x2 dQ dO g6 ek eK dU dH dv cI cX bZ bS bV cf cd cC cc bY w_
     rintro ⟨aA,aB,aC,az,av,aE,aD,aH,aK,aP,ag,ai,aG,aM,aO,aN,aV,aU,aW,hI⟩
     obtain rfl:=az dB
     obtain rfl:=av dM
     refine Run.callPure Gf Ez hI (ihF g (by omega) a _ y S _ hy (by omega) hRa) fun w_ hI=>?_
     exact ⟨aA,aB,aC,az,av,fun _=>rfl,aD,aH,aK,aP,ag,ai,aG,aM,aO,aN,aV,aU,aW,hI⟩
    ·intro D aY  x2 dQ dO g6 ek eK dU dH dv cI cX bZ bS bV cf cd cC cc bY w_
     rintro ⟨aA,aB,aC,az,av,aE,aD,aH,aK,aP,ag,ai,aG,aM,aO,aN,aV,aU,aW,hI⟩
     refine bi bp ?_
     exact ⟨aA,aB,aC,az,av,aE,fun _=>rfl,aH,aK,aP,ag,ai,aG,aM,aO,aN,aV,aU,aW,hI⟩
    ·intro D aY cJ x2 dQ dO g6 ek eK dU dH dv cI cX bZ bS bV cf cd cC cc bY w_
     rintro ⟨aA,aB,aC,az,av,aE,aD,aH,aK,aP,ag,ai,aG,aM,aO,aN,aV,aU,aW,hI⟩
     obtain rfl:=aD cJ
     refine bG hI 0 bm rfl rfl ?_
     exact ⟨aA,aB,aC,az,av,aE,aD,fun _=>rfl,aK,aP,ag,ai,aG,aM,aO,aN,aV,aU,aW,hI⟩
    ·intro D aY d6 g0 x2 dQ dO g6 ek eK dU dH dv cI cX bZ bS bV cf cd cC cc bY w_
     rintro ⟨aA,aB,aC,az,av,aE,aD,aH,aK,aP,ag,ai,aG,aM,aO,aN,aV,aU,aW,hI⟩
     obtain rfl:=aH d6
     refine Run.callPure AY A1 hI (yt (bs t.name) (by omega)) fun w_ hI=>?_
     exact ⟨aA,aB,aC,az,av,aE,aD,aH,fun _=>rfl,aP,ag,ai,aG,aM,aO,aN,aV,aU,aW,hI⟩
    ·intro D aY dT gi x2 dQ dO g6 ek eK dU dH dv cI cX bZ bS bV cf cd cC cc bY w_
     rintro ⟨aA,aB,aC,az,av,aE,aD,aH,aK,aP,ag,ai,aG,aM,aO,aN,aV,aU,aW,hI⟩
     obtain rfl:=aE dT
     obtain rfl:=aK gi
     refine d3 (by omega) ?_
     exact ⟨aA,aB,aC,az,av,aE,aD,aH,aK,fun _=>rfl,ag,ai,aG,aM,aO,aN,aV,aU,aW,hI⟩
    ·intro D aY  x2 dQ dO g6 ek eK dU dH dv cI cX bZ bS bV cf cd cC cc bY w_
     rintro ⟨aA,aB,aC,az,av,aE,aD,aH,aK,aP,ag,ai,aG,aM,aO,aN,aV,aU,aW,hI⟩
     refine bi aT ?_
     exact ⟨aA,aB,aC,az,av,aE,aD,aH,aK,aP,fun _=>rfl,ai,aG,aM,aO,aN,aV,aU,aW,hI⟩
    ·intro D aY gv x2 dQ dO g6 ek eK dU dH dv cI cX bZ bS bV cf cd cC cc bY w_
     rintro ⟨aA,aB,aC,az,av,aE,aD,aH,aK,aP,ag,ai,aG,aM,aO,aN,aV,aU,aW,hI⟩
     obtain rfl:=ag gv
     refine bG hI 0 aR rfl rfl ?_
     exact ⟨aA,aB,aC,az,av,aE,aD,aH,aK,aP,ag,fun _=>rfl,aG,aM,aO,aN,aV,aU,aW,hI⟩
    ·intro D aY gZ x2 dQ dO g6 ek eK dU dH dv cI cX bZ bS bV cf cd cC cc bY w_
     rintro ⟨aA,aB,aC,az,av,aE,aD,aH,aK,aP,ag,ai,aG,aM,aO,aN,aV,aU,aW,hI⟩
     obtain rfl:=ai gZ
     refine bk (i:=1) ay (by simp) ?_
     exact ⟨aA,aB,aC,az,av,aE,aD,aH,aK,aP,ag,ai,fun _=>rfl,aM,aO,aN,aV,aU,aW,hI⟩
    ·intro D aY ku x2 dQ dO g6 ek eK dU dH dv cI cX bZ bS bV cf cd cC cc bY w_
     rintro ⟨aA,aB,aC,az,av,aE,aD,aH,aK,aP,ag,ai,aG,aM,aO,aN,aV,aU,aW,hI⟩
     obtain rfl:=aG ku
     refine cU ao hRb.length (fun j v hj=>by rw [hI.cellS hS]; exact bn rfl j v hj) ?_
     exact ⟨aA,aB,aC,az,av,aE,aD,aH,aK,aP,ag,ai,aG,fun _=>rfl,aO,aN,aV,aU,aW,hI⟩
    ·intro D aY  x2 dQ dO g6 ek eK dU dH dv cI cX bZ bS bV cf cd cC cc bY w_
     rintro ⟨aA,aB,aC,az,av,aE,aD,aH,aK,aP,ag,ai,aG,aM,aO,aN,aV,aU,aW,hI⟩
     exact ⟨aA,aB,aC,az,av,aE,aD,aH,aK,aP,ag,ai,aG,aM,fun _=>rfl,aN,aV,aU,aW,hI⟩
    ·intro D aY Fr x2 dQ dO g6 ek eK dU dH dv cI cX bZ bS bV cf cd cC cc bY w_
     rintro ⟨aA,aB,aC,az,av,aE,aD,aH,aK,aP,ag,ai,aG,aM,aO,aN,aV,aU,aW,hI⟩
     obtain rfl:=aO Fr
     refine pO (by omega) ?_
     exact ⟨aA,aB,aC,az,av,aE,aD,aH,aK,aP,ag,ai,aG,aM,aO,fun _=>rfl,aV,aU,aW,hI⟩
    ·intro D aY g9 Li OX x2 dQ dO g6 ek eK dU dH dv cI cX bZ bS bV cf cd cC cc bY w_
     rintro ⟨aA,aB,aC,az,av,aE,aD,aH,aK,aP,ag,ai,aG,aM,aO,aN,aV,aU,aW,hI⟩
     obtain rfl:=aM g9
     obtain rfl:=aN Li
     refine Run.callPure CK Dj hI (ihR g (by omega) b _ z S _ hz (by omega) hRb) fun w_ hI=>?_
     exact ⟨aA,aB,aC,az,av,aE,aD,aH,aK,aP,ag,ai,aG,aM,aO,aN,fun _=>rfl,aU,aW,hI⟩
    ·intro D aY GQ vY x2 dQ dO g6 ek eK dU dH dv cI cX bZ bS bV cf cd cC cc bY w_
     rintro ⟨aA,aB,aC,az,av,aE,aD,aH,aK,aP,ag,ai,aG,aM,aO,aN,aV,aU,aW,hI⟩
     obtain rfl:=aP GQ
     obtain rfl:=aV vY
     refine d3 (by rw [List.length_append]; omega) ?_
     exact ⟨aA,aB,aC,az,av,aE,aD,aH,aK,aP,ag,ai,aG,aM,aO,aN,aV,fun _=>rfl,aW,hI⟩
    ·intro D aY Fu vY nY tb s0 qY s5 xu wt Ei BD Bz uE zr yc CY CE MI Mk Mq x2 dQ dO g6 ek eK dU dH dv cI cX bZ bS bV cf cd cC cc bY w_
     rintro ⟨aA,aB,aC,az,av,aE,aD,aH,aK,aP,ag,ai,aG,aM,aO,aN,aV,aU,aW,hI⟩
     obtain rfl:=aU Fu
     exact ⟨aA,aB,aC,az,av,aE,aD,aH,aK,aP,ag,ai,aG,aM,aO,aN,aV,aU,fun _=>rfl,hI⟩
    intro D zL za zG mQ m0 nh iO fk fw iK gI fK fL fH fC fB fE fM fJ x2 dQ dO g6 ek eK dU dH dv cI cX bZ bS bV cf cd cC cc bY w_
    rintro ⟨aA,aB,aC,az,av,aE,aD,aH,aK,aP,ag,ai,aG,aM,aO,aN,aV,aU,aW,hI⟩
    obtain rfl:=aW zL
    obtain rfl:=aU za
    obtain rfl:=aV zG
    obtain rfl:=aN mQ
    obtain rfl:=aO m0
    obtain rfl:=aM nh
    obtain rfl:=aG iO
    obtain rfl:=ai fk
    obtain rfl:=ag fw
    obtain rfl:=aP iK
    obtain rfl:=aK gI
    obtain rfl:=aH fK
    obtain rfl:=aD fL
    obtain rfl:=aE fH
    obtain rfl:=av fC
    obtain rfl:=az fB
    obtain rfl:=aC fE
    obtain rfl:=aB fM
    obtain rfl:=aA fJ
    clear aA aB aC az av aE aD aH aK aP ag ai aG aM aO aN aV aU aW
    exact done hI (by rw [<- h])
   ·cases h
  ·cases h
 ·rename_i hf
  rw [Bool.eq_false_iff.2 hf]
  refine ba (fun hb=>by cases hb) (fun _=>?_)
  obtain ⟨ka,kc,rfl,_⟩:=id hk
  refine ⟨fun v w'=>v=.bool (decide (t.kind=3) && decide (0<t.kids.length))/\Inv w [] [B1] S w',?_,?_⟩
  ·refine aI hI 0 rfl bD bo rfl ?_
   by_cases h3:t.kind=3
   ·refine fW h3 ?_
    repeat (first|refine ad ?_|refine af (by decide) ?_|refine ac ?_|refine al ?_|refine aj ?_)
    refine aI hI 0 rfl aT aR rfl ?_
    refine ge ay ?_
    refine eh ?_
    repeat (first|refine ad ?_|refine af (by decide) ?_|refine ac ?_|refine al ?_|refine aj ?_)
    refine ⟨?_,by rw [hB1]; exact hI⟩
    rw [decide_eq_true h3,Bool.true_and]
    congr 1
    rw [decide_eq_decide]
    omega
   ·refine eY h3 ?_
    repeat (first|refine ad ?_|refine af (by decide) ?_|refine ac ?_|refine al ?_|refine aj ?_)
    exact ⟨by rw [decide_eq_false h3,Bool.false_and],by rw [hB1]; exact hI⟩
  intro t37 _ _ _ _ _ _ _ _ _ w'
  rintro ⟨rfl,hI⟩
  subst hB1
  split at h
  ·rename_i hc3
   rw [decide_eq_true hc3.1,decide_eq_true hc3.2]
   refine ba (fun _=>?_) (fun hb=>by cases hb)
   split at h
   ·rename_i y hy
    simp only [Option.some.injEq] at h
    have hlen:(bs t.name).length+y.length+2=x.length:=by rw [<- h]; simp only [List.length_append,List.length_cons,List.length_nil]; omega
    skip
    refine ⟨fun D x2 di dj cO cL cM cK bT bU w_=>(D 0=true->bU=.pointer (some ⟨b1,2,none⟩))/\(D 1=true->bT=.string t.name)/\(D 2=true->cK=.string (st (bs t.name++[40])))/\(D 3=true->cM=.pointer (some ⟨b1,3,none⟩))/\(D 4=true->cL=.slice ka t.kids.length kc)/\(D 5=true->cO=.string (st y))/\(D 6=true->dj=.string (st (bs t.name++[40]++y)))/\(D 7=true->di=.string (st (bs t.name++[40]++y++[41])))/\(D 8=true->x2=.string (st (bs t.name++[40]++y++[41])))/\Inv w [] [.blk b1 (.cells #[.int .i64 t.kind,.int .i64 t.n,.string t.name,.slice ka t.kids.length kc] ab)] S w_,⟨ae,ae,ae,ae,ae,ae,ae,ae,ae,hI.draw⟩,⟨?_,?_,?_,?_,?_,?_,?_,?_,?_,trivial⟩,?_⟩
    ·intro D aY  x2 di dj cO cL cM cK bT bU w_
     rintro ⟨aA,aB,aC,az,av,aE,aD,aH,aK,hI⟩
     refine bi bp ?_
     exact ⟨fun _=>rfl,aB,aC,az,av,aE,aD,aH,aK,hI⟩
    ·intro D aY b0 x2 di dj cO cL cM cK bT bU w_
     rintro ⟨aA,aB,aC,az,av,aE,aD,aH,aK,hI⟩
     obtain rfl:=aA b0
     refine bG hI 0 bm rfl rfl ?_
     exact ⟨aA,fun _=>rfl,aC,az,av,aE,aD,aH,aK,hI⟩
    ·intro D aY dE x2 di dj cO cL cM cK bT bU w_
     rintro ⟨aA,aB,aC,az,av,aE,aD,aH,aK,hI⟩
     obtain rfl:=aB dE
     refine d3 (a:=bs t.name) (b:=[40]) (by simp only [List.length_cons,List.length_nil]; omega) ?_
     exact ⟨aA,aB,fun _=>rfl,az,av,aE,aD,aH,aK,hI⟩
    ·intro D aY  x2 di dj cO cL cM cK bT bU w_
     rintro ⟨aA,aB,aC,az,av,aE,aD,aH,aK,hI⟩
     refine bi aT ?_
     exact ⟨aA,aB,aC,fun _=>rfl,av,aE,aD,aH,aK,hI⟩
    ·intro D aY dB x2 di dj cO cL cM cK bT bU w_
     rintro ⟨aA,aB,aC,az,av,aE,aD,aH,aK,hI⟩
     obtain rfl:=az dB
     refine bG hI 0 aR rfl rfl ?_
     exact ⟨aA,aB,aC,az,fun _=>rfl,aE,aD,aH,aK,hI⟩
    ·intro D aY cF x2 di dj cO cL cM cK bT bU w_
     rintro ⟨aA,aB,aC,az,av,aE,aD,aH,aK,hI⟩
     obtain rfl:=av cF
     refine Run.callPure oM nZ hI (ihA g (by omega) t.kids y S _ hy (by omega) hk) fun w_ hI=>?_
     exact ⟨aA,aB,aC,az,av,fun _=>rfl,aD,aH,aK,hI⟩
    ·intro D aY ec g0 x2 di dj cO cL cM cK bT bU w_
     rintro ⟨aA,aB,aC,az,av,aE,aD,aH,aK,hI⟩
     obtain rfl:=aC ec
     obtain rfl:=aE g0
     refine d3 (by simp only [List.length_append,List.length_cons,List.length_nil]; omega) ?_
     exact ⟨aA,aB,aC,az,av,aE,fun _=>rfl,aH,aK,hI⟩
    ·intro D aY cJ x2 di dj cO cL cM cK bT bU w_
     rintro ⟨aA,aB,aC,az,av,aE,aD,aH,aK,hI⟩
     obtain rfl:=aD cJ
     refine d3 (b:=[41]) (by simp only [List.length_append,List.length_cons,List.length_nil]; omega) ?_
     exact ⟨aA,aB,aC,az,av,aE,aD,fun _=>rfl,aK,hI⟩
    ·intro D aY d6 g0 nY tb s0 qY s5 xu wt Ei x2 di dj cO cL cM cK bT bU w_
     rintro ⟨aA,aB,aC,az,av,aE,aD,aH,aK,hI⟩
     obtain rfl:=aH d6
     exact ⟨aA,aB,aC,az,av,aE,aD,aH,fun _=>rfl,hI⟩
    intro D gI fK fL fH fC fB fE fM fJ x2 di dj cO cL cM cK bT bU w_
    rintro ⟨aA,aB,aC,az,av,aE,aD,aH,aK,hI⟩
    obtain rfl:=aK gI
    obtain rfl:=aH fK
    obtain rfl:=aD fL
    obtain rfl:=aE fH
    obtain rfl:=av fC
    obtain rfl:=az fB
    obtain rfl:=aC fE
    obtain rfl:=aB fM
    obtain rfl:=aA fJ
    clear aA aB aC az av aE aD aH aK
    exact done hI (by rw [<- h])
   ·cases h
  ·rename_i hc3
   have e:(decide (t.kind=3) && decide (0<t.kids.length))=false:=by
    rw [Bool.eq_false_iff,ne_eq,Bool.and_eq_true,decide_eq_true_eq,decide_eq_true_eq]; exact hc3
   rw [e]
   refine ba (fun hb=>by cases hb) (fun _=>?_)
   refine bb hI 0 ao rfl rfl ?_
   refine Run.callPure EA F5 hI (DK h0 hp h) fun w' hI=>?_
   exact done hI rfl
theorem Jb:∀ F f,f<F->F<=1000->vK f/\Hl f/\Ea f/\o4 f/\Hv f/\CH f
 | 0,f,h,_=>by omega
 | F+1,f,h,hF=>by
  have ih:=fun g (hg:g<f)=>Jb F g (by omega) (by omega)
  have hT:vK f:=Mw (fun g hg=>(ih g hg).2.1) (fun g hg=>(ih g hg).2.2.1) (fun g hg=>(ih g hg).2.2.2.2.1) (fun g hg=>(ih g hg).2.2.2.2.2)
  exact ⟨hT,LN (by omega) (fun g hg=>(ih g hg).1) (fun g hg=>(ih g hg).2.2.1),L7 fun g hg=>(ih g hg).1,G7 fun g hg=>(ih g hg).1,LF (fun g hg=>(ih g hg).1) (fun g hg=>(ih g hg).2.2.2.1),KS fun g hg=>(ih g hg).2.2.2.1⟩
theorem B0 {f:Nat} (hf:f<=100):vK f:=(Jb (f+1) f (by omega) (by omega)).1
end
end Go.Proofs.YtemmhhdnlbmicaaGreat

/- Copies whose topmost row is still the caller's own, all else published. (printed by gen_top.py out of Copy and CopyC) -/
namespace Go.Proofs.YtemmhhdnlbmicaaGreat
open Go Go.RowKit
theorem Grown.rows {α:Type} {k:Nat} {R:bE->List Value->α->Prop} {R':List Value->α->Prop} {Ls:List bE} {css:List (List Value)} {ys:List α} {S:aF} (h:Grown k R Ls css ys) (hi:Ins S Ls.flatten)
  (hR:∀ L cs x,Ins S L->R L cs x->R' cs x):Rows k R' css ys:=
 ⟨h.hc,h.hk,fun i h1 h2=>hR _ _ _ (Cy hi (by rw [h.hL]; exact h1)) (h.hR i h1 (by rw [h.hL]; exact h1) h2)⟩
abbrev Km (t:T):Value->List Item->aF->Prop:=fun v I' S'=>∃ kv css,v=.agg #[.int .i64 t.kind,.int .i64 t.n,.string t.name,kv]/\I'=[bh kv ab 4 css]/\Rows 4 (RdT S') css t.kids
abbrev KY (c:C):Value->List Item->aF->Prop:=fun v I' S'=>∃ hd kv css,v=.agg (hd++[kv]).toArray/\RdT S' hd c.head/\I'=[bh kv ab 4 css]/\Rows 4 (RdT S') css c.body
section
attribute [local irreducible] Run CondV ah be
theorem Jj:∀ (t:T) (S:aF) (cs:List Value),RdT S cs t->wT t<=1048576->Tri Tryz.prog qg [.agg cs.toArray] [] S (Km t):=by
 intro t S cs h hw
 obtain ⟨k,n,s,ks⟩:=t
 have ih:∀ t∈ks,∀ (S:aF) (cs:List Value),RdT S cs t->wT t<=1048576->Tri Tryz.prog qg [.agg cs.toArray] [] S (FV S t):=fun t _=>fN t
 intro w hI
 obtain ⟨kv,rfl,h1,h2,hs,hks⟩:=RdT.iff.1 h
 simp only [T.name,T.kids,T.kind,T.n] at h1 h2 hs hks ⊢
 simp only [wT] at hw
 refine nQ ?_
 unfold m9
 refine bQ hI fun b1 w' hI=>?_
 refine bH hI bL fun b2 w' hI=>?_
 refine aI hI 0 rfl bD bo rfl ?_
 refine aI hI 0 rfl bF bo rfl ?_
 refine aI hI 0 rfl bp bm rfl ?_
 refine vx ?_
 refine bH hI bL fun b3 w' hI=>?_
 refine bg hI 2 rfl ao rfl rfl (by simp [Value.oneCell']) fun w' hI=>?_
 have hI:=hI.rowNil ab 4
 refine ⟨fun i w'=>∃ (j:Nat) (kvc:Value) (Ls:List bE) (css:List (List Value)),j<=ks.length/\i=.int .i64 j/\Grown 4 TrT Ls css (ks.take j)/\
   Inv w [] (.blk b1 (.cells #[.int .i64 k,.int .i64 n,.string s,kv] ab)::.blk b2 (.cells #[.int .i64 0,.int .i64 0,.string ⟨#[]⟩,.slice none 0 0] ab)::.blk b3 (.cells #[.int .i64 k,.int .i64 n,.string s,kvc] ab)::bh kvc ab 4 css::bO Ls.flatten) S w',
  fun i _=>ks.length - (intOf i).toNat,⟨0,_,[],[],Nat.zero_le _,rfl,Grown.nil _ _,hI⟩,?_⟩
 intro t4 _ _ _ _ _ _ _ _ _ _ _ _ _ _ _ _ _ _ w'
 rintro ⟨j,kvc,Ls,css,hj,rfl,hg,hI⟩
 refine aI hI 0 rfl aT aR rfl ?_
 refine a9 hks ay ?_
 refine bW ?_
 refine bl (fun hji=>?_) (fun hji=>?_)
 ·have hj':j<ks.length:=by omega
  have hjl:(ks.take j).length=j:=by simp; omega
  have hcl:=hg.hc
  have hm:=List.getElem_mem hj'
  have hwm:=jS hm
  obtain ⟨b,o,cap,c,E,fz,rfl,hS,hR⟩:=hks.at_ hj'
  refine ⟨fun D dv cI cX bZ bS bV cf cd cC cc bY w_=>(D 0=true->bY=.pointer (some ⟨b3,3,none⟩))/\(D 1=true->cc=kvc)/\(D 2=true->cC=.pointer (some ⟨b1,3,none⟩))/\(D 3=true->cd=.slice (some ⟨b,o,none⟩) (ks).length cap)/\(D 4=true->cf=.int .i64 j)/\(D 5=true->bV=.pointer (some ⟨b,o+j * 4,none⟩))/\(D 6=true->bS=.agg (bw c (o+j * 4) 4).toArray)/\(D 7=true->True)/\(D 8=true->True)/\(D 9=true->True)/\(D 10=true->dv=.pointer (some ⟨b3,3,none⟩))/\(D 11=true->True)/\∃ M cs7 b8,(D 7=true->bZ=.agg cs7.toArray/\TrT M cs7 (ks)[j])/\(D 8=true->cX=.slice (some ⟨b8,0,none⟩) 1 1)/\(D 8=true->D 7=true)/\(D 9=true->D 8=true)/\(D 11=true->D 9=true)/\(D 11=true->D 1=true)/\Inv w [] (bv (.blk b1 (.cells #[.int .i64 k,.int .i64 n,.string s,.slice (some ⟨b,o,none⟩) ks.length cap] ab)) (.blk b2 (.cells #[.int .i64 0,.int .i64 0,.string ⟨#[]⟩,.slice none 0 0] ab)) (.blk b3 (.cells #[.int .i64 k,.int .i64 n,.string s,kvc] ab)) (.blk b3 (.cells #[.int .i64 k,.int .i64 n,.string s,cI] ab)) (bh kvc ab 4 css) (bh cI ab 4 (css++[cs7])) (bO Ls.flatten) M (.blk b8 (.cells cs7.toArray ab)) (D 7) (D 8) (D 9) (D 11)) S w_,⟨ae,ae,ae,ae,ae,ae,ae,ae,ae,ae,ae,ae,⟨[],[],0,ae,ae,ae,ae,ae,ae,by simpa [bv,bO] using hI.draw⟩⟩,⟨?_,?_,?_,?_,?_,?_,?_,?_,?_,?_,?_,?_,trivial⟩,?_⟩
  ·intro D aY  dv cI cX bZ bS bV cf cd cC cc bY w_
   rintro ⟨aA,aB,aC,az,av,aE,aD,aH,aK,aP,ag,ai,⟨M,cs7,b8,e7,e8,k8,k9,k11,k1,hI⟩⟩
   refine bi aT ?_
   exact ⟨fun _=>rfl,aB,aC,az,av,aE,aD,aH,aK,aP,ag,ai,⟨M,cs7,b8,e7,e8,k8,k9,k11,k1,hI⟩⟩
  ·intro D aY b0 dv cI cX bZ bS bV cf cd cC cc bY w_
   rintro ⟨aA,aB,aC,az,av,aE,aD,aH,aK,aP,ag,ai,⟨M,cs7,b8,e7,e8,k8,k9,k11,k1,hI⟩⟩
   obtain rfl:=aA b0
   have f11:D 11=false:=Bool.eq_false_iff.2 fun h=>by rw [k1 h] at aY; cases aY
   refine bG (b:=b3) hI 2 (c:=(#[.int .i64 k,.int .i64 n,.string s,kvc])) aR (by rw [f11]; rfl) rfl ?_
   have k1:=fun (_:aw D 1 11=true)=>(rfl:aw D 1 1=true)
   exact ⟨aA,fun _=>rfl,aC,az,av,aE,aD,aH,aK,aP,ag,ai,⟨M,cs7,b8,e7,e8,k8,k9,k11,k1,hI⟩⟩
  ·intro D aY  dv cI cX bZ bS bV cf cd cC cc bY w_
   rintro ⟨aA,aB,aC,az,av,aE,aD,aH,aK,aP,ag,ai,⟨M,cs7,b8,e7,e8,k8,k9,k11,k1,hI⟩⟩
   refine bi aT ?_
   exact ⟨aA,aB,fun _=>rfl,az,av,aE,aD,aH,aK,aP,ag,ai,⟨M,cs7,b8,e7,e8,k8,k9,k11,k1,hI⟩⟩
  ·intro D aY ec dv cI cX bZ bS bV cf cd cC cc bY w_
   rintro ⟨aA,aB,aC,az,av,aE,aD,aH,aK,aP,ag,ai,⟨M,cs7,b8,e7,e8,k8,k9,k11,k1,hI⟩⟩
   obtain rfl:=aC ec
   refine bG hI 0 aR rfl rfl ?_
   exact ⟨aA,aB,aC,fun _=>rfl,av,aE,aD,aH,aK,aP,ag,ai,⟨M,cs7,b8,e7,e8,k8,k9,k11,k1,hI⟩⟩
  ·intro D aY  dv cI cX bZ bS bV cf cd cC cc bY w_
   rintro ⟨aA,aB,aC,az,av,aE,aD,aH,aK,aP,ag,ai,⟨M,cs7,b8,e7,e8,k8,k9,k11,k1,hI⟩⟩
   exact ⟨aA,aB,aC,az,fun _=>rfl,aE,aD,aH,aK,aP,ag,ai,⟨M,cs7,b8,e7,e8,k8,k9,k11,k1,hI⟩⟩
  ·intro D aY dB dM dv cI cX bZ bS bV cf cd cC cc bY w_
   rintro ⟨aA,aB,aC,az,av,aE,aD,aH,aK,aP,ag,ai,⟨M,cs7,b8,e7,e8,k8,k9,k11,k1,hI⟩⟩
   obtain rfl:=az dB
   obtain rfl:=av dM
   refine bk ay hj' ?_
   exact ⟨aA,aB,aC,az,av,fun _=>rfl,aD,aH,aK,aP,ag,ai,⟨M,cs7,b8,e7,e8,k8,k9,k11,k1,hI⟩⟩
  ·intro D aY dT dv cI cX bZ bS bV cf cd cC cc bY w_
   rintro ⟨aA,aB,aC,az,av,aE,aD,aH,aK,aP,ag,ai,⟨M,cs7,b8,e7,e8,k8,k9,k11,k1,hI⟩⟩
   obtain rfl:=aE dT
   refine cU ao hR.length (fun j v hj=>by rw [hI.cellS hS]; exact bn rfl j v hj) ?_
   exact ⟨aA,aB,aC,az,av,aE,fun _=>rfl,aH,aK,aP,ag,ai,⟨M,cs7,b8,e7,e8,k8,k9,k11,k1,hI⟩⟩
  ·intro D aY cJ dv cI cX bZ bS bV cf cd cC cc bY w_
   rintro ⟨aA,aB,aC,az,av,aE,aD,aH,aK,aP,ag,ai,⟨M,cs7,b8,e7,e8,k8,k9,k11,k1,hI⟩⟩
   obtain rfl:=aD cJ
   have f8:D 8=false:=Bool.eq_false_iff.2 fun h=>by rw [k8 h] at aY; cases aY
   have f9:D 9=false:=Bool.eq_false_iff.2 fun h=>by rw [k9 h] at f8; cases f8
   have f11:D 11=false:=Bool.eq_false_iff.2 fun h=>by rw [k11 h] at f9; cases f9
   rw [aY,f8,f9,f11] at hI
   refine Run.call0 eZ fc hI (ih _ (List.getElem_mem hj') S _ hR (by omega)) fun v' I' S w_=>?_
   rintro ⟨rfl,cs7,M,rfl,rfl,hT⟩ _ hI
   have e7:aw D 7 7=true->Value.agg cs7.toArray=Value.agg cs7.toArray/\TrT M cs7 (ks)[j]:=fun _=>⟨rfl,hT⟩
   have k8:=fun (_:aw D 7 8=true)=>(rfl:aw D 7 7=true)
   have hI:Inv w [] (bv (.blk b1 (.cells #[.int .i64 k,.int .i64 n,.string s,.slice (some ⟨b,o,none⟩) ks.length cap] ab)) (.blk b2 (.cells #[.int .i64 0,.int .i64 0,.string ⟨#[]⟩,.slice none 0 0] ab)) (.blk b3 (.cells #[.int .i64 k,.int .i64 n,.string s,kvc] ab)) (.blk b3 (.cells #[.int .i64 k,.int .i64 n,.string s,cI] ab)) (bh kvc ab 4 css) (bh cI ab 4 (css++[cs7])) (bO Ls.flatten) M (.blk b8 (.cells cs7.toArray ab)) true (D 8) (D 9) (D 11)) S w_:=by
    rw [f8,f9,f11]
    simpa [bv] using hI
   exact ⟨aA,aB,aC,az,av,aE,aD,fun _=>by first|assumption|trivial,aK,aP,ag,ai,⟨M,cs7,b8,e7,e8,k8,k9,k11,k1,hI⟩⟩
  ·intro D aY d6 dv cI cX bZ bS bV cf cd cC cc bY w_
   rintro ⟨aA,aB,aC,az,av,aE,aD,aH,aK,aP,ag,ai,⟨M,cs7,b8,e7,e8,k8,k9,k11,k1,hI⟩⟩
   have Kh:=aH d6
   have f9:D 9=false:=Bool.eq_false_iff.2 fun h=>by rw [k9 h] at aY; cases aY
   have f11:D 11=false:=Bool.eq_false_iff.2 fun h=>by rw [k11 h] at f9; cases f9
   obtain ⟨q7,hT⟩:=e7 d6
   subst q7
   rw [d6,aY,f9,f11] at hI
   refine eN hI bK (by simp [Value.cells,hT.length]) (by omega) (by omega) fun b8 w_ hI=>?_
   have e7:aw D 8 7=true->Value.agg cs7.toArray=Value.agg cs7.toArray/\TrT M cs7 (ks)[j]:=fun _=>⟨rfl,hT⟩
   have e8:=fun (_:aw D 8 8=true)=>(rfl:Value.slice (some ⟨b8,0,none⟩) 1 1=_)
   have k8:=fun (_:aw D 8 8=true)=>d6
   have k9:=fun (_:aw D 8 9=true)=>(rfl:aw D 8 8=true)
   have hI:Inv w [] (bv (.blk b1 (.cells #[.int .i64 k,.int .i64 n,.string s,.slice (some ⟨b,o,none⟩) ks.length cap] ab)) (.blk b2 (.cells #[.int .i64 0,.int .i64 0,.string ⟨#[]⟩,.slice none 0 0] ab)) (.blk b3 (.cells #[.int .i64 k,.int .i64 n,.string s,kvc] ab)) (.blk b3 (.cells #[.int .i64 k,.int .i64 n,.string s,cI] ab)) (bh kvc ab 4 css) (bh cI ab 4 (css++[cs7])) (bO Ls.flatten) M (.blk b8 (.cells cs7.toArray ab)) (D 7) true (D 9) (D 11)) S w_:=by
    rw [d6,f9,f11]
    simpa [bv,Value.cells] using hI
   exact ⟨aA,aB,aC,az,av,aE,aD,aH,fun _=>by first|assumption|trivial,aP,ag,ai,⟨M,cs7,b8,e7,e8,k8,k9,k11,k1,hI⟩⟩
  ·intro D aY dE gi m7 dv cI cX bZ bS bV cf cd cC cc bY w_
   rintro ⟨aA,aB,aC,az,av,aE,aD,aH,aK,aP,ag,ai,⟨M,cs7,b8,e7,e8,k8,k9,k11,k1,hI⟩⟩
   obtain rfl:=aB dE
   have Mg:=aK gi
   have f11:D 11=false:=Bool.eq_false_iff.2 fun h=>by rw [k11 h] at aY; cases aY
   have q8:=e8 gi
   subst q8
   obtain ⟨_,hT⟩:=e7 m7
   rw [m7,gi,aY,f11] at hI
   have hblk:((bv (.blk b1 (.cells #[.int .i64 k,.int .i64 n,.string s,.slice (some ⟨b,o,none⟩) ks.length cap] ab)) (.blk b2 (.cells #[.int .i64 0,.int .i64 0,.string ⟨#[]⟩,.slice none 0 0] ab)) (.blk b3 (.cells #[.int .i64 k,.int .i64 n,.string s,cc] ab)) (.blk b3 (.cells #[.int .i64 k,.int .i64 n,.string s,cI] ab)) (bh cc ab 4 css) (bh cI ab 4 (css++[cs7])) (bO Ls.flatten) M (.blk b8 (.cells cs7.toArray ab)) true true false false))[4+(bO Ls.flatten).length+(bO M).length]?=some (.blk b8 (.cells cs7.toArray ab)):=by
    have e4:4+(bO Ls.flatten).length+(bO M).length=((bO Ls.flatten).length+(bO M).length)+1+1+1+1:=by omega
    rw [e4]
    simp only [bv,List.getElem?_cons_succ]
    rw [List.getElem?_append_right (by omega),Nat.add_sub_cancel_left,List.getElem?_append_right (Nat.le_refl _),Nat.sub_self]; rfl
   refine fy hI 3 cs7 bK (by omega) rfl (by rw [hT.length]) (m:=1) (o:=0) ?_ hT.one (by omega) (by omega) fun v' w_ hI=>?_
   ·intro i u hi
    rw [hI.cellL hblk,Nat.zero_add]
    simpa using hi
   rw [fS] at hI
   have k9:=fun (_:aw D 9 9=true)=>gi
   have k11:=fun (_:aw D 9 11=true)=>(rfl:aw D 9 9=true)
   have hI:Inv w [] (bv (.blk b1 (.cells #[.int .i64 k,.int .i64 n,.string s,.slice (some ⟨b,o,none⟩) ks.length cap] ab)) (.blk b2 (.cells #[.int .i64 0,.int .i64 0,.string ⟨#[]⟩,.slice none 0 0] ab)) (.blk b3 (.cells #[.int .i64 k,.int .i64 n,.string s,cc] ab)) (.blk b3 (.cells #[.int .i64 k,.int .i64 n,.string s,v'] ab)) (bh cc ab 4 css) (bh v' ab 4 (css++[cs7])) (bO Ls.flatten) M (.blk b8 (.cells cs7.toArray ab)) (D 7) (D 8) true (D 11)) S w_:=by
    rw [m7,gi,f11]
    exact hI
   exact ⟨aA,aB,aC,az,av,aE,aD,aH,aK,fun _=>by first|assumption|trivial,ag,ai,⟨M,cs7,b8,e7,e8,k8,k9,k11,k1,hI⟩⟩
  ·intro D aY b0 il wv DJ yE HN Jw Kw MK MM dv cI cX bZ bS bV cf cd cC cc bY w_
   rintro ⟨aA,aB,aC,az,av,aE,aD,aH,aK,aP,ag,ai,⟨M,cs7,b8,e7,e8,k8,k9,k11,k1,hI⟩⟩
   refine bi aT ?_
   exact ⟨aA,aB,aC,az,av,aE,aD,aH,aK,aP,fun _=>rfl,ai,⟨M,cs7,b8,e7,e8,k8,k9,k11,k1,hI⟩⟩
  ·intro D aY gv fl Kg DW mj Ee yD zv D9 JS lu n6 KF dv cI cX bZ bS bV cf cd cC cc bY w_
   rintro ⟨aA,aB,aC,az,av,aE,aD,aH,aK,aP,ag,ai,⟨M,cs7,b8,e7,e8,k8,k9,k11,k1,hI⟩⟩
   obtain rfl:=ag gv
   have Mt:=aP fl
   rw [lu,n6,fl,aY] at hI
   obtain ⟨va,vn,vc,hv9⟩:=Inv.rowSlice hI 3 rfl
   refine fg hI 2 (n:=1) (by rw [hv9]; rfl) (by decide +kernel) rfl (by simp) (by rw [hv9]; simp [Value.cells,Value.oneCell']) fun w_ hI=>?_
   have hcl9:Value.cells cI=#[cI]:=by rw [hv9]; rfl
   rw [hcl9] at hI
   have k1:=fun (_:aw D 11 11=true)=>mj
   have k11:=fun (_:aw D 11 11=true)=>fl
   have hI:Inv w [] (bv (.blk b1 (.cells #[.int .i64 k,.int .i64 n,.string s,.slice (some ⟨b,o,none⟩) ks.length cap] ab)) (.blk b2 (.cells #[.int .i64 0,.int .i64 0,.string ⟨#[]⟩,.slice none 0 0] ab)) (.blk b3 (.cells #[.int .i64 k,.int .i64 n,.string s,kvc] ab)) (.blk b3 (.cells #[.int .i64 k,.int .i64 n,.string s,cI] ab)) (bh kvc ab 4 css) (bh cI ab 4 (css++[cs7])) (bO Ls.flatten) M (.blk b8 (.cells cs7.toArray ab)) (D 7) (D 8) (D 9) true) S w_:=by
    rw [lu,n6,fl]
    exact hI
   exact ⟨aA,aB,aC,az,av,aE,aD,aH,aK,aP,ag,fun _=>trivial,⟨M,cs7,b8,e7,e8,k8,k9,k11,k1,hI⟩⟩
  intro D fk fw iK gI fK fL fH fC fB fE fM fJ dv cI cX bZ bS bV cf cd cC cc bY w_
  rintro ⟨aA,aB,aC,az,av,aE,aD,aH,aK,aP,ag,ai,⟨M,cs7,b8,e7,e8,k8,k9,k11,k1,hI⟩⟩
  obtain rfl:=ag fw
  have Mt:=aP iK
  have Mg:=aK gI
  have Kh:=aH fK
  obtain rfl:=aD fL
  obtain rfl:=aE fH
  obtain rfl:=av fC
  obtain rfl:=az fB
  obtain rfl:=aC fE
  obtain rfl:=aB fM
  obtain rfl:=aA fJ
  clear aA aB aC az av aE aD aH aK aP ag ai
  obtain ⟨_,hT⟩:=e7 fK
  rw [fK,gI,iK,fk] at hI
  refine bN (by omega) ?_
  refine ⟨⟨j+1,cI,Ls++[M],css++[cs7],hj',rfl,?_,?_⟩,by simp [intOf]; omega⟩
  ·rw [List.take_succ_eq_append_getElem hj']
   exact hg.snoc hT hT.length
  ·simp only [List.flatten_append,List.flatten_cons,List.flatten_nil,List.append_nil,e9]
   refine hI.sub ?_
   simp only [bv]
   rw [<- List.append_assoc]
   exact (((List.sublist_append_left _ _).cons_cons _).cons_cons _).cons_cons _ |>.cons_cons _
 ·have:j=ks.length:=by omega
  subst this
  rw [List.take_length] at hg
  obtain ⟨va,vn,vc,hvk⟩:=hI.rowSlice 3 rfl
  have hv1:kvc.oneCell'=true:=by rw [hvk]; rfl
  refine bb hI 2 ao rfl rfl ?_
  refine bg hI 1 rfl ao rfl rfl ?_ fun w' hI=>?_
  ·intro u hu
   have hu':u∈([.int .i64 k,.int .i64 n,.string s,kvc]:List Value):=hu
   simp at hu'
   rcases hu' with rfl|rfl|rfl|rfl <;> first|rfl|exact hv1
  refine cG hI 1 ao rfl rfl ?_
  have hI:Inv w [] ([bh kvc ab 4 css]++bO Ls.flatten) S w':=hI.sub (List.sublist_append_right [_,_,_] _)
  obtain ⟨S1,hI,hE,hins⟩:=hI.pubExt
  exact ⟨_,_,S1,rfl,hI,hE,_,css,rfl,rfl,hg.rows hins fun _ _ _ hi h=>h.rd hi⟩
theorem Jl {c0:C} {S:aF} {cs:List Value} (h:RdC S cs c0) (hw:wC c0<=1048576):Tri Tryz.prog zi [.agg cs.toArray] [] S (KY c0):=by
 intro w hI
 obtain ⟨hd,ks,rfl,h1,h2⟩:=h
 have h1':=h1
 obtain ⟨kv,rfl,g1,g2,g3,g4⟩:=RdT.iff.1 h1
 unfold wC at hw
 refine nG ?_
 unfold oD
 refine bQ hI fun b1 w' hI=>?_
 refine bH hI fh fun b2 w' hI=>?_
 refine bi df ?_
 refine fe hI 0 [.int .i64 c0.head.kind,.int .i64 c0.head.n,.string c0.head.name,kv] ao rfl rfl K0 ?_
 refine Run.call0 eZ fc hI (fN _ S _ h1' (by omega)) fun v' I' S w'=>?_
 rintro ⟨rfl,cs1,N,rfl,rfl,hT1⟩ _ hI
 obtain ⟨kh,rfl,_⟩:=TrT.iff.1 hT1
 refine iF ?_
 refine bH hI fh fun b3 w' hI=>?_
 have hI:=hI.perm (M:=.blk b1 _::.blk b2 _::.blk b3 _::bO N) (((List.perm_append_comm (l₁:=[_])).cons _).cons _)
 refine bg hI 2 rfl bM rfl rfl ?_ fun w' hI=>?_
 ·intro u hu
  have hu':u∈([.int .i64 c0.head.kind,.int .i64 c0.head.n,.string c0.head.name,kh,.slice none 0 0]:List Value):=hu
  simp at hu'
  have o1:kh.oneCell'=true:=hT1.one kh (by simp)
  rcases hu' with rfl|rfl|rfl|rfl|rfl <;> first|rfl|exact o1
 have hI:=hI.rowNil ab 4
 have hI:=hI.perm (M:=.blk b1 (.cells #[.int .i64 c0.head.kind,.int .i64 c0.head.n,.string c0.head.name,kv,ks] aQ)::.blk b2 (.cells #[.int .i64 0,.int .i64 0,.string ⟨#[]⟩,.slice none 0 0,.slice none 0 0] aQ)::.blk b3 (.cells #[.int .i64 c0.head.kind,.int .i64 c0.head.n,.string c0.head.name,kh,.slice none 0 0] aQ)::bh (.slice none 0 0) ab 4 []::bO N) ((((List.perm_append_comm (l₁:=[_])).cons _).cons _).cons _)
 refine ⟨fun i w'=>∃ (j:Nat) (kvc:Value) (Ls:List bE) (css:List (List Value)),j<=c0.body.length/\i=.int .i64 j/\Grown 4 TrT Ls css (c0.body.take j)/\
   Inv w [] (.blk b1 (.cells #[.int .i64 c0.head.kind,.int .i64 c0.head.n,.string c0.head.name,kv,ks] aQ)::.blk b2 (.cells #[.int .i64 0,.int .i64 0,.string ⟨#[]⟩,.slice none 0 0,.slice none 0 0] aQ)::.blk b3 (.cells #[.int .i64 c0.head.kind,.int .i64 c0.head.n,.string c0.head.name,kh,kvc] aQ)::bh kvc ab 4 css::bO (N::Ls).flatten) S w',
  fun i _=>c0.body.length - (intOf i).toNat,⟨0,_,[],[],Nat.zero_le _,rfl,Grown.nil _ _,by simp only [List.flatten_cons,List.flatten_nil,List.append_nil]; exact hI⟩,?_⟩
 intro t4 _ _ _ _ _ _ _ _ _ _ _ _ _ _ _ _ _ _ w'
 rintro ⟨j,kvc,Ls,css,hj,rfl,hg,hI⟩
 refine aI hI 0 rfl bq aR rfl ?_
 refine a9 h2 ay ?_
 refine bW ?_
 refine bl (fun hji=>?_) (fun hji=>?_)
 ·have hj':j<c0.body.length:=by omega
  have hjl:(c0.body.take j).length=j:=by simp; omega
  have hcl:=hg.hc
  have hm:=List.getElem_mem hj'
  have hwm:=jS hm
  obtain ⟨b,o,cap,c,E,fz,rfl,hS,hR⟩:=h2.at_ hj'
  refine ⟨fun D bZ bS bV cf cd cC cc bY du dw dF w_=>(D 0=true->dF=.pointer (some ⟨b3,4,none⟩))/\(D 1=true->dw=kvc)/\(D 2=true->du=.pointer (some ⟨b1,4,none⟩))/\(D 3=true->bY=.slice (some ⟨b,o,none⟩) (c0.body).length cap)/\(D 4=true->cc=.int .i64 j)/\(D 5=true->cC=.pointer (some ⟨b,o+j * 4,none⟩))/\(D 6=true->cd=.agg (bw c (o+j * 4) 4).toArray)/\(D 7=true->True)/\(D 8=true->True)/\(D 9=true->True)/\(D 10=true->bZ=.pointer (some ⟨b3,4,none⟩))/\(D 11=true->True)/\∃ M cs7 b8,(D 7=true->cf=.agg cs7.toArray/\TrT M cs7 (c0.body)[j])/\(D 8=true->bV=.slice (some ⟨b8,0,none⟩) 1 1)/\(D 8=true->D 7=true)/\(D 9=true->D 8=true)/\(D 11=true->D 9=true)/\(D 11=true->D 1=true)/\Inv w [] (bv (.blk b1 (.cells #[.int .i64 c0.head.kind,.int .i64 c0.head.n,.string c0.head.name,kv,.slice (some ⟨b,o,none⟩) c0.body.length cap] aQ)) (.blk b2 (.cells #[.int .i64 0,.int .i64 0,.string ⟨#[]⟩,.slice none 0 0,.slice none 0 0] aQ)) (.blk b3 (.cells #[.int .i64 c0.head.kind,.int .i64 c0.head.n,.string c0.head.name,kh,kvc] aQ)) (.blk b3 (.cells #[.int .i64 c0.head.kind,.int .i64 c0.head.n,.string c0.head.name,kh,bS] aQ)) (bh kvc ab 4 css) (bh bS ab 4 (css++[cs7])) (bO (N::Ls).flatten) M (.blk b8 (.cells cs7.toArray ab)) (D 7) (D 8) (D 9) (D 11)) S w_,⟨ae,ae,ae,ae,ae,ae,ae,ae,ae,ae,ae,ae,⟨[],[],0,ae,ae,ae,ae,ae,ae,by simpa [bv,bO] using hI.draw⟩⟩,⟨?_,?_,?_,?_,?_,?_,?_,?_,?_,?_,?_,?_,trivial⟩,?_⟩
  ·intro D aY  bZ bS bV cf cd cC cc bY du dw dF w_
   rintro ⟨aA,aB,aC,az,av,aE,aD,aH,aK,aP,ag,ai,⟨M,cs7,b8,e7,e8,k8,k9,k11,k1,hI⟩⟩
   refine bi bq ?_
   exact ⟨fun _=>rfl,aB,aC,az,av,aE,aD,aH,aK,aP,ag,ai,⟨M,cs7,b8,e7,e8,k8,k9,k11,k1,hI⟩⟩
  ·intro D aY b0 bZ bS bV cf cd cC cc bY du dw dF w_
   rintro ⟨aA,aB,aC,az,av,aE,aD,aH,aK,aP,ag,ai,⟨M,cs7,b8,e7,e8,k8,k9,k11,k1,hI⟩⟩
   obtain rfl:=aA b0
   have f11:D 11=false:=Bool.eq_false_iff.2 fun h=>by rw [k1 h] at aY; cases aY
   refine bG (b:=b3) hI 2 (c:=(#[.int .i64 c0.head.kind,.int .i64 c0.head.n,.string c0.head.name,kh,kvc])) aR (by rw [f11]; rfl) rfl ?_
   have k1:=fun (_:aw D 1 11=true)=>(rfl:aw D 1 1=true)
   exact ⟨aA,fun _=>rfl,aC,az,av,aE,aD,aH,aK,aP,ag,ai,⟨M,cs7,b8,e7,e8,k8,k9,k11,k1,hI⟩⟩
  ·intro D aY  bZ bS bV cf cd cC cc bY du dw dF w_
   rintro ⟨aA,aB,aC,az,av,aE,aD,aH,aK,aP,ag,ai,⟨M,cs7,b8,e7,e8,k8,k9,k11,k1,hI⟩⟩
   refine bi bq ?_
   exact ⟨aA,aB,fun _=>rfl,az,av,aE,aD,aH,aK,aP,ag,ai,⟨M,cs7,b8,e7,e8,k8,k9,k11,k1,hI⟩⟩
  ·intro D aY ec bZ bS bV cf cd cC cc bY du dw dF w_
   rintro ⟨aA,aB,aC,az,av,aE,aD,aH,aK,aP,ag,ai,⟨M,cs7,b8,e7,e8,k8,k9,k11,k1,hI⟩⟩
   obtain rfl:=aC ec
   refine bG hI 0 aR rfl rfl ?_
   exact ⟨aA,aB,aC,fun _=>rfl,av,aE,aD,aH,aK,aP,ag,ai,⟨M,cs7,b8,e7,e8,k8,k9,k11,k1,hI⟩⟩
  ·intro D aY  bZ bS bV cf cd cC cc bY du dw dF w_
   rintro ⟨aA,aB,aC,az,av,aE,aD,aH,aK,aP,ag,ai,⟨M,cs7,b8,e7,e8,k8,k9,k11,k1,hI⟩⟩
   exact ⟨aA,aB,aC,az,fun _=>rfl,aE,aD,aH,aK,aP,ag,ai,⟨M,cs7,b8,e7,e8,k8,k9,k11,k1,hI⟩⟩
  ·intro D aY dB dM bZ bS bV cf cd cC cc bY du dw dF w_
   rintro ⟨aA,aB,aC,az,av,aE,aD,aH,aK,aP,ag,ai,⟨M,cs7,b8,e7,e8,k8,k9,k11,k1,hI⟩⟩
   obtain rfl:=az dB
   obtain rfl:=av dM
   refine bk ay hj' ?_
   exact ⟨aA,aB,aC,az,av,fun _=>rfl,aD,aH,aK,aP,ag,ai,⟨M,cs7,b8,e7,e8,k8,k9,k11,k1,hI⟩⟩
  ·intro D aY dT bZ bS bV cf cd cC cc bY du dw dF w_
   rintro ⟨aA,aB,aC,az,av,aE,aD,aH,aK,aP,ag,ai,⟨M,cs7,b8,e7,e8,k8,k9,k11,k1,hI⟩⟩
   obtain rfl:=aE dT
   refine cU ao hR.length (fun j v hj=>by rw [hI.cellS hS]; exact bn rfl j v hj) ?_
   exact ⟨aA,aB,aC,az,av,aE,fun _=>rfl,aH,aK,aP,ag,ai,⟨M,cs7,b8,e7,e8,k8,k9,k11,k1,hI⟩⟩
  ·intro D aY cJ bZ bS bV cf cd cC cc bY du dw dF w_
   rintro ⟨aA,aB,aC,az,av,aE,aD,aH,aK,aP,ag,ai,⟨M,cs7,b8,e7,e8,k8,k9,k11,k1,hI⟩⟩
   obtain rfl:=aD cJ
   have f8:D 8=false:=Bool.eq_false_iff.2 fun h=>by rw [k8 h] at aY; cases aY
   have f9:D 9=false:=Bool.eq_false_iff.2 fun h=>by rw [k9 h] at f8; cases f8
   have f11:D 11=false:=Bool.eq_false_iff.2 fun h=>by rw [k11 h] at f9; cases f9
   rw [aY,f8,f9,f11] at hI
   refine Run.call0 eZ fc hI (fN _ S _ hR (by omega)) fun v' I' S w_=>?_
   rintro ⟨rfl,cs7,M,rfl,rfl,hT⟩ _ hI
   have e7:aw D 7 7=true->Value.agg cs7.toArray=Value.agg cs7.toArray/\TrT M cs7 (c0.body)[j]:=fun _=>⟨rfl,hT⟩
   have k8:=fun (_:aw D 7 8=true)=>(rfl:aw D 7 7=true)
   have hI:Inv w [] (bv (.blk b1 (.cells #[.int .i64 c0.head.kind,.int .i64 c0.head.n,.string c0.head.name,kv,.slice (some ⟨b,o,none⟩) c0.body.length cap] aQ)) (.blk b2 (.cells #[.int .i64 0,.int .i64 0,.string ⟨#[]⟩,.slice none 0 0,.slice none 0 0] aQ)) (.blk b3 (.cells #[.int .i64 c0.head.kind,.int .i64 c0.head.n,.string c0.head.name,kh,kvc] aQ)) (.blk b3 (.cells #[.int .i64 c0.head.kind,.int .i64 c0.head.n,.string c0.head.name,kh,bS] aQ)) (bh kvc ab 4 css) (bh bS ab 4 (css++[cs7])) (bO (N::Ls).flatten) M (.blk b8 (.cells cs7.toArray ab)) true (D 8) (D 9) (D 11)) S w_:=by
    rw [f8,f9,f11]
    simpa [bv] using hI
   exact ⟨aA,aB,aC,az,av,aE,aD,fun _=>by first|assumption|trivial,aK,aP,ag,ai,⟨M,cs7,b8,e7,e8,k8,k9,k11,k1,hI⟩⟩
  ·intro D aY d6 bZ bS bV cf cd cC cc bY du dw dF w_
   rintro ⟨aA,aB,aC,az,av,aE,aD,aH,aK,aP,ag,ai,⟨M,cs7,b8,e7,e8,k8,k9,k11,k1,hI⟩⟩
   have Kh:=aH d6
   have f9:D 9=false:=Bool.eq_false_iff.2 fun h=>by rw [k9 h] at aY; cases aY
   have f11:D 11=false:=Bool.eq_false_iff.2 fun h=>by rw [k11 h] at f9; cases f9
   obtain ⟨q7,hT⟩:=e7 d6
   subst q7
   rw [d6,aY,f9,f11] at hI
   refine eN hI bK (by simp [Value.cells,hT.length]) (by omega) (by omega) fun b8 w_ hI=>?_
   have e7:aw D 8 7=true->Value.agg cs7.toArray=Value.agg cs7.toArray/\TrT M cs7 (c0.body)[j]:=fun _=>⟨rfl,hT⟩
   have e8:=fun (_:aw D 8 8=true)=>(rfl:Value.slice (some ⟨b8,0,none⟩) 1 1=_)
   have k8:=fun (_:aw D 8 8=true)=>d6
   have k9:=fun (_:aw D 8 9=true)=>(rfl:aw D 8 8=true)
   have hI:Inv w [] (bv (.blk b1 (.cells #[.int .i64 c0.head.kind,.int .i64 c0.head.n,.string c0.head.name,kv,.slice (some ⟨b,o,none⟩) c0.body.length cap] aQ)) (.blk b2 (.cells #[.int .i64 0,.int .i64 0,.string ⟨#[]⟩,.slice none 0 0,.slice none 0 0] aQ)) (.blk b3 (.cells #[.int .i64 c0.head.kind,.int .i64 c0.head.n,.string c0.head.name,kh,kvc] aQ)) (.blk b3 (.cells #[.int .i64 c0.head.kind,.int .i64 c0.head.n,.string c0.head.name,kh,bS] aQ)) (bh kvc ab 4 css) (bh bS ab 4 (css++[cs7])) (bO (N::Ls).flatten) M (.blk b8 (.cells cs7.toArray ab)) (D 7) true (D 9) (D 11)) S w_:=by
    rw [d6,f9,f11]
    simpa [bv,Value.cells] using hI
   exact ⟨aA,aB,aC,az,av,aE,aD,aH,fun _=>by first|assumption|trivial,aP,ag,ai,⟨M,cs7,b8,e7,e8,k8,k9,k11,k1,hI⟩⟩
  ·intro D aY dE gi m7 bZ bS bV cf cd cC cc bY du dw dF w_
   rintro ⟨aA,aB,aC,az,av,aE,aD,aH,aK,aP,ag,ai,⟨M,cs7,b8,e7,e8,k8,k9,k11,k1,hI⟩⟩
   obtain rfl:=aB dE
   have Mg:=aK gi
   have f11:D 11=false:=Bool.eq_false_iff.2 fun h=>by rw [k11 h] at aY; cases aY
   have q8:=e8 gi
   subst q8
   obtain ⟨_,hT⟩:=e7 m7
   rw [m7,gi,aY,f11] at hI
   have hblk:((bv (.blk b1 (.cells #[.int .i64 c0.head.kind,.int .i64 c0.head.n,.string c0.head.name,kv,.slice (some ⟨b,o,none⟩) c0.body.length cap] aQ)) (.blk b2 (.cells #[.int .i64 0,.int .i64 0,.string ⟨#[]⟩,.slice none 0 0,.slice none 0 0] aQ)) (.blk b3 (.cells #[.int .i64 c0.head.kind,.int .i64 c0.head.n,.string c0.head.name,kh,dw] aQ)) (.blk b3 (.cells #[.int .i64 c0.head.kind,.int .i64 c0.head.n,.string c0.head.name,kh,bS] aQ)) (bh dw ab 4 css) (bh bS ab 4 (css++[cs7])) (bO (N::Ls).flatten) M (.blk b8 (.cells cs7.toArray ab)) true true false false))[4+(bO (N::Ls).flatten).length+(bO M).length]?=some (.blk b8 (.cells cs7.toArray ab)):=by
    have e4:4+(bO (N::Ls).flatten).length+(bO M).length=((bO (N::Ls).flatten).length+(bO M).length)+1+1+1+1:=by omega
    rw [e4]
    simp only [bv,List.getElem?_cons_succ]
    rw [List.getElem?_append_right (by omega),Nat.add_sub_cancel_left,List.getElem?_append_right (Nat.le_refl _),Nat.sub_self]; rfl
   refine fy hI 3 cs7 bK (by omega) rfl (by rw [hT.length]) (m:=1) (o:=0) ?_ hT.one (by omega) (by omega) fun v' w_ hI=>?_
   ·intro i u hi
    rw [hI.cellL hblk,Nat.zero_add]
    simpa using hi
   rw [fS] at hI
   have k9:=fun (_:aw D 9 9=true)=>gi
   have k11:=fun (_:aw D 9 11=true)=>(rfl:aw D 9 9=true)
   have hI:Inv w [] (bv (.blk b1 (.cells #[.int .i64 c0.head.kind,.int .i64 c0.head.n,.string c0.head.name,kv,.slice (some ⟨b,o,none⟩) c0.body.length cap] aQ)) (.blk b2 (.cells #[.int .i64 0,.int .i64 0,.string ⟨#[]⟩,.slice none 0 0,.slice none 0 0] aQ)) (.blk b3 (.cells #[.int .i64 c0.head.kind,.int .i64 c0.head.n,.string c0.head.name,kh,dw] aQ)) (.blk b3 (.cells #[.int .i64 c0.head.kind,.int .i64 c0.head.n,.string c0.head.name,kh,v'] aQ)) (bh dw ab 4 css) (bh v' ab 4 (css++[cs7])) (bO (N::Ls).flatten) M (.blk b8 (.cells cs7.toArray ab)) (D 7) (D 8) true (D 11)) S w_:=by
    rw [m7,gi,f11]
    exact hI
   exact ⟨aA,aB,aC,az,av,aE,aD,aH,aK,fun _=>by first|assumption|trivial,ag,ai,⟨M,cs7,b8,e7,e8,k8,k9,k11,k1,hI⟩⟩
  ·intro D aY b0 il wv DJ yE HN Jw Kw MK MM bZ bS bV cf cd cC cc bY du dw dF w_
   rintro ⟨aA,aB,aC,az,av,aE,aD,aH,aK,aP,ag,ai,⟨M,cs7,b8,e7,e8,k8,k9,k11,k1,hI⟩⟩
   refine bi bq ?_
   exact ⟨aA,aB,aC,az,av,aE,aD,aH,aK,aP,fun _=>rfl,ai,⟨M,cs7,b8,e7,e8,k8,k9,k11,k1,hI⟩⟩
  ·intro D aY gv fl Kg DW mj Ee yD zv D9 JS lu n6 KF bZ bS bV cf cd cC cc bY du dw dF w_
   rintro ⟨aA,aB,aC,az,av,aE,aD,aH,aK,aP,ag,ai,⟨M,cs7,b8,e7,e8,k8,k9,k11,k1,hI⟩⟩
   obtain rfl:=ag gv
   have Mt:=aP fl
   rw [lu,n6,fl,aY] at hI
   obtain ⟨va,vn,vc,hv9⟩:=Inv.rowSlice hI 3 rfl
   refine fg hI 2 (n:=1) (by rw [hv9]; rfl) (by decide +kernel) rfl (by simp) (by rw [hv9]; simp [Value.cells,Value.oneCell']) fun w_ hI=>?_
   have hcl9:Value.cells bS=#[bS]:=by rw [hv9]; rfl
   rw [hcl9] at hI
   have k1:=fun (_:aw D 11 11=true)=>mj
   have k11:=fun (_:aw D 11 11=true)=>fl
   have hI:Inv w [] (bv (.blk b1 (.cells #[.int .i64 c0.head.kind,.int .i64 c0.head.n,.string c0.head.name,kv,.slice (some ⟨b,o,none⟩) c0.body.length cap] aQ)) (.blk b2 (.cells #[.int .i64 0,.int .i64 0,.string ⟨#[]⟩,.slice none 0 0,.slice none 0 0] aQ)) (.blk b3 (.cells #[.int .i64 c0.head.kind,.int .i64 c0.head.n,.string c0.head.name,kh,kvc] aQ)) (.blk b3 (.cells #[.int .i64 c0.head.kind,.int .i64 c0.head.n,.string c0.head.name,kh,bS] aQ)) (bh kvc ab 4 css) (bh bS ab 4 (css++[cs7])) (bO (N::Ls).flatten) M (.blk b8 (.cells cs7.toArray ab)) (D 7) (D 8) (D 9) true) S w_:=by
    rw [lu,n6,fl]
    exact hI
   exact ⟨aA,aB,aC,az,av,aE,aD,aH,aK,aP,ag,fun _=>trivial,⟨M,cs7,b8,e7,e8,k8,k9,k11,k1,hI⟩⟩
  intro D fk fw iK gI fK fL fH fC fB fE fM fJ bZ bS bV cf cd cC cc bY du dw dF w_
  rintro ⟨aA,aB,aC,az,av,aE,aD,aH,aK,aP,ag,ai,⟨M,cs7,b8,e7,e8,k8,k9,k11,k1,hI⟩⟩
  obtain rfl:=ag fw
  have Mt:=aP iK
  have Mg:=aK gI
  have Kh:=aH fK
  obtain rfl:=aD fL
  obtain rfl:=aE fH
  obtain rfl:=av fC
  obtain rfl:=az fB
  obtain rfl:=aC fE
  obtain rfl:=aB fM
  obtain rfl:=aA fJ
  clear aA aB aC az av aE aD aH aK aP ag ai
  obtain ⟨_,hT⟩:=e7 fK
  rw [fK,gI,iK,fk] at hI
  refine bN (by omega) ?_
  refine ⟨⟨j+1,bS,Ls++[M],css++[cs7],hj',rfl,?_,?_⟩,by simp [intOf]; omega⟩
  ·rw [List.take_succ_eq_append_getElem hj']
   exact hg.snoc hT hT.length
  ·rw [<- List.cons_append,List.flatten_append,e9]
   simp only [List.flatten_cons,List.flatten_nil,List.append_nil]
   refine hI.sub ?_
   simp only [bv,List.flatten_cons]
   rw [<- List.append_assoc]
   exact (((List.sublist_append_left _ _).cons_cons _).cons_cons _).cons_cons _ |>.cons_cons _
 ·have:j=c0.body.length:=by omega
  subst this
  rw [List.take_length] at hg
  obtain ⟨va,vn,vc,hvk⟩:=hI.rowSlice 3 rfl
  have hv1:kvc.oneCell'=true:=by rw [hvk]; rfl
  have o1:kh.oneCell'=true:=hT1.one kh (by simp)
  refine bb hI 2 bM rfl rfl ?_
  refine bg hI 1 rfl bM rfl rfl ?_ fun w' hI=>?_
  ·intro u hu
   have hu':u∈([.int .i64 c0.head.kind,.int .i64 c0.head.n,.string c0.head.name,kh,kvc]:List Value):=hu
   simp at hu'
   rcases hu' with rfl|rfl|rfl|rfl|rfl <;> first|rfl|exact o1|exact hv1
  refine cG hI 1 bM rfl rfl ?_
  have hI:Inv w [] (bh kvc ab 4 css::bO (N::Ls).flatten) S w':=hI.sub (List.sublist_append_right [_,_,_] _)
  have hI:Inv w [] ([bh kvc ab 4 css]++bO (N::Ls).flatten) S w':=hI
  obtain ⟨S1,hI,hE,hins⟩:=hI.pubExt
  rw [List.flatten_cons] at hins
  exact ⟨_,_,S1,rfl,hI,hE,_,kvc,css,rfl,hT1.rd hins.left,rfl,hg.rows hins.right fun _ _ _ hi h=>h.rd hi⟩
end
end Go.Proofs.YtemmhhdnlbmicaaGreat

/- Texts written: spec.l2Text and its kin, l4Text, FormatClause. -/
import Derived.Test.YtemmhhdnlbmicaaGreatZMa4
import Derived.Test.YtemmhhdnlbmicaaGreatZMa2
import Derived.Test.YtemmhhdnlbmicaaGreatZMa3
namespace Go.Proofs.YtemmhhdnlbmicaaGreat
open Go Go.RowKit
theorem Nm:Tryz.prog.underlying Hg=some (.slice D7):=by kernel_rfl
section
variable {w:World} {S:aF}
attribute [local irreducible] Run CondV ag be
theorem kG {t:T} {cs:List Value} (h:RdT S cs t):Pure Tryz.prog KC [.agg cs.toArray] S (.bool (Be t)):=by
 intro w hI
 obtain ⟨kv,rfl,_,_,_,hk⟩:=RdT.iff.1 h
 obtain ⟨ka,kc,rfl,_⟩:=id hk
 refine BA ?_
 unfold xQ;dsimp only
 refine bO hI fun b1 w' hI=>?_
 refine aJ hI 0 rfl bD bn rfl ?_
 by_cases h3:t.kind=3
 ·refine gf h3 ?_
  repeat (first|refine ad ?_|refine af (by decide) ?_|refine ab ?_|refine ai ?_|refine ah ?_)
  refine aJ hI 0 rfl bo bm rfl ?_
  refine cV (b:=st [46]) ?_
  cases hn:decide (t.name=st [46])
  ·repeat (first|refine ad ?_|refine af (by decide) ?_|refine ab ?_|refine ai ?_|refine ah ?_)
   exact done hI (by rw [Be,hn,Bool.false_and,Bool.and_false])
  ·repeat (first|refine ad ?_|refine af (by decide) ?_|refine ab ?_|refine ai ?_|refine ah ?_)
   refine aJ hI 0 rfl aS aQ rfl ?_
   refine gD av ?_
   refine bR ?_
   repeat (first|refine ad ?_|refine af (by decide) ?_|refine ab ?_|refine ai ?_|refine ah ?_)
   refine done hI ?_
   rw [Be,hn,decide_eq_true h3,Bool.true_and,Bool.true_and]
   congr 1
   rw [decide_eq_decide]
   omega
 ·refine fe h3 ?_
  repeat (first|refine ad ?_|refine af (by decide) ?_|refine ab ?_|refine ai ?_|refine ah ?_)
  exact done hI (by rw [Be,decide_eq_false h3,Bool.false_and])
theorem Cl {t:T} {cs:List Value} (h:RdT S cs t):Pure Tryz.prog Mw [.agg cs.toArray] S (.bool (Ni t)):=by
 intro w hI
 obtain ⟨kv,rfl,_,_,_,hk⟩:=RdT.iff.1 h
 obtain ⟨ka,kc,rfl,_⟩:=id hk
 refine Cw ?_
 unfold AV;dsimp only
 refine bO hI fun b1 w' hI=>?_
 refine aJ hI 0 rfl bD bn rfl ?_
 by_cases h3:t.kind=3
 ·refine gf h3 ?_
  repeat (first|refine ad ?_|refine af (by decide) ?_|refine ab ?_|refine ai ?_|refine ah ?_)
  refine aJ hI 0 rfl bo bm rfl ?_
  refine cV (b:=st [91,93]) ?_
  cases hn:decide (t.name=st [91,93])
  ·repeat (first|refine ad ?_|refine af (by decide) ?_|refine ab ?_|refine ai ?_|refine ah ?_)
   exact done hI (by rw [Ni,hn,Bool.false_and,Bool.and_false])
  ·repeat (first|refine ad ?_|refine af (by decide) ?_|refine ab ?_|refine ai ?_|refine ah ?_)
   refine aJ hI 0 rfl aS aQ rfl ?_
   refine gD av ?_
   refine bR ?_
   repeat (first|refine ad ?_|refine af (by decide) ?_|refine ab ?_|refine ai ?_|refine ah ?_)
   refine done hI ?_
   rw [Ni,hn,decide_eq_true h3,Bool.true_and,Bool.true_and]
   congr 1
   rw [decide_eq_decide]
   omega
 ·refine fe h3 ?_
  repeat (first|refine ad ?_|refine af (by decide) ?_|refine ab ?_|refine ai ?_|refine ah ?_)
  exact done hI (by rw [Ni,decide_eq_false h3,Bool.false_and])
theorem nD {t:T} {cs:List Value} (h:RdT S cs t):Pure Tryz.prog HV [.agg cs.toArray] S (.bool (mT t)):=by
 intro w hI
 obtain ⟨kv,rfl,_,_,_,hk⟩:=RdT.iff.1 h
 obtain ⟨ka,kc,rfl,_⟩:=id hk
 refine yW ?_
 unfold uU;dsimp only
 refine bO hI fun b1 w' hI=>?_
 refine aJ hI 0 rfl bD bn rfl ?_
 by_cases h3:t.kind=3
 ·refine gf h3 ?_
  repeat (first|refine ad ?_|refine af (by decide) ?_|refine ab ?_|refine ai ?_|refine ah ?_)
  refine aJ hI 0 rfl aS aQ rfl ?_
  refine gD av ?_
  by_cases hn:t.kids.length=2
  ·refine gf (by omega) ?_
   repeat (first|refine ad ?_|refine af (by decide) ?_|refine ab ?_|refine ai ?_|refine ah ?_)
   refine aJ hI 0 rfl bo bm rfl ?_
   refine Run.callPure fW fV hI (ez _ S) fun w' hI=>?_
   refine dX ?_
   repeat (first|refine ad ?_|refine af (by decide) ?_|refine ab ?_|refine ai ?_|refine ah ?_)
   exact done hI (by rw [mT,decide_eq_true h3,decide_eq_true hn,Bool.true_and,Bool.true_and])
  ·refine fe (by omega) ?_
   repeat (first|refine ad ?_|refine af (by decide) ?_|refine ab ?_|refine ai ?_|refine ah ?_)
   exact done hI (by rw [mT,decide_eq_false hn,Bool.false_and,Bool.and_false])
 ·refine fe h3 ?_
  repeat (first|refine ad ?_|refine af (by decide) ?_|refine ab ?_|refine ai ?_|refine ah ?_)
  exact done hI (by rw [mT,decide_eq_false h3,Bool.false_and])
theorem oM {t:T} {cs:List Value} (h:RdT S cs t):Pure Tryz.prog Io [.agg cs.toArray] S (.bool (yh t)):=by
 intro w hI
 obtain ⟨kv,rfl,_,_,_,hk⟩:=RdT.iff.1 h
 obtain ⟨ka,kc,rfl,_⟩:=id hk
 refine Ar ?_
 unfold xf;dsimp only
 refine bO hI fun b1 w' hI=>?_
 refine aJ hI 0 rfl bD bn rfl ?_
 by_cases h3:t.kind=3
 ·refine gf h3 ?_
  repeat (first|refine ad ?_|refine af (by decide) ?_|refine ab ?_|refine ai ?_|refine ah ?_)
  refine aJ hI 0 rfl aS aQ rfl ?_
  refine gD av ?_
  by_cases hn:t.kids.length=0
  ·refine gf (by omega) ?_
   repeat (first|refine ad ?_|refine af (by decide) ?_|refine ab ?_|refine ai ?_|refine ah ?_)
   refine aJ hI 0 rfl bo bm rfl ?_
   refine Run.callPure fW fV hI (ez _ S) fun w' hI=>?_
   refine dX ?_
   repeat (first|refine ad ?_|refine af (by decide) ?_|refine ab ?_|refine ai ?_|refine ah ?_)
   exact done hI (by rw [yh,decide_eq_true h3,decide_eq_true hn,Bool.true_and,Bool.true_and])
  ·refine fe (by omega) ?_
   repeat (first|refine ad ?_|refine af (by decide) ?_|refine ab ?_|refine ai ?_|refine ah ?_)
   exact done hI (by rw [yh,decide_eq_false hn,Bool.false_and,Bool.and_false])
 ·refine fe h3 ?_
  repeat (first|refine ad ?_|refine af (by decide) ?_|refine ab ?_|refine ai ?_|refine ah ?_)
  exact done hI (by rw [yh,decide_eq_false h3,Bool.false_and])
theorem BI (n:Bs) (hn:n.length<=1000000):Pure Tryz.prog Fh [.string (st n)] S (.string (st (hY n))):=by
 intro w hI
 refine wD ?_
 unfold rp
 refine ⟨fun b w'=>b=.bool (decide (n=[105,115]) || decide (n=[109,111,100]))/\Inv w [] [] S w',?_,?_⟩
 ·refine zu (b:=[105,115]) ?_
  cases h5:decide (n=[105,115])
  ·repeat (first|refine ad ?_|refine af (by decide) ?_|refine ab ?_|refine ai ?_|refine ah ?_)
   refine zu (b:=[109,111,100]) ?_
   repeat (first|refine ad ?_|refine af (by decide) ?_|refine ab ?_|refine ai ?_|refine ah ?_)
   exact ⟨by rw [Bool.false_or],hI⟩
  ·repeat (first|refine ad ?_|refine af (by decide) ?_|refine ab ?_|refine ai ?_|refine ah ?_)
   exact ⟨by rw [Bool.true_or],hI⟩
 intro t8 _ _ _ _ _ w'
 rintro ⟨rfl,hI⟩
 refine ba (fun hb=>?_) (fun hb=>?_)
 ·rw [Bool.or_eq_true,decide_eq_true_eq,decide_eq_true_eq] at hb
  refine ek (a:=[32]) (by simp; omega) ?_
  refine ek (b:=[32]) (by simp; omega) ?_
  exact done hI (by rw [hY,if_pos hb]; rfl)
 ·rw [Bool.or_eq_false_iff,decide_eq_false_iff_not,decide_eq_false_iff_not] at hb
  exact done hI (by rw [hY,if_neg (by rintro (h|h); exact hb.1 h; exact hb.2 h)])
theorem CF (s:Bs) (h0:0<s.length):Pure Tryz.prog GN [.string (st s)] S (.bool (EK s)):=by
 intro w hI
 refine zk ?_
 unfold uD;dsimp only
 have e1:EK s=(sml s 0 || (dig s 0 || (upp s 0 || (sgn s 0 91 || sgn s 0 40)))):=rfl
 have eu:upp s 0=(decide (65<=s[0].toNat) && decide (s[0].toNat<=90)):=ne h0 65 90
 have ea:sgn s 0 91=decide (s[0].toNat=91):=kj h0 91
 have eb:sgn s 0 40=decide (s[0].toNat=40):=kj h0 40
 refine Run.callPure sO sV hI (nw s 0 S) fun w' hI=>?_
 cases hs:sml s 0
 ·repeat (first|refine ad ?_|refine af (by decide) ?_|refine ab ?_|refine ai ?_|refine ah ?_)
  refine Run.callPure jQ jN hI (gX s 0 S) fun w' hI=>?_
  cases hd:dig s 0
  ·repeat (first|refine ad ?_|refine af (by decide) ?_|refine ab ?_|refine ai ?_|refine ah ?_)
   refine eN (i:=0) bi h0 ?_
   rw [hs,hd,Bool.false_or,Bool.false_or] at e1
   by_cases h65:65<=s[0].toNat
   ·refine l4 (by omega) ?_
    repeat (first|refine ad ?_|refine af (by decide) ?_|refine ab ?_|refine ai ?_|refine ah ?_)
    refine eN (i:=0) bi h0 ?_
    by_cases h90:s[0].toNat<=90
    ·refine Bc (by omega) ?_
     repeat (first|refine ad ?_|refine af (by decide) ?_|refine ab ?_|refine ai ?_|refine ah ?_)
     exact done hI (by rw [e1,eu,decide_eq_true h65,decide_eq_true h90]; rfl)
    ·refine M4 (by omega) ?_
     repeat (first|refine ad ?_|refine af (by decide) ?_|refine ab ?_|refine ai ?_|refine ah ?_)
     refine eN (i:=0) bi h0 ?_
     by_cases h91:s[0].toNat=91
     ·refine gf (by omega) ?_
      repeat (first|refine ad ?_|refine af (by decide) ?_|refine ab ?_|refine ai ?_|refine ah ?_)
      exact done hI (by rw [e1,ea,decide_eq_true h91,Bool.true_or,Bool.or_true])
     ·refine fe (by omega) ?_
      repeat (first|refine ad ?_|refine af (by decide) ?_|refine ab ?_|refine ai ?_|refine ah ?_)
      refine eN (i:=0) bi h0 ?_
      refine fe (by omega) ?_
      repeat (first|refine ad ?_|refine af (by decide) ?_|refine ab ?_|refine ai ?_|refine ah ?_)
      exact done hI (by rw [e1,eu,ea,eb,decide_eq_false h90,decide_eq_false h91,decide_eq_false (show ¬ s[0].toNat=40 by omega),Bool.and_false]; rfl)
   ·refine rH (by omega) ?_
    repeat (first|refine ad ?_|refine af (by decide) ?_|refine ab ?_|refine ai ?_|refine ah ?_)
    refine eN (i:=0) bi h0 ?_
    refine fe (by omega) ?_
    repeat (first|refine ad ?_|refine af (by decide) ?_|refine ab ?_|refine ai ?_|refine ah ?_)
    refine eN (i:=0) bi h0 ?_
    by_cases h40:s[0].toNat=40
    ·refine gf (by omega) ?_
     repeat (first|refine ad ?_|refine af (by decide) ?_|refine ab ?_|refine ai ?_|refine ah ?_)
     exact done hI (by rw [e1,eb,decide_eq_true h40,Bool.or_true,Bool.or_true])
    ·refine fe (by omega) ?_
     repeat (first|refine ad ?_|refine af (by decide) ?_|refine ab ?_|refine ai ?_|refine ah ?_)
     exact done hI (by rw [e1,eu,ea,eb,decide_eq_false h65,decide_eq_false (show ¬ s[0].toNat=91 by omega),decide_eq_false h40,Bool.false_and]; rfl)
  ·repeat (first|refine ad ?_|refine af (by decide) ?_|refine ab ?_|refine ai ?_|refine ah ?_)
   exact done hI (by rw [e1,hd,Bool.true_or,Bool.or_true])
 ·repeat (first|refine ad ?_|refine af (by decide) ?_|refine ab ?_|refine ai ?_|refine ah ?_)
  exact done hI (by rw [e1,hs,Bool.true_or])
theorem AH {n:Int} (h:0<=n/\n<=25):Pure Tryz.prog EJ [.int .i64 n] S (.string (st [UInt8.ofNat (65+n.toNat)])):=by
 intro w hI
 refine vl ?_
 unfold rt
 refine pJ kM gz (IntWalk.u8_in _ (by omega)) ?_
 refine PC (c:=((65+n.toNat:Nat):Int)) ?_ ?_
 ·rw [IntWalk.u8_in _ (by omega)]; omega
 refine A5 hI vX Nm gz bi fun w' hI=>?_
 exact done hI rfl
theorem F0:∀ (f n:Nat) (out r:Bs),Cd f n out=some r->out.length<r.length/\r.length<=out.length+f
 | 0,_,_,_,h=>by simp [Cd] at h
 | f+1,n,out,r,h=>by
  rw [Cd] at h
  split at h
  ·have:=F0 f _ _ _ h
   simp only [List.length_cons] at this
   omega
  ·simp only [Option.some.injEq] at h
   subst h
   simp only [List.length_cons]
   omega
theorem s9 {f n:Nat} {r:Bs} (h:Cd f n []=some r) (hn:n<=100000) (hf:f<=1000):Pure Tryz.prog IB [.int .i64 (n:Int)] S (.string (st r)):=by
 intro w hI
 refine BE ?_
 unfold xl
 refine fq (by omega) ?_
 refine ba (fun hb=>by cases hb) (fun _=>?_)
 refine fq (by omega) ?_
 refine ba (fun hb=>by cases hb) (fun _=>?_)
 refine ⟨fun a b w'=>∃ (f' m:Nat) (out:Bs),a=.int .i64 (m:Int)/\b=.string (st out)/\m<=100000/\out.length+f'<=1000/\Cd f' m out=some r/\Inv w [] [] S w',fun a _ _=>(intOf a).toNat,⟨f,n,[],rfl,rfl,hn,by simpa using hf,h,hI⟩,?_⟩
 intro t0 _ _ t3 _ _ _ _ _ _ _ _ _ _ w'
 rintro ⟨f',m,out,rfl,rfl,hm,hof,hd,hI⟩
 cases f' with
 | zero=>simp [Cd] at hd
 | succ g=>
 rw [Cd] at hd
 split at hd
 ·rename_i h9
  refine Jv (by omega) ?_
  refine ba (fun _=>?_) (fun hb=>by cases hb)
  refine KH (a:=m) (b:=10) rfl rfl (by omega) ?_
  refine fu (a:=48) (b:=m % 10) rfl rfl (by omega) ?_
  refine pJ kM gz (IntWalk.u8_in _ (by omega)) ?_
  refine A5 hI vX Nm gz bi fun w' hI=>?_
  refine ek (by simp; omega) ?_
  refine JS (a:=m) (b:=10) rfl rfl (by omega) (by omega) ?_
  refine ⟨⟨g,m / 10,UInt8.ofNat (48+m % 10)::out,rfl,rfl,by omega,by simp only [List.length_cons]; omega,hd,hI⟩,?_⟩
  simp only [intOf,Int.toNat_natCast]
  omega
 ·rename_i h9
  refine lU (by omega) ?_
  refine ba (fun hb=>by cases hb) (fun _=>?_)
  refine fu (a:=48) (b:=m) rfl rfl (by omega) ?_
  refine pJ kM gz (IntWalk.u8_in _ (by omega)) ?_
  refine A5 hI vX Nm gz bi fun w' hI=>?_
  refine ek (by simp; omega) ?_
  simp only [Option.some.injEq] at hd
  exact done hI (by rw [<- hd]; rfl)
theorem GJ {n:Int} {r:Bs} (h:PD n=some r) (hn:-999<=n/\n<=999):Pure Tryz.prog LE [.int .i64 n] S (.string (st r)):=by
 intro w hI
 refine Cq ?_
 unfold Bo
 unfold PD at h
 split at h
 ·rename_i h0
  refine zv h0 ?_
  refine ba (fun _=>?_) (fun hb=>by cases hb)
  refine OY (by omega) ?_
  obtain ⟨m,hm⟩:∃ m:Nat,-n=(m:Int):=⟨(-n).toNat,by omega⟩
  rw [hm] at h ⊢
  rw [Int.toNat_natCast,Option.map_eq_some_iff] at h
  obtain ⟨l,hl,rfl⟩:=h
  have:=F0 _ _ _ _ hl
  refine Run.callPure xU yd hI (s9 hl (by omega) (by omega)) fun w' hI=>?_
  refine ek (a:=[45]) (by simp only [List.length_nil,List.length_cons] at this ⊢; omega) ?_
  exact done hI rfl
 ·rename_i h0
  refine fq h0 ?_
  refine ba (fun hb=>by cases hb) (fun _=>?_)
  obtain ⟨m,rfl⟩:∃ m:Nat,n=(m:Int):=⟨n.toNat,by omega⟩
  rw [Int.toNat_natCast] at h
  refine Run.callPure xU yd hI (s9 h (by omega) (by omega)) fun w' hI=>?_
  exact done hI rfl
theorem EA {t:T} {cs:List Value} {x:Bs} (h:RdT S cs t) (hp:Be t=false) (hx:N1 t=some x):Pure Tryz.prog IM [.agg cs.toArray] S (.string (st x)):=by
 intro w hI
 have h0:=h
 obtain ⟨kv,rfl,_,_,_,hk⟩:=RdT.iff.1 h
 obtain ⟨ka,kc,rfl,_⟩:=id hk
 refine zI ?_
 unfold ya
 unfold N1 at hx
 refine bO hI fun b1 w' hI=>?_
 refine aJ hI 0 rfl bD bn rfl ?_
 split at hx
 ·rename_i h1
  refine gf h1 ?_
  refine ba (fun _=>?_) (fun hb=>by cases hb)
  refine aJ hI 0 rfl bI bn rfl ?_
  split at hx
  ·rename_i h2
   refine Run.callPure C0 B9 hI (AH h2) fun w' hI=>?_
   simp only [Option.some.injEq] at hx
   exact done hI (by rw [<- hx])
  ·cases hx
 ·rename_i h1
  refine fe h1 ?_
  refine ba (fun hb=>by cases hb) (fun _=>?_)
  split at hx
  ·rename_i h2
   refine gf h2 ?_
   refine ba (fun _=>?_) (fun hb=>by cases hb)
   refine aJ hI 0 rfl bI bn rfl ?_
   split at hx
   ·rename_i h3
    refine Run.callPure Jx KO hI (GJ hx h3) fun w' hI=>?_
    exact done hI rfl
   ·cases hx
  ·rename_i h2
   refine fe h2 ?_
   refine ba (fun hb=>by cases hb) (fun _=>?_)
   split at hx
   ·rename_i h3
    simp only [Option.some.injEq] at hx
    refine bb hI 0 al rfl rfl ?_
    refine Run.callPure oT pt hI (kG h0) fun w' hI=>?_
    rw [hp]
    refine ba (fun hb=>by cases hb) (fun _=>?_)
    refine aJ hI 0 rfl bo bm rfl ?_
    refine ⟨fun a b w'=>a=.int .i64 0/\b=.string t.name/\Inv w [] [.blk b1 (.cells #[.int .i64 t.kind,.int .i64 t.n,.string t.name,.slice ka t.kids.length kc] ac)] S w',fun _ _ _=>0,⟨rfl,rfl,hI⟩,?_⟩
    intro t4 _ _ _ _ _ _ _ _ _ _ _ _ t3 _ _ _ _ _ _ _ _ _ w'
    rintro ⟨rfl,rfl,hI⟩
    refine aJ hI 0 rfl aS aQ rfl ?_
    refine gD av ?_
    refine fq (by omega) ?_
    refine ba (fun hb=>by cases hb) (fun _=>?_)
    refine ⟨fun b w'=>b=.string t.name/\Inv w [] [.blk b1 (.cells #[.int .i64 t.kind,.int .i64 t.n,.string t.name,.slice ka t.kids.length kc] ac)] S w',?_,?_⟩
    ·refine aJ hI 0 rfl aS aQ rfl ?_
     refine gD av ?_
     refine lU (by omega) ?_
     refine ba (fun hb=>by cases hb) (fun _=>?_)
     exact ⟨rfl,hI⟩
    intro t3 _ _ _ _ _ _ w'
    rintro ⟨rfl,hI⟩
    exact done hI (by rw [<- hx])
   ·cases hx
end
/- lengths -/
theorem DT:∀ (f:Nat) (l:List T) (out x:Bs),np f l out=some x->out.length<=x.length
 | 0,_,_,_,h=>by simp [np] at h
 | _+1,[],out,x,h=>by simp [np] at h; subst h; exact Nat.le_refl _
 | f+1,t::l,out,x,h=>by
  rw [np] at h
  split at h
  ·cases h
  ·have:=DT f _ _ _ h
   simp only [List.length_append] at this
   omega
def lenOf:Value->Nat
 | .slice _ n _=>n
 | _=>0
def xO (f:Nat):Prop:=∀ (t:T) (x:Bs) (S:aF) (cs:List Value),E8 f t=some x->x.length<=1000000->RdT S cs t->Pure Tryz.prog Jz [.agg cs.toArray] S (.string (st x))
def Kl (f:Nat):Prop:=∀ (t:T) (x:Bs) (S:aF) (cs:List Value),DC f t []=some x->x.length<=1000000->RdT S cs t->Pure Tryz.prog Jd [.agg cs.toArray] S (.string (st x))
def EN (f:Nat):Prop:=∀ (ts:List T) (x:Bs) (S:aF) (u:Value),np f ts []=some x->x.length<=1000000->RdSl S 4 (RdT S) u ts->Pure Tryz.prog Kp [u] S (.string (st x))
def p7 (f:Nat):Prop:=∀ (t:T) (l:Int) (x:Bs) (S:aF) (cs:List Value),pR f t l=some x->x.length<=1000000->RdT S cs t->Pure Tryz.prog C2 [.agg cs.toArray,.int .i64 l] S (.string (st x))
def Ja (f:Nat):Prop:=∀ (t:T) (l:Int) (x:Bs) (S:aF) (cs:List Value),Lr f t l=some x->x.length<=1000000->RdT S cs t->Pure Tryz.prog JZ [.agg cs.toArray,.int .i64 l] S (.string (st x))
def FE (f:Nat):Prop:=∀ (t:T) (l:Int) (x:Bs) (S:aF) (cs:List Value),E9 f t l=some x->x.length<=1000000->RdT S cs t->Pure Tryz.prog Gd [.agg cs.toArray,.int .i64 l] S (.string (st x))
section
attribute [local irreducible] Run CondV ag be
theorem OG {f:Nat} (ih:∀ g,g<f->xO g):EN f:=by
 intro ts x S u h hx hu w hI
 refine zW ?_
 unfold xV
 refine ⟨fun a b w'=>∃ (f' j:Nat) (out acc:Bs),f'<=f/\j<=ts.length/\a=.int .i64 (j:Int)/\b=.string (st out)/\acc=out++(if 0<j/\j<ts.length then [44] else [])/\np f' (ts.drop j) acc=some x/\Inv w [] [] S w',
  fun a _ _=>ts.length - (intOf a).toNat,⟨f,0,[],[],Nat.le_refl _,Nat.zero_le _,rfl,rfl,by simp,h,hI⟩,?_⟩
 intro t4 _ _ _ _ _ _ _ _ _ t3 _ _ _ _ _ _ _ _ w'
 rintro ⟨f',j,out,acc,hf',hj,rfl,rfl,hacc,ha,hI⟩
 cases f' with
 | zero=>simp [np] at ha
 | succ g=>
 refine a9 hu av ?_
 refine bU ?_
 refine bk (fun hji=>?_) (fun hji=>?_)
 ·have hj':j<ts.length:=by omega
  rw [List.drop_eq_getElem_cons hj',np] at ha
  split at ha
  ·cases ha
  rename_i y hy
  have hlen:=DT _ _ _ _ ha
  simp only [List.length_append] at hlen
  refine ⟨fun b w'=>b=.string (st acc)/\Inv w [] [] S w',?_,?_⟩
  ·refine dX ?_
   refine bk (fun h0=>?_) (fun h0=>?_)
   ·rw [if_pos (by omega)] at hacc
    refine ek (b:=[44]) (by rw [hacc,List.length_append] at hlen; simp only [List.length_cons,List.length_nil] at hlen ⊢; omega) ?_
    exact ⟨by rw [hacc],hI⟩
   ·rw [if_neg (by omega),List.append_nil] at hacc
    exact ⟨by rw [hacc],hI⟩
  intro t3 _ _ _ _ w'
  rintro ⟨rfl,hI⟩
  refine ec hI hu av al hj' (fun _ _=>RdT.length) fun cs hcs=>?_
  refine Run.callPure gB gu hI (ih g (by omega) _ y S cs hy (by omega) hcs) fun w' hI=>?_
  refine ek (by omega) ?_
  refine bP (by have:=hu.le; simp only [maxLen] at this; omega) ?_
  refine ⟨⟨g,j+1,acc++y,_,by omega,hj',rfl,rfl,rfl,?_,hI⟩,by simp only [intOf,Int.toNat_natCast]; omega⟩
  have e:(if ts.drop (j+1)=[] then [] else [44]:Bs)=if 0<j+1/\j+1<ts.length then [44] else []:=by
   by_cases h1:j+1<ts.length
   ·rw [if_neg (fun h2=>by rw [List.drop_eq_nil_iff] at h2; omega),if_pos (by omega)]
   ·rw [if_pos (List.drop_eq_nil_of_le (by omega)),if_neg (by omega)]
  rw [<- e]
  exact ha
 ·have:j=ts.length:=by omega
  subst this
  rw [List.drop_length,np] at ha
  simp only [Option.some.injEq] at ha
  rw [if_neg (by omega),List.append_nil] at hacc
  exact done hI (by rw [<- ha,hacc])
theorem Jf {f:Nat} (ih:∀ g,g<f->xO g):p7 f:=by
 intro t l x S cs h hx hc w hI
 cases f with
 | zero=>simp [pR] at h
 | succ g=>
 rw [pR] at h
 split at h
 ·cases h
 rename_i y hy
 simp only [Option.some.injEq] at h
 have h0:=hc
 obtain ⟨kv,rfl,_,_,_,hk⟩:=RdT.iff.1 hc
 obtain ⟨ka,kc,rfl,_⟩:=id hk
 have hyx:y.length<=1000000/\y.length+2<=9000000:=by
  have:y.length<=x.length:=by
   rw [<- h]; split
   ·simp; omega
   ·omega
  omega
 refine sU ?_
 unfold oy
 refine bO hI fun b1 w' hI=>?_
 refine ⟨fun b w'=>b=.bool (mT t && decide (l<dp t.name))/\Inv w [] [.blk b1 (.cells #[.int .i64 t.kind,.int .i64 t.n,.string t.name,.slice ka t.kids.length kc] ac)] S w',?_,?_⟩
 ·refine bb hI 0 al rfl rfl ?_
  refine Run.callPure sY uu hI (nD h0) fun w' hI=>?_
  cases hf:mT t
  ·repeat (first|refine ad ?_|refine af (by decide) ?_|refine ab ?_|refine ai ?_|refine ah ?_)
   exact ⟨by rw [Bool.false_and],hI⟩
  ·repeat (first|refine ad ?_|refine af (by decide) ?_|refine ab ?_|refine ai ?_|refine ah ?_)
   refine aJ hI 0 rfl bo bm rfl ?_
   refine Run.callPure fW fV hI (ez _ S) fun w' hI=>?_
   refine dX ?_
   repeat (first|refine ad ?_|refine af (by decide) ?_|refine ab ?_|refine ai ?_|refine ah ?_)
   exact ⟨by rw [Bool.true_and],hI⟩
 intro t13 _ _ _ _ _ _ _ _ w'
 rintro ⟨rfl,hI⟩
 refine ba (fun hb=>?_) (fun hb=>?_)
 ·rw [Bool.and_eq_true,decide_eq_true_eq] at hb
  rw [if_pos hb] at h
  refine bb hI 0 al rfl rfl ?_
  refine Run.callPure gB gu hI (ih g (by omega) t y S _ hy hyx.1 h0) fun w' hI=>?_
  refine ek (a:=[40]) (by simp only [List.length_cons,List.length_nil]; omega) ?_
  refine ek (b:=[41]) (by simp only [List.length_append,List.length_cons,List.length_nil]; omega) ?_
  exact done hI (by rw [<- h])
 ·rw [if_neg (fun hh=>by rw [Bool.and_eq_false_iff,decide_eq_false_iff_not] at hb; rcases hb with hb|hb; rw [hh.1] at hb; cases hb; exact hb hh.2)] at h
  refine bb hI 0 al rfl rfl ?_
  refine Run.callPure gB gu hI (ih g (by omega) t y S _ hy hyx.1 h0) fun w' hI=>?_
  exact done hI (by rw [<- h])
theorem OT {f:Nat} (ih:∀ g,g<f->xO g) (ihB:∀ g,g<f->p7 g):Ja f:=by
 intro t l x S cs h hx hc w hI
 cases f with
 | zero=>simp [Lr] at h
 | succ g=>
 rw [Lr] at h
 have h0:=hc
 obtain ⟨kv,rfl,_,_,_,hk⟩:=RdT.iff.1 hc
 obtain ⟨ka,kc,rfl,_⟩:=id hk
 refine BC ?_
 unfold xm
 refine bO hI fun b1 w' hI=>?_
 refine bb hI 0 al rfl rfl ?_
 refine Run.callPure xS yg hI (oM h0) fun w' hI=>?_
 split at h
 ·rename_i hs
  split at h
  ·cases h
  rename_i y hy
  simp only [Option.some.injEq] at h
  have hyx:y.length+2=x.length:=by rw [<- h]; simp only [List.length_append,List.length_cons,List.length_nil]; omega
  rw [hs]
  refine ba (fun _=>?_) (fun hb=>by cases hb)
  refine bb hI 0 al rfl rfl ?_
  refine Run.callPure gB gu hI (ih g (by omega) t y S _ hy (by omega) h0) fun w' hI=>?_
  refine ek (a:=[40]) (by simp only [List.length_cons,List.length_nil]; omega) ?_
  refine ek (b:=[41]) (by simp only [List.length_append,List.length_cons,List.length_nil]; omega) ?_
  exact done hI (by rw [<- h])
 ·rename_i hs
  rw [Bool.eq_false_iff.2 hs]
  refine ba (fun hb=>by cases hb) (fun _=>?_)
  refine bb hI 0 al rfl rfl ?_
  refine Run.callPure ot oQ hI (ihB g (by omega) t l x S _ h hx h0) fun w' hI=>?_
  exact done hI rfl
theorem NJ {f:Nat} (ihB:∀ g,g<f->p7 g):FE f:=by
 intro t l x S cs h hx hc w hI
 cases f with
 | zero=>simp [E9] at h
 | succ g=>
 rw [E9] at h
 split at h
 ·cases h
 rename_i y hy
 split at h
 ·cases h
 rename_i hne
 simp only [Option.some.injEq] at h
 have hy0:0<y.length:=by
  cases y with
  | nil=>exact absurd rfl hne
  | cons a l=>simp
 have hyx:y.length<=1000000:=by
  have:y.length<=x.length:=by
   rw [<- h]; split
   ·simp; omega
   ·omega
  omega
 have h0:=hc
 obtain ⟨kv,rfl,_,_,_,hk⟩:=RdT.iff.1 hc
 obtain ⟨ka,kc,rfl,_⟩:=id hk
 refine yx ?_
 unfold tm
 refine bO hI fun b1 w' hI=>?_
 refine bb hI 0 al rfl rfl ?_
 refine Run.callPure ot oQ hI (ihB g (by omega) t l y S _ hy hyx h0) fun w' hI=>?_
 refine ⟨fun b w'=>b=.bool (yh t || !EK y)/\Inv w [] [.blk b1 (.cells #[.int .i64 t.kind,.int .i64 t.n,.string t.name,.slice ka t.kids.length kc] ac)] S w',?_,?_⟩
 ·refine bb hI 0 al rfl rfl ?_
  refine Run.callPure xS yg hI (oM h0) fun w' hI=>?_
  cases hs:yh t
  ·repeat (first|refine ad ?_|refine af (by decide) ?_|refine ab ?_|refine ai ?_|refine ah ?_)
   refine Run.callPure ET FY hI (CF y hy0) fun w' hI=>?_
   refine cc ?_
   repeat (first|refine ad ?_|refine af (by decide) ?_|refine ab ?_|refine ai ?_|refine ah ?_)
   exact ⟨by rw [Bool.false_or],hI⟩
  ·repeat (first|refine ad ?_|refine af (by decide) ?_|refine ab ?_|refine ai ?_|refine ah ?_)
   exact ⟨by rw [Bool.true_or],hI⟩
 intro t15 _ _ _ _ _ _ w'
 rintro ⟨rfl,hI⟩
 refine ba (fun hb=>?_) (fun hb=>?_)
 ·rw [Bool.or_eq_true,Bool.not_eq_true'] at hb
  rw [if_pos hb] at h
  refine ek (a:=[40]) (by simp only [List.length_cons,List.length_nil]; omega) ?_
  refine ek (b:=[41]) (by simp only [List.length_append,List.length_cons,List.length_nil]; omega) ?_
  exact done hI (by rw [<- h])
 ·rw [if_neg (fun hh=>by rw [<- Bool.not_eq_true',<- Bool.or_eq_true,hb] at hh; cases hh)] at h
  exact done hI (by rw [<- h])
theorem OQ {f:Nat} (hf:f<=100000) (ih:∀ g,g<f->xO g) (ihA:∀ g,g<f->EN g):Kl f:=by
 intro t x S cs h hx hc w hI
 obtain ⟨kv,rfl,_,_,_,hk⟩:=RdT.iff.1 hc
 refine BM ?_
 unfold xJ
 refine bO hI fun b1 w' hI=>?_
 refine fk hI bM fun v0 w' hI=>?_
 refine ⟨fun a w'=>∃ (f':Nat) (t':T) (items:List T) (ds:List Value) (css:List (List Value)),f'+items.length=f/\DC f' t' items=some x/\RdT S ds t'/\Rows 4 (RdT S) css items/\(∃ p m,a=.slice p items.length m)/\Inv w [] [.blk b1 (.cells ds.toArray ac),bj a ac 4 css] S w',
  fun a _=>f+1 - lenOf a,⟨f,t,[],_,[],by simp,h,hc,Rows.nil _ _,?_,hI⟩,?_⟩
 ·have hI2:Inv w [] ([Item.blk b1 (.cells #[.int .i64 t.kind,.int .i64 t.n,.string t.name,kv] ac)]++[bj v0 ac 4 []]) S w':=hI
  obtain ⟨S1,_,hrd,_⟩:=Inv.lendExt hI2
  obtain ⟨p,m,e,_⟩:=RowRd.rows (Rows.nil 4 (RdT S)) hrd
  exact ⟨p,m,e⟩
 clear h hc hk hI
 intro _ _ _ _ t3 _ _ _ _ _ _ _ _ _ w'
 rintro ⟨f',t',items,ds,css,hfl,hl,hd,hR,⟨p,m,rfl⟩,hI⟩
 have hd0:=hd
 obtain ⟨kd,rfl,_,_,_,hk⟩:=RdT.iff.1 hd
 have hcl:=hR.hc
 cases f' with
 | zero=>simp [DC] at hl
 | succ g=>
 rw [DC] at hl
 refine bb hI 0 al rfl rfl ?_
 refine Run.callPure oT pt hI (kG hd0) fun w' hI=>?_
 split at hl
 ·rename_i hp
  split at hl
  ·rename_i a b hab
   rw [hp]
   refine ba (fun _=>?_) (fun hb=>by cases hb)
   rw [hab] at hk
   refine aJ hI 0 rfl aS aQ rfl ?_
   refine ec (i:=0) hI hk av al (by simp) (fun _ _=>RdT.length) fun es hes=>?_
   rw [List.getElem_cons_zero] at hes
   refine gG (css:=css) hI 1 es bM (by omega) (by omega) rfl hes.length hes.one (by omega) (by omega) fun v' w' hI=>?_
   refine aJ hI 0 rfl aS aQ rfl ?_
   refine ec (i:=1) hI hk av al (by simp) (fun _ _=>RdT.length) fun gs hgs=>?_
   rw [List.getElem_cons_succ,List.getElem_cons_zero] at hgs
   have hg1:=hgs.length
   refine bf hI 0 rfl al (by simpa using hg1) rfl (by simpa using hgs.one) fun w' hI=>?_
   have hR2:=hR.snoc hes hes.length
   have hI2:Inv w [] ([Item.blk b1 (.cells gs.toArray ac)]++[bj v' ac 4 (css++[es])]) S w':=hI
   obtain ⟨S1,hE1,hrd,_⟩:=Inv.lendExt hI2
   obtain ⟨p',m',e',_⟩:=RowRd.rows hR2 hrd
   refine ⟨⟨g,b,items++[a],gs,css++[es],by rw [List.length_append]; simp only [List.length_cons,List.length_nil]; omega,hl,hgs,hR2,⟨p',m',e'⟩,hI⟩,?_⟩
   rw [e']
   simp only [lenOf,List.length_append,List.length_cons,List.length_nil]
   omega
  ·cases hl
 ·rename_i hp
  rw [Bool.eq_false_iff.2 hp]
  refine ba (fun hb=>by cases hb) (fun _=>?_)
  split at hl
  ·cases hl
  rename_i y hy
  refine bb hI 0 al rfl rfl ?_
  refine Run.callPure JM JR hI (Cl hd0) fun w' hI=>?_
  have hI2:Inv w [] ([Item.blk b1 (.cells #[.int .i64 t'.kind,.int .i64 t'.n,.string t'.name,kd] ac)]++[bj (.slice p items.length m) ac 4 css]) S w':=hI
  obtain ⟨S1,hE1,hrd,hI⟩:=Inv.lendExt hI2
  have hrs:=RowRd.rows (hR.monoR fun _ _ h=>RdT.mono hE1.1 h) hrd
  have hd1:=RdT.mono hE1.1 hd0
  split at hl
  ·rename_i hn
   simp only [Option.some.injEq] at hl
   have hyx:y.length+2=x.length:=by rw [<- hl]; simp only [List.length_append,List.length_cons,List.length_nil]; omega
   rw [hn]
   refine ba (fun _=>?_) (fun hb=>by cases hb)
   refine Run.callPure pY oo hI (ihA g (by omega) items y S1 _ hy (by omega) hrs) fun w' hI=>?_
   refine ek (a:=[91]) (by simp only [List.length_cons,List.length_nil]; omega) ?_
   refine ek (b:=[93]) (by simp only [List.length_append,List.length_cons,List.length_nil]; omega) ?_
   exact gQ hI hE1.1 (by rw [<- hl])
  ·rename_i hn
   split at hl
   ·cases hl
   rename_i z hz
   simp only [Option.some.injEq] at hl
   have hyx:y.length+z.length+3=x.length:=by rw [<- hl]; simp only [List.length_append,List.length_cons,List.length_nil]; omega
   rw [Bool.eq_false_iff.2 hn]
   refine ba (fun hb=>by cases hb) (fun _=>?_)
   refine ⟨fun D x2 ed dP dA cT dg b0 bT bX w_=>(D 0=true->bX=.slice p items.length m)/\(D 1=true->bT=.string (st y))/\(D 2=true->b0=.string (st ([91]++y)))/\(D 3=true->dg=.string (st ([91]++y++[124])))/\(D 4=true->cT=.agg #[.int .i64 t'.kind,.int .i64 t'.n,.string t'.name,kd])/\(D 5=true->dA=.string (st z))/\(D 6=true->dP=.string (st ([91]++y++[124]++z)))/\(D 7=true->ed=.string (st ([91]++y++[124]++z++[93])))/\(D 8=true->x2=.string (st ([91]++y++[124]++z++[93])))/\Inv w [] [.blk b1 (.cells #[.int .i64 t'.kind,.int .i64 t'.n,.string t'.name,kd] ac)] S1 w_,⟨ae,ae,ae,ae,ae,ae,ae,ae,ae,hI.draw⟩,⟨?_,?_,?_,?_,?_,?_,?_,?_,?_,trivial⟩,?_⟩
   ·intro D aY  x2 ed dP dA cT dg b0 bT bX w_
    rintro ⟨az,ay,aA,aB,aw,aD,aE,aI,aL,hI⟩
    exact ⟨fun _=>rfl,ay,aA,aB,aw,aD,aE,aI,aL,hI⟩
   ·intro D aY ce x2 ed dP dA cT dg b0 bT bX w_
    rintro ⟨az,ay,aA,aB,aw,aD,aE,aI,aL,hI⟩
    obtain rfl:=az ce
    refine Run.callPure pY oo hI (ihA g (by omega) items y S1 _ hy (by omega) hrs) fun w_ hI=>?_
    exact ⟨az,fun _=>rfl,aA,aB,aw,aD,aE,aI,aL,hI⟩
   ·intro D aY dI x2 ed dP dA cT dg b0 bT bX w_
    rintro ⟨az,ay,aA,aB,aw,aD,aE,aI,aL,hI⟩
    obtain rfl:=ay dI
    refine ek (a:=[91]) (by simp only [List.length_cons,List.length_nil]; omega) ?_
    exact ⟨az,ay,fun _=>rfl,aB,aw,aD,aE,aI,aL,hI⟩
   ·intro D aY ev x2 ed dP dA cT dg b0 bT bX w_
    rintro ⟨az,ay,aA,aB,aw,aD,aE,aI,aL,hI⟩
    obtain rfl:=aA ev
    refine ek (b:=[124]) (by simp only [List.length_append,List.length_cons,List.length_nil]; omega) ?_
    exact ⟨az,ay,aA,fun _=>rfl,aw,aD,aE,aI,aL,hI⟩
   ·intro D aY  x2 ed dP dA cT dg b0 bT bX w_
    rintro ⟨az,ay,aA,aB,aw,aD,aE,aI,aL,hI⟩
    refine bb hI 0 al rfl rfl ?_
    exact ⟨az,ay,aA,aB,fun _=>rfl,aD,aE,aI,aL,hI⟩
   ·intro D aY cK iL x2 ed dP dA cT dg b0 bT bX w_
    rintro ⟨az,ay,aA,aB,aw,aD,aE,aI,aL,hI⟩
    obtain rfl:=aw cK
    refine Run.callPure gB gu hI (ih g (by omega) t' z S1 _ hz (by omega) hd1) fun w_ hI=>?_
    exact ⟨az,ay,aA,aB,aw,fun _=>rfl,aE,aI,aL,hI⟩
   ·intro D aY dF jk x2 ed dP dA cT dg b0 bT bX w_
    rintro ⟨az,ay,aA,aB,aw,aD,aE,aI,aL,hI⟩
    obtain rfl:=aB dF
    obtain rfl:=aD jk
    refine ek (by simp only [List.length_append,List.length_cons,List.length_nil]; omega) ?_
    exact ⟨az,ay,aA,aB,aw,aD,fun _=>rfl,aI,aL,hI⟩
   ·intro D aY c9 x2 ed dP dA cT dg b0 bT bX w_
    rintro ⟨az,ay,aA,aB,aw,aD,aE,aI,aL,hI⟩
    obtain rfl:=aE c9
    refine ek (b:=[93]) (by simp only [List.length_append,List.length_cons,List.length_nil]; omega) ?_
    exact ⟨az,ay,aA,aB,aw,aD,aE,fun _=>rfl,aL,hI⟩
   ·intro D aY el jk qK wn wF wJ vh Bl AA FC x2 ed dP dA cT dg b0 bT bX w_
    rintro ⟨az,ay,aA,aB,aw,aD,aE,aI,aL,hI⟩
    obtain rfl:=aI el
    exact ⟨az,ay,aA,aB,aw,aD,aE,aI,fun _=>rfl,hI⟩
   intro D gN f0 f1 fM fF fI fK fL fN x2 ed dP dA cT dg b0 bT bX w_
   rintro ⟨az,ay,aA,aB,aw,aD,aE,aI,aL,hI⟩
   obtain rfl:=aL gN
   obtain rfl:=aI f0
   obtain rfl:=aE f1
   obtain rfl:=aD fM
   obtain rfl:=aw fF
   obtain rfl:=aB fI
   obtain rfl:=aA fK
   obtain rfl:=ay fL
   obtain rfl:=az fN
   clear az ay aA aB aw aD aE aI aL
   exact gQ hI hE1.1 (by rw [<- hl])
theorem Pw {f:Nat} (ihL:∀ g,g<f->Kl g) (ihA:∀ g,g<f->EN g) (ihF:∀ g,g<f->Ja g) (ihR:∀ g,g<f->FE g):xO f:=by
 intro t x S cs h hx hc w hI
 cases f with
 | zero=>simp [E8] at h
 | succ g=>
 rw [E8] at h
 have h0:=hc
 obtain ⟨kv,rfl,_,_,_,hk⟩:=RdT.iff.1 hc
 refine BQ ?_
 unfold yc
 refine bO hI fun b1 w' hI=>?_
 obtain ⟨B1,hB1⟩:∃ B1,B1=Item.blk b1 (.cells #[.int .i64 t.kind,.int .i64 t.n,.string t.name,kv] ac):=⟨_,rfl⟩
 refine bb hI 0 al rfl rfl ?_
 refine Run.callPure oT pt hI (kG h0) fun w' hI=>?_
 split at h
 ·rename_i hp
  rw [hp]
  refine ba (fun _=>?_) (fun hb=>by cases hb)
  refine bb hI 0 al rfl rfl ?_
  refine Run.callPure Ic Hx hI (ihL g (by omega) t x S _ h hx h0) fun w' hI=>?_
  exact done hI rfl
 rename_i hp
 have hp:=Bool.eq_false_iff.2 hp
 rw [hp]
 refine ba (fun hb=>by cases hb) (fun _=>?_)
 refine bb hI 0 al rfl rfl ?_
 refine Run.callPure sY uu hI (nD h0) fun w' hI=>?_
 split at h
 ·rename_i hf
  rw [hf]
  refine ba (fun _=>?_) (fun hb=>by cases hb)
  split at h
  ·rename_i a b hab
   obtain ⟨lv,hlv⟩:∃ lv,lv=dp t.name:=⟨_,rfl⟩
   rw [<- hlv] at h
   have hlr:1<=lv/\lv<=3:=by
    have h1:0<dp t.name:=by
     unfold mT at hf
     simp only [Bool.and_eq_true,decide_eq_true_eq] at hf
     exact hf.2.2
    have h2:dp t.name<=3:=by
     unfold dp
     split
     ·omega
     ·split
      ·omega
      ·split <;> omega
    omega
   split at h
   ·rename_i y z hy hz
    simp only [Option.some.injEq] at h
    have hlen:y.length+(hY (bs t.name)).length+z.length=x.length:=by rw [<- h]; simp only [List.length_append]
    have hsp:(bs t.name).length<=(hY (bs t.name)).length:=by
     unfold hY
     split
     ·simp; omega
     ·omega
    rw [hab] at hk
    obtain ⟨b2,o2,cap2,c2,E2,fz2,rfl,hS,hRa⟩:=hk.at_ (i:=0) (by simp)
    obtain ⟨b2',o2',cap2',c2',E2',fz2',hsl,hS',hRb⟩:=hk.at_ (i:=1) (by simp)
    cases hsl
    rw [hS] at hS'
    cases hS'
    rw [List.getElem_cons_zero] at hRa
    rw [List.getElem_cons_succ,List.getElem_cons_zero] at hRb
    refine aJ hI 0 rfl bo bm rfl ?_
    refine Run.callPure fW fV hI (ez _ S) fun w' hI=>?_
    rw [<- hlv]
    have hI:Inv w [] [B1] S w':=by rw [hB1]; exact hI
    refine ⟨fun v w'=>v=.int .i64 (if lv=3 then 2 else lv)/\Inv w [] [B1] S w',?_,?_⟩
    ·refine bR ?_
     refine bk (fun h3=>⟨by rw [if_pos h3],hI⟩) (fun h3=>⟨by rw [if_neg h3],hI⟩)
    intro t4 _ _ w'
    rintro ⟨rfl,hI⟩
    subst hB1
    skip
    refine ⟨fun D x2 dZ d4 ii ex eR ed dP dA cT dg b0 bT bX ci cf cF cd bZ w_=>(D 0=true->bZ=.pointer (some ⟨b1,3,none⟩))/\(D 1=true->cd=.slice (some ⟨b2,o2,none⟩) [a,b].length cap2)/\(D 2=true->cF=.pointer (some ⟨b2,o2+0 * 4,none⟩))/\(D 3=true->cf=.agg (bv c2 (o2+0 * 4) 4).toArray)/\(D 4=true->ci=.int .i64 (if lv=3 then 2 else lv))/\(D 5=true->bX=.string (st y))/\(D 6=true->bT=.pointer (some ⟨b1,2,none⟩))/\(D 7=true->b0=.string t.name)/\(D 8=true->dg=.string (st (hY (bs t.name))))/\(D 9=true->cT=.string (st (y++hY (bs t.name))))/\(D 10=true->dA=.pointer (some ⟨b1,3,none⟩))/\(D 11=true->dP=.slice (some ⟨b2,o2,none⟩) [a,b].length cap2)/\(D 12=true->ed=.pointer (some ⟨b2,o2+1 * 4,none⟩))/\(D 13=true->eR=.agg (bv c2 (o2+1 * 4) 4).toArray)/\(D 14=true->ex=.int .i64 lv)/\(D 15=true->ii=.int .i64 (lv - 1))/\(D 16=true->d4=.string (st z))/\(D 17=true->dZ=.string (st (y++hY (bs t.name)++z)))/\(D 18=true->x2=.string (st (y++hY (bs t.name)++z)))/\Inv w [] [.blk b1 (.cells #[.int .i64 t.kind,.int .i64 t.n,.string t.name,.slice (some ⟨b2,o2,none⟩) [a,b].length cap2] ac)] S w_,⟨ae,ae,ae,ae,ae,ae,ae,ae,ae,ae,ae,ae,ae,ae,ae,ae,ae,ae,ae,hI.draw⟩,⟨?_,?_,?_,?_,?_,?_,?_,?_,?_,?_,?_,?_,?_,?_,?_,?_,?_,?_,?_,trivial⟩,?_⟩
    ·intro D aY  x2 dZ d4 ii ex eR ed dP dA cT dg b0 bT bX ci cf cF cd bZ w_
     rintro ⟨az,ay,aA,aB,aw,aD,aE,aI,aL,aP,aj,ao,aH,aM,aO,aN,aV,aU,aW,hI⟩
     refine bg aS ?_
     exact ⟨fun _=>rfl,ay,aA,aB,aw,aD,aE,aI,aL,aP,aj,ao,aH,aM,aO,aN,aV,aU,aW,hI⟩
    ·intro D aY ce x2 dZ d4 ii ex eR ed dP dA cT dg b0 bT bX ci cf cF cd bZ w_
     rintro ⟨az,ay,aA,aB,aw,aD,aE,aI,aL,aP,aj,ao,aH,aM,aO,aN,aV,aU,aW,hI⟩
     obtain rfl:=az ce
     refine bE hI 0 aQ rfl rfl ?_
     exact ⟨az,fun _=>rfl,aA,aB,aw,aD,aE,aI,aL,aP,aj,ao,aH,aM,aO,aN,aV,aU,aW,hI⟩
    ·intro D aY dI x2 dZ d4 ii ex eR ed dP dA cT dg b0 bT bX ci cf cF cd bZ w_
     rintro ⟨az,ay,aA,aB,aw,aD,aE,aI,aL,aP,aj,ao,aH,aM,aO,aN,aV,aU,aW,hI⟩
     obtain rfl:=ay dI
     refine bh (i:=0) av (by simp) ?_
     exact ⟨az,ay,fun _=>rfl,aB,aw,aD,aE,aI,aL,aP,aj,ao,aH,aM,aO,aN,aV,aU,aW,hI⟩
    ·intro D aY ev x2 dZ d4 ii ex eR ed dP dA cT dg b0 bT bX ci cf cF cd bZ w_
     rintro ⟨az,ay,aA,aB,aw,aD,aE,aI,aL,aP,aj,ao,aH,aM,aO,aN,aV,aU,aW,hI⟩
     obtain rfl:=aA ev
     refine cJ al hRa.length (fun j v hj=>by rw [hI.cellS hS]; exact bl rfl j v hj) ?_
     exact ⟨az,ay,aA,fun _=>rfl,aw,aD,aE,aI,aL,aP,aj,ao,aH,aM,aO,aN,aV,aU,aW,hI⟩
    ·intro D aY  x2 dZ d4 ii ex eR ed dP dA cT dg b0 bT bX ci cf cF cd bZ w_
     rintro ⟨az,ay,aA,aB,aw,aD,aE,aI,aL,aP,aj,ao,aH,aM,aO,aN,aV,aU,aW,hI⟩
     exact ⟨az,ay,aA,aB,fun _=>rfl,aD,aE,aI,aL,aP,aj,ao,aH,aM,aO,aN,aV,aU,aW,hI⟩
    ·intro D aY dF dS x2 dZ d4 ii ex eR ed dP dA cT dg b0 bT bX ci cf cF cd bZ w_
     rintro ⟨az,ay,aA,aB,aw,aD,aE,aI,aL,aP,aj,ao,aH,aM,aO,aN,aV,aU,aW,hI⟩
     obtain rfl:=aB dF
     obtain rfl:=aw dS
     refine Run.callPure Gc HE hI (ihF g (by omega) a _ y S _ hy (by omega) hRa) fun w_ hI=>?_
     exact ⟨az,ay,aA,aB,aw,fun _=>rfl,aE,aI,aL,aP,aj,ao,aH,aM,aO,aN,aV,aU,aW,hI⟩
    ·intro D aY  x2 dZ d4 ii ex eR ed dP dA cT dg b0 bT bX ci cf cF cd bZ w_
     rintro ⟨az,ay,aA,aB,aw,aD,aE,aI,aL,aP,aj,ao,aH,aM,aO,aN,aV,aU,aW,hI⟩
     refine bg bo ?_
     exact ⟨az,ay,aA,aB,aw,aD,fun _=>rfl,aI,aL,aP,aj,ao,aH,aM,aO,aN,aV,aU,aW,hI⟩
    ·intro D aY c9 x2 dZ d4 ii ex eR ed dP dA cT dg b0 bT bX ci cf cF cd bZ w_
     rintro ⟨az,ay,aA,aB,aw,aD,aE,aI,aL,aP,aj,ao,aH,aM,aO,aN,aV,aU,aW,hI⟩
     obtain rfl:=aE c9
     refine bE hI 0 bm rfl rfl ?_
     exact ⟨az,ay,aA,aB,aw,aD,aE,fun _=>rfl,aL,aP,aj,ao,aH,aM,aO,aN,aV,aU,aW,hI⟩
    ·intro D aY el jk x2 dZ d4 ii ex eR ed dP dA cT dg b0 bT bX ci cf cF cd bZ w_
     rintro ⟨az,ay,aA,aB,aw,aD,aE,aI,aL,aP,aj,ao,aH,aM,aO,aN,aV,aU,aW,hI⟩
     obtain rfl:=aI el
     refine Run.callPure C8 Ct hI (BI (bs t.name) (by omega)) fun w_ hI=>?_
     exact ⟨az,ay,aA,aB,aw,aD,aE,aI,fun _=>rfl,aP,aj,ao,aH,aM,aO,aN,aV,aU,aW,hI⟩
    ·intro D aY dV gh x2 dZ d4 ii ex eR ed dP dA cT dg b0 bT bX ci cf cF cd bZ w_
     rintro ⟨az,ay,aA,aB,aw,aD,aE,aI,aL,aP,aj,ao,aH,aM,aO,aN,aV,aU,aW,hI⟩
     obtain rfl:=aD dV
     obtain rfl:=aL gh
     refine ek (by omega) ?_
     exact ⟨az,ay,aA,aB,aw,aD,aE,aI,aL,fun _=>rfl,aj,ao,aH,aM,aO,aN,aV,aU,aW,hI⟩
    ·intro D aY  x2 dZ d4 ii ex eR ed dP dA cT dg b0 bT bX ci cf cF cd bZ w_
     rintro ⟨az,ay,aA,aB,aw,aD,aE,aI,aL,aP,aj,ao,aH,aM,aO,aN,aV,aU,aW,hI⟩
     refine bg aS ?_
     exact ⟨az,ay,aA,aB,aw,aD,aE,aI,aL,aP,fun _=>rfl,ao,aH,aM,aO,aN,aV,aU,aW,hI⟩
    ·intro D aY gH x2 dZ d4 ii ex eR ed dP dA cT dg b0 bT bX ci cf cF cd bZ w_
     rintro ⟨az,ay,aA,aB,aw,aD,aE,aI,aL,aP,aj,ao,aH,aM,aO,aN,aV,aU,aW,hI⟩
     obtain rfl:=aj gH
     refine bE hI 0 aQ rfl rfl ?_
     exact ⟨az,ay,aA,aB,aw,aD,aE,aI,aL,aP,aj,fun _=>rfl,aH,aM,aO,aN,aV,aU,aW,hI⟩
    ·intro D aY hZ x2 dZ d4 ii ex eR ed dP dA cT dg b0 bT bX ci cf cF cd bZ w_
     rintro ⟨az,ay,aA,aB,aw,aD,aE,aI,aL,aP,aj,ao,aH,aM,aO,aN,aV,aU,aW,hI⟩
     obtain rfl:=ao hZ
     refine bh (i:=1) av (by simp) ?_
     exact ⟨az,ay,aA,aB,aw,aD,aE,aI,aL,aP,aj,ao,fun _=>rfl,aM,aO,aN,aV,aU,aW,hI⟩
    ·intro D aY lp x2 dZ d4 ii ex eR ed dP dA cT dg b0 bT bX ci cf cF cd bZ w_
     rintro ⟨az,ay,aA,aB,aw,aD,aE,aI,aL,aP,aj,ao,aH,aM,aO,aN,aV,aU,aW,hI⟩
     obtain rfl:=aH lp
     refine cJ al hRb.length (fun j v hj=>by rw [hI.cellS hS]; exact bl rfl j v hj) ?_
     exact ⟨az,ay,aA,aB,aw,aD,aE,aI,aL,aP,aj,ao,aH,fun _=>rfl,aO,aN,aV,aU,aW,hI⟩
    ·intro D aY  x2 dZ d4 ii ex eR ed dP dA cT dg b0 bT bX ci cf cF cd bZ w_
     rintro ⟨az,ay,aA,aB,aw,aD,aE,aI,aL,aP,aj,ao,aH,aM,aO,aN,aV,aU,aW,hI⟩
     exact ⟨az,ay,aA,aB,aw,aD,aE,aI,aL,aP,aj,ao,aH,aM,fun _=>rfl,aN,aV,aU,aW,hI⟩
    ·intro D aY Hv x2 dZ d4 ii ex eR ed dP dA cT dg b0 bT bX ci cf cF cd bZ w_
     rintro ⟨az,ay,aA,aB,aw,aD,aE,aI,aL,aP,aj,ao,aH,aM,aO,aN,aV,aU,aW,hI⟩
     obtain rfl:=aO Hv
     refine om (by omega) ?_
     exact ⟨az,ay,aA,aB,aw,aD,aE,aI,aL,aP,aj,ao,aH,aM,aO,fun _=>rfl,aV,aU,aW,hI⟩
    ·intro D aY iq NX RG x2 dZ d4 ii ex eR ed dP dA cT dg b0 bT bX ci cf cF cd bZ w_
     rintro ⟨az,ay,aA,aB,aw,aD,aE,aI,aL,aP,aj,ao,aH,aM,aO,aN,aV,aU,aW,hI⟩
     obtain rfl:=aM iq
     obtain rfl:=aN NX
     refine Run.callPure Eu Fq hI (ihR g (by omega) b _ z S _ hz (by omega) hRb) fun w_ hI=>?_
     exact ⟨az,ay,aA,aB,aw,aD,aE,aI,aL,aP,aj,ao,aH,aM,aO,aN,fun _=>rfl,aU,aW,hI⟩
    ·intro D aY FA xI x2 dZ d4 ii ex eR ed dP dA cT dg b0 bT bX ci cf cF cd bZ w_
     rintro ⟨az,ay,aA,aB,aw,aD,aE,aI,aL,aP,aj,ao,aH,aM,aO,aN,aV,aU,aW,hI⟩
     obtain rfl:=aP FA
     obtain rfl:=aV xI
     refine ek (by rw [List.length_append]; omega) ?_
     exact ⟨az,ay,aA,aB,aw,aD,aE,aI,aL,aP,aj,ao,aH,aM,aO,aN,aV,fun _=>rfl,aW,hI⟩
    ·intro D aY Ht xI qK wn wF wJ vh Bl AA FC Dd Dm vQ z2 zZ D9 EP Pr O5 O6 x2 dZ d4 ii ex eR ed dP dA cT dg b0 bT bX ci cf cF cd bZ w_
     rintro ⟨az,ay,aA,aB,aw,aD,aE,aI,aL,aP,aj,ao,aH,aM,aO,aN,aV,aU,aW,hI⟩
     obtain rfl:=aU Ht
     exact ⟨az,ay,aA,aB,aw,aD,aE,aI,aL,aP,aj,ao,aH,aM,aO,aN,aV,aU,fun _=>rfl,hI⟩
    intro D zx Ak Ae nZ n4 oG jh ft fm iW gN f0 f1 fM fF fI fK fL fN x2 dZ d4 ii ex eR ed dP dA cT dg b0 bT bX ci cf cF cd bZ w_
    rintro ⟨az,ay,aA,aB,aw,aD,aE,aI,aL,aP,aj,ao,aH,aM,aO,aN,aV,aU,aW,hI⟩
    obtain rfl:=aW zx
    obtain rfl:=aU Ak
    obtain rfl:=aV Ae
    obtain rfl:=aN nZ
    obtain rfl:=aO n4
    obtain rfl:=aM oG
    obtain rfl:=aH jh
    obtain rfl:=ao ft
    obtain rfl:=aj fm
    obtain rfl:=aP iW
    obtain rfl:=aL gN
    obtain rfl:=aI f0
    obtain rfl:=aE f1
    obtain rfl:=aD fM
    obtain rfl:=aw fF
    obtain rfl:=aB fI
    obtain rfl:=aA fK
    obtain rfl:=ay fL
    obtain rfl:=az fN
    clear az ay aA aB aw aD aE aI aL aP aj ao aH aM aO aN aV aU aW
    exact done hI (by rw [<- h])
   ·cases h
  ·cases h
 ·rename_i hf
  rw [Bool.eq_false_iff.2 hf]
  refine ba (fun hb=>by cases hb) (fun _=>?_)
  obtain ⟨ka,kc,rfl,_⟩:=id hk
  refine ⟨fun v w'=>v=.bool (decide (t.kind=3) && decide (0<t.kids.length))/\Inv w [] [B1] S w',?_,?_⟩
  ·refine aJ hI 0 rfl bD bn rfl ?_
   by_cases h3:t.kind=3
   ·refine gf h3 ?_
    repeat (first|refine ad ?_|refine af (by decide) ?_|refine ab ?_|refine ai ?_|refine ah ?_)
    refine aJ hI 0 rfl aS aQ rfl ?_
    refine gD av ?_
    refine dX ?_
    repeat (first|refine ad ?_|refine af (by decide) ?_|refine ab ?_|refine ai ?_|refine ah ?_)
    refine ⟨?_,by rw [hB1]; exact hI⟩
    rw [decide_eq_true h3,Bool.true_and]
    congr 1
    rw [decide_eq_decide]
    omega
   ·refine fe h3 ?_
    repeat (first|refine ad ?_|refine af (by decide) ?_|refine ab ?_|refine ai ?_|refine ah ?_)
    exact ⟨by rw [decide_eq_false h3,Bool.false_and],by rw [hB1]; exact hI⟩
  intro t37 _ _ _ _ _ _ _ _ _ w'
  rintro ⟨rfl,hI⟩
  subst hB1
  split at h
  ·rename_i hc3
   rw [decide_eq_true hc3.1,decide_eq_true hc3.2]
   refine ba (fun _=>?_) (fun hb=>by cases hb)
   split at h
   ·rename_i y hy
    simp only [Option.some.injEq] at h
    have hlen:(bs t.name).length+y.length+2=x.length:=by rw [<- h]; simp only [List.length_append,List.length_cons,List.length_nil]; omega
    skip
    refine ⟨fun D x2 cZ dt cY cX cW cU bV bW w_=>(D 0=true->bW=.pointer (some ⟨b1,2,none⟩))/\(D 1=true->bV=.string t.name)/\(D 2=true->cU=.string (st (bs t.name++[40])))/\(D 3=true->cW=.pointer (some ⟨b1,3,none⟩))/\(D 4=true->cX=.slice ka t.kids.length kc)/\(D 5=true->cY=.string (st y))/\(D 6=true->dt=.string (st (bs t.name++[40]++y)))/\(D 7=true->cZ=.string (st (bs t.name++[40]++y++[41])))/\(D 8=true->x2=.string (st (bs t.name++[40]++y++[41])))/\Inv w [] [.blk b1 (.cells #[.int .i64 t.kind,.int .i64 t.n,.string t.name,.slice ka t.kids.length kc] ac)] S w_,⟨ae,ae,ae,ae,ae,ae,ae,ae,ae,hI.draw⟩,⟨?_,?_,?_,?_,?_,?_,?_,?_,?_,trivial⟩,?_⟩
    ·intro D aY  x2 cZ dt cY cX cW cU bV bW w_
     rintro ⟨az,ay,aA,aB,aw,aD,aE,aI,aL,hI⟩
     refine bg bo ?_
     exact ⟨fun _=>rfl,ay,aA,aB,aw,aD,aE,aI,aL,hI⟩
    ·intro D aY ce x2 cZ dt cY cX cW cU bV bW w_
     rintro ⟨az,ay,aA,aB,aw,aD,aE,aI,aL,hI⟩
     obtain rfl:=az ce
     refine bE hI 0 bm rfl rfl ?_
     exact ⟨az,fun _=>rfl,aA,aB,aw,aD,aE,aI,aL,hI⟩
    ·intro D aY dI x2 cZ dt cY cX cW cU bV bW w_
     rintro ⟨az,ay,aA,aB,aw,aD,aE,aI,aL,hI⟩
     obtain rfl:=ay dI
     refine ek (a:=bs t.name) (b:=[40]) (by simp only [List.length_cons,List.length_nil]; omega) ?_
     exact ⟨az,ay,fun _=>rfl,aB,aw,aD,aE,aI,aL,hI⟩
    ·intro D aY  x2 cZ dt cY cX cW cU bV bW w_
     rintro ⟨az,ay,aA,aB,aw,aD,aE,aI,aL,hI⟩
     refine bg aS ?_
     exact ⟨az,ay,aA,fun _=>rfl,aw,aD,aE,aI,aL,hI⟩
    ·intro D aY dF x2 cZ dt cY cX cW cU bV bW w_
     rintro ⟨az,ay,aA,aB,aw,aD,aE,aI,aL,hI⟩
     obtain rfl:=aB dF
     refine bE hI 0 aQ rfl rfl ?_
     exact ⟨az,ay,aA,aB,fun _=>rfl,aD,aE,aI,aL,hI⟩
    ·intro D aY cK x2 cZ dt cY cX cW cU bV bW w_
     rintro ⟨az,ay,aA,aB,aw,aD,aE,aI,aL,hI⟩
     obtain rfl:=aw cK
     refine Run.callPure pY oo hI (ihA g (by omega) t.kids y S _ hy (by omega) hk) fun w_ hI=>?_
     exact ⟨az,ay,aA,aB,aw,fun _=>rfl,aE,aI,aL,hI⟩
    ·intro D aY ev jk x2 cZ dt cY cX cW cU bV bW w_
     rintro ⟨az,ay,aA,aB,aw,aD,aE,aI,aL,hI⟩
     obtain rfl:=aA ev
     obtain rfl:=aD jk
     refine ek (by simp only [List.length_append,List.length_cons,List.length_nil]; omega) ?_
     exact ⟨az,ay,aA,aB,aw,aD,fun _=>rfl,aI,aL,hI⟩
    ·intro D aY c9 x2 cZ dt cY cX cW cU bV bW w_
     rintro ⟨az,ay,aA,aB,aw,aD,aE,aI,aL,hI⟩
     obtain rfl:=aE c9
     refine ek (b:=[41]) (by simp only [List.length_append,List.length_cons,List.length_nil]; omega) ?_
     exact ⟨az,ay,aA,aB,aw,aD,aE,fun _=>rfl,aL,hI⟩
    ·intro D aY el jk qK wn wF wJ vh Bl AA FC x2 cZ dt cY cX cW cU bV bW w_
     rintro ⟨az,ay,aA,aB,aw,aD,aE,aI,aL,hI⟩
     obtain rfl:=aI el
     exact ⟨az,ay,aA,aB,aw,aD,aE,aI,fun _=>rfl,hI⟩
    intro D gN f0 f1 fM fF fI fK fL fN x2 cZ dt cY cX cW cU bV bW w_
    rintro ⟨az,ay,aA,aB,aw,aD,aE,aI,aL,hI⟩
    obtain rfl:=aL gN
    obtain rfl:=aI f0
    obtain rfl:=aE f1
    obtain rfl:=aD fM
    obtain rfl:=aw fF
    obtain rfl:=aB fI
    obtain rfl:=aA fK
    obtain rfl:=ay fL
    obtain rfl:=az fN
    clear az ay aA aB aw aD aE aI aL
    exact done hI (by rw [<- h])
   ·cases h
  ·rename_i hc3
   have e:(decide (t.kind=3) && decide (0<t.kids.length))=false:=by
    rw [Bool.eq_false_iff,ne_eq,Bool.and_eq_true,decide_eq_true_eq,decide_eq_true_eq]; exact hc3
   rw [e]
   refine ba (fun hb=>by cases hb) (fun _=>?_)
   refine bb hI 0 al rfl rfl ?_
   refine Run.callPure H8 Hq hI (EA h0 hp h) fun w' hI=>?_
   exact done hI rfl
theorem K2:∀ F f,f<F->F<=1000->xO f/\Kl f/\EN f/\p7 f/\Ja f/\FE f
 | 0,f,h,_=>by omega
 | F+1,f,h,hF=>by
  have ih:=fun g (hg:g<f)=>K2 F g (by omega) (by omega)
  have hT:xO f:=Pw (fun g hg=>(ih g hg).2.1) (fun g hg=>(ih g hg).2.2.1) (fun g hg=>(ih g hg).2.2.2.2.1) (fun g hg=>(ih g hg).2.2.2.2.2)
  exact ⟨hT,OQ (by omega) (fun g hg=>(ih g hg).1) (fun g hg=>(ih g hg).2.2.1),OG fun g hg=>(ih g hg).1,Jf fun g hg=>(ih g hg).1,OT (fun g hg=>(ih g hg).1) (fun g hg=>(ih g hg).2.2.2.1),NJ fun g hg=>(ih g hg).2.2.2.1⟩
theorem DR {f:Nat} (hf:f<=100):xO f:=(K2 (f+1) f (by omega) (by omega)).1
end
end Go.Proofs.YtemmhhdnlbmicaaGreat

/- Copies whose topmost row is still the caller's own, all else published. (printed by gen_top.py out of Copy and CopyC) -/
namespace Go.Proofs.YtemmhhdnlbmicaaGreat
open Go Go.RowKit
theorem Grown.rows {α:Type} {k:Nat} {R:bG->List Value->α->Prop} {R':List Value->α->Prop} {Ls:List bG} {css:List (List Value)} {ys:List α} {S:aF} (h:Grown k R Ls css ys) (hi:Ins S Ls.flatten)
  (hR:∀ L cs x,Ins S L->R L cs x->R' cs x):Rows k R' css ys:=
 ⟨h.hc,h.hk,fun i h1 h2=>hR _ _ _ (Fc hi (by rw [h.hL]; exact h1)) (h.hR i h1 (by rw [h.hL]; exact h1) h2)⟩
abbrev Ng (t:T):Value->List Item->aF->Prop:=fun v I' S'=>∃ kv css,v=.agg #[.int .i64 t.kind,.int .i64 t.n,.string t.name,kv]/\I'=[bj kv ac 4 css]/\Rows 4 (RdT S') css t.kids
abbrev N8 (c:C):Value->List Item->aF->Prop:=fun v I' S'=>∃ hd kv css,v=.agg (hd++[kv]).toArray/\RdT S' hd c.head/\I'=[bj kv ac 4 css]/\Rows 4 (RdT S') css c.body
section
attribute [local irreducible] Run CondV ag be
theorem LK:∀ (t:T) (S:aF) (cs:List Value),RdT S cs t->wT t<=1048576->Tri Tryz.prog rR [.agg cs.toArray] [] S (Ng t):=by
 intro t S cs h hw
 obtain ⟨k,n,s,ks⟩:=t
 have ih:∀ t∈ks,∀ (S:aF) (cs:List Value),RdT S cs t->wT t<=1048576->Tri Tryz.prog rR [.agg cs.toArray] [] S (GA S t):=fun t _=>fT t
 intro w hI
 obtain ⟨kv,rfl,h1,h2,hs,hks⟩:=RdT.iff.1 h
 simp only [T.name,T.kids,T.kind,T.n] at h1 h2 hs hks ⊢
 simp only [wT] at hw
 refine pP ?_
 unfold pB
 refine bO hI fun b1 w' hI=>?_
 refine bH hI bN fun b2 w' hI=>?_
 refine aJ hI 0 rfl bD bn rfl ?_
 refine aJ hI 0 rfl bI bn rfl ?_
 refine aJ hI 0 rfl bo bm rfl ?_
 refine wW ?_
 refine bH hI bN fun b3 w' hI=>?_
 refine bf hI 2 rfl al rfl rfl (by simp [Value.oneCell']) fun w' hI=>?_
 have hI:=hI.rowNil ac 4
 refine ⟨fun i w'=>∃ (j:Nat) (kvc:Value) (Ls:List bG) (css:List (List Value)),j<=ks.length/\i=.int .i64 j/\Grown 4 TrT Ls css (ks.take j)/\
   Inv w [] (.blk b1 (.cells #[.int .i64 k,.int .i64 n,.string s,kv] ac)::.blk b2 (.cells #[.int .i64 0,.int .i64 0,.string ⟨#[]⟩,.slice none 0 0] ac)::.blk b3 (.cells #[.int .i64 k,.int .i64 n,.string s,kvc] ac)::bj kvc ac 4 css::bS Ls.flatten) S w',
  fun i _=>ks.length - (intOf i).toNat,⟨0,_,[],[],Nat.zero_le _,rfl,Grown.nil _ _,hI⟩,?_⟩
 intro t4 _ _ _ _ _ _ _ _ _ _ _ _ _ _ _ _ _ _ w'
 rintro ⟨j,kvc,Ls,css,hj,rfl,hg,hI⟩
 refine aJ hI 0 rfl aS aQ rfl ?_
 refine a9 hks av ?_
 refine bU ?_
 refine bk (fun hji=>?_) (fun hji=>?_)
 ·have hj':j<ks.length:=by omega
  have hjl:(ks.take j).length=j:=by simp; omega
  have hcl:=hg.hc
  have hm:=List.getElem_mem hj'
  have hwm:=jn hm
  obtain ⟨b,o,cap,c,E,fz,rfl,hS,hR⟩:=hks.at_ hj'
  refine ⟨fun D dA cT dg b0 bT bX ci cf cF cd bZ w_=>(D 0=true->bZ=.pointer (some ⟨b3,3,none⟩))/\(D 1=true->cd=kvc)/\(D 2=true->cF=.pointer (some ⟨b1,3,none⟩))/\(D 3=true->cf=.slice (some ⟨b,o,none⟩) (ks).length cap)/\(D 4=true->ci=.int .i64 j)/\(D 5=true->bX=.pointer (some ⟨b,o+j * 4,none⟩))/\(D 6=true->bT=.agg (bv c (o+j * 4) 4).toArray)/\(D 7=true->True)/\(D 8=true->True)/\(D 9=true->True)/\(D 10=true->dA=.pointer (some ⟨b3,3,none⟩))/\(D 11=true->True)/\∃ M cs7 b8,(D 7=true->b0=.agg cs7.toArray/\TrT M cs7 (ks)[j])/\(D 8=true->dg=.slice (some ⟨b8,0,none⟩) 1 1)/\(D 8=true->D 7=true)/\(D 9=true->D 8=true)/\(D 11=true->D 9=true)/\(D 11=true->D 1=true)/\Inv w [] (bu (.blk b1 (.cells #[.int .i64 k,.int .i64 n,.string s,.slice (some ⟨b,o,none⟩) ks.length cap] ac)) (.blk b2 (.cells #[.int .i64 0,.int .i64 0,.string ⟨#[]⟩,.slice none 0 0] ac)) (.blk b3 (.cells #[.int .i64 k,.int .i64 n,.string s,kvc] ac)) (.blk b3 (.cells #[.int .i64 k,.int .i64 n,.string s,cT] ac)) (bj kvc ac 4 css) (bj cT ac 4 (css++[cs7])) (bS Ls.flatten) M (.blk b8 (.cells cs7.toArray ac)) (D 7) (D 8) (D 9) (D 11)) S w_,⟨ae,ae,ae,ae,ae,ae,ae,ae,ae,ae,ae,ae,⟨[],[],0,ae,ae,ae,ae,ae,ae,by simpa [bu,bS] using hI.draw⟩⟩,⟨?_,?_,?_,?_,?_,?_,?_,?_,?_,?_,?_,?_,trivial⟩,?_⟩
  ·intro D aY  dA cT dg b0 bT bX ci cf cF cd bZ w_
   rintro ⟨az,ay,aA,aB,aw,aD,aE,aI,aL,aP,aj,ao,⟨M,cs7,b8,e7,e8,k8,k9,k11,k1,hI⟩⟩
   refine bg aS ?_
   exact ⟨fun _=>rfl,ay,aA,aB,aw,aD,aE,aI,aL,aP,aj,ao,⟨M,cs7,b8,e7,e8,k8,k9,k11,k1,hI⟩⟩
  ·intro D aY ce dA cT dg b0 bT bX ci cf cF cd bZ w_
   rintro ⟨az,ay,aA,aB,aw,aD,aE,aI,aL,aP,aj,ao,⟨M,cs7,b8,e7,e8,k8,k9,k11,k1,hI⟩⟩
   obtain rfl:=az ce
   have f11:D 11=false:=Bool.eq_false_iff.2 fun h=>by rw [k1 h] at aY; cases aY
   refine bE (b:=b3) hI 2 (c:=(#[.int .i64 k,.int .i64 n,.string s,kvc])) aQ (by rw [f11]; rfl) rfl ?_
   have k1:=fun (_:aC D 1 11=true)=>(rfl:aC D 1 1=true)
   exact ⟨az,fun _=>rfl,aA,aB,aw,aD,aE,aI,aL,aP,aj,ao,⟨M,cs7,b8,e7,e8,k8,k9,k11,k1,hI⟩⟩
  ·intro D aY  dA cT dg b0 bT bX ci cf cF cd bZ w_
   rintro ⟨az,ay,aA,aB,aw,aD,aE,aI,aL,aP,aj,ao,⟨M,cs7,b8,e7,e8,k8,k9,k11,k1,hI⟩⟩
   refine bg aS ?_
   exact ⟨az,ay,fun _=>rfl,aB,aw,aD,aE,aI,aL,aP,aj,ao,⟨M,cs7,b8,e7,e8,k8,k9,k11,k1,hI⟩⟩
  ·intro D aY ev dA cT dg b0 bT bX ci cf cF cd bZ w_
   rintro ⟨az,ay,aA,aB,aw,aD,aE,aI,aL,aP,aj,ao,⟨M,cs7,b8,e7,e8,k8,k9,k11,k1,hI⟩⟩
   obtain rfl:=aA ev
   refine bE hI 0 aQ rfl rfl ?_
   exact ⟨az,ay,aA,fun _=>rfl,aw,aD,aE,aI,aL,aP,aj,ao,⟨M,cs7,b8,e7,e8,k8,k9,k11,k1,hI⟩⟩
  ·intro D aY  dA cT dg b0 bT bX ci cf cF cd bZ w_
   rintro ⟨az,ay,aA,aB,aw,aD,aE,aI,aL,aP,aj,ao,⟨M,cs7,b8,e7,e8,k8,k9,k11,k1,hI⟩⟩
   exact ⟨az,ay,aA,aB,fun _=>rfl,aD,aE,aI,aL,aP,aj,ao,⟨M,cs7,b8,e7,e8,k8,k9,k11,k1,hI⟩⟩
  ·intro D aY dF dS dA cT dg b0 bT bX ci cf cF cd bZ w_
   rintro ⟨az,ay,aA,aB,aw,aD,aE,aI,aL,aP,aj,ao,⟨M,cs7,b8,e7,e8,k8,k9,k11,k1,hI⟩⟩
   obtain rfl:=aB dF
   obtain rfl:=aw dS
   refine bh av hj' ?_
   exact ⟨az,ay,aA,aB,aw,fun _=>rfl,aE,aI,aL,aP,aj,ao,⟨M,cs7,b8,e7,e8,k8,k9,k11,k1,hI⟩⟩
  ·intro D aY dV dA cT dg b0 bT bX ci cf cF cd bZ w_
   rintro ⟨az,ay,aA,aB,aw,aD,aE,aI,aL,aP,aj,ao,⟨M,cs7,b8,e7,e8,k8,k9,k11,k1,hI⟩⟩
   obtain rfl:=aD dV
   refine cJ al hR.length (fun j v hj=>by rw [hI.cellS hS]; exact bl rfl j v hj) ?_
   exact ⟨az,ay,aA,aB,aw,aD,fun _=>rfl,aI,aL,aP,aj,ao,⟨M,cs7,b8,e7,e8,k8,k9,k11,k1,hI⟩⟩
  ·intro D aY c9 dA cT dg b0 bT bX ci cf cF cd bZ w_
   rintro ⟨az,ay,aA,aB,aw,aD,aE,aI,aL,aP,aj,ao,⟨M,cs7,b8,e7,e8,k8,k9,k11,k1,hI⟩⟩
   obtain rfl:=aE c9
   have f8:D 8=false:=Bool.eq_false_iff.2 fun h=>by rw [k8 h] at aY; cases aY
   have f9:D 9=false:=Bool.eq_false_iff.2 fun h=>by rw [k9 h] at f8; cases f8
   have f11:D 11=false:=Bool.eq_false_iff.2 fun h=>by rw [k11 h] at f9; cases f9
   rw [aY,f8,f9,f11] at hI
   refine Run.call0 fi fj hI (ih _ (List.getElem_mem hj') S _ hR (by omega)) fun v' I' S w_=>?_
   rintro ⟨rfl,cs7,M,rfl,rfl,hT⟩ _ hI
   have e7:aC D 7 7=true->Value.agg cs7.toArray=Value.agg cs7.toArray/\TrT M cs7 (ks)[j]:=fun _=>⟨rfl,hT⟩
   have k8:=fun (_:aC D 7 8=true)=>(rfl:aC D 7 7=true)
   have hI:Inv w [] (bu (.blk b1 (.cells #[.int .i64 k,.int .i64 n,.string s,.slice (some ⟨b,o,none⟩) ks.length cap] ac)) (.blk b2 (.cells #[.int .i64 0,.int .i64 0,.string ⟨#[]⟩,.slice none 0 0] ac)) (.blk b3 (.cells #[.int .i64 k,.int .i64 n,.string s,kvc] ac)) (.blk b3 (.cells #[.int .i64 k,.int .i64 n,.string s,cT] ac)) (bj kvc ac 4 css) (bj cT ac 4 (css++[cs7])) (bS Ls.flatten) M (.blk b8 (.cells cs7.toArray ac)) true (D 8) (D 9) (D 11)) S w_:=by
    rw [f8,f9,f11]
    simpa [bu] using hI
   exact ⟨az,ay,aA,aB,aw,aD,aE,fun _=>by first|assumption|trivial,aL,aP,aj,ao,⟨M,cs7,b8,e7,e8,k8,k9,k11,k1,hI⟩⟩
  ·intro D aY el dA cT dg b0 bT bX ci cf cF cd bZ w_
   rintro ⟨az,ay,aA,aB,aw,aD,aE,aI,aL,aP,aj,ao,⟨M,cs7,b8,e7,e8,k8,k9,k11,k1,hI⟩⟩
   have NY:=aI el
   have f9:D 9=false:=Bool.eq_false_iff.2 fun h=>by rw [k9 h] at aY; cases aY
   have f11:D 11=false:=Bool.eq_false_iff.2 fun h=>by rw [k11 h] at f9; cases f9
   obtain ⟨q7,hT⟩:=e7 el
   subst q7
   rw [el,aY,f9,f11] at hI
   refine fl hI bM (by simp [Value.cells,hT.length]) (by omega) (by omega) fun b8 w_ hI=>?_
   have e7:aC D 8 7=true->Value.agg cs7.toArray=Value.agg cs7.toArray/\TrT M cs7 (ks)[j]:=fun _=>⟨rfl,hT⟩
   have e8:=fun (_:aC D 8 8=true)=>(rfl:Value.slice (some ⟨b8,0,none⟩) 1 1=_)
   have k8:=fun (_:aC D 8 8=true)=>el
   have k9:=fun (_:aC D 8 9=true)=>(rfl:aC D 8 8=true)
   have hI:Inv w [] (bu (.blk b1 (.cells #[.int .i64 k,.int .i64 n,.string s,.slice (some ⟨b,o,none⟩) ks.length cap] ac)) (.blk b2 (.cells #[.int .i64 0,.int .i64 0,.string ⟨#[]⟩,.slice none 0 0] ac)) (.blk b3 (.cells #[.int .i64 k,.int .i64 n,.string s,kvc] ac)) (.blk b3 (.cells #[.int .i64 k,.int .i64 n,.string s,cT] ac)) (bj kvc ac 4 css) (bj cT ac 4 (css++[cs7])) (bS Ls.flatten) M (.blk b8 (.cells cs7.toArray ac)) (D 7) true (D 9) (D 11)) S w_:=by
    rw [el,f9,f11]
    simpa [bu,Value.cells] using hI
   exact ⟨az,ay,aA,aB,aw,aD,aE,aI,fun _=>by first|assumption|trivial,aP,aj,ao,⟨M,cs7,b8,e7,e8,k8,k9,k11,k1,hI⟩⟩
  ·intro D aY dI gh pA dA cT dg b0 bT bX ci cf cF cd bZ w_
   rintro ⟨az,ay,aA,aB,aw,aD,aE,aI,aL,aP,aj,ao,⟨M,cs7,b8,e7,e8,k8,k9,k11,k1,hI⟩⟩
   obtain rfl:=ay dI
   have O1:=aL gh
   have f11:D 11=false:=Bool.eq_false_iff.2 fun h=>by rw [k11 h] at aY; cases aY
   have q8:=e8 gh
   subst q8
   obtain ⟨_,hT⟩:=e7 pA
   rw [pA,gh,aY,f11] at hI
   have hblk:((bu (.blk b1 (.cells #[.int .i64 k,.int .i64 n,.string s,.slice (some ⟨b,o,none⟩) ks.length cap] ac)) (.blk b2 (.cells #[.int .i64 0,.int .i64 0,.string ⟨#[]⟩,.slice none 0 0] ac)) (.blk b3 (.cells #[.int .i64 k,.int .i64 n,.string s,cd] ac)) (.blk b3 (.cells #[.int .i64 k,.int .i64 n,.string s,cT] ac)) (bj cd ac 4 css) (bj cT ac 4 (css++[cs7])) (bS Ls.flatten) M (.blk b8 (.cells cs7.toArray ac)) true true false false))[4+(bS Ls.flatten).length+(bS M).length]?=some (.blk b8 (.cells cs7.toArray ac)):=by
    have e4:4+(bS Ls.flatten).length+(bS M).length=((bS Ls.flatten).length+(bS M).length)+1+1+1+1:=by omega
    rw [e4]
    simp only [bu,List.getElem?_cons_succ]
    rw [List.getElem?_append_right (by omega),Nat.add_sub_cancel_left,List.getElem?_append_right (Nat.le_refl _),Nat.sub_self]; rfl
   refine fE hI 3 cs7 bM (by omega) rfl (by rw [hT.length]) (m:=1) (o:=0) ?_ hT.one (by omega) (by omega) fun v' w_ hI=>?_
   ·intro i u hi
    rw [hI.cellL hblk,Nat.zero_add]
    simpa using hi
   rw [ge] at hI
   have k9:=fun (_:aC D 9 9=true)=>gh
   have k11:=fun (_:aC D 9 11=true)=>(rfl:aC D 9 9=true)
   have hI:Inv w [] (bu (.blk b1 (.cells #[.int .i64 k,.int .i64 n,.string s,.slice (some ⟨b,o,none⟩) ks.length cap] ac)) (.blk b2 (.cells #[.int .i64 0,.int .i64 0,.string ⟨#[]⟩,.slice none 0 0] ac)) (.blk b3 (.cells #[.int .i64 k,.int .i64 n,.string s,cd] ac)) (.blk b3 (.cells #[.int .i64 k,.int .i64 n,.string s,v'] ac)) (bj cd ac 4 css) (bj v' ac 4 (css++[cs7])) (bS Ls.flatten) M (.blk b8 (.cells cs7.toArray ac)) (D 7) (D 8) true (D 11)) S w_:=by
    rw [pA,gh,f11]
    exact hI
   exact ⟨az,ay,aA,aB,aw,aD,aE,aI,aL,fun _=>by first|assumption|trivial,aj,ao,⟨M,cs7,b8,e7,e8,k8,k9,k11,k1,hI⟩⟩
  ·intro D aY ce iL A8 EL Am Jm LM NN Pl Pq dA cT dg b0 bT bX ci cf cF cd bZ w_
   rintro ⟨az,ay,aA,aB,aw,aD,aE,aI,aL,aP,aj,ao,⟨M,cs7,b8,e7,e8,k8,k9,k11,k1,hI⟩⟩
   refine bg aS ?_
   exact ⟨az,ay,aA,aB,aw,aD,aE,aI,aL,aP,fun _=>rfl,ao,⟨M,cs7,b8,e7,e8,k8,k9,k11,k1,hI⟩⟩
  ·intro D aY gH fw LG FI m0 Ei zB Bi EW Mi mo ph NE dA cT dg b0 bT bX ci cf cF cd bZ w_
   rintro ⟨az,ay,aA,aB,aw,aD,aE,aI,aL,aP,aj,ao,⟨M,cs7,b8,e7,e8,k8,k9,k11,k1,hI⟩⟩
   obtain rfl:=aj gH
   have Pv:=aP fw
   rw [mo,ph,fw,aY] at hI
   obtain ⟨va,vn,vc,hv9⟩:=Inv.rowSlice hI 3 rfl
   refine eq hI 2 (n:=1) (by rw [hv9]; rfl) (by decide +kernel) rfl (by simp) (by rw [hv9]; simp [Value.cells,Value.oneCell']) fun w_ hI=>?_
   have hcl9:Value.cells cT=#[cT]:=by rw [hv9]; rfl
   rw [hcl9] at hI
   have k1:=fun (_:aC D 11 11=true)=>m0
   have k11:=fun (_:aC D 11 11=true)=>fw
   have hI:Inv w [] (bu (.blk b1 (.cells #[.int .i64 k,.int .i64 n,.string s,.slice (some ⟨b,o,none⟩) ks.length cap] ac)) (.blk b2 (.cells #[.int .i64 0,.int .i64 0,.string ⟨#[]⟩,.slice none 0 0] ac)) (.blk b3 (.cells #[.int .i64 k,.int .i64 n,.string s,kvc] ac)) (.blk b3 (.cells #[.int .i64 k,.int .i64 n,.string s,cT] ac)) (bj kvc ac 4 css) (bj cT ac 4 (css++[cs7])) (bS Ls.flatten) M (.blk b8 (.cells cs7.toArray ac)) (D 7) (D 8) (D 9) true) S w_:=by
    rw [mo,ph,fw]
    exact hI
   exact ⟨az,ay,aA,aB,aw,aD,aE,aI,aL,aP,aj,fun _=>trivial,⟨M,cs7,b8,e7,e8,k8,k9,k11,k1,hI⟩⟩
  intro D ft fm iW gN f0 f1 fM fF fI fK fL fN dA cT dg b0 bT bX ci cf cF cd bZ w_
  rintro ⟨az,ay,aA,aB,aw,aD,aE,aI,aL,aP,aj,ao,⟨M,cs7,b8,e7,e8,k8,k9,k11,k1,hI⟩⟩
  obtain rfl:=aj fm
  have Pv:=aP iW
  have O1:=aL gN
  have NY:=aI f0
  obtain rfl:=aE f1
  obtain rfl:=aD fM
  obtain rfl:=aw fF
  obtain rfl:=aB fI
  obtain rfl:=aA fK
  obtain rfl:=ay fL
  obtain rfl:=az fN
  clear az ay aA aB aw aD aE aI aL aP aj ao
  obtain ⟨_,hT⟩:=e7 f0
  rw [f0,gN,iW,ft] at hI
  refine bP (by omega) ?_
  refine ⟨⟨j+1,cT,Ls++[M],css++[cs7],hj',rfl,?_,?_⟩,by simp [intOf]; omega⟩
  ·rw [List.take_succ_eq_append_getElem hj']
   exact hg.snoc hT hT.length
  ·simp only [List.flatten_append,List.flatten_cons,List.flatten_nil,List.append_nil,ff]
   refine hI.sub ?_
   simp only [bu]
   rw [<- List.append_assoc]
   exact (((List.sublist_append_left _ _).cons_cons _).cons_cons _).cons_cons _ |>.cons_cons _
 ·have:j=ks.length:=by omega
  subst this
  rw [List.take_length] at hg
  obtain ⟨va,vn,vc,hvk⟩:=hI.rowSlice 3 rfl
  have hv1:kvc.oneCell'=true:=by rw [hvk]; rfl
  refine bb hI 2 al rfl rfl ?_
  refine bf hI 1 rfl al rfl rfl ?_ fun w' hI=>?_
  ·intro u hu
   have hu':u∈([.int .i64 k,.int .i64 n,.string s,kvc]:List Value):=hu
   simp at hu'
   rcases hu' with rfl|rfl|rfl|rfl <;> first|rfl|exact hv1
  refine cH hI 1 al rfl rfl ?_
  have hI:Inv w [] ([bj kvc ac 4 css]++bS Ls.flatten) S w':=hI.sub (List.sublist_append_right [_,_,_] _)
  obtain ⟨S1,hI,hE,hins⟩:=hI.pubExt
  exact ⟨_,_,S1,rfl,hI,hE,_,css,rfl,rfl,hg.rows hins fun _ _ _ hi h=>h.rd hi⟩
theorem MR {c0:C} {S:aF} {cs:List Value} (h:RdC S cs c0) (hw:wC c0<=1048576):Tri Tryz.prog z3 [.agg cs.toArray] [] S (N8 c0):=by
 intro w hI
 obtain ⟨hd,ks,rfl,h1,h2⟩:=h
 have h1':=h1
 obtain ⟨kv,rfl,g1,g2,g3,g4⟩:=RdT.iff.1 h1
 unfold wC at hw
 refine pO ?_
 unfold oP
 refine bO hI fun b1 w' hI=>?_
 refine bH hI eL fun b2 w' hI=>?_
 refine bg dh ?_
 refine fg hI 0 [.int .i64 c0.head.kind,.int .i64 c0.head.n,.string c0.head.name,kv] al rfl rfl NC ?_
 refine Run.call0 fi fj hI (fT _ S _ h1' (by omega)) fun v' I' S w'=>?_
 rintro ⟨rfl,cs1,N,rfl,rfl,hT1⟩ _ hI
 obtain ⟨kh,rfl,_⟩:=TrT.iff.1 hT1
 refine lA ?_
 refine bH hI eL fun b3 w' hI=>?_
 have hI:=hI.perm (M:=.blk b1 _::.blk b2 _::.blk b3 _::bS N) (((List.perm_append_comm (l₁:=[_])).cons _).cons _)
 refine bf hI 2 rfl bF rfl rfl ?_ fun w' hI=>?_
 ·intro u hu
  have hu':u∈([.int .i64 c0.head.kind,.int .i64 c0.head.n,.string c0.head.name,kh,.slice none 0 0]:List Value):=hu
  simp at hu'
  have o1:kh.oneCell'=true:=hT1.one kh (by simp)
  rcases hu' with rfl|rfl|rfl|rfl|rfl <;> first|rfl|exact o1
 have hI:=hI.rowNil ac 4
 have hI:=hI.perm (M:=.blk b1 (.cells #[.int .i64 c0.head.kind,.int .i64 c0.head.n,.string c0.head.name,kv,ks] aR)::.blk b2 (.cells #[.int .i64 0,.int .i64 0,.string ⟨#[]⟩,.slice none 0 0,.slice none 0 0] aR)::.blk b3 (.cells #[.int .i64 c0.head.kind,.int .i64 c0.head.n,.string c0.head.name,kh,.slice none 0 0] aR)::bj (.slice none 0 0) ac 4 []::bS N) ((((List.perm_append_comm (l₁:=[_])).cons _).cons _).cons _)
 refine ⟨fun i w'=>∃ (j:Nat) (kvc:Value) (Ls:List bG) (css:List (List Value)),j<=c0.body.length/\i=.int .i64 j/\Grown 4 TrT Ls css (c0.body.take j)/\
   Inv w [] (.blk b1 (.cells #[.int .i64 c0.head.kind,.int .i64 c0.head.n,.string c0.head.name,kv,ks] aR)::.blk b2 (.cells #[.int .i64 0,.int .i64 0,.string ⟨#[]⟩,.slice none 0 0,.slice none 0 0] aR)::.blk b3 (.cells #[.int .i64 c0.head.kind,.int .i64 c0.head.n,.string c0.head.name,kh,kvc] aR)::bj kvc ac 4 css::bS (N::Ls).flatten) S w',
  fun i _=>c0.body.length - (intOf i).toNat,⟨0,_,[],[],Nat.zero_le _,rfl,Grown.nil _ _,by simp only [List.flatten_cons,List.flatten_nil,List.append_nil]; exact hI⟩,?_⟩
 intro t4 _ _ _ _ _ _ _ _ _ _ _ _ _ _ _ _ _ _ w'
 rintro ⟨j,kvc,Ls,css,hj,rfl,hg,hI⟩
 refine aJ hI 0 rfl bp aQ rfl ?_
 refine a9 h2 av ?_
 refine bU ?_
 refine bk (fun hji=>?_) (fun hji=>?_)
 ·have hj':j<c0.body.length:=by omega
  have hjl:(c0.body.take j).length=j:=by simp; omega
  have hcl:=hg.hc
  have hm:=List.getElem_mem hj'
  have hwm:=jn hm
  obtain ⟨b,o,cap,c,E,fz,rfl,hS,hR⟩:=h2.at_ hj'
  refine ⟨fun D b0 bT bX ci cf cF cd bZ dz dr dC w_=>(D 0=true->dC=.pointer (some ⟨b3,4,none⟩))/\(D 1=true->dr=kvc)/\(D 2=true->dz=.pointer (some ⟨b1,4,none⟩))/\(D 3=true->bZ=.slice (some ⟨b,o,none⟩) (c0.body).length cap)/\(D 4=true->cd=.int .i64 j)/\(D 5=true->cF=.pointer (some ⟨b,o+j * 4,none⟩))/\(D 6=true->cf=.agg (bv c (o+j * 4) 4).toArray)/\(D 7=true->True)/\(D 8=true->True)/\(D 9=true->True)/\(D 10=true->b0=.pointer (some ⟨b3,4,none⟩))/\(D 11=true->True)/\∃ M cs7 b8,(D 7=true->ci=.agg cs7.toArray/\TrT M cs7 (c0.body)[j])/\(D 8=true->bX=.slice (some ⟨b8,0,none⟩) 1 1)/\(D 8=true->D 7=true)/\(D 9=true->D 8=true)/\(D 11=true->D 9=true)/\(D 11=true->D 1=true)/\Inv w [] (bu (.blk b1 (.cells #[.int .i64 c0.head.kind,.int .i64 c0.head.n,.string c0.head.name,kv,.slice (some ⟨b,o,none⟩) c0.body.length cap] aR)) (.blk b2 (.cells #[.int .i64 0,.int .i64 0,.string ⟨#[]⟩,.slice none 0 0,.slice none 0 0] aR)) (.blk b3 (.cells #[.int .i64 c0.head.kind,.int .i64 c0.head.n,.string c0.head.name,kh,kvc] aR)) (.blk b3 (.cells #[.int .i64 c0.head.kind,.int .i64 c0.head.n,.string c0.head.name,kh,bT] aR)) (bj kvc ac 4 css) (bj bT ac 4 (css++[cs7])) (bS (N::Ls).flatten) M (.blk b8 (.cells cs7.toArray ac)) (D 7) (D 8) (D 9) (D 11)) S w_,⟨ae,ae,ae,ae,ae,ae,ae,ae,ae,ae,ae,ae,⟨[],[],0,ae,ae,ae,ae,ae,ae,by simpa [bu,bS] using hI.draw⟩⟩,⟨?_,?_,?_,?_,?_,?_,?_,?_,?_,?_,?_,?_,trivial⟩,?_⟩
  ·intro D aY  b0 bT bX ci cf cF cd bZ dz dr dC w_
   rintro ⟨az,ay,aA,aB,aw,aD,aE,aI,aL,aP,aj,ao,⟨M,cs7,b8,e7,e8,k8,k9,k11,k1,hI⟩⟩
   refine bg bp ?_
   exact ⟨fun _=>rfl,ay,aA,aB,aw,aD,aE,aI,aL,aP,aj,ao,⟨M,cs7,b8,e7,e8,k8,k9,k11,k1,hI⟩⟩
  ·intro D aY ce b0 bT bX ci cf cF cd bZ dz dr dC w_
   rintro ⟨az,ay,aA,aB,aw,aD,aE,aI,aL,aP,aj,ao,⟨M,cs7,b8,e7,e8,k8,k9,k11,k1,hI⟩⟩
   obtain rfl:=az ce
   have f11:D 11=false:=Bool.eq_false_iff.2 fun h=>by rw [k1 h] at aY; cases aY
   refine bE (b:=b3) hI 2 (c:=(#[.int .i64 c0.head.kind,.int .i64 c0.head.n,.string c0.head.name,kh,kvc])) aQ (by rw [f11]; rfl) rfl ?_
   have k1:=fun (_:aC D 1 11=true)=>(rfl:aC D 1 1=true)
   exact ⟨az,fun _=>rfl,aA,aB,aw,aD,aE,aI,aL,aP,aj,ao,⟨M,cs7,b8,e7,e8,k8,k9,k11,k1,hI⟩⟩
  ·intro D aY  b0 bT bX ci cf cF cd bZ dz dr dC w_
   rintro ⟨az,ay,aA,aB,aw,aD,aE,aI,aL,aP,aj,ao,⟨M,cs7,b8,e7,e8,k8,k9,k11,k1,hI⟩⟩
   refine bg bp ?_
   exact ⟨az,ay,fun _=>rfl,aB,aw,aD,aE,aI,aL,aP,aj,ao,⟨M,cs7,b8,e7,e8,k8,k9,k11,k1,hI⟩⟩
  ·intro D aY ev b0 bT bX ci cf cF cd bZ dz dr dC w_
   rintro ⟨az,ay,aA,aB,aw,aD,aE,aI,aL,aP,aj,ao,⟨M,cs7,b8,e7,e8,k8,k9,k11,k1,hI⟩⟩
   obtain rfl:=aA ev
   refine bE hI 0 aQ rfl rfl ?_
   exact ⟨az,ay,aA,fun _=>rfl,aw,aD,aE,aI,aL,aP,aj,ao,⟨M,cs7,b8,e7,e8,k8,k9,k11,k1,hI⟩⟩
  ·intro D aY  b0 bT bX ci cf cF cd bZ dz dr dC w_
   rintro ⟨az,ay,aA,aB,aw,aD,aE,aI,aL,aP,aj,ao,⟨M,cs7,b8,e7,e8,k8,k9,k11,k1,hI⟩⟩
   exact ⟨az,ay,aA,aB,fun _=>rfl,aD,aE,aI,aL,aP,aj,ao,⟨M,cs7,b8,e7,e8,k8,k9,k11,k1,hI⟩⟩
  ·intro D aY dF dS b0 bT bX ci cf cF cd bZ dz dr dC w_
   rintro ⟨az,ay,aA,aB,aw,aD,aE,aI,aL,aP,aj,ao,⟨M,cs7,b8,e7,e8,k8,k9,k11,k1,hI⟩⟩
   obtain rfl:=aB dF
   obtain rfl:=aw dS
   refine bh av hj' ?_
   exact ⟨az,ay,aA,aB,aw,fun _=>rfl,aE,aI,aL,aP,aj,ao,⟨M,cs7,b8,e7,e8,k8,k9,k11,k1,hI⟩⟩
  ·intro D aY dV b0 bT bX ci cf cF cd bZ dz dr dC w_
   rintro ⟨az,ay,aA,aB,aw,aD,aE,aI,aL,aP,aj,ao,⟨M,cs7,b8,e7,e8,k8,k9,k11,k1,hI⟩⟩
   obtain rfl:=aD dV
   refine cJ al hR.length (fun j v hj=>by rw [hI.cellS hS]; exact bl rfl j v hj) ?_
   exact ⟨az,ay,aA,aB,aw,aD,fun _=>rfl,aI,aL,aP,aj,ao,⟨M,cs7,b8,e7,e8,k8,k9,k11,k1,hI⟩⟩
  ·intro D aY c9 b0 bT bX ci cf cF cd bZ dz dr dC w_
   rintro ⟨az,ay,aA,aB,aw,aD,aE,aI,aL,aP,aj,ao,⟨M,cs7,b8,e7,e8,k8,k9,k11,k1,hI⟩⟩
   obtain rfl:=aE c9
   have f8:D 8=false:=Bool.eq_false_iff.2 fun h=>by rw [k8 h] at aY; cases aY
   have f9:D 9=false:=Bool.eq_false_iff.2 fun h=>by rw [k9 h] at f8; cases f8
   have f11:D 11=false:=Bool.eq_false_iff.2 fun h=>by rw [k11 h] at f9; cases f9
   rw [aY,f8,f9,f11] at hI
   refine Run.call0 fi fj hI (fT _ S _ hR (by omega)) fun v' I' S w_=>?_
   rintro ⟨rfl,cs7,M,rfl,rfl,hT⟩ _ hI
   have e7:aC D 7 7=true->Value.agg cs7.toArray=Value.agg cs7.toArray/\TrT M cs7 (c0.body)[j]:=fun _=>⟨rfl,hT⟩
   have k8:=fun (_:aC D 7 8=true)=>(rfl:aC D 7 7=true)
   have hI:Inv w [] (bu (.blk b1 (.cells #[.int .i64 c0.head.kind,.int .i64 c0.head.n,.string c0.head.name,kv,.slice (some ⟨b,o,none⟩) c0.body.length cap] aR)) (.blk b2 (.cells #[.int .i64 0,.int .i64 0,.string ⟨#[]⟩,.slice none 0 0,.slice none 0 0] aR)) (.blk b3 (.cells #[.int .i64 c0.head.kind,.int .i64 c0.head.n,.string c0.head.name,kh,kvc] aR)) (.blk b3 (.cells #[.int .i64 c0.head.kind,.int .i64 c0.head.n,.string c0.head.name,kh,bT] aR)) (bj kvc ac 4 css) (bj bT ac 4 (css++[cs7])) (bS (N::Ls).flatten) M (.blk b8 (.cells cs7.toArray ac)) true (D 8) (D 9) (D 11)) S w_:=by
    rw [f8,f9,f11]
    simpa [bu] using hI
   exact ⟨az,ay,aA,aB,aw,aD,aE,fun _=>by first|assumption|trivial,aL,aP,aj,ao,⟨M,cs7,b8,e7,e8,k8,k9,k11,k1,hI⟩⟩
  ·intro D aY el b0 bT bX ci cf cF cd bZ dz dr dC w_
   rintro ⟨az,ay,aA,aB,aw,aD,aE,aI,aL,aP,aj,ao,⟨M,cs7,b8,e7,e8,k8,k9,k11,k1,hI⟩⟩
   have NY:=aI el
   have f9:D 9=false:=Bool.eq_false_iff.2 fun h=>by rw [k9 h] at aY; cases aY
   have f11:D 11=false:=Bool.eq_false_iff.2 fun h=>by rw [k11 h] at f9; cases f9
   obtain ⟨q7,hT⟩:=e7 el
   subst q7
   rw [el,aY,f9,f11] at hI
   refine fl hI bM (by simp [Value.cells,hT.length]) (by omega) (by omega) fun b8 w_ hI=>?_
   have e7:aC D 8 7=true->Value.agg cs7.toArray=Value.agg cs7.toArray/\TrT M cs7 (c0.body)[j]:=fun _=>⟨rfl,hT⟩
   have e8:=fun (_:aC D 8 8=true)=>(rfl:Value.slice (some ⟨b8,0,none⟩) 1 1=_)
   have k8:=fun (_:aC D 8 8=true)=>el
   have k9:=fun (_:aC D 8 9=true)=>(rfl:aC D 8 8=true)
   have hI:Inv w [] (bu (.blk b1 (.cells #[.int .i64 c0.head.kind,.int .i64 c0.head.n,.string c0.head.name,kv,.slice (some ⟨b,o,none⟩) c0.body.length cap] aR)) (.blk b2 (.cells #[.int .i64 0,.int .i64 0,.string ⟨#[]⟩,.slice none 0 0,.slice none 0 0] aR)) (.blk b3 (.cells #[.int .i64 c0.head.kind,.int .i64 c0.head.n,.string c0.head.name,kh,kvc] aR)) (.blk b3 (.cells #[.int .i64 c0.head.kind,.int .i64 c0.head.n,.string c0.head.name,kh,bT] aR)) (bj kvc ac 4 css) (bj bT ac 4 (css++[cs7])) (bS (N::Ls).flatten) M (.blk b8 (.cells cs7.toArray ac)) (D 7) true (D 9) (D 11)) S w_:=by
    rw [el,f9,f11]
    simpa [bu,Value.cells] using hI
   exact ⟨az,ay,aA,aB,aw,aD,aE,aI,fun _=>by first|assumption|trivial,aP,aj,ao,⟨M,cs7,b8,e7,e8,k8,k9,k11,k1,hI⟩⟩
  ·intro D aY dI gh pA b0 bT bX ci cf cF cd bZ dz dr dC w_
   rintro ⟨az,ay,aA,aB,aw,aD,aE,aI,aL,aP,aj,ao,⟨M,cs7,b8,e7,e8,k8,k9,k11,k1,hI⟩⟩
   obtain rfl:=ay dI
   have O1:=aL gh
   have f11:D 11=false:=Bool.eq_false_iff.2 fun h=>by rw [k11 h] at aY; cases aY
   have q8:=e8 gh
   subst q8
   obtain ⟨_,hT⟩:=e7 pA
   rw [pA,gh,aY,f11] at hI
   have hblk:((bu (.blk b1 (.cells #[.int .i64 c0.head.kind,.int .i64 c0.head.n,.string c0.head.name,kv,.slice (some ⟨b,o,none⟩) c0.body.length cap] aR)) (.blk b2 (.cells #[.int .i64 0,.int .i64 0,.string ⟨#[]⟩,.slice none 0 0,.slice none 0 0] aR)) (.blk b3 (.cells #[.int .i64 c0.head.kind,.int .i64 c0.head.n,.string c0.head.name,kh,dr] aR)) (.blk b3 (.cells #[.int .i64 c0.head.kind,.int .i64 c0.head.n,.string c0.head.name,kh,bT] aR)) (bj dr ac 4 css) (bj bT ac 4 (css++[cs7])) (bS (N::Ls).flatten) M (.blk b8 (.cells cs7.toArray ac)) true true false false))[4+(bS (N::Ls).flatten).length+(bS M).length]?=some (.blk b8 (.cells cs7.toArray ac)):=by
    have e4:4+(bS (N::Ls).flatten).length+(bS M).length=((bS (N::Ls).flatten).length+(bS M).length)+1+1+1+1:=by omega
    rw [e4]
    simp only [bu,List.getElem?_cons_succ]
    rw [List.getElem?_append_right (by omega),Nat.add_sub_cancel_left,List.getElem?_append_right (Nat.le_refl _),Nat.sub_self]; rfl
   refine fE hI 3 cs7 bM (by omega) rfl (by rw [hT.length]) (m:=1) (o:=0) ?_ hT.one (by omega) (by omega) fun v' w_ hI=>?_
   ·intro i u hi
    rw [hI.cellL hblk,Nat.zero_add]
    simpa using hi
   rw [ge] at hI
   have k9:=fun (_:aC D 9 9=true)=>gh
   have k11:=fun (_:aC D 9 11=true)=>(rfl:aC D 9 9=true)
   have hI:Inv w [] (bu (.blk b1 (.cells #[.int .i64 c0.head.kind,.int .i64 c0.head.n,.string c0.head.name,kv,.slice (some ⟨b,o,none⟩) c0.body.length cap] aR)) (.blk b2 (.cells #[.int .i64 0,.int .i64 0,.string ⟨#[]⟩,.slice none 0 0,.slice none 0 0] aR)) (.blk b3 (.cells #[.int .i64 c0.head.kind,.int .i64 c0.head.n,.string c0.head.name,kh,dr] aR)) (.blk b3 (.cells #[.int .i64 c0.head.kind,.int .i64 c0.head.n,.string c0.head.name,kh,v'] aR)) (bj dr ac 4 css) (bj v' ac 4 (css++[cs7])) (bS (N::Ls).flatten) M (.blk b8 (.cells cs7.toArray ac)) (D 7) (D 8) true (D 11)) S w_:=by
    rw [pA,gh,f11]
    exact hI
   exact ⟨az,ay,aA,aB,aw,aD,aE,aI,aL,fun _=>by first|assumption|trivial,aj,ao,⟨M,cs7,b8,e7,e8,k8,k9,k11,k1,hI⟩⟩
  ·intro D aY ce iL A8 EL Am Jm LM NN Pl Pq b0 bT bX ci cf cF cd bZ dz dr dC w_
   rintro ⟨az,ay,aA,aB,aw,aD,aE,aI,aL,aP,aj,ao,⟨M,cs7,b8,e7,e8,k8,k9,k11,k1,hI⟩⟩
   refine bg bp ?_
   exact ⟨az,ay,aA,aB,aw,aD,aE,aI,aL,aP,fun _=>rfl,ao,⟨M,cs7,b8,e7,e8,k8,k9,k11,k1,hI⟩⟩
  ·intro D aY gH fw LG FI m0 Ei zB Bi EW Mi mo ph NE b0 bT bX ci cf cF cd bZ dz dr dC w_
   rintro ⟨az,ay,aA,aB,aw,aD,aE,aI,aL,aP,aj,ao,⟨M,cs7,b8,e7,e8,k8,k9,k11,k1,hI⟩⟩
   obtain rfl:=aj gH
   have Pv:=aP fw
   rw [mo,ph,fw,aY] at hI
   obtain ⟨va,vn,vc,hv9⟩:=Inv.rowSlice hI 3 rfl
   refine eq hI 2 (n:=1) (by rw [hv9]; rfl) (by decide +kernel) rfl (by simp) (by rw [hv9]; simp [Value.cells,Value.oneCell']) fun w_ hI=>?_
   have hcl9:Value.cells bT=#[bT]:=by rw [hv9]; rfl
   rw [hcl9] at hI
   have k1:=fun (_:aC D 11 11=true)=>m0
   have k11:=fun (_:aC D 11 11=true)=>fw
   have hI:Inv w [] (bu (.blk b1 (.cells #[.int .i64 c0.head.kind,.int .i64 c0.head.n,.string c0.head.name,kv,.slice (some ⟨b,o,none⟩) c0.body.length cap] aR)) (.blk b2 (.cells #[.int .i64 0,.int .i64 0,.string ⟨#[]⟩,.slice none 0 0,.slice none 0 0] aR)) (.blk b3 (.cells #[.int .i64 c0.head.kind,.int .i64 c0.head.n,.string c0.head.name,kh,kvc] aR)) (.blk b3 (.cells #[.int .i64 c0.head.kind,.int .i64 c0.head.n,.string c0.head.name,kh,bT] aR)) (bj kvc ac 4 css) (bj bT ac 4 (css++[cs7])) (bS (N::Ls).flatten) M (.blk b8 (.cells cs7.toArray ac)) (D 7) (D 8) (D 9) true) S w_:=by
    rw [mo,ph,fw]
    exact hI
   exact ⟨az,ay,aA,aB,aw,aD,aE,aI,aL,aP,aj,fun _=>trivial,⟨M,cs7,b8,e7,e8,k8,k9,k11,k1,hI⟩⟩
  intro D ft fm iW gN f0 f1 fM fF fI fK fL fN b0 bT bX ci cf cF cd bZ dz dr dC w_
  rintro ⟨az,ay,aA,aB,aw,aD,aE,aI,aL,aP,aj,ao,⟨M,cs7,b8,e7,e8,k8,k9,k11,k1,hI⟩⟩
  obtain rfl:=aj fm
  have Pv:=aP iW
  have O1:=aL gN
  have NY:=aI f0
  obtain rfl:=aE f1
  obtain rfl:=aD fM
  obtain rfl:=aw fF
  obtain rfl:=aB fI
  obtain rfl:=aA fK
  obtain rfl:=ay fL
  obtain rfl:=az fN
  clear az ay aA aB aw aD aE aI aL aP aj ao
  obtain ⟨_,hT⟩:=e7 f0
  rw [f0,gN,iW,ft] at hI
  refine bP (by omega) ?_
  refine ⟨⟨j+1,bT,Ls++[M],css++[cs7],hj',rfl,?_,?_⟩,by simp [intOf]; omega⟩
  ·rw [List.take_succ_eq_append_getElem hj']
   exact hg.snoc hT hT.length
  ·rw [<- List.cons_append,List.flatten_append,ff]
   simp only [List.flatten_cons,List.flatten_nil,List.append_nil]
   refine hI.sub ?_
   simp only [bu,List.flatten_cons]
   rw [<- List.append_assoc]
   exact (((List.sublist_append_left _ _).cons_cons _).cons_cons _).cons_cons _ |>.cons_cons _
 ·have:j=c0.body.length:=by omega
  subst this
  rw [List.take_length] at hg
  obtain ⟨va,vn,vc,hvk⟩:=hI.rowSlice 3 rfl
  have hv1:kvc.oneCell'=true:=by rw [hvk]; rfl
  have o1:kh.oneCell'=true:=hT1.one kh (by simp)
  refine bb hI 2 bF rfl rfl ?_
  refine bf hI 1 rfl bF rfl rfl ?_ fun w' hI=>?_
  ·intro u hu
   have hu':u∈([.int .i64 c0.head.kind,.int .i64 c0.head.n,.string c0.head.name,kh,kvc]:List Value):=hu
   simp at hu'
   rcases hu' with rfl|rfl|rfl|rfl|rfl <;> first|rfl|exact o1|exact hv1
  refine cH hI 1 bF rfl rfl ?_
  have hI:Inv w [] (bj kvc ac 4 css::bS (N::Ls).flatten) S w':=hI.sub (List.sublist_append_right [_,_,_] _)
  have hI:Inv w [] ([bj kvc ac 4 css]++bS (N::Ls).flatten) S w':=hI
  obtain ⟨S1,hI,hE,hins⟩:=hI.pubExt
  rw [List.flatten_cons] at hins
  exact ⟨_,_,S1,rfl,hI,hE,_,kvc,css,rfl,hT1.rd hins.left,rfl,hg.rows hins.right fun _ _ _ hi h=>h.rd hi⟩
end
end Go.Proofs.YtemmhhdnlbmicaaGreat

/- Texts written: spec.l2Text and its kin, l4Text, FormatClause. -/
import Derived.Test.YtemmhhdnlbmicaaGreatZMg4
import Derived.Test.YtemmhhdnlbmicaaGreatZMg5
import Derived.Test.YtemmhhdnlbmicaaGreatZMg2
import Derived.Test.YtemmhhdnlbmicaaGreatZMg3
namespace Go.Proofs.YtemmhhdnlbmicaaGreat
open Go Go.RowKit
theorem Mr:Tryz.prog.underlying Hx=some (.slice E7):=by kernel_rfl
section
variable {w:World} {S:az}
attribute [local irreducible] Run CondV aj bd
theorem gX {t:T} {cs:List Value} (h:RdT S cs t):Pure Tryz.prog IL [.agg cs.toArray] S (.bool (tG t)):=by
 intro w hI
 obtain ⟨kv,rfl,_,_,_,hk⟩:=RdT.iff.1 h
 obtain ⟨ka,kc,rfl,_⟩:=id hk
 refine zo ?_
 unfold wi;dsimp only
 refine bM hI fun b1 w' hI=>?_
 refine aI hI 0 rfl bx bn rfl ?_
 by_cases h3:t.kind=3
 ·refine fM h3 ?_
  repeat (first|refine ad ?_|refine af (by decide) ?_|refine ac ?_|refine ah ?_|refine ag ?_)
  refine aI hI 0 rfl bo bl rfl ?_
  refine cL (b:=st [46]) ?_
  cases hn:decide (t.name=st [46])
  ·repeat (first|refine ad ?_|refine af (by decide) ?_|refine ac ?_|refine ah ?_|refine ag ?_)
   exact done hI (by rw [tG,hn,Bool.false_and,Bool.and_false])
  ·repeat (first|refine ad ?_|refine af (by decide) ?_|refine ac ?_|refine ah ?_|refine ag ?_)
   refine aI hI 0 rfl aT aP rfl ?_
   refine fx av ?_
   refine bO ?_
   repeat (first|refine ad ?_|refine af (by decide) ?_|refine ac ?_|refine ah ?_|refine ag ?_)
   refine done hI ?_
   rw [tG,hn,decide_eq_true h3,Bool.true_and,Bool.true_and]
   congr 1
   rw [decide_eq_decide]
   omega
 ·refine er h3 ?_
  repeat (first|refine ad ?_|refine af (by decide) ?_|refine ac ?_|refine ah ?_|refine ag ?_)
  exact done hI (by rw [tG,decide_eq_false h3,Bool.false_and])
theorem BR {t:T} {cs:List Value} (h:RdT S cs t):Pure Tryz.prog Ky [.agg cs.toArray] S (.bool (Mz t)):=by
 intro w hI
 obtain ⟨kv,rfl,_,_,_,hk⟩:=RdT.iff.1 h
 obtain ⟨ka,kc,rfl,_⟩:=id hk
 refine Be ?_
 unfold zT;dsimp only
 refine bM hI fun b1 w' hI=>?_
 refine aI hI 0 rfl bx bn rfl ?_
 by_cases h3:t.kind=3
 ·refine fM h3 ?_
  repeat (first|refine ad ?_|refine af (by decide) ?_|refine ac ?_|refine ah ?_|refine ag ?_)
  refine aI hI 0 rfl bo bl rfl ?_
  refine cL (b:=st [91,93]) ?_
  cases hn:decide (t.name=st [91,93])
  ·repeat (first|refine ad ?_|refine af (by decide) ?_|refine ac ?_|refine ah ?_|refine ag ?_)
   exact done hI (by rw [Mz,hn,Bool.false_and,Bool.and_false])
  ·repeat (first|refine ad ?_|refine af (by decide) ?_|refine ac ?_|refine ah ?_|refine ag ?_)
   refine aI hI 0 rfl aT aP rfl ?_
   refine fx av ?_
   refine bO ?_
   repeat (first|refine ad ?_|refine af (by decide) ?_|refine ac ?_|refine ah ?_|refine ag ?_)
   refine done hI ?_
   rw [Mz,hn,decide_eq_true h3,Bool.true_and,Bool.true_and]
   congr 1
   rw [decide_eq_decide]
   omega
 ·refine er h3 ?_
  repeat (first|refine ad ?_|refine af (by decide) ?_|refine ac ?_|refine ah ?_|refine ag ?_)
  exact done hI (by rw [Mz,decide_eq_false h3,Bool.false_and])
theorem nn {t:T} {cs:List Value} (h:RdT S cs t):Pure Tryz.prog Ht [.agg cs.toArray] S (.bool (mP t)):=by
 intro w hI
 obtain ⟨kv,rfl,_,_,_,hk⟩:=RdT.iff.1 h
 obtain ⟨ka,kc,rfl,_⟩:=id hk
 refine xX ?_
 unfold rT;dsimp only
 refine bM hI fun b1 w' hI=>?_
 refine aI hI 0 rfl bx bn rfl ?_
 by_cases h3:t.kind=3
 ·refine fM h3 ?_
  repeat (first|refine ad ?_|refine af (by decide) ?_|refine ac ?_|refine ah ?_|refine ag ?_)
  refine aI hI 0 rfl aT aP rfl ?_
  refine fx av ?_
  by_cases hn:t.kids.length=2
  ·refine fM (by omega) ?_
   repeat (first|refine ad ?_|refine af (by decide) ?_|refine ac ?_|refine ah ?_|refine ag ?_)
   refine aI hI 0 rfl bo bl rfl ?_
   refine Run.callPure fO fL hI (ey _ S) fun w' hI=>?_
   refine d6 ?_
   repeat (first|refine ad ?_|refine af (by decide) ?_|refine ac ?_|refine ah ?_|refine ag ?_)
   exact done hI (by rw [mP,decide_eq_true h3,decide_eq_true hn,Bool.true_and,Bool.true_and])
  ·refine er (by omega) ?_
   repeat (first|refine ad ?_|refine af (by decide) ?_|refine ac ?_|refine ah ?_|refine ag ?_)
   exact done hI (by rw [mP,decide_eq_false hn,Bool.false_and,Bool.and_false])
 ·refine er h3 ?_
  repeat (first|refine ad ?_|refine af (by decide) ?_|refine ac ?_|refine ah ?_|refine ag ?_)
  exact done hI (by rw [mP,decide_eq_false h3,Bool.false_and])
theorem pb {t:T} {cs:List Value} (h:RdT S cs t):Pure Tryz.prog Ij [.agg cs.toArray] S (.bool (wj t)):=by
 intro w hI
 obtain ⟨kv,rfl,_,_,_,hk⟩:=RdT.iff.1 h
 obtain ⟨ka,kc,rfl,_⟩:=id hk
 refine zL ?_
 unfold wJ;dsimp only
 refine bM hI fun b1 w' hI=>?_
 refine aI hI 0 rfl bx bn rfl ?_
 by_cases h3:t.kind=3
 ·refine fM h3 ?_
  repeat (first|refine ad ?_|refine af (by decide) ?_|refine ac ?_|refine ah ?_|refine ag ?_)
  refine aI hI 0 rfl aT aP rfl ?_
  refine fx av ?_
  by_cases hn:t.kids.length=0
  ·refine fM (by omega) ?_
   repeat (first|refine ad ?_|refine af (by decide) ?_|refine ac ?_|refine ah ?_|refine ag ?_)
   refine aI hI 0 rfl bo bl rfl ?_
   refine Run.callPure fO fL hI (ey _ S) fun w' hI=>?_
   refine d6 ?_
   repeat (first|refine ad ?_|refine af (by decide) ?_|refine ac ?_|refine ah ?_|refine ag ?_)
   exact done hI (by rw [wj,decide_eq_true h3,decide_eq_true hn,Bool.true_and,Bool.true_and])
  ·refine er (by omega) ?_
   repeat (first|refine ad ?_|refine af (by decide) ?_|refine ac ?_|refine ah ?_|refine ag ?_)
   exact done hI (by rw [wj,decide_eq_false hn,Bool.false_and,Bool.and_false])
 ·refine er h3 ?_
  repeat (first|refine ad ?_|refine af (by decide) ?_|refine ac ?_|refine ah ?_|refine ag ?_)
  exact done hI (by rw [wj,decide_eq_false h3,Bool.false_and])
theorem AJ (n:Bs) (hn:n.length<=1000000):Pure Tryz.prog Ex [.string (st n)] S (.string (st (g7 n))):=by
 intro w hI
 refine vp ?_
 unfold ql
 refine ⟨fun b w'=>b=.bool (decide (n=[105,115]) || decide (n=[109,111,100]))/\Inv w [] [] S w',?_,?_⟩
 ·refine zE (b:=[105,115]) ?_
  cases h5:decide (n=[105,115])
  ·repeat (first|refine ad ?_|refine af (by decide) ?_|refine ac ?_|refine ah ?_|refine ag ?_)
   refine zE (b:=[109,111,100]) ?_
   repeat (first|refine ad ?_|refine af (by decide) ?_|refine ac ?_|refine ah ?_|refine ag ?_)
   exact ⟨by rw [Bool.false_or],hI⟩
  ·repeat (first|refine ad ?_|refine af (by decide) ?_|refine ac ?_|refine ah ?_|refine ag ?_)
   exact ⟨by rw [Bool.true_or],hI⟩
 intro t8 _ _ _ _ _ w'
 rintro ⟨rfl,hI⟩
 refine a8 (fun hb=>?_) (fun hb=>?_)
 ·rw [Bool.or_eq_true,decide_eq_true_eq,decide_eq_true_eq] at hb
  refine dO (a:=[32]) (by simp; omega) ?_
  refine dO (b:=[32]) (by simp; omega) ?_
  exact done hI (by rw [g7,if_pos hb]; rfl)
 ·rw [Bool.or_eq_false_iff,decide_eq_false_iff_not,decide_eq_false_iff_not] at hb
  exact done hI (by rw [g7,if_neg (by rintro (h|h); exact hb.1 h; exact hb.2 h)])
theorem Bm (s:Bs) (h0:0<s.length):Pure Tryz.prog Hl [.string (st s)] S (.bool (ET s)):=by
 intro w hI
 refine xJ ?_
 unfold sk;dsimp only
 have e1:ET s=(sml s 0 || (dig s 0 || (upp s 0 || (sgn s 0 91 || sgn s 0 40)))):=rfl
 have eu:upp s 0=(decide (65<=s[0].toNat) && decide (s[0].toNat<=90)):=jd h0 65 90
 have ea:sgn s 0 91=decide (s[0].toNat=91):=g5 h0 91
 have eb:sgn s 0 40=decide (s[0].toNat=40):=g5 h0 40
 refine Run.callPure r2 tn hI (np s 0 S) fun w' hI=>?_
 cases hs:sml s 0
 ·repeat (first|refine ad ?_|refine af (by decide) ?_|refine ac ?_|refine ah ?_|refine ag ?_)
  refine Run.callPure gw gv hI (eY s 0 S) fun w' hI=>?_
  cases hd:dig s 0
  ·repeat (first|refine ad ?_|refine af (by decide) ?_|refine ac ?_|refine ah ?_|refine ag ?_)
   refine ec (i:=0) bg h0 ?_
   rw [hs,hd,Bool.false_or,Bool.false_or] at e1
   by_cases h65:65<=s[0].toNat
   ·refine lu (by omega) ?_
    repeat (first|refine ad ?_|refine af (by decide) ?_|refine ac ?_|refine ah ?_|refine ag ?_)
    refine ec (i:=0) bg h0 ?_
    by_cases h90:s[0].toNat<=90
    ·refine zS (by omega) ?_
     repeat (first|refine ad ?_|refine af (by decide) ?_|refine ac ?_|refine ah ?_|refine ag ?_)
     exact done hI (by rw [e1,eu,decide_eq_true h65,decide_eq_true h90]; rfl)
    ·refine Ma (by omega) ?_
     repeat (first|refine ad ?_|refine af (by decide) ?_|refine ac ?_|refine ah ?_|refine ag ?_)
     refine ec (i:=0) bg h0 ?_
     by_cases h91:s[0].toNat=91
     ·refine fM (by omega) ?_
      repeat (first|refine ad ?_|refine af (by decide) ?_|refine ac ?_|refine ah ?_|refine ag ?_)
      exact done hI (by rw [e1,ea,decide_eq_true h91,Bool.true_or,Bool.or_true])
     ·refine er (by omega) ?_
      repeat (first|refine ad ?_|refine af (by decide) ?_|refine ac ?_|refine ah ?_|refine ag ?_)
      refine ec (i:=0) bg h0 ?_
      refine er (by omega) ?_
      repeat (first|refine ad ?_|refine af (by decide) ?_|refine ac ?_|refine ah ?_|refine ag ?_)
      exact done hI (by rw [e1,eu,ea,eb,decide_eq_false h90,decide_eq_false h91,decide_eq_false (show ¬ s[0].toNat=40 by omega),Bool.and_false]; rfl)
   ·refine pa (by omega) ?_
    repeat (first|refine ad ?_|refine af (by decide) ?_|refine ac ?_|refine ah ?_|refine ag ?_)
    refine ec (i:=0) bg h0 ?_
    refine er (by omega) ?_
    repeat (first|refine ad ?_|refine af (by decide) ?_|refine ac ?_|refine ah ?_|refine ag ?_)
    refine ec (i:=0) bg h0 ?_
    by_cases h40:s[0].toNat=40
    ·refine fM (by omega) ?_
     repeat (first|refine ad ?_|refine af (by decide) ?_|refine ac ?_|refine ah ?_|refine ag ?_)
     exact done hI (by rw [e1,eb,decide_eq_true h40,Bool.or_true,Bool.or_true])
    ·refine er (by omega) ?_
     repeat (first|refine ad ?_|refine af (by decide) ?_|refine ac ?_|refine ah ?_|refine ag ?_)
     exact done hI (by rw [e1,eu,ea,eb,decide_eq_false h65,decide_eq_false (show ¬ s[0].toNat=91 by omega),decide_eq_false h40,Bool.false_and]; rfl)
  ·repeat (first|refine ad ?_|refine af (by decide) ?_|refine ac ?_|refine ah ?_|refine ag ?_)
   exact done hI (by rw [e1,hd,Bool.true_or,Bool.or_true])
 ·repeat (first|refine ad ?_|refine af (by decide) ?_|refine ac ?_|refine ah ?_|refine ag ?_)
  exact done hI (by rw [e1,hs,Bool.true_or])
theorem Ac {n:Int} (h:0<=n/\n<=25):Pure Tryz.prog D7 [.int .i64 n] S (.string (st [UInt8.ofNat (65+n.toNat)])):=by
 intro w hI
 refine vw ?_
 unfold qJ
 refine mx jc fQ (IntWalk.u8_in _ (by omega)) ?_
 refine Nr (c:=((65+n.toNat:Nat):Int)) ?_ ?_
 ·rw [IntWalk.u8_in _ (by omega)]; omega
 refine yY hI vA Mr fQ bg fun w' hI=>?_
 exact done hI rfl
theorem Gf:∀ (f n:Nat) (out r:Bs),Cs f n out=some r->out.length<r.length/\r.length<=out.length+f
 | 0,_,_,_,h=>by simp [Cs] at h
 | f+1,n,out,r,h=>by
  rw [Cs] at h
  split at h
  ·have:=Gf f _ _ _ h
   simp only [List.length_cons] at this
   omega
  ·simp only [Option.some.injEq] at h
   subst h
   simp only [List.length_cons]
   omega
theorem s8 {f n:Nat} {r:Bs} (h:Cs f n []=some r) (hn:n<=100000) (hf:f<=1000):Pure Tryz.prog Ia [.int .i64 (n:Int)] S (.string (st r)):=by
 intro w hI
 refine Ax ?_
 unfold wl
 refine eD (by omega) ?_
 refine a8 (fun hb=>by cases hb) (fun _=>?_)
 refine eD (by omega) ?_
 refine a8 (fun hb=>by cases hb) (fun _=>?_)
 refine ⟨fun a b w'=>∃ (f' m:Nat) (out:Bs),a=.int .i64 (m:Int)/\b=.string (st out)/\m<=100000/\out.length+f'<=1000/\Cs f' m out=some r/\Inv w [] [] S w',fun a _ _=>(intOf a).toNat,⟨f,n,[],rfl,rfl,hn,by simpa using hf,h,hI⟩,?_⟩
 intro t0 _ _ t3 _ _ _ _ _ _ _ _ _ _ w'
 rintro ⟨f',m,out,rfl,rfl,hm,hof,hd,hI⟩
 cases f' with
 | zero=>simp [Cs] at hd
 | succ g=>
 rw [Cs] at hd
 split at hd
 ·rename_i h9
  refine Ih (by omega) ?_
  refine a8 (fun _=>?_) (fun hb=>by cases hb)
  refine HM (a:=m) (b:=10) rfl rfl (by omega) ?_
  refine ev (a:=48) (b:=m % 10) rfl rfl (by omega) ?_
  refine mx jc fQ (IntWalk.u8_in _ (by omega)) ?_
  refine yY hI vA Mr fQ bg fun w' hI=>?_
  refine dO (by simp; omega) ?_
  refine IH (a:=m) (b:=10) rfl rfl (by omega) (by omega) ?_
  refine ⟨⟨g,m / 10,UInt8.ofNat (48+m % 10)::out,rfl,rfl,by omega,by simp only [List.length_cons]; omega,hd,hI⟩,?_⟩
  simp only [intOf,Int.toNat_natCast]
  omega
 ·rename_i h9
  refine ki (by omega) ?_
  refine a8 (fun hb=>by cases hb) (fun _=>?_)
  refine ev (a:=48) (b:=m) rfl rfl (by omega) ?_
  refine mx jc fQ (IntWalk.u8_in _ (by omega)) ?_
  refine yY hI vA Mr fQ bg fun w' hI=>?_
  refine dO (by simp; omega) ?_
  simp only [Option.some.injEq] at hd
  exact done hI (by rw [<- hd]; rfl)
theorem Gw {n:Int} {r:Bs} (h:NH n=some r) (hn:-999<=n/\n<=999):Pure Tryz.prog Kc [.int .i64 n] S (.string (st r)):=by
 intro w hI
 refine Cc ?_
 unfold zv
 unfold NH at h
 split at h
 ·rename_i h0
  refine zy h0 ?_
  refine a8 (fun _=>?_) (fun hb=>by cases hb)
  refine Nf (by omega) ?_
  obtain ⟨m,hm⟩:∃ m:Nat,-n=(m:Int):=⟨(-n).toNat,by omega⟩
  rw [hm] at h ⊢
  rw [Int.toNat_natCast,Option.map_eq_some_iff] at h
  obtain ⟨l,hl,rfl⟩:=h
  have:=Gf _ _ _ _ hl
  refine Run.callPure wd wW hI (s8 hl (by omega) (by omega)) fun w' hI=>?_
  refine dO (a:=[45]) (by simp only [List.length_nil,List.length_cons] at this ⊢; omega) ?_
  exact done hI rfl
 ·rename_i h0
  refine eD h0 ?_
  refine a8 (fun hb=>by cases hb) (fun _=>?_)
  obtain ⟨m,rfl⟩:∃ m:Nat,n=(m:Int):=⟨n.toNat,by omega⟩
  rw [Int.toNat_natCast] at h
  refine Run.callPure wd wW hI (s8 h (by omega) (by omega)) fun w' hI=>?_
  exact done hI rfl
theorem tN {t:T} {cs:List Value} {x:Bs} (h:RdT S cs t) (hp:tG t=false) (hx:JX t=some x):Pure Tryz.prog AH [.agg cs.toArray] S (.string (st x)):=by
 intro w hI
 have h0:=h
 obtain ⟨kv,rfl,_,_,_,hk⟩:=RdT.iff.1 h
 obtain ⟨ka,kc,rfl,_⟩:=id hk
 refine pp ?_
 unfold n6
 unfold JX at hx
 refine bM hI fun b1 w' hI=>?_
 refine aI hI 0 rfl bx bn rfl ?_
 split at hx
 ·rename_i h1
  refine fM h1 ?_
  refine a8 (fun _=>?_) (fun hb=>by cases hb)
  refine aI hI 0 rfl bJ bn rfl ?_
  split at hx
  ·rename_i h2
   refine Run.callPure Cn BS hI (Ac h2) fun w' hI=>?_
   simp only [Option.some.injEq] at hx
   exact done hI (by rw [<- hx])
  ·cases hx
 ·rename_i h1
  refine er h1 ?_
  refine a8 (fun hb=>by cases hb) (fun _=>?_)
  split at hx
  ·rename_i h2
   refine fM h2 ?_
   refine a8 (fun _=>?_) (fun hb=>by cases hb)
   refine aI hI 0 rfl bJ bn rfl ?_
   split at hx
   ·rename_i h3
    refine Run.callPure I8 HP hI (Gw hx h3) fun w' hI=>?_
    exact done hI rfl
   ·cases hx
  ·rename_i h2
   refine er h2 ?_
   refine a8 (fun hb=>by cases hb) (fun _=>?_)
   split at hx
   ·rename_i h3
    simp only [Option.some.injEq] at hx
    refine ba hI 0 ai rfl rfl ?_
    refine Run.callPure lf kZ hI (gX h0) fun w' hI=>?_
    rw [hp]
    refine a8 (fun hb=>by cases hb) (fun _=>?_)
    refine aI hI 0 rfl bo bl rfl ?_
    refine ⟨fun a b w'=>a=.int .i64 0/\b=.string t.name/\Inv w [] [.blk b1 (.cells #[.int .i64 t.kind,.int .i64 t.n,.string t.name,.slice ka t.kids.length kc] ab)] S w',fun _ _ _=>0,⟨rfl,rfl,hI⟩,?_⟩
    intro t4 _ _ _ _ _ _ _ _ _ _ _ _ t3 _ _ _ _ _ _ _ _ _ w'
    rintro ⟨rfl,rfl,hI⟩
    refine aI hI 0 rfl aT aP rfl ?_
    refine fx av ?_
    refine eD (by omega) ?_
    refine a8 (fun hb=>by cases hb) (fun _=>?_)
    refine ⟨fun b w'=>b=.string t.name/\Inv w [] [.blk b1 (.cells #[.int .i64 t.kind,.int .i64 t.n,.string t.name,.slice ka t.kids.length kc] ab)] S w',?_,?_⟩
    ·refine aI hI 0 rfl aT aP rfl ?_
     refine fx av ?_
     refine ki (by omega) ?_
     refine a8 (fun hb=>by cases hb) (fun _=>?_)
     exact ⟨rfl,hI⟩
    intro t3 _ _ _ _ _ _ w'
    rintro ⟨rfl,hI⟩
    exact done hI (by rw [<- hx])
   ·cases hx
end
/- lengths -/
theorem CM:∀ (f:Nat) (l:List T) (out x:Bs),ni f l out=some x->out.length<=x.length
 | 0,_,_,_,h=>by simp [ni] at h
 | _+1,[],out,x,h=>by simp [ni] at h; subst h; exact Nat.le_refl _
 | f+1,t::l,out,x,h=>by
  rw [ni] at h
  split at h
  ·cases h
  ·have:=CM f _ _ _ h
   simp only [List.length_append] at this
   omega
def lenOf:Value->Nat
 | .slice _ n _=>n
 | _=>0
def xe (f:Nat):Prop:=∀ (t:T) (x:Bs) (S:az) (cs:List Value),Fa f t=some x->x.length<=1000000->RdT S cs t->Pure Tryz.prog HE [.agg cs.toArray] S (.string (st x))
def I7 (f:Nat):Prop:=∀ (t:T) (x:Bs) (S:az) (cs:List Value),C1 f t []=some x->x.length<=1000000->RdT S cs t->Pure Tryz.prog Jn [.agg cs.toArray] S (.string (st x))
def DA (f:Nat):Prop:=∀ (ts:List T) (x:Bs) (S:az) (u:Value),ni f ts []=some x->x.length<=1000000->RdSl S 4 (RdT S) u ts->Pure Tryz.prog Ii [u] S (.string (st x))
def pH (f:Nat):Prop:=∀ (t:T) (l:Int) (x:Bs) (S:az) (cs:List Value),o5 f t l=some x->x.length<=1000000->RdT S cs t->Pure Tryz.prog BT [.agg cs.toArray,.int .i64 l] S (.string (st x))
def Jl (f:Nat):Prop:=∀ (t:T) (l:Int) (x:Bs) (S:az) (cs:List Value),JG f t l=some x->x.length<=1000000->RdT S cs t->Pure Tryz.prog HF [.agg cs.toArray,.int .i64 l] S (.string (st x))
def E6 (f:Nat):Prop:=∀ (t:T) (l:Int) (x:Bs) (S:az) (cs:List Value),Fd f t l=some x->x.length<=1000000->RdT S cs t->Pure Tryz.prog FM [.agg cs.toArray,.int .i64 l] S (.string (st x))
section
attribute [local irreducible] Run CondV aj bd
theorem M4 {f:Nat} (ih:∀ g,g<f->xe g):DA f:=by
 intro ts x S u h hx hu w hI
 refine z1 ?_
 unfold v7
 refine ⟨fun a b w'=>∃ (f' j:Nat) (out acc:Bs),f'<=f/\j<=ts.length/\a=.int .i64 (j:Int)/\b=.string (st out)/\acc=out++(if 0<j/\j<ts.length then [44] else [])/\ni f' (ts.drop j) acc=some x/\Inv w [] [] S w',
  fun a _ _=>ts.length - (intOf a).toNat,⟨f,0,[],[],Nat.le_refl _,Nat.zero_le _,rfl,rfl,by simp,h,hI⟩,?_⟩
 intro t4 _ _ _ _ _ _ _ _ _ t3 _ _ _ _ _ _ _ _ w'
 rintro ⟨f',j,out,acc,hf',hj,rfl,rfl,hacc,ha,hI⟩
 cases f' with
 | zero=>simp [ni] at ha
 | succ g=>
 refine a9 hu av ?_
 refine bR ?_
 refine bk (fun hji=>?_) (fun hji=>?_)
 ·have hj':j<ts.length:=by omega
  rw [List.drop_eq_getElem_cons hj',ni] at ha
  split at ha
  ·cases ha
  rename_i y hy
  have hlen:=CM _ _ _ _ ha
  simp only [List.length_append] at hlen
  refine ⟨fun b w'=>b=.string (st acc)/\Inv w [] [] S w',?_,?_⟩
  ·refine d6 ?_
   refine bk (fun h0=>?_) (fun h0=>?_)
   ·rw [if_pos (by omega)] at hacc
    refine dO (b:=[44]) (by rw [hacc,List.length_append] at hlen; simp only [List.length_cons,List.length_nil] at hlen ⊢; omega) ?_
    exact ⟨by rw [hacc],hI⟩
   ·rw [if_neg (by omega),List.append_nil] at hacc
    exact ⟨by rw [hacc],hI⟩
  intro t3 _ _ _ _ w'
  rintro ⟨rfl,hI⟩
  refine dG hI hu av ai hj' (fun _ _=>RdT.length) fun cs hcs=>?_
  refine Run.callPure gj gk hI (ih g (by omega) _ y S cs hy (by omega) hcs) fun w' hI=>?_
  refine dO (by omega) ?_
  refine bL (by have:=hu.le; simp only [maxLen] at this; omega) ?_
  refine ⟨⟨g,j+1,acc++y,_,by omega,hj',rfl,rfl,rfl,?_,hI⟩,by simp only [intOf,Int.toNat_natCast]; omega⟩
  have e:(if ts.drop (j+1)=[] then [] else [44]:Bs)=if 0<j+1/\j+1<ts.length then [44] else []:=by
   by_cases h1:j+1<ts.length
   ·rw [if_neg (fun h2=>by rw [List.drop_eq_nil_iff] at h2; omega),if_pos (by omega)]
   ·rw [if_pos (List.drop_eq_nil_of_le (by omega)),if_neg (by omega)]
  rw [<- e]
  exact ha
 ·have:j=ts.length:=by omega
  subst this
  rw [List.drop_length,ni] at ha
  simp only [Option.some.injEq] at ha
  rw [if_neg (by omega),List.append_nil] at hacc
  exact done hI (by rw [<- ha,hacc])
theorem Is {f:Nat} (ih:∀ g,g<f->xe g):pH f:=by
 intro t l x S cs h hx hc w hI
 cases f with
 | zero=>simp [o5] at h
 | succ g=>
 rw [o5] at h
 split at h
 ·cases h
 rename_i y hy
 simp only [Option.some.injEq] at h
 have h0:=hc
 obtain ⟨kv,rfl,_,_,_,hk⟩:=RdT.iff.1 hc
 obtain ⟨ka,kc,rfl,_⟩:=id hk
 have hyx:y.length<=1000000/\y.length+2<=9000000:=by
  have:y.length<=x.length:=by
   rw [<- h]; split
   ·simp; omega
   ·omega
  omega
 refine ud ?_
 unfold oJ
 refine bM hI fun b1 w' hI=>?_
 refine ⟨fun b w'=>b=.bool (mP t && decide (l<dj t.name))/\Inv w [] [.blk b1 (.cells #[.int .i64 t.kind,.int .i64 t.n,.string t.name,.slice ka t.kids.length kc] ab)] S w',?_,?_⟩
 ·refine ba hI 0 ai rfl rfl ?_
  refine Run.callPure sY sT hI (nn h0) fun w' hI=>?_
  cases hf:mP t
  ·repeat (first|refine ad ?_|refine af (by decide) ?_|refine ac ?_|refine ah ?_|refine ag ?_)
   exact ⟨by rw [Bool.false_and],hI⟩
  ·repeat (first|refine ad ?_|refine af (by decide) ?_|refine ac ?_|refine ah ?_|refine ag ?_)
   refine aI hI 0 rfl bo bl rfl ?_
   refine Run.callPure fO fL hI (ey _ S) fun w' hI=>?_
   refine d6 ?_
   repeat (first|refine ad ?_|refine af (by decide) ?_|refine ac ?_|refine ah ?_|refine ag ?_)
   exact ⟨by rw [Bool.true_and],hI⟩
 intro t13 _ _ _ _ _ _ _ _ w'
 rintro ⟨rfl,hI⟩
 refine a8 (fun hb=>?_) (fun hb=>?_)
 ·rw [Bool.and_eq_true,decide_eq_true_eq] at hb
  rw [if_pos hb] at h
  refine ba hI 0 ai rfl rfl ?_
  refine Run.callPure gj gk hI (ih g (by omega) t y S _ hy hyx.1 h0) fun w' hI=>?_
  refine dO (a:=[40]) (by simp only [List.length_cons,List.length_nil]; omega) ?_
  refine dO (b:=[41]) (by simp only [List.length_append,List.length_cons,List.length_nil]; omega) ?_
  exact done hI (by rw [<- h])
 ·rw [if_neg (fun hh=>by rw [Bool.and_eq_false_iff,decide_eq_false_iff_not] at hb; rcases hb with hb|hb; rw [hh.1] at hb; cases hb; exact hb hh.2)] at h
  refine ba hI 0 ai rfl rfl ?_
  refine Run.callPure gj gk hI (ih g (by omega) t y S _ hy hyx.1 h0) fun w' hI=>?_
  exact done hI (by rw [<- h])
theorem MP {f:Nat} (ih:∀ g,g<f->xe g) (ihB:∀ g,g<f->pH g):Jl f:=by
 intro t l x S cs h hx hc w hI
 cases f with
 | zero=>simp [JG] at h
 | succ g=>
 rw [JG] at h
 have h0:=hc
 obtain ⟨kv,rfl,_,_,_,hk⟩:=RdT.iff.1 hc
 obtain ⟨ka,kc,rfl,_⟩:=id hk
 refine zU ?_
 unfold wG
 refine bM hI fun b1 w' hI=>?_
 refine ba hI 0 ai rfl rfl ?_
 refine Run.callPure xj wM hI (pb h0) fun w' hI=>?_
 split at h
 ·rename_i hs
  split at h
  ·cases h
  rename_i y hy
  simp only [Option.some.injEq] at h
  have hyx:y.length+2=x.length:=by rw [<- h]; simp only [List.length_append,List.length_cons,List.length_nil]; omega
  rw [hs]
  refine a8 (fun _=>?_) (fun hb=>by cases hb)
  refine ba hI 0 ai rfl rfl ?_
  refine Run.callPure gj gk hI (ih g (by omega) t y S _ hy (by omega) h0) fun w' hI=>?_
  refine dO (a:=[40]) (by simp only [List.length_cons,List.length_nil]; omega) ?_
  refine dO (b:=[41]) (by simp only [List.length_append,List.length_cons,List.length_nil]; omega) ?_
  exact done hI (by rw [<- h])
 ·rename_i hs
  rw [Bool.eq_false_iff.2 hs]
  refine a8 (fun hb=>by cases hb) (fun _=>?_)
  refine ba hI 0 ai rfl rfl ?_
  refine Run.callPure nX nZ hI (ihB g (by omega) t l x S _ h hx h0) fun w' hI=>?_
  exact done hI rfl
theorem Mb {f:Nat} (ihB:∀ g,g<f->pH g):E6 f:=by
 intro t l x S cs h hx hc w hI
 cases f with
 | zero=>simp [Fd] at h
 | succ g=>
 rw [Fd] at h
 split at h
 ·cases h
 rename_i y hy
 split at h
 ·cases h
 rename_i hne
 simp only [Option.some.injEq] at h
 have hy0:0<y.length:=by
  cases y with
  | nil=>exact absurd rfl hne
  | cons a l=>simp
 have hyx:y.length<=1000000:=by
  have:y.length<=x.length:=by
   rw [<- h]; split
   ·simp; omega
   ·omega
  omega
 have h0:=hc
 obtain ⟨kv,rfl,_,_,_,hk⟩:=RdT.iff.1 hc
 obtain ⟨ka,kc,rfl,_⟩:=id hk
 refine ye ?_
 unfold sR
 refine bM hI fun b1 w' hI=>?_
 refine ba hI 0 ai rfl rfl ?_
 refine Run.callPure nX nZ hI (ihB g (by omega) t l y S _ hy hyx h0) fun w' hI=>?_
 refine ⟨fun b w'=>b=.bool (wj t || !ET y)/\Inv w [] [.blk b1 (.cells #[.int .i64 t.kind,.int .i64 t.n,.string t.name,.slice ka t.kids.length kc] ab)] S w',?_,?_⟩
 ·refine ba hI 0 ai rfl rfl ?_
  refine Run.callPure xj wM hI (pb h0) fun w' hI=>?_
  cases hs:wj t
  ·repeat (first|refine ad ?_|refine af (by decide) ?_|refine ac ?_|refine ah ?_|refine ag ?_)
   refine Run.callPure Dw Ed hI (Bm y hy0) fun w' hI=>?_
   refine cF ?_
   repeat (first|refine ad ?_|refine af (by decide) ?_|refine ac ?_|refine ah ?_|refine ag ?_)
   exact ⟨by rw [Bool.false_or],hI⟩
  ·repeat (first|refine ad ?_|refine af (by decide) ?_|refine ac ?_|refine ah ?_|refine ag ?_)
   exact ⟨by rw [Bool.true_or],hI⟩
 intro t15 _ _ _ _ _ _ w'
 rintro ⟨rfl,hI⟩
 refine a8 (fun hb=>?_) (fun hb=>?_)
 ·rw [Bool.or_eq_true,Bool.not_eq_true'] at hb
  rw [if_pos hb] at h
  refine dO (a:=[40]) (by simp only [List.length_cons,List.length_nil]; omega) ?_
  refine dO (b:=[41]) (by simp only [List.length_append,List.length_cons,List.length_nil]; omega) ?_
  exact done hI (by rw [<- h])
 ·rw [if_neg (fun hh=>by rw [<- Bool.not_eq_true',<- Bool.or_eq_true,hb] at hh; cases hh)] at h
  exact done hI (by rw [<- h])
theorem MX {f:Nat} (hf:f<=100000) (ih:∀ g,g<f->xe g) (ihA:∀ g,g<f->DA g):I7 f:=by
 intro t x S cs h hx hc w hI
 obtain ⟨kv,rfl,_,_,_,hk⟩:=RdT.iff.1 hc
 refine yK ?_
 unfold wD
 refine bM hI fun b1 w' hI=>?_
 refine eB hI bD fun v0 w' hI=>?_
 refine ⟨fun a w'=>∃ (f':Nat) (t':T) (items:List T) (ds:List Value) (css:List (List Value)),f'+items.length=f/\C1 f' t' items=some x/\RdT S ds t'/\Rows 4 (RdT S) css items/\(∃ p m,a=.slice p items.length m)/\Inv w [] [.blk b1 (.cells ds.toArray ab),bj a ab 4 css] S w',
  fun a _=>f+1 - lenOf a,⟨f,t,[],_,[],by simp,h,hc,Rows.nil _ _,?_,hI⟩,?_⟩
 ·have hI2:Inv w [] ([Item.blk b1 (.cells #[.int .i64 t.kind,.int .i64 t.n,.string t.name,kv] ab)]++[bj v0 ab 4 []]) S w':=hI
  obtain ⟨S1,_,hrd,_⟩:=Inv.lendExt hI2
  obtain ⟨p,m,e,_⟩:=RowRd.rows (Rows.nil 4 (RdT S)) hrd
  exact ⟨p,m,e⟩
 clear h hc hk hI
 intro _ _ _ _ t3 _ _ _ _ _ _ _ _ _ w'
 rintro ⟨f',t',items,ds,css,hfl,hl,hd,hR,⟨p,m,rfl⟩,hI⟩
 have hd0:=hd
 obtain ⟨kd,rfl,_,_,_,hk⟩:=RdT.iff.1 hd
 have hcl:=hR.hc
 cases f' with
 | zero=>simp [C1] at hl
 | succ g=>
 rw [C1] at hl
 refine ba hI 0 ai rfl rfl ?_
 refine Run.callPure lf kZ hI (gX hd0) fun w' hI=>?_
 split at hl
 ·rename_i hp
  split at hl
  ·rename_i a b hab
   rw [hp]
   refine a8 (fun _=>?_) (fun hb=>by cases hb)
   rw [hab] at hk
   refine aI hI 0 rfl aT aP rfl ?_
   refine dG (i:=0) hI hk av ai (by simp) (fun _ _=>RdT.length) fun es hes=>?_
   rw [List.getElem_cons_zero] at hes
   refine fX (css:=css) hI 1 es bD (by omega) (by omega) rfl hes.length hes.one (by omega) (by omega) fun v' w' hI=>?_
   refine aI hI 0 rfl aT aP rfl ?_
   refine dG (i:=1) hI hk av ai (by simp) (fun _ _=>RdT.length) fun gs hgs=>?_
   rw [List.getElem_cons_succ,List.getElem_cons_zero] at hgs
   have hg1:=hgs.length
   refine bf hI 0 rfl ai (by simpa using hg1) rfl (by simpa using hgs.one) fun w' hI=>?_
   have hR2:=hR.snoc hes hes.length
   have hI2:Inv w [] ([Item.blk b1 (.cells gs.toArray ab)]++[bj v' ab 4 (css++[es])]) S w':=hI
   obtain ⟨S1,hE1,hrd,_⟩:=Inv.lendExt hI2
   obtain ⟨p',m',e',_⟩:=RowRd.rows hR2 hrd
   refine ⟨⟨g,b,items++[a],gs,css++[es],by rw [List.length_append]; simp only [List.length_cons,List.length_nil]; omega,hl,hgs,hR2,⟨p',m',e'⟩,hI⟩,?_⟩
   rw [e']
   simp only [lenOf,List.length_append,List.length_cons,List.length_nil]
   omega
  ·cases hl
 ·rename_i hp
  rw [Bool.eq_false_iff.2 hp]
  refine a8 (fun hb=>by cases hb) (fun _=>?_)
  split at hl
  ·cases hl
  rename_i y hy
  refine ba hI 0 ai rfl rfl ?_
  refine Run.callPure HK HG hI (BR hd0) fun w' hI=>?_
  have hI2:Inv w [] ([Item.blk b1 (.cells #[.int .i64 t'.kind,.int .i64 t'.n,.string t'.name,kd] ab)]++[bj (.slice p items.length m) ab 4 css]) S w':=hI
  obtain ⟨S1,hE1,hrd,hI⟩:=Inv.lendExt hI2
  have hrs:=RowRd.rows (hR.monoR fun _ _ h=>RdT.mono hE1.1 h) hrd
  have hd1:=RdT.mono hE1.1 hd0
  split at hl
  ·rename_i hn
   simp only [Option.some.injEq] at hl
   have hyx:y.length+2=x.length:=by rw [<- hl]; simp only [List.length_append,List.length_cons,List.length_nil]; omega
   rw [hn]
   refine a8 (fun _=>?_) (fun hb=>by cases hb)
   refine Run.callPure n9 oS hI (ihA g (by omega) items y S1 _ hy (by omega) hrs) fun w' hI=>?_
   refine dO (a:=[91]) (by simp only [List.length_cons,List.length_nil]; omega) ?_
   refine dO (b:=[93]) (by simp only [List.length_append,List.length_cons,List.length_nil]; omega) ?_
   exact iR hI hE1.1 (by rw [<- hl])
  ·rename_i hn
   split at hl
   ·cases hl
   rename_i z hz
   simp only [Option.some.injEq] at hl
   have hyx:y.length+z.length+3=x.length:=by rw [<- hl]; simp only [List.length_append,List.length_cons,List.length_nil]; omega
   rw [Bool.eq_false_iff.2 hn]
   refine a8 (fun hb=>by cases hb) (fun _=>?_)
   refine ⟨fun D x2 dZ dP c5 cE cM bW bQ bU w_=>(D 0=true->bU=.slice p items.length m)/\(D 1=true->bQ=.string (st y))/\(D 2=true->bW=.string (st ([91]++y)))/\(D 3=true->cM=.string (st ([91]++y++[124])))/\(D 4=true->cE=.agg #[.int .i64 t'.kind,.int .i64 t'.n,.string t'.name,kd])/\(D 5=true->c5=.string (st z))/\(D 6=true->dP=.string (st ([91]++y++[124]++z)))/\(D 7=true->dZ=.string (st ([91]++y++[124]++z++[93])))/\(D 8=true->x2=.string (st ([91]++y++[124]++z++[93])))/\Inv w [] [.blk b1 (.cells #[.int .i64 t'.kind,.int .i64 t'.n,.string t'.name,kd] ab)] S1 w_,⟨ae,ae,ae,ae,ae,ae,ae,ae,ae,hI.draw⟩,⟨?_,?_,?_,?_,?_,?_,?_,?_,?_,trivial⟩,?_⟩
   ·intro D aY  x2 dZ dP c5 cE cM bW bQ bU w_
    rintro ⟨aA,aB,aC,aD,aw,aE,aF,aJ,aL,hI⟩
    exact ⟨fun _=>rfl,aB,aC,aD,aw,aE,aF,aJ,aL,hI⟩
   ·intro D aY cc x2 dZ dP c5 cE cM bW bQ bU w_
    rintro ⟨aA,aB,aC,aD,aw,aE,aF,aJ,aL,hI⟩
    obtain rfl:=aA cc
    refine Run.callPure n9 oS hI (ihA g (by omega) items y S1 _ hy (by omega) hrs) fun w_ hI=>?_
    exact ⟨aA,fun _=>rfl,aC,aD,aw,aE,aF,aJ,aL,hI⟩
   ·intro D aY dC x2 dZ dP c5 cE cM bW bQ bU w_
    rintro ⟨aA,aB,aC,aD,aw,aE,aF,aJ,aL,hI⟩
    obtain rfl:=aB dC
    refine dO (a:=[91]) (by simp only [List.length_cons,List.length_nil]; omega) ?_
    exact ⟨aA,aB,fun _=>rfl,aD,aw,aE,aF,aJ,aL,hI⟩
   ·intro D aY eq x2 dZ dP c5 cE cM bW bQ bU w_
    rintro ⟨aA,aB,aC,aD,aw,aE,aF,aJ,aL,hI⟩
    obtain rfl:=aC eq
    refine dO (b:=[124]) (by simp only [List.length_append,List.length_cons,List.length_nil]; omega) ?_
    exact ⟨aA,aB,aC,fun _=>rfl,aw,aE,aF,aJ,aL,hI⟩
   ·intro D aY  x2 dZ dP c5 cE cM bW bQ bU w_
    rintro ⟨aA,aB,aC,aD,aw,aE,aF,aJ,aL,hI⟩
    refine ba hI 0 ai rfl rfl ?_
    exact ⟨aA,aB,aC,aD,fun _=>rfl,aE,aF,aJ,aL,hI⟩
   ·intro D aY cR ij x2 dZ dP c5 cE cM bW bQ bU w_
    rintro ⟨aA,aB,aC,aD,aw,aE,aF,aJ,aL,hI⟩
    obtain rfl:=aw cR
    refine Run.callPure gj gk hI (ih g (by omega) t' z S1 _ hz (by omega) hd1) fun w_ hI=>?_
    exact ⟨aA,aB,aC,aD,aw,fun _=>rfl,aF,aJ,aL,hI⟩
   ·intro D aY dB km x2 dZ dP c5 cE cM bW bQ bU w_
    rintro ⟨aA,aB,aC,aD,aw,aE,aF,aJ,aL,hI⟩
    obtain rfl:=aD dB
    obtain rfl:=aE km
    refine dO (by simp only [List.length_append,List.length_cons,List.length_nil]; omega) ?_
    exact ⟨aA,aB,aC,aD,aw,aE,fun _=>rfl,aJ,aL,hI⟩
   ·intro D aY c4 x2 dZ dP c5 cE cM bW bQ bU w_
    rintro ⟨aA,aB,aC,aD,aw,aE,aF,aJ,aL,hI⟩
    obtain rfl:=aF c4
    refine dO (b:=[93]) (by simp only [List.length_append,List.length_cons,List.length_nil]; omega) ?_
    exact ⟨aA,aB,aC,aD,aw,aE,aF,fun _=>rfl,aL,hI⟩
   ·intro D aY ed km oI sL ui rQ tD x3 xE Bo x2 dZ dP c5 cE cM bW bQ bU w_
    rintro ⟨aA,aB,aC,aD,aw,aE,aF,aJ,aL,hI⟩
    obtain rfl:=aJ ed
    exact ⟨aA,aB,aC,aD,aw,aE,aF,aJ,fun _=>rfl,hI⟩
   intro D gK fT fY fE fm fw fF fC fD x2 dZ dP c5 cE cM bW bQ bU w_
   rintro ⟨aA,aB,aC,aD,aw,aE,aF,aJ,aL,hI⟩
   obtain rfl:=aL gK
   obtain rfl:=aJ fT
   obtain rfl:=aF fY
   obtain rfl:=aE fE
   obtain rfl:=aw fm
   obtain rfl:=aD fw
   obtain rfl:=aC fF
   obtain rfl:=aB fC
   obtain rfl:=aA fD
   clear aA aB aC aD aw aE aF aJ aL
   exact iR hI hE1.1 (by rw [<- hl])
theorem Ns {f:Nat} (ihL:∀ g,g<f->I7 g) (ihA:∀ g,g<f->DA g) (ihF:∀ g,g<f->Jl g) (ihR:∀ g,g<f->E6 g):xe f:=by
 intro t x S cs h hx hc w hI
 cases f with
 | zero=>simp [Fa] at h
 | succ g=>
 rw [Fa] at h
 have h0:=hc
 obtain ⟨kv,rfl,_,_,_,hk⟩:=RdT.iff.1 hc
 refine Aq ?_
 unfold wR
 refine bM hI fun b1 w' hI=>?_
 obtain ⟨B1,hB1⟩:∃ B1,B1=Item.blk b1 (.cells #[.int .i64 t.kind,.int .i64 t.n,.string t.name,kv] ab):=⟨_,rfl⟩
 refine ba hI 0 ai rfl rfl ?_
 refine Run.callPure lf kZ hI (gX h0) fun w' hI=>?_
 split at h
 ·rename_i hp
  rw [hp]
  refine a8 (fun _=>?_) (fun hb=>by cases hb)
  refine ba hI 0 ai rfl rfl ?_
  refine Run.callPure F0 F2 hI (ihL g (by omega) t x S _ h hx h0) fun w' hI=>?_
  exact done hI rfl
 rename_i hp
 have hp:=Bool.eq_false_iff.2 hp
 rw [hp]
 refine a8 (fun hb=>by cases hb) (fun _=>?_)
 refine ba hI 0 ai rfl rfl ?_
 refine Run.callPure sY sT hI (nn h0) fun w' hI=>?_
 split at h
 ·rename_i hf
  rw [hf]
  refine a8 (fun _=>?_) (fun hb=>by cases hb)
  split at h
  ·rename_i a b hab
   obtain ⟨lv,hlv⟩:∃ lv,lv=dj t.name:=⟨_,rfl⟩
   rw [<- hlv] at h
   have hlr:1<=lv/\lv<=3:=by
    have h1:0<dj t.name:=by
     unfold mP at hf
     simp only [Bool.and_eq_true,decide_eq_true_eq] at hf
     exact hf.2.2
    have h2:dj t.name<=3:=by
     unfold dj
     split
     ·omega
     ·split
      ·omega
      ·split <;> omega
    omega
   split at h
   ·rename_i y z hy hz
    simp only [Option.some.injEq] at h
    have hlen:y.length+(g7 (bs t.name)).length+z.length=x.length:=by rw [<- h]; simp only [List.length_append]
    have hsp:(bs t.name).length<=(g7 (bs t.name)).length:=by
     unfold g7
     split
     ·simp; omega
     ·omega
    rw [hab] at hk
    obtain ⟨b2,o2,cap2,c2,E2,fz2,rfl,hS,hRa⟩:=hk.at_ (i:=0) (by simp)
    obtain ⟨b2',o2',cap2',c2',E2',fz2',hsl,hS',hRb⟩:=hk.at_ (i:=1) (by simp)
    cases hsl
    rw [hS] at hS'
    cases hS'
    rw [List.getElem_cons_zero] at hRa
    rw [List.getElem_cons_succ,List.getElem_cons_zero] at hRb
    refine aI hI 0 rfl bo bl rfl ?_
    refine Run.callPure fO fL hI (ey _ S) fun w' hI=>?_
    rw [<- hlv]
    have hI:Inv w [] [B1] S w':=by rw [hB1]; exact hI
    refine ⟨fun v w'=>v=.int .i64 (if lv=3 then 2 else lv)/\Inv w [] [B1] S w',?_,?_⟩
    ·refine bO ?_
     refine bk (fun h3=>⟨by rw [if_pos h3],hI⟩) (fun h3=>⟨by rw [if_neg h3],hI⟩)
    intro t4 _ _ w'
    rintro ⟨rfl,hI⟩
    subst hB1
    skip
    refine ⟨fun D x2 dX dY hH ew eN dZ dP c5 cE cM bW bQ bU cA ce cN cJ b0 w_=>(D 0=true->b0=.pointer (some ⟨b1,3,none⟩))/\(D 1=true->cJ=.slice (some ⟨b2,o2,none⟩) [a,b].length cap2)/\(D 2=true->cN=.pointer (some ⟨b2,o2+0 * 4,none⟩))/\(D 3=true->ce=.agg (bu c2 (o2+0 * 4) 4).toArray)/\(D 4=true->cA=.int .i64 (if lv=3 then 2 else lv))/\(D 5=true->bU=.string (st y))/\(D 6=true->bQ=.pointer (some ⟨b1,2,none⟩))/\(D 7=true->bW=.string t.name)/\(D 8=true->cM=.string (st (g7 (bs t.name))))/\(D 9=true->cE=.string (st (y++g7 (bs t.name))))/\(D 10=true->c5=.pointer (some ⟨b1,3,none⟩))/\(D 11=true->dP=.slice (some ⟨b2,o2,none⟩) [a,b].length cap2)/\(D 12=true->dZ=.pointer (some ⟨b2,o2+1 * 4,none⟩))/\(D 13=true->eN=.agg (bu c2 (o2+1 * 4) 4).toArray)/\(D 14=true->ew=.int .i64 lv)/\(D 15=true->hH=.int .i64 (lv - 1))/\(D 16=true->dY=.string (st z))/\(D 17=true->dX=.string (st (y++g7 (bs t.name)++z)))/\(D 18=true->x2=.string (st (y++g7 (bs t.name)++z)))/\Inv w [] [.blk b1 (.cells #[.int .i64 t.kind,.int .i64 t.n,.string t.name,.slice (some ⟨b2,o2,none⟩) [a,b].length cap2] ab)] S w_,⟨ae,ae,ae,ae,ae,ae,ae,ae,ae,ae,ae,ae,ae,ae,ae,ae,ae,ae,ae,hI.draw⟩,⟨?_,?_,?_,?_,?_,?_,?_,?_,?_,?_,?_,?_,?_,?_,?_,?_,?_,?_,?_,trivial⟩,?_⟩
    ·intro D aY  x2 dX dY hH ew eN dZ dP c5 cE cM bW bQ bU cA ce cN cJ b0 w_
     rintro ⟨aA,aB,aC,aD,aw,aE,aF,aJ,aL,aQ,al,ao,aG,aM,aO,aN,aU,aV,aW,hI⟩
     refine bh aT ?_
     exact ⟨fun _=>rfl,aB,aC,aD,aw,aE,aF,aJ,aL,aQ,al,ao,aG,aM,aO,aN,aU,aV,aW,hI⟩
    ·intro D aY cc x2 dX dY hH ew eN dZ dP c5 cE cM bW bQ bU cA ce cN cJ b0 w_
     rintro ⟨aA,aB,aC,aD,aw,aE,aF,aJ,aL,aQ,al,ao,aG,aM,aO,aN,aU,aV,aW,hI⟩
     obtain rfl:=aA cc
     refine bH hI 0 aP rfl rfl ?_
     exact ⟨aA,fun _=>rfl,aC,aD,aw,aE,aF,aJ,aL,aQ,al,ao,aG,aM,aO,aN,aU,aV,aW,hI⟩
    ·intro D aY dC x2 dX dY hH ew eN dZ dP c5 cE cM bW bQ bU cA ce cN cJ b0 w_
     rintro ⟨aA,aB,aC,aD,aw,aE,aF,aJ,aL,aQ,al,ao,aG,aM,aO,aN,aU,aV,aW,hI⟩
     obtain rfl:=aB dC
     refine bi (i:=0) av (by simp) ?_
     exact ⟨aA,aB,fun _=>rfl,aD,aw,aE,aF,aJ,aL,aQ,al,ao,aG,aM,aO,aN,aU,aV,aW,hI⟩
    ·intro D aY eq x2 dX dY hH ew eN dZ dP c5 cE cM bW bQ bU cA ce cN cJ b0 w_
     rintro ⟨aA,aB,aC,aD,aw,aE,aF,aJ,aL,aQ,al,ao,aG,aM,aO,aN,aU,aV,aW,hI⟩
     obtain rfl:=aC eq
     refine cV ai hRa.length (fun j v hj=>by rw [hI.cellS hS]; exact bm rfl j v hj) ?_
     exact ⟨aA,aB,aC,fun _=>rfl,aw,aE,aF,aJ,aL,aQ,al,ao,aG,aM,aO,aN,aU,aV,aW,hI⟩
    ·intro D aY  x2 dX dY hH ew eN dZ dP c5 cE cM bW bQ bU cA ce cN cJ b0 w_
     rintro ⟨aA,aB,aC,aD,aw,aE,aF,aJ,aL,aQ,al,ao,aG,aM,aO,aN,aU,aV,aW,hI⟩
     exact ⟨aA,aB,aC,aD,fun _=>rfl,aE,aF,aJ,aL,aQ,al,ao,aG,aM,aO,aN,aU,aV,aW,hI⟩
    ·intro D aY dB dJ x2 dX dY hH ew eN dZ dP c5 cE cM bW bQ bU cA ce cN cJ b0 w_
     rintro ⟨aA,aB,aC,aD,aw,aE,aF,aJ,aL,aQ,al,ao,aG,aM,aO,aN,aU,aV,aW,hI⟩
     obtain rfl:=aD dB
     obtain rfl:=aw dJ
     refine Run.callPure Hr F7 hI (ihF g (by omega) a _ y S _ hy (by omega) hRa) fun w_ hI=>?_
     exact ⟨aA,aB,aC,aD,aw,fun _=>rfl,aF,aJ,aL,aQ,al,ao,aG,aM,aO,aN,aU,aV,aW,hI⟩
    ·intro D aY  x2 dX dY hH ew eN dZ dP c5 cE cM bW bQ bU cA ce cN cJ b0 w_
     rintro ⟨aA,aB,aC,aD,aw,aE,aF,aJ,aL,aQ,al,ao,aG,aM,aO,aN,aU,aV,aW,hI⟩
     refine bh bo ?_
     exact ⟨aA,aB,aC,aD,aw,aE,fun _=>rfl,aJ,aL,aQ,al,ao,aG,aM,aO,aN,aU,aV,aW,hI⟩
    ·intro D aY c4 x2 dX dY hH ew eN dZ dP c5 cE cM bW bQ bU cA ce cN cJ b0 w_
     rintro ⟨aA,aB,aC,aD,aw,aE,aF,aJ,aL,aQ,al,ao,aG,aM,aO,aN,aU,aV,aW,hI⟩
     obtain rfl:=aF c4
     refine bH hI 0 bl rfl rfl ?_
     exact ⟨aA,aB,aC,aD,aw,aE,aF,fun _=>rfl,aL,aQ,al,ao,aG,aM,aO,aN,aU,aV,aW,hI⟩
    ·intro D aY ed km x2 dX dY hH ew eN dZ dP c5 cE cM bW bQ bU cA ce cN cJ b0 w_
     rintro ⟨aA,aB,aC,aD,aw,aE,aF,aJ,aL,aQ,al,ao,aG,aM,aO,aN,aU,aV,aW,hI⟩
     obtain rfl:=aJ ed
     refine Run.callPure BP B8 hI (AJ (bs t.name) (by omega)) fun w_ hI=>?_
     exact ⟨aA,aB,aC,aD,aw,aE,aF,aJ,fun _=>rfl,aQ,al,ao,aG,aM,aO,aN,aU,aV,aW,hI⟩
    ·intro D aY d3 gp x2 dX dY hH ew eN dZ dP c5 cE cM bW bQ bU cA ce cN cJ b0 w_
     rintro ⟨aA,aB,aC,aD,aw,aE,aF,aJ,aL,aQ,al,ao,aG,aM,aO,aN,aU,aV,aW,hI⟩
     obtain rfl:=aE d3
     obtain rfl:=aL gp
     refine dO (by omega) ?_
     exact ⟨aA,aB,aC,aD,aw,aE,aF,aJ,aL,fun _=>rfl,al,ao,aG,aM,aO,aN,aU,aV,aW,hI⟩
    ·intro D aY  x2 dX dY hH ew eN dZ dP c5 cE cM bW bQ bU cA ce cN cJ b0 w_
     rintro ⟨aA,aB,aC,aD,aw,aE,aF,aJ,aL,aQ,al,ao,aG,aM,aO,aN,aU,aV,aW,hI⟩
     refine bh aT ?_
     exact ⟨aA,aB,aC,aD,aw,aE,aF,aJ,aL,aQ,fun _=>rfl,ao,aG,aM,aO,aN,aU,aV,aW,hI⟩
    ·intro D aY gx x2 dX dY hH ew eN dZ dP c5 cE cM bW bQ bU cA ce cN cJ b0 w_
     rintro ⟨aA,aB,aC,aD,aw,aE,aF,aJ,aL,aQ,al,ao,aG,aM,aO,aN,aU,aV,aW,hI⟩
     obtain rfl:=al gx
     refine bH hI 0 aP rfl rfl ?_
     exact ⟨aA,aB,aC,aD,aw,aE,aF,aJ,aL,aQ,al,fun _=>rfl,aG,aM,aO,aN,aU,aV,aW,hI⟩
    ·intro D aY g8 x2 dX dY hH ew eN dZ dP c5 cE cM bW bQ bU cA ce cN cJ b0 w_
     rintro ⟨aA,aB,aC,aD,aw,aE,aF,aJ,aL,aQ,al,ao,aG,aM,aO,aN,aU,aV,aW,hI⟩
     obtain rfl:=ao g8
     refine bi (i:=1) av (by simp) ?_
     exact ⟨aA,aB,aC,aD,aw,aE,aF,aJ,aL,aQ,al,ao,fun _=>rfl,aM,aO,aN,aU,aV,aW,hI⟩
    ·intro D aY kK x2 dX dY hH ew eN dZ dP c5 cE cM bW bQ bU cA ce cN cJ b0 w_
     rintro ⟨aA,aB,aC,aD,aw,aE,aF,aJ,aL,aQ,al,ao,aG,aM,aO,aN,aU,aV,aW,hI⟩
     obtain rfl:=aG kK
     refine cV ai hRb.length (fun j v hj=>by rw [hI.cellS hS]; exact bm rfl j v hj) ?_
     exact ⟨aA,aB,aC,aD,aw,aE,aF,aJ,aL,aQ,al,ao,aG,fun _=>rfl,aO,aN,aU,aV,aW,hI⟩
    ·intro D aY  x2 dX dY hH ew eN dZ dP c5 cE cM bW bQ bU cA ce cN cJ b0 w_
     rintro ⟨aA,aB,aC,aD,aw,aE,aF,aJ,aL,aQ,al,ao,aG,aM,aO,aN,aU,aV,aW,hI⟩
     exact ⟨aA,aB,aC,aD,aw,aE,aF,aJ,aL,aQ,al,ao,aG,aM,fun _=>rfl,aN,aU,aV,aW,hI⟩
    ·intro D aY GE x2 dX dY hH ew eN dZ dP c5 cE cM bW bQ bU cA ce cN cJ b0 w_
     rintro ⟨aA,aB,aC,aD,aw,aE,aF,aJ,aL,aQ,al,ao,aG,aM,aO,aN,aU,aV,aW,hI⟩
     obtain rfl:=aO GE
     refine qz (by omega) ?_
     exact ⟨aA,aB,aC,aD,aw,aE,aF,aJ,aL,aQ,al,ao,aG,aM,aO,fun _=>rfl,aU,aV,aW,hI⟩
    ·intro D aY ib LH PY x2 dX dY hH ew eN dZ dP c5 cE cM bW bQ bU cA ce cN cJ b0 w_
     rintro ⟨aA,aB,aC,aD,aw,aE,aF,aJ,aL,aQ,al,ao,aG,aM,aO,aN,aU,aV,aW,hI⟩
     obtain rfl:=aM ib
     obtain rfl:=aN LH
     refine Run.callPure DY EP hI (ihR g (by omega) b _ z S _ hz (by omega) hRb) fun w_ hI=>?_
     exact ⟨aA,aB,aC,aD,aw,aE,aF,aJ,aL,aQ,al,ao,aG,aM,aO,aN,fun _=>rfl,aV,aW,hI⟩
    ·intro D aY Ik xi x2 dX dY hH ew eN dZ dP c5 cE cM bW bQ bU cA ce cN cJ b0 w_
     rintro ⟨aA,aB,aC,aD,aw,aE,aF,aJ,aL,aQ,al,ao,aG,aM,aO,aN,aU,aV,aW,hI⟩
     obtain rfl:=aQ Ik
     obtain rfl:=aU xi
     refine dO (by rw [List.length_append]; omega) ?_
     exact ⟨aA,aB,aC,aD,aw,aE,aF,aJ,aL,aQ,al,ao,aG,aM,aO,aN,aU,fun _=>rfl,aW,hI⟩
    ·intro D aY F9 xi oI sL ui rQ tD x3 xE Bo Dn C9 uD zz AW Ei Eh Nq NM NC x2 dX dY hH ew eN dZ dP c5 cE cM bW bQ bU cA ce cN cJ b0 w_
     rintro ⟨aA,aB,aC,aD,aw,aE,aF,aJ,aL,aQ,al,ao,aG,aM,aO,aN,aU,aV,aW,hI⟩
     obtain rfl:=aV F9
     exact ⟨aA,aB,aC,aD,aw,aE,aF,aJ,aL,aQ,al,ao,aG,aM,aO,aN,aU,aV,fun _=>rfl,hI⟩
    intro D y6 z0 AF nu nF ov je fi fp jt gK fT fY fE fm fw fF fC fD x2 dX dY hH ew eN dZ dP c5 cE cM bW bQ bU cA ce cN cJ b0 w_
    rintro ⟨aA,aB,aC,aD,aw,aE,aF,aJ,aL,aQ,al,ao,aG,aM,aO,aN,aU,aV,aW,hI⟩
    obtain rfl:=aW y6
    obtain rfl:=aV z0
    obtain rfl:=aU AF
    obtain rfl:=aN nu
    obtain rfl:=aO nF
    obtain rfl:=aM ov
    obtain rfl:=aG je
    obtain rfl:=ao fi
    obtain rfl:=al fp
    obtain rfl:=aQ jt
    obtain rfl:=aL gK
    obtain rfl:=aJ fT
    obtain rfl:=aF fY
    obtain rfl:=aE fE
    obtain rfl:=aw fm
    obtain rfl:=aD fw
    obtain rfl:=aC fF
    obtain rfl:=aB fC
    obtain rfl:=aA fD
    clear aA aB aC aD aw aE aF aJ aL aQ al ao aG aM aO aN aU aV aW
    exact done hI (by rw [<- h])
   ·cases h
  ·cases h
 ·rename_i hf
  rw [Bool.eq_false_iff.2 hf]
  refine a8 (fun hb=>by cases hb) (fun _=>?_)
  obtain ⟨ka,kc,rfl,_⟩:=id hk
  refine ⟨fun v w'=>v=.bool (decide (t.kind=3) && decide (0<t.kids.length))/\Inv w [] [B1] S w',?_,?_⟩
  ·refine aI hI 0 rfl bx bn rfl ?_
   by_cases h3:t.kind=3
   ·refine fM h3 ?_
    repeat (first|refine ad ?_|refine af (by decide) ?_|refine ac ?_|refine ah ?_|refine ag ?_)
    refine aI hI 0 rfl aT aP rfl ?_
    refine fx av ?_
    refine d6 ?_
    repeat (first|refine ad ?_|refine af (by decide) ?_|refine ac ?_|refine ah ?_|refine ag ?_)
    refine ⟨?_,by rw [hB1]; exact hI⟩
    rw [decide_eq_true h3,Bool.true_and]
    congr 1
    rw [decide_eq_decide]
    omega
   ·refine er h3 ?_
    repeat (first|refine ad ?_|refine af (by decide) ?_|refine ac ?_|refine ah ?_|refine ag ?_)
    exact ⟨by rw [decide_eq_false h3,Bool.false_and],by rw [hB1]; exact hI⟩
  intro t37 _ _ _ _ _ _ _ _ _ w'
  rintro ⟨rfl,hI⟩
  subst hB1
  split at h
  ·rename_i hc3
   rw [decide_eq_true hc3.1,decide_eq_true hc3.2]
   refine a8 (fun _=>?_) (fun hb=>by cases hb)
   split at h
   ·rename_i y hy
    simp only [Option.some.injEq] at h
    have hlen:(bs t.name).length+y.length+2=x.length:=by rw [<- h]; simp only [List.length_append,List.length_cons,List.length_nil]; omega
    skip
    refine ⟨fun D x2 dk dn cP cO cQ cS bT bS w_=>(D 0=true->bS=.pointer (some ⟨b1,2,none⟩))/\(D 1=true->bT=.string t.name)/\(D 2=true->cS=.string (st (bs t.name++[40])))/\(D 3=true->cQ=.pointer (some ⟨b1,3,none⟩))/\(D 4=true->cO=.slice ka t.kids.length kc)/\(D 5=true->cP=.string (st y))/\(D 6=true->dn=.string (st (bs t.name++[40]++y)))/\(D 7=true->dk=.string (st (bs t.name++[40]++y++[41])))/\(D 8=true->x2=.string (st (bs t.name++[40]++y++[41])))/\Inv w [] [.blk b1 (.cells #[.int .i64 t.kind,.int .i64 t.n,.string t.name,.slice ka t.kids.length kc] ab)] S w_,⟨ae,ae,ae,ae,ae,ae,ae,ae,ae,hI.draw⟩,⟨?_,?_,?_,?_,?_,?_,?_,?_,?_,trivial⟩,?_⟩
    ·intro D aY  x2 dk dn cP cO cQ cS bT bS w_
     rintro ⟨aA,aB,aC,aD,aw,aE,aF,aJ,aL,hI⟩
     refine bh bo ?_
     exact ⟨fun _=>rfl,aB,aC,aD,aw,aE,aF,aJ,aL,hI⟩
    ·intro D aY cc x2 dk dn cP cO cQ cS bT bS w_
     rintro ⟨aA,aB,aC,aD,aw,aE,aF,aJ,aL,hI⟩
     obtain rfl:=aA cc
     refine bH hI 0 bl rfl rfl ?_
     exact ⟨aA,fun _=>rfl,aC,aD,aw,aE,aF,aJ,aL,hI⟩
    ·intro D aY dC x2 dk dn cP cO cQ cS bT bS w_
     rintro ⟨aA,aB,aC,aD,aw,aE,aF,aJ,aL,hI⟩
     obtain rfl:=aB dC
     refine dO (a:=bs t.name) (b:=[40]) (by simp only [List.length_cons,List.length_nil]; omega) ?_
     exact ⟨aA,aB,fun _=>rfl,aD,aw,aE,aF,aJ,aL,hI⟩
    ·intro D aY  x2 dk dn cP cO cQ cS bT bS w_
     rintro ⟨aA,aB,aC,aD,aw,aE,aF,aJ,aL,hI⟩
     refine bh aT ?_
     exact ⟨aA,aB,aC,fun _=>rfl,aw,aE,aF,aJ,aL,hI⟩
    ·intro D aY dB x2 dk dn cP cO cQ cS bT bS w_
     rintro ⟨aA,aB,aC,aD,aw,aE,aF,aJ,aL,hI⟩
     obtain rfl:=aD dB
     refine bH hI 0 aP rfl rfl ?_
     exact ⟨aA,aB,aC,aD,fun _=>rfl,aE,aF,aJ,aL,hI⟩
    ·intro D aY cR x2 dk dn cP cO cQ cS bT bS w_
     rintro ⟨aA,aB,aC,aD,aw,aE,aF,aJ,aL,hI⟩
     obtain rfl:=aw cR
     refine Run.callPure n9 oS hI (ihA g (by omega) t.kids y S _ hy (by omega) hk) fun w_ hI=>?_
     exact ⟨aA,aB,aC,aD,aw,fun _=>rfl,aF,aJ,aL,hI⟩
    ·intro D aY eq km x2 dk dn cP cO cQ cS bT bS w_
     rintro ⟨aA,aB,aC,aD,aw,aE,aF,aJ,aL,hI⟩
     obtain rfl:=aC eq
     obtain rfl:=aE km
     refine dO (by simp only [List.length_append,List.length_cons,List.length_nil]; omega) ?_
     exact ⟨aA,aB,aC,aD,aw,aE,fun _=>rfl,aJ,aL,hI⟩
    ·intro D aY c4 x2 dk dn cP cO cQ cS bT bS w_
     rintro ⟨aA,aB,aC,aD,aw,aE,aF,aJ,aL,hI⟩
     obtain rfl:=aF c4
     refine dO (b:=[41]) (by simp only [List.length_append,List.length_cons,List.length_nil]; omega) ?_
     exact ⟨aA,aB,aC,aD,aw,aE,aF,fun _=>rfl,aL,hI⟩
    ·intro D aY ed km oI sL ui rQ tD x3 xE Bo x2 dk dn cP cO cQ cS bT bS w_
     rintro ⟨aA,aB,aC,aD,aw,aE,aF,aJ,aL,hI⟩
     obtain rfl:=aJ ed
     exact ⟨aA,aB,aC,aD,aw,aE,aF,aJ,fun _=>rfl,hI⟩
    intro D gK fT fY fE fm fw fF fC fD x2 dk dn cP cO cQ cS bT bS w_
    rintro ⟨aA,aB,aC,aD,aw,aE,aF,aJ,aL,hI⟩
    obtain rfl:=aL gK
    obtain rfl:=aJ fT
    obtain rfl:=aF fY
    obtain rfl:=aE fE
    obtain rfl:=aw fm
    obtain rfl:=aD fw
    obtain rfl:=aC fF
    obtain rfl:=aB fC
    obtain rfl:=aA fD
    clear aA aB aC aD aw aE aF aJ aL
    exact done hI (by rw [<- h])
   ·cases h
  ·rename_i hc3
   have e:(decide (t.kind=3) && decide (0<t.kids.length))=false:=by
    rw [Bool.eq_false_iff,ne_eq,Bool.and_eq_true,decide_eq_true_eq,decide_eq_true_eq]; exact hc3
   rw [e]
   refine a8 (fun hb=>by cases hb) (fun _=>?_)
   refine ba hI 0 ai rfl rfl ?_
   refine Run.callPure oj pD hI (tN h0 hp h) fun w' hI=>?_
   exact done hI rfl
theorem Js:∀ F f,f<F->F<=1000->xe f/\I7 f/\DA f/\pH f/\Jl f/\E6 f
 | 0,f,h,_=>by omega
 | F+1,f,h,hF=>by
  have ih:=fun g (hg:g<f)=>Js F g (by omega) (by omega)
  have hT:xe f:=Ns (fun g hg=>(ih g hg).2.1) (fun g hg=>(ih g hg).2.2.1) (fun g hg=>(ih g hg).2.2.2.2.1) (fun g hg=>(ih g hg).2.2.2.2.2)
  exact ⟨hT,MX (by omega) (fun g hg=>(ih g hg).1) (fun g hg=>(ih g hg).2.2.1),M4 fun g hg=>(ih g hg).1,Is fun g hg=>(ih g hg).1,MP (fun g hg=>(ih g hg).1) (fun g hg=>(ih g hg).2.2.2.1),Mb fun g hg=>(ih g hg).2.2.2.1⟩
theorem Cv {f:Nat} (hf:f<=100):xe f:=(Js (f+1) f (by omega) (by omega)).1
end
end Go.Proofs.YtemmhhdnlbmicaaGreat

/- Copies whose topmost row is still the caller's own, all else published. (printed by gen_top.py out of Copy and CopyC) -/
namespace Go.Proofs.YtemmhhdnlbmicaaGreat
open Go Go.RowKit
theorem Grown.rows {α:Type} {k:Nat} {R:bI->List Value->α->Prop} {R':List Value->α->Prop} {Ls:List bI} {css:List (List Value)} {ys:List α} {S:az} (h:Grown k R Ls css ys) (hi:Ins S Ls.flatten)
  (hR:∀ L cs x,Ins S L->R L cs x->R' cs x):Rows k R' css ys:=
 ⟨h.hc,h.hk,fun i h1 h2=>hR _ _ _ (E3 hi (by rw [h.hL]; exact h1)) (h.hR i h1 (by rw [h.hL]; exact h1) h2)⟩
abbrev LK (t:T):Value->List Item->az->Prop:=fun v I' S'=>∃ kv css,v=.agg #[.int .i64 t.kind,.int .i64 t.n,.string t.name,kv]/\I'=[bj kv ab 4 css]/\Rows 4 (RdT S') css t.kids
abbrev Lt (c:C):Value->List Item->az->Prop:=fun v I' S'=>∃ hd kv css,v=.agg (hd++[kv]).toArray/\RdT S' hd c.head/\I'=[bj kv ab 4 css]/\Rows 4 (RdT S') css c.body
section
attribute [local irreducible] Run CondV aj bd
theorem Ki:∀ (t:T) (S:az) (cs:List Value),RdT S cs t->wT t<=1048576->Tri Tryz.prog rf [.agg cs.toArray] [] S (LK t):=by
 intro t S cs h hw
 obtain ⟨k,n,s,ks⟩:=t
 have ih:∀ t∈ks,∀ (S:az) (cs:List Value),RdT S cs t->wT t<=1048576->Tri Tryz.prog rf [.agg cs.toArray] [] S (Gb S t):=fun t _=>fN t
 intro w hI
 obtain ⟨kv,rfl,h1,h2,hs,hks⟩:=RdT.iff.1 h
 simp only [T.name,T.kids,T.kind,T.n] at h1 h2 hs hks ⊢
 simp only [wT] at hw
 refine oh ?_
 unfold o8
 refine bM hI fun b1 w' hI=>?_
 refine bw hI bG fun b2 w' hI=>?_
 refine aI hI 0 rfl bx bn rfl ?_
 refine aI hI 0 rfl bJ bn rfl ?_
 refine aI hI 0 rfl bo bl rfl ?_
 refine wa ?_
 refine bw hI bG fun b3 w' hI=>?_
 refine bf hI 2 rfl ai rfl rfl (by simp [Value.oneCell']) fun w' hI=>?_
 have hI:=hI.rowNil ab 4
 refine ⟨fun i w'=>∃ (j:Nat) (kvc:Value) (Ls:List bI) (css:List (List Value)),j<=ks.length/\i=.int .i64 j/\Grown 4 TrT Ls css (ks.take j)/\
   Inv w [] (.blk b1 (.cells #[.int .i64 k,.int .i64 n,.string s,kv] ab)::.blk b2 (.cells #[.int .i64 0,.int .i64 0,.string ⟨#[]⟩,.slice none 0 0] ab)::.blk b3 (.cells #[.int .i64 k,.int .i64 n,.string s,kvc] ab)::bj kvc ab 4 css::bP Ls.flatten) S w',
  fun i _=>ks.length - (intOf i).toNat,⟨0,_,[],[],Nat.zero_le _,rfl,Grown.nil _ _,hI⟩,?_⟩
 intro t4 _ _ _ _ _ _ _ _ _ _ _ _ _ _ _ _ _ _ w'
 rintro ⟨j,kvc,Ls,css,hj,rfl,hg,hI⟩
 refine aI hI 0 rfl aT aP rfl ?_
 refine a9 hks av ?_
 refine bR ?_
 refine bk (fun hji=>?_) (fun hji=>?_)
 ·have hj':j<ks.length:=by omega
  have hjl:(ks.take j).length=j:=by simp; omega
  have hcl:=hg.hc
  have hm:=List.getElem_mem hj'
  have hwm:=iB hm
  obtain ⟨b,o,cap,c,E,fz,rfl,hS,hR⟩:=hks.at_ hj'
  refine ⟨fun D c5 cE cM bW bQ bU cA ce cN cJ b0 w_=>(D 0=true->b0=.pointer (some ⟨b3,3,none⟩))/\(D 1=true->cJ=kvc)/\(D 2=true->cN=.pointer (some ⟨b1,3,none⟩))/\(D 3=true->ce=.slice (some ⟨b,o,none⟩) (ks).length cap)/\(D 4=true->cA=.int .i64 j)/\(D 5=true->bU=.pointer (some ⟨b,o+j * 4,none⟩))/\(D 6=true->bQ=.agg (bu c (o+j * 4) 4).toArray)/\(D 7=true->True)/\(D 8=true->True)/\(D 9=true->True)/\(D 10=true->c5=.pointer (some ⟨b3,3,none⟩))/\(D 11=true->True)/\∃ M cs7 b8,(D 7=true->bW=.agg cs7.toArray/\TrT M cs7 (ks)[j])/\(D 8=true->cM=.slice (some ⟨b8,0,none⟩) 1 1)/\(D 8=true->D 7=true)/\(D 9=true->D 8=true)/\(D 11=true->D 9=true)/\(D 11=true->D 1=true)/\Inv w [] (bv (.blk b1 (.cells #[.int .i64 k,.int .i64 n,.string s,.slice (some ⟨b,o,none⟩) ks.length cap] ab)) (.blk b2 (.cells #[.int .i64 0,.int .i64 0,.string ⟨#[]⟩,.slice none 0 0] ab)) (.blk b3 (.cells #[.int .i64 k,.int .i64 n,.string s,kvc] ab)) (.blk b3 (.cells #[.int .i64 k,.int .i64 n,.string s,cE] ab)) (bj kvc ab 4 css) (bj cE ab 4 (css++[cs7])) (bP Ls.flatten) M (.blk b8 (.cells cs7.toArray ab)) (D 7) (D 8) (D 9) (D 11)) S w_,⟨ae,ae,ae,ae,ae,ae,ae,ae,ae,ae,ae,ae,⟨[],[],0,ae,ae,ae,ae,ae,ae,by simpa [bv,bP] using hI.draw⟩⟩,⟨?_,?_,?_,?_,?_,?_,?_,?_,?_,?_,?_,?_,trivial⟩,?_⟩
  ·intro D aY  c5 cE cM bW bQ bU cA ce cN cJ b0 w_
   rintro ⟨aA,aB,aC,aD,aw,aE,aF,aJ,aL,aQ,al,ao,⟨M,cs7,b8,e7,e8,k8,k9,k11,k1,hI⟩⟩
   refine bh aT ?_
   exact ⟨fun _=>rfl,aB,aC,aD,aw,aE,aF,aJ,aL,aQ,al,ao,⟨M,cs7,b8,e7,e8,k8,k9,k11,k1,hI⟩⟩
  ·intro D aY cc c5 cE cM bW bQ bU cA ce cN cJ b0 w_
   rintro ⟨aA,aB,aC,aD,aw,aE,aF,aJ,aL,aQ,al,ao,⟨M,cs7,b8,e7,e8,k8,k9,k11,k1,hI⟩⟩
   obtain rfl:=aA cc
   have f11:D 11=false:=Bool.eq_false_iff.2 fun h=>by rw [k1 h] at aY; cases aY
   refine bH (b:=b3) hI 2 (c:=(#[.int .i64 k,.int .i64 n,.string s,kvc])) aP (by rw [f11]; rfl) rfl ?_
   have k1:=fun (_:ay D 1 11=true)=>(rfl:ay D 1 1=true)
   exact ⟨aA,fun _=>rfl,aC,aD,aw,aE,aF,aJ,aL,aQ,al,ao,⟨M,cs7,b8,e7,e8,k8,k9,k11,k1,hI⟩⟩
  ·intro D aY  c5 cE cM bW bQ bU cA ce cN cJ b0 w_
   rintro ⟨aA,aB,aC,aD,aw,aE,aF,aJ,aL,aQ,al,ao,⟨M,cs7,b8,e7,e8,k8,k9,k11,k1,hI⟩⟩
   refine bh aT ?_
   exact ⟨aA,aB,fun _=>rfl,aD,aw,aE,aF,aJ,aL,aQ,al,ao,⟨M,cs7,b8,e7,e8,k8,k9,k11,k1,hI⟩⟩
  ·intro D aY eq c5 cE cM bW bQ bU cA ce cN cJ b0 w_
   rintro ⟨aA,aB,aC,aD,aw,aE,aF,aJ,aL,aQ,al,ao,⟨M,cs7,b8,e7,e8,k8,k9,k11,k1,hI⟩⟩
   obtain rfl:=aC eq
   refine bH hI 0 aP rfl rfl ?_
   exact ⟨aA,aB,aC,fun _=>rfl,aw,aE,aF,aJ,aL,aQ,al,ao,⟨M,cs7,b8,e7,e8,k8,k9,k11,k1,hI⟩⟩
  ·intro D aY  c5 cE cM bW bQ bU cA ce cN cJ b0 w_
   rintro ⟨aA,aB,aC,aD,aw,aE,aF,aJ,aL,aQ,al,ao,⟨M,cs7,b8,e7,e8,k8,k9,k11,k1,hI⟩⟩
   exact ⟨aA,aB,aC,aD,fun _=>rfl,aE,aF,aJ,aL,aQ,al,ao,⟨M,cs7,b8,e7,e8,k8,k9,k11,k1,hI⟩⟩
  ·intro D aY dB dJ c5 cE cM bW bQ bU cA ce cN cJ b0 w_
   rintro ⟨aA,aB,aC,aD,aw,aE,aF,aJ,aL,aQ,al,ao,⟨M,cs7,b8,e7,e8,k8,k9,k11,k1,hI⟩⟩
   obtain rfl:=aD dB
   obtain rfl:=aw dJ
   refine bi av hj' ?_
   exact ⟨aA,aB,aC,aD,aw,fun _=>rfl,aF,aJ,aL,aQ,al,ao,⟨M,cs7,b8,e7,e8,k8,k9,k11,k1,hI⟩⟩
  ·intro D aY d3 c5 cE cM bW bQ bU cA ce cN cJ b0 w_
   rintro ⟨aA,aB,aC,aD,aw,aE,aF,aJ,aL,aQ,al,ao,⟨M,cs7,b8,e7,e8,k8,k9,k11,k1,hI⟩⟩
   obtain rfl:=aE d3
   refine cV ai hR.length (fun j v hj=>by rw [hI.cellS hS]; exact bm rfl j v hj) ?_
   exact ⟨aA,aB,aC,aD,aw,aE,fun _=>rfl,aJ,aL,aQ,al,ao,⟨M,cs7,b8,e7,e8,k8,k9,k11,k1,hI⟩⟩
  ·intro D aY c4 c5 cE cM bW bQ bU cA ce cN cJ b0 w_
   rintro ⟨aA,aB,aC,aD,aw,aE,aF,aJ,aL,aQ,al,ao,⟨M,cs7,b8,e7,e8,k8,k9,k11,k1,hI⟩⟩
   obtain rfl:=aF c4
   have f8:D 8=false:=Bool.eq_false_iff.2 fun h=>by rw [k8 h] at aY; cases aY
   have f9:D 9=false:=Bool.eq_false_iff.2 fun h=>by rw [k9 h] at f8; cases f8
   have f11:D 11=false:=Bool.eq_false_iff.2 fun h=>by rw [k11 h] at f9; cases f9
   rw [aY,f8,f9,f11] at hI
   refine Run.call0 fg e9 hI (ih _ (List.getElem_mem hj') S _ hR (by omega)) fun v' I' S w_=>?_
   rintro ⟨rfl,cs7,M,rfl,rfl,hT⟩ _ hI
   have e7:ay D 7 7=true->Value.agg cs7.toArray=Value.agg cs7.toArray/\TrT M cs7 (ks)[j]:=fun _=>⟨rfl,hT⟩
   have k8:=fun (_:ay D 7 8=true)=>(rfl:ay D 7 7=true)
   have hI:Inv w [] (bv (.blk b1 (.cells #[.int .i64 k,.int .i64 n,.string s,.slice (some ⟨b,o,none⟩) ks.length cap] ab)) (.blk b2 (.cells #[.int .i64 0,.int .i64 0,.string ⟨#[]⟩,.slice none 0 0] ab)) (.blk b3 (.cells #[.int .i64 k,.int .i64 n,.string s,kvc] ab)) (.blk b3 (.cells #[.int .i64 k,.int .i64 n,.string s,cE] ab)) (bj kvc ab 4 css) (bj cE ab 4 (css++[cs7])) (bP Ls.flatten) M (.blk b8 (.cells cs7.toArray ab)) true (D 8) (D 9) (D 11)) S w_:=by
    rw [f8,f9,f11]
    simpa [bv] using hI
   exact ⟨aA,aB,aC,aD,aw,aE,aF,fun _=>by first|assumption|trivial,aL,aQ,al,ao,⟨M,cs7,b8,e7,e8,k8,k9,k11,k1,hI⟩⟩
  ·intro D aY ed c5 cE cM bW bQ bU cA ce cN cJ b0 w_
   rintro ⟨aA,aB,aC,aD,aw,aE,aF,aJ,aL,aQ,al,ao,⟨M,cs7,b8,e7,e8,k8,k9,k11,k1,hI⟩⟩
   have K6:=aJ ed
   have f9:D 9=false:=Bool.eq_false_iff.2 fun h=>by rw [k9 h] at aY; cases aY
   have f11:D 11=false:=Bool.eq_false_iff.2 fun h=>by rw [k11 h] at f9; cases f9
   obtain ⟨q7,hT⟩:=e7 ed
   subst q7
   rw [ed,aY,f9,f11] at hI
   refine fb hI bD (by simp [Value.cells,hT.length]) (by omega) (by omega) fun b8 w_ hI=>?_
   have e7:ay D 8 7=true->Value.agg cs7.toArray=Value.agg cs7.toArray/\TrT M cs7 (ks)[j]:=fun _=>⟨rfl,hT⟩
   have e8:=fun (_:ay D 8 8=true)=>(rfl:Value.slice (some ⟨b8,0,none⟩) 1 1=_)
   have k8:=fun (_:ay D 8 8=true)=>ed
   have k9:=fun (_:ay D 8 9=true)=>(rfl:ay D 8 8=true)
   have hI:Inv w [] (bv (.blk b1 (.cells #[.int .i64 k,.int .i64 n,.string s,.slice (some ⟨b,o,none⟩) ks.length cap] ab)) (.blk b2 (.cells #[.int .i64 0,.int .i64 0,.string ⟨#[]⟩,.slice none 0 0] ab)) (.blk b3 (.cells #[.int .i64 k,.int .i64 n,.string s,kvc] ab)) (.blk b3 (.cells #[.int .i64 k,.int .i64 n,.string s,cE] ab)) (bj kvc ab 4 css) (bj cE ab 4 (css++[cs7])) (bP Ls.flatten) M (.blk b8 (.cells cs7.toArray ab)) (D 7) true (D 9) (D 11)) S w_:=by
    rw [ed,f9,f11]
    simpa [bv,Value.cells] using hI
   exact ⟨aA,aB,aC,aD,aw,aE,aF,aJ,fun _=>by first|assumption|trivial,aQ,al,ao,⟨M,cs7,b8,e7,e8,k8,k9,k11,k1,hI⟩⟩
  ·intro D aY dC gp om c5 cE cM bW bQ bU cA ce cN cJ b0 w_
   rintro ⟨aA,aB,aC,aD,aw,aE,aF,aJ,aL,aQ,al,ao,⟨M,cs7,b8,e7,e8,k8,k9,k11,k1,hI⟩⟩
   obtain rfl:=aB dC
   have MZ:=aL gp
   have f11:D 11=false:=Bool.eq_false_iff.2 fun h=>by rw [k11 h] at aY; cases aY
   have q8:=e8 gp
   subst q8
   obtain ⟨_,hT⟩:=e7 om
   rw [om,gp,aY,f11] at hI
   have hblk:((bv (.blk b1 (.cells #[.int .i64 k,.int .i64 n,.string s,.slice (some ⟨b,o,none⟩) ks.length cap] ab)) (.blk b2 (.cells #[.int .i64 0,.int .i64 0,.string ⟨#[]⟩,.slice none 0 0] ab)) (.blk b3 (.cells #[.int .i64 k,.int .i64 n,.string s,cJ] ab)) (.blk b3 (.cells #[.int .i64 k,.int .i64 n,.string s,cE] ab)) (bj cJ ab 4 css) (bj cE ab 4 (css++[cs7])) (bP Ls.flatten) M (.blk b8 (.cells cs7.toArray ab)) true true false false))[4+(bP Ls.flatten).length+(bP M).length]?=some (.blk b8 (.cells cs7.toArray ab)):=by
    have e4:4+(bP Ls.flatten).length+(bP M).length=((bP Ls.flatten).length+(bP M).length)+1+1+1+1:=by omega
    rw [e4]
    simp only [bv,List.getElem?_cons_succ]
    rw [List.getElem?_append_right (by omega),Nat.add_sub_cancel_left,List.getElem?_append_right (Nat.le_refl _),Nat.sub_self]; rfl
   refine fo hI 3 cs7 bD (by omega) rfl (by rw [hT.length]) (m:=1) (o:=0) ?_ hT.one (by omega) (by omega) fun v' w_ hI=>?_
   ·intro i u hi
    rw [hI.cellL hblk,Nat.zero_add]
    simpa using hi
   rw [fW] at hI
   have k9:=fun (_:ay D 9 9=true)=>gp
   have k11:=fun (_:ay D 9 11=true)=>(rfl:ay D 9 9=true)
   have hI:Inv w [] (bv (.blk b1 (.cells #[.int .i64 k,.int .i64 n,.string s,.slice (some ⟨b,o,none⟩) ks.length cap] ab)) (.blk b2 (.cells #[.int .i64 0,.int .i64 0,.string ⟨#[]⟩,.slice none 0 0] ab)) (.blk b3 (.cells #[.int .i64 k,.int .i64 n,.string s,cJ] ab)) (.blk b3 (.cells #[.int .i64 k,.int .i64 n,.string s,v'] ab)) (bj cJ ab 4 css) (bj v' ab 4 (css++[cs7])) (bP Ls.flatten) M (.blk b8 (.cells cs7.toArray ab)) (D 7) (D 8) true (D 11)) S w_:=by
    rw [om,gp,f11]
    exact hI
   exact ⟨aA,aB,aC,aD,aw,aE,aF,aJ,aL,fun _=>by first|assumption|trivial,al,ao,⟨M,cs7,b8,e7,e8,k8,k9,k11,k1,hI⟩⟩
  ·intro D aY cc ij zW E9 zp IB KS LD Nu Nv c5 cE cM bW bQ bU cA ce cN cJ b0 w_
   rintro ⟨aA,aB,aC,aD,aw,aE,aF,aJ,aL,aQ,al,ao,⟨M,cs7,b8,e7,e8,k8,k9,k11,k1,hI⟩⟩
   refine bh aT ?_
   exact ⟨aA,aB,aC,aD,aw,aE,aF,aJ,aL,aQ,fun _=>rfl,ao,⟨M,cs7,b8,e7,e8,k8,k9,k11,k1,hI⟩⟩
  ·intro D aY gx fj K2 Dr mv Dx zf Av Eu KU lK oP Lc c5 cE cM bW bQ bU cA ce cN cJ b0 w_
   rintro ⟨aA,aB,aC,aD,aw,aE,aF,aJ,aL,aQ,al,ao,⟨M,cs7,b8,e7,e8,k8,k9,k11,k1,hI⟩⟩
   obtain rfl:=al gx
   have Nx:=aQ fj
   rw [lK,oP,fj,aY] at hI
   obtain ⟨va,vn,vc,hv9⟩:=Inv.rowSlice hI 3 rfl
   refine el hI 2 (n:=1) (by rw [hv9]; rfl) (by decide +kernel) rfl (by simp) (by rw [hv9]; simp [Value.cells,Value.oneCell']) fun w_ hI=>?_
   have hcl9:Value.cells cE=#[cE]:=by rw [hv9]; rfl
   rw [hcl9] at hI
   have k1:=fun (_:ay D 11 11=true)=>mv
   have k11:=fun (_:ay D 11 11=true)=>fj
   have hI:Inv w [] (bv (.blk b1 (.cells #[.int .i64 k,.int .i64 n,.string s,.slice (some ⟨b,o,none⟩) ks.length cap] ab)) (.blk b2 (.cells #[.int .i64 0,.int .i64 0,.string ⟨#[]⟩,.slice none 0 0] ab)) (.blk b3 (.cells #[.int .i64 k,.int .i64 n,.string s,kvc] ab)) (.blk b3 (.cells #[.int .i64 k,.int .i64 n,.string s,cE] ab)) (bj kvc ab 4 css) (bj cE ab 4 (css++[cs7])) (bP Ls.flatten) M (.blk b8 (.cells cs7.toArray ab)) (D 7) (D 8) (D 9) true) S w_:=by
    rw [lK,oP,fj]
    exact hI
   exact ⟨aA,aB,aC,aD,aw,aE,aF,aJ,aL,aQ,al,fun _=>trivial,⟨M,cs7,b8,e7,e8,k8,k9,k11,k1,hI⟩⟩
  intro D fi fp jt gK fT fY fE fm fw fF fC fD c5 cE cM bW bQ bU cA ce cN cJ b0 w_
  rintro ⟨aA,aB,aC,aD,aw,aE,aF,aJ,aL,aQ,al,ao,⟨M,cs7,b8,e7,e8,k8,k9,k11,k1,hI⟩⟩
  obtain rfl:=al fp
  have Nx:=aQ jt
  have MZ:=aL gK
  have K6:=aJ fT
  obtain rfl:=aF fY
  obtain rfl:=aE fE
  obtain rfl:=aw fm
  obtain rfl:=aD fw
  obtain rfl:=aC fF
  obtain rfl:=aB fC
  obtain rfl:=aA fD
  clear aA aB aC aD aw aE aF aJ aL aQ al ao
  obtain ⟨_,hT⟩:=e7 fT
  rw [fT,gK,jt,fi] at hI
  refine bL (by omega) ?_
  refine ⟨⟨j+1,cE,Ls++[M],css++[cs7],hj',rfl,?_,?_⟩,by simp [intOf]; omega⟩
  ·rw [List.take_succ_eq_append_getElem hj']
   exact hg.snoc hT hT.length
  ·simp only [List.flatten_append,List.flatten_cons,List.flatten_nil,List.append_nil,eZ]
   refine hI.sub ?_
   simp only [bv]
   rw [<- List.append_assoc]
   exact (((List.sublist_append_left _ _).cons_cons _).cons_cons _).cons_cons _ |>.cons_cons _
 ·have:j=ks.length:=by omega
  subst this
  rw [List.take_length] at hg
  obtain ⟨va,vn,vc,hvk⟩:=hI.rowSlice 3 rfl
  have hv1:kvc.oneCell'=true:=by rw [hvk]; rfl
  refine ba hI 2 ai rfl rfl ?_
  refine bf hI 1 rfl ai rfl rfl ?_ fun w' hI=>?_
  ·intro u hu
   have hu':u∈([.int .i64 k,.int .i64 n,.string s,kvc]:List Value):=hu
   simp at hu'
   rcases hu' with rfl|rfl|rfl|rfl <;> first|rfl|exact hv1
  refine bZ hI 1 ai rfl rfl ?_
  have hI:Inv w [] ([bj kvc ab 4 css]++bP Ls.flatten) S w':=hI.sub (List.sublist_append_right [_,_,_] _)
  obtain ⟨S1,hI,hE,hins⟩:=hI.pubExt
  exact ⟨_,_,S1,rfl,hI,hE,_,css,rfl,rfl,hg.rows hins fun _ _ _ hi h=>h.rd hi⟩
theorem KJ {c0:C} {S:az} {cs:List Value} (h:RdC S cs c0) (hw:wC c0<=1048576):Tri Tryz.prog zJ [.agg cs.toArray] [] S (Lt c0):=by
 intro w hI
 obtain ⟨hd,ks,rfl,h1,h2⟩:=h
 have h1':=h1
 obtain ⟨kv,rfl,g1,g2,g3,g4⟩:=RdT.iff.1 h1
 unfold wC at hw
 refine nU ?_
 unfold oF
 refine bM hI fun b1 w' hI=>?_
 refine bw hI eI fun b2 w' hI=>?_
 refine bh dh ?_
 refine fe hI 0 [.int .i64 c0.head.kind,.int .i64 c0.head.n,.string c0.head.name,kv] ai rfl rfl Lk ?_
 refine Run.call0 fg e9 hI (fN _ S _ h1' (by omega)) fun v' I' S w'=>?_
 rintro ⟨rfl,cs1,N,rfl,rfl,hT1⟩ _ hI
 obtain ⟨kh,rfl,_⟩:=TrT.iff.1 hT1
 refine k0 ?_
 refine bw hI eI fun b3 w' hI=>?_
 have hI:=hI.perm (M:=.blk b1 _::.blk b2 _::.blk b3 _::bP N) (((List.perm_append_comm (l₁:=[_])).cons _).cons _)
 refine bf hI 2 rfl bF rfl rfl ?_ fun w' hI=>?_
 ·intro u hu
  have hu':u∈([.int .i64 c0.head.kind,.int .i64 c0.head.n,.string c0.head.name,kh,.slice none 0 0]:List Value):=hu
  simp at hu'
  have o1:kh.oneCell'=true:=hT1.one kh (by simp)
  rcases hu' with rfl|rfl|rfl|rfl|rfl <;> first|rfl|exact o1
 have hI:=hI.rowNil ab 4
 have hI:=hI.perm (M:=.blk b1 (.cells #[.int .i64 c0.head.kind,.int .i64 c0.head.n,.string c0.head.name,kv,ks] aR)::.blk b2 (.cells #[.int .i64 0,.int .i64 0,.string ⟨#[]⟩,.slice none 0 0,.slice none 0 0] aR)::.blk b3 (.cells #[.int .i64 c0.head.kind,.int .i64 c0.head.n,.string c0.head.name,kh,.slice none 0 0] aR)::bj (.slice none 0 0) ab 4 []::bP N) ((((List.perm_append_comm (l₁:=[_])).cons _).cons _).cons _)
 refine ⟨fun i w'=>∃ (j:Nat) (kvc:Value) (Ls:List bI) (css:List (List Value)),j<=c0.body.length/\i=.int .i64 j/\Grown 4 TrT Ls css (c0.body.take j)/\
   Inv w [] (.blk b1 (.cells #[.int .i64 c0.head.kind,.int .i64 c0.head.n,.string c0.head.name,kv,ks] aR)::.blk b2 (.cells #[.int .i64 0,.int .i64 0,.string ⟨#[]⟩,.slice none 0 0,.slice none 0 0] aR)::.blk b3 (.cells #[.int .i64 c0.head.kind,.int .i64 c0.head.n,.string c0.head.name,kh,kvc] aR)::bj kvc ab 4 css::bP (N::Ls).flatten) S w',
  fun i _=>c0.body.length - (intOf i).toNat,⟨0,_,[],[],Nat.zero_le _,rfl,Grown.nil _ _,by simp only [List.flatten_cons,List.flatten_nil,List.append_nil]; exact hI⟩,?_⟩
 intro t4 _ _ _ _ _ _ _ _ _ _ _ _ _ _ _ _ _ _ w'
 rintro ⟨j,kvc,Ls,css,hj,rfl,hg,hI⟩
 refine aI hI 0 rfl bq aP rfl ?_
 refine a9 h2 av ?_
 refine bR ?_
 refine bk (fun hji=>?_) (fun hji=>?_)
 ·have hj':j<c0.body.length:=by omega
  have hjl:(c0.body.take j).length=j:=by simp; omega
  have hcl:=hg.hc
  have hm:=List.getElem_mem hj'
  have hwm:=iB hm
  obtain ⟨b,o,cap,c,E,fz,rfl,hS,hR⟩:=h2.at_ hj'
  refine ⟨fun D bW bQ bU cA ce cN cJ b0 dI dw dv w_=>(D 0=true->dv=.pointer (some ⟨b3,4,none⟩))/\(D 1=true->dw=kvc)/\(D 2=true->dI=.pointer (some ⟨b1,4,none⟩))/\(D 3=true->b0=.slice (some ⟨b,o,none⟩) (c0.body).length cap)/\(D 4=true->cJ=.int .i64 j)/\(D 5=true->cN=.pointer (some ⟨b,o+j * 4,none⟩))/\(D 6=true->ce=.agg (bu c (o+j * 4) 4).toArray)/\(D 7=true->True)/\(D 8=true->True)/\(D 9=true->True)/\(D 10=true->bW=.pointer (some ⟨b3,4,none⟩))/\(D 11=true->True)/\∃ M cs7 b8,(D 7=true->cA=.agg cs7.toArray/\TrT M cs7 (c0.body)[j])/\(D 8=true->bU=.slice (some ⟨b8,0,none⟩) 1 1)/\(D 8=true->D 7=true)/\(D 9=true->D 8=true)/\(D 11=true->D 9=true)/\(D 11=true->D 1=true)/\Inv w [] (bv (.blk b1 (.cells #[.int .i64 c0.head.kind,.int .i64 c0.head.n,.string c0.head.name,kv,.slice (some ⟨b,o,none⟩) c0.body.length cap] aR)) (.blk b2 (.cells #[.int .i64 0,.int .i64 0,.string ⟨#[]⟩,.slice none 0 0,.slice none 0 0] aR)) (.blk b3 (.cells #[.int .i64 c0.head.kind,.int .i64 c0.head.n,.string c0.head.name,kh,kvc] aR)) (.blk b3 (.cells #[.int .i64 c0.head.kind,.int .i64 c0.head.n,.string c0.head.name,kh,bQ] aR)) (bj kvc ab 4 css) (bj bQ ab 4 (css++[cs7])) (bP (N::Ls).flatten) M (.blk b8 (.cells cs7.toArray ab)) (D 7) (D 8) (D 9) (D 11)) S w_,⟨ae,ae,ae,ae,ae,ae,ae,ae,ae,ae,ae,ae,⟨[],[],0,ae,ae,ae,ae,ae,ae,by simpa [bv,bP] using hI.draw⟩⟩,⟨?_,?_,?_,?_,?_,?_,?_,?_,?_,?_,?_,?_,trivial⟩,?_⟩
  ·intro D aY  bW bQ bU cA ce cN cJ b0 dI dw dv w_
   rintro ⟨aA,aB,aC,aD,aw,aE,aF,aJ,aL,aQ,al,ao,⟨M,cs7,b8,e7,e8,k8,k9,k11,k1,hI⟩⟩
   refine bh bq ?_
   exact ⟨fun _=>rfl,aB,aC,aD,aw,aE,aF,aJ,aL,aQ,al,ao,⟨M,cs7,b8,e7,e8,k8,k9,k11,k1,hI⟩⟩
  ·intro D aY cc bW bQ bU cA ce cN cJ b0 dI dw dv w_
   rintro ⟨aA,aB,aC,aD,aw,aE,aF,aJ,aL,aQ,al,ao,⟨M,cs7,b8,e7,e8,k8,k9,k11,k1,hI⟩⟩
   obtain rfl:=aA cc
   have f11:D 11=false:=Bool.eq_false_iff.2 fun h=>by rw [k1 h] at aY; cases aY
   refine bH (b:=b3) hI 2 (c:=(#[.int .i64 c0.head.kind,.int .i64 c0.head.n,.string c0.head.name,kh,kvc])) aP (by rw [f11]; rfl) rfl ?_
   have k1:=fun (_:ay D 1 11=true)=>(rfl:ay D 1 1=true)
   exact ⟨aA,fun _=>rfl,aC,aD,aw,aE,aF,aJ,aL,aQ,al,ao,⟨M,cs7,b8,e7,e8,k8,k9,k11,k1,hI⟩⟩
  ·intro D aY  bW bQ bU cA ce cN cJ b0 dI dw dv w_
   rintro ⟨aA,aB,aC,aD,aw,aE,aF,aJ,aL,aQ,al,ao,⟨M,cs7,b8,e7,e8,k8,k9,k11,k1,hI⟩⟩
   refine bh bq ?_
   exact ⟨aA,aB,fun _=>rfl,aD,aw,aE,aF,aJ,aL,aQ,al,ao,⟨M,cs7,b8,e7,e8,k8,k9,k11,k1,hI⟩⟩
  ·intro D aY eq bW bQ bU cA ce cN cJ b0 dI dw dv w_
   rintro ⟨aA,aB,aC,aD,aw,aE,aF,aJ,aL,aQ,al,ao,⟨M,cs7,b8,e7,e8,k8,k9,k11,k1,hI⟩⟩
   obtain rfl:=aC eq
   refine bH hI 0 aP rfl rfl ?_
   exact ⟨aA,aB,aC,fun _=>rfl,aw,aE,aF,aJ,aL,aQ,al,ao,⟨M,cs7,b8,e7,e8,k8,k9,k11,k1,hI⟩⟩
  ·intro D aY  bW bQ bU cA ce cN cJ b0 dI dw dv w_
   rintro ⟨aA,aB,aC,aD,aw,aE,aF,aJ,aL,aQ,al,ao,⟨M,cs7,b8,e7,e8,k8,k9,k11,k1,hI⟩⟩
   exact ⟨aA,aB,aC,aD,fun _=>rfl,aE,aF,aJ,aL,aQ,al,ao,⟨M,cs7,b8,e7,e8,k8,k9,k11,k1,hI⟩⟩
  ·intro D aY dB dJ bW bQ bU cA ce cN cJ b0 dI dw dv w_
   rintro ⟨aA,aB,aC,aD,aw,aE,aF,aJ,aL,aQ,al,ao,⟨M,cs7,b8,e7,e8,k8,k9,k11,k1,hI⟩⟩
   obtain rfl:=aD dB
   obtain rfl:=aw dJ
   refine bi av hj' ?_
   exact ⟨aA,aB,aC,aD,aw,fun _=>rfl,aF,aJ,aL,aQ,al,ao,⟨M,cs7,b8,e7,e8,k8,k9,k11,k1,hI⟩⟩
  ·intro D aY d3 bW bQ bU cA ce cN cJ b0 dI dw dv w_
   rintro ⟨aA,aB,aC,aD,aw,aE,aF,aJ,aL,aQ,al,ao,⟨M,cs7,b8,e7,e8,k8,k9,k11,k1,hI⟩⟩
   obtain rfl:=aE d3
   refine cV ai hR.length (fun j v hj=>by rw [hI.cellS hS]; exact bm rfl j v hj) ?_
   exact ⟨aA,aB,aC,aD,aw,aE,fun _=>rfl,aJ,aL,aQ,al,ao,⟨M,cs7,b8,e7,e8,k8,k9,k11,k1,hI⟩⟩
  ·intro D aY c4 bW bQ bU cA ce cN cJ b0 dI dw dv w_
   rintro ⟨aA,aB,aC,aD,aw,aE,aF,aJ,aL,aQ,al,ao,⟨M,cs7,b8,e7,e8,k8,k9,k11,k1,hI⟩⟩
   obtain rfl:=aF c4
   have f8:D 8=false:=Bool.eq_false_iff.2 fun h=>by rw [k8 h] at aY; cases aY
   have f9:D 9=false:=Bool.eq_false_iff.2 fun h=>by rw [k9 h] at f8; cases f8
   have f11:D 11=false:=Bool.eq_false_iff.2 fun h=>by rw [k11 h] at f9; cases f9
   rw [aY,f8,f9,f11] at hI
   refine Run.call0 fg e9 hI (fN _ S _ hR (by omega)) fun v' I' S w_=>?_
   rintro ⟨rfl,cs7,M,rfl,rfl,hT⟩ _ hI
   have e7:ay D 7 7=true->Value.agg cs7.toArray=Value.agg cs7.toArray/\TrT M cs7 (c0.body)[j]:=fun _=>⟨rfl,hT⟩
   have k8:=fun (_:ay D 7 8=true)=>(rfl:ay D 7 7=true)
   have hI:Inv w [] (bv (.blk b1 (.cells #[.int .i64 c0.head.kind,.int .i64 c0.head.n,.string c0.head.name,kv,.slice (some ⟨b,o,none⟩) c0.body.length cap] aR)) (.blk b2 (.cells #[.int .i64 0,.int .i64 0,.string ⟨#[]⟩,.slice none 0 0,.slice none 0 0] aR)) (.blk b3 (.cells #[.int .i64 c0.head.kind,.int .i64 c0.head.n,.string c0.head.name,kh,kvc] aR)) (.blk b3 (.cells #[.int .i64 c0.head.kind,.int .i64 c0.head.n,.string c0.head.name,kh,bQ] aR)) (bj kvc ab 4 css) (bj bQ ab 4 (css++[cs7])) (bP (N::Ls).flatten) M (.blk b8 (.cells cs7.toArray ab)) true (D 8) (D 9) (D 11)) S w_:=by
    rw [f8,f9,f11]
    simpa [bv] using hI
   exact ⟨aA,aB,aC,aD,aw,aE,aF,fun _=>by first|assumption|trivial,aL,aQ,al,ao,⟨M,cs7,b8,e7,e8,k8,k9,k11,k1,hI⟩⟩
  ·intro D aY ed bW bQ bU cA ce cN cJ b0 dI dw dv w_
   rintro ⟨aA,aB,aC,aD,aw,aE,aF,aJ,aL,aQ,al,ao,⟨M,cs7,b8,e7,e8,k8,k9,k11,k1,hI⟩⟩
   have K6:=aJ ed
   have f9:D 9=false:=Bool.eq_false_iff.2 fun h=>by rw [k9 h] at aY; cases aY
   have f11:D 11=false:=Bool.eq_false_iff.2 fun h=>by rw [k11 h] at f9; cases f9
   obtain ⟨q7,hT⟩:=e7 ed
   subst q7
   rw [ed,aY,f9,f11] at hI
   refine fb hI bD (by simp [Value.cells,hT.length]) (by omega) (by omega) fun b8 w_ hI=>?_
   have e7:ay D 8 7=true->Value.agg cs7.toArray=Value.agg cs7.toArray/\TrT M cs7 (c0.body)[j]:=fun _=>⟨rfl,hT⟩
   have e8:=fun (_:ay D 8 8=true)=>(rfl:Value.slice (some ⟨b8,0,none⟩) 1 1=_)
   have k8:=fun (_:ay D 8 8=true)=>ed
   have k9:=fun (_:ay D 8 9=true)=>(rfl:ay D 8 8=true)
   have hI:Inv w [] (bv (.blk b1 (.cells #[.int .i64 c0.head.kind,.int .i64 c0.head.n,.string c0.head.name,kv,.slice (some ⟨b,o,none⟩) c0.body.length cap] aR)) (.blk b2 (.cells #[.int .i64 0,.int .i64 0,.string ⟨#[]⟩,.slice none 0 0,.slice none 0 0] aR)) (.blk b3 (.cells #[.int .i64 c0.head.kind,.int .i64 c0.head.n,.string c0.head.name,kh,kvc] aR)) (.blk b3 (.cells #[.int .i64 c0.head.kind,.int .i64 c0.head.n,.string c0.head.name,kh,bQ] aR)) (bj kvc ab 4 css) (bj bQ ab 4 (css++[cs7])) (bP (N::Ls).flatten) M (.blk b8 (.cells cs7.toArray ab)) (D 7) true (D 9) (D 11)) S w_:=by
    rw [ed,f9,f11]
    simpa [bv,Value.cells] using hI
   exact ⟨aA,aB,aC,aD,aw,aE,aF,aJ,fun _=>by first|assumption|trivial,aQ,al,ao,⟨M,cs7,b8,e7,e8,k8,k9,k11,k1,hI⟩⟩
  ·intro D aY dC gp om bW bQ bU cA ce cN cJ b0 dI dw dv w_
   rintro ⟨aA,aB,aC,aD,aw,aE,aF,aJ,aL,aQ,al,ao,⟨M,cs7,b8,e7,e8,k8,k9,k11,k1,hI⟩⟩
   obtain rfl:=aB dC
   have MZ:=aL gp
   have f11:D 11=false:=Bool.eq_false_iff.2 fun h=>by rw [k11 h] at aY; cases aY
   have q8:=e8 gp
   subst q8
   obtain ⟨_,hT⟩:=e7 om
   rw [om,gp,aY,f11] at hI
   have hblk:((bv (.blk b1 (.cells #[.int .i64 c0.head.kind,.int .i64 c0.head.n,.string c0.head.name,kv,.slice (some ⟨b,o,none⟩) c0.body.length cap] aR)) (.blk b2 (.cells #[.int .i64 0,.int .i64 0,.string ⟨#[]⟩,.slice none 0 0,.slice none 0 0] aR)) (.blk b3 (.cells #[.int .i64 c0.head.kind,.int .i64 c0.head.n,.string c0.head.name,kh,dw] aR)) (.blk b3 (.cells #[.int .i64 c0.head.kind,.int .i64 c0.head.n,.string c0.head.name,kh,bQ] aR)) (bj dw ab 4 css) (bj bQ ab 4 (css++[cs7])) (bP (N::Ls).flatten) M (.blk b8 (.cells cs7.toArray ab)) true true false false))[4+(bP (N::Ls).flatten).length+(bP M).length]?=some (.blk b8 (.cells cs7.toArray ab)):=by
    have e4:4+(bP (N::Ls).flatten).length+(bP M).length=((bP (N::Ls).flatten).length+(bP M).length)+1+1+1+1:=by omega
    rw [e4]
    simp only [bv,List.getElem?_cons_succ]
    rw [List.getElem?_append_right (by omega),Nat.add_sub_cancel_left,List.getElem?_append_right (Nat.le_refl _),Nat.sub_self]; rfl
   refine fo hI 3 cs7 bD (by omega) rfl (by rw [hT.length]) (m:=1) (o:=0) ?_ hT.one (by omega) (by omega) fun v' w_ hI=>?_
   ·intro i u hi
    rw [hI.cellL hblk,Nat.zero_add]
    simpa using hi
   rw [fW] at hI
   have k9:=fun (_:ay D 9 9=true)=>gp
   have k11:=fun (_:ay D 9 11=true)=>(rfl:ay D 9 9=true)
   have hI:Inv w [] (bv (.blk b1 (.cells #[.int .i64 c0.head.kind,.int .i64 c0.head.n,.string c0.head.name,kv,.slice (some ⟨b,o,none⟩) c0.body.length cap] aR)) (.blk b2 (.cells #[.int .i64 0,.int .i64 0,.string ⟨#[]⟩,.slice none 0 0,.slice none 0 0] aR)) (.blk b3 (.cells #[.int .i64 c0.head.kind,.int .i64 c0.head.n,.string c0.head.name,kh,dw] aR)) (.blk b3 (.cells #[.int .i64 c0.head.kind,.int .i64 c0.head.n,.string c0.head.name,kh,v'] aR)) (bj dw ab 4 css) (bj v' ab 4 (css++[cs7])) (bP (N::Ls).flatten) M (.blk b8 (.cells cs7.toArray ab)) (D 7) (D 8) true (D 11)) S w_:=by
    rw [om,gp,f11]
    exact hI
   exact ⟨aA,aB,aC,aD,aw,aE,aF,aJ,aL,fun _=>by first|assumption|trivial,al,ao,⟨M,cs7,b8,e7,e8,k8,k9,k11,k1,hI⟩⟩
  ·intro D aY cc ij zW E9 zp IB KS LD Nu Nv bW bQ bU cA ce cN cJ b0 dI dw dv w_
   rintro ⟨aA,aB,aC,aD,aw,aE,aF,aJ,aL,aQ,al,ao,⟨M,cs7,b8,e7,e8,k8,k9,k11,k1,hI⟩⟩
   refine bh bq ?_
   exact ⟨aA,aB,aC,aD,aw,aE,aF,aJ,aL,aQ,fun _=>rfl,ao,⟨M,cs7,b8,e7,e8,k8,k9,k11,k1,hI⟩⟩
  ·intro D aY gx fj K2 Dr mv Dx zf Av Eu KU lK oP Lc bW bQ bU cA ce cN cJ b0 dI dw dv w_
   rintro ⟨aA,aB,aC,aD,aw,aE,aF,aJ,aL,aQ,al,ao,⟨M,cs7,b8,e7,e8,k8,k9,k11,k1,hI⟩⟩
   obtain rfl:=al gx
   have Nx:=aQ fj
   rw [lK,oP,fj,aY] at hI
   obtain ⟨va,vn,vc,hv9⟩:=Inv.rowSlice hI 3 rfl
   refine el hI 2 (n:=1) (by rw [hv9]; rfl) (by decide +kernel) rfl (by simp) (by rw [hv9]; simp [Value.cells,Value.oneCell']) fun w_ hI=>?_
   have hcl9:Value.cells bQ=#[bQ]:=by rw [hv9]; rfl
   rw [hcl9] at hI
   have k1:=fun (_:ay D 11 11=true)=>mv
   have k11:=fun (_:ay D 11 11=true)=>fj
   have hI:Inv w [] (bv (.blk b1 (.cells #[.int .i64 c0.head.kind,.int .i64 c0.head.n,.string c0.head.name,kv,.slice (some ⟨b,o,none⟩) c0.body.length cap] aR)) (.blk b2 (.cells #[.int .i64 0,.int .i64 0,.string ⟨#[]⟩,.slice none 0 0,.slice none 0 0] aR)) (.blk b3 (.cells #[.int .i64 c0.head.kind,.int .i64 c0.head.n,.string c0.head.name,kh,kvc] aR)) (.blk b3 (.cells #[.int .i64 c0.head.kind,.int .i64 c0.head.n,.string c0.head.name,kh,bQ] aR)) (bj kvc ab 4 css) (bj bQ ab 4 (css++[cs7])) (bP (N::Ls).flatten) M (.blk b8 (.cells cs7.toArray ab)) (D 7) (D 8) (D 9) true) S w_:=by
    rw [lK,oP,fj]
    exact hI
   exact ⟨aA,aB,aC,aD,aw,aE,aF,aJ,aL,aQ,al,fun _=>trivial,⟨M,cs7,b8,e7,e8,k8,k9,k11,k1,hI⟩⟩
  intro D fi fp jt gK fT fY fE fm fw fF fC fD bW bQ bU cA ce cN cJ b0 dI dw dv w_
  rintro ⟨aA,aB,aC,aD,aw,aE,aF,aJ,aL,aQ,al,ao,⟨M,cs7,b8,e7,e8,k8,k9,k11,k1,hI⟩⟩
  obtain rfl:=al fp
  have Nx:=aQ jt
  have MZ:=aL gK
  have K6:=aJ fT
  obtain rfl:=aF fY
  obtain rfl:=aE fE
  obtain rfl:=aw fm
  obtain rfl:=aD fw
  obtain rfl:=aC fF
  obtain rfl:=aB fC
  obtain rfl:=aA fD
  clear aA aB aC aD aw aE aF aJ aL aQ al ao
  obtain ⟨_,hT⟩:=e7 fT
  rw [fT,gK,jt,fi] at hI
  refine bL (by omega) ?_
  refine ⟨⟨j+1,bQ,Ls++[M],css++[cs7],hj',rfl,?_,?_⟩,by simp [intOf]; omega⟩
  ·rw [List.take_succ_eq_append_getElem hj']
   exact hg.snoc hT hT.length
  ·rw [<- List.cons_append,List.flatten_append,eZ]
   simp only [List.flatten_cons,List.flatten_nil,List.append_nil]
   refine hI.sub ?_
   simp only [bv,List.flatten_cons]
   rw [<- List.append_assoc]
   exact (((List.sublist_append_left _ _).cons_cons _).cons_cons _).cons_cons _ |>.cons_cons _
 ·have:j=c0.body.length:=by omega
  subst this
  rw [List.take_length] at hg
  obtain ⟨va,vn,vc,hvk⟩:=hI.rowSlice 3 rfl
  have hv1:kvc.oneCell'=true:=by rw [hvk]; rfl
  have o1:kh.oneCell'=true:=hT1.one kh (by simp)
  refine ba hI 2 bF rfl rfl ?_
  refine bf hI 1 rfl bF rfl rfl ?_ fun w' hI=>?_
  ·intro u hu
   have hu':u∈([.int .i64 c0.head.kind,.int .i64 c0.head.n,.string c0.head.name,kh,kvc]:List Value):=hu
   simp at hu'
   rcases hu' with rfl|rfl|rfl|rfl|rfl <;> first|rfl|exact o1|exact hv1
  refine bZ hI 1 bF rfl rfl ?_
  have hI:Inv w [] (bj kvc ab 4 css::bP (N::Ls).flatten) S w':=hI.sub (List.sublist_append_right [_,_,_] _)
  have hI:Inv w [] ([bj kvc ab 4 css]++bP (N::Ls).flatten) S w':=hI
  obtain ⟨S1,hI,hE,hins⟩:=hI.pubExt
  rw [List.flatten_cons] at hins
  exact ⟨_,_,S1,rfl,hI,hE,_,kvc,css,rfl,hT1.rd hins.left,rfl,hg.rows hins.right fun _ _ _ hi h=>h.rd hi⟩
end
end Go.Proofs.YtemmhhdnlbmicaaGreat

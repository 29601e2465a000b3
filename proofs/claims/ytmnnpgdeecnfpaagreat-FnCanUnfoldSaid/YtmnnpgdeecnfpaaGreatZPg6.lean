/- Texts written: spec.l2Text and its kin, l4Text, FormatClause. -/
import Derived.Test.YtmnnpgdeecnfpaaGreatZPg5
import Derived.Test.YtmnnpgdeecnfpaaGreatZPg2
import Derived.Test.YtmnnpgdeecnfpaaGreatZPg4
namespace Go.Proofs.YtmnnpgdeecnfpaaGreat
open Go Go.RowKit
theorem CT:Tryz.prog.underlying yV=some (.slice xH):=by kernel_rfl
section
variable {w:World} {S:Store}
attribute [local irreducible] Run CondV GuardV LoadV
theorem eO {t:T} {cs:List Value} (h:RdT S cs t):Pure Tryz.prog Bf [.agg cs.toArray] S (.bool (tT t)):=by
 intro w hI
 obtain ⟨kv,rfl,_,_,_,hk⟩:=RdT.iff.1 h
 obtain ⟨ka,kc,rfl,_⟩:=id hk
 refine sm ?_
 unfold qY
 refine r_box hI fun b1 w' hI=>?_
 refine r_fieldL hI 0 rfl aI aC rfl ?_
 by_cases h3:t.kind=3
 ·refine bY h3 ?_
  repeat (first|refine ac ?_|refine ae (by decide) ?_|refine ad ?_|refine ai ?_|refine ah ?_)
  refine r_fieldL hI 0 rfl aF ay rfl ?_
  refine r_seql (b:=st [46]) ?_
  cases hn:decide (t.name=st [46])
  ·repeat (first|refine ac ?_|refine ae (by decide) ?_|refine ad ?_|refine ai ?_|refine ah ?_)
   exact done hI (by rw [tT,hn,Bool.false_and,Bool.and_false])
  ·repeat (first|refine ac ?_|refine ae (by decide) ?_|refine ad ?_|refine ai ?_|refine ah ?_)
   refine r_fieldL hI 0 rfl aq al rfl ?_
   refine r_len aj ?_
   refine r_eql ?_
   repeat (first|refine ac ?_|refine ae (by decide) ?_|refine ad ?_|refine ai ?_|refine ah ?_)
   refine done hI ?_
   rw [tT,hn,decide_eq_true h3,Bool.true_and,Bool.true_and]
   congr 1
   rw [decide_eq_decide]
   omega
 ·refine bF h3 ?_
  repeat (first|refine ac ?_|refine ae (by decide) ?_|refine ad ?_|refine ai ?_|refine ah ?_)
  exact done hI (by rw [tT,decide_eq_false h3,Bool.false_and])
theorem vd {t:T} {cs:List Value} (h:RdT S cs t):Pure Tryz.prog Cg [.agg cs.toArray] S (.bool (Dj t)):=by
 intro w hI
 obtain ⟨kv,rfl,_,_,_,hk⟩:=RdT.iff.1 h
 obtain ⟨ka,kc,rfl,_⟩:=id hk
 refine vx ?_
 unfold tw
 refine r_box hI fun b1 w' hI=>?_
 refine r_fieldL hI 0 rfl aI aC rfl ?_
 by_cases h3:t.kind=3
 ·refine bY h3 ?_
  repeat (first|refine ac ?_|refine ae (by decide) ?_|refine ad ?_|refine ai ?_|refine ah ?_)
  refine r_fieldL hI 0 rfl aF ay rfl ?_
  refine r_seql (b:=st [91,93]) ?_
  cases hn:decide (t.name=st [91,93])
  ·repeat (first|refine ac ?_|refine ae (by decide) ?_|refine ad ?_|refine ai ?_|refine ah ?_)
   exact done hI (by rw [Dj,hn,Bool.false_and,Bool.and_false])
  ·repeat (first|refine ac ?_|refine ae (by decide) ?_|refine ad ?_|refine ai ?_|refine ah ?_)
   refine r_fieldL hI 0 rfl aq al rfl ?_
   refine r_len aj ?_
   refine r_eql ?_
   repeat (first|refine ac ?_|refine ae (by decide) ?_|refine ad ?_|refine ai ?_|refine ah ?_)
   refine done hI ?_
   rw [Dj,hn,decide_eq_true h3,Bool.true_and,Bool.true_and]
   congr 1
   rw [decide_eq_decide]
   omega
 ·refine bF h3 ?_
  repeat (first|refine ac ?_|refine ae (by decide) ?_|refine ad ?_|refine ai ?_|refine ah ?_)
  exact done hI (by rw [Dj,decide_eq_false h3,Bool.false_and])
theorem ik {t:T} {cs:List Value} (h:RdT S cs t):Pure Tryz.prog yo [.agg cs.toArray] S (.bool (gK t)):=by
 intro w hI
 obtain ⟨kv,rfl,_,_,_,hk⟩:=RdT.iff.1 h
 obtain ⟨ka,kc,rfl,_⟩:=id hk
 refine rm ?_
 unfold mR
 refine r_box hI fun b1 w' hI=>?_
 refine r_fieldL hI 0 rfl aI aC rfl ?_
 by_cases h3:t.kind=3
 ·refine bY h3 ?_
  repeat (first|refine ac ?_|refine ae (by decide) ?_|refine ad ?_|refine ai ?_|refine ah ?_)
  refine r_fieldL hI 0 rfl aq al rfl ?_
  refine r_len aj ?_
  by_cases hn:t.kids.length=2
  ·refine bY (by omega) ?_
   repeat (first|refine ac ?_|refine ae (by decide) ?_|refine ad ?_|refine ai ?_|refine ah ?_)
   refine r_fieldL hI 0 rfl aF ay rfl ?_
   refine Run.callPure bU bQ hI (bn _ S) fun w' hI=>?_
   refine r_gtr ?_
   repeat (first|refine ac ?_|refine ae (by decide) ?_|refine ad ?_|refine ai ?_|refine ah ?_)
   exact done hI (by rw [gK,decide_eq_true h3,decide_eq_true hn,Bool.true_and,Bool.true_and])
  ·refine bF (by omega) ?_
   repeat (first|refine ac ?_|refine ae (by decide) ?_|refine ad ?_|refine ai ?_|refine ah ?_)
   exact done hI (by rw [gK,decide_eq_false hn,Bool.false_and,Bool.and_false])
 ·refine bF h3 ?_
  repeat (first|refine ac ?_|refine ae (by decide) ?_|refine ad ?_|refine ai ?_|refine ah ?_)
  exact done hI (by rw [gK,decide_eq_false h3,Bool.false_and])
theorem jh {t:T} {cs:List Value} (h:RdT S cs t):Pure Tryz.prog Bp [.agg cs.toArray] S (.bool (qg t)):=by
 intro w hI
 obtain ⟨kv,rfl,_,_,_,hk⟩:=RdT.iff.1 h
 obtain ⟨ka,kc,rfl,_⟩:=id hk
 refine sA ?_
 unfold qB
 refine r_box hI fun b1 w' hI=>?_
 refine r_fieldL hI 0 rfl aI aC rfl ?_
 by_cases h3:t.kind=3
 ·refine bY h3 ?_
  repeat (first|refine ac ?_|refine ae (by decide) ?_|refine ad ?_|refine ai ?_|refine ah ?_)
  refine r_fieldL hI 0 rfl aq al rfl ?_
  refine r_len aj ?_
  by_cases hn:t.kids.length=0
  ·refine bY (by omega) ?_
   repeat (first|refine ac ?_|refine ae (by decide) ?_|refine ad ?_|refine ai ?_|refine ah ?_)
   refine r_fieldL hI 0 rfl aF ay rfl ?_
   refine Run.callPure bU bQ hI (bn _ S) fun w' hI=>?_
   refine r_gtr ?_
   repeat (first|refine ac ?_|refine ae (by decide) ?_|refine ad ?_|refine ai ?_|refine ah ?_)
   exact done hI (by rw [qg,decide_eq_true h3,decide_eq_true hn,Bool.true_and,Bool.true_and])
  ·refine bF (by omega) ?_
   repeat (first|refine ac ?_|refine ae (by decide) ?_|refine ad ?_|refine ai ?_|refine ah ?_)
   exact done hI (by rw [qg,decide_eq_false hn,Bool.false_and,Bool.and_false])
 ·refine bF h3 ?_
  repeat (first|refine ac ?_|refine ae (by decide) ?_|refine ad ?_|refine ai ?_|refine ah ?_)
  exact done hI (by rw [qg,decide_eq_false h3,Bool.false_and])
theorem sI (n:Bs) (hn:n.length<=1000000):Pure Tryz.prog xo [.string (st n)] S (.string (st (cS n))):=by
 intro w hI
 refine pL ?_
 unfold lr
 refine ⟨fun b w'=>b=.bool (decide (n=[105,115]) || decide (n=[109,111,100]))/\Inv w [] [] S w',?_,?_⟩
 ·refine sB (b:=[105,115]) ?_
  cases h5:decide (n=[105,115])
  ·repeat (first|refine ac ?_|refine ae (by decide) ?_|refine ad ?_|refine ai ?_|refine ah ?_)
   refine sB (b:=[109,111,100]) ?_
   repeat (first|refine ac ?_|refine ae (by decide) ?_|refine ad ?_|refine ai ?_|refine ah ?_)
   exact ⟨by rw [Bool.false_or],hI⟩
  ·repeat (first|refine ac ?_|refine ae (by decide) ?_|refine ad ?_|refine ai ?_|refine ah ?_)
   exact ⟨by rw [Bool.true_or],hI⟩
 intro t8 _ _ _ _ _ w'
 rintro ⟨rfl,hI⟩
 refine condV (fun hb=>?_) (fun hb=>?_)
 ·rw [Bool.or_eq_true,decide_eq_true_eq,decide_eq_true_eq] at hb
  refine bi (a:=[32]) (by simp; omega) ?_
  refine bi (b:=[32]) (by simp; omega) ?_
  exact done hI (by rw [cS,if_pos hb]; rfl)
 ·rw [Bool.or_eq_false_iff,decide_eq_false_iff_not,decide_eq_false_iff_not] at hb
  exact done hI (by rw [cS,if_neg (by rintro (h|h); exact hb.1 h; exact hb.2 h)])
theorem uO (s:Bs) (h0:0<s.length):Pure Tryz.prog zk [.string (st s)] S (.bool (xS s)):=by
 intro w hI
 refine rS ?_
 unfold oV
 have e1:xS s=(sml s 0 || (dig s 0 || (upp s 0 || (sgn s 0 91 || sgn s 0 40)))):=rfl
 have eu:upp s 0=(decide (65<=s[0].toNat) && decide (s[0].toNat<=90)):=gL h0 65 90
 have ea:sgn s 0 91=decide (s[0].toNat=91):=eI h0 91
 have eb:sgn s 0 40=decide (s[0].toNat=40):=eI h0 40
 refine Run.callPure ow oE hI (io s 0 S) fun w' hI=>?_
 cases hs:sml s 0
 ·repeat (first|refine ac ?_|refine ae (by decide) ?_|refine ad ?_|refine ai ?_|refine ah ?_)
  refine Run.callPure er ed hI (cI s 0 S) fun w' hI=>?_
  cases hd:dig s 0
  ·repeat (first|refine ac ?_|refine ae (by decide) ?_|refine ad ?_|refine ai ?_|refine ah ?_)
   refine bB (i:=0) ar h0 ?_
   rw [hs,hd,Bool.false_or,Bool.false_or] at e1
   by_cases h65:65<=s[0].toNat
   ·refine gJ (by omega) ?_
    repeat (first|refine ac ?_|refine ae (by decide) ?_|refine ad ?_|refine ai ?_|refine ah ?_)
    refine bB (i:=0) ar h0 ?_
    by_cases h90:s[0].toNat<=90
    ·refine xU (by omega) ?_
     repeat (first|refine ac ?_|refine ae (by decide) ?_|refine ad ?_|refine ai ?_|refine ah ?_)
     exact done hI (by rw [e1,eu,decide_eq_true h65,decide_eq_true h90]; rfl)
    ·refine CZ (by omega) ?_
     repeat (first|refine ac ?_|refine ae (by decide) ?_|refine ad ?_|refine ai ?_|refine ah ?_)
     refine bB (i:=0) ar h0 ?_
     by_cases h91:s[0].toNat=91
     ·refine bY (by omega) ?_
      repeat (first|refine ac ?_|refine ae (by decide) ?_|refine ad ?_|refine ai ?_|refine ah ?_)
      exact done hI (by rw [e1,ea,decide_eq_true h91,Bool.true_or,Bool.or_true])
     ·refine bF (by omega) ?_
      repeat (first|refine ac ?_|refine ae (by decide) ?_|refine ad ?_|refine ai ?_|refine ah ?_)
      refine bB (i:=0) ar h0 ?_
      refine bF (by omega) ?_
      repeat (first|refine ac ?_|refine ae (by decide) ?_|refine ad ?_|refine ai ?_|refine ah ?_)
      exact done hI (by rw [e1,eu,ea,eb,decide_eq_false h90,decide_eq_false h91,decide_eq_false (show ¬ s[0].toNat=40 by omega),Bool.and_false]; rfl)
   ·refine pA (by omega) ?_
    repeat (first|refine ac ?_|refine ae (by decide) ?_|refine ad ?_|refine ai ?_|refine ah ?_)
    refine bB (i:=0) ar h0 ?_
    refine bF (by omega) ?_
    repeat (first|refine ac ?_|refine ae (by decide) ?_|refine ad ?_|refine ai ?_|refine ah ?_)
    refine bB (i:=0) ar h0 ?_
    by_cases h40:s[0].toNat=40
    ·refine bY (by omega) ?_
     repeat (first|refine ac ?_|refine ae (by decide) ?_|refine ad ?_|refine ai ?_|refine ah ?_)
     exact done hI (by rw [e1,eb,decide_eq_true h40,Bool.or_true,Bool.or_true])
    ·refine bF (by omega) ?_
     repeat (first|refine ac ?_|refine ae (by decide) ?_|refine ad ?_|refine ai ?_|refine ah ?_)
     exact done hI (by rw [e1,eu,ea,eb,decide_eq_false h65,decide_eq_false (show ¬ s[0].toNat=91 by omega),decide_eq_false h40,Bool.false_and]; rfl)
  ·repeat (first|refine ac ?_|refine ae (by decide) ?_|refine ad ?_|refine ai ?_|refine ah ?_)
   exact done hI (by rw [e1,hd,Bool.true_or,Bool.or_true])
 ·repeat (first|refine ac ?_|refine ae (by decide) ?_|refine ad ?_|refine ai ?_|refine ah ?_)
  exact done hI (by rw [e1,hs,Bool.true_or])
theorem tD {n:Int} (h:0<=n/\n<=25):Pure Tryz.prog xp [.int .i64 n] S (.string (st [UInt8.ofNat (65+n.toNat)])):=by
 intro w hI
 refine pY ?_
 unfold lG
 refine jL db cf (IntWalk.u8_in _ (by omega)) ?_
 refine E9 (c:=((65+n.toNat:Nat):Int)) ?_ ?_
 ·rw [IntWalk.u8_in _ (by omega)]; omega
 refine sN hI pR CT cf ar fun w' hI=>?_
 exact done hI rfl
theorem yl:∀ (f n:Nat) (out r:Bs),uI f n out=some r->out.length<r.length/\r.length<=out.length+f
 | 0,_,_,_,h=>by simp [uI] at h
 | f+1,n,out,r,h=>by
  rw [uI] at h
  split at h
  ·have:=yl f _ _ _ h
   simp only [List.length_cons] at this
   omega
  ·simp only [Option.some.injEq] at h
   subst h
   simp only [List.length_cons]
   omega
theorem nM {f n:Nat} {r:Bs} (h:uI f n []=some r) (hn:n<=100000) (hf:f<=1000):Pure Tryz.prog AE [.int .i64 (n:Int)] S (.string (st r)):=by
 intro w hI
 refine tG ?_
 unfold qH
 refine bH (by omega) ?_
 refine condV (fun hb=>by cases hb) (fun _=>?_)
 refine bH (by omega) ?_
 refine condV (fun hb=>by cases hb) (fun _=>?_)
 refine ⟨fun a b w'=>∃ (f' m:Nat) (out:Bs),a=.int .i64 (m:Int)/\b=.string (st out)/\m<=100000/\out.length+f'<=1000/\uI f' m out=some r/\Inv w [] [] S w',fun a _ _=>(intOf a).toNat,⟨f,n,[],rfl,rfl,hn,by simpa using hf,h,hI⟩,?_⟩
 intro t0 _ _ t3 _ _ _ _ _ _ _ _ _ _ w'
 rintro ⟨f',m,out,rfl,rfl,hm,hof,hd,hI⟩
 cases f' with
 | zero=>simp [uI] at hd
 | succ g=>
 rw [uI] at hd
 split at hd
 ·rename_i h9
  refine sn (by omega) ?_
  refine condV (fun _=>?_) (fun hb=>by cases hb)
  refine AA (a:=m) (b:=10) rfl rfl (by omega) ?_
  refine bG (a:=48) (b:=m % 10) rfl rfl (by omega) ?_
  refine jL db cf (IntWalk.u8_in _ (by omega)) ?_
  refine sN hI pR CT cf ar fun w' hI=>?_
  refine bi (by simp; omega) ?_
  refine AJ (a:=m) (b:=10) rfl rfl (by omega) (by omega) ?_
  refine ⟨⟨g,m / 10,UInt8.ofNat (48+m % 10)::out,rfl,rfl,by omega,by simp only [List.length_cons]; omega,hd,hI⟩,?_⟩
  simp only [intOf,Int.toNat_natCast]
  omega
 ·rename_i h9
  refine eF (by omega) ?_
  refine condV (fun hb=>by cases hb) (fun _=>?_)
  refine bG (a:=48) (b:=m) rfl rfl (by omega) ?_
  refine jL db cf (IntWalk.u8_in _ (by omega)) ?_
  refine sN hI pR CT cf ar fun w' hI=>?_
  refine bi (by simp; omega) ?_
  simp only [Option.some.injEq] at hd
  exact done hI (by rw [<- hd]; rfl)
theorem yN {n:Int} {r:Bs} (h:Fb n=some r) (hn:-999<=n/\n<=999):Pure Tryz.prog Cn [.int .i64 n] S (.string (st r)):=by
 intro w hI
 refine uS ?_
 unfold sU
 unfold Fb at h
 split at h
 ·rename_i h0
  refine sE h0 ?_
  refine condV (fun _=>?_) (fun hb=>by cases hb)
  refine ES (by omega) ?_
  obtain ⟨m,hm⟩:∃ m:Nat,-n=(m:Int):=⟨(-n).toNat,by omega⟩
  rw [hm] at h ⊢
  rw [Int.toNat_natCast,Option.map_eq_some_iff] at h
  obtain ⟨l,hl,rfl⟩:=h
  have:=yl _ _ _ _ hl
  refine Run.callPure qL qc hI (nM hl (by omega) (by omega)) fun w' hI=>?_
  refine bi (a:=[45]) (by simp only [List.length_nil,List.length_cons] at this ⊢; omega) ?_
  exact done hI rfl
 ·rename_i h0
  refine bH h0 ?_
  refine condV (fun hb=>by cases hb) (fun _=>?_)
  obtain ⟨m,rfl⟩:∃ m:Nat,n=(m:Int):=⟨n.toNat,by omega⟩
  rw [Int.toNat_natCast] at h
  refine Run.callPure qL qc hI (nM h (by omega) (by omega)) fun w' hI=>?_
  exact done hI rfl
theorem xX {t:T} {cs:List Value} {x:Bs} (h:RdT S cs t) (hp:tT t=false) (hx:Ef t=some x):Pure Tryz.prog Ao [.agg cs.toArray] S (.string (st x)):=by
 intro w hI
 have h0:=h
 obtain ⟨kv,rfl,_,_,_,hk⟩:=RdT.iff.1 h
 obtain ⟨ka,kc,rfl,_⟩:=id hk
 refine sw ?_
 unfold qj
 unfold Ef at hx
 refine r_box hI fun b1 w' hI=>?_
 refine r_fieldL hI 0 rfl aI aC rfl ?_
 split at hx
 ·rename_i h1
  refine bY h1 ?_
  refine condV (fun _=>?_) (fun hb=>by cases hb)
  refine r_fieldL hI 0 rfl aK aC rfl ?_
  split at hx
  ·rename_i h2
   refine Run.callPure uX vC hI (tD h2) fun w' hI=>?_
   simp only [Option.some.injEq] at hx
   exact done hI (by rw [<- hx])
  ·cases hx
 ·rename_i h1
  refine bF h1 ?_
  refine condV (fun hb=>by cases hb) (fun _=>?_)
  split at hx
  ·rename_i h2
   refine bY h2 ?_
   refine condV (fun _=>?_) (fun hb=>by cases hb)
   refine r_fieldL hI 0 rfl aK aC rfl ?_
   split at hx
   ·rename_i h3
    refine Run.callPure AC AL hI (yN hx h3) fun w' hI=>?_
    exact done hI rfl
   ·cases hx
  ·rename_i h2
   refine bF h2 ?_
   refine condV (fun hb=>by cases hb) (fun _=>?_)
   split at hx
   ·rename_i h3
    simp only [Option.some.injEq] at hx
    refine r_loadW hI 0 ag rfl rfl ?_
    refine Run.callPure jA iQ hI (eO h0) fun w' hI=>?_
    rw [hp]
    refine condV (fun hb=>by cases hb) (fun _=>?_)
    refine r_fieldL hI 0 rfl aF ay rfl ?_
    refine ⟨fun a b w'=>a=.int .i64 0/\b=.string t.name/\Inv w [] [.blk b1 (.cells #[.int .i64 t.kind,.int .i64 t.n,.string t.name,.slice ka t.kids.length kc] ab)] S w',fun _ _ _=>0,⟨rfl,rfl,hI⟩,?_⟩
    intro t4 _ _ _ _ _ _ _ _ _ _ _ _ t3 _ _ _ _ _ _ _ _ _ w'
    rintro ⟨rfl,rfl,hI⟩
    refine r_fieldL hI 0 rfl aq al rfl ?_
    refine r_len aj ?_
    refine bH (by omega) ?_
    refine condV (fun hb=>by cases hb) (fun _=>?_)
    refine ⟨fun b w'=>b=.string t.name/\Inv w [] [.blk b1 (.cells #[.int .i64 t.kind,.int .i64 t.n,.string t.name,.slice ka t.kids.length kc] ab)] S w',?_,?_⟩
    ·refine r_fieldL hI 0 rfl aq al rfl ?_
     refine r_len aj ?_
     refine eF (by omega) ?_
     refine condV (fun hb=>by cases hb) (fun _=>?_)
     exact ⟨rfl,hI⟩
    intro t3 _ _ _ _ _ _ w'
    rintro ⟨rfl,hI⟩
    exact done hI (by rw [<- hx])
   ·cases hx
end
/- lengths -/
theorem vQ:∀ (f:Nat) (l:List T) (out x:Bs),im f l out=some x->out.length<=x.length
 | 0,_,_,_,h=>by simp [im] at h
 | _+1,[],out,x,h=>by simp [im] at h; subst h; exact Nat.le_refl _
 | f+1,t::l,out,x,h=>by
  rw [im] at h
  split at h
  ·cases h
  ·have:=vQ f _ _ _ h
   simp only [List.length_append] at this
   omega
def lenOf:Value->Nat
 | .slice _ n _=>n
 | _=>0
def qG (f:Nat):Prop:=∀ (t:T) (x:Bs) (S:Store) (cs:List Value),xr f t=some x->x.length<=1000000->RdT S cs t->Pure Tryz.prog Bl [.agg cs.toArray] S (.string (st x))
def Af (f:Nat):Prop:=∀ (t:T) (x:Bs) (S:Store) (cs:List Value),wj f t []=some x->x.length<=1000000->RdT S cs t->Pure Tryz.prog AV [.agg cs.toArray] S (.string (st x))
def wE (f:Nat):Prop:=∀ (ts:List T) (x:Bs) (S:Store) (u:Value),im f ts []=some x->x.length<=1000000->RdSl S 4 (RdT S) u ts->Pure Tryz.prog AP [u] S (.string (st x))
def kF (f:Nat):Prop:=∀ (t:T) (l:Int) (x:Bs) (S:Store) (cs:List Value),jn f t l=some x->x.length<=1000000->RdT S cs t->Pure Tryz.prog uu [.agg cs.toArray,.int .i64 l] S (.string (st x))
def Aa (f:Nat):Prop:=∀ (t:T) (l:Int) (x:Bs) (S:Store) (cs:List Value),Bt f t l=some x->x.length<=1000000->RdT S cs t->Pure Tryz.prog Al [.agg cs.toArray,.int .i64 l] S (.string (st x))
def xe (f:Nat):Prop:=∀ (t:T) (l:Int) (x:Bs) (S:Store) (cs:List Value),xt f t l=some x->x.length<=1000000->RdT S cs t->Pure Tryz.prog yy [.agg cs.toArray,.int .i64 l] S (.string (st x))
section
attribute [local irreducible] Run CondV GuardV LoadV
theorem EB {f:Nat} (ih:∀ g,g<f->qG g):wE f:=by
 intro ts x S u h hx hu w hI
 refine sD ?_
 unfold qf
 refine ⟨fun a b w'=>∃ (f' j:Nat) (out acc:Bs),f'<=f/\j<=ts.length/\a=.int .i64 (j:Int)/\b=.string (st out)/\acc=out++(if 0<j/\j<ts.length then [44] else [])/\im f' (ts.drop j) acc=some x/\Inv w [] [] S w',
  fun a _ _=>ts.length - (intOf a).toNat,⟨f,0,[],[],Nat.le_refl _,Nat.zero_le _,rfl,rfl,by simp,h,hI⟩,?_⟩
 intro t4 _ _ _ _ _ _ _ _ _ t3 _ _ _ _ _ _ _ _ w'
 rintro ⟨f',j,out,acc,hf',hj,rfl,rfl,hacc,ha,hI⟩
 cases f' with
 | zero=>simp [im] at ha
 | succ g=>
 refine r_lenSl hu aj ?_
 refine r_lss ?_
 refine condP (fun hji=>?_) (fun hji=>?_)
 ·have hj':j<ts.length:=by omega
  rw [List.drop_eq_getElem_cons hj',im] at ha
  split at ha
  ·cases ha
  rename_i y hy
  have hlen:=vQ _ _ _ _ ha
  simp only [List.length_append] at hlen
  refine ⟨fun b w'=>b=.string (st acc)/\Inv w [] [] S w',?_,?_⟩
  ·refine r_gtr ?_
   refine condP (fun h0=>?_) (fun h0=>?_)
   ·rw [if_pos (by omega)] at hacc
    refine bi (b:=[44]) (by rw [hacc,List.length_append] at hlen; simp only [List.length_cons,List.length_nil] at hlen ⊢; omega) ?_
    exact ⟨by rw [hacc],hI⟩
   ·rw [if_neg (by omega),List.append_nil] at hacc
    exact ⟨by rw [hacc],hI⟩
  intro t3 _ _ _ _ w'
  rintro ⟨rfl,hI⟩
  refine r_elem hI hu aj ag hj' (fun _ _=>RdT.length) fun cs hcs=>?_
  refine Run.callPure co ce hI (ih g (by omega) _ y S cs hy (by omega) hcs) fun w' hI=>?_
  refine bi (by omega) ?_
  refine r_add (by have:=hu.le; simp only [maxLen] at this; omega) ?_
  refine ⟨⟨g,j+1,acc++y,_,by omega,hj',rfl,rfl,rfl,?_,hI⟩,by simp only [intOf,Int.toNat_natCast]; omega⟩
  have e:(if ts.drop (j+1)=[] then [] else [44]:Bs)=if 0<j+1/\j+1<ts.length then [44] else []:=by
   by_cases h1:j+1<ts.length
   ·rw [if_neg (fun h2=>by rw [List.drop_eq_nil_iff] at h2; omega),if_pos (by omega)]
   ·rw [if_pos (List.drop_eq_nil_of_le (by omega)),if_neg (by omega)]
  rw [<- e]
  exact ha
 ·have:j=ts.length:=by omega
  subst this
  rw [List.drop_length,im] at ha
  simp only [Option.some.injEq] at ha
  rw [if_neg (by omega),List.append_nil] at hacc
  exact done hI (by rw [<- ha,hacc])
theorem Bk {f:Nat} (ih:∀ g,g<f->qG g):kF f:=by
 intro t l x S cs h hx hc w hI
 cases f with
 | zero=>simp [jn] at h
 | succ g=>
 rw [jn] at h
 split at h
 ·cases h
 rename_i y hy
 simp only [Option.some.injEq] at h
 have h0:=hc
 obtain ⟨kv,rfl,_,_,_,hk⟩:=RdT.iff.1 hc
 obtain ⟨ka,kc,rfl,_⟩:=id hk
 have hyx:y.length<=1000000/\y.length+2<=9000000:=by
  have:y.length<=x.length:=by
   rw [<- h]; split
   ·simp; omega
   ·omega
  omega
 refine mF ?_
 unfold iH
 refine r_box hI fun b1 w' hI=>?_
 refine ⟨fun b w'=>b=.bool (gK t && decide (l<aU t.name))/\Inv w [] [.blk b1 (.cells #[.int .i64 t.kind,.int .i64 t.n,.string t.name,.slice ka t.kids.length kc] ab)] S w',?_,?_⟩
 ·refine r_loadW hI 0 ag rfl rfl ?_
  refine Run.callPure pc ng hI (ik h0) fun w' hI=>?_
  cases hf:gK t
  ·repeat (first|refine ac ?_|refine ae (by decide) ?_|refine ad ?_|refine ai ?_|refine ah ?_)
   exact ⟨by rw [Bool.false_and],hI⟩
  ·repeat (first|refine ac ?_|refine ae (by decide) ?_|refine ad ?_|refine ai ?_|refine ah ?_)
   refine r_fieldL hI 0 rfl aF ay rfl ?_
   refine Run.callPure bU bQ hI (bn _ S) fun w' hI=>?_
   refine r_gtr ?_
   repeat (first|refine ac ?_|refine ae (by decide) ?_|refine ad ?_|refine ai ?_|refine ah ?_)
   exact ⟨by rw [Bool.true_and],hI⟩
 intro t13 _ _ _ _ _ _ _ _ w'
 rintro ⟨rfl,hI⟩
 refine condV (fun hb=>?_) (fun hb=>?_)
 ·rw [Bool.and_eq_true,decide_eq_true_eq] at hb
  rw [if_pos hb] at h
  refine r_loadW hI 0 ag rfl rfl ?_
  refine Run.callPure co ce hI (ih g (by omega) t y S _ hy hyx.1 h0) fun w' hI=>?_
  refine bi (a:=[40]) (by simp only [List.length_cons,List.length_nil]; omega) ?_
  refine bi (b:=[41]) (by simp only [List.length_append,List.length_cons,List.length_nil]; omega) ?_
  exact done hI (by rw [<- h])
 ·rw [if_neg (fun hh=>by rw [Bool.and_eq_false_iff,decide_eq_false_iff_not] at hb; rcases hb with hb|hb; rw [hh.1] at hb; cases hb; exact hb hh.2)] at h
  refine r_loadW hI 0 ag rfl rfl ?_
  refine Run.callPure co ce hI (ih g (by omega) t y S _ hy hyx.1 h0) fun w' hI=>?_
  exact done hI (by rw [<- h])
theorem EK {f:Nat} (ih:∀ g,g<f->qG g) (ihB:∀ g,g<f->kF g):Aa f:=by
 intro t l x S cs h hx hc w hI
 cases f with
 | zero=>simp [Bt] at h
 | succ g=>
 rw [Bt] at h
 have h0:=hc
 obtain ⟨kv,rfl,_,_,_,hk⟩:=RdT.iff.1 hc
 obtain ⟨ka,kc,rfl,_⟩:=id hk
 refine tA ?_
 unfold qA
 refine r_box hI fun b1 w' hI=>?_
 refine r_loadW hI 0 ag rfl rfl ?_
 refine Run.callPure qI qm hI (jh h0) fun w' hI=>?_
 split at h
 ·rename_i hs
  split at h
  ·cases h
  rename_i y hy
  simp only [Option.some.injEq] at h
  have hyx:y.length+2=x.length:=by rw [<- h]; simp only [List.length_append,List.length_cons,List.length_nil]; omega
  rw [hs]
  refine condV (fun _=>?_) (fun hb=>by cases hb)
  refine r_loadW hI 0 ag rfl rfl ?_
  refine Run.callPure co ce hI (ih g (by omega) t y S _ hy (by omega) h0) fun w' hI=>?_
  refine bi (a:=[40]) (by simp only [List.length_cons,List.length_nil]; omega) ?_
  refine bi (b:=[41]) (by simp only [List.length_append,List.length_cons,List.length_nil]; omega) ?_
  exact done hI (by rw [<- h])
 ·rename_i hs
  rw [Bool.eq_false_iff.2 hs]
  refine condV (fun hb=>by cases hb) (fun _=>?_)
  refine r_loadW hI 0 ag rfl rfl ?_
  refine Run.callPure iR kx hI (ihB g (by omega) t l x S _ h hx h0) fun w' hI=>?_
  exact done hI rfl
theorem Dd {f:Nat} (ihB:∀ g,g<f->kF g):xe f:=by
 intro t l x S cs h hx hc w hI
 cases f with
 | zero=>simp [xt] at h
 | succ g=>
 rw [xt] at h
 split at h
 ·cases h
 rename_i y hy
 split at h
 ·cases h
 rename_i hne
 simp only [Option.some.injEq] at h
 have hy0:0<y.length:=by
  cases y with
  | nil=>exact absurd rfl hne
  | cons a l=>simp
 have hyx:y.length<=1000000:=by
  have:y.length<=x.length:=by
   rw [<- h]; split
   ·simp; omega
   ·omega
  omega
 have h0:=hc
 obtain ⟨kv,rfl,_,_,_,hk⟩:=RdT.iff.1 hc
 obtain ⟨ka,kc,rfl,_⟩:=id hk
 refine rO ?_
 unfold oX
 refine r_box hI fun b1 w' hI=>?_
 refine r_loadW hI 0 ag rfl rfl ?_
 refine Run.callPure iR kx hI (ihB g (by omega) t l y S _ hy hyx h0) fun w' hI=>?_
 refine ⟨fun b w'=>b=.bool (qg t || !xS y)/\Inv w [] [.blk b1 (.cells #[.int .i64 t.kind,.int .i64 t.n,.string t.name,.slice ka t.kids.length kc] ab)] S w',?_,?_⟩
 ·refine r_loadW hI 0 ag rfl rfl ?_
  refine Run.callPure qI qm hI (jh h0) fun w' hI=>?_
  cases hs:qg t
  ·repeat (first|refine ac ?_|refine ae (by decide) ?_|refine ad ?_|refine ai ?_|refine ah ?_)
   refine Run.callPure wU wB hI (uO y hy0) fun w' hI=>?_
   refine r_not ?_
   repeat (first|refine ac ?_|refine ae (by decide) ?_|refine ad ?_|refine ai ?_|refine ah ?_)
   exact ⟨by rw [Bool.false_or],hI⟩
  ·repeat (first|refine ac ?_|refine ae (by decide) ?_|refine ad ?_|refine ai ?_|refine ah ?_)
   exact ⟨by rw [Bool.true_or],hI⟩
 intro t15 _ _ _ _ _ _ w'
 rintro ⟨rfl,hI⟩
 refine condV (fun hb=>?_) (fun hb=>?_)
 ·rw [Bool.or_eq_true,Bool.not_eq_true'] at hb
  rw [if_pos hb] at h
  refine bi (a:=[40]) (by simp only [List.length_cons,List.length_nil]; omega) ?_
  refine bi (b:=[41]) (by simp only [List.length_append,List.length_cons,List.length_nil]; omega) ?_
  exact done hI (by rw [<- h])
 ·rw [if_neg (fun hh=>by rw [<- Bool.not_eq_true',<- Bool.or_eq_true,hb] at hh; cases hh)] at h
  exact done hI (by rw [<- h])
theorem EA {f:Nat} (hf:f<=100000) (ih:∀ g,g<f->qG g) (ihA:∀ g,g<f->wE g):Af f:=by
 intro t x S cs h hx hc w hI
 obtain ⟨kv,rfl,_,_,_,hk⟩:=RdT.iff.1 hc
 refine tI ?_
 unfold qz
 refine r_box hI fun b1 w' hI=>?_
 refine r_slice0 hI aJ fun v0 w' hI=>?_
 refine ⟨fun a w'=>∃ (f':Nat) (t':T) (items:List T) (ds:List Value) (css:List (List Value)),f'+items.length=f/\wj f' t' items=some x/\RdT S ds t'/\Rows 4 (RdT S) css items/\(∃ p m,a=.slice p items.length m)/\Inv w [] [.blk b1 (.cells ds.toArray ab),au a ab 4 css] S w',
  fun a _=>f+1 - lenOf a,⟨f,t,[],_,[],by simp,h,hc,Rows.nil _ _,?_,hI⟩,?_⟩
 ·have hI2:Inv w [] ([Item.blk b1 (.cells #[.int .i64 t.kind,.int .i64 t.n,.string t.name,kv] ab)]++[au v0 ab 4 []]) S w':=hI
  obtain ⟨S1,_,hrd,_⟩:=Inv.lendExt hI2
  obtain ⟨p,m,e,_⟩:=RowRd.rows (Rows.nil 4 (RdT S)) hrd
  exact ⟨p,m,e⟩
 clear h hc hk hI
 intro _ _ _ _ t3 _ _ _ _ _ _ _ _ _ w'
 rintro ⟨f',t',items,ds,css,hfl,hl,hd,hR,⟨p,m,rfl⟩,hI⟩
 have hd0:=hd
 obtain ⟨kd,rfl,_,_,_,hk⟩:=RdT.iff.1 hd
 have hcl:=hR.hc
 cases f' with
 | zero=>simp [wj] at hl
 | succ g=>
 rw [wj] at hl
 refine r_loadW hI 0 ag rfl rfl ?_
 refine Run.callPure jA iQ hI (eO hd0) fun w' hI=>?_
 split at hl
 ·rename_i hp
  split at hl
  ·rename_i a b hab
   rw [hp]
   refine condV (fun _=>?_) (fun hb=>by cases hb)
   rw [hab] at hk
   refine r_fieldL hI 0 rfl aq al rfl ?_
   refine r_elem (i:=0) hI hk aj ag (by simp) (fun _ _=>RdT.length) fun es hes=>?_
   rw [List.getElem_cons_zero] at hes
   refine bx (css:=css) hI 1 es aJ (by omega) (by omega) rfl hes.length hes.one (by omega) (by omega) fun v' w' hI=>?_
   refine r_fieldL hI 0 rfl aq al rfl ?_
   refine r_elem (i:=1) hI hk aj ag (by simp) (fun _ _=>RdT.length) fun gs hgs=>?_
   rw [List.getElem_cons_succ,List.getElem_cons_zero] at hgs
   have hg1:=hgs.length
   refine ao hI 0 rfl ag (by simpa using hg1) rfl (by simpa using hgs.one) fun w' hI=>?_
   have hR2:=hR.snoc hes hes.length
   have hI2:Inv w [] ([Item.blk b1 (.cells gs.toArray ab)]++[au v' ab 4 (css++[es])]) S w':=hI
   obtain ⟨S1,hE1,hrd,_⟩:=Inv.lendExt hI2
   obtain ⟨p',m',e',_⟩:=RowRd.rows hR2 hrd
   refine ⟨⟨g,b,items++[a],gs,css++[es],by rw [List.length_append]; simp only [List.length_cons,List.length_nil]; omega,hl,hgs,hR2,⟨p',m',e'⟩,hI⟩,?_⟩
   rw [e']
   simp only [lenOf,List.length_append,List.length_cons,List.length_nil]
   omega
  ·cases hl
 ·rename_i hp
  rw [Bool.eq_false_iff.2 hp]
  refine condV (fun hb=>by cases hb) (fun _=>?_)
  split at hl
  ·cases hl
  rename_i y hy
  refine r_loadW hI 0 ag rfl rfl ?_
  refine Run.callPure AY At hI (vd hd0) fun w' hI=>?_
  have hI2:Inv w [] ([Item.blk b1 (.cells #[.int .i64 t'.kind,.int .i64 t'.n,.string t'.name,kd] ab)]++[au (.slice p items.length m) ab 4 css]) S w':=hI
  obtain ⟨S1,hE1,hrd,hI⟩:=Inv.lendExt hI2
  have hrs:=RowRd.rows (hR.monoR fun _ _ h=>RdT.mono hE1.1 h) hrd
  have hd1:=RdT.mono hE1.1 hd0
  split at hl
  ·rename_i hn
   simp only [Option.some.injEq] at hl
   have hyx:y.length+2=x.length:=by rw [<- hl]; simp only [List.length_append,List.length_cons,List.length_nil]; omega
   rw [hn]
   refine condV (fun _=>?_) (fun hb=>by cases hb)
   refine Run.callPure jJ jG hI (ihA g (by omega) items y S1 _ hy (by omega) hrs) fun w' hI=>?_
   refine bi (a:=[91]) (by simp only [List.length_cons,List.length_nil]; omega) ?_
   refine bi (b:=[93]) (by simp only [List.length_append,List.length_cons,List.length_nil]; omega) ?_
   exact ff hI hE1.1 (by rw [<- hl])
  ·rename_i hn
   split at hl
   ·cases hl
   rename_i z hz
   simp only [Option.some.injEq] at hl
   have hyx:y.length+z.length+3=x.length:=by rw [<- hl]; simp only [List.length_append,List.length_cons,List.length_nil]; omega
   rw [Bool.eq_false_iff.2 hn]
   refine condV (fun hb=>by cases hb) (fun _=>?_)
   refine ⟨fun D x2 x31 x30 x29 x28 x27 x26 x25 x24 w_=>(D 0=true->x24=.slice p items.length m)/\(D 1=true->x25=.string (st y))/\(D 2=true->x26=.string (st ([91]++y)))/\(D 3=true->x27=.string (st ([91]++y++[124])))/\(D 4=true->x28=.agg #[.int .i64 t'.kind,.int .i64 t'.n,.string t'.name,kd])/\(D 5=true->x29=.string (st z))/\(D 6=true->x30=.string (st ([91]++y++[124]++z)))/\(D 7=true->x31=.string (st ([91]++y++[124]++z++[93])))/\(D 8=true->x2=.string (st ([91]++y++[124]++z++[93])))/\Inv w [] [.blk b1 (.cells #[.int .i64 t'.kind,.int .i64 t'.n,.string t'.name,kd] ab)] S1 w_,⟨fun h=>Bool.noConfusion h,fun h=>Bool.noConfusion h,fun h=>Bool.noConfusion h,fun h=>Bool.noConfusion h,fun h=>Bool.noConfusion h,fun h=>Bool.noConfusion h,fun h=>Bool.noConfusion h,fun h=>Bool.noConfusion h,fun h=>Bool.noConfusion h,hI.draw⟩,⟨?_,?_,?_,?_,?_,?_,?_,?_,?_,trivial⟩,?_⟩
   ·intro D hD_  x2 x31 x30 x29 x28 x27 x26 x25 x24 w_
    rintro ⟨h0_,h1_,h2_,h3_,h4_,h5_,h6_,h7_,h8_,hI⟩
    exact ⟨fun _=>rfl,h1_,h2_,h3_,h4_,h5_,h6_,h7_,h8_,hI⟩
   ·intro D hD_ d0_0 x2 x31 x30 x29 x28 x27 x26 x25 x24 w_
    rintro ⟨h0_,h1_,h2_,h3_,h4_,h5_,h6_,h7_,h8_,hI⟩
    obtain rfl:=h0_ d0_0
    refine Run.callPure jJ jG hI (ihA g (by omega) items y S1 _ hy (by omega) hrs) fun w_ hI=>?_
    exact ⟨h0_,fun _=>rfl,h2_,h3_,h4_,h5_,h6_,h7_,h8_,hI⟩
   ·intro D hD_ d1_0 x2 x31 x30 x29 x28 x27 x26 x25 x24 w_
    rintro ⟨h0_,h1_,h2_,h3_,h4_,h5_,h6_,h7_,h8_,hI⟩
    obtain rfl:=h1_ d1_0
    refine bi (a:=[91]) (by simp only [List.length_cons,List.length_nil]; omega) ?_
    exact ⟨h0_,h1_,fun _=>rfl,h3_,h4_,h5_,h6_,h7_,h8_,hI⟩
   ·intro D hD_ d2_0 x2 x31 x30 x29 x28 x27 x26 x25 x24 w_
    rintro ⟨h0_,h1_,h2_,h3_,h4_,h5_,h6_,h7_,h8_,hI⟩
    obtain rfl:=h2_ d2_0
    refine bi (b:=[124]) (by simp only [List.length_append,List.length_cons,List.length_nil]; omega) ?_
    exact ⟨h0_,h1_,h2_,fun _=>rfl,h4_,h5_,h6_,h7_,h8_,hI⟩
   ·intro D hD_  x2 x31 x30 x29 x28 x27 x26 x25 x24 w_
    rintro ⟨h0_,h1_,h2_,h3_,h4_,h5_,h6_,h7_,h8_,hI⟩
    refine r_loadW hI 0 ag rfl rfl ?_
    exact ⟨h0_,h1_,h2_,h3_,fun _=>rfl,h5_,h6_,h7_,h8_,hI⟩
   ·intro D hD_ d4_0 d1_1 x2 x31 x30 x29 x28 x27 x26 x25 x24 w_
    rintro ⟨h0_,h1_,h2_,h3_,h4_,h5_,h6_,h7_,h8_,hI⟩
    obtain rfl:=h4_ d4_0
    refine Run.callPure co ce hI (ih g (by omega) t' z S1 _ hz (by omega) hd1) fun w_ hI=>?_
    exact ⟨h0_,h1_,h2_,h3_,h4_,fun _=>rfl,h6_,h7_,h8_,hI⟩
   ·intro D hD_ d3_0 d5_1 x2 x31 x30 x29 x28 x27 x26 x25 x24 w_
    rintro ⟨h0_,h1_,h2_,h3_,h4_,h5_,h6_,h7_,h8_,hI⟩
    obtain rfl:=h3_ d3_0
    obtain rfl:=h5_ d5_1
    refine bi (by simp only [List.length_append,List.length_cons,List.length_nil]; omega) ?_
    exact ⟨h0_,h1_,h2_,h3_,h4_,h5_,fun _=>rfl,h7_,h8_,hI⟩
   ·intro D hD_ d6_0 x2 x31 x30 x29 x28 x27 x26 x25 x24 w_
    rintro ⟨h0_,h1_,h2_,h3_,h4_,h5_,h6_,h7_,h8_,hI⟩
    obtain rfl:=h6_ d6_0
    refine bi (b:=[93]) (by simp only [List.length_append,List.length_cons,List.length_nil]; omega) ?_
    exact ⟨h0_,h1_,h2_,h3_,h4_,h5_,h6_,fun _=>rfl,h8_,hI⟩
   ·intro D hD_ d7_0 d5_1 d0_2 d1_3 d2_4 d3_5 d4_6 d5_7 d6_8 d7_9 x2 x31 x30 x29 x28 x27 x26 x25 x24 w_
    rintro ⟨h0_,h1_,h2_,h3_,h4_,h5_,h6_,h7_,h8_,hI⟩
    obtain rfl:=h7_ d7_0
    exact ⟨h0_,h1_,h2_,h3_,h4_,h5_,h6_,h7_,fun _=>rfl,hI⟩
   intro D d8_ d7_ d6_ d5_ d4_ d3_ d2_ d1_ d0_ x2 x31 x30 x29 x28 x27 x26 x25 x24 w_
   rintro ⟨h0_,h1_,h2_,h3_,h4_,h5_,h6_,h7_,h8_,hI⟩
   obtain rfl:=h8_ d8_
   obtain rfl:=h7_ d7_
   obtain rfl:=h6_ d6_
   obtain rfl:=h5_ d5_
   obtain rfl:=h4_ d4_
   obtain rfl:=h3_ d3_
   obtain rfl:=h2_ d2_
   obtain rfl:=h1_ d1_
   obtain rfl:=h0_ d0_
   clear h0_ h1_ h2_ h3_ h4_ h5_ h6_ h7_ h8_
   exact ff hI hE1.1 (by rw [<- hl])
theorem Fl {f:Nat} (ihL:∀ g,g<f->Af g) (ihA:∀ g,g<f->wE g) (ihF:∀ g,g<f->Aa g) (ihR:∀ g,g<f->xe g):qG f:=by
 intro t x S cs h hx hc w hI
 cases f with
 | zero=>simp [xr] at h
 | succ g=>
 rw [xr] at h
 have h0:=hc
 obtain ⟨kv,rfl,_,_,_,hk⟩:=RdT.iff.1 hc
 refine tU ?_
 unfold qk
 refine r_box hI fun b1 w' hI=>?_
 obtain ⟨B1,hB1⟩:∃ B1,B1=Item.blk b1 (.cells #[.int .i64 t.kind,.int .i64 t.n,.string t.name,kv] ab):=⟨_,rfl⟩
 refine r_loadW hI 0 ag rfl rfl ?_
 refine Run.callPure jA iQ hI (eO h0) fun w' hI=>?_
 split at h
 ·rename_i hp
  rw [hp]
  refine condV (fun _=>?_) (fun hb=>by cases hb)
  refine r_loadW hI 0 ag rfl rfl ?_
  refine Run.callPure yi za hI (ihL g (by omega) t x S _ h hx h0) fun w' hI=>?_
  exact done hI rfl
 rename_i hp
 have hp:=Bool.eq_false_iff.2 hp
 rw [hp]
 refine condV (fun hb=>by cases hb) (fun _=>?_)
 refine r_loadW hI 0 ag rfl rfl ?_
 refine Run.callPure pc ng hI (ik h0) fun w' hI=>?_
 split at h
 ·rename_i hf
  rw [hf]
  refine condV (fun _=>?_) (fun hb=>by cases hb)
  split at h
  ·rename_i a b hab
   obtain ⟨lv,hlv⟩:∃ lv,lv=aU t.name:=⟨_,rfl⟩
   rw [<- hlv] at h
   have hlr:1<=lv/\lv<=3:=by
    have h1:0<aU t.name:=by
     unfold gK at hf
     simp only [Bool.and_eq_true,decide_eq_true_eq] at hf
     exact hf.2.2
    have h2:aU t.name<=3:=by
     unfold aU
     split
     ·omega
     ·split
      ·omega
      ·split <;> omega
    omega
   split at h
   ·rename_i y z hy hz
    simp only [Option.some.injEq] at h
    have hlen:y.length+(cS (bs t.name)).length+z.length=x.length:=by rw [<- h]; simp only [List.length_append]
    have hsp:(bs t.name).length<=(cS (bs t.name)).length:=by
     unfold cS
     split
     ·simp; omega
     ·omega
    rw [hab] at hk
    obtain ⟨b2,o2,cap2,c2,E2,fz2,rfl,hS,hRa⟩:=hk.at_ (i:=0) (by simp)
    obtain ⟨b2',o2',cap2',c2',E2',fz2',hsl,hS',hRb⟩:=hk.at_ (i:=1) (by simp)
    cases hsl
    rw [hS] at hS'
    cases hS'
    rw [List.getElem_cons_zero] at hRa
    rw [List.getElem_cons_succ,List.getElem_cons_zero] at hRb
    refine r_fieldL hI 0 rfl aF ay rfl ?_
    refine Run.callPure bU bQ hI (bn _ S) fun w' hI=>?_
    rw [<- hlv]
    have hI:Inv w [] [B1] S w':=by rw [hB1]; exact hI
    refine ⟨fun v w'=>v=.int .i64 (if lv=3 then 2 else lv)/\Inv w [] [B1] S w',?_,?_⟩
    ·refine r_eql ?_
     refine condP (fun h3=>⟨by rw [if_pos h3],hI⟩) (fun h3=>⟨by rw [if_neg h3],hI⟩)
    intro t4 _ _ w'
    rintro ⟨rfl,hI⟩
    subst hB1
    skip
    refine ⟨fun D x2 x36 x35 x34 x33 x32 x31 x30 x29 x28 x27 x26 x25 x24 x23 x22 x21 x20 x19 w_=>(D 0=true->x19=.pointer (some ⟨b1,3,none⟩))/\(D 1=true->x20=.slice (some ⟨b2,o2,none⟩) [a,b].length cap2)/\(D 2=true->x21=.pointer (some ⟨b2,o2+0 * 4,none⟩))/\(D 3=true->x22=.agg (cellsAt c2 (o2+0 * 4) 4).toArray)/\(D 4=true->x23=.int .i64 (if lv=3 then 2 else lv))/\(D 5=true->x24=.string (st y))/\(D 6=true->x25=.pointer (some ⟨b1,2,none⟩))/\(D 7=true->x26=.string t.name)/\(D 8=true->x27=.string (st (cS (bs t.name))))/\(D 9=true->x28=.string (st (y++cS (bs t.name))))/\(D 10=true->x29=.pointer (some ⟨b1,3,none⟩))/\(D 11=true->x30=.slice (some ⟨b2,o2,none⟩) [a,b].length cap2)/\(D 12=true->x31=.pointer (some ⟨b2,o2+1 * 4,none⟩))/\(D 13=true->x32=.agg (cellsAt c2 (o2+1 * 4) 4).toArray)/\(D 14=true->x33=.int .i64 lv)/\(D 15=true->x34=.int .i64 (lv - 1))/\(D 16=true->x35=.string (st z))/\(D 17=true->x36=.string (st (y++cS (bs t.name)++z)))/\(D 18=true->x2=.string (st (y++cS (bs t.name)++z)))/\Inv w [] [.blk b1 (.cells #[.int .i64 t.kind,.int .i64 t.n,.string t.name,.slice (some ⟨b2,o2,none⟩) [a,b].length cap2] ab)] S w_,⟨fun h=>Bool.noConfusion h,fun h=>Bool.noConfusion h,fun h=>Bool.noConfusion h,fun h=>Bool.noConfusion h,fun h=>Bool.noConfusion h,fun h=>Bool.noConfusion h,fun h=>Bool.noConfusion h,fun h=>Bool.noConfusion h,fun h=>Bool.noConfusion h,fun h=>Bool.noConfusion h,fun h=>Bool.noConfusion h,fun h=>Bool.noConfusion h,fun h=>Bool.noConfusion h,fun h=>Bool.noConfusion h,fun h=>Bool.noConfusion h,fun h=>Bool.noConfusion h,fun h=>Bool.noConfusion h,fun h=>Bool.noConfusion h,fun h=>Bool.noConfusion h,hI.draw⟩,⟨?_,?_,?_,?_,?_,?_,?_,?_,?_,?_,?_,?_,?_,?_,?_,?_,?_,?_,?_,trivial⟩,?_⟩
    ·intro D hD_  x2 x36 x35 x34 x33 x32 x31 x30 x29 x28 x27 x26 x25 x24 x23 x22 x21 x20 x19 w_
     rintro ⟨h0_,h1_,h2_,h3_,h4_,h5_,h6_,h7_,h8_,h9_,h10_,h11_,h12_,h13_,h14_,h15_,h16_,h17_,h18_,hI⟩
     refine r_field aq ?_
     exact ⟨fun _=>rfl,h1_,h2_,h3_,h4_,h5_,h6_,h7_,h8_,h9_,h10_,h11_,h12_,h13_,h14_,h15_,h16_,h17_,h18_,hI⟩
    ·intro D hD_ d0_0 x2 x36 x35 x34 x33 x32 x31 x30 x29 x28 x27 x26 x25 x24 x23 x22 x21 x20 x19 w_
     rintro ⟨h0_,h1_,h2_,h3_,h4_,h5_,h6_,h7_,h8_,h9_,h10_,h11_,h12_,h13_,h14_,h15_,h16_,h17_,h18_,hI⟩
     obtain rfl:=h0_ d0_0
     refine r_loadL hI 0 al rfl rfl ?_
     exact ⟨h0_,fun _=>rfl,h2_,h3_,h4_,h5_,h6_,h7_,h8_,h9_,h10_,h11_,h12_,h13_,h14_,h15_,h16_,h17_,h18_,hI⟩
    ·intro D hD_ d1_0 x2 x36 x35 x34 x33 x32 x31 x30 x29 x28 x27 x26 x25 x24 x23 x22 x21 x20 x19 w_
     rintro ⟨h0_,h1_,h2_,h3_,h4_,h5_,h6_,h7_,h8_,h9_,h10_,h11_,h12_,h13_,h14_,h15_,h16_,h17_,h18_,hI⟩
     obtain rfl:=h1_ d1_0
     refine r_indexAddr (i:=0) aj (by simp) ?_
     exact ⟨h0_,h1_,fun _=>rfl,h3_,h4_,h5_,h6_,h7_,h8_,h9_,h10_,h11_,h12_,h13_,h14_,h15_,h16_,h17_,h18_,hI⟩
    ·intro D hD_ d2_0 x2 x36 x35 x34 x33 x32 x31 x30 x29 x28 x27 x26 x25 x24 x23 x22 x21 x20 x19 w_
     rintro ⟨h0_,h1_,h2_,h3_,h4_,h5_,h6_,h7_,h8_,h9_,h10_,h11_,h12_,h13_,h14_,h15_,h16_,h17_,h18_,hI⟩
     obtain rfl:=h2_ d2_0
     refine r_loadA ag hRa.length (fun j v hj=>by rw [hI.cellS hS]; exact cellsAt_get rfl j v hj) ?_
     exact ⟨h0_,h1_,h2_,fun _=>rfl,h4_,h5_,h6_,h7_,h8_,h9_,h10_,h11_,h12_,h13_,h14_,h15_,h16_,h17_,h18_,hI⟩
    ·intro D hD_  x2 x36 x35 x34 x33 x32 x31 x30 x29 x28 x27 x26 x25 x24 x23 x22 x21 x20 x19 w_
     rintro ⟨h0_,h1_,h2_,h3_,h4_,h5_,h6_,h7_,h8_,h9_,h10_,h11_,h12_,h13_,h14_,h15_,h16_,h17_,h18_,hI⟩
     exact ⟨h0_,h1_,h2_,h3_,fun _=>rfl,h5_,h6_,h7_,h8_,h9_,h10_,h11_,h12_,h13_,h14_,h15_,h16_,h17_,h18_,hI⟩
    ·intro D hD_ d3_0 d4_1 x2 x36 x35 x34 x33 x32 x31 x30 x29 x28 x27 x26 x25 x24 x23 x22 x21 x20 x19 w_
     rintro ⟨h0_,h1_,h2_,h3_,h4_,h5_,h6_,h7_,h8_,h9_,h10_,h11_,h12_,h13_,h14_,h15_,h16_,h17_,h18_,hI⟩
     obtain rfl:=h3_ d3_0
     obtain rfl:=h4_ d4_1
     refine Run.callPure yT zi hI (ihF g (by omega) a _ y S _ hy (by omega) hRa) fun w_ hI=>?_
     exact ⟨h0_,h1_,h2_,h3_,h4_,fun _=>rfl,h6_,h7_,h8_,h9_,h10_,h11_,h12_,h13_,h14_,h15_,h16_,h17_,h18_,hI⟩
    ·intro D hD_  x2 x36 x35 x34 x33 x32 x31 x30 x29 x28 x27 x26 x25 x24 x23 x22 x21 x20 x19 w_
     rintro ⟨h0_,h1_,h2_,h3_,h4_,h5_,h6_,h7_,h8_,h9_,h10_,h11_,h12_,h13_,h14_,h15_,h16_,h17_,h18_,hI⟩
     refine r_field aF ?_
     exact ⟨h0_,h1_,h2_,h3_,h4_,h5_,fun _=>rfl,h7_,h8_,h9_,h10_,h11_,h12_,h13_,h14_,h15_,h16_,h17_,h18_,hI⟩
    ·intro D hD_ d6_0 x2 x36 x35 x34 x33 x32 x31 x30 x29 x28 x27 x26 x25 x24 x23 x22 x21 x20 x19 w_
     rintro ⟨h0_,h1_,h2_,h3_,h4_,h5_,h6_,h7_,h8_,h9_,h10_,h11_,h12_,h13_,h14_,h15_,h16_,h17_,h18_,hI⟩
     obtain rfl:=h6_ d6_0
     refine r_loadL hI 0 ay rfl rfl ?_
     exact ⟨h0_,h1_,h2_,h3_,h4_,h5_,h6_,fun _=>rfl,h8_,h9_,h10_,h11_,h12_,h13_,h14_,h15_,h16_,h17_,h18_,hI⟩
    ·intro D hD_ d7_0 d5_1 x2 x36 x35 x34 x33 x32 x31 x30 x29 x28 x27 x26 x25 x24 x23 x22 x21 x20 x19 w_
     rintro ⟨h0_,h1_,h2_,h3_,h4_,h5_,h6_,h7_,h8_,h9_,h10_,h11_,h12_,h13_,h14_,h15_,h16_,h17_,h18_,hI⟩
     obtain rfl:=h7_ d7_0
     refine Run.callPure uV uD hI (sI (bs t.name) (by omega)) fun w_ hI=>?_
     exact ⟨h0_,h1_,h2_,h3_,h4_,h5_,h6_,h7_,fun _=>rfl,h9_,h10_,h11_,h12_,h13_,h14_,h15_,h16_,h17_,h18_,hI⟩
    ·intro D hD_ d5_0 d8_1 x2 x36 x35 x34 x33 x32 x31 x30 x29 x28 x27 x26 x25 x24 x23 x22 x21 x20 x19 w_
     rintro ⟨h0_,h1_,h2_,h3_,h4_,h5_,h6_,h7_,h8_,h9_,h10_,h11_,h12_,h13_,h14_,h15_,h16_,h17_,h18_,hI⟩
     obtain rfl:=h5_ d5_0
     obtain rfl:=h8_ d8_1
     refine bi (by omega) ?_
     exact ⟨h0_,h1_,h2_,h3_,h4_,h5_,h6_,h7_,h8_,fun _=>rfl,h10_,h11_,h12_,h13_,h14_,h15_,h16_,h17_,h18_,hI⟩
    ·intro D hD_  x2 x36 x35 x34 x33 x32 x31 x30 x29 x28 x27 x26 x25 x24 x23 x22 x21 x20 x19 w_
     rintro ⟨h0_,h1_,h2_,h3_,h4_,h5_,h6_,h7_,h8_,h9_,h10_,h11_,h12_,h13_,h14_,h15_,h16_,h17_,h18_,hI⟩
     refine r_field aq ?_
     exact ⟨h0_,h1_,h2_,h3_,h4_,h5_,h6_,h7_,h8_,h9_,fun _=>rfl,h11_,h12_,h13_,h14_,h15_,h16_,h17_,h18_,hI⟩
    ·intro D hD_ d10_0 x2 x36 x35 x34 x33 x32 x31 x30 x29 x28 x27 x26 x25 x24 x23 x22 x21 x20 x19 w_
     rintro ⟨h0_,h1_,h2_,h3_,h4_,h5_,h6_,h7_,h8_,h9_,h10_,h11_,h12_,h13_,h14_,h15_,h16_,h17_,h18_,hI⟩
     obtain rfl:=h10_ d10_0
     refine r_loadL hI 0 al rfl rfl ?_
     exact ⟨h0_,h1_,h2_,h3_,h4_,h5_,h6_,h7_,h8_,h9_,h10_,fun _=>rfl,h12_,h13_,h14_,h15_,h16_,h17_,h18_,hI⟩
    ·intro D hD_ d11_0 x2 x36 x35 x34 x33 x32 x31 x30 x29 x28 x27 x26 x25 x24 x23 x22 x21 x20 x19 w_
     rintro ⟨h0_,h1_,h2_,h3_,h4_,h5_,h6_,h7_,h8_,h9_,h10_,h11_,h12_,h13_,h14_,h15_,h16_,h17_,h18_,hI⟩
     obtain rfl:=h11_ d11_0
     refine r_indexAddr (i:=1) aj (by simp) ?_
     exact ⟨h0_,h1_,h2_,h3_,h4_,h5_,h6_,h7_,h8_,h9_,h10_,h11_,fun _=>rfl,h13_,h14_,h15_,h16_,h17_,h18_,hI⟩
    ·intro D hD_ d12_0 x2 x36 x35 x34 x33 x32 x31 x30 x29 x28 x27 x26 x25 x24 x23 x22 x21 x20 x19 w_
     rintro ⟨h0_,h1_,h2_,h3_,h4_,h5_,h6_,h7_,h8_,h9_,h10_,h11_,h12_,h13_,h14_,h15_,h16_,h17_,h18_,hI⟩
     obtain rfl:=h12_ d12_0
     refine r_loadA ag hRb.length (fun j v hj=>by rw [hI.cellS hS]; exact cellsAt_get rfl j v hj) ?_
     exact ⟨h0_,h1_,h2_,h3_,h4_,h5_,h6_,h7_,h8_,h9_,h10_,h11_,h12_,fun _=>rfl,h14_,h15_,h16_,h17_,h18_,hI⟩
    ·intro D hD_  x2 x36 x35 x34 x33 x32 x31 x30 x29 x28 x27 x26 x25 x24 x23 x22 x21 x20 x19 w_
     rintro ⟨h0_,h1_,h2_,h3_,h4_,h5_,h6_,h7_,h8_,h9_,h10_,h11_,h12_,h13_,h14_,h15_,h16_,h17_,h18_,hI⟩
     exact ⟨h0_,h1_,h2_,h3_,h4_,h5_,h6_,h7_,h8_,h9_,h10_,h11_,h12_,h13_,fun _=>rfl,h15_,h16_,h17_,h18_,hI⟩
    ·intro D hD_ d14_0 x2 x36 x35 x34 x33 x32 x31 x30 x29 x28 x27 x26 x25 x24 x23 x22 x21 x20 x19 w_
     rintro ⟨h0_,h1_,h2_,h3_,h4_,h5_,h6_,h7_,h8_,h9_,h10_,h11_,h12_,h13_,h14_,h15_,h16_,h17_,h18_,hI⟩
     obtain rfl:=h14_ d14_0
     refine r_sub (by omega) ?_
     exact ⟨h0_,h1_,h2_,h3_,h4_,h5_,h6_,h7_,h8_,h9_,h10_,h11_,h12_,h13_,h14_,fun _=>rfl,h16_,h17_,h18_,hI⟩
    ·intro D hD_ d13_0 d15_1 d8_2 x2 x36 x35 x34 x33 x32 x31 x30 x29 x28 x27 x26 x25 x24 x23 x22 x21 x20 x19 w_
     rintro ⟨h0_,h1_,h2_,h3_,h4_,h5_,h6_,h7_,h8_,h9_,h10_,h11_,h12_,h13_,h14_,h15_,h16_,h17_,h18_,hI⟩
     obtain rfl:=h13_ d13_0
     obtain rfl:=h15_ d15_1
     refine Run.callPure xM xK hI (ihR g (by omega) b _ z S _ hz (by omega) hRb) fun w_ hI=>?_
     exact ⟨h0_,h1_,h2_,h3_,h4_,h5_,h6_,h7_,h8_,h9_,h10_,h11_,h12_,h13_,h14_,h15_,fun _=>rfl,h17_,h18_,hI⟩
    ·intro D hD_ d9_0 d16_1 x2 x36 x35 x34 x33 x32 x31 x30 x29 x28 x27 x26 x25 x24 x23 x22 x21 x20 x19 w_
     rintro ⟨h0_,h1_,h2_,h3_,h4_,h5_,h6_,h7_,h8_,h9_,h10_,h11_,h12_,h13_,h14_,h15_,h16_,h17_,h18_,hI⟩
     obtain rfl:=h9_ d9_0
     obtain rfl:=h16_ d16_1
     refine bi (by rw [List.length_append]; omega) ?_
     exact ⟨h0_,h1_,h2_,h3_,h4_,h5_,h6_,h7_,h8_,h9_,h10_,h11_,h12_,h13_,h14_,h15_,h16_,fun _=>rfl,h18_,hI⟩
    ·intro D hD_ d17_0 d16_1 d0_2 d1_3 d2_4 d3_5 d4_6 d5_7 d6_8 d7_9 d8_10 d9_11 d10_12 d11_13 d12_14 d13_15 d14_16 d15_17 d16_18 d17_19 x2 x36 x35 x34 x33 x32 x31 x30 x29 x28 x27 x26 x25 x24 x23 x22 x21 x20 x19 w_
     rintro ⟨h0_,h1_,h2_,h3_,h4_,h5_,h6_,h7_,h8_,h9_,h10_,h11_,h12_,h13_,h14_,h15_,h16_,h17_,h18_,hI⟩
     obtain rfl:=h17_ d17_0
     exact ⟨h0_,h1_,h2_,h3_,h4_,h5_,h6_,h7_,h8_,h9_,h10_,h11_,h12_,h13_,h14_,h15_,h16_,h17_,fun _=>rfl,hI⟩
    intro D d18_ d17_ d16_ d15_ d14_ d13_ d12_ d11_ d10_ d9_ d8_ d7_ d6_ d5_ d4_ d3_ d2_ d1_ d0_ x2 x36 x35 x34 x33 x32 x31 x30 x29 x28 x27 x26 x25 x24 x23 x22 x21 x20 x19 w_
    rintro ⟨h0_,h1_,h2_,h3_,h4_,h5_,h6_,h7_,h8_,h9_,h10_,h11_,h12_,h13_,h14_,h15_,h16_,h17_,h18_,hI⟩
    obtain rfl:=h18_ d18_
    obtain rfl:=h17_ d17_
    obtain rfl:=h16_ d16_
    obtain rfl:=h15_ d15_
    obtain rfl:=h14_ d14_
    obtain rfl:=h13_ d13_
    obtain rfl:=h12_ d12_
    obtain rfl:=h11_ d11_
    obtain rfl:=h10_ d10_
    obtain rfl:=h9_ d9_
    obtain rfl:=h8_ d8_
    obtain rfl:=h7_ d7_
    obtain rfl:=h6_ d6_
    obtain rfl:=h5_ d5_
    obtain rfl:=h4_ d4_
    obtain rfl:=h3_ d3_
    obtain rfl:=h2_ d2_
    obtain rfl:=h1_ d1_
    obtain rfl:=h0_ d0_
    clear h0_ h1_ h2_ h3_ h4_ h5_ h6_ h7_ h8_ h9_ h10_ h11_ h12_ h13_ h14_ h15_ h16_ h17_ h18_
    exact done hI (by rw [<- h])
   ·cases h
  ·cases h
 ·rename_i hf
  rw [Bool.eq_false_iff.2 hf]
  refine condV (fun hb=>by cases hb) (fun _=>?_)
  obtain ⟨ka,kc,rfl,_⟩:=id hk
  refine ⟨fun v w'=>v=.bool (decide (t.kind=3) && decide (0<t.kids.length))/\Inv w [] [B1] S w',?_,?_⟩
  ·refine r_fieldL hI 0 rfl aI aC rfl ?_
   by_cases h3:t.kind=3
   ·refine bY h3 ?_
    repeat (first|refine ac ?_|refine ae (by decide) ?_|refine ad ?_|refine ai ?_|refine ah ?_)
    refine r_fieldL hI 0 rfl aq al rfl ?_
    refine r_len aj ?_
    refine r_gtr ?_
    repeat (first|refine ac ?_|refine ae (by decide) ?_|refine ad ?_|refine ai ?_|refine ah ?_)
    refine ⟨?_,by rw [hB1]; exact hI⟩
    rw [decide_eq_true h3,Bool.true_and]
    congr 1
    rw [decide_eq_decide]
    omega
   ·refine bF h3 ?_
    repeat (first|refine ac ?_|refine ae (by decide) ?_|refine ad ?_|refine ai ?_|refine ah ?_)
    exact ⟨by rw [decide_eq_false h3,Bool.false_and],by rw [hB1]; exact hI⟩
  intro t37 _ _ _ _ _ _ _ _ _ w'
  rintro ⟨rfl,hI⟩
  subst hB1
  split at h
  ·rename_i hc3
   rw [decide_eq_true hc3.1,decide_eq_true hc3.2]
   refine condV (fun _=>?_) (fun hb=>by cases hb)
   split at h
   ·rename_i y hy
    simp only [Option.some.injEq] at h
    have hlen:(bs t.name).length+y.length+2=x.length:=by rw [<- h]; simp only [List.length_append,List.length_cons,List.length_nil]; omega
    skip
    refine ⟨fun D x2 x54 x53 x52 x51 x50 x49 x48 x47 w_=>(D 0=true->x47=.pointer (some ⟨b1,2,none⟩))/\(D 1=true->x48=.string t.name)/\(D 2=true->x49=.string (st (bs t.name++[40])))/\(D 3=true->x50=.pointer (some ⟨b1,3,none⟩))/\(D 4=true->x51=.slice ka t.kids.length kc)/\(D 5=true->x52=.string (st y))/\(D 6=true->x53=.string (st (bs t.name++[40]++y)))/\(D 7=true->x54=.string (st (bs t.name++[40]++y++[41])))/\(D 8=true->x2=.string (st (bs t.name++[40]++y++[41])))/\Inv w [] [.blk b1 (.cells #[.int .i64 t.kind,.int .i64 t.n,.string t.name,.slice ka t.kids.length kc] ab)] S w_,⟨fun h=>Bool.noConfusion h,fun h=>Bool.noConfusion h,fun h=>Bool.noConfusion h,fun h=>Bool.noConfusion h,fun h=>Bool.noConfusion h,fun h=>Bool.noConfusion h,fun h=>Bool.noConfusion h,fun h=>Bool.noConfusion h,fun h=>Bool.noConfusion h,hI.draw⟩,⟨?_,?_,?_,?_,?_,?_,?_,?_,?_,trivial⟩,?_⟩
    ·intro D hD_  x2 x54 x53 x52 x51 x50 x49 x48 x47 w_
     rintro ⟨h0_,h1_,h2_,h3_,h4_,h5_,h6_,h7_,h8_,hI⟩
     refine r_field aF ?_
     exact ⟨fun _=>rfl,h1_,h2_,h3_,h4_,h5_,h6_,h7_,h8_,hI⟩
    ·intro D hD_ d0_0 x2 x54 x53 x52 x51 x50 x49 x48 x47 w_
     rintro ⟨h0_,h1_,h2_,h3_,h4_,h5_,h6_,h7_,h8_,hI⟩
     obtain rfl:=h0_ d0_0
     refine r_loadL hI 0 ay rfl rfl ?_
     exact ⟨h0_,fun _=>rfl,h2_,h3_,h4_,h5_,h6_,h7_,h8_,hI⟩
    ·intro D hD_ d1_0 x2 x54 x53 x52 x51 x50 x49 x48 x47 w_
     rintro ⟨h0_,h1_,h2_,h3_,h4_,h5_,h6_,h7_,h8_,hI⟩
     obtain rfl:=h1_ d1_0
     refine bi (a:=bs t.name) (b:=[40]) (by simp only [List.length_cons,List.length_nil]; omega) ?_
     exact ⟨h0_,h1_,fun _=>rfl,h3_,h4_,h5_,h6_,h7_,h8_,hI⟩
    ·intro D hD_  x2 x54 x53 x52 x51 x50 x49 x48 x47 w_
     rintro ⟨h0_,h1_,h2_,h3_,h4_,h5_,h6_,h7_,h8_,hI⟩
     refine r_field aq ?_
     exact ⟨h0_,h1_,h2_,fun _=>rfl,h4_,h5_,h6_,h7_,h8_,hI⟩
    ·intro D hD_ d3_0 x2 x54 x53 x52 x51 x50 x49 x48 x47 w_
     rintro ⟨h0_,h1_,h2_,h3_,h4_,h5_,h6_,h7_,h8_,hI⟩
     obtain rfl:=h3_ d3_0
     refine r_loadL hI 0 al rfl rfl ?_
     exact ⟨h0_,h1_,h2_,h3_,fun _=>rfl,h5_,h6_,h7_,h8_,hI⟩
    ·intro D hD_ d4_0 x2 x54 x53 x52 x51 x50 x49 x48 x47 w_
     rintro ⟨h0_,h1_,h2_,h3_,h4_,h5_,h6_,h7_,h8_,hI⟩
     obtain rfl:=h4_ d4_0
     refine Run.callPure jJ jG hI (ihA g (by omega) t.kids y S _ hy (by omega) hk) fun w_ hI=>?_
     exact ⟨h0_,h1_,h2_,h3_,h4_,fun _=>rfl,h6_,h7_,h8_,hI⟩
    ·intro D hD_ d2_0 d5_1 x2 x54 x53 x52 x51 x50 x49 x48 x47 w_
     rintro ⟨h0_,h1_,h2_,h3_,h4_,h5_,h6_,h7_,h8_,hI⟩
     obtain rfl:=h2_ d2_0
     obtain rfl:=h5_ d5_1
     refine bi (by simp only [List.length_append,List.length_cons,List.length_nil]; omega) ?_
     exact ⟨h0_,h1_,h2_,h3_,h4_,h5_,fun _=>rfl,h7_,h8_,hI⟩
    ·intro D hD_ d6_0 x2 x54 x53 x52 x51 x50 x49 x48 x47 w_
     rintro ⟨h0_,h1_,h2_,h3_,h4_,h5_,h6_,h7_,h8_,hI⟩
     obtain rfl:=h6_ d6_0
     refine bi (b:=[41]) (by simp only [List.length_append,List.length_cons,List.length_nil]; omega) ?_
     exact ⟨h0_,h1_,h2_,h3_,h4_,h5_,h6_,fun _=>rfl,h8_,hI⟩
    ·intro D hD_ d7_0 d5_1 d0_2 d1_3 d2_4 d3_5 d4_6 d5_7 d6_8 d7_9 x2 x54 x53 x52 x51 x50 x49 x48 x47 w_
     rintro ⟨h0_,h1_,h2_,h3_,h4_,h5_,h6_,h7_,h8_,hI⟩
     obtain rfl:=h7_ d7_0
     exact ⟨h0_,h1_,h2_,h3_,h4_,h5_,h6_,h7_,fun _=>rfl,hI⟩
    intro D d8_ d7_ d6_ d5_ d4_ d3_ d2_ d1_ d0_ x2 x54 x53 x52 x51 x50 x49 x48 x47 w_
    rintro ⟨h0_,h1_,h2_,h3_,h4_,h5_,h6_,h7_,h8_,hI⟩
    obtain rfl:=h8_ d8_
    obtain rfl:=h7_ d7_
    obtain rfl:=h6_ d6_
    obtain rfl:=h5_ d5_
    obtain rfl:=h4_ d4_
    obtain rfl:=h3_ d3_
    obtain rfl:=h2_ d2_
    obtain rfl:=h1_ d1_
    obtain rfl:=h0_ d0_
    clear h0_ h1_ h2_ h3_ h4_ h5_ h6_ h7_ h8_
    exact done hI (by rw [<- h])
   ·cases h
  ·rename_i hc3
   have e:(decide (t.kind=3) && decide (0<t.kids.length))=false:=by
    rw [Bool.eq_false_iff,ne_eq,Bool.and_eq_true,decide_eq_true_eq,decide_eq_true_eq]; exact hc3
   rw [e]
   refine condV (fun hb=>by cases hb) (fun _=>?_)
   refine r_loadW hI 0 ag rfl rfl ?_
   refine Run.callPure yS zg hI (xX h0 hp h) fun w' hI=>?_
   exact done hI rfl
theorem Bx:∀ F f,f<F->F<=1000->qG f/\Af f/\wE f/\kF f/\Aa f/\xe f
 | 0,f,h,_=>by omega
 | F+1,f,h,hF=>by
  have ih:=fun g (hg:g<f)=>Bx F g (by omega) (by omega)
  have hT:qG f:=Fl (fun g hg=>(ih g hg).2.1) (fun g hg=>(ih g hg).2.2.1) (fun g hg=>(ih g hg).2.2.2.2.1) (fun g hg=>(ih g hg).2.2.2.2.2)
  exact ⟨hT,EA (by omega) (fun g hg=>(ih g hg).1) (fun g hg=>(ih g hg).2.2.1),EB fun g hg=>(ih g hg).1,Bk fun g hg=>(ih g hg).1,EK (fun g hg=>(ih g hg).1) (fun g hg=>(ih g hg).2.2.2.1),Dd fun g hg=>(ih g hg).2.2.2.1⟩
theorem vJ {f:Nat} (hf:f<=100):qG f:=(Bx (f+1) f (by omega) (by omega)).1
end
end Go.Proofs.YtmnnpgdeecnfpaaGreat

/- Copies whose topmost row is still the caller's own, all else published. (printed by gen_top.py out of Copy and CopyC) -/
namespace Go.Proofs.YtmnnpgdeecnfpaaGreat
open Go Go.RowKit
theorem Grown.rows {α:Type} {k:Nat} {R:aD->List Value->α->Prop} {R':List Value->α->Prop} {Ls:List aD} {css:List (List Value)} {ys:List α} {S:Store} (h:Grown k R Ls css ys) (hi:Ins S Ls.flatten)
  (hR:∀ L cs x,Ins S L->R L cs x->R' cs x):Rows k R' css ys:=
 ⟨h.hc,h.hk,fun i h1 h2=>hR _ _ _ (xf hi (by rw [h.hL]; exact h1)) (h.hR i h1 (by rw [h.hL]; exact h1) h2)⟩
abbrev Dt (t:T):Value->List Item->Store->Prop:=fun v I' S'=>∃ kv css,v=.agg #[.int .i64 t.kind,.int .i64 t.n,.string t.name,kv]/\I'=[au kv ab 4 css]/\Rows 4 (RdT S') css t.kids
abbrev Dw (c:C):Value->List Item->Store->Prop:=fun v I' S'=>∃ hd kv css,v=.agg (hd++[kv]).toArray/\RdT S' hd c.head/\I'=[au kv ab 4 css]/\Rows 4 (RdT S') css c.body
section
attribute [local irreducible] Run CondV GuardV LoadV
theorem CB:∀ (t:T) (S:Store) (cs:List Value),RdT S cs t->wT t<=1048576->Tri Tryz.prog mn [.agg cs.toArray] [] S (Dt t):=by
 intro t S cs h hw
 obtain ⟨k,n,s,ks⟩:=t
 have ih:∀ t∈ks,∀ (S:Store) (cs:List Value),RdT S cs t->wT t<=1048576->Tri Tryz.prog mn [.agg cs.toArray] [] S (vR S t):=fun t _=>cq t
 intro w hI
 obtain ⟨kv,rfl,h1,h2,hs,hks⟩:=RdT.iff.1 h
 simp only [T.name,T.kids,T.kind,T.n] at h1 h2 hs hks ⊢
 simp only [wT] at hw
 refine js ?_
 unfold jO
 refine r_box hI fun b1 w' hI=>?_
 refine r_alloc hI aE fun b2 w' hI=>?_
 refine r_fieldL hI 0 rfl aI aC rfl ?_
 refine r_fieldL hI 0 rfl aK aC rfl ?_
 refine r_fieldL hI 0 rfl aF ay rfl ?_
 refine iZ ?_
 refine r_alloc hI aE fun b3 w' hI=>?_
 refine ao hI 2 rfl ag rfl rfl (by simp [Value.oneCell']) fun w' hI=>?_
 have hI:=hI.rowNil ab 4
 refine ⟨fun i w'=>∃ (j:Nat) (kvc:Value) (Ls:List aD) (css:List (List Value)),j<=ks.length/\i=.int .i64 j/\Grown 4 TrT Ls css (ks.take j)/\
   Inv w [] (.blk b1 (.cells #[.int .i64 k,.int .i64 n,.string s,kv] ab)::.blk b2 (.cells #[.int .i64 0,.int .i64 0,.string ⟨#[]⟩,.slice none 0 0] ab)::.blk b3 (.cells #[.int .i64 k,.int .i64 n,.string s,kvc] ab)::au kvc ab 4 css::az Ls.flatten) S w',
  fun i _=>ks.length - (intOf i).toNat,⟨0,_,[],[],Nat.zero_le _,rfl,Grown.nil _ _,hI⟩,?_⟩
 intro t4 _ _ _ _ _ _ _ _ _ _ _ _ _ _ _ _ _ _ w'
 rintro ⟨j,kvc,Ls,css,hj,rfl,hg,hI⟩
 refine r_fieldL hI 0 rfl aq al rfl ?_
 refine r_lenSl hks aj ?_
 refine r_lss ?_
 refine condP (fun hji=>?_) (fun hji=>?_)
 ·have hj':j<ks.length:=by omega
  have hjl:(ks.take j).length=j:=by simp; omega
  have hcl:=hg.hc
  have hm:=List.getElem_mem hj'
  have hwm:=dP hm
  obtain ⟨b,o,cap,c,E,fz,rfl,hS,hR⟩:=hks.at_ hj'
  refine ⟨fun D x29 x28 x27 x26 x25 x24 x23 x22 x21 x20 x19 w_=>(D 0=true->x19=.pointer (some ⟨b3,3,none⟩))/\(D 1=true->x20=kvc)/\(D 2=true->x21=.pointer (some ⟨b1,3,none⟩))/\(D 3=true->x22=.slice (some ⟨b,o,none⟩) (ks).length cap)/\(D 4=true->x23=.int .i64 j)/\(D 5=true->x24=.pointer (some ⟨b,o+j * 4,none⟩))/\(D 6=true->x25=.agg (cellsAt c (o+j * 4) 4).toArray)/\(D 7=true->True)/\(D 8=true->True)/\(D 9=true->True)/\(D 10=true->x29=.pointer (some ⟨b3,3,none⟩))/\(D 11=true->True)/\∃ M cs7 b8,(D 7=true->x26=.agg cs7.toArray/\TrT M cs7 (ks)[j])/\(D 8=true->x27=.slice (some ⟨b8,0,none⟩) 1 1)/\(D 8=true->D 7=true)/\(D 9=true->D 8=true)/\(D 11=true->D 9=true)/\(D 11=true->D 1=true)/\Inv w [] (aA (.blk b1 (.cells #[.int .i64 k,.int .i64 n,.string s,.slice (some ⟨b,o,none⟩) ks.length cap] ab)) (.blk b2 (.cells #[.int .i64 0,.int .i64 0,.string ⟨#[]⟩,.slice none 0 0] ab)) (.blk b3 (.cells #[.int .i64 k,.int .i64 n,.string s,kvc] ab)) (.blk b3 (.cells #[.int .i64 k,.int .i64 n,.string s,x28] ab)) (au kvc ab 4 css) (au x28 ab 4 (css++[cs7])) (az Ls.flatten) M (.blk b8 (.cells cs7.toArray ab)) (D 7) (D 8) (D 9) (D 11)) S w_,⟨fun h=>Bool.noConfusion h,fun h=>Bool.noConfusion h,fun h=>Bool.noConfusion h,fun h=>Bool.noConfusion h,fun h=>Bool.noConfusion h,fun h=>Bool.noConfusion h,fun h=>Bool.noConfusion h,fun h=>Bool.noConfusion h,fun h=>Bool.noConfusion h,fun h=>Bool.noConfusion h,fun h=>Bool.noConfusion h,fun h=>Bool.noConfusion h,⟨[],[],0,fun h=>Bool.noConfusion h,fun h=>Bool.noConfusion h,fun h=>Bool.noConfusion h,fun h=>Bool.noConfusion h,fun h=>Bool.noConfusion h,fun h=>Bool.noConfusion h,by simpa [aA,az] using hI.draw⟩⟩,⟨?_,?_,?_,?_,?_,?_,?_,?_,?_,?_,?_,?_,trivial⟩,?_⟩
  ·intro D hD_  x29 x28 x27 x26 x25 x24 x23 x22 x21 x20 x19 w_
   rintro ⟨h0_,h1_,h2_,h3_,h4_,h5_,h6_,h7_,h8_,h9_,h10_,h11_,⟨M,cs7,b8,e7,e8,k8,k9,k11,k1,hI⟩⟩
   refine r_field aq ?_
   exact ⟨fun _=>rfl,h1_,h2_,h3_,h4_,h5_,h6_,h7_,h8_,h9_,h10_,h11_,⟨M,cs7,b8,e7,e8,k8,k9,k11,k1,hI⟩⟩
  ·intro D hD_ d0_0 x29 x28 x27 x26 x25 x24 x23 x22 x21 x20 x19 w_
   rintro ⟨h0_,h1_,h2_,h3_,h4_,h5_,h6_,h7_,h8_,h9_,h10_,h11_,⟨M,cs7,b8,e7,e8,k8,k9,k11,k1,hI⟩⟩
   obtain rfl:=h0_ d0_0
   have f11:D 11=false:=Bool.eq_false_iff.2 fun h=>by rw [k1 h] at hD_; cases hD_
   refine r_loadL (b:=b3) hI 2 (c:=(#[.int .i64 k,.int .i64 n,.string s,kvc])) al (by rw [f11]; rfl) rfl ?_
   have k1:=fun (_:setD D 1 11=true)=>(rfl:setD D 1 1=true)
   exact ⟨h0_,fun _=>rfl,h2_,h3_,h4_,h5_,h6_,h7_,h8_,h9_,h10_,h11_,⟨M,cs7,b8,e7,e8,k8,k9,k11,k1,hI⟩⟩
  ·intro D hD_  x29 x28 x27 x26 x25 x24 x23 x22 x21 x20 x19 w_
   rintro ⟨h0_,h1_,h2_,h3_,h4_,h5_,h6_,h7_,h8_,h9_,h10_,h11_,⟨M,cs7,b8,e7,e8,k8,k9,k11,k1,hI⟩⟩
   refine r_field aq ?_
   exact ⟨h0_,h1_,fun _=>rfl,h3_,h4_,h5_,h6_,h7_,h8_,h9_,h10_,h11_,⟨M,cs7,b8,e7,e8,k8,k9,k11,k1,hI⟩⟩
  ·intro D hD_ d2_0 x29 x28 x27 x26 x25 x24 x23 x22 x21 x20 x19 w_
   rintro ⟨h0_,h1_,h2_,h3_,h4_,h5_,h6_,h7_,h8_,h9_,h10_,h11_,⟨M,cs7,b8,e7,e8,k8,k9,k11,k1,hI⟩⟩
   obtain rfl:=h2_ d2_0
   refine r_loadL hI 0 al rfl rfl ?_
   exact ⟨h0_,h1_,h2_,fun _=>rfl,h4_,h5_,h6_,h7_,h8_,h9_,h10_,h11_,⟨M,cs7,b8,e7,e8,k8,k9,k11,k1,hI⟩⟩
  ·intro D hD_  x29 x28 x27 x26 x25 x24 x23 x22 x21 x20 x19 w_
   rintro ⟨h0_,h1_,h2_,h3_,h4_,h5_,h6_,h7_,h8_,h9_,h10_,h11_,⟨M,cs7,b8,e7,e8,k8,k9,k11,k1,hI⟩⟩
   exact ⟨h0_,h1_,h2_,h3_,fun _=>rfl,h5_,h6_,h7_,h8_,h9_,h10_,h11_,⟨M,cs7,b8,e7,e8,k8,k9,k11,k1,hI⟩⟩
  ·intro D hD_ d3_0 d4_1 x29 x28 x27 x26 x25 x24 x23 x22 x21 x20 x19 w_
   rintro ⟨h0_,h1_,h2_,h3_,h4_,h5_,h6_,h7_,h8_,h9_,h10_,h11_,⟨M,cs7,b8,e7,e8,k8,k9,k11,k1,hI⟩⟩
   obtain rfl:=h3_ d3_0
   obtain rfl:=h4_ d4_1
   refine r_indexAddr aj hj' ?_
   exact ⟨h0_,h1_,h2_,h3_,h4_,fun _=>rfl,h6_,h7_,h8_,h9_,h10_,h11_,⟨M,cs7,b8,e7,e8,k8,k9,k11,k1,hI⟩⟩
  ·intro D hD_ d5_0 x29 x28 x27 x26 x25 x24 x23 x22 x21 x20 x19 w_
   rintro ⟨h0_,h1_,h2_,h3_,h4_,h5_,h6_,h7_,h8_,h9_,h10_,h11_,⟨M,cs7,b8,e7,e8,k8,k9,k11,k1,hI⟩⟩
   obtain rfl:=h5_ d5_0
   refine r_loadA ag hR.length (fun j v hj=>by rw [hI.cellS hS]; exact cellsAt_get rfl j v hj) ?_
   exact ⟨h0_,h1_,h2_,h3_,h4_,h5_,fun _=>rfl,h7_,h8_,h9_,h10_,h11_,⟨M,cs7,b8,e7,e8,k8,k9,k11,k1,hI⟩⟩
  ·intro D hD_ d6_0 x29 x28 x27 x26 x25 x24 x23 x22 x21 x20 x19 w_
   rintro ⟨h0_,h1_,h2_,h3_,h4_,h5_,h6_,h7_,h8_,h9_,h10_,h11_,⟨M,cs7,b8,e7,e8,k8,k9,k11,k1,hI⟩⟩
   obtain rfl:=h6_ d6_0
   have f8:D 8=false:=Bool.eq_false_iff.2 fun h=>by rw [k8 h] at hD_; cases hD_
   have f9:D 9=false:=Bool.eq_false_iff.2 fun h=>by rw [k9 h] at f8; cases f8
   have f11:D 11=false:=Bool.eq_false_iff.2 fun h=>by rw [k11 h] at f9; cases f9
   rw [hD_,f8,f9,f11] at hI
   refine Run.call0 bM bN hI (ih _ (List.getElem_mem hj') S _ hR (by omega)) fun v' I' S w_=>?_
   rintro ⟨rfl,cs7,M,rfl,rfl,hT⟩ _ hI
   have e7:setD D 7 7=true->Value.agg cs7.toArray=Value.agg cs7.toArray/\TrT M cs7 (ks)[j]:=fun _=>⟨rfl,hT⟩
   have k8:=fun (_:setD D 7 8=true)=>(rfl:setD D 7 7=true)
   have hI:Inv w [] (aA (.blk b1 (.cells #[.int .i64 k,.int .i64 n,.string s,.slice (some ⟨b,o,none⟩) ks.length cap] ab)) (.blk b2 (.cells #[.int .i64 0,.int .i64 0,.string ⟨#[]⟩,.slice none 0 0] ab)) (.blk b3 (.cells #[.int .i64 k,.int .i64 n,.string s,kvc] ab)) (.blk b3 (.cells #[.int .i64 k,.int .i64 n,.string s,x28] ab)) (au kvc ab 4 css) (au x28 ab 4 (css++[cs7])) (az Ls.flatten) M (.blk b8 (.cells cs7.toArray ab)) true (D 8) (D 9) (D 11)) S w_:=by
    rw [f8,f9,f11]
    simpa [aA] using hI
   exact ⟨h0_,h1_,h2_,h3_,h4_,h5_,h6_,fun _=>by first|assumption|trivial,h8_,h9_,h10_,h11_,⟨M,cs7,b8,e7,e8,k8,k9,k11,k1,hI⟩⟩
  ·intro D hD_ d7_0 x29 x28 x27 x26 x25 x24 x23 x22 x21 x20 x19 w_
   rintro ⟨h0_,h1_,h2_,h3_,h4_,h5_,h6_,h7_,h8_,h9_,h10_,h11_,⟨M,cs7,b8,e7,e8,k8,k9,k11,k1,hI⟩⟩
   have g7_:=h7_ d7_0
   have f9:D 9=false:=Bool.eq_false_iff.2 fun h=>by rw [k9 h] at hD_; cases hD_
   have f11:D 11=false:=Bool.eq_false_iff.2 fun h=>by rw [k11 h] at f9; cases f9
   obtain ⟨q7,hT⟩:=e7 d7_0
   subst q7
   rw [d7_0,hD_,f9,f11] at hI
   refine r_slice1 hI aJ (by simp [Value.cells,hT.length]) (by omega) (by omega) fun b8 w_ hI=>?_
   have e7:setD D 8 7=true->Value.agg cs7.toArray=Value.agg cs7.toArray/\TrT M cs7 (ks)[j]:=fun _=>⟨rfl,hT⟩
   have e8:=fun (_:setD D 8 8=true)=>(rfl:Value.slice (some ⟨b8,0,none⟩) 1 1=_)
   have k8:=fun (_:setD D 8 8=true)=>d7_0
   have k9:=fun (_:setD D 8 9=true)=>(rfl:setD D 8 8=true)
   have hI:Inv w [] (aA (.blk b1 (.cells #[.int .i64 k,.int .i64 n,.string s,.slice (some ⟨b,o,none⟩) ks.length cap] ab)) (.blk b2 (.cells #[.int .i64 0,.int .i64 0,.string ⟨#[]⟩,.slice none 0 0] ab)) (.blk b3 (.cells #[.int .i64 k,.int .i64 n,.string s,kvc] ab)) (.blk b3 (.cells #[.int .i64 k,.int .i64 n,.string s,x28] ab)) (au kvc ab 4 css) (au x28 ab 4 (css++[cs7])) (az Ls.flatten) M (.blk b8 (.cells cs7.toArray ab)) (D 7) true (D 9) (D 11)) S w_:=by
    rw [d7_0,f9,f11]
    simpa [aA,Value.cells] using hI
   exact ⟨h0_,h1_,h2_,h3_,h4_,h5_,h6_,h7_,fun _=>by first|assumption|trivial,h9_,h10_,h11_,⟨M,cs7,b8,e7,e8,k8,k9,k11,k1,hI⟩⟩
  ·intro D hD_ d1_0 d8_1 d7_2 x29 x28 x27 x26 x25 x24 x23 x22 x21 x20 x19 w_
   rintro ⟨h0_,h1_,h2_,h3_,h4_,h5_,h6_,h7_,h8_,h9_,h10_,h11_,⟨M,cs7,b8,e7,e8,k8,k9,k11,k1,hI⟩⟩
   obtain rfl:=h1_ d1_0
   have g8_:=h8_ d8_1
   have f11:D 11=false:=Bool.eq_false_iff.2 fun h=>by rw [k11 h] at hD_; cases hD_
   have q8:=e8 d8_1
   subst q8
   obtain ⟨_,hT⟩:=e7 d7_2
   rw [d7_2,d8_1,hD_,f11] at hI
   have hblk:((aA (.blk b1 (.cells #[.int .i64 k,.int .i64 n,.string s,.slice (some ⟨b,o,none⟩) ks.length cap] ab)) (.blk b2 (.cells #[.int .i64 0,.int .i64 0,.string ⟨#[]⟩,.slice none 0 0] ab)) (.blk b3 (.cells #[.int .i64 k,.int .i64 n,.string s,x20] ab)) (.blk b3 (.cells #[.int .i64 k,.int .i64 n,.string s,x28] ab)) (au x20 ab 4 css) (au x28 ab 4 (css++[cs7])) (az Ls.flatten) M (.blk b8 (.cells cs7.toArray ab)) true true false false))[4+(az Ls.flatten).length+(az M).length]?=some (.blk b8 (.cells cs7.toArray ab)):=by
    have e4:4+(az Ls.flatten).length+(az M).length=((az Ls.flatten).length+(az M).length)+1+1+1+1:=by omega
    rw [e4]
    simp only [aA,List.getElem?_cons_succ]
    rw [List.getElem?_append_right (by omega),Nat.add_sub_cancel_left,List.getElem?_append_right (Nat.le_refl _),Nat.sub_self]; rfl
   refine r_append hI 3 cs7 aJ (by omega) rfl (by rw [hT.length]) (m:=1) (o:=0) ?_ hT.one (by omega) (by omega) fun v' w_ hI=>?_
   ·intro i u hi
    rw [hI.cellL hblk,Nat.zero_add]
    simpa using hi
   rw [ct] at hI
   have k9:=fun (_:setD D 9 9=true)=>d8_1
   have k11:=fun (_:setD D 9 11=true)=>(rfl:setD D 9 9=true)
   have hI:Inv w [] (aA (.blk b1 (.cells #[.int .i64 k,.int .i64 n,.string s,.slice (some ⟨b,o,none⟩) ks.length cap] ab)) (.blk b2 (.cells #[.int .i64 0,.int .i64 0,.string ⟨#[]⟩,.slice none 0 0] ab)) (.blk b3 (.cells #[.int .i64 k,.int .i64 n,.string s,x20] ab)) (.blk b3 (.cells #[.int .i64 k,.int .i64 n,.string s,v'] ab)) (au x20 ab 4 css) (au v' ab 4 (css++[cs7])) (az Ls.flatten) M (.blk b8 (.cells cs7.toArray ab)) (D 7) (D 8) true (D 11)) S w_:=by
    rw [d7_2,d8_1,f11]
    exact hI
   exact ⟨h0_,h1_,h2_,h3_,h4_,h5_,h6_,h7_,h8_,fun _=>by first|assumption|trivial,h10_,h11_,⟨M,cs7,b8,e7,e8,k8,k9,k11,k1,hI⟩⟩
  ·intro D hD_ d0_0 d1_1 d2_2 d3_3 d4_4 d5_5 d6_6 d7_7 d8_8 d9_9 x29 x28 x27 x26 x25 x24 x23 x22 x21 x20 x19 w_
   rintro ⟨h0_,h1_,h2_,h3_,h4_,h5_,h6_,h7_,h8_,h9_,h10_,h11_,⟨M,cs7,b8,e7,e8,k8,k9,k11,k1,hI⟩⟩
   refine r_field aq ?_
   exact ⟨h0_,h1_,h2_,h3_,h4_,h5_,h6_,h7_,h8_,h9_,fun _=>rfl,h11_,⟨M,cs7,b8,e7,e8,k8,k9,k11,k1,hI⟩⟩
  ·intro D hD_ d10_0 d9_1 d9_2 d0_3 d1_4 d2_5 d3_6 d4_7 d5_8 d6_9 d7_10 d8_11 d9_12 x29 x28 x27 x26 x25 x24 x23 x22 x21 x20 x19 w_
   rintro ⟨h0_,h1_,h2_,h3_,h4_,h5_,h6_,h7_,h8_,h9_,h10_,h11_,⟨M,cs7,b8,e7,e8,k8,k9,k11,k1,hI⟩⟩
   obtain rfl:=h10_ d10_0
   have g9_:=h9_ d9_1
   rw [d7_10,d8_11,d9_1,hD_] at hI
   obtain ⟨va,vn,vc,hv9⟩:=Inv.rowSlice hI 3 rfl
   refine r_store hI 2 (n:=1) (by rw [hv9]; rfl) (by decide +kernel) rfl (by simp) (by rw [hv9]; simp [Value.cells,Value.oneCell']) fun w_ hI=>?_
   have hcl9:Value.cells x28=#[x28]:=by rw [hv9]; rfl
   rw [hcl9] at hI
   have k1:=fun (_:setD D 11 11=true)=>d1_4
   have k11:=fun (_:setD D 11 11=true)=>d9_1
   have hI:Inv w [] (aA (.blk b1 (.cells #[.int .i64 k,.int .i64 n,.string s,.slice (some ⟨b,o,none⟩) ks.length cap] ab)) (.blk b2 (.cells #[.int .i64 0,.int .i64 0,.string ⟨#[]⟩,.slice none 0 0] ab)) (.blk b3 (.cells #[.int .i64 k,.int .i64 n,.string s,kvc] ab)) (.blk b3 (.cells #[.int .i64 k,.int .i64 n,.string s,x28] ab)) (au kvc ab 4 css) (au x28 ab 4 (css++[cs7])) (az Ls.flatten) M (.blk b8 (.cells cs7.toArray ab)) (D 7) (D 8) (D 9) true) S w_:=by
    rw [d7_10,d8_11,d9_1]
    exact hI
   exact ⟨h0_,h1_,h2_,h3_,h4_,h5_,h6_,h7_,h8_,h9_,h10_,fun _=>trivial,⟨M,cs7,b8,e7,e8,k8,k9,k11,k1,hI⟩⟩
  intro D d11_ d10_ d9_ d8_ d7_ d6_ d5_ d4_ d3_ d2_ d1_ d0_ x29 x28 x27 x26 x25 x24 x23 x22 x21 x20 x19 w_
  rintro ⟨h0_,h1_,h2_,h3_,h4_,h5_,h6_,h7_,h8_,h9_,h10_,h11_,⟨M,cs7,b8,e7,e8,k8,k9,k11,k1,hI⟩⟩
  obtain rfl:=h10_ d10_
  have g9_:=h9_ d9_
  have g8_:=h8_ d8_
  have g7_:=h7_ d7_
  obtain rfl:=h6_ d6_
  obtain rfl:=h5_ d5_
  obtain rfl:=h4_ d4_
  obtain rfl:=h3_ d3_
  obtain rfl:=h2_ d2_
  obtain rfl:=h1_ d1_
  obtain rfl:=h0_ d0_
  clear h0_ h1_ h2_ h3_ h4_ h5_ h6_ h7_ h8_ h9_ h10_ h11_
  obtain ⟨_,hT⟩:=e7 d7_
  rw [d7_,d8_,d9_,d11_] at hI
  refine r_add (by omega) ?_
  refine ⟨⟨j+1,x28,Ls++[M],css++[cs7],hj',rfl,?_,?_⟩,by simp [intOf]; omega⟩
  ·rw [List.take_succ_eq_append_getElem hj']
   exact hg.snoc hT hT.length
  ·simp only [List.flatten_append,List.flatten_cons,List.flatten_nil,List.append_nil,be]
   refine hI.sub ?_
   simp only [aA]
   rw [<- List.append_assoc]
   exact (((List.sublist_append_left _ _).cons_cons _).cons_cons _).cons_cons _ |>.cons_cons _
 ·have:j=ks.length:=by omega
  subst this
  rw [List.take_length] at hg
  obtain ⟨va,vn,vc,hvk⟩:=hI.rowSlice 3 rfl
  have hv1:kvc.oneCell'=true:=by rw [hvk]; rfl
  refine r_loadW hI 2 ag rfl rfl ?_
  refine ao hI 1 rfl ag rfl rfl ?_ fun w' hI=>?_
  ·intro u hu
   have hu':u∈([.int .i64 k,.int .i64 n,.string s,kvc]:List Value):=hu
   simp at hu'
   rcases hu' with rfl|rfl|rfl|rfl <;> first|rfl|exact hv1
  refine loadV_W hI 1 ag rfl rfl ?_
  have hI:Inv w [] ([au kvc ab 4 css]++az Ls.flatten) S w':=hI.sub (List.sublist_append_right [_,_,_] _)
  obtain ⟨S1,hI,hE,hins⟩:=hI.pubExt
  exact ⟨_,_,S1,rfl,hI,hE,_,css,rfl,rfl,hg.rows hins fun _ _ _ hi h=>h.rd hi⟩
theorem Cm {c0:C} {S:Store} {cs:List Value} (h:RdC S cs c0) (hw:wC c0<=1048576):Tri Tryz.prog sR [.agg cs.toArray] [] S (Dw c0):=by
 intro w hI
 obtain ⟨hd,ks,rfl,h1,h2⟩:=h
 have h1':=h1
 obtain ⟨kv,rfl,g1,g2,g3,g4⟩:=RdT.iff.1 h1
 unfold wC at hw
 refine jF ?_
 unfold jE
 refine r_box hI fun b1 w' hI=>?_
 refine r_alloc hI bd fun b2 w' hI=>?_
 refine r_field aP ?_
 refine r_loadLA hI 0 [.int .i64 c0.head.kind,.int .i64 c0.head.n,.string c0.head.name,kv] ag rfl rfl yR ?_
 refine Run.call0 bM bN hI (cq _ S _ h1' (by omega)) fun v' I' S w'=>?_
 rintro ⟨rfl,cs1,N,rfl,rfl,hT1⟩ _ hI
 obtain ⟨kh,rfl,_⟩:=TrT.iff.1 hT1
 refine fh ?_
 refine r_alloc hI bd fun b3 w' hI=>?_
 have hI:=hI.perm (M:=.blk b1 _::.blk b2 _::.blk b3 _::az N) (((List.perm_append_comm (l₁:=[_])).cons _).cons _)
 refine ao hI 2 rfl av rfl rfl ?_ fun w' hI=>?_
 ·intro u hu
  have hu':u∈([.int .i64 c0.head.kind,.int .i64 c0.head.n,.string c0.head.name,kh,.slice none 0 0]:List Value):=hu
  simp at hu'
  have o1:kh.oneCell'=true:=hT1.one kh (by simp)
  rcases hu' with rfl|rfl|rfl|rfl|rfl <;> first|rfl|exact o1
 have hI:=hI.rowNil ab 4
 have hI:=hI.perm (M:=.blk b1 (.cells #[.int .i64 c0.head.kind,.int .i64 c0.head.n,.string c0.head.name,kv,ks] af)::.blk b2 (.cells #[.int .i64 0,.int .i64 0,.string ⟨#[]⟩,.slice none 0 0,.slice none 0 0] af)::.blk b3 (.cells #[.int .i64 c0.head.kind,.int .i64 c0.head.n,.string c0.head.name,kh,.slice none 0 0] af)::au (.slice none 0 0) ab 4 []::az N) ((((List.perm_append_comm (l₁:=[_])).cons _).cons _).cons _)
 refine ⟨fun i w'=>∃ (j:Nat) (kvc:Value) (Ls:List aD) (css:List (List Value)),j<=c0.body.length/\i=.int .i64 j/\Grown 4 TrT Ls css (c0.body.take j)/\
   Inv w [] (.blk b1 (.cells #[.int .i64 c0.head.kind,.int .i64 c0.head.n,.string c0.head.name,kv,ks] af)::.blk b2 (.cells #[.int .i64 0,.int .i64 0,.string ⟨#[]⟩,.slice none 0 0,.slice none 0 0] af)::.blk b3 (.cells #[.int .i64 c0.head.kind,.int .i64 c0.head.n,.string c0.head.name,kh,kvc] af)::au kvc ab 4 css::az (N::Ls).flatten) S w',
  fun i _=>c0.body.length - (intOf i).toNat,⟨0,_,[],[],Nat.zero_le _,rfl,Grown.nil _ _,by simp only [List.flatten_cons,List.flatten_nil,List.append_nil]; exact hI⟩,?_⟩
 intro t4 _ _ _ _ _ _ _ _ _ _ _ _ _ _ _ _ _ _ w'
 rintro ⟨j,kvc,Ls,css,hj,rfl,hg,hI⟩
 refine r_fieldL hI 0 rfl ax al rfl ?_
 refine r_lenSl h2 aj ?_
 refine r_lss ?_
 refine condP (fun hji=>?_) (fun hji=>?_)
 ·have hj':j<c0.body.length:=by omega
  have hjl:(c0.body.take j).length=j:=by simp; omega
  have hcl:=hg.hc
  have hm:=List.getElem_mem hj'
  have hwm:=dP hm
  obtain ⟨b,o,cap,c,E,fz,rfl,hS,hR⟩:=h2.at_ hj'
  refine ⟨fun D x26 x25 x24 x23 x22 x21 x20 x19 x18 x17 x16 w_=>(D 0=true->x16=.pointer (some ⟨b3,4,none⟩))/\(D 1=true->x17=kvc)/\(D 2=true->x18=.pointer (some ⟨b1,4,none⟩))/\(D 3=true->x19=.slice (some ⟨b,o,none⟩) (c0.body).length cap)/\(D 4=true->x20=.int .i64 j)/\(D 5=true->x21=.pointer (some ⟨b,o+j * 4,none⟩))/\(D 6=true->x22=.agg (cellsAt c (o+j * 4) 4).toArray)/\(D 7=true->True)/\(D 8=true->True)/\(D 9=true->True)/\(D 10=true->x26=.pointer (some ⟨b3,4,none⟩))/\(D 11=true->True)/\∃ M cs7 b8,(D 7=true->x23=.agg cs7.toArray/\TrT M cs7 (c0.body)[j])/\(D 8=true->x24=.slice (some ⟨b8,0,none⟩) 1 1)/\(D 8=true->D 7=true)/\(D 9=true->D 8=true)/\(D 11=true->D 9=true)/\(D 11=true->D 1=true)/\Inv w [] (aA (.blk b1 (.cells #[.int .i64 c0.head.kind,.int .i64 c0.head.n,.string c0.head.name,kv,.slice (some ⟨b,o,none⟩) c0.body.length cap] af)) (.blk b2 (.cells #[.int .i64 0,.int .i64 0,.string ⟨#[]⟩,.slice none 0 0,.slice none 0 0] af)) (.blk b3 (.cells #[.int .i64 c0.head.kind,.int .i64 c0.head.n,.string c0.head.name,kh,kvc] af)) (.blk b3 (.cells #[.int .i64 c0.head.kind,.int .i64 c0.head.n,.string c0.head.name,kh,x25] af)) (au kvc ab 4 css) (au x25 ab 4 (css++[cs7])) (az (N::Ls).flatten) M (.blk b8 (.cells cs7.toArray ab)) (D 7) (D 8) (D 9) (D 11)) S w_,⟨fun h=>Bool.noConfusion h,fun h=>Bool.noConfusion h,fun h=>Bool.noConfusion h,fun h=>Bool.noConfusion h,fun h=>Bool.noConfusion h,fun h=>Bool.noConfusion h,fun h=>Bool.noConfusion h,fun h=>Bool.noConfusion h,fun h=>Bool.noConfusion h,fun h=>Bool.noConfusion h,fun h=>Bool.noConfusion h,fun h=>Bool.noConfusion h,⟨[],[],0,fun h=>Bool.noConfusion h,fun h=>Bool.noConfusion h,fun h=>Bool.noConfusion h,fun h=>Bool.noConfusion h,fun h=>Bool.noConfusion h,fun h=>Bool.noConfusion h,by simpa [aA,az] using hI.draw⟩⟩,⟨?_,?_,?_,?_,?_,?_,?_,?_,?_,?_,?_,?_,trivial⟩,?_⟩
  ·intro D hD_  x26 x25 x24 x23 x22 x21 x20 x19 x18 x17 x16 w_
   rintro ⟨h0_,h1_,h2_,h3_,h4_,h5_,h6_,h7_,h8_,h9_,h10_,h11_,⟨M,cs7,b8,e7,e8,k8,k9,k11,k1,hI⟩⟩
   refine r_field ax ?_
   exact ⟨fun _=>rfl,h1_,h2_,h3_,h4_,h5_,h6_,h7_,h8_,h9_,h10_,h11_,⟨M,cs7,b8,e7,e8,k8,k9,k11,k1,hI⟩⟩
  ·intro D hD_ d0_0 x26 x25 x24 x23 x22 x21 x20 x19 x18 x17 x16 w_
   rintro ⟨h0_,h1_,h2_,h3_,h4_,h5_,h6_,h7_,h8_,h9_,h10_,h11_,⟨M,cs7,b8,e7,e8,k8,k9,k11,k1,hI⟩⟩
   obtain rfl:=h0_ d0_0
   have f11:D 11=false:=Bool.eq_false_iff.2 fun h=>by rw [k1 h] at hD_; cases hD_
   refine r_loadL (b:=b3) hI 2 (c:=(#[.int .i64 c0.head.kind,.int .i64 c0.head.n,.string c0.head.name,kh,kvc])) al (by rw [f11]; rfl) rfl ?_
   have k1:=fun (_:setD D 1 11=true)=>(rfl:setD D 1 1=true)
   exact ⟨h0_,fun _=>rfl,h2_,h3_,h4_,h5_,h6_,h7_,h8_,h9_,h10_,h11_,⟨M,cs7,b8,e7,e8,k8,k9,k11,k1,hI⟩⟩
  ·intro D hD_  x26 x25 x24 x23 x22 x21 x20 x19 x18 x17 x16 w_
   rintro ⟨h0_,h1_,h2_,h3_,h4_,h5_,h6_,h7_,h8_,h9_,h10_,h11_,⟨M,cs7,b8,e7,e8,k8,k9,k11,k1,hI⟩⟩
   refine r_field ax ?_
   exact ⟨h0_,h1_,fun _=>rfl,h3_,h4_,h5_,h6_,h7_,h8_,h9_,h10_,h11_,⟨M,cs7,b8,e7,e8,k8,k9,k11,k1,hI⟩⟩
  ·intro D hD_ d2_0 x26 x25 x24 x23 x22 x21 x20 x19 x18 x17 x16 w_
   rintro ⟨h0_,h1_,h2_,h3_,h4_,h5_,h6_,h7_,h8_,h9_,h10_,h11_,⟨M,cs7,b8,e7,e8,k8,k9,k11,k1,hI⟩⟩
   obtain rfl:=h2_ d2_0
   refine r_loadL hI 0 al rfl rfl ?_
   exact ⟨h0_,h1_,h2_,fun _=>rfl,h4_,h5_,h6_,h7_,h8_,h9_,h10_,h11_,⟨M,cs7,b8,e7,e8,k8,k9,k11,k1,hI⟩⟩
  ·intro D hD_  x26 x25 x24 x23 x22 x21 x20 x19 x18 x17 x16 w_
   rintro ⟨h0_,h1_,h2_,h3_,h4_,h5_,h6_,h7_,h8_,h9_,h10_,h11_,⟨M,cs7,b8,e7,e8,k8,k9,k11,k1,hI⟩⟩
   exact ⟨h0_,h1_,h2_,h3_,fun _=>rfl,h5_,h6_,h7_,h8_,h9_,h10_,h11_,⟨M,cs7,b8,e7,e8,k8,k9,k11,k1,hI⟩⟩
  ·intro D hD_ d3_0 d4_1 x26 x25 x24 x23 x22 x21 x20 x19 x18 x17 x16 w_
   rintro ⟨h0_,h1_,h2_,h3_,h4_,h5_,h6_,h7_,h8_,h9_,h10_,h11_,⟨M,cs7,b8,e7,e8,k8,k9,k11,k1,hI⟩⟩
   obtain rfl:=h3_ d3_0
   obtain rfl:=h4_ d4_1
   refine r_indexAddr aj hj' ?_
   exact ⟨h0_,h1_,h2_,h3_,h4_,fun _=>rfl,h6_,h7_,h8_,h9_,h10_,h11_,⟨M,cs7,b8,e7,e8,k8,k9,k11,k1,hI⟩⟩
  ·intro D hD_ d5_0 x26 x25 x24 x23 x22 x21 x20 x19 x18 x17 x16 w_
   rintro ⟨h0_,h1_,h2_,h3_,h4_,h5_,h6_,h7_,h8_,h9_,h10_,h11_,⟨M,cs7,b8,e7,e8,k8,k9,k11,k1,hI⟩⟩
   obtain rfl:=h5_ d5_0
   refine r_loadA ag hR.length (fun j v hj=>by rw [hI.cellS hS]; exact cellsAt_get rfl j v hj) ?_
   exact ⟨h0_,h1_,h2_,h3_,h4_,h5_,fun _=>rfl,h7_,h8_,h9_,h10_,h11_,⟨M,cs7,b8,e7,e8,k8,k9,k11,k1,hI⟩⟩
  ·intro D hD_ d6_0 x26 x25 x24 x23 x22 x21 x20 x19 x18 x17 x16 w_
   rintro ⟨h0_,h1_,h2_,h3_,h4_,h5_,h6_,h7_,h8_,h9_,h10_,h11_,⟨M,cs7,b8,e7,e8,k8,k9,k11,k1,hI⟩⟩
   obtain rfl:=h6_ d6_0
   have f8:D 8=false:=Bool.eq_false_iff.2 fun h=>by rw [k8 h] at hD_; cases hD_
   have f9:D 9=false:=Bool.eq_false_iff.2 fun h=>by rw [k9 h] at f8; cases f8
   have f11:D 11=false:=Bool.eq_false_iff.2 fun h=>by rw [k11 h] at f9; cases f9
   rw [hD_,f8,f9,f11] at hI
   refine Run.call0 bM bN hI (cq _ S _ hR (by omega)) fun v' I' S w_=>?_
   rintro ⟨rfl,cs7,M,rfl,rfl,hT⟩ _ hI
   have e7:setD D 7 7=true->Value.agg cs7.toArray=Value.agg cs7.toArray/\TrT M cs7 (c0.body)[j]:=fun _=>⟨rfl,hT⟩
   have k8:=fun (_:setD D 7 8=true)=>(rfl:setD D 7 7=true)
   have hI:Inv w [] (aA (.blk b1 (.cells #[.int .i64 c0.head.kind,.int .i64 c0.head.n,.string c0.head.name,kv,.slice (some ⟨b,o,none⟩) c0.body.length cap] af)) (.blk b2 (.cells #[.int .i64 0,.int .i64 0,.string ⟨#[]⟩,.slice none 0 0,.slice none 0 0] af)) (.blk b3 (.cells #[.int .i64 c0.head.kind,.int .i64 c0.head.n,.string c0.head.name,kh,kvc] af)) (.blk b3 (.cells #[.int .i64 c0.head.kind,.int .i64 c0.head.n,.string c0.head.name,kh,x25] af)) (au kvc ab 4 css) (au x25 ab 4 (css++[cs7])) (az (N::Ls).flatten) M (.blk b8 (.cells cs7.toArray ab)) true (D 8) (D 9) (D 11)) S w_:=by
    rw [f8,f9,f11]
    simpa [aA] using hI
   exact ⟨h0_,h1_,h2_,h3_,h4_,h5_,h6_,fun _=>by first|assumption|trivial,h8_,h9_,h10_,h11_,⟨M,cs7,b8,e7,e8,k8,k9,k11,k1,hI⟩⟩
  ·intro D hD_ d7_0 x26 x25 x24 x23 x22 x21 x20 x19 x18 x17 x16 w_
   rintro ⟨h0_,h1_,h2_,h3_,h4_,h5_,h6_,h7_,h8_,h9_,h10_,h11_,⟨M,cs7,b8,e7,e8,k8,k9,k11,k1,hI⟩⟩
   have g7_:=h7_ d7_0
   have f9:D 9=false:=Bool.eq_false_iff.2 fun h=>by rw [k9 h] at hD_; cases hD_
   have f11:D 11=false:=Bool.eq_false_iff.2 fun h=>by rw [k11 h] at f9; cases f9
   obtain ⟨q7,hT⟩:=e7 d7_0
   subst q7
   rw [d7_0,hD_,f9,f11] at hI
   refine r_slice1 hI aJ (by simp [Value.cells,hT.length]) (by omega) (by omega) fun b8 w_ hI=>?_
   have e7:setD D 8 7=true->Value.agg cs7.toArray=Value.agg cs7.toArray/\TrT M cs7 (c0.body)[j]:=fun _=>⟨rfl,hT⟩
   have e8:=fun (_:setD D 8 8=true)=>(rfl:Value.slice (some ⟨b8,0,none⟩) 1 1=_)
   have k8:=fun (_:setD D 8 8=true)=>d7_0
   have k9:=fun (_:setD D 8 9=true)=>(rfl:setD D 8 8=true)
   have hI:Inv w [] (aA (.blk b1 (.cells #[.int .i64 c0.head.kind,.int .i64 c0.head.n,.string c0.head.name,kv,.slice (some ⟨b,o,none⟩) c0.body.length cap] af)) (.blk b2 (.cells #[.int .i64 0,.int .i64 0,.string ⟨#[]⟩,.slice none 0 0,.slice none 0 0] af)) (.blk b3 (.cells #[.int .i64 c0.head.kind,.int .i64 c0.head.n,.string c0.head.name,kh,kvc] af)) (.blk b3 (.cells #[.int .i64 c0.head.kind,.int .i64 c0.head.n,.string c0.head.name,kh,x25] af)) (au kvc ab 4 css) (au x25 ab 4 (css++[cs7])) (az (N::Ls).flatten) M (.blk b8 (.cells cs7.toArray ab)) (D 7) true (D 9) (D 11)) S w_:=by
    rw [d7_0,f9,f11]
    simpa [aA,Value.cells] using hI
   exact ⟨h0_,h1_,h2_,h3_,h4_,h5_,h6_,h7_,fun _=>by first|assumption|trivial,h9_,h10_,h11_,⟨M,cs7,b8,e7,e8,k8,k9,k11,k1,hI⟩⟩
  ·intro D hD_ d1_0 d8_1 d7_2 x26 x25 x24 x23 x22 x21 x20 x19 x18 x17 x16 w_
   rintro ⟨h0_,h1_,h2_,h3_,h4_,h5_,h6_,h7_,h8_,h9_,h10_,h11_,⟨M,cs7,b8,e7,e8,k8,k9,k11,k1,hI⟩⟩
   obtain rfl:=h1_ d1_0
   have g8_:=h8_ d8_1
   have f11:D 11=false:=Bool.eq_false_iff.2 fun h=>by rw [k11 h] at hD_; cases hD_
   have q8:=e8 d8_1
   subst q8
   obtain ⟨_,hT⟩:=e7 d7_2
   rw [d7_2,d8_1,hD_,f11] at hI
   have hblk:((aA (.blk b1 (.cells #[.int .i64 c0.head.kind,.int .i64 c0.head.n,.string c0.head.name,kv,.slice (some ⟨b,o,none⟩) c0.body.length cap] af)) (.blk b2 (.cells #[.int .i64 0,.int .i64 0,.string ⟨#[]⟩,.slice none 0 0,.slice none 0 0] af)) (.blk b3 (.cells #[.int .i64 c0.head.kind,.int .i64 c0.head.n,.string c0.head.name,kh,x17] af)) (.blk b3 (.cells #[.int .i64 c0.head.kind,.int .i64 c0.head.n,.string c0.head.name,kh,x25] af)) (au x17 ab 4 css) (au x25 ab 4 (css++[cs7])) (az (N::Ls).flatten) M (.blk b8 (.cells cs7.toArray ab)) true true false false))[4+(az (N::Ls).flatten).length+(az M).length]?=some (.blk b8 (.cells cs7.toArray ab)):=by
    have e4:4+(az (N::Ls).flatten).length+(az M).length=((az (N::Ls).flatten).length+(az M).length)+1+1+1+1:=by omega
    rw [e4]
    simp only [aA,List.getElem?_cons_succ]
    rw [List.getElem?_append_right (by omega),Nat.add_sub_cancel_left,List.getElem?_append_right (Nat.le_refl _),Nat.sub_self]; rfl
   refine r_append hI 3 cs7 aJ (by omega) rfl (by rw [hT.length]) (m:=1) (o:=0) ?_ hT.one (by omega) (by omega) fun v' w_ hI=>?_
   ·intro i u hi
    rw [hI.cellL hblk,Nat.zero_add]
    simpa using hi
   rw [ct] at hI
   have k9:=fun (_:setD D 9 9=true)=>d8_1
   have k11:=fun (_:setD D 9 11=true)=>(rfl:setD D 9 9=true)
   have hI:Inv w [] (aA (.blk b1 (.cells #[.int .i64 c0.head.kind,.int .i64 c0.head.n,.string c0.head.name,kv,.slice (some ⟨b,o,none⟩) c0.body.length cap] af)) (.blk b2 (.cells #[.int .i64 0,.int .i64 0,.string ⟨#[]⟩,.slice none 0 0,.slice none 0 0] af)) (.blk b3 (.cells #[.int .i64 c0.head.kind,.int .i64 c0.head.n,.string c0.head.name,kh,x17] af)) (.blk b3 (.cells #[.int .i64 c0.head.kind,.int .i64 c0.head.n,.string c0.head.name,kh,v'] af)) (au x17 ab 4 css) (au v' ab 4 (css++[cs7])) (az (N::Ls).flatten) M (.blk b8 (.cells cs7.toArray ab)) (D 7) (D 8) true (D 11)) S w_:=by
    rw [d7_2,d8_1,f11]
    exact hI
   exact ⟨h0_,h1_,h2_,h3_,h4_,h5_,h6_,h7_,h8_,fun _=>by first|assumption|trivial,h10_,h11_,⟨M,cs7,b8,e7,e8,k8,k9,k11,k1,hI⟩⟩
  ·intro D hD_ d0_0 d1_1 d2_2 d3_3 d4_4 d5_5 d6_6 d7_7 d8_8 d9_9 x26 x25 x24 x23 x22 x21 x20 x19 x18 x17 x16 w_
   rintro ⟨h0_,h1_,h2_,h3_,h4_,h5_,h6_,h7_,h8_,h9_,h10_,h11_,⟨M,cs7,b8,e7,e8,k8,k9,k11,k1,hI⟩⟩
   refine r_field ax ?_
   exact ⟨h0_,h1_,h2_,h3_,h4_,h5_,h6_,h7_,h8_,h9_,fun _=>rfl,h11_,⟨M,cs7,b8,e7,e8,k8,k9,k11,k1,hI⟩⟩
  ·intro D hD_ d10_0 d9_1 d9_2 d0_3 d1_4 d2_5 d3_6 d4_7 d5_8 d6_9 d7_10 d8_11 d9_12 x26 x25 x24 x23 x22 x21 x20 x19 x18 x17 x16 w_
   rintro ⟨h0_,h1_,h2_,h3_,h4_,h5_,h6_,h7_,h8_,h9_,h10_,h11_,⟨M,cs7,b8,e7,e8,k8,k9,k11,k1,hI⟩⟩
   obtain rfl:=h10_ d10_0
   have g9_:=h9_ d9_1
   rw [d7_10,d8_11,d9_1,hD_] at hI
   obtain ⟨va,vn,vc,hv9⟩:=Inv.rowSlice hI 3 rfl
   refine r_store hI 2 (n:=1) (by rw [hv9]; rfl) (by decide +kernel) rfl (by simp) (by rw [hv9]; simp [Value.cells,Value.oneCell']) fun w_ hI=>?_
   have hcl9:Value.cells x25=#[x25]:=by rw [hv9]; rfl
   rw [hcl9] at hI
   have k1:=fun (_:setD D 11 11=true)=>d1_4
   have k11:=fun (_:setD D 11 11=true)=>d9_1
   have hI:Inv w [] (aA (.blk b1 (.cells #[.int .i64 c0.head.kind,.int .i64 c0.head.n,.string c0.head.name,kv,.slice (some ⟨b,o,none⟩) c0.body.length cap] af)) (.blk b2 (.cells #[.int .i64 0,.int .i64 0,.string ⟨#[]⟩,.slice none 0 0,.slice none 0 0] af)) (.blk b3 (.cells #[.int .i64 c0.head.kind,.int .i64 c0.head.n,.string c0.head.name,kh,kvc] af)) (.blk b3 (.cells #[.int .i64 c0.head.kind,.int .i64 c0.head.n,.string c0.head.name,kh,x25] af)) (au kvc ab 4 css) (au x25 ab 4 (css++[cs7])) (az (N::Ls).flatten) M (.blk b8 (.cells cs7.toArray ab)) (D 7) (D 8) (D 9) true) S w_:=by
    rw [d7_10,d8_11,d9_1]
    exact hI
   exact ⟨h0_,h1_,h2_,h3_,h4_,h5_,h6_,h7_,h8_,h9_,h10_,fun _=>trivial,⟨M,cs7,b8,e7,e8,k8,k9,k11,k1,hI⟩⟩
  intro D d11_ d10_ d9_ d8_ d7_ d6_ d5_ d4_ d3_ d2_ d1_ d0_ x26 x25 x24 x23 x22 x21 x20 x19 x18 x17 x16 w_
  rintro ⟨h0_,h1_,h2_,h3_,h4_,h5_,h6_,h7_,h8_,h9_,h10_,h11_,⟨M,cs7,b8,e7,e8,k8,k9,k11,k1,hI⟩⟩
  obtain rfl:=h10_ d10_
  have g9_:=h9_ d9_
  have g8_:=h8_ d8_
  have g7_:=h7_ d7_
  obtain rfl:=h6_ d6_
  obtain rfl:=h5_ d5_
  obtain rfl:=h4_ d4_
  obtain rfl:=h3_ d3_
  obtain rfl:=h2_ d2_
  obtain rfl:=h1_ d1_
  obtain rfl:=h0_ d0_
  clear h0_ h1_ h2_ h3_ h4_ h5_ h6_ h7_ h8_ h9_ h10_ h11_
  obtain ⟨_,hT⟩:=e7 d7_
  rw [d7_,d8_,d9_,d11_] at hI
  refine r_add (by omega) ?_
  refine ⟨⟨j+1,x25,Ls++[M],css++[cs7],hj',rfl,?_,?_⟩,by simp [intOf]; omega⟩
  ·rw [List.take_succ_eq_append_getElem hj']
   exact hg.snoc hT hT.length
  ·rw [<- List.cons_append,List.flatten_append,be]
   simp only [List.flatten_cons,List.flatten_nil,List.append_nil]
   refine hI.sub ?_
   simp only [aA,List.flatten_cons]
   rw [<- List.append_assoc]
   exact (((List.sublist_append_left _ _).cons_cons _).cons_cons _).cons_cons _ |>.cons_cons _
 ·have:j=c0.body.length:=by omega
  subst this
  rw [List.take_length] at hg
  obtain ⟨va,vn,vc,hvk⟩:=hI.rowSlice 3 rfl
  have hv1:kvc.oneCell'=true:=by rw [hvk]; rfl
  have o1:kh.oneCell'=true:=hT1.one kh (by simp)
  refine r_loadW hI 2 av rfl rfl ?_
  refine ao hI 1 rfl av rfl rfl ?_ fun w' hI=>?_
  ·intro u hu
   have hu':u∈([.int .i64 c0.head.kind,.int .i64 c0.head.n,.string c0.head.name,kh,kvc]:List Value):=hu
   simp at hu'
   rcases hu' with rfl|rfl|rfl|rfl|rfl <;> first|rfl|exact o1|exact hv1
  refine loadV_W hI 1 av rfl rfl ?_
  have hI:Inv w [] (au kvc ab 4 css::az (N::Ls).flatten) S w':=hI.sub (List.sublist_append_right [_,_,_] _)
  have hI:Inv w [] ([au kvc ab 4 css]++az (N::Ls).flatten) S w':=hI
  obtain ⟨S1,hI,hE,hins⟩:=hI.pubExt
  rw [List.flatten_cons] at hins
  exact ⟨_,_,S1,rfl,hI,hE,_,kvc,css,rfl,hT1.rd hins.left,rfl,hg.rows hins.right fun _ _ _ hi h=>h.rd hi⟩
end
end Go.Proofs.YtmnnpgdeecnfpaaGreat

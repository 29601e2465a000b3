/- Texts written: spec.l2Text and its kin, l4Text, FormatClause. -/
import Derived.Test.YtnmnddpdikghhaaGreatZr4
import Derived.Test.YtnmnddpdikghhaaGreatZr2
import Derived.Test.YtnmnddpdikghhaaGreatZr3
namespace Go.Proofs.YtnmnddpdikghhaaGreat
open Go Go.RowKit
theorem JS:Tryz.prog.underlying Dw=some (.slice Cy):=by kernel_rfl
section
variable {w:World} {S:ay}
attribute [local irreducible] Run CondV ai a4
theorem jS {t:T} {cs:List Value} (h:RdT S cs t):Pure Tryz.prog Gq [.agg cs.toArray] S (.bool (zj t)):=by
 intro w hI
 obtain ⟨kv,rfl,_,_,_,hk⟩:=RdT.iff.1 h
 obtain ⟨ka,kc,rfl,_⟩:=id hk
 refine y0 ?_
 unfold vL;dsimp only
 refine bN hI fun b1 w' hI=>?_
 refine ar hI 0 rfl bv bg rfl ?_
 by_cases h3:t.kind=3
 ·refine fZ h3 ?_
  repeat (first|refine ae ?_|refine ah (by decide) ?_|refine ad ?_|refine al ?_|refine aj ?_)
  refine ar hI 0 rfl bH bz rfl ?_
  refine cK (b:=st [46]) ?_
  cases hn:decide (t.name=st [46])
  ·repeat (first|refine ae ?_|refine ah (by decide) ?_|refine ad ?_|refine al ?_|refine aj ?_)
   exact done hI (by rw [zj,hn,Bool.false_and,Bool.and_false])
  ·repeat (first|refine ae ?_|refine ah (by decide) ?_|refine ad ?_|refine al ?_|refine aj ?_)
   refine ar hI 0 rfl aP aL rfl ?_
   refine iE aG ?_
   refine bO ?_
   repeat (first|refine ae ?_|refine ah (by decide) ?_|refine ad ?_|refine al ?_|refine aj ?_)
   refine done hI ?_
   rw [zj,hn,decide_eq_true h3,Bool.true_and,Bool.true_and]
   congr 1
   rw [decide_eq_decide]
   omega
 ·refine eK h3 ?_
  repeat (first|refine ae ?_|refine ah (by decide) ?_|refine ad ?_|refine al ?_|refine aj ?_)
  exact done hI (by rw [zj,decide_eq_false h3,Bool.false_and])
theorem zL {t:T} {cs:List Value} (h:RdT S cs t):Pure Tryz.prog IU [.agg cs.toArray] S (.bool (JD t)):=by
 intro w hI
 obtain ⟨kv,rfl,_,_,_,hk⟩:=RdT.iff.1 h
 obtain ⟨ka,kc,rfl,_⟩:=id hk
 refine z1 ?_
 unfold xL;dsimp only
 refine bN hI fun b1 w' hI=>?_
 refine ar hI 0 rfl bv bg rfl ?_
 by_cases h3:t.kind=3
 ·refine fZ h3 ?_
  repeat (first|refine ae ?_|refine ah (by decide) ?_|refine ad ?_|refine al ?_|refine aj ?_)
  refine ar hI 0 rfl bH bz rfl ?_
  refine cK (b:=st [91,93]) ?_
  cases hn:decide (t.name=st [91,93])
  ·repeat (first|refine ae ?_|refine ah (by decide) ?_|refine ad ?_|refine al ?_|refine aj ?_)
   exact done hI (by rw [JD,hn,Bool.false_and,Bool.and_false])
  ·repeat (first|refine ae ?_|refine ah (by decide) ?_|refine ad ?_|refine al ?_|refine aj ?_)
   refine ar hI 0 rfl aP aL rfl ?_
   refine iE aG ?_
   refine bO ?_
   repeat (first|refine ae ?_|refine ah (by decide) ?_|refine ad ?_|refine al ?_|refine aj ?_)
   refine done hI ?_
   rw [JD,hn,decide_eq_true h3,Bool.true_and,Bool.true_and]
   congr 1
   rw [decide_eq_decide]
   omega
 ·refine eK h3 ?_
  repeat (first|refine ae ?_|refine ah (by decide) ?_|refine ad ?_|refine al ?_|refine aj ?_)
  exact done hI (by rw [JD,decide_eq_false h3,Bool.false_and])
theorem ml {t:T} {cs:List Value} (h:RdT S cs t):Pure Tryz.prog Ed [.agg cs.toArray] S (.bool (lH t)):=by
 intro w hI
 obtain ⟨kv,rfl,_,_,_,hk⟩:=RdT.iff.1 h
 obtain ⟨ka,kc,rfl,_⟩:=id hk
 refine wd ?_
 unfold rG;dsimp only
 refine bN hI fun b1 w' hI=>?_
 refine ar hI 0 rfl bv bg rfl ?_
 by_cases h3:t.kind=3
 ·refine fZ h3 ?_
  repeat (first|refine ae ?_|refine ah (by decide) ?_|refine ad ?_|refine al ?_|refine aj ?_)
  refine ar hI 0 rfl aP aL rfl ?_
  refine iE aG ?_
  by_cases hn:t.kids.length=2
  ·refine fZ (by omega) ?_
   repeat (first|refine ae ?_|refine ah (by decide) ?_|refine ad ?_|refine al ?_|refine aj ?_)
   refine ar hI 0 rfl bH bz rfl ?_
   refine Run.callPure fG fK hI (ek _ S) fun w' hI=>?_
   refine ff ?_
   repeat (first|refine ae ?_|refine ah (by decide) ?_|refine ad ?_|refine al ?_|refine aj ?_)
   exact done hI (by rw [lH,decide_eq_true h3,decide_eq_true hn,Bool.true_and,Bool.true_and])
  ·refine eK (by omega) ?_
   repeat (first|refine ae ?_|refine ah (by decide) ?_|refine ad ?_|refine al ?_|refine aj ?_)
   exact done hI (by rw [lH,decide_eq_false hn,Bool.false_and,Bool.and_false])
 ·refine eK h3 ?_
  repeat (first|refine ae ?_|refine ah (by decide) ?_|refine ad ?_|refine al ?_|refine aj ?_)
  exact done hI (by rw [lH,decide_eq_false h3,Bool.false_and])
theorem ou {t:T} {cs:List Value} (h:RdT S cs t):Pure Tryz.prog Gj [.agg cs.toArray] S (.bool (u5 t)):=by
 intro w hI
 obtain ⟨kv,rfl,_,_,_,hk⟩:=RdT.iff.1 h
 obtain ⟨ka,kc,rfl,_⟩:=id hk
 refine za ?_
 unfold vA;dsimp only
 refine bN hI fun b1 w' hI=>?_
 refine ar hI 0 rfl bv bg rfl ?_
 by_cases h3:t.kind=3
 ·refine fZ h3 ?_
  repeat (first|refine ae ?_|refine ah (by decide) ?_|refine ad ?_|refine al ?_|refine aj ?_)
  refine ar hI 0 rfl aP aL rfl ?_
  refine iE aG ?_
  by_cases hn:t.kids.length=0
  ·refine fZ (by omega) ?_
   repeat (first|refine ae ?_|refine ah (by decide) ?_|refine ad ?_|refine al ?_|refine aj ?_)
   refine ar hI 0 rfl bH bz rfl ?_
   refine Run.callPure fG fK hI (ek _ S) fun w' hI=>?_
   refine ff ?_
   repeat (first|refine ae ?_|refine ah (by decide) ?_|refine ad ?_|refine al ?_|refine aj ?_)
   exact done hI (by rw [u5,decide_eq_true h3,decide_eq_true hn,Bool.true_and,Bool.true_and])
  ·refine eK (by omega) ?_
   repeat (first|refine ae ?_|refine ah (by decide) ?_|refine ad ?_|refine al ?_|refine aj ?_)
   exact done hI (by rw [u5,decide_eq_false hn,Bool.false_and,Bool.and_false])
 ·refine eK h3 ?_
  repeat (first|refine ae ?_|refine ah (by decide) ?_|refine ad ?_|refine al ?_|refine aj ?_)
  exact done hI (by rw [u5,decide_eq_false h3,Bool.false_and])
theorem yJ (n:Bs) (hn:n.length<=1000000):Pure Tryz.prog Ca [.string (st n)] S (.string (st (io n))):=by
 intro w hI
 refine tO ?_
 unfold pH
 refine ⟨fun b w'=>b=.bool (decide (n=[105,115]) || decide (n=[109,111,100]))/\Inv w [] [] S w',?_,?_⟩
 ·refine xN (b:=[105,115]) ?_
  cases h5:decide (n=[105,115])
  ·repeat (first|refine ae ?_|refine ah (by decide) ?_|refine ad ?_|refine al ?_|refine aj ?_)
   refine xN (b:=[109,111,100]) ?_
   repeat (first|refine ae ?_|refine ah (by decide) ?_|refine ad ?_|refine al ?_|refine aj ?_)
   exact ⟨by rw [Bool.false_or],hI⟩
  ·repeat (first|refine ae ?_|refine ah (by decide) ?_|refine ad ?_|refine al ?_|refine aj ?_)
   exact ⟨by rw [Bool.true_or],hI⟩
 intro t8 _ _ _ _ _ w'
 rintro ⟨rfl,hI⟩
 refine a7 (fun hb=>?_) (fun hb=>?_)
 ·rw [Bool.or_eq_true,decide_eq_true_eq,decide_eq_true_eq] at hb
  refine dP (a:=[32]) (by simp; omega) ?_
  refine dP (b:=[32]) (by simp; omega) ?_
  exact done hI (by rw [io,if_pos hb]; rfl)
 ·rw [Bool.or_eq_false_iff,decide_eq_false_iff_not,decide_eq_false_iff_not] at hb
  exact done hI (by rw [io,if_neg (by rintro (h|h); exact hb.1 h; exact hb.2 h)])
theorem Az (s:Bs) (h0:0<s.length):Pure Tryz.prog Ei [.string (st s)] S (.bool (CC s)):=by
 intro w hI
 refine wS ?_
 unfold ta;dsimp only
 have e1:CC s=(sml s 0 || (dig s 0 || (upp s 0 || (sgn s 0 91 || sgn s 0 40)))):=rfl
 have eu:upp s 0=(decide (65<=s[0].toNat) && decide (s[0].toNat<=90)):=lK h0 65 90
 have ea:sgn s 0 91=decide (s[0].toNat=91):=jR h0 91
 have eb:sgn s 0 40=decide (s[0].toNat=40):=jR h0 40
 refine Run.callPure sS sw hI (my s 0 S) fun w' hI=>?_
 cases hs:sml s 0
 ·repeat (first|refine ae ?_|refine ah (by decide) ?_|refine ad ?_|refine al ?_|refine aj ?_)
  refine Run.callPure jx jy hI (gR s 0 S) fun w' hI=>?_
  cases hd:dig s 0
  ·repeat (first|refine ae ?_|refine ah (by decide) ?_|refine ad ?_|refine al ?_|refine aj ?_)
   refine eH (i:=0) bk h0 ?_
   rw [hs,hd,Bool.false_or,Bool.false_or] at e1
   by_cases h65:65<=s[0].toNat
   ·refine lJ (by omega) ?_
    repeat (first|refine ae ?_|refine ah (by decide) ?_|refine ad ?_|refine al ?_|refine aj ?_)
    refine eH (i:=0) bk h0 ?_
    by_cases h90:s[0].toNat<=90
    ·refine Ci (by omega) ?_
     repeat (first|refine ae ?_|refine ah (by decide) ?_|refine ad ?_|refine al ?_|refine aj ?_)
     exact done hI (by rw [e1,eu,decide_eq_true h65,decide_eq_true h90]; rfl)
    ·refine Jp (by omega) ?_
     repeat (first|refine ae ?_|refine ah (by decide) ?_|refine ad ?_|refine al ?_|refine aj ?_)
     refine eH (i:=0) bk h0 ?_
     by_cases h91:s[0].toNat=91
     ·refine fZ (by omega) ?_
      repeat (first|refine ae ?_|refine ah (by decide) ?_|refine ad ?_|refine al ?_|refine aj ?_)
      exact done hI (by rw [e1,ea,decide_eq_true h91,Bool.true_or,Bool.or_true])
     ·refine eK (by omega) ?_
      repeat (first|refine ae ?_|refine ah (by decide) ?_|refine ad ?_|refine al ?_|refine aj ?_)
      refine eH (i:=0) bk h0 ?_
      refine eK (by omega) ?_
      repeat (first|refine ae ?_|refine ah (by decide) ?_|refine ad ?_|refine al ?_|refine aj ?_)
      exact done hI (by rw [e1,eu,ea,eb,decide_eq_false h90,decide_eq_false h91,decide_eq_false (show ¬ s[0].toNat=40 by omega),Bool.and_false]; rfl)
   ·refine uH (by omega) ?_
    repeat (first|refine ae ?_|refine ah (by decide) ?_|refine ad ?_|refine al ?_|refine aj ?_)
    refine eH (i:=0) bk h0 ?_
    refine eK (by omega) ?_
    repeat (first|refine ae ?_|refine ah (by decide) ?_|refine ad ?_|refine al ?_|refine aj ?_)
    refine eH (i:=0) bk h0 ?_
    by_cases h40:s[0].toNat=40
    ·refine fZ (by omega) ?_
     repeat (first|refine ae ?_|refine ah (by decide) ?_|refine ad ?_|refine al ?_|refine aj ?_)
     exact done hI (by rw [e1,eb,decide_eq_true h40,Bool.or_true,Bool.or_true])
    ·refine eK (by omega) ?_
     repeat (first|refine ae ?_|refine ah (by decide) ?_|refine ad ?_|refine al ?_|refine aj ?_)
     exact done hI (by rw [e1,eu,ea,eb,decide_eq_false h65,decide_eq_false (show ¬ s[0].toNat=91 by omega),decide_eq_false h40,Bool.false_and]; rfl)
  ·repeat (first|refine ae ?_|refine ah (by decide) ?_|refine ad ?_|refine al ?_|refine aj ?_)
   exact done hI (by rw [e1,hd,Bool.true_or,Bool.or_true])
 ·repeat (first|refine ae ?_|refine ah (by decide) ?_|refine ad ?_|refine al ?_|refine aj ?_)
  exact done hI (by rw [e1,hs,Bool.true_or])
theorem yv {n:Int} (h:0<=n/\n<=25):Pure Tryz.prog Co [.int .i64 n] S (.string (st [UInt8.ofNat (65+n.toNat)])):=by
 intro w hI
 refine uO ?_
 unfold pt
 refine mR gJ gh (IntWalk.u8_in _ (by omega)) ?_
 refine Lt (c:=((65+n.toNat:Nat):Int)) ?_ ?_
 ·rw [IntWalk.u8_in _ (by omega)]; omega
 refine xQ hI tT JS gh bk fun w' hI=>?_
 exact done hI rfl
theorem DU:∀ (f n:Nat) (out r:Bs),Ac f n out=some r->out.length<r.length/\r.length<=out.length+f
 | 0,_,_,_,h=>by simp [Ac] at h
 | f+1,n,out,r,h=>by
  rw [Ac] at h
  split at h
  ·have:=DU f _ _ _ h
   simp only [List.length_cons] at this
   omega
  ·simp only [Option.some.injEq] at h
   subst h
   simp only [List.length_cons]
   omega
theorem ro {f n:Nat} {r:Bs} (h:Ac f n []=some r) (hn:n<=100000) (hf:f<=1000):Pure Tryz.prog G2 [.int .i64 (n:Int)] S (.string (st r)):=by
 intro w hI
 refine zH ?_
 unfold uS
 refine eU (by omega) ?_
 refine a7 (fun hb=>by cases hb) (fun _=>?_)
 refine eU (by omega) ?_
 refine a7 (fun hb=>by cases hb) (fun _=>?_)
 refine ⟨fun a b w'=>∃ (f' m:Nat) (out:Bs),a=.int .i64 (m:Int)/\b=.string (st out)/\m<=100000/\out.length+f'<=1000/\Ac f' m out=some r/\Inv w [] [] S w',fun a _ _=>(intOf a).toNat,⟨f,n,[],rfl,rfl,hn,by simpa using hf,h,hI⟩,?_⟩
 intro t0 _ _ t3 _ _ _ _ _ _ _ _ _ _ w'
 rintro ⟨f',m,out,rfl,rfl,hm,hof,hd,hI⟩
 cases f' with
 | zero=>simp [Ac] at hd
 | succ g=>
 rw [Ac] at hd
 split at hd
 ·rename_i h9
  refine G6 (by omega) ?_
  refine a7 (fun _=>?_) (fun hb=>by cases hb)
  refine Fy (a:=m) (b:=10) rfl rfl (by omega) ?_
  refine eW (a:=48) (b:=m % 10) rfl rfl (by omega) ?_
  refine mR gJ gh (IntWalk.u8_in _ (by omega)) ?_
  refine xQ hI tT JS gh bk fun w' hI=>?_
  refine dP (by simp; omega) ?_
  refine HJ (a:=m) (b:=10) rfl rfl (by omega) (by omega) ?_
  refine ⟨⟨g,m / 10,UInt8.ofNat (48+m % 10)::out,rfl,rfl,by omega,by simp only [List.length_cons]; omega,hd,hI⟩,?_⟩
  simp only [intOf,Int.toNat_natCast]
  omega
 ·rename_i h9
  refine jH (by omega) ?_
  refine a7 (fun hb=>by cases hb) (fun _=>?_)
  refine eW (a:=48) (b:=m) rfl rfl (by omega) ?_
  refine mR gJ gh (IntWalk.u8_in _ (by omega)) ?_
  refine xQ hI tT JS gh bk fun w' hI=>?_
  refine dP (by simp; omega) ?_
  simp only [Option.some.injEq] at hd
  exact done hI (by rw [<- hd]; rfl)
theorem Do {n:Int} {r:Bs} (h:Lp n=some r) (hn:-999<=n/\n<=999):Pure Tryz.prog ID [.int .i64 n] S (.string (st r)):=by
 intro w hI
 refine z8 ?_
 unfold zd
 unfold Lp at h
 split at h
 ·rename_i h0
  refine yE h0 ?_
  refine a7 (fun _=>?_) (fun hb=>by cases hb)
  refine Lc (by omega) ?_
  obtain ⟨m,hm⟩:∃ m:Nat,-n=(m:Int):=⟨(-n).toNat,by omega⟩
  rw [hm] at h ⊢
  rw [Int.toNat_natCast,Option.map_eq_some_iff] at h
  obtain ⟨l,hl,rfl⟩:=h
  have:=DU _ _ _ _ hl
  refine Run.callPure uU vR hI (ro hl (by omega) (by omega)) fun w' hI=>?_
  refine dP (a:=[45]) (by simp only [List.length_nil,List.length_cons] at this ⊢; omega) ?_
  exact done hI rfl
 ·rename_i h0
  refine eU h0 ?_
  refine a7 (fun hb=>by cases hb) (fun _=>?_)
  obtain ⟨m,rfl⟩:∃ m:Nat,n=(m:Int):=⟨n.toNat,by omega⟩
  rw [Int.toNat_natCast] at h
  refine Run.callPure uU vR hI (ro h (by omega) (by omega)) fun w' hI=>?_
  exact done hI rfl
theorem Dc {t:T} {cs:List Value} {x:Bs} (h:RdT S cs t) (hp:zj t=false) (hx:Kg t=some x):Pure Tryz.prog GK [.agg cs.toArray] S (.string (st x)):=by
 intro w hI
 have h0:=h
 obtain ⟨kv,rfl,_,_,_,hk⟩:=RdT.iff.1 h
 obtain ⟨ka,kc,rfl,_⟩:=id hk
 refine yg ?_
 unfold vS
 unfold Kg at hx
 refine bN hI fun b1 w' hI=>?_
 refine ar hI 0 rfl bv bg rfl ?_
 split at hx
 ·rename_i h1
  refine fZ h1 ?_
  refine a7 (fun _=>?_) (fun hb=>by cases hb)
  refine ar hI 0 rfl bn bg rfl ?_
  split at hx
  ·rename_i h2
   refine Run.callPure Al zN hI (yv h2) fun w' hI=>?_
   simp only [Option.some.injEq] at hx
   exact done hI (by rw [<- hx])
  ·cases hx
 ·rename_i h1
  refine eK h1 ?_
  refine a7 (fun hb=>by cases hb) (fun _=>?_)
  split at hx
  ·rename_i h2
   refine fZ h2 ?_
   refine a7 (fun _=>?_) (fun hb=>by cases hb)
   refine ar hI 0 rfl bn bg rfl ?_
   split at hx
   ·rename_i h3
    refine Run.callPure Hy Fx hI (Do hx h3) fun w' hI=>?_
    exact done hI rfl
   ·cases hx
  ·rename_i h2
   refine eK h2 ?_
   refine a7 (fun hb=>by cases hb) (fun _=>?_)
   split at hx
   ·rename_i h3
    simp only [Option.some.injEq] at hx
    refine aO hI 0 ag rfl rfl ?_
    refine Run.callPure np nL hI (jS h0) fun w' hI=>?_
    rw [hp]
    refine a7 (fun hb=>by cases hb) (fun _=>?_)
    refine ar hI 0 rfl bH bz rfl ?_
    refine ⟨fun a b w'=>a=.int .i64 0/\b=.string t.name/\Inv w [] [.blk b1 (.cells #[.int .i64 t.kind,.int .i64 t.n,.string t.name,.slice ka t.kids.length kc] ab)] S w',fun _ _ _=>0,⟨rfl,rfl,hI⟩,?_⟩
    intro t4 _ _ _ _ _ _ _ _ _ _ _ _ t3 _ _ _ _ _ _ _ _ _ w'
    rintro ⟨rfl,rfl,hI⟩
    refine ar hI 0 rfl aP aL rfl ?_
    refine iE aG ?_
    refine eU (by omega) ?_
    refine a7 (fun hb=>by cases hb) (fun _=>?_)
    refine ⟨fun b w'=>b=.string t.name/\Inv w [] [.blk b1 (.cells #[.int .i64 t.kind,.int .i64 t.n,.string t.name,.slice ka t.kids.length kc] ab)] S w',?_,?_⟩
    ·refine ar hI 0 rfl aP aL rfl ?_
     refine iE aG ?_
     refine jH (by omega) ?_
     refine a7 (fun hb=>by cases hb) (fun _=>?_)
     exact ⟨rfl,hI⟩
    intro t3 _ _ _ _ _ _ w'
    rintro ⟨rfl,hI⟩
    exact done hI (by rw [<- hx])
   ·cases hx
end
/- lengths -/
theorem A0:∀ (f:Nat) (l:List T) (out x:Bs),mv f l out=some x->out.length<=x.length
 | 0,_,_,_,h=>by simp [mv] at h
 | _+1,[],out,x,h=>by simp [mv] at h; subst h; exact Nat.le_refl _
 | f+1,t::l,out,x,h=>by
  rw [mv] at h
  split at h
  ·cases h
  ·have:=A0 f _ _ _ h
   simp only [List.length_append] at this
   omega
def lenOf:Value->Nat
 | .slice _ n _=>n
 | _=>0
def vl (f:Nat):Prop:=∀ (t:T) (x:Bs) (S:ay) (cs:List Value),B6 f t=some x->x.length<=1000000->RdT S cs t->Pure Tryz.prog F5 [.agg cs.toArray] S (.string (st x))
def GD (f:Nat):Prop:=∀ (t:T) (x:Bs) (S:ay) (cs:List Value),Bk f t []=some x->x.length<=1000000->RdT S cs t->Pure Tryz.prog Gg [.agg cs.toArray] S (.string (st x))
def Cq (f:Nat):Prop:=∀ (ts:List T) (x:Bs) (S:ay) (u:Value),mv f ts []=some x->x.length<=1000000->RdSl S 4 (RdT S) u ts->Pure Tryz.prog FJ [u] S (.string (st x))
def oK (f:Nat):Prop:=∀ (t:T) (l:Int) (x:Bs) (S:ay) (cs:List Value),mX f t l=some x->x.length<=1000000->RdT S cs t->Pure Tryz.prog Av [.agg cs.toArray,.int .i64 l] S (.string (st x))
def GM (f:Nat):Prop:=∀ (t:T) (l:Int) (x:Bs) (S:ay) (cs:List Value),HV f t l=some x->x.length<=1000000->RdT S cs t->Pure Tryz.prog FM [.agg cs.toArray,.int .i64 l] S (.string (st x))
def Cs (f:Nat):Prop:=∀ (t:T) (l:Int) (x:Bs) (S:ay) (cs:List Value),BS f t l=some x->x.length<=1000000->RdT S cs t->Pure Tryz.prog EL [.agg cs.toArray,.int .i64 l] S (.string (st x))
section
attribute [local irreducible] Run CondV ai a4
theorem KY {f:Nat} (ih:∀ g,g<f->vl g):Cq f:=by
 intro ts x S u h hx hu w hI
 refine zo ?_
 unfold vY
 refine ⟨fun a b w'=>∃ (f' j:Nat) (out acc:Bs),f'<=f/\j<=ts.length/\a=.int .i64 (j:Int)/\b=.string (st out)/\acc=out++(if 0<j/\j<ts.length then [44] else [])/\mv f' (ts.drop j) acc=some x/\Inv w [] [] S w',
  fun a _ _=>ts.length - (intOf a).toNat,⟨f,0,[],[],Nat.le_refl _,Nat.zero_le _,rfl,rfl,by simp,h,hI⟩,?_⟩
 intro t4 _ _ _ _ _ _ _ _ _ t3 _ _ _ _ _ _ _ _ w'
 rintro ⟨f',j,out,acc,hf',hj,rfl,rfl,hacc,ha,hI⟩
 cases f' with
 | zero=>simp [mv] at ha
 | succ g=>
 refine bm hu aG ?_
 refine cF ?_
 refine bF (fun hji=>?_) (fun hji=>?_)
 ·have hj':j<ts.length:=by omega
  rw [List.drop_eq_getElem_cons hj',mv] at ha
  split at ha
  ·cases ha
  rename_i y hy
  have hlen:=A0 _ _ _ _ ha
  simp only [List.length_append] at hlen
  refine ⟨fun b w'=>b=.string (st acc)/\Inv w [] [] S w',?_,?_⟩
  ·refine ff ?_
   refine bF (fun h0=>?_) (fun h0=>?_)
   ·rw [if_pos (by omega)] at hacc
    refine dP (b:=[44]) (by rw [hacc,List.length_append] at hlen; simp only [List.length_cons,List.length_nil] at hlen ⊢; omega) ?_
    exact ⟨by rw [hacc],hI⟩
   ·rw [if_neg (by omega),List.append_nil] at hacc
    exact ⟨by rw [hacc],hI⟩
  intro t3 _ _ _ _ w'
  rintro ⟨rfl,hI⟩
  refine dN hI hu aG ag hj' (fun _ _=>RdT.length) fun cs hcs=>?_
  refine Run.callPure gl gf hI (ih g (by omega) _ y S cs hy (by omega) hcs) fun w' hI=>?_
  refine dP (by omega) ?_
  refine bR (by have:=hu.le; simp only [maxLen] at this; omega) ?_
  refine ⟨⟨g,j+1,acc++y,_,by omega,hj',rfl,rfl,rfl,?_,hI⟩,by simp only [intOf,Int.toNat_natCast]; omega⟩
  have e:(if ts.drop (j+1)=[] then [] else [44]:Bs)=if 0<j+1/\j+1<ts.length then [44] else []:=by
   by_cases h1:j+1<ts.length
   ·rw [if_neg (fun h2=>by rw [List.drop_eq_nil_iff] at h2; omega),if_pos (by omega)]
   ·rw [if_pos (List.drop_eq_nil_of_le (by omega)),if_neg (by omega)]
  rw [<- e]
  exact ha
 ·have:j=ts.length:=by omega
  subst this
  rw [List.drop_length,mv] at ha
  simp only [Option.some.injEq] at ha
  rw [if_neg (by omega),List.append_nil] at hacc
  exact done hI (by rw [<- ha,hacc])
theorem Hj {f:Nat} (ih:∀ g,g<f->vl g):oK f:=by
 intro t l x S cs h hx hc w hI
 cases f with
 | zero=>simp [mX] at h
 | succ g=>
 rw [mX] at h
 split at h
 ·cases h
 rename_i y hy
 simp only [Option.some.injEq] at h
 have h0:=hc
 obtain ⟨kv,rfl,_,_,_,hk⟩:=RdT.iff.1 hc
 obtain ⟨ka,kc,rfl,_⟩:=id hk
 have hyx:y.length<=1000000/\y.length+2<=9000000:=by
  have:y.length<=x.length:=by
   rw [<- h]; split
   ·simp; omega
   ·omega
  omega
 refine rY ?_
 unfold nj
 refine bN hI fun b1 w' hI=>?_
 refine ⟨fun b w'=>b=.bool (lH t && decide (l<cV t.name))/\Inv w [] [.blk b1 (.cells #[.int .i64 t.kind,.int .i64 t.n,.string t.name,.slice ka t.kids.length kc] ab)] S w',?_,?_⟩
 ·refine aO hI 0 ag rfl rfl ?_
  refine Run.callPure sU sT hI (ml h0) fun w' hI=>?_
  cases hf:lH t
  ·repeat (first|refine ae ?_|refine ah (by decide) ?_|refine ad ?_|refine al ?_|refine aj ?_)
   exact ⟨by rw [Bool.false_and],hI⟩
  ·repeat (first|refine ae ?_|refine ah (by decide) ?_|refine ad ?_|refine al ?_|refine aj ?_)
   refine ar hI 0 rfl bH bz rfl ?_
   refine Run.callPure fG fK hI (ek _ S) fun w' hI=>?_
   refine ff ?_
   repeat (first|refine ae ?_|refine ah (by decide) ?_|refine ad ?_|refine al ?_|refine aj ?_)
   exact ⟨by rw [Bool.true_and],hI⟩
 intro t13 _ _ _ _ _ _ _ _ w'
 rintro ⟨rfl,hI⟩
 refine a7 (fun hb=>?_) (fun hb=>?_)
 ·rw [Bool.and_eq_true,decide_eq_true_eq] at hb
  rw [if_pos hb] at h
  refine aO hI 0 ag rfl rfl ?_
  refine Run.callPure gl gf hI (ih g (by omega) t y S _ hy hyx.1 h0) fun w' hI=>?_
  refine dP (a:=[40]) (by simp only [List.length_cons,List.length_nil]; omega) ?_
  refine dP (b:=[41]) (by simp only [List.length_append,List.length_cons,List.length_nil]; omega) ?_
  exact done hI (by rw [<- h])
 ·rw [if_neg (fun hh=>by rw [Bool.and_eq_false_iff,decide_eq_false_iff_not] at hb; rcases hb with hb|hb; rw [hh.1] at hb; cases hb; exact hb hh.2)] at h
  refine aO hI 0 ag rfl rfl ?_
  refine Run.callPure gl gf hI (ih g (by omega) t y S _ hy hyx.1 h0) fun w' hI=>?_
  exact done hI (by rw [<- h])
theorem KJ {f:Nat} (ih:∀ g,g<f->vl g) (ihB:∀ g,g<f->oK g):GM f:=by
 intro t l x S cs h hx hc w hI
 cases f with
 | zero=>simp [HV] at h
 | succ g=>
 rw [HV] at h
 have h0:=hc
 obtain ⟨kv,rfl,_,_,_,hk⟩:=RdT.iff.1 hc
 obtain ⟨ka,kc,rfl,_⟩:=id hk
 refine xy ?_
 unfold vg
 refine bN hI fun b1 w' hI=>?_
 refine aO hI 0 ag rfl rfl ?_
 refine Run.callPure vi vk hI (ou h0) fun w' hI=>?_
 split at h
 ·rename_i hs
  split at h
  ·cases h
  rename_i y hy
  simp only [Option.some.injEq] at h
  have hyx:y.length+2=x.length:=by rw [<- h]; simp only [List.length_append,List.length_cons,List.length_nil]; omega
  rw [hs]
  refine a7 (fun _=>?_) (fun hb=>by cases hb)
  refine aO hI 0 ag rfl rfl ?_
  refine Run.callPure gl gf hI (ih g (by omega) t y S _ hy (by omega) h0) fun w' hI=>?_
  refine dP (a:=[40]) (by simp only [List.length_cons,List.length_nil]; omega) ?_
  refine dP (b:=[41]) (by simp only [List.length_append,List.length_cons,List.length_nil]; omega) ?_
  exact done hI (by rw [<- h])
 ·rename_i hs
  rw [Bool.eq_false_iff.2 hs]
  refine a7 (fun hb=>by cases hb) (fun _=>?_)
  refine aO hI 0 ag rfl rfl ?_
  refine Run.callPure nD ny hI (ihB g (by omega) t l x S _ h hx h0) fun w' hI=>?_
  exact done hI rfl
theorem JU {f:Nat} (ihB:∀ g,g<f->oK g):Cs f:=by
 intro t l x S cs h hx hc w hI
 cases f with
 | zero=>simp [BS] at h
 | succ g=>
 rw [BS] at h
 split at h
 ·cases h
 rename_i y hy
 split at h
 ·cases h
 rename_i hne
 simp only [Option.some.injEq] at h
 have hy0:0<y.length:=by
  cases y with
  | nil=>exact absurd rfl hne
  | cons a l=>simp
 have hyx:y.length<=1000000:=by
  have:y.length<=x.length:=by
   rw [<- h]; split
   ·simp; omega
   ·omega
  omega
 have h0:=hc
 obtain ⟨kv,rfl,_,_,_,hk⟩:=RdT.iff.1 hc
 obtain ⟨ka,kc,rfl,_⟩:=id hk
 refine wz ?_
 unfold rE
 refine bN hI fun b1 w' hI=>?_
 refine aO hI 0 ag rfl rfl ?_
 refine Run.callPure nD ny hI (ihB g (by omega) t l y S _ hy hyx h0) fun w' hI=>?_
 refine ⟨fun b w'=>b=.bool (u5 t || !CC y)/\Inv w [] [.blk b1 (.cells #[.int .i64 t.kind,.int .i64 t.n,.string t.name,.slice ka t.kids.length kc] ab)] S w',?_,?_⟩
 ·refine aO hI 0 ag rfl rfl ?_
  refine Run.callPure vi vk hI (ou h0) fun w' hI=>?_
  cases hs:u5 t
  ·repeat (first|refine ae ?_|refine ah (by decide) ?_|refine ad ?_|refine al ?_|refine aj ?_)
   refine Run.callPure BM Cv hI (Az y hy0) fun w' hI=>?_
   refine cN ?_
   repeat (first|refine ae ?_|refine ah (by decide) ?_|refine ad ?_|refine al ?_|refine aj ?_)
   exact ⟨by rw [Bool.false_or],hI⟩
  ·repeat (first|refine ae ?_|refine ah (by decide) ?_|refine ad ?_|refine al ?_|refine aj ?_)
   exact ⟨by rw [Bool.true_or],hI⟩
 intro t15 _ _ _ _ _ _ w'
 rintro ⟨rfl,hI⟩
 refine a7 (fun hb=>?_) (fun hb=>?_)
 ·rw [Bool.or_eq_true,Bool.not_eq_true'] at hb
  rw [if_pos hb] at h
  refine dP (a:=[40]) (by simp only [List.length_cons,List.length_nil]; omega) ?_
  refine dP (b:=[41]) (by simp only [List.length_append,List.length_cons,List.length_nil]; omega) ?_
  exact done hI (by rw [<- h])
 ·rw [if_neg (fun hh=>by rw [<- Bool.not_eq_true',<- Bool.or_eq_true,hb] at hh; cases hh)] at h
  exact done hI (by rw [<- h])
theorem KT {f:Nat} (hf:f<=100000) (ih:∀ g,g<f->vl g) (ihA:∀ g,g<f->Cq g):GD f:=by
 intro t x S cs h hx hc w hI
 obtain ⟨kv,rfl,_,_,_,hk⟩:=RdT.iff.1 hc
 refine xA ?_
 unfold v4
 refine bN hI fun b1 w' hI=>?_
 refine gN hI bC fun v0 w' hI=>?_
 refine ⟨fun a w'=>∃ (f':Nat) (t':T) (items:List T) (ds:List Value) (css:List (List Value)),f'+items.length=f/\Bk f' t' items=some x/\RdT S ds t'/\Rows 4 (RdT S) css items/\(∃ p m,a=.slice p items.length m)/\Inv w [] [.blk b1 (.cells ds.toArray ab),a5 a ab 4 css] S w',
  fun a _=>f+1 - lenOf a,⟨f,t,[],_,[],by simp,h,hc,Rows.nil _ _,?_,hI⟩,?_⟩
 ·have hI2:Inv w [] ([Item.blk b1 (.cells #[.int .i64 t.kind,.int .i64 t.n,.string t.name,kv] ab)]++[a5 v0 ab 4 []]) S w':=hI
  obtain ⟨S1,_,hrd,_⟩:=Inv.lendExt hI2
  obtain ⟨p,m,e,_⟩:=RowRd.rows (Rows.nil 4 (RdT S)) hrd
  exact ⟨p,m,e⟩
 clear h hc hk hI
 intro _ _ _ _ t3 _ _ _ _ _ _ _ _ _ w'
 rintro ⟨f',t',items,ds,css,hfl,hl,hd,hR,⟨p,m,rfl⟩,hI⟩
 have hd0:=hd
 obtain ⟨kd,rfl,_,_,_,hk⟩:=RdT.iff.1 hd
 have hcl:=hR.hc
 cases f' with
 | zero=>simp [Bk] at hl
 | succ g=>
 rw [Bk] at hl
 refine aO hI 0 ag rfl rfl ?_
 refine Run.callPure np nL hI (jS hd0) fun w' hI=>?_
 split at hl
 ·rename_i hp
  split at hl
  ·rename_i a b hab
   rw [hp]
   refine a7 (fun _=>?_) (fun hb=>by cases hb)
   rw [hab] at hk
   refine ar hI 0 rfl aP aL rfl ?_
   refine dN (i:=0) hI hk aG ag (by simp) (fun _ _=>RdT.length) fun es hes=>?_
   rw [List.getElem_cons_zero] at hes
   refine eL (css:=css) hI 1 es bC (by omega) (by omega) rfl hes.length hes.one (by omega) (by omega) fun v' w' hI=>?_
   refine ar hI 0 rfl aP aL rfl ?_
   refine dN (i:=1) hI hk aG ag (by simp) (fun _ _=>RdT.length) fun gs hgs=>?_
   rw [List.getElem_cons_succ,List.getElem_cons_zero] at hgs
   have hg1:=hgs.length
   refine aM hI 0 rfl ag (by simpa using hg1) rfl (by simpa using hgs.one) fun w' hI=>?_
   have hR2:=hR.snoc hes hes.length
   have hI2:Inv w [] ([Item.blk b1 (.cells gs.toArray ab)]++[a5 v' ab 4 (css++[es])]) S w':=hI
   obtain ⟨S1,hE1,hrd,_⟩:=Inv.lendExt hI2
   obtain ⟨p',m',e',_⟩:=RowRd.rows hR2 hrd
   refine ⟨⟨g,b,items++[a],gs,css++[es],by rw [List.length_append]; simp only [List.length_cons,List.length_nil]; omega,hl,hgs,hR2,⟨p',m',e'⟩,hI⟩,?_⟩
   rw [e']
   simp only [lenOf,List.length_append,List.length_cons,List.length_nil]
   omega
  ·cases hl
 ·rename_i hp
  rw [Bool.eq_false_iff.2 hp]
  refine a7 (fun hb=>by cases hb) (fun _=>?_)
  split at hl
  ·cases hl
  rename_i y hy
  refine aO hI 0 ag rfl rfl ?_
  refine Run.callPure Gm HI hI (zL hd0) fun w' hI=>?_
  have hI2:Inv w [] ([Item.blk b1 (.cells #[.int .i64 t'.kind,.int .i64 t'.n,.string t'.name,kd] ab)]++[a5 (.slice p items.length m) ab 4 css]) S w':=hI
  obtain ⟨S1,hE1,hrd,hI⟩:=Inv.lendExt hI2
  have hrs:=RowRd.rows (hR.monoR fun _ _ h=>RdT.mono hE1.1 h) hrd
  have hd1:=RdT.mono hE1.1 hd0
  split at hl
  ·rename_i hn
   simp only [Option.some.injEq] at hl
   have hyx:y.length+2=x.length:=by rw [<- hl]; simp only [List.length_append,List.length_cons,List.length_nil]; omega
   rw [hn]
   refine a7 (fun _=>?_) (fun hb=>by cases hb)
   refine Run.callPure oz oa hI (ihA g (by omega) items y S1 _ hy (by omega) hrs) fun w' hI=>?_
   refine dP (a:=[91]) (by simp only [List.length_cons,List.length_nil]; omega) ?_
   refine dP (b:=[93]) (by simp only [List.length_append,List.length_cons,List.length_nil]; omega) ?_
   exact ph hI hE1.1 (by rw [<- hl])
  ·rename_i hn
   split at hl
   ·cases hl
   rename_i z hz
   simp only [Option.some.injEq] at hl
   have hyx:y.length+z.length+3=x.length:=by rw [<- hl]; simp only [List.length_append,List.length_cons,List.length_nil]; omega
   rw [Bool.eq_false_iff.2 hn]
   refine a7 (fun hb=>by cases hb) (fun _=>?_)
   refine ⟨fun D x2 fc dx c4 db c7 cB bV cJ w_=>(D 0=true->cJ=.slice p items.length m)/\(D 1=true->bV=.string (st y))/\(D 2=true->cB=.string (st ([91]++y)))/\(D 3=true->c7=.string (st ([91]++y++[124])))/\(D 4=true->db=.agg #[.int .i64 t'.kind,.int .i64 t'.n,.string t'.name,kd])/\(D 5=true->c4=.string (st z))/\(D 6=true->dx=.string (st ([91]++y++[124]++z)))/\(D 7=true->fc=.string (st ([91]++y++[124]++z++[93])))/\(D 8=true->x2=.string (st ([91]++y++[124]++z++[93])))/\Inv w [] [.blk b1 (.cells #[.int .i64 t'.kind,.int .i64 t'.n,.string t'.name,kd] ab)] S1 w_,⟨af,af,af,af,af,af,af,af,af,hI.draw⟩,⟨?_,?_,?_,?_,?_,?_,?_,?_,?_,trivial⟩,?_⟩
   ·intro D aS  x2 fc dx c4 db c7 cB bV cJ w_
    rintro ⟨aA,az,aB,ax,aD,aC,aw,aJ,aN,hI⟩
    exact ⟨fun _=>rfl,az,aB,ax,aD,aC,aw,aJ,aN,hI⟩
   ·intro D aS cA x2 fc dx c4 db c7 cB bV cJ w_
    rintro ⟨aA,az,aB,ax,aD,aC,aw,aJ,aN,hI⟩
    obtain rfl:=aA cA
    refine Run.callPure oz oa hI (ihA g (by omega) items y S1 _ hy (by omega) hrs) fun w_ hI=>?_
    exact ⟨aA,fun _=>rfl,aB,ax,aD,aC,aw,aJ,aN,hI⟩
   ·intro D aS dB x2 fc dx c4 db c7 cB bV cJ w_
    rintro ⟨aA,az,aB,ax,aD,aC,aw,aJ,aN,hI⟩
    obtain rfl:=az dB
    refine dP (a:=[91]) (by simp only [List.length_cons,List.length_nil]; omega) ?_
    exact ⟨aA,az,fun _=>rfl,ax,aD,aC,aw,aJ,aN,hI⟩
   ·intro D aS cM x2 fc dx c4 db c7 cB bV cJ w_
    rintro ⟨aA,az,aB,ax,aD,aC,aw,aJ,aN,hI⟩
    obtain rfl:=aB cM
    refine dP (b:=[124]) (by simp only [List.length_append,List.length_cons,List.length_nil]; omega) ?_
    exact ⟨aA,az,aB,fun _=>rfl,aD,aC,aw,aJ,aN,hI⟩
   ·intro D aS  x2 fc dx c4 db c7 cB bV cJ w_
    rintro ⟨aA,az,aB,ax,aD,aC,aw,aJ,aN,hI⟩
    refine aO hI 0 ag rfl rfl ?_
    exact ⟨aA,az,aB,ax,fun _=>rfl,aC,aw,aJ,aN,hI⟩
   ·intro D aS fO iz x2 fc dx c4 db c7 cB bV cJ w_
    rintro ⟨aA,az,aB,ax,aD,aC,aw,aJ,aN,hI⟩
    obtain rfl:=aD fO
    refine Run.callPure gl gf hI (ih g (by omega) t' z S1 _ hz (by omega) hd1) fun w_ hI=>?_
    exact ⟨aA,az,aB,ax,aD,fun _=>rfl,aw,aJ,aN,hI⟩
   ·intro D aS dh eF x2 fc dx c4 db c7 cB bV cJ w_
    rintro ⟨aA,az,aB,ax,aD,aC,aw,aJ,aN,hI⟩
    obtain rfl:=ax dh
    obtain rfl:=aC eF
    refine dP (by simp only [List.length_append,List.length_cons,List.length_nil]; omega) ?_
    exact ⟨aA,az,aB,ax,aD,aC,fun _=>rfl,aJ,aN,hI⟩
   ·intro D aS bW x2 fc dx c4 db c7 cB bV cJ w_
    rintro ⟨aA,az,aB,ax,aD,aC,aw,aJ,aN,hI⟩
    obtain rfl:=aw bW
    refine dP (b:=[93]) (by simp only [List.length_append,List.length_cons,List.length_nil]; omega) ?_
    exact ⟨aA,az,aB,ax,aD,aC,aw,fun _=>rfl,aN,hI⟩
   ·intro D aS eo eF kS mL kN qx oV th ug Hw x2 fc dx c4 db c7 cB bV cJ w_
    rintro ⟨aA,az,aB,ax,aD,aC,aw,aJ,aN,hI⟩
    obtain rfl:=aJ eo
    exact ⟨aA,az,aB,ax,aD,aC,aw,aJ,fun _=>rfl,hI⟩
   intro D g7 gc fj ft fL fX fM fP fY x2 fc dx c4 db c7 cB bV cJ w_
   rintro ⟨aA,az,aB,ax,aD,aC,aw,aJ,aN,hI⟩
   obtain rfl:=aN g7
   obtain rfl:=aJ gc
   obtain rfl:=aw fj
   obtain rfl:=aC ft
   obtain rfl:=aD fL
   obtain rfl:=ax fX
   obtain rfl:=aB fM
   obtain rfl:=az fP
   obtain rfl:=aA fY
   clear aA az aB ax aD aC aw aJ aN
   exact ph hI hE1.1 (by rw [<- hl])
theorem LH {f:Nat} (ihL:∀ g,g<f->GD g) (ihA:∀ g,g<f->Cq g) (ihF:∀ g,g<f->GM g) (ihR:∀ g,g<f->Cs g):vl f:=by
 intro t x S cs h hx hc w hI
 cases f with
 | zero=>simp [B6] at h
 | succ g=>
 rw [B6] at h
 have h0:=hc
 obtain ⟨kv,rfl,_,_,_,hk⟩:=RdT.iff.1 hc
 refine yO ?_
 unfold vJ
 refine bN hI fun b1 w' hI=>?_
 obtain ⟨B1,hB1⟩:∃ B1,B1=Item.blk b1 (.cells #[.int .i64 t.kind,.int .i64 t.n,.string t.name,kv] ab):=⟨_,rfl⟩
 refine aO hI 0 ag rfl rfl ?_
 refine Run.callPure np nL hI (jS h0) fun w' hI=>?_
 split at h
 ·rename_i hp
  rw [hp]
  refine a7 (fun _=>?_) (fun hb=>by cases hb)
  refine aO hI 0 ag rfl rfl ?_
  refine Run.callPure EM Fm hI (ihL g (by omega) t x S _ h hx h0) fun w' hI=>?_
  exact done hI rfl
 rename_i hp
 have hp:=Bool.eq_false_iff.2 hp
 rw [hp]
 refine a7 (fun hb=>by cases hb) (fun _=>?_)
 refine aO hI 0 ag rfl rfl ?_
 refine Run.callPure sU sT hI (ml h0) fun w' hI=>?_
 split at h
 ·rename_i hf
  rw [hf]
  refine a7 (fun _=>?_) (fun hb=>by cases hb)
  split at h
  ·rename_i a b hab
   obtain ⟨lv,hlv⟩:∃ lv,lv=cV t.name:=⟨_,rfl⟩
   rw [<- hlv] at h
   have hlr:1<=lv/\lv<=3:=by
    have h1:0<cV t.name:=by
     unfold lH at hf
     simp only [Bool.and_eq_true,decide_eq_true_eq] at hf
     exact hf.2.2
    have h2:cV t.name<=3:=by
     unfold cV
     split
     ·omega
     ·split
      ·omega
      ·split <;> omega
    omega
   split at h
   ·rename_i y z hy hz
    simp only [Option.some.injEq] at h
    have hlen:y.length+(io (bs t.name)).length+z.length=x.length:=by rw [<- h]; simp only [List.length_append]
    have hsp:(bs t.name).length<=(io (bs t.name)).length:=by
     unfold io
     split
     ·simp; omega
     ·omega
    rw [hab] at hk
    obtain ⟨b2,o2,cap2,c2,E2,fz2,rfl,hS,hRa⟩:=hk.at_ (i:=0) (by simp)
    obtain ⟨b2',o2',cap2',c2',E2',fz2',hsl,hS',hRb⟩:=hk.at_ (i:=1) (by simp)
    cases hsl
    rw [hS] at hS'
    cases hS'
    rw [List.getElem_cons_zero] at hRa
    rw [List.getElem_cons_succ,List.getElem_cons_zero] at hRb
    refine ar hI 0 rfl bH bz rfl ?_
    refine Run.callPure fG fK hI (ek _ S) fun w' hI=>?_
    rw [<- hlv]
    have hI:Inv w [] [B1] S w':=by rw [hB1]; exact hI
    refine ⟨fun v w'=>v=.int .i64 (if lv=3 then 2 else lv)/\Inv w [] [B1] S w',?_,?_⟩
    ·refine bO ?_
     refine bF (fun h3=>⟨by rw [if_pos h3],hI⟩) (fun h3=>⟨by rw [if_neg h3],hI⟩)
    intro t4 _ _ w'
    rintro ⟨rfl,hI⟩
    subst hB1
    skip
    refine ⟨fun D x2 gj gp gW jj g8 fc dx c4 db c7 cB bV cJ dz dg df cC cz w_=>(D 0=true->cz=.pointer (some ⟨b1,3,none⟩))/\(D 1=true->cC=.slice (some ⟨b2,o2,none⟩) [a,b].length cap2)/\(D 2=true->df=.pointer (some ⟨b2,o2+0 * 4,none⟩))/\(D 3=true->dg=.agg (bJ c2 (o2+0 * 4) 4).toArray)/\(D 4=true->dz=.int .i64 (if lv=3 then 2 else lv))/\(D 5=true->cJ=.string (st y))/\(D 6=true->bV=.pointer (some ⟨b1,2,none⟩))/\(D 7=true->cB=.string t.name)/\(D 8=true->c7=.string (st (io (bs t.name))))/\(D 9=true->db=.string (st (y++io (bs t.name))))/\(D 10=true->c4=.pointer (some ⟨b1,3,none⟩))/\(D 11=true->dx=.slice (some ⟨b2,o2,none⟩) [a,b].length cap2)/\(D 12=true->fc=.pointer (some ⟨b2,o2+1 * 4,none⟩))/\(D 13=true->g8=.agg (bJ c2 (o2+1 * 4) 4).toArray)/\(D 14=true->jj=.int .i64 lv)/\(D 15=true->gW=.int .i64 (lv - 1))/\(D 16=true->gp=.string (st z))/\(D 17=true->gj=.string (st (y++io (bs t.name)++z)))/\(D 18=true->x2=.string (st (y++io (bs t.name)++z)))/\Inv w [] [.blk b1 (.cells #[.int .i64 t.kind,.int .i64 t.n,.string t.name,.slice (some ⟨b2,o2,none⟩) [a,b].length cap2] ab)] S w_,⟨af,af,af,af,af,af,af,af,af,af,af,af,af,af,af,af,af,af,af,hI.draw⟩,⟨?_,?_,?_,?_,?_,?_,?_,?_,?_,?_,?_,?_,?_,?_,?_,?_,?_,?_,?_,trivial⟩,?_⟩
    ·intro D aS  x2 gj gp gW jj g8 fc dx c4 db c7 cB bV cJ dz dg df cC cz w_
     rintro ⟨aA,az,aB,ax,aD,aC,aw,aJ,aN,aR,aq,au,aH,aU,aX,aW,aY,aV,aZ,hI⟩
     refine bj aP ?_
     exact ⟨fun _=>rfl,az,aB,ax,aD,aC,aw,aJ,aN,aR,aq,au,aH,aU,aX,aW,aY,aV,aZ,hI⟩
    ·intro D aS cA x2 gj gp gW jj g8 fc dx c4 db c7 cB bV cJ dz dg df cC cz w_
     rintro ⟨aA,az,aB,ax,aD,aC,aw,aJ,aN,aR,aq,au,aH,aU,aX,aW,aY,aV,aZ,hI⟩
     obtain rfl:=aA cA
     refine bB hI 0 aL rfl rfl ?_
     exact ⟨aA,fun _=>rfl,aB,ax,aD,aC,aw,aJ,aN,aR,aq,au,aH,aU,aX,aW,aY,aV,aZ,hI⟩
    ·intro D aS dB x2 gj gp gW jj g8 fc dx c4 db c7 cB bV cJ dz dg df cC cz w_
     rintro ⟨aA,az,aB,ax,aD,aC,aw,aJ,aN,aR,aq,au,aH,aU,aX,aW,aY,aV,aZ,hI⟩
     obtain rfl:=az dB
     refine bq (i:=0) aG (by simp) ?_
     exact ⟨aA,az,fun _=>rfl,ax,aD,aC,aw,aJ,aN,aR,aq,au,aH,aU,aX,aW,aY,aV,aZ,hI⟩
    ·intro D aS cM x2 gj gp gW jj g8 fc dx c4 db c7 cB bV cJ dz dg df cC cz w_
     rintro ⟨aA,az,aB,ax,aD,aC,aw,aJ,aN,aR,aq,au,aH,aU,aX,aW,aY,aV,aZ,hI⟩
     obtain rfl:=aB cM
     refine dF ag hRa.length (fun j v hj=>by rw [hI.cellS hS]; exact bx rfl j v hj) ?_
     exact ⟨aA,az,aB,fun _=>rfl,aD,aC,aw,aJ,aN,aR,aq,au,aH,aU,aX,aW,aY,aV,aZ,hI⟩
    ·intro D aS  x2 gj gp gW jj g8 fc dx c4 db c7 cB bV cJ dz dg df cC cz w_
     rintro ⟨aA,az,aB,ax,aD,aC,aw,aJ,aN,aR,aq,au,aH,aU,aX,aW,aY,aV,aZ,hI⟩
     exact ⟨aA,az,aB,ax,fun _=>rfl,aC,aw,aJ,aN,aR,aq,au,aH,aU,aX,aW,aY,aV,aZ,hI⟩
    ·intro D aS dh eD x2 gj gp gW jj g8 fc dx c4 db c7 cB bV cJ dz dg df cC cz w_
     rintro ⟨aA,az,aB,ax,aD,aC,aw,aJ,aN,aR,aq,au,aH,aU,aX,aW,aY,aV,aZ,hI⟩
     obtain rfl:=ax dh
     obtain rfl:=aD eD
     refine Run.callPure D5 E8 hI (ihF g (by omega) a _ y S _ hy (by omega) hRa) fun w_ hI=>?_
     exact ⟨aA,az,aB,ax,aD,fun _=>rfl,aw,aJ,aN,aR,aq,au,aH,aU,aX,aW,aY,aV,aZ,hI⟩
    ·intro D aS  x2 gj gp gW jj g8 fc dx c4 db c7 cB bV cJ dz dg df cC cz w_
     rintro ⟨aA,az,aB,ax,aD,aC,aw,aJ,aN,aR,aq,au,aH,aU,aX,aW,aY,aV,aZ,hI⟩
     refine bj bH ?_
     exact ⟨aA,az,aB,ax,aD,aC,fun _=>rfl,aJ,aN,aR,aq,au,aH,aU,aX,aW,aY,aV,aZ,hI⟩
    ·intro D aS bW x2 gj gp gW jj g8 fc dx c4 db c7 cB bV cJ dz dg df cC cz w_
     rintro ⟨aA,az,aB,ax,aD,aC,aw,aJ,aN,aR,aq,au,aH,aU,aX,aW,aY,aV,aZ,hI⟩
     obtain rfl:=aw bW
     refine bB hI 0 bz rfl rfl ?_
     exact ⟨aA,az,aB,ax,aD,aC,aw,fun _=>rfl,aN,aR,aq,au,aH,aU,aX,aW,aY,aV,aZ,hI⟩
    ·intro D aS eo eF x2 gj gp gW jj g8 fc dx c4 db c7 cB bV cJ dz dg df cC cz w_
     rintro ⟨aA,az,aB,ax,aD,aC,aw,aJ,aN,aR,aq,au,aH,aU,aX,aW,aY,aV,aZ,hI⟩
     obtain rfl:=aJ eo
     refine Run.callPure Aj Aw hI (yJ (bs t.name) (by omega)) fun w_ hI=>?_
     exact ⟨aA,az,aB,ax,aD,aC,aw,aJ,fun _=>rfl,aR,aq,au,aH,aU,aX,aW,aY,aV,aZ,hI⟩
    ·intro D aS dT fT x2 gj gp gW jj g8 fc dx c4 db c7 cB bV cJ dz dg df cC cz w_
     rintro ⟨aA,az,aB,ax,aD,aC,aw,aJ,aN,aR,aq,au,aH,aU,aX,aW,aY,aV,aZ,hI⟩
     obtain rfl:=aC dT
     obtain rfl:=aN fT
     refine dP (by omega) ?_
     exact ⟨aA,az,aB,ax,aD,aC,aw,aJ,aN,fun _=>rfl,aq,au,aH,aU,aX,aW,aY,aV,aZ,hI⟩
    ·intro D aS  x2 gj gp gW jj g8 fc dx c4 db c7 cB bV cJ dz dg df cC cz w_
     rintro ⟨aA,az,aB,ax,aD,aC,aw,aJ,aN,aR,aq,au,aH,aU,aX,aW,aY,aV,aZ,hI⟩
     refine bj aP ?_
     exact ⟨aA,az,aB,ax,aD,aC,aw,aJ,aN,aR,fun _=>rfl,au,aH,aU,aX,aW,aY,aV,aZ,hI⟩
    ·intro D aS jP x2 gj gp gW jj g8 fc dx c4 db c7 cB bV cJ dz dg df cC cz w_
     rintro ⟨aA,az,aB,ax,aD,aC,aw,aJ,aN,aR,aq,au,aH,aU,aX,aW,aY,aV,aZ,hI⟩
     obtain rfl:=aq jP
     refine bB hI 0 aL rfl rfl ?_
     exact ⟨aA,az,aB,ax,aD,aC,aw,aJ,aN,aR,aq,fun _=>rfl,aH,aU,aX,aW,aY,aV,aZ,hI⟩
    ·intro D aS j0 x2 gj gp gW jj g8 fc dx c4 db c7 cB bV cJ dz dg df cC cz w_
     rintro ⟨aA,az,aB,ax,aD,aC,aw,aJ,aN,aR,aq,au,aH,aU,aX,aW,aY,aV,aZ,hI⟩
     obtain rfl:=au j0
     refine bq (i:=1) aG (by simp) ?_
     exact ⟨aA,az,aB,ax,aD,aC,aw,aJ,aN,aR,aq,au,fun _=>rfl,aU,aX,aW,aY,aV,aZ,hI⟩
    ·intro D aS tp x2 gj gp gW jj g8 fc dx c4 db c7 cB bV cJ dz dg df cC cz w_
     rintro ⟨aA,az,aB,ax,aD,aC,aw,aJ,aN,aR,aq,au,aH,aU,aX,aW,aY,aV,aZ,hI⟩
     obtain rfl:=aH tp
     refine dF ag hRb.length (fun j v hj=>by rw [hI.cellS hS]; exact bx rfl j v hj) ?_
     exact ⟨aA,az,aB,ax,aD,aC,aw,aJ,aN,aR,aq,au,aH,fun _=>rfl,aX,aW,aY,aV,aZ,hI⟩
    ·intro D aS  x2 gj gp gW jj g8 fc dx c4 db c7 cB bV cJ dz dg df cC cz w_
     rintro ⟨aA,az,aB,ax,aD,aC,aw,aJ,aN,aR,aq,au,aH,aU,aX,aW,aY,aV,aZ,hI⟩
     exact ⟨aA,az,aB,ax,aD,aC,aw,aJ,aN,aR,aq,au,aH,aU,fun _=>rfl,aW,aY,aV,aZ,hI⟩
    ·intro D aS KE x2 gj gp gW jj g8 fc dx c4 db c7 cB bV cJ dz dg df cC cz w_
     rintro ⟨aA,az,aB,ax,aD,aC,aw,aJ,aN,aR,aq,au,aH,aU,aX,aW,aY,aV,aZ,hI⟩
     obtain rfl:=aX KE
     refine lq (by omega) ?_
     exact ⟨aA,az,aB,ax,aD,aC,aw,aJ,aN,aR,aq,au,aH,aU,aX,fun _=>rfl,aY,aV,aZ,hI⟩
    ·intro D aS tm LX o6 x2 gj gp gW jj g8 fc dx c4 db c7 cB bV cJ dz dg df cC cz w_
     rintro ⟨aA,az,aB,ax,aD,aC,aw,aJ,aN,aR,aq,au,aH,aU,aX,aW,aY,aV,aZ,hI⟩
     obtain rfl:=aU tm
     obtain rfl:=aW LX
     refine Run.callPure CN Da hI (ihR g (by omega) b _ z S _ hz (by omega) hRb) fun w_ hI=>?_
     exact ⟨aA,az,aB,ax,aD,aC,aw,aJ,aN,aR,aq,au,aH,aU,aX,aW,fun _=>rfl,aV,aZ,hI⟩
    ·intro D aS o3 uX x2 gj gp gW jj g8 fc dx c4 db c7 cB bV cJ dz dg df cC cz w_
     rintro ⟨aA,az,aB,ax,aD,aC,aw,aJ,aN,aR,aq,au,aH,aU,aX,aW,aY,aV,aZ,hI⟩
     obtain rfl:=aR o3
     obtain rfl:=aY uX
     refine dP (by rw [List.length_append]; omega) ?_
     exact ⟨aA,az,aB,ax,aD,aC,aw,aJ,aN,aR,aq,au,aH,aU,aX,aW,aY,fun _=>rfl,aZ,hI⟩
    ·intro D aS JY uX kS mL kN qx oV th ug Hw Jt Lb LF Ln MX Nb MY MZ M4 MK x2 gj gp gW jj g8 fc dx c4 db c7 cB bV cJ dz dg df cC cz w_
     rintro ⟨aA,az,aB,ax,aD,aC,aw,aJ,aN,aR,aq,au,aH,aU,aX,aW,aY,aV,aZ,hI⟩
     obtain rfl:=aV JY
     exact ⟨aA,az,aB,ax,aD,aC,aw,aJ,aN,aR,aq,au,aH,aU,aX,aW,aY,aV,fun _=>rfl,hI⟩
    intro D C9 Ce CE BP Cp CM jV gw fg jA g7 gc fj ft fL fX fM fP fY x2 gj gp gW jj g8 fc dx c4 db c7 cB bV cJ dz dg df cC cz w_
    rintro ⟨aA,az,aB,ax,aD,aC,aw,aJ,aN,aR,aq,au,aH,aU,aX,aW,aY,aV,aZ,hI⟩
    obtain rfl:=aZ C9
    obtain rfl:=aV Ce
    obtain rfl:=aY CE
    obtain rfl:=aW BP
    obtain rfl:=aX Cp
    obtain rfl:=aU CM
    obtain rfl:=aH jV
    obtain rfl:=au gw
    obtain rfl:=aq fg
    obtain rfl:=aR jA
    obtain rfl:=aN g7
    obtain rfl:=aJ gc
    obtain rfl:=aw fj
    obtain rfl:=aC ft
    obtain rfl:=aD fL
    obtain rfl:=ax fX
    obtain rfl:=aB fM
    obtain rfl:=az fP
    obtain rfl:=aA fY
    clear aA az aB ax aD aC aw aJ aN aR aq au aH aU aX aW aY aV aZ
    exact done hI (by rw [<- h])
   ·cases h
  ·cases h
 ·rename_i hf
  rw [Bool.eq_false_iff.2 hf]
  refine a7 (fun hb=>by cases hb) (fun _=>?_)
  obtain ⟨ka,kc,rfl,_⟩:=id hk
  refine ⟨fun v w'=>v=.bool (decide (t.kind=3) && decide (0<t.kids.length))/\Inv w [] [B1] S w',?_,?_⟩
  ·refine ar hI 0 rfl bv bg rfl ?_
   by_cases h3:t.kind=3
   ·refine fZ h3 ?_
    repeat (first|refine ae ?_|refine ah (by decide) ?_|refine ad ?_|refine al ?_|refine aj ?_)
    refine ar hI 0 rfl aP aL rfl ?_
    refine iE aG ?_
    refine ff ?_
    repeat (first|refine ae ?_|refine ah (by decide) ?_|refine ad ?_|refine al ?_|refine aj ?_)
    refine ⟨?_,by rw [hB1]; exact hI⟩
    rw [decide_eq_true h3,Bool.true_and]
    congr 1
    rw [decide_eq_decide]
    omega
   ·refine eK h3 ?_
    repeat (first|refine ae ?_|refine ah (by decide) ?_|refine ad ?_|refine al ?_|refine aj ?_)
    exact ⟨by rw [decide_eq_false h3,Bool.false_and],by rw [hB1]; exact hI⟩
  intro t37 _ _ _ _ _ _ _ _ _ w'
  rintro ⟨rfl,hI⟩
  subst hB1
  split at h
  ·rename_i hc3
   rw [decide_eq_true hc3.1,decide_eq_true hc3.2]
   refine a7 (fun _=>?_) (fun hb=>by cases hb)
   split at h
   ·rename_i y hy
    simp only [Option.some.injEq] at h
    have hlen:(bs t.name).length+y.length+2=x.length:=by rw [<- h]; simp only [List.length_append,List.length_cons,List.length_nil]; omega
    skip
    refine ⟨fun D x2 dt cS cI cU cQ cP cR cT w_=>(D 0=true->cT=.pointer (some ⟨b1,2,none⟩))/\(D 1=true->cR=.string t.name)/\(D 2=true->cP=.string (st (bs t.name++[40])))/\(D 3=true->cQ=.pointer (some ⟨b1,3,none⟩))/\(D 4=true->cU=.slice ka t.kids.length kc)/\(D 5=true->cI=.string (st y))/\(D 6=true->cS=.string (st (bs t.name++[40]++y)))/\(D 7=true->dt=.string (st (bs t.name++[40]++y++[41])))/\(D 8=true->x2=.string (st (bs t.name++[40]++y++[41])))/\Inv w [] [.blk b1 (.cells #[.int .i64 t.kind,.int .i64 t.n,.string t.name,.slice ka t.kids.length kc] ab)] S w_,⟨af,af,af,af,af,af,af,af,af,hI.draw⟩,⟨?_,?_,?_,?_,?_,?_,?_,?_,?_,trivial⟩,?_⟩
    ·intro D aS  x2 dt cS cI cU cQ cP cR cT w_
     rintro ⟨aA,az,aB,ax,aD,aC,aw,aJ,aN,hI⟩
     refine bj bH ?_
     exact ⟨fun _=>rfl,az,aB,ax,aD,aC,aw,aJ,aN,hI⟩
    ·intro D aS cA x2 dt cS cI cU cQ cP cR cT w_
     rintro ⟨aA,az,aB,ax,aD,aC,aw,aJ,aN,hI⟩
     obtain rfl:=aA cA
     refine bB hI 0 bz rfl rfl ?_
     exact ⟨aA,fun _=>rfl,aB,ax,aD,aC,aw,aJ,aN,hI⟩
    ·intro D aS dB x2 dt cS cI cU cQ cP cR cT w_
     rintro ⟨aA,az,aB,ax,aD,aC,aw,aJ,aN,hI⟩
     obtain rfl:=az dB
     refine dP (a:=bs t.name) (b:=[40]) (by simp only [List.length_cons,List.length_nil]; omega) ?_
     exact ⟨aA,az,fun _=>rfl,ax,aD,aC,aw,aJ,aN,hI⟩
    ·intro D aS  x2 dt cS cI cU cQ cP cR cT w_
     rintro ⟨aA,az,aB,ax,aD,aC,aw,aJ,aN,hI⟩
     refine bj aP ?_
     exact ⟨aA,az,aB,fun _=>rfl,aD,aC,aw,aJ,aN,hI⟩
    ·intro D aS dh x2 dt cS cI cU cQ cP cR cT w_
     rintro ⟨aA,az,aB,ax,aD,aC,aw,aJ,aN,hI⟩
     obtain rfl:=ax dh
     refine bB hI 0 aL rfl rfl ?_
     exact ⟨aA,az,aB,ax,fun _=>rfl,aC,aw,aJ,aN,hI⟩
    ·intro D aS fO x2 dt cS cI cU cQ cP cR cT w_
     rintro ⟨aA,az,aB,ax,aD,aC,aw,aJ,aN,hI⟩
     obtain rfl:=aD fO
     refine Run.callPure oz oa hI (ihA g (by omega) t.kids y S _ hy (by omega) hk) fun w_ hI=>?_
     exact ⟨aA,az,aB,ax,aD,fun _=>rfl,aw,aJ,aN,hI⟩
    ·intro D aS cM eF x2 dt cS cI cU cQ cP cR cT w_
     rintro ⟨aA,az,aB,ax,aD,aC,aw,aJ,aN,hI⟩
     obtain rfl:=aB cM
     obtain rfl:=aC eF
     refine dP (by simp only [List.length_append,List.length_cons,List.length_nil]; omega) ?_
     exact ⟨aA,az,aB,ax,aD,aC,fun _=>rfl,aJ,aN,hI⟩
    ·intro D aS bW x2 dt cS cI cU cQ cP cR cT w_
     rintro ⟨aA,az,aB,ax,aD,aC,aw,aJ,aN,hI⟩
     obtain rfl:=aw bW
     refine dP (b:=[41]) (by simp only [List.length_append,List.length_cons,List.length_nil]; omega) ?_
     exact ⟨aA,az,aB,ax,aD,aC,aw,fun _=>rfl,aN,hI⟩
    ·intro D aS eo eF kS mL kN qx oV th ug Hw x2 dt cS cI cU cQ cP cR cT w_
     rintro ⟨aA,az,aB,ax,aD,aC,aw,aJ,aN,hI⟩
     obtain rfl:=aJ eo
     exact ⟨aA,az,aB,ax,aD,aC,aw,aJ,fun _=>rfl,hI⟩
    intro D g7 gc fj ft fL fX fM fP fY x2 dt cS cI cU cQ cP cR cT w_
    rintro ⟨aA,az,aB,ax,aD,aC,aw,aJ,aN,hI⟩
    obtain rfl:=aN g7
    obtain rfl:=aJ gc
    obtain rfl:=aw fj
    obtain rfl:=aC ft
    obtain rfl:=aD fL
    obtain rfl:=ax fX
    obtain rfl:=aB fM
    obtain rfl:=az fP
    obtain rfl:=aA fY
    clear aA az aB ax aD aC aw aJ aN
    exact done hI (by rw [<- h])
   ·cases h
  ·rename_i hc3
   have e:(decide (t.kind=3) && decide (0<t.kids.length))=false:=by
    rw [Bool.eq_false_iff,ne_eq,Bool.and_eq_true,decide_eq_true_eq,decide_eq_true_eq]; exact hc3
   rw [e]
   refine a7 (fun hb=>by cases hb) (fun _=>?_)
   refine aO hI 0 ag rfl rfl ?_
   refine Run.callPure DM EJ hI (Dc h0 hp h) fun w' hI=>?_
   exact done hI rfl
theorem H8:∀ F f,f<F->F<=1000->vl f/\GD f/\Cq f/\oK f/\GM f/\Cs f
 | 0,f,h,_=>by omega
 | F+1,f,h,hF=>by
  have ih:=fun g (hg:g<f)=>H8 F g (by omega) (by omega)
  have hT:vl f:=LH (fun g hg=>(ih g hg).2.1) (fun g hg=>(ih g hg).2.2.1) (fun g hg=>(ih g hg).2.2.2.2.1) (fun g hg=>(ih g hg).2.2.2.2.2)
  exact ⟨hT,KT (by omega) (fun g hg=>(ih g hg).1) (fun g hg=>(ih g hg).2.2.1),KY fun g hg=>(ih g hg).1,Hj fun g hg=>(ih g hg).1,KJ (fun g hg=>(ih g hg).1) (fun g hg=>(ih g hg).2.2.2.1),JU fun g hg=>(ih g hg).2.2.2.1⟩
theorem Bw {f:Nat} (hf:f<=100):vl f:=(H8 (f+1) f (by omega) (by omega)).1
end
end Go.Proofs.YtnmnddpdikghhaaGreat

/- Copies whose topmost row is still the caller's own, all else published. (printed by gen_top.py out of Copy and CopyC) -/
namespace Go.Proofs.YtnmnddpdikghhaaGreat
open Go Go.RowKit
theorem Grown.rows {α:Type} {k:Nat} {R:bI->List Value->α->Prop} {R':List Value->α->Prop} {Ls:List bI} {css:List (List Value)} {ys:List α} {S:ay} (h:Grown k R Ls css ys) (hi:Ins S Ls.flatten)
  (hR:∀ L cs x,Ins S L->R L cs x->R' cs x):Rows k R' css ys:=
 ⟨h.hc,h.hk,fun i h1 h2=>hR _ _ _ (CW hi (by rw [h.hL]; exact h1)) (h.hR i h1 (by rw [h.hL]; exact h1) h2)⟩
abbrev JO (t:T):Value->List Item->ay->Prop:=fun v I' S'=>∃ kv css,v=.agg #[.int .i64 t.kind,.int .i64 t.n,.string t.name,kv]/\I'=[a5 kv ab 4 css]/\Rows 4 (RdT S') css t.kids
abbrev Kq (c:C):Value->List Item->ay->Prop:=fun v I' S'=>∃ hd kv css,v=.agg (hd++[kv]).toArray/\RdT S' hd c.head/\I'=[a5 kv ab 4 css]/\Rows 4 (RdT S') css c.body
section
attribute [local irreducible] Run CondV ai a4
theorem Io:∀ (t:T) (S:ay) (cs:List Value),RdT S cs t->wT t<=1048576->Tri Tryz.prog qC [.agg cs.toArray] [] S (JO t):=by
 intro t S cs h hw
 obtain ⟨k,n,s,ks⟩:=t
 have ih:∀ t∈ks,∀ (S:ay) (cs:List Value),RdT S cs t->wT t<=1048576->Tri Tryz.prog qC [.agg cs.toArray] [] S (vb S t):=fun t _=>gv t
 intro w hI
 obtain ⟨kv,rfl,h1,h2,hs,hks⟩:=RdT.iff.1 h
 simp only [T.name,T.kids,T.kind,T.n] at h1 h2 hs hks ⊢
 simp only [wT] at hw
 refine n5 ?_
 unfold ot
 refine bN hI fun b1 w' hI=>?_
 refine a9 hI bt fun b2 w' hI=>?_
 refine ar hI 0 rfl bv bg rfl ?_
 refine ar hI 0 rfl bn bg rfl ?_
 refine ar hI 0 rfl bH bz rfl ?_
 refine g6 ?_
 refine a9 hI bt fun b3 w' hI=>?_
 refine aM hI 2 rfl ag rfl rfl (by simp [Value.oneCell']) fun w' hI=>?_
 have hI:=hI.rowNil ab 4
 refine ⟨fun i w'=>∃ (j:Nat) (kvc:Value) (Ls:List bI) (css:List (List Value)),j<=ks.length/\i=.int .i64 j/\Grown 4 TrT Ls css (ks.take j)/\
   Inv w [] (.blk b1 (.cells #[.int .i64 k,.int .i64 n,.string s,kv] ab)::.blk b2 (.cells #[.int .i64 0,.int .i64 0,.string ⟨#[]⟩,.slice none 0 0] ab)::.blk b3 (.cells #[.int .i64 k,.int .i64 n,.string s,kvc] ab)::a5 kvc ab 4 css::bw Ls.flatten) S w',
  fun i _=>ks.length - (intOf i).toNat,⟨0,_,[],[],Nat.zero_le _,rfl,Grown.nil _ _,hI⟩,?_⟩
 intro t4 _ _ _ _ _ _ _ _ _ _ _ _ _ _ _ _ _ _ w'
 rintro ⟨j,kvc,Ls,css,hj,rfl,hg,hI⟩
 refine ar hI 0 rfl aP aL rfl ?_
 refine bm hks aG ?_
 refine cF ?_
 refine bF (fun hji=>?_) (fun hji=>?_)
 ·have hj':j<ks.length:=by omega
  have hjl:(ks.take j).length=j:=by simp; omega
  have hcl:=hg.hc
  have hm:=List.getElem_mem hj'
  have hwm:=gF hm
  obtain ⟨b,o,cap,c,E,fz,rfl,hS,hR⟩:=hks.at_ hj'
  refine ⟨fun D c4 db c7 cB bV cJ dz dg df cC cz w_=>(D 0=true->cz=.pointer (some ⟨b3,3,none⟩))/\(D 1=true->cC=kvc)/\(D 2=true->df=.pointer (some ⟨b1,3,none⟩))/\(D 3=true->dg=.slice (some ⟨b,o,none⟩) (ks).length cap)/\(D 4=true->dz=.int .i64 j)/\(D 5=true->cJ=.pointer (some ⟨b,o+j * 4,none⟩))/\(D 6=true->bV=.agg (bJ c (o+j * 4) 4).toArray)/\(D 7=true->True)/\(D 8=true->True)/\(D 9=true->True)/\(D 10=true->c4=.pointer (some ⟨b3,3,none⟩))/\(D 11=true->True)/\∃ M cs7 b8,(D 7=true->cB=.agg cs7.toArray/\TrT M cs7 (ks)[j])/\(D 8=true->c7=.slice (some ⟨b8,0,none⟩) 1 1)/\(D 8=true->D 7=true)/\(D 9=true->D 8=true)/\(D 11=true->D 9=true)/\(D 11=true->D 1=true)/\Inv w [] (bi (.blk b1 (.cells #[.int .i64 k,.int .i64 n,.string s,.slice (some ⟨b,o,none⟩) ks.length cap] ab)) (.blk b2 (.cells #[.int .i64 0,.int .i64 0,.string ⟨#[]⟩,.slice none 0 0] ab)) (.blk b3 (.cells #[.int .i64 k,.int .i64 n,.string s,kvc] ab)) (.blk b3 (.cells #[.int .i64 k,.int .i64 n,.string s,db] ab)) (a5 kvc ab 4 css) (a5 db ab 4 (css++[cs7])) (bw Ls.flatten) M (.blk b8 (.cells cs7.toArray ab)) (D 7) (D 8) (D 9) (D 11)) S w_,⟨af,af,af,af,af,af,af,af,af,af,af,af,⟨[],[],0,af,af,af,af,af,af,by simpa [bi,bw] using hI.draw⟩⟩,⟨?_,?_,?_,?_,?_,?_,?_,?_,?_,?_,?_,?_,trivial⟩,?_⟩
  ·intro D aS  c4 db c7 cB bV cJ dz dg df cC cz w_
   rintro ⟨aA,az,aB,ax,aD,aC,aw,aJ,aN,aR,aq,au,⟨M,cs7,b8,e7,e8,k8,k9,k11,k1,hI⟩⟩
   refine bj aP ?_
   exact ⟨fun _=>rfl,az,aB,ax,aD,aC,aw,aJ,aN,aR,aq,au,⟨M,cs7,b8,e7,e8,k8,k9,k11,k1,hI⟩⟩
  ·intro D aS cA c4 db c7 cB bV cJ dz dg df cC cz w_
   rintro ⟨aA,az,aB,ax,aD,aC,aw,aJ,aN,aR,aq,au,⟨M,cs7,b8,e7,e8,k8,k9,k11,k1,hI⟩⟩
   obtain rfl:=aA cA
   have f11:D 11=false:=Bool.eq_false_iff.2 fun h=>by rw [k1 h] at aS; cases aS
   refine bB (b:=b3) hI 2 (c:=(#[.int .i64 k,.int .i64 n,.string s,kvc])) aL (by rw [f11]; rfl) rfl ?_
   have k1:=fun (_:ao D 1 11=true)=>(rfl:ao D 1 1=true)
   exact ⟨aA,fun _=>rfl,aB,ax,aD,aC,aw,aJ,aN,aR,aq,au,⟨M,cs7,b8,e7,e8,k8,k9,k11,k1,hI⟩⟩
  ·intro D aS  c4 db c7 cB bV cJ dz dg df cC cz w_
   rintro ⟨aA,az,aB,ax,aD,aC,aw,aJ,aN,aR,aq,au,⟨M,cs7,b8,e7,e8,k8,k9,k11,k1,hI⟩⟩
   refine bj aP ?_
   exact ⟨aA,az,fun _=>rfl,ax,aD,aC,aw,aJ,aN,aR,aq,au,⟨M,cs7,b8,e7,e8,k8,k9,k11,k1,hI⟩⟩
  ·intro D aS cM c4 db c7 cB bV cJ dz dg df cC cz w_
   rintro ⟨aA,az,aB,ax,aD,aC,aw,aJ,aN,aR,aq,au,⟨M,cs7,b8,e7,e8,k8,k9,k11,k1,hI⟩⟩
   obtain rfl:=aB cM
   refine bB hI 0 aL rfl rfl ?_
   exact ⟨aA,az,aB,fun _=>rfl,aD,aC,aw,aJ,aN,aR,aq,au,⟨M,cs7,b8,e7,e8,k8,k9,k11,k1,hI⟩⟩
  ·intro D aS  c4 db c7 cB bV cJ dz dg df cC cz w_
   rintro ⟨aA,az,aB,ax,aD,aC,aw,aJ,aN,aR,aq,au,⟨M,cs7,b8,e7,e8,k8,k9,k11,k1,hI⟩⟩
   exact ⟨aA,az,aB,ax,fun _=>rfl,aC,aw,aJ,aN,aR,aq,au,⟨M,cs7,b8,e7,e8,k8,k9,k11,k1,hI⟩⟩
  ·intro D aS dh eD c4 db c7 cB bV cJ dz dg df cC cz w_
   rintro ⟨aA,az,aB,ax,aD,aC,aw,aJ,aN,aR,aq,au,⟨M,cs7,b8,e7,e8,k8,k9,k11,k1,hI⟩⟩
   obtain rfl:=ax dh
   obtain rfl:=aD eD
   refine bq aG hj' ?_
   exact ⟨aA,az,aB,ax,aD,fun _=>rfl,aw,aJ,aN,aR,aq,au,⟨M,cs7,b8,e7,e8,k8,k9,k11,k1,hI⟩⟩
  ·intro D aS dT c4 db c7 cB bV cJ dz dg df cC cz w_
   rintro ⟨aA,az,aB,ax,aD,aC,aw,aJ,aN,aR,aq,au,⟨M,cs7,b8,e7,e8,k8,k9,k11,k1,hI⟩⟩
   obtain rfl:=aC dT
   refine dF ag hR.length (fun j v hj=>by rw [hI.cellS hS]; exact bx rfl j v hj) ?_
   exact ⟨aA,az,aB,ax,aD,aC,fun _=>rfl,aJ,aN,aR,aq,au,⟨M,cs7,b8,e7,e8,k8,k9,k11,k1,hI⟩⟩
  ·intro D aS bW c4 db c7 cB bV cJ dz dg df cC cz w_
   rintro ⟨aA,az,aB,ax,aD,aC,aw,aJ,aN,aR,aq,au,⟨M,cs7,b8,e7,e8,k8,k9,k11,k1,hI⟩⟩
   obtain rfl:=aw bW
   have f8:D 8=false:=Bool.eq_false_iff.2 fun h=>by rw [k8 h] at aS; cases aS
   have f9:D 9=false:=Bool.eq_false_iff.2 fun h=>by rw [k9 h] at f8; cases f8
   have f11:D 11=false:=Bool.eq_false_iff.2 fun h=>by rw [k11 h] at f9; cases f9
   rw [aS,f8,f9,f11] at hI
   refine Run.call0 fp fu hI (ih _ (List.getElem_mem hj') S _ hR (by omega)) fun v' I' S w_=>?_
   rintro ⟨rfl,cs7,M,rfl,rfl,hT⟩ _ hI
   have e7:ao D 7 7=true->Value.agg cs7.toArray=Value.agg cs7.toArray/\TrT M cs7 (ks)[j]:=fun _=>⟨rfl,hT⟩
   have k8:=fun (_:ao D 7 8=true)=>(rfl:ao D 7 7=true)
   have hI:Inv w [] (bi (.blk b1 (.cells #[.int .i64 k,.int .i64 n,.string s,.slice (some ⟨b,o,none⟩) ks.length cap] ab)) (.blk b2 (.cells #[.int .i64 0,.int .i64 0,.string ⟨#[]⟩,.slice none 0 0] ab)) (.blk b3 (.cells #[.int .i64 k,.int .i64 n,.string s,kvc] ab)) (.blk b3 (.cells #[.int .i64 k,.int .i64 n,.string s,db] ab)) (a5 kvc ab 4 css) (a5 db ab 4 (css++[cs7])) (bw Ls.flatten) M (.blk b8 (.cells cs7.toArray ab)) true (D 8) (D 9) (D 11)) S w_:=by
    rw [f8,f9,f11]
    simpa [bi] using hI
   exact ⟨aA,az,aB,ax,aD,aC,aw,fun _=>by first|assumption|trivial,aN,aR,aq,au,⟨M,cs7,b8,e7,e8,k8,k9,k11,k1,hI⟩⟩
  ·intro D aS eo c4 db c7 cB bV cJ dz dg df cC cz w_
   rintro ⟨aA,az,aB,ax,aD,aC,aw,aJ,aN,aR,aq,au,⟨M,cs7,b8,e7,e8,k8,k9,k11,k1,hI⟩⟩
   have K0:=aJ eo
   have f9:D 9=false:=Bool.eq_false_iff.2 fun h=>by rw [k9 h] at aS; cases aS
   have f11:D 11=false:=Bool.eq_false_iff.2 fun h=>by rw [k11 h] at f9; cases f9
   obtain ⟨q7,hT⟩:=e7 eo
   subst q7
   rw [eo,aS,f9,f11] at hI
   refine dJ hI bC (by simp [Value.cells,hT.length]) (by omega) (by omega) fun b8 w_ hI=>?_
   have e7:ao D 8 7=true->Value.agg cs7.toArray=Value.agg cs7.toArray/\TrT M cs7 (ks)[j]:=fun _=>⟨rfl,hT⟩
   have e8:=fun (_:ao D 8 8=true)=>(rfl:Value.slice (some ⟨b8,0,none⟩) 1 1=_)
   have k8:=fun (_:ao D 8 8=true)=>eo
   have k9:=fun (_:ao D 8 9=true)=>(rfl:ao D 8 8=true)
   have hI:Inv w [] (bi (.blk b1 (.cells #[.int .i64 k,.int .i64 n,.string s,.slice (some ⟨b,o,none⟩) ks.length cap] ab)) (.blk b2 (.cells #[.int .i64 0,.int .i64 0,.string ⟨#[]⟩,.slice none 0 0] ab)) (.blk b3 (.cells #[.int .i64 k,.int .i64 n,.string s,kvc] ab)) (.blk b3 (.cells #[.int .i64 k,.int .i64 n,.string s,db] ab)) (a5 kvc ab 4 css) (a5 db ab 4 (css++[cs7])) (bw Ls.flatten) M (.blk b8 (.cells cs7.toArray ab)) (D 7) true (D 9) (D 11)) S w_:=by
    rw [eo,f9,f11]
    simpa [bi,Value.cells] using hI
   exact ⟨aA,az,aB,ax,aD,aC,aw,aJ,fun _=>by first|assumption|trivial,aR,aq,au,⟨M,cs7,b8,e7,e8,k8,k9,k11,k1,hI⟩⟩
  ·intro D aS dB fT oI c4 db c7 cB bV cJ dz dg df cC cz w_
   rintro ⟨aA,az,aB,ax,aD,aC,aw,aJ,aN,aR,aq,au,⟨M,cs7,b8,e7,e8,k8,k9,k11,k1,hI⟩⟩
   obtain rfl:=az dB
   have E3:=aN fT
   have f11:D 11=false:=Bool.eq_false_iff.2 fun h=>by rw [k11 h] at aS; cases aS
   have q8:=e8 fT
   subst q8
   obtain ⟨_,hT⟩:=e7 oI
   rw [oI,fT,aS,f11] at hI
   have hblk:((bi (.blk b1 (.cells #[.int .i64 k,.int .i64 n,.string s,.slice (some ⟨b,o,none⟩) ks.length cap] ab)) (.blk b2 (.cells #[.int .i64 0,.int .i64 0,.string ⟨#[]⟩,.slice none 0 0] ab)) (.blk b3 (.cells #[.int .i64 k,.int .i64 n,.string s,cC] ab)) (.blk b3 (.cells #[.int .i64 k,.int .i64 n,.string s,db] ab)) (a5 cC ab 4 css) (a5 db ab 4 (css++[cs7])) (bw Ls.flatten) M (.blk b8 (.cells cs7.toArray ab)) true true false false))[4+(bw Ls.flatten).length+(bw M).length]?=some (.blk b8 (.cells cs7.toArray ab)):=by
    have e4:4+(bw Ls.flatten).length+(bw M).length=((bw Ls.flatten).length+(bw M).length)+1+1+1+1:=by omega
    rw [e4]
    simp only [bi,List.getElem?_cons_succ]
    rw [List.getElem?_append_right (by omega),Nat.add_sub_cancel_left,List.getElem?_append_right (Nat.le_refl _),Nat.sub_self]; rfl
   refine ev hI 3 cs7 bC (by omega) rfl (by rw [hT.length]) (m:=1) (o:=0) ?_ hT.one (by omega) (by omega) fun v' w_ hI=>?_
   ·intro i u hi
    rw [hI.cellL hblk,Nat.zero_add]
    simpa using hi
   rw [eN] at hI
   have k9:=fun (_:ao D 9 9=true)=>fT
   have k11:=fun (_:ao D 9 11=true)=>(rfl:ao D 9 9=true)
   have hI:Inv w [] (bi (.blk b1 (.cells #[.int .i64 k,.int .i64 n,.string s,.slice (some ⟨b,o,none⟩) ks.length cap] ab)) (.blk b2 (.cells #[.int .i64 0,.int .i64 0,.string ⟨#[]⟩,.slice none 0 0] ab)) (.blk b3 (.cells #[.int .i64 k,.int .i64 n,.string s,cC] ab)) (.blk b3 (.cells #[.int .i64 k,.int .i64 n,.string s,v'] ab)) (a5 cC ab 4 css) (a5 v' ab 4 (css++[cs7])) (bw Ls.flatten) M (.blk b8 (.cells cs7.toArray ab)) (D 7) (D 8) true (D 11)) S w_:=by
    rw [oI,fT,f11]
    exact hI
   exact ⟨aA,az,aB,ax,aD,aC,aw,aJ,aN,fun _=>by first|assumption|trivial,aq,au,⟨M,cs7,b8,e7,e8,k8,k9,k11,k1,hI⟩⟩
  ·intro D aS cA iz qD xd uq AH zT EA I6 Jj c4 db c7 cB bV cJ dz dg df cC cz w_
   rintro ⟨aA,az,aB,ax,aD,aC,aw,aJ,aN,aR,aq,au,⟨M,cs7,b8,e7,e8,k8,k9,k11,k1,hI⟩⟩
   refine bj aP ?_
   exact ⟨aA,az,aB,ax,aD,aC,aw,aJ,aN,aR,fun _=>rfl,au,⟨M,cs7,b8,e7,e8,k8,k9,k11,k1,hI⟩⟩
  ·intro D aS jP eQ Lo tP i8 uJ uE qF qJ zY jt gY mu c4 db c7 cB bV cJ dz dg df cC cz w_
   rintro ⟨aA,az,aB,ax,aD,aC,aw,aJ,aN,aR,aq,au,⟨M,cs7,b8,e7,e8,k8,k9,k11,k1,hI⟩⟩
   obtain rfl:=aq jP
   have HC:=aR eQ
   rw [jt,gY,eQ,aS] at hI
   obtain ⟨va,vn,vc,hv9⟩:=Inv.rowSlice hI 3 rfl
   refine ei hI 2 (n:=1) (by rw [hv9]; rfl) (by decide +kernel) rfl (by simp) (by rw [hv9]; simp [Value.cells,Value.oneCell']) fun w_ hI=>?_
   have hcl9:Value.cells db=#[db]:=by rw [hv9]; rfl
   rw [hcl9] at hI
   have k1:=fun (_:ao D 11 11=true)=>i8
   have k11:=fun (_:ao D 11 11=true)=>eQ
   have hI:Inv w [] (bi (.blk b1 (.cells #[.int .i64 k,.int .i64 n,.string s,.slice (some ⟨b,o,none⟩) ks.length cap] ab)) (.blk b2 (.cells #[.int .i64 0,.int .i64 0,.string ⟨#[]⟩,.slice none 0 0] ab)) (.blk b3 (.cells #[.int .i64 k,.int .i64 n,.string s,kvc] ab)) (.blk b3 (.cells #[.int .i64 k,.int .i64 n,.string s,db] ab)) (a5 kvc ab 4 css) (a5 db ab 4 (css++[cs7])) (bw Ls.flatten) M (.blk b8 (.cells cs7.toArray ab)) (D 7) (D 8) (D 9) true) S w_:=by
    rw [jt,gY,eQ]
    exact hI
   exact ⟨aA,az,aB,ax,aD,aC,aw,aJ,aN,aR,aq,fun _=>trivial,⟨M,cs7,b8,e7,e8,k8,k9,k11,k1,hI⟩⟩
  intro D gw fg jA g7 gc fj ft fL fX fM fP fY c4 db c7 cB bV cJ dz dg df cC cz w_
  rintro ⟨aA,az,aB,ax,aD,aC,aw,aJ,aN,aR,aq,au,⟨M,cs7,b8,e7,e8,k8,k9,k11,k1,hI⟩⟩
  obtain rfl:=aq fg
  have HC:=aR jA
  have E3:=aN g7
  have K0:=aJ gc
  obtain rfl:=aw fj
  obtain rfl:=aC ft
  obtain rfl:=aD fL
  obtain rfl:=ax fX
  obtain rfl:=aB fM
  obtain rfl:=az fP
  obtain rfl:=aA fY
  clear aA az aB ax aD aC aw aJ aN aR aq au
  obtain ⟨_,hT⟩:=e7 gc
  rw [gc,g7,jA,gw] at hI
  refine bR (by omega) ?_
  refine ⟨⟨j+1,db,Ls++[M],css++[cs7],hj',rfl,?_,?_⟩,by simp [intOf]; omega⟩
  ·rw [List.take_succ_eq_append_getElem hj']
   exact hg.snoc hT hT.length
  ·simp only [List.flatten_append,List.flatten_cons,List.flatten_nil,List.append_nil,c8]
   refine hI.sub ?_
   simp only [bi]
   rw [<- List.append_assoc]
   exact (((List.sublist_append_left _ _).cons_cons _).cons_cons _).cons_cons _ |>.cons_cons _
 ·have:j=ks.length:=by omega
  subst this
  rw [List.take_length] at hg
  obtain ⟨va,vn,vc,hvk⟩:=hI.rowSlice 3 rfl
  have hv1:kvc.oneCell'=true:=by rw [hvk]; rfl
  refine aO hI 2 ag rfl rfl ?_
  refine aM hI 1 rfl ag rfl rfl ?_ fun w' hI=>?_
  ·intro u hu
   have hu':u∈([.int .i64 k,.int .i64 n,.string s,kvc]:List Value):=hu
   simp at hu'
   rcases hu' with rfl|rfl|rfl|rfl <;> first|rfl|exact hv1
  refine bA hI 1 ag rfl rfl ?_
  have hI:Inv w [] ([a5 kvc ab 4 css]++bw Ls.flatten) S w':=hI.sub (List.sublist_append_right [_,_,_] _)
  obtain ⟨S1,hI,hE,hins⟩:=hI.pubExt
  exact ⟨_,_,S1,rfl,hI,hE,_,css,rfl,rfl,hg.rows hins fun _ _ _ hi h=>h.rd hi⟩
theorem IR {c0:C} {S:ay} {cs:List Value} (h:RdC S cs c0) (hw:wC c0<=1048576):Tri Tryz.prog yY [.agg cs.toArray] [] S (Kq c0):=by
 intro w hI
 obtain ⟨hd,ks,rfl,h1,h2⟩:=h
 have h1':=h1
 obtain ⟨kv,rfl,g1,g2,g3,g4⟩:=RdT.iff.1 h1
 unfold wC at hw
 refine nO ?_
 unfold mW
 refine bN hI fun b1 w' hI=>?_
 refine a9 hI bM fun b2 w' hI=>?_
 refine bj bQ ?_
 refine cY hI 0 [.int .i64 c0.head.kind,.int .i64 c0.head.n,.string c0.head.name,kv] ag rfl rfl n3 ?_
 refine Run.call0 fp fu hI (gv _ S _ h1' (by omega)) fun v' I' S w'=>?_
 rintro ⟨rfl,cs1,N,rfl,rfl,hT1⟩ _ hI
 obtain ⟨kh,rfl,_⟩:=TrT.iff.1 hT1
 refine i3 ?_
 refine a9 hI bM fun b3 w' hI=>?_
 have hI:=hI.perm (M:=.blk b1 _::.blk b2 _::.blk b3 _::bw N) (((List.perm_append_comm (l₁:=[_])).cons _).cons _)
 refine aM hI 2 rfl aI rfl rfl ?_ fun w' hI=>?_
 ·intro u hu
  have hu':u∈([.int .i64 c0.head.kind,.int .i64 c0.head.n,.string c0.head.name,kh,.slice none 0 0]:List Value):=hu
  simp at hu'
  have o1:kh.oneCell'=true:=hT1.one kh (by simp)
  rcases hu' with rfl|rfl|rfl|rfl|rfl <;> first|rfl|exact o1
 have hI:=hI.rowNil ab 4
 have hI:=hI.perm (M:=.blk b1 (.cells #[.int .i64 c0.head.kind,.int .i64 c0.head.n,.string c0.head.name,kv,ks] ac)::.blk b2 (.cells #[.int .i64 0,.int .i64 0,.string ⟨#[]⟩,.slice none 0 0,.slice none 0 0] ac)::.blk b3 (.cells #[.int .i64 c0.head.kind,.int .i64 c0.head.n,.string c0.head.name,kh,.slice none 0 0] ac)::a5 (.slice none 0 0) ab 4 []::bw N) ((((List.perm_append_comm (l₁:=[_])).cons _).cons _).cons _)
 refine ⟨fun i w'=>∃ (j:Nat) (kvc:Value) (Ls:List bI) (css:List (List Value)),j<=c0.body.length/\i=.int .i64 j/\Grown 4 TrT Ls css (c0.body.take j)/\
   Inv w [] (.blk b1 (.cells #[.int .i64 c0.head.kind,.int .i64 c0.head.n,.string c0.head.name,kv,ks] ac)::.blk b2 (.cells #[.int .i64 0,.int .i64 0,.string ⟨#[]⟩,.slice none 0 0,.slice none 0 0] ac)::.blk b3 (.cells #[.int .i64 c0.head.kind,.int .i64 c0.head.n,.string c0.head.name,kh,kvc] ac)::a5 kvc ab 4 css::bw (N::Ls).flatten) S w',
  fun i _=>c0.body.length - (intOf i).toNat,⟨0,_,[],[],Nat.zero_le _,rfl,Grown.nil _ _,by simp only [List.flatten_cons,List.flatten_nil,List.append_nil]; exact hI⟩,?_⟩
 intro t4 _ _ _ _ _ _ _ _ _ _ _ _ _ _ _ _ _ _ w'
 rintro ⟨j,kvc,Ls,css,hj,rfl,hg,hI⟩
 refine ar hI 0 rfl bl aL rfl ?_
 refine bm h2 aG ?_
 refine cF ?_
 refine bF (fun hji=>?_) (fun hji=>?_)
 ·have hj':j<c0.body.length:=by omega
  have hjl:(c0.body.take j).length=j:=by simp; omega
  have hcl:=hg.hc
  have hm:=List.getElem_mem hj'
  have hwm:=gF hm
  obtain ⟨b,o,cap,c,E,fz,rfl,hS,hR⟩:=h2.at_ hj'
  refine ⟨fun D cB bV cJ dz dg df cC cz ef dD dV w_=>(D 0=true->dV=.pointer (some ⟨b3,4,none⟩))/\(D 1=true->dD=kvc)/\(D 2=true->ef=.pointer (some ⟨b1,4,none⟩))/\(D 3=true->cz=.slice (some ⟨b,o,none⟩) (c0.body).length cap)/\(D 4=true->cC=.int .i64 j)/\(D 5=true->df=.pointer (some ⟨b,o+j * 4,none⟩))/\(D 6=true->dg=.agg (bJ c (o+j * 4) 4).toArray)/\(D 7=true->True)/\(D 8=true->True)/\(D 9=true->True)/\(D 10=true->cB=.pointer (some ⟨b3,4,none⟩))/\(D 11=true->True)/\∃ M cs7 b8,(D 7=true->dz=.agg cs7.toArray/\TrT M cs7 (c0.body)[j])/\(D 8=true->cJ=.slice (some ⟨b8,0,none⟩) 1 1)/\(D 8=true->D 7=true)/\(D 9=true->D 8=true)/\(D 11=true->D 9=true)/\(D 11=true->D 1=true)/\Inv w [] (bi (.blk b1 (.cells #[.int .i64 c0.head.kind,.int .i64 c0.head.n,.string c0.head.name,kv,.slice (some ⟨b,o,none⟩) c0.body.length cap] ac)) (.blk b2 (.cells #[.int .i64 0,.int .i64 0,.string ⟨#[]⟩,.slice none 0 0,.slice none 0 0] ac)) (.blk b3 (.cells #[.int .i64 c0.head.kind,.int .i64 c0.head.n,.string c0.head.name,kh,kvc] ac)) (.blk b3 (.cells #[.int .i64 c0.head.kind,.int .i64 c0.head.n,.string c0.head.name,kh,bV] ac)) (a5 kvc ab 4 css) (a5 bV ab 4 (css++[cs7])) (bw (N::Ls).flatten) M (.blk b8 (.cells cs7.toArray ab)) (D 7) (D 8) (D 9) (D 11)) S w_,⟨af,af,af,af,af,af,af,af,af,af,af,af,⟨[],[],0,af,af,af,af,af,af,by simpa [bi,bw] using hI.draw⟩⟩,⟨?_,?_,?_,?_,?_,?_,?_,?_,?_,?_,?_,?_,trivial⟩,?_⟩
  ·intro D aS  cB bV cJ dz dg df cC cz ef dD dV w_
   rintro ⟨aA,az,aB,ax,aD,aC,aw,aJ,aN,aR,aq,au,⟨M,cs7,b8,e7,e8,k8,k9,k11,k1,hI⟩⟩
   refine bj bl ?_
   exact ⟨fun _=>rfl,az,aB,ax,aD,aC,aw,aJ,aN,aR,aq,au,⟨M,cs7,b8,e7,e8,k8,k9,k11,k1,hI⟩⟩
  ·intro D aS cA cB bV cJ dz dg df cC cz ef dD dV w_
   rintro ⟨aA,az,aB,ax,aD,aC,aw,aJ,aN,aR,aq,au,⟨M,cs7,b8,e7,e8,k8,k9,k11,k1,hI⟩⟩
   obtain rfl:=aA cA
   have f11:D 11=false:=Bool.eq_false_iff.2 fun h=>by rw [k1 h] at aS; cases aS
   refine bB (b:=b3) hI 2 (c:=(#[.int .i64 c0.head.kind,.int .i64 c0.head.n,.string c0.head.name,kh,kvc])) aL (by rw [f11]; rfl) rfl ?_
   have k1:=fun (_:ao D 1 11=true)=>(rfl:ao D 1 1=true)
   exact ⟨aA,fun _=>rfl,aB,ax,aD,aC,aw,aJ,aN,aR,aq,au,⟨M,cs7,b8,e7,e8,k8,k9,k11,k1,hI⟩⟩
  ·intro D aS  cB bV cJ dz dg df cC cz ef dD dV w_
   rintro ⟨aA,az,aB,ax,aD,aC,aw,aJ,aN,aR,aq,au,⟨M,cs7,b8,e7,e8,k8,k9,k11,k1,hI⟩⟩
   refine bj bl ?_
   exact ⟨aA,az,fun _=>rfl,ax,aD,aC,aw,aJ,aN,aR,aq,au,⟨M,cs7,b8,e7,e8,k8,k9,k11,k1,hI⟩⟩
  ·intro D aS cM cB bV cJ dz dg df cC cz ef dD dV w_
   rintro ⟨aA,az,aB,ax,aD,aC,aw,aJ,aN,aR,aq,au,⟨M,cs7,b8,e7,e8,k8,k9,k11,k1,hI⟩⟩
   obtain rfl:=aB cM
   refine bB hI 0 aL rfl rfl ?_
   exact ⟨aA,az,aB,fun _=>rfl,aD,aC,aw,aJ,aN,aR,aq,au,⟨M,cs7,b8,e7,e8,k8,k9,k11,k1,hI⟩⟩
  ·intro D aS  cB bV cJ dz dg df cC cz ef dD dV w_
   rintro ⟨aA,az,aB,ax,aD,aC,aw,aJ,aN,aR,aq,au,⟨M,cs7,b8,e7,e8,k8,k9,k11,k1,hI⟩⟩
   exact ⟨aA,az,aB,ax,fun _=>rfl,aC,aw,aJ,aN,aR,aq,au,⟨M,cs7,b8,e7,e8,k8,k9,k11,k1,hI⟩⟩
  ·intro D aS dh eD cB bV cJ dz dg df cC cz ef dD dV w_
   rintro ⟨aA,az,aB,ax,aD,aC,aw,aJ,aN,aR,aq,au,⟨M,cs7,b8,e7,e8,k8,k9,k11,k1,hI⟩⟩
   obtain rfl:=ax dh
   obtain rfl:=aD eD
   refine bq aG hj' ?_
   exact ⟨aA,az,aB,ax,aD,fun _=>rfl,aw,aJ,aN,aR,aq,au,⟨M,cs7,b8,e7,e8,k8,k9,k11,k1,hI⟩⟩
  ·intro D aS dT cB bV cJ dz dg df cC cz ef dD dV w_
   rintro ⟨aA,az,aB,ax,aD,aC,aw,aJ,aN,aR,aq,au,⟨M,cs7,b8,e7,e8,k8,k9,k11,k1,hI⟩⟩
   obtain rfl:=aC dT
   refine dF ag hR.length (fun j v hj=>by rw [hI.cellS hS]; exact bx rfl j v hj) ?_
   exact ⟨aA,az,aB,ax,aD,aC,fun _=>rfl,aJ,aN,aR,aq,au,⟨M,cs7,b8,e7,e8,k8,k9,k11,k1,hI⟩⟩
  ·intro D aS bW cB bV cJ dz dg df cC cz ef dD dV w_
   rintro ⟨aA,az,aB,ax,aD,aC,aw,aJ,aN,aR,aq,au,⟨M,cs7,b8,e7,e8,k8,k9,k11,k1,hI⟩⟩
   obtain rfl:=aw bW
   have f8:D 8=false:=Bool.eq_false_iff.2 fun h=>by rw [k8 h] at aS; cases aS
   have f9:D 9=false:=Bool.eq_false_iff.2 fun h=>by rw [k9 h] at f8; cases f8
   have f11:D 11=false:=Bool.eq_false_iff.2 fun h=>by rw [k11 h] at f9; cases f9
   rw [aS,f8,f9,f11] at hI
   refine Run.call0 fp fu hI (gv _ S _ hR (by omega)) fun v' I' S w_=>?_
   rintro ⟨rfl,cs7,M,rfl,rfl,hT⟩ _ hI
   have e7:ao D 7 7=true->Value.agg cs7.toArray=Value.agg cs7.toArray/\TrT M cs7 (c0.body)[j]:=fun _=>⟨rfl,hT⟩
   have k8:=fun (_:ao D 7 8=true)=>(rfl:ao D 7 7=true)
   have hI:Inv w [] (bi (.blk b1 (.cells #[.int .i64 c0.head.kind,.int .i64 c0.head.n,.string c0.head.name,kv,.slice (some ⟨b,o,none⟩) c0.body.length cap] ac)) (.blk b2 (.cells #[.int .i64 0,.int .i64 0,.string ⟨#[]⟩,.slice none 0 0,.slice none 0 0] ac)) (.blk b3 (.cells #[.int .i64 c0.head.kind,.int .i64 c0.head.n,.string c0.head.name,kh,kvc] ac)) (.blk b3 (.cells #[.int .i64 c0.head.kind,.int .i64 c0.head.n,.string c0.head.name,kh,bV] ac)) (a5 kvc ab 4 css) (a5 bV ab 4 (css++[cs7])) (bw (N::Ls).flatten) M (.blk b8 (.cells cs7.toArray ab)) true (D 8) (D 9) (D 11)) S w_:=by
    rw [f8,f9,f11]
    simpa [bi] using hI
   exact ⟨aA,az,aB,ax,aD,aC,aw,fun _=>by first|assumption|trivial,aN,aR,aq,au,⟨M,cs7,b8,e7,e8,k8,k9,k11,k1,hI⟩⟩
  ·intro D aS eo cB bV cJ dz dg df cC cz ef dD dV w_
   rintro ⟨aA,az,aB,ax,aD,aC,aw,aJ,aN,aR,aq,au,⟨M,cs7,b8,e7,e8,k8,k9,k11,k1,hI⟩⟩
   have K0:=aJ eo
   have f9:D 9=false:=Bool.eq_false_iff.2 fun h=>by rw [k9 h] at aS; cases aS
   have f11:D 11=false:=Bool.eq_false_iff.2 fun h=>by rw [k11 h] at f9; cases f9
   obtain ⟨q7,hT⟩:=e7 eo
   subst q7
   rw [eo,aS,f9,f11] at hI
   refine dJ hI bC (by simp [Value.cells,hT.length]) (by omega) (by omega) fun b8 w_ hI=>?_
   have e7:ao D 8 7=true->Value.agg cs7.toArray=Value.agg cs7.toArray/\TrT M cs7 (c0.body)[j]:=fun _=>⟨rfl,hT⟩
   have e8:=fun (_:ao D 8 8=true)=>(rfl:Value.slice (some ⟨b8,0,none⟩) 1 1=_)
   have k8:=fun (_:ao D 8 8=true)=>eo
   have k9:=fun (_:ao D 8 9=true)=>(rfl:ao D 8 8=true)
   have hI:Inv w [] (bi (.blk b1 (.cells #[.int .i64 c0.head.kind,.int .i64 c0.head.n,.string c0.head.name,kv,.slice (some ⟨b,o,none⟩) c0.body.length cap] ac)) (.blk b2 (.cells #[.int .i64 0,.int .i64 0,.string ⟨#[]⟩,.slice none 0 0,.slice none 0 0] ac)) (.blk b3 (.cells #[.int .i64 c0.head.kind,.int .i64 c0.head.n,.string c0.head.name,kh,kvc] ac)) (.blk b3 (.cells #[.int .i64 c0.head.kind,.int .i64 c0.head.n,.string c0.head.name,kh,bV] ac)) (a5 kvc ab 4 css) (a5 bV ab 4 (css++[cs7])) (bw (N::Ls).flatten) M (.blk b8 (.cells cs7.toArray ab)) (D 7) true (D 9) (D 11)) S w_:=by
    rw [eo,f9,f11]
    simpa [bi,Value.cells] using hI
   exact ⟨aA,az,aB,ax,aD,aC,aw,aJ,fun _=>by first|assumption|trivial,aR,aq,au,⟨M,cs7,b8,e7,e8,k8,k9,k11,k1,hI⟩⟩
  ·intro D aS dB fT oI cB bV cJ dz dg df cC cz ef dD dV w_
   rintro ⟨aA,az,aB,ax,aD,aC,aw,aJ,aN,aR,aq,au,⟨M,cs7,b8,e7,e8,k8,k9,k11,k1,hI⟩⟩
   obtain rfl:=az dB
   have E3:=aN fT
   have f11:D 11=false:=Bool.eq_false_iff.2 fun h=>by rw [k11 h] at aS; cases aS
   have q8:=e8 fT
   subst q8
   obtain ⟨_,hT⟩:=e7 oI
   rw [oI,fT,aS,f11] at hI
   have hblk:((bi (.blk b1 (.cells #[.int .i64 c0.head.kind,.int .i64 c0.head.n,.string c0.head.name,kv,.slice (some ⟨b,o,none⟩) c0.body.length cap] ac)) (.blk b2 (.cells #[.int .i64 0,.int .i64 0,.string ⟨#[]⟩,.slice none 0 0,.slice none 0 0] ac)) (.blk b3 (.cells #[.int .i64 c0.head.kind,.int .i64 c0.head.n,.string c0.head.name,kh,dD] ac)) (.blk b3 (.cells #[.int .i64 c0.head.kind,.int .i64 c0.head.n,.string c0.head.name,kh,bV] ac)) (a5 dD ab 4 css) (a5 bV ab 4 (css++[cs7])) (bw (N::Ls).flatten) M (.blk b8 (.cells cs7.toArray ab)) true true false false))[4+(bw (N::Ls).flatten).length+(bw M).length]?=some (.blk b8 (.cells cs7.toArray ab)):=by
    have e4:4+(bw (N::Ls).flatten).length+(bw M).length=((bw (N::Ls).flatten).length+(bw M).length)+1+1+1+1:=by omega
    rw [e4]
    simp only [bi,List.getElem?_cons_succ]
    rw [List.getElem?_append_right (by omega),Nat.add_sub_cancel_left,List.getElem?_append_right (Nat.le_refl _),Nat.sub_self]; rfl
   refine ev hI 3 cs7 bC (by omega) rfl (by rw [hT.length]) (m:=1) (o:=0) ?_ hT.one (by omega) (by omega) fun v' w_ hI=>?_
   ·intro i u hi
    rw [hI.cellL hblk,Nat.zero_add]
    simpa using hi
   rw [eN] at hI
   have k9:=fun (_:ao D 9 9=true)=>fT
   have k11:=fun (_:ao D 9 11=true)=>(rfl:ao D 9 9=true)
   have hI:Inv w [] (bi (.blk b1 (.cells #[.int .i64 c0.head.kind,.int .i64 c0.head.n,.string c0.head.name,kv,.slice (some ⟨b,o,none⟩) c0.body.length cap] ac)) (.blk b2 (.cells #[.int .i64 0,.int .i64 0,.string ⟨#[]⟩,.slice none 0 0,.slice none 0 0] ac)) (.blk b3 (.cells #[.int .i64 c0.head.kind,.int .i64 c0.head.n,.string c0.head.name,kh,dD] ac)) (.blk b3 (.cells #[.int .i64 c0.head.kind,.int .i64 c0.head.n,.string c0.head.name,kh,v'] ac)) (a5 dD ab 4 css) (a5 v' ab 4 (css++[cs7])) (bw (N::Ls).flatten) M (.blk b8 (.cells cs7.toArray ab)) (D 7) (D 8) true (D 11)) S w_:=by
    rw [oI,fT,f11]
    exact hI
   exact ⟨aA,az,aB,ax,aD,aC,aw,aJ,aN,fun _=>by first|assumption|trivial,aq,au,⟨M,cs7,b8,e7,e8,k8,k9,k11,k1,hI⟩⟩
  ·intro D aS cA iz qD xd uq AH zT EA I6 Jj cB bV cJ dz dg df cC cz ef dD dV w_
   rintro ⟨aA,az,aB,ax,aD,aC,aw,aJ,aN,aR,aq,au,⟨M,cs7,b8,e7,e8,k8,k9,k11,k1,hI⟩⟩
   refine bj bl ?_
   exact ⟨aA,az,aB,ax,aD,aC,aw,aJ,aN,aR,fun _=>rfl,au,⟨M,cs7,b8,e7,e8,k8,k9,k11,k1,hI⟩⟩
  ·intro D aS jP eQ Lo tP i8 uJ uE qF qJ zY jt gY mu cB bV cJ dz dg df cC cz ef dD dV w_
   rintro ⟨aA,az,aB,ax,aD,aC,aw,aJ,aN,aR,aq,au,⟨M,cs7,b8,e7,e8,k8,k9,k11,k1,hI⟩⟩
   obtain rfl:=aq jP
   have HC:=aR eQ
   rw [jt,gY,eQ,aS] at hI
   obtain ⟨va,vn,vc,hv9⟩:=Inv.rowSlice hI 3 rfl
   refine ei hI 2 (n:=1) (by rw [hv9]; rfl) (by decide +kernel) rfl (by simp) (by rw [hv9]; simp [Value.cells,Value.oneCell']) fun w_ hI=>?_
   have hcl9:Value.cells bV=#[bV]:=by rw [hv9]; rfl
   rw [hcl9] at hI
   have k1:=fun (_:ao D 11 11=true)=>i8
   have k11:=fun (_:ao D 11 11=true)=>eQ
   have hI:Inv w [] (bi (.blk b1 (.cells #[.int .i64 c0.head.kind,.int .i64 c0.head.n,.string c0.head.name,kv,.slice (some ⟨b,o,none⟩) c0.body.length cap] ac)) (.blk b2 (.cells #[.int .i64 0,.int .i64 0,.string ⟨#[]⟩,.slice none 0 0,.slice none 0 0] ac)) (.blk b3 (.cells #[.int .i64 c0.head.kind,.int .i64 c0.head.n,.string c0.head.name,kh,kvc] ac)) (.blk b3 (.cells #[.int .i64 c0.head.kind,.int .i64 c0.head.n,.string c0.head.name,kh,bV] ac)) (a5 kvc ab 4 css) (a5 bV ab 4 (css++[cs7])) (bw (N::Ls).flatten) M (.blk b8 (.cells cs7.toArray ab)) (D 7) (D 8) (D 9) true) S w_:=by
    rw [jt,gY,eQ]
    exact hI
   exact ⟨aA,az,aB,ax,aD,aC,aw,aJ,aN,aR,aq,fun _=>trivial,⟨M,cs7,b8,e7,e8,k8,k9,k11,k1,hI⟩⟩
  intro D gw fg jA g7 gc fj ft fL fX fM fP fY cB bV cJ dz dg df cC cz ef dD dV w_
  rintro ⟨aA,az,aB,ax,aD,aC,aw,aJ,aN,aR,aq,au,⟨M,cs7,b8,e7,e8,k8,k9,k11,k1,hI⟩⟩
  obtain rfl:=aq fg
  have HC:=aR jA
  have E3:=aN g7
  have K0:=aJ gc
  obtain rfl:=aw fj
  obtain rfl:=aC ft
  obtain rfl:=aD fL
  obtain rfl:=ax fX
  obtain rfl:=aB fM
  obtain rfl:=az fP
  obtain rfl:=aA fY
  clear aA az aB ax aD aC aw aJ aN aR aq au
  obtain ⟨_,hT⟩:=e7 gc
  rw [gc,g7,jA,gw] at hI
  refine bR (by omega) ?_
  refine ⟨⟨j+1,bV,Ls++[M],css++[cs7],hj',rfl,?_,?_⟩,by simp [intOf]; omega⟩
  ·rw [List.take_succ_eq_append_getElem hj']
   exact hg.snoc hT hT.length
  ·rw [<- List.cons_append,List.flatten_append,c8]
   simp only [List.flatten_cons,List.flatten_nil,List.append_nil]
   refine hI.sub ?_
   simp only [bi,List.flatten_cons]
   rw [<- List.append_assoc]
   exact (((List.sublist_append_left _ _).cons_cons _).cons_cons _).cons_cons _ |>.cons_cons _
 ·have:j=c0.body.length:=by omega
  subst this
  rw [List.take_length] at hg
  obtain ⟨va,vn,vc,hvk⟩:=hI.rowSlice 3 rfl
  have hv1:kvc.oneCell'=true:=by rw [hvk]; rfl
  have o1:kh.oneCell'=true:=hT1.one kh (by simp)
  refine aO hI 2 aI rfl rfl ?_
  refine aM hI 1 rfl aI rfl rfl ?_ fun w' hI=>?_
  ·intro u hu
   have hu':u∈([.int .i64 c0.head.kind,.int .i64 c0.head.n,.string c0.head.name,kh,kvc]:List Value):=hu
   simp at hu'
   rcases hu' with rfl|rfl|rfl|rfl|rfl <;> first|rfl|exact o1|exact hv1
  refine bA hI 1 aI rfl rfl ?_
  have hI:Inv w [] (a5 kvc ab 4 css::bw (N::Ls).flatten) S w':=hI.sub (List.sublist_append_right [_,_,_] _)
  have hI:Inv w [] ([a5 kvc ab 4 css]++bw (N::Ls).flatten) S w':=hI
  obtain ⟨S1,hI,hE,hins⟩:=hI.pubExt
  rw [List.flatten_cons] at hins
  exact ⟨_,_,S1,rfl,hI,hE,_,kvc,css,rfl,hT1.rd hins.left,rfl,hg.rows hins.right fun _ _ _ hi h=>h.rd hi⟩
end
end Go.Proofs.YtnmnddpdikghhaaGreat

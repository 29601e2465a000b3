/- Texts written: spec.l2Text and its kin, l4Text, FormatClause. -/
import Derived.Test.YtmnnpgdeecnfpaaGreatZMh4
import Derived.Test.YtmnnpgdeecnfpaaGreatZMh2
import Derived.Test.YtmnnpgdeecnfpaaGreatZMh3
namespace Go.Proofs.YtmnnpgdeecnfpaaGreat
open Go Go.RowKit
theorem Dd:Tryz.prog.underlying yr=some (.slice xn):=by kernel_rfl
section
variable {w:World} {S:ax}
attribute [local irreducible] Run CondV ah ba
theorem iP {t:T} {cs:List Value} (h:RdT S cs t):Pure Tryz.prog Bj [.agg cs.toArray] S (.bool (tE t)):=by
 intro w hI
 obtain ⟨kv,rfl,_,_,_,hk⟩:=RdT.iff.1 h
 obtain ⟨ka,kc,rfl,_⟩:=id hk
 refine uy ?_
 unfold qH;dsimp only
 refine co hI fun b1 w' hI=>?_
 refine aH hI 0 rfl bF bw rfl ?_
 by_cases h3:t.kind=3
 ·refine eK h3 ?_
  repeat (first|refine ad ?_|refine ag (by decide) ?_|refine ae ?_|refine aq ?_|refine al ?_)
  refine aH hI 0 rfl bu bq rfl ?_
  refine cr (b:=st [46]) ?_
  cases hn:decide (t.name=st [46])
  ·repeat (first|refine ad ?_|refine ag (by decide) ?_|refine ae ?_|refine aq ?_|refine al ?_)
   exact done hI (by rw [tE,hn,Bool.false_and,Bool.and_false])
  ·repeat (first|refine ad ?_|refine ag (by decide) ?_|refine ae ?_|refine aq ?_|refine al ?_)
   refine aH hI 0 rfl a9 aV rfl ?_
   refine iD aS ?_
   refine bK ?_
   repeat (first|refine ad ?_|refine ag (by decide) ?_|refine ae ?_|refine aq ?_|refine al ?_)
   refine done hI ?_
   rw [tE,hn,decide_eq_true h3,Bool.true_and,Bool.true_and]
   congr 1
   rw [decide_eq_decide]
   omega
 ·refine dR h3 ?_
  repeat (first|refine ad ?_|refine ag (by decide) ?_|refine ae ?_|refine aq ?_|refine al ?_)
  exact done hI (by rw [tE,decide_eq_false h3,Bool.false_and])
theorem vq {t:T} {cs:List Value} (h:RdT S cs t):Pure Tryz.prog Cv [.agg cs.toArray] S (.bool (C4 t)):=by
 intro w hI
 obtain ⟨kv,rfl,_,_,_,hk⟩:=RdT.iff.1 h
 obtain ⟨ka,kc,rfl,_⟩:=id hk
 refine vG ?_
 unfold ti;dsimp only
 refine co hI fun b1 w' hI=>?_
 refine aH hI 0 rfl bF bw rfl ?_
 by_cases h3:t.kind=3
 ·refine eK h3 ?_
  repeat (first|refine ad ?_|refine ag (by decide) ?_|refine ae ?_|refine aq ?_|refine al ?_)
  refine aH hI 0 rfl bu bq rfl ?_
  refine cr (b:=st [91,93]) ?_
  cases hn:decide (t.name=st [91,93])
  ·repeat (first|refine ad ?_|refine ag (by decide) ?_|refine ae ?_|refine aq ?_|refine al ?_)
   exact done hI (by rw [C4,hn,Bool.false_and,Bool.and_false])
  ·repeat (first|refine ad ?_|refine ag (by decide) ?_|refine ae ?_|refine aq ?_|refine al ?_)
   refine aH hI 0 rfl a9 aV rfl ?_
   refine iD aS ?_
   refine bK ?_
   repeat (first|refine ad ?_|refine ag (by decide) ?_|refine ae ?_|refine aq ?_|refine al ?_)
   refine done hI ?_
   rw [C4,hn,decide_eq_true h3,Bool.true_and,Bool.true_and]
   congr 1
   rw [decide_eq_decide]
   omega
 ·refine dR h3 ?_
  repeat (first|refine ad ?_|refine ag (by decide) ?_|refine ae ?_|refine aq ?_|refine al ?_)
  exact done hI (by rw [C4,decide_eq_false h3,Bool.false_and])
theorem kw {t:T} {cs:List Value} (h:RdT S cs t):Pure Tryz.prog z0 [.agg cs.toArray] S (.bool (jN t)):=by
 intro w hI
 obtain ⟨kv,rfl,_,_,_,hk⟩:=RdT.iff.1 h
 obtain ⟨ka,kc,rfl,_⟩:=id hk
 refine sE ?_
 unfold n3;dsimp only
 refine co hI fun b1 w' hI=>?_
 refine aH hI 0 rfl bF bw rfl ?_
 by_cases h3:t.kind=3
 ·refine eK h3 ?_
  repeat (first|refine ad ?_|refine ag (by decide) ?_|refine ae ?_|refine aq ?_|refine al ?_)
  refine aH hI 0 rfl a9 aV rfl ?_
  refine iD aS ?_
  by_cases hn:t.kids.length=2
  ·refine eK (by omega) ?_
   repeat (first|refine ad ?_|refine ag (by decide) ?_|refine ae ?_|refine aq ?_|refine al ?_)
   refine aH hI 0 rfl bu bq rfl ?_
   refine Run.callPure eC ez hI (dH _ S) fun w' hI=>?_
   refine eN ?_
   repeat (first|refine ad ?_|refine ag (by decide) ?_|refine ae ?_|refine aq ?_|refine al ?_)
   exact done hI (by rw [jN,decide_eq_true h3,decide_eq_true hn,Bool.true_and,Bool.true_and])
  ·refine dR (by omega) ?_
   repeat (first|refine ad ?_|refine ag (by decide) ?_|refine ae ?_|refine aq ?_|refine al ?_)
   exact done hI (by rw [jN,decide_eq_false hn,Bool.false_and,Bool.and_false])
 ·refine dR h3 ?_
  repeat (first|refine ad ?_|refine ag (by decide) ?_|refine ae ?_|refine aq ?_|refine al ?_)
  exact done hI (by rw [jN,decide_eq_false h3,Bool.false_and])
theorem ln {t:T} {cs:List Value} (h:RdT S cs t):Pure Tryz.prog Ah [.agg cs.toArray] S (.bool (qM t)):=by
 intro w hI
 obtain ⟨kv,rfl,_,_,_,hk⟩:=RdT.iff.1 h
 obtain ⟨ka,kc,rfl,_⟩:=id hk
 refine sO ?_
 unfold qJ;dsimp only
 refine co hI fun b1 w' hI=>?_
 refine aH hI 0 rfl bF bw rfl ?_
 by_cases h3:t.kind=3
 ·refine eK h3 ?_
  repeat (first|refine ad ?_|refine ag (by decide) ?_|refine ae ?_|refine aq ?_|refine al ?_)
  refine aH hI 0 rfl a9 aV rfl ?_
  refine iD aS ?_
  by_cases hn:t.kids.length=0
  ·refine eK (by omega) ?_
   repeat (first|refine ad ?_|refine ag (by decide) ?_|refine ae ?_|refine aq ?_|refine al ?_)
   refine aH hI 0 rfl bu bq rfl ?_
   refine Run.callPure eC ez hI (dH _ S) fun w' hI=>?_
   refine eN ?_
   repeat (first|refine ad ?_|refine ag (by decide) ?_|refine ae ?_|refine aq ?_|refine al ?_)
   exact done hI (by rw [qM,decide_eq_true h3,decide_eq_true hn,Bool.true_and,Bool.true_and])
  ·refine dR (by omega) ?_
   repeat (first|refine ad ?_|refine ag (by decide) ?_|refine ae ?_|refine aq ?_|refine al ?_)
   exact done hI (by rw [qM,decide_eq_false hn,Bool.false_and,Bool.and_false])
 ·refine dR h3 ?_
  repeat (first|refine ad ?_|refine ag (by decide) ?_|refine ae ?_|refine aq ?_|refine al ?_)
  exact done hI (by rw [qM,decide_eq_false h3,Bool.false_and])
theorem uc (n:Bs) (hn:n.length<=1000000):Pure Tryz.prog xH [.string (st n)] S (.string (st (fH n))):=by
 intro w hI
 refine pU ?_
 unfold mw
 refine ⟨fun b w'=>b=.bool (decide (n=[105,115]) || decide (n=[109,111,100]))/\Inv w [] [] S w',?_,?_⟩
 ·refine tF (b:=[105,115]) ?_
  cases h5:decide (n=[105,115])
  ·repeat (first|refine ad ?_|refine ag (by decide) ?_|refine ae ?_|refine aq ?_|refine al ?_)
   refine tF (b:=[109,111,100]) ?_
   repeat (first|refine ad ?_|refine ag (by decide) ?_|refine ae ?_|refine aq ?_|refine al ?_)
   exact ⟨by rw [Bool.false_or],hI⟩
  ·repeat (first|refine ad ?_|refine ag (by decide) ?_|refine ae ?_|refine aq ?_|refine al ?_)
   exact ⟨by rw [Bool.true_or],hI⟩
 intro t8 _ _ _ _ _ w'
 rintro ⟨rfl,hI⟩
 refine bg (fun hb=>?_) (fun hb=>?_)
 ·rw [Bool.or_eq_true,decide_eq_true_eq,decide_eq_true_eq] at hb
  refine dw (a:=[32]) (by simp; omega) ?_
  refine dw (b:=[32]) (by simp; omega) ?_
  exact done hI (by rw [fH,if_pos hb]; rfl)
 ·rw [Bool.or_eq_false_iff,decide_eq_false_iff_not,decide_eq_false_iff_not] at hb
  exact done hI (by rw [fH,if_neg (by rintro (h|h); exact hb.1 h; exact hb.2 h)])
theorem vx (s:Bs) (h0:0<s.length):Pure Tryz.prog z3 [.string (st s)] S (.bool (xq s)):=by
 intro w hI
 refine rX ?_
 unfold oq;dsimp only
 have e1:xq s=(sml s 0 || (dig s 0 || (upp s 0 || (sgn s 0 91 || sgn s 0 40)))):=rfl
 have eu:upp s 0=(decide (65<=s[0].toNat) && decide (s[0].toNat<=90)):=j3 h0 65 90
 have ea:sgn s 0 91=decide (s[0].toNat=91):=iE h0 91
 have eb:sgn s 0 40=decide (s[0].toNat=40):=iE h0 40
 refine Run.callPure ot nZ hI (ki s 0 S) fun w' hI=>?_
 cases hs:sml s 0
 ·repeat (first|refine ad ?_|refine ag (by decide) ?_|refine ae ?_|refine aq ?_|refine al ?_)
  refine Run.callPure gU gV hI (ft s 0 S) fun w' hI=>?_
  cases hd:dig s 0
  ·repeat (first|refine ad ?_|refine ag (by decide) ?_|refine ae ?_|refine aq ?_|refine al ?_)
   refine dP (i:=0) bf h0 ?_
   rw [hs,hd,Bool.false_or,Bool.false_or] at e1
   by_cases h65:65<=s[0].toNat
   ·refine jT (by omega) ?_
    repeat (first|refine ad ?_|refine ag (by decide) ?_|refine ae ?_|refine aq ?_|refine al ?_)
    refine dP (i:=0) bf h0 ?_
    by_cases h90:s[0].toNat<=90
    ·refine xt (by omega) ?_
     repeat (first|refine ad ?_|refine ag (by decide) ?_|refine ae ?_|refine aq ?_|refine al ?_)
     exact done hI (by rw [e1,eu,decide_eq_true h65,decide_eq_true h90]; rfl)
    ·refine De (by omega) ?_
     repeat (first|refine ad ?_|refine ag (by decide) ?_|refine ae ?_|refine aq ?_|refine al ?_)
     refine dP (i:=0) bf h0 ?_
     by_cases h91:s[0].toNat=91
     ·refine eK (by omega) ?_
      repeat (first|refine ad ?_|refine ag (by decide) ?_|refine ae ?_|refine aq ?_|refine al ?_)
      exact done hI (by rw [e1,ea,decide_eq_true h91,Bool.true_or,Bool.or_true])
     ·refine dR (by omega) ?_
      repeat (first|refine ad ?_|refine ag (by decide) ?_|refine ae ?_|refine aq ?_|refine al ?_)
      refine dP (i:=0) bf h0 ?_
      refine dR (by omega) ?_
      repeat (first|refine ad ?_|refine ag (by decide) ?_|refine ae ?_|refine aq ?_|refine al ?_)
      exact done hI (by rw [e1,eu,ea,eb,decide_eq_false h90,decide_eq_false h91,decide_eq_false (show ¬ s[0].toNat=40 by omega),Bool.and_false]; rfl)
   ·refine qd (by omega) ?_
    repeat (first|refine ad ?_|refine ag (by decide) ?_|refine ae ?_|refine aq ?_|refine al ?_)
    refine dP (i:=0) bf h0 ?_
    refine dR (by omega) ?_
    repeat (first|refine ad ?_|refine ag (by decide) ?_|refine ae ?_|refine aq ?_|refine al ?_)
    refine dP (i:=0) bf h0 ?_
    by_cases h40:s[0].toNat=40
    ·refine eK (by omega) ?_
     repeat (first|refine ad ?_|refine ag (by decide) ?_|refine ae ?_|refine aq ?_|refine al ?_)
     exact done hI (by rw [e1,eb,decide_eq_true h40,Bool.or_true,Bool.or_true])
    ·refine dR (by omega) ?_
     repeat (first|refine ad ?_|refine ag (by decide) ?_|refine ae ?_|refine aq ?_|refine al ?_)
     exact done hI (by rw [e1,eu,ea,eb,decide_eq_false h65,decide_eq_false (show ¬ s[0].toNat=91 by omega),decide_eq_false h40,Bool.false_and]; rfl)
  ·repeat (first|refine ad ?_|refine ag (by decide) ?_|refine ae ?_|refine aq ?_|refine al ?_)
   exact done hI (by rw [e1,hd,Bool.true_or,Bool.or_true])
 ·repeat (first|refine ad ?_|refine ag (by decide) ?_|refine ae ?_|refine aq ?_|refine al ?_)
  exact done hI (by rw [e1,hs,Bool.true_or])
theorem tM {n:Int} (h:0<=n/\n<=25):Pure Tryz.prog xr [.int .i64 n] S (.string (st [UInt8.ofNat (65+n.toNat)])):=by
 intro w hI
 refine qf ?_
 unfold mF
 refine lE lT fa (IntWalk.u8_in _ (by omega)) ?_
 refine E9 (c:=((65+n.toNat:Nat):Int)) ?_ ?_
 ·rw [IntWalk.u8_in _ (by omega)]; omega
 refine uD hI qj Dd fa bf fun w' hI=>?_
 exact done hI rfl
theorem yO:∀ (f n:Nat) (out r:Bs),vb f n out=some r->out.length<r.length/\r.length<=out.length+f
 | 0,_,_,_,h=>by simp [vb] at h
 | f+1,n,out,r,h=>by
  rw [vb] at h
  split at h
  ·have:=yO f _ _ _ h
   simp only [List.length_cons] at this
   omega
  ·simp only [Option.some.injEq] at h
   subst h
   simp only [List.length_cons]
   omega
theorem nL {f n:Nat} {r:Bs} (h:vb f n []=some r) (hn:n<=100000) (hf:f<=1000):Pure Tryz.prog Aw [.int .i64 (n:Int)] S (.string (st r)):=by
 intro w hI
 refine sU ?_
 unfold q4
 refine ed (by omega) ?_
 refine bg (fun hb=>by cases hb) (fun _=>?_)
 refine ed (by omega) ?_
 refine bg (fun hb=>by cases hb) (fun _=>?_)
 refine ⟨fun a b w'=>∃ (f' m:Nat) (out:Bs),a=.int .i64 (m:Int)/\b=.string (st out)/\m<=100000/\out.length+f'<=1000/\vb f' m out=some r/\Inv w [] [] S w',fun a _ _=>(intOf a).toNat,⟨f,n,[],rfl,rfl,hn,by simpa using hf,h,hI⟩,?_⟩
 intro t0 _ _ t3 _ _ _ _ _ _ _ _ _ _ w'
 rintro ⟨f',m,out,rfl,rfl,hm,hof,hd,hI⟩
 cases f' with
 | zero=>simp [vb] at hd
 | succ g=>
 rw [vb] at hd
 split at hd
 ·rename_i h9
  refine AA (by omega) ?_
  refine bg (fun _=>?_) (fun hb=>by cases hb)
  refine Am (a:=m) (b:=10) rfl rfl (by omega) ?_
  refine dZ (a:=48) (b:=m % 10) rfl rfl (by omega) ?_
  refine lE lT fa (IntWalk.u8_in _ (by omega)) ?_
  refine uD hI qj Dd fa bf fun w' hI=>?_
  refine dw (by simp; omega) ?_
  refine Bq (a:=m) (b:=10) rfl rfl (by omega) (by omega) ?_
  refine ⟨⟨g,m / 10,UInt8.ofNat (48+m % 10)::out,rfl,rfl,by omega,by simp only [List.length_cons]; omega,hd,hI⟩,?_⟩
  simp only [intOf,Int.toNat_natCast]
  omega
 ·rename_i h9
  refine jf (by omega) ?_
  refine bg (fun hb=>by cases hb) (fun _=>?_)
  refine dZ (a:=48) (b:=m) rfl rfl (by omega) ?_
  refine lE lT fa (IntWalk.u8_in _ (by omega)) ?_
  refine uD hI qj Dd fa bf fun w' hI=>?_
  refine dw (by simp; omega) ?_
  simp only [Option.some.injEq] at hd
  exact done hI (by rw [<- hd]; rfl)
theorem z5 {n:Int} {r:Bs} (h:Fj n=some r) (hn:-999<=n/\n<=999):Pure Tryz.prog CW [.int .i64 n] S (.string (st r)):=by
 intro w hI
 refine vw ?_
 unfold uf
 unfold Fj at h
 split at h
 ·rename_i h0
  refine ux h0 ?_
  refine bg (fun _=>?_) (fun hb=>by cases hb)
  refine E0 (by omega) ?_
  obtain ⟨m,hm⟩:∃ m:Nat,-n=(m:Int):=⟨(-n).toNat,by omega⟩
  rw [hm] at h ⊢
  rw [Int.toNat_natCast,Option.map_eq_some_iff] at h
  obtain ⟨l,hl,rfl⟩:=h
  have:=yO _ _ _ _ hl
  refine Run.callPure rv rG hI (nL hl (by omega) (by omega)) fun w' hI=>?_
  refine dw (a:=[45]) (by simp only [List.length_nil,List.length_cons] at this ⊢; omega) ?_
  exact done hI rfl
 ·rename_i h0
  refine ed h0 ?_
  refine bg (fun hb=>by cases hb) (fun _=>?_)
  obtain ⟨m,rfl⟩:∃ m:Nat,n=(m:Int):=⟨n.toNat,by omega⟩
  rw [Int.toNat_natCast] at h
  refine Run.callPure rv rG hI (nL h (by omega) (by omega)) fun w' hI=>?_
  exact done hI rfl
theorem xC {t:T} {cs:List Value} {x:Bs} (h:RdT S cs t) (hp:tE t=false) (hx:DD t=some x):Pure Tryz.prog Bt [.agg cs.toArray] S (.string (st x)):=by
 intro w hI
 have h0:=h
 obtain ⟨kv,rfl,_,_,_,hk⟩:=RdT.iff.1 h
 obtain ⟨ka,kc,rfl,_⟩:=id hk
 refine tk ?_
 unfold rj
 unfold DD at hx
 refine co hI fun b1 w' hI=>?_
 refine aH hI 0 rfl bF bw rfl ?_
 split at hx
 ·rename_i h1
  refine eK h1 ?_
  refine bg (fun _=>?_) (fun hb=>by cases hb)
  refine aH hI 0 rfl bE bw rfl ?_
  split at hx
  ·rename_i h2
   refine Run.callPure uY vD hI (tM h2) fun w' hI=>?_
   simp only [Option.some.injEq] at hx
   exact done hI (by rw [<- hx])
  ·cases hx
 ·rename_i h1
  refine dR h1 ?_
  refine bg (fun hb=>by cases hb) (fun _=>?_)
  split at hx
  ·rename_i h2
   refine eK h2 ?_
   refine bg (fun _=>?_) (fun hb=>by cases hb)
   refine aH hI 0 rfl bE bw rfl ?_
   split at hx
   ·rename_i h3
    refine Run.callPure AL A1 hI (z5 hx h3) fun w' hI=>?_
    exact done hI rfl
   ·cases hx
  ·rename_i h2
   refine dR h2 ?_
   refine bg (fun hb=>by cases hb) (fun _=>?_)
   split at hx
   ·rename_i h3
    simp only [Option.some.injEq] at hx
    refine bb hI 0 aj rfl rfl ?_
    refine Run.callPure kL kX hI (iP h0) fun w' hI=>?_
    rw [hp]
    refine bg (fun hb=>by cases hb) (fun _=>?_)
    refine aH hI 0 rfl bu bq rfl ?_
    refine ⟨fun a b w'=>a=.int .i64 0/\b=.string t.name/\Inv w [] [.blk b1 (.cells #[.int .i64 t.kind,.int .i64 t.n,.string t.name,.slice ka t.kids.length kc] ac)] S w',fun _ _ _=>0,⟨rfl,rfl,hI⟩,?_⟩
    intro t4 _ _ _ _ _ _ _ _ _ _ _ _ t3 _ _ _ _ _ _ _ _ _ w'
    rintro ⟨rfl,rfl,hI⟩
    refine aH hI 0 rfl a9 aV rfl ?_
    refine iD aS ?_
    refine ed (by omega) ?_
    refine bg (fun hb=>by cases hb) (fun _=>?_)
    refine ⟨fun b w'=>b=.string t.name/\Inv w [] [.blk b1 (.cells #[.int .i64 t.kind,.int .i64 t.n,.string t.name,.slice ka t.kids.length kc] ac)] S w',?_,?_⟩
    ·refine aH hI 0 rfl a9 aV rfl ?_
     refine iD aS ?_
     refine jf (by omega) ?_
     refine bg (fun hb=>by cases hb) (fun _=>?_)
     exact ⟨rfl,hI⟩
    intro t3 _ _ _ _ _ _ w'
    rintro ⟨rfl,hI⟩
    exact done hI (by rw [<- hx])
   ·cases hx
end
/- lengths -/
theorem vY:∀ (f:Nat) (l:List T) (out x:Bs),ko f l out=some x->out.length<=x.length
 | 0,_,_,_,h=>by simp [ko] at h
 | _+1,[],out,x,h=>by simp [ko] at h; subst h; exact Nat.le_refl _
 | f+1,t::l,out,x,h=>by
  rw [ko] at h
  split at h
  ·cases h
  ·have:=vY f _ _ _ h
   simp only [List.length_append] at this
   omega
def lenOf:Value->Nat
 | .slice _ n _=>n
 | _=>0
def rH (f:Nat):Prop:=∀ (t:T) (x:Bs) (S:ax) (cs:List Value),wK f t=some x->x.length<=1000000->RdT S cs t->Pure Tryz.prog AQ [.agg cs.toArray] S (.string (st x))
def Bv (f:Nat):Prop:=∀ (t:T) (x:Bs) (S:ax) (cs:List Value),wq f t []=some x->x.length<=1000000->RdT S cs t->Pure Tryz.prog Bc [.agg cs.toArray] S (.string (st x))
def ye (f:Nat):Prop:=∀ (ts:List T) (x:Bs) (S:ax) (u:Value),ko f ts []=some x->x.length<=1000000->RdSl S 4 (RdT S) u ts->Pure Tryz.prog Ad [u] S (.string (st x))
def lY (f:Nat):Prop:=∀ (t:T) (l:Int) (x:Bs) (S:ax) (cs:List Value),lk f t l=some x->x.length<=1000000->RdT S cs t->Pure Tryz.prog vz [.agg cs.toArray,.int .i64 l] S (.string (st x))
def AF (f:Nat):Prop:=∀ (t:T) (l:Int) (x:Bs) (S:ax) (cs:List Value),BR f t l=some x->x.length<=1000000->RdT S cs t->Pure Tryz.prog Bg [.agg cs.toArray,.int .i64 l] S (.string (st x))
def yd (f:Nat):Prop:=∀ (t:T) (l:Int) (x:Bs) (S:ax) (cs:List Value),xB f t l=some x->x.length<=1000000->RdT S cs t->Pure Tryz.prog yW [.agg cs.toArray,.int .i64 l] S (.string (st x))
section
attribute [local irreducible] Run CondV ah ba
theorem EI {f:Nat} (ih:∀ g,g<f->rH g):ye f:=by
 intro ts x S u h hx hu w hI
 refine tD ?_
 unfold rz
 refine ⟨fun a b w'=>∃ (f' j:Nat) (out acc:Bs),f'<=f/\j<=ts.length/\a=.int .i64 (j:Int)/\b=.string (st out)/\acc=out++(if 0<j/\j<ts.length then [44] else [])/\ko f' (ts.drop j) acc=some x/\Inv w [] [] S w',
  fun a _ _=>ts.length - (intOf a).toNat,⟨f,0,[],[],Nat.le_refl _,Nat.zero_le _,rfl,rfl,by simp,h,hI⟩,?_⟩
 intro t4 _ _ _ _ _ _ _ _ _ t3 _ _ _ _ _ _ _ _ w'
 rintro ⟨f',j,out,acc,hf',hj,rfl,rfl,hacc,ha,hI⟩
 cases f' with
 | zero=>simp [ko] at ha
 | succ g=>
 refine bo hu aS ?_
 refine dh ?_
 refine bz (fun hji=>?_) (fun hji=>?_)
 ·have hj':j<ts.length:=by omega
  rw [List.drop_eq_getElem_cons hj',ko] at ha
  split at ha
  ·cases ha
  rename_i y hy
  have hlen:=vY _ _ _ _ ha
  simp only [List.length_append] at hlen
  refine ⟨fun b w'=>b=.string (st acc)/\Inv w [] [] S w',?_,?_⟩
  ·refine eN ?_
   refine bz (fun h0=>?_) (fun h0=>?_)
   ·rw [if_pos (by omega)] at hacc
    refine dw (b:=[44]) (by rw [hacc,List.length_append] at hlen; simp only [List.length_cons,List.length_nil] at hlen ⊢; omega) ?_
    exact ⟨by rw [hacc],hI⟩
   ·rw [if_neg (by omega),List.append_nil] at hacc
    exact ⟨by rw [hacc],hI⟩
  intro t3 _ _ _ _ w'
  rintro ⟨rfl,hI⟩
  refine ei hI hu aS aj hj' (fun _ _=>RdT.length) fun cs hcs=>?_
  refine Run.callPure eV eS hI (ih g (by omega) _ y S cs hy (by omega) hcs) fun w' hI=>?_
  refine dw (by omega) ?_
  refine ct (by have:=hu.le; simp only [maxLen] at this; omega) ?_
  refine ⟨⟨g,j+1,acc++y,_,by omega,hj',rfl,rfl,rfl,?_,hI⟩,by simp only [intOf,Int.toNat_natCast]; omega⟩
  have e:(if ts.drop (j+1)=[] then [] else [44]:Bs)=if 0<j+1/\j+1<ts.length then [44] else []:=by
   by_cases h1:j+1<ts.length
   ·rw [if_neg (fun h2=>by rw [List.drop_eq_nil_iff] at h2; omega),if_pos (by omega)]
   ·rw [if_pos (List.drop_eq_nil_of_le (by omega)),if_neg (by omega)]
  rw [<- e]
  exact ha
 ·have:j=ts.length:=by omega
  subst this
  rw [List.drop_length,ko] at ha
  simp only [Option.some.injEq] at ha
  rw [if_neg (by omega),List.append_nil] at hacc
  exact done hI (by rw [<- ha,hacc])
theorem A8 {f:Nat} (ih:∀ g,g<f->rH g):lY f:=by
 intro t l x S cs h hx hc w hI
 cases f with
 | zero=>simp [lk] at h
 | succ g=>
 rw [lk] at h
 split at h
 ·cases h
 rename_i y hy
 simp only [Option.some.injEq] at h
 have h0:=hc
 obtain ⟨kv,rfl,_,_,_,hk⟩:=RdT.iff.1 hc
 obtain ⟨ka,kc,rfl,_⟩:=id hk
 have hyx:y.length<=1000000/\y.length+2<=9000000:=by
  have:y.length<=x.length:=by
   rw [<- h]; split
   ·simp; omega
   ·omega
  omega
 refine oW ?_
 unfold ld
 refine co hI fun b1 w' hI=>?_
 refine ⟨fun b w'=>b=.bool (jN t && decide (l<cG t.name))/\Inv w [] [.blk b1 (.cells #[.int .i64 t.kind,.int .i64 t.n,.string t.name,.slice ka t.kids.length kc] ac)] S w',?_,?_⟩
 ·refine bb hI 0 aj rfl rfl ?_
  refine Run.callPure oB oe hI (kw h0) fun w' hI=>?_
  cases hf:jN t
  ·repeat (first|refine ad ?_|refine ag (by decide) ?_|refine ae ?_|refine aq ?_|refine al ?_)
   exact ⟨by rw [Bool.false_and],hI⟩
  ·repeat (first|refine ad ?_|refine ag (by decide) ?_|refine ae ?_|refine aq ?_|refine al ?_)
   refine aH hI 0 rfl bu bq rfl ?_
   refine Run.callPure eC ez hI (dH _ S) fun w' hI=>?_
   refine eN ?_
   repeat (first|refine ad ?_|refine ag (by decide) ?_|refine ae ?_|refine aq ?_|refine al ?_)
   exact ⟨by rw [Bool.true_and],hI⟩
 intro t13 _ _ _ _ _ _ _ _ w'
 rintro ⟨rfl,hI⟩
 refine bg (fun hb=>?_) (fun hb=>?_)
 ·rw [Bool.and_eq_true,decide_eq_true_eq] at hb
  rw [if_pos hb] at h
  refine bb hI 0 aj rfl rfl ?_
  refine Run.callPure eV eS hI (ih g (by omega) t y S _ hy hyx.1 h0) fun w' hI=>?_
  refine dw (a:=[40]) (by simp only [List.length_cons,List.length_nil]; omega) ?_
  refine dw (b:=[41]) (by simp only [List.length_append,List.length_cons,List.length_nil]; omega) ?_
  exact done hI (by rw [<- h])
 ·rw [if_neg (fun hh=>by rw [Bool.and_eq_false_iff,decide_eq_false_iff_not] at hb; rcases hb with hb|hb; rw [hh.1] at hb; cases hb; exact hb hh.2)] at h
  refine bb hI 0 aj rfl rfl ?_
  refine Run.callPure eV eS hI (ih g (by omega) t y S _ hy hyx.1 h0) fun w' hI=>?_
  exact done hI (by rw [<- h])
theorem EW {f:Nat} (ih:∀ g,g<f->rH g) (ihB:∀ g,g<f->lY g):AF f:=by
 intro t l x S cs h hx hc w hI
 cases f with
 | zero=>simp [BR] at h
 | succ g=>
 rw [BR] at h
 have h0:=hc
 obtain ⟨kv,rfl,_,_,_,hk⟩:=RdT.iff.1 hc
 obtain ⟨ka,kc,rfl,_⟩:=id hk
 refine uM ?_
 unfold qZ
 refine co hI fun b1 w' hI=>?_
 refine bb hI 0 aj rfl rfl ?_
 refine Run.callPure qT rc hI (ln h0) fun w' hI=>?_
 split at h
 ·rename_i hs
  split at h
  ·cases h
  rename_i y hy
  simp only [Option.some.injEq] at h
  have hyx:y.length+2=x.length:=by rw [<- h]; simp only [List.length_append,List.length_cons,List.length_nil]; omega
  rw [hs]
  refine bg (fun _=>?_) (fun hb=>by cases hb)
  refine bb hI 0 aj rfl rfl ?_
  refine Run.callPure eV eS hI (ih g (by omega) t y S _ hy (by omega) h0) fun w' hI=>?_
  refine dw (a:=[40]) (by simp only [List.length_cons,List.length_nil]; omega) ?_
  refine dw (b:=[41]) (by simp only [List.length_append,List.length_cons,List.length_nil]; omega) ?_
  exact done hI (by rw [<- h])
 ·rename_i hs
  rw [Bool.eq_false_iff.2 hs]
  refine bg (fun hb=>by cases hb) (fun _=>?_)
  refine bb hI 0 aj rfl rfl ?_
  refine Run.callPure li lc hI (ihB g (by omega) t l x S _ h hx h0) fun w' hI=>?_
  exact done hI rfl
theorem DC {f:Nat} (ihB:∀ g,g<f->lY g):yd f:=by
 intro t l x S cs h hx hc w hI
 cases f with
 | zero=>simp [xB] at h
 | succ g=>
 rw [xB] at h
 split at h
 ·cases h
 rename_i y hy
 split at h
 ·cases h
 rename_i hne
 simp only [Option.some.injEq] at h
 have hy0:0<y.length:=by
  cases y with
  | nil=>exact absurd rfl hne
  | cons a l=>simp
 have hyx:y.length<=1000000:=by
  have:y.length<=x.length:=by
   rw [<- h]; split
   ·simp; omega
   ·omega
  omega
 have h0:=hc
 obtain ⟨kv,rfl,_,_,_,hk⟩:=RdT.iff.1 hc
 obtain ⟨ka,kc,rfl,_⟩:=id hk
 refine sx ?_
 unfold oS
 refine co hI fun b1 w' hI=>?_
 refine bb hI 0 aj rfl rfl ?_
 refine Run.callPure li lc hI (ihB g (by omega) t l y S _ hy hyx h0) fun w' hI=>?_
 refine ⟨fun b w'=>b=.bool (qM t || !xq y)/\Inv w [] [.blk b1 (.cells #[.int .i64 t.kind,.int .i64 t.n,.string t.name,.slice ka t.kids.length kc] ac)] S w',?_,?_⟩
 ·refine bb hI 0 aj rfl rfl ?_
  refine Run.callPure qT rc hI (ln h0) fun w' hI=>?_
  cases hs:qM t
  ·repeat (first|refine ad ?_|refine ag (by decide) ?_|refine ae ?_|refine aq ?_|refine al ?_)
   refine Run.callPure ya xi hI (vx y hy0) fun w' hI=>?_
   refine dT ?_
   repeat (first|refine ad ?_|refine ag (by decide) ?_|refine ae ?_|refine aq ?_|refine al ?_)
   exact ⟨by rw [Bool.false_or],hI⟩
  ·repeat (first|refine ad ?_|refine ag (by decide) ?_|refine ae ?_|refine aq ?_|refine al ?_)
   exact ⟨by rw [Bool.true_or],hI⟩
 intro t15 _ _ _ _ _ _ w'
 rintro ⟨rfl,hI⟩
 refine bg (fun hb=>?_) (fun hb=>?_)
 ·rw [Bool.or_eq_true,Bool.not_eq_true'] at hb
  rw [if_pos hb] at h
  refine dw (a:=[40]) (by simp only [List.length_cons,List.length_nil]; omega) ?_
  refine dw (b:=[41]) (by simp only [List.length_append,List.length_cons,List.length_nil]; omega) ?_
  exact done hI (by rw [<- h])
 ·rw [if_neg (fun hh=>by rw [<- Bool.not_eq_true',<- Bool.or_eq_true,hb] at hh; cases hh)] at h
  exact done hI (by rw [<- h])
theorem EB {f:Nat} (hf:f<=100000) (ih:∀ g,g<f->rH g) (ihA:∀ g,g<f->ye g):Bv f:=by
 intro t x S cs h hx hc w hI
 obtain ⟨kv,rfl,_,_,_,hk⟩:=RdT.iff.1 hc
 refine tQ ?_
 unfold qF
 refine co hI fun b1 w' hI=>?_
 refine gx hI bt fun v0 w' hI=>?_
 refine ⟨fun a w'=>∃ (f':Nat) (t':T) (items:List T) (ds:List Value) (css:List (List Value)),f'+items.length=f/\wq f' t' items=some x/\RdT S ds t'/\Rows 4 (RdT S) css items/\(∃ p m,a=.slice p items.length m)/\Inv w [] [.blk b1 (.cells ds.toArray ac),be a ac 4 css] S w',
  fun a _=>f+1 - lenOf a,⟨f,t,[],_,[],by simp,h,hc,Rows.nil _ _,?_,hI⟩,?_⟩
 ·have hI2:Inv w [] ([Item.blk b1 (.cells #[.int .i64 t.kind,.int .i64 t.n,.string t.name,kv] ac)]++[be v0 ac 4 []]) S w':=hI
  obtain ⟨S1,_,hrd,_⟩:=Inv.lendExt hI2
  obtain ⟨p,m,e,_⟩:=RowRd.rows (Rows.nil 4 (RdT S)) hrd
  exact ⟨p,m,e⟩
 clear h hc hk hI
 intro _ _ _ _ t3 _ _ _ _ _ _ _ _ _ w'
 rintro ⟨f',t',items,ds,css,hfl,hl,hd,hR,⟨p,m,rfl⟩,hI⟩
 have hd0:=hd
 obtain ⟨kd,rfl,_,_,_,hk⟩:=RdT.iff.1 hd
 have hcl:=hR.hc
 cases f' with
 | zero=>simp [wq] at hl
 | succ g=>
 rw [wq] at hl
 refine bb hI 0 aj rfl rfl ?_
 refine Run.callPure kL kX hI (iP hd0) fun w' hI=>?_
 split at hl
 ·rename_i hp
  split at hl
  ·rename_i a b hab
   rw [hp]
   refine bg (fun _=>?_) (fun hb=>by cases hb)
   rw [hab] at hk
   refine aH hI 0 rfl a9 aV rfl ?_
   refine ei (i:=0) hI hk aS aj (by simp) (fun _ _=>RdT.length) fun es hes=>?_
   rw [List.getElem_cons_zero] at hes
   refine gc (css:=css) hI 1 es bt (by omega) (by omega) rfl hes.length hes.one (by omega) (by omega) fun v' w' hI=>?_
   refine aH hI 0 rfl a9 aV rfl ?_
   refine ei (i:=1) hI hk aS aj (by simp) (fun _ _=>RdT.length) fun gs hgs=>?_
   rw [List.getElem_cons_succ,List.getElem_cons_zero] at hgs
   have hg1:=hgs.length
   refine aX hI 0 rfl aj (by simpa using hg1) rfl (by simpa using hgs.one) fun w' hI=>?_
   have hR2:=hR.snoc hes hes.length
   have hI2:Inv w [] ([Item.blk b1 (.cells gs.toArray ac)]++[be v' ac 4 (css++[es])]) S w':=hI
   obtain ⟨S1,hE1,hrd,_⟩:=Inv.lendExt hI2
   obtain ⟨p',m',e',_⟩:=RowRd.rows hR2 hrd
   refine ⟨⟨g,b,items++[a],gs,css++[es],by rw [List.length_append]; simp only [List.length_cons,List.length_nil]; omega,hl,hgs,hR2,⟨p',m',e'⟩,hI⟩,?_⟩
   rw [e']
   simp only [lenOf,List.length_append,List.length_cons,List.length_nil]
   omega
  ·cases hl
 ·rename_i hp
  rw [Bool.eq_false_iff.2 hp]
  refine bg (fun hb=>by cases hb) (fun _=>?_)
  split at hl
  ·cases hl
  rename_i y hy
  refine bb hI 0 aj rfl rfl ?_
  refine Run.callPure Ai Bu hI (vq hd0) fun w' hI=>?_
  have hI2:Inv w [] ([Item.blk b1 (.cells #[.int .i64 t'.kind,.int .i64 t'.n,.string t'.name,kd] ac)]++[be (.slice p items.length m) ac 4 css]) S w':=hI
  obtain ⟨S1,hE1,hrd,hI⟩:=Inv.lendExt hI2
  have hrs:=RowRd.rows (hR.monoR fun _ _ h=>RdT.mono hE1.1 h) hrd
  have hd1:=RdT.mono hE1.1 hd0
  split at hl
  ·rename_i hn
   simp only [Option.some.injEq] at hl
   have hyx:y.length+2=x.length:=by rw [<- hl]; simp only [List.length_append,List.length_cons,List.length_nil]; omega
   rw [hn]
   refine bg (fun _=>?_) (fun hb=>by cases hb)
   refine Run.callPure kM lq hI (ihA g (by omega) items y S1 _ hy (by omega) hrs) fun w' hI=>?_
   refine dw (a:=[91]) (by simp only [List.length_cons,List.length_nil]; omega) ?_
   refine dw (b:=[93]) (by simp only [List.length_append,List.length_cons,List.length_nil]; omega) ?_
   exact n7 hI hE1.1 (by rw [<- hl])
  ·rename_i hn
   split at hl
   ·cases hl
   rename_i z hz
   simp only [Option.some.injEq] at hl
   have hyx:y.length+z.length+3=x.length:=by rw [<- hl]; simp only [List.length_append,List.length_cons,List.length_nil]; omega
   rw [Bool.eq_false_iff.2 hn]
   refine bg (fun hb=>by cases hb) (fun _=>?_)
   refine ⟨fun D x2 d3 dF dq di dp cX cM dn w_=>(D 0=true->dn=.slice p items.length m)/\(D 1=true->cM=.string (st y))/\(D 2=true->cX=.string (st ([91]++y)))/\(D 3=true->dp=.string (st ([91]++y++[124])))/\(D 4=true->di=.agg #[.int .i64 t'.kind,.int .i64 t'.n,.string t'.name,kd])/\(D 5=true->dq=.string (st z))/\(D 6=true->dF=.string (st ([91]++y++[124]++z)))/\(D 7=true->d3=.string (st ([91]++y++[124]++z++[93])))/\(D 8=true->x2=.string (st ([91]++y++[124]++z++[93])))/\Inv w [] [.blk b1 (.cells #[.int .i64 t'.kind,.int .i64 t'.n,.string t'.name,kd] ac)] S1 w_,⟨af,af,af,af,af,af,af,af,af,hI.draw⟩,⟨?_,?_,?_,?_,?_,?_,?_,?_,?_,trivial⟩,?_⟩
   ·intro D a6  x2 d3 dF dq di dp cX cM dn w_
    rintro ⟨aF,aC,aB,aE,aD,aG,az,aK,aQ,hI⟩
    exact ⟨fun _=>rfl,aC,aB,aE,aD,aG,az,aK,aQ,hI⟩
   ·intro D a6 dc x2 d3 dF dq di dp cX cM dn w_
    rintro ⟨aF,aC,aB,aE,aD,aG,az,aK,aQ,hI⟩
    obtain rfl:=aF dc
    refine Run.callPure kM lq hI (ihA g (by omega) items y S1 _ hy (by omega) hrs) fun w_ hI=>?_
    exact ⟨aF,fun _=>rfl,aB,aE,aD,aG,az,aK,aQ,hI⟩
   ·intro D a6 eB x2 d3 dF dq di dp cX cM dn w_
    rintro ⟨aF,aC,aB,aE,aD,aG,az,aK,aQ,hI⟩
    obtain rfl:=aC eB
    refine dw (a:=[91]) (by simp only [List.length_cons,List.length_nil]; omega) ?_
    exact ⟨aF,aC,fun _=>rfl,aE,aD,aG,az,aK,aQ,hI⟩
   ·intro D a6 dy x2 d3 dF dq di dp cX cM dn w_
    rintro ⟨aF,aC,aB,aE,aD,aG,az,aK,aQ,hI⟩
    obtain rfl:=aB dy
    refine dw (b:=[124]) (by simp only [List.length_append,List.length_cons,List.length_nil]; omega) ?_
    exact ⟨aF,aC,aB,fun _=>rfl,aD,aG,az,aK,aQ,hI⟩
   ·intro D a6  x2 d3 dF dq di dp cX cM dn w_
    rintro ⟨aF,aC,aB,aE,aD,aG,az,aK,aQ,hI⟩
    refine bb hI 0 aj rfl rfl ?_
    exact ⟨aF,aC,aB,aE,fun _=>rfl,aG,az,aK,aQ,hI⟩
   ·intro D a6 jj gl x2 d3 dF dq di dp cX cM dn w_
    rintro ⟨aF,aC,aB,aE,aD,aG,az,aK,aQ,hI⟩
    obtain rfl:=aD jj
    refine Run.callPure eV eS hI (ih g (by omega) t' z S1 _ hz (by omega) hd1) fun w_ hI=>?_
    exact ⟨aF,aC,aB,aE,aD,fun _=>rfl,az,aK,aQ,hI⟩
   ·intro D a6 ef gd x2 d3 dF dq di dp cX cM dn w_
    rintro ⟨aF,aC,aB,aE,aD,aG,az,aK,aQ,hI⟩
    obtain rfl:=aE ef
    obtain rfl:=aG gd
    refine dw (by simp only [List.length_append,List.length_cons,List.length_nil]; omega) ?_
    exact ⟨aF,aC,aB,aE,aD,aG,fun _=>rfl,aK,aQ,hI⟩
   ·intro D a6 cw x2 d3 dF dq di dp cX cM dn w_
    rintro ⟨aF,aC,aB,aE,aD,aG,az,aK,aQ,hI⟩
    obtain rfl:=az cw
    refine dw (b:=[93]) (by simp only [List.length_append,List.length_cons,List.length_nil]; omega) ?_
    exact ⟨aF,aC,aB,aE,aD,aG,az,fun _=>rfl,aQ,hI⟩
   ·intro D a6 d6 gd CO Cq xx CT CN CC Cw Fs x2 d3 dF dq di dp cX cM dn w_
    rintro ⟨aF,aC,aB,aE,aD,aG,az,aK,aQ,hI⟩
    obtain rfl:=aK d6
    exact ⟨aF,aC,aB,aE,aD,aG,az,aK,fun _=>rfl,hI⟩
   intro D iV ii gM gT hO iR im iT iS x2 d3 dF dq di dp cX cM dn w_
   rintro ⟨aF,aC,aB,aE,aD,aG,az,aK,aQ,hI⟩
   obtain rfl:=aQ iV
   obtain rfl:=aK ii
   obtain rfl:=az gM
   obtain rfl:=aG gT
   obtain rfl:=aD hO
   obtain rfl:=aE iR
   obtain rfl:=aB im
   obtain rfl:=aC iT
   obtain rfl:=aF iS
   clear aF aC aB aE aD aG az aK aQ
   exact n7 hI hE1.1 (by rw [<- hl])
theorem Fw {f:Nat} (ihL:∀ g,g<f->Bv g) (ihA:∀ g,g<f->ye g) (ihF:∀ g,g<f->AF g) (ihR:∀ g,g<f->yd g):rH f:=by
 intro t x S cs h hx hc w hI
 cases f with
 | zero=>simp [wK] at h
 | succ g=>
 rw [wK] at h
 have h0:=hc
 obtain ⟨kv,rfl,_,_,_,hk⟩:=RdT.iff.1 hc
 refine uL ?_
 unfold q9
 refine co hI fun b1 w' hI=>?_
 obtain ⟨B1,hB1⟩:∃ B1,B1=Item.blk b1 (.cells #[.int .i64 t.kind,.int .i64 t.n,.string t.name,kv] ac):=⟨_,rfl⟩
 refine bb hI 0 aj rfl rfl ?_
 refine Run.callPure kL kX hI (iP h0) fun w' hI=>?_
 split at h
 ·rename_i hp
  rw [hp]
  refine bg (fun _=>?_) (fun hb=>by cases hb)
  refine bb hI 0 aj rfl rfl ?_
  refine Run.callPure zZ yt hI (ihL g (by omega) t x S _ h hx h0) fun w' hI=>?_
  exact done hI rfl
 rename_i hp
 have hp:=Bool.eq_false_iff.2 hp
 rw [hp]
 refine bg (fun hb=>by cases hb) (fun _=>?_)
 refine bb hI 0 aj rfl rfl ?_
 refine Run.callPure oB oe hI (kw h0) fun w' hI=>?_
 split at h
 ·rename_i hf
  rw [hf]
  refine bg (fun _=>?_) (fun hb=>by cases hb)
  split at h
  ·rename_i a b hab
   obtain ⟨lv,hlv⟩:∃ lv,lv=cG t.name:=⟨_,rfl⟩
   rw [<- hlv] at h
   have hlr:1<=lv/\lv<=3:=by
    have h1:0<cG t.name:=by
     unfold jN at hf
     simp only [Bool.and_eq_true,decide_eq_true_eq] at hf
     exact hf.2.2
    have h2:cG t.name<=3:=by
     unfold cG
     split
     ·omega
     ·split
      ·omega
      ·split <;> omega
    omega
   split at h
   ·rename_i y z hy hz
    simp only [Option.some.injEq] at h
    have hlen:y.length+(fH (bs t.name)).length+z.length=x.length:=by rw [<- h]; simp only [List.length_append]
    have hsp:(bs t.name).length<=(fH (bs t.name)).length:=by
     unfold fH
     split
     ·simp; omega
     ·omega
    rw [hab] at hk
    obtain ⟨b2,o2,cap2,c2,E2,fz2,rfl,hS,hRa⟩:=hk.at_ (i:=0) (by simp)
    obtain ⟨b2',o2',cap2',c2',E2',fz2',hsl,hS',hRb⟩:=hk.at_ (i:=1) (by simp)
    cases hsl
    rw [hS] at hS'
    cases hS'
    rw [List.getElem_cons_zero] at hRa
    rw [List.getElem_cons_succ,List.getElem_cons_zero] at hRb
    refine aH hI 0 rfl bu bq rfl ?_
    refine Run.callPure eC ez hI (dH _ S) fun w' hI=>?_
    rw [<- hlv]
    have hI:Inv w [] [B1] S w':=by rw [hB1]; exact hI
    refine ⟨fun v w'=>v=.int .i64 (if lv=3 then 2 else lv)/\Inv w [] [B1] S w',?_,?_⟩
    ·refine bK ?_
     refine bz (fun h3=>⟨by rw [if_pos h3],hI⟩) (fun h3=>⟨by rw [if_neg h3],hI⟩)
    intro t4 _ _ w'
    rintro ⟨rfl,hI⟩
    subst hB1
    skip
    refine ⟨fun D x2 dD dS er eY ew d3 dF dq di dp cX cM dn dr de cY cK c4 w_=>(D 0=true->c4=.pointer (some ⟨b1,3,none⟩))/\(D 1=true->cK=.slice (some ⟨b2,o2,none⟩) [a,b].length cap2)/\(D 2=true->cY=.pointer (some ⟨b2,o2+0 * 4,none⟩))/\(D 3=true->de=.agg (bB c2 (o2+0 * 4) 4).toArray)/\(D 4=true->dr=.int .i64 (if lv=3 then 2 else lv))/\(D 5=true->dn=.string (st y))/\(D 6=true->cM=.pointer (some ⟨b1,2,none⟩))/\(D 7=true->cX=.string t.name)/\(D 8=true->dp=.string (st (fH (bs t.name))))/\(D 9=true->di=.string (st (y++fH (bs t.name))))/\(D 10=true->dq=.pointer (some ⟨b1,3,none⟩))/\(D 11=true->dF=.slice (some ⟨b2,o2,none⟩) [a,b].length cap2)/\(D 12=true->d3=.pointer (some ⟨b2,o2+1 * 4,none⟩))/\(D 13=true->ew=.agg (bB c2 (o2+1 * 4) 4).toArray)/\(D 14=true->eY=.int .i64 lv)/\(D 15=true->er=.int .i64 (lv - 1))/\(D 16=true->dS=.string (st z))/\(D 17=true->dD=.string (st (y++fH (bs t.name)++z)))/\(D 18=true->x2=.string (st (y++fH (bs t.name)++z)))/\Inv w [] [.blk b1 (.cells #[.int .i64 t.kind,.int .i64 t.n,.string t.name,.slice (some ⟨b2,o2,none⟩) [a,b].length cap2] ac)] S w_,⟨af,af,af,af,af,af,af,af,af,af,af,af,af,af,af,af,af,af,af,hI.draw⟩,⟨?_,?_,?_,?_,?_,?_,?_,?_,?_,?_,?_,?_,?_,?_,?_,?_,?_,?_,?_,trivial⟩,?_⟩
    ·intro D a6  x2 dD dS er eY ew d3 dF dq di dp cX cM dn dr de cY cK c4 w_
     rintro ⟨aF,aC,aB,aE,aD,aG,az,aK,aQ,aU,ao,ar,aw,aI,aJ,aM,aO,aN,aP,hI⟩
     refine bh a9 ?_
     exact ⟨fun _=>rfl,aC,aB,aE,aD,aG,az,aK,aQ,aU,ao,ar,aw,aI,aJ,aM,aO,aN,aP,hI⟩
    ·intro D a6 dc x2 dD dS er eY ew d3 dF dq di dp cX cM dn dr de cY cK c4 w_
     rintro ⟨aF,aC,aB,aE,aD,aG,az,aK,aQ,aU,ao,ar,aw,aI,aJ,aM,aO,aN,aP,hI⟩
     obtain rfl:=aF dc
     refine bG hI 0 aV rfl rfl ?_
     exact ⟨aF,fun _=>rfl,aB,aE,aD,aG,az,aK,aQ,aU,ao,ar,aw,aI,aJ,aM,aO,aN,aP,hI⟩
    ·intro D a6 eB x2 dD dS er eY ew d3 dF dq di dp cX cM dn dr de cY cK c4 w_
     rintro ⟨aF,aC,aB,aE,aD,aG,az,aK,aQ,aU,ao,ar,aw,aI,aJ,aM,aO,aN,aP,hI⟩
     obtain rfl:=aC eB
     refine bv (i:=0) aS (by simp) ?_
     exact ⟨aF,aC,fun _=>rfl,aE,aD,aG,az,aK,aQ,aU,ao,ar,aw,aI,aJ,aM,aO,aN,aP,hI⟩
    ·intro D a6 dy x2 dD dS er eY ew d3 dF dq di dp cX cM dn dr de cY cK c4 w_
     rintro ⟨aF,aC,aB,aE,aD,aG,az,aK,aQ,aU,ao,ar,aw,aI,aJ,aM,aO,aN,aP,hI⟩
     obtain rfl:=aB dy
     refine dM aj hRa.length (fun j v hj=>by rw [hI.cellS hS]; exact bC rfl j v hj) ?_
     exact ⟨aF,aC,aB,fun _=>rfl,aD,aG,az,aK,aQ,aU,ao,ar,aw,aI,aJ,aM,aO,aN,aP,hI⟩
    ·intro D a6  x2 dD dS er eY ew d3 dF dq di dp cX cM dn dr de cY cK c4 w_
     rintro ⟨aF,aC,aB,aE,aD,aG,az,aK,aQ,aU,ao,ar,aw,aI,aJ,aM,aO,aN,aP,hI⟩
     exact ⟨aF,aC,aB,aE,fun _=>rfl,aG,az,aK,aQ,aU,ao,ar,aw,aI,aJ,aM,aO,aN,aP,hI⟩
    ·intro D a6 ef ev x2 dD dS er eY ew d3 dF dq di dp cX cM dn dr de cY cK c4 w_
     rintro ⟨aF,aC,aB,aE,aD,aG,az,aK,aQ,aU,ao,ar,aw,aI,aJ,aM,aO,aN,aP,hI⟩
     obtain rfl:=aE ef
     obtain rfl:=aD ev
     refine Run.callPure zI yh hI (ihF g (by omega) a _ y S _ hy (by omega) hRa) fun w_ hI=>?_
     exact ⟨aF,aC,aB,aE,aD,fun _=>rfl,az,aK,aQ,aU,ao,ar,aw,aI,aJ,aM,aO,aN,aP,hI⟩
    ·intro D a6  x2 dD dS er eY ew d3 dF dq di dp cX cM dn dr de cY cK c4 w_
     rintro ⟨aF,aC,aB,aE,aD,aG,az,aK,aQ,aU,ao,ar,aw,aI,aJ,aM,aO,aN,aP,hI⟩
     refine bh bu ?_
     exact ⟨aF,aC,aB,aE,aD,aG,fun _=>rfl,aK,aQ,aU,ao,ar,aw,aI,aJ,aM,aO,aN,aP,hI⟩
    ·intro D a6 cw x2 dD dS er eY ew d3 dF dq di dp cX cM dn dr de cY cK c4 w_
     rintro ⟨aF,aC,aB,aE,aD,aG,az,aK,aQ,aU,ao,ar,aw,aI,aJ,aM,aO,aN,aP,hI⟩
     obtain rfl:=az cw
     refine bG hI 0 bq rfl rfl ?_
     exact ⟨aF,aC,aB,aE,aD,aG,az,fun _=>rfl,aQ,aU,ao,ar,aw,aI,aJ,aM,aO,aN,aP,hI⟩
    ·intro D a6 d6 gd x2 dD dS er eY ew d3 dF dq di dp cX cM dn dr de cY cK c4 w_
     rintro ⟨aF,aC,aB,aE,aD,aG,az,aK,aQ,aU,ao,ar,aw,aI,aJ,aM,aO,aN,aP,hI⟩
     obtain rfl:=aK d6
     refine Run.callPure vm uX hI (uc (bs t.name) (by omega)) fun w_ hI=>?_
     exact ⟨aF,aC,aB,aE,aD,aG,az,aK,fun _=>rfl,aU,ao,ar,aw,aI,aJ,aM,aO,aN,aP,hI⟩
    ·intro D a6 eq fh x2 dD dS er eY ew d3 dF dq di dp cX cM dn dr de cY cK c4 w_
     rintro ⟨aF,aC,aB,aE,aD,aG,az,aK,aQ,aU,ao,ar,aw,aI,aJ,aM,aO,aN,aP,hI⟩
     obtain rfl:=aG eq
     obtain rfl:=aQ fh
     refine dw (by omega) ?_
     exact ⟨aF,aC,aB,aE,aD,aG,az,aK,aQ,fun _=>rfl,ao,ar,aw,aI,aJ,aM,aO,aN,aP,hI⟩
    ·intro D a6  x2 dD dS er eY ew d3 dF dq di dp cX cM dn dr de cY cK c4 w_
     rintro ⟨aF,aC,aB,aE,aD,aG,az,aK,aQ,aU,ao,ar,aw,aI,aJ,aM,aO,aN,aP,hI⟩
     refine bh a9 ?_
     exact ⟨aF,aC,aB,aE,aD,aG,az,aK,aQ,aU,fun _=>rfl,ar,aw,aI,aJ,aM,aO,aN,aP,hI⟩
    ·intro D a6 iC x2 dD dS er eY ew d3 dF dq di dp cX cM dn dr de cY cK c4 w_
     rintro ⟨aF,aC,aB,aE,aD,aG,az,aK,aQ,aU,ao,ar,aw,aI,aJ,aM,aO,aN,aP,hI⟩
     obtain rfl:=ao iC
     refine bG hI 0 aV rfl rfl ?_
     exact ⟨aF,aC,aB,aE,aD,aG,az,aK,aQ,aU,ao,fun _=>rfl,aw,aI,aJ,aM,aO,aN,aP,hI⟩
    ·intro D a6 kl x2 dD dS er eY ew d3 dF dq di dp cX cM dn dr de cY cK c4 w_
     rintro ⟨aF,aC,aB,aE,aD,aG,az,aK,aQ,aU,ao,ar,aw,aI,aJ,aM,aO,aN,aP,hI⟩
     obtain rfl:=ar kl
     refine bv (i:=1) aS (by simp) ?_
     exact ⟨aF,aC,aB,aE,aD,aG,az,aK,aQ,aU,ao,ar,fun _=>rfl,aI,aJ,aM,aO,aN,aP,hI⟩
    ·intro D a6 kF x2 dD dS er eY ew d3 dF dq di dp cX cM dn dr de cY cK c4 w_
     rintro ⟨aF,aC,aB,aE,aD,aG,az,aK,aQ,aU,ao,ar,aw,aI,aJ,aM,aO,aN,aP,hI⟩
     obtain rfl:=aw kF
     refine dM aj hRb.length (fun j v hj=>by rw [hI.cellS hS]; exact bC rfl j v hj) ?_
     exact ⟨aF,aC,aB,aE,aD,aG,az,aK,aQ,aU,ao,ar,aw,fun _=>rfl,aJ,aM,aO,aN,aP,hI⟩
    ·intro D a6  x2 dD dS er eY ew d3 dF dq di dp cX cM dn dr de cY cK c4 w_
     rintro ⟨aF,aC,aB,aE,aD,aG,az,aK,aQ,aU,ao,ar,aw,aI,aJ,aM,aO,aN,aP,hI⟩
     exact ⟨aF,aC,aB,aE,aD,aG,az,aK,aQ,aU,ao,ar,aw,aI,fun _=>rfl,aM,aO,aN,aP,hI⟩
    ·intro D a6 wB x2 dD dS er eY ew d3 dF dq di dp cX cM dn dr de cY cK c4 w_
     rintro ⟨aF,aC,aB,aE,aD,aG,az,aK,aQ,aU,ao,ar,aw,aI,aJ,aM,aO,aN,aP,hI⟩
     obtain rfl:=aJ wB
     refine pF (by omega) ?_
     exact ⟨aF,aC,aB,aE,aD,aG,az,aK,aQ,aU,ao,ar,aw,aI,aJ,fun _=>rfl,aO,aN,aP,hI⟩
    ·intro D a6 i7 F1 p7 x2 dD dS er eY ew d3 dF dq di dp cX cM dn dr de cY cK c4 w_
     rintro ⟨aF,aC,aB,aE,aD,aG,az,aK,aQ,aU,ao,ar,aw,aI,aJ,aM,aO,aN,aP,hI⟩
     obtain rfl:=aI i7
     obtain rfl:=aM F1
     refine Run.callPure wM xu hI (ihR g (by omega) b _ z S _ hz (by omega) hRb) fun w_ hI=>?_
     exact ⟨aF,aC,aB,aE,aD,aG,az,aK,aQ,aU,ao,ar,aw,aI,aJ,aM,fun _=>rfl,aN,aP,hI⟩
    ·intro D a6 vS lU x2 dD dS er eY ew d3 dF dq di dp cX cM dn dr de cY cK c4 w_
     rintro ⟨aF,aC,aB,aE,aD,aG,az,aK,aQ,aU,ao,ar,aw,aI,aJ,aM,aO,aN,aP,hI⟩
     obtain rfl:=aU vS
     obtain rfl:=aO lU
     refine dw (by rw [List.length_append]; omega) ?_
     exact ⟨aF,aC,aB,aE,aD,aG,az,aK,aQ,aU,ao,ar,aw,aI,aJ,aM,aO,fun _=>rfl,aP,hI⟩
    ·intro D a6 DL lU CO Cq xx CT CN CC Cw Fs FT FU Fy Fr E4 FA Fd E8 E7 E6 x2 dD dS er eY ew d3 dF dq di dp cX cM dn dr de cY cK c4 w_
     rintro ⟨aF,aC,aB,aE,aD,aG,az,aK,aQ,aU,ao,ar,aw,aI,aJ,aM,aO,aN,aP,hI⟩
     obtain rfl:=aN DL
     exact ⟨aF,aC,aB,aE,aD,aG,az,aK,aQ,aU,ao,ar,aw,aI,aJ,aM,aO,aN,fun _=>rfl,hI⟩
    intro D sV ui tv uC qB si ky gw fK kA iV ii gM gT hO iR im iT iS x2 dD dS er eY ew d3 dF dq di dp cX cM dn dr de cY cK c4 w_
    rintro ⟨aF,aC,aB,aE,aD,aG,az,aK,aQ,aU,ao,ar,aw,aI,aJ,aM,aO,aN,aP,hI⟩
    obtain rfl:=aP sV
    obtain rfl:=aN ui
    obtain rfl:=aO tv
    obtain rfl:=aM uC
    obtain rfl:=aJ qB
    obtain rfl:=aI si
    obtain rfl:=aw ky
    obtain rfl:=ar gw
    obtain rfl:=ao fK
    obtain rfl:=aU kA
    obtain rfl:=aQ iV
    obtain rfl:=aK ii
    obtain rfl:=az gM
    obtain rfl:=aG gT
    obtain rfl:=aD hO
    obtain rfl:=aE iR
    obtain rfl:=aB im
    obtain rfl:=aC iT
    obtain rfl:=aF iS
    clear aF aC aB aE aD aG az aK aQ aU ao ar aw aI aJ aM aO aN aP
    exact done hI (by rw [<- h])
   ·cases h
  ·cases h
 ·rename_i hf
  rw [Bool.eq_false_iff.2 hf]
  refine bg (fun hb=>by cases hb) (fun _=>?_)
  obtain ⟨ka,kc,rfl,_⟩:=id hk
  refine ⟨fun v w'=>v=.bool (decide (t.kind=3) && decide (0<t.kids.length))/\Inv w [] [B1] S w',?_,?_⟩
  ·refine aH hI 0 rfl bF bw rfl ?_
   by_cases h3:t.kind=3
   ·refine eK h3 ?_
    repeat (first|refine ad ?_|refine ag (by decide) ?_|refine ae ?_|refine aq ?_|refine al ?_)
    refine aH hI 0 rfl a9 aV rfl ?_
    refine iD aS ?_
    refine eN ?_
    repeat (first|refine ad ?_|refine ag (by decide) ?_|refine ae ?_|refine aq ?_|refine al ?_)
    refine ⟨?_,by rw [hB1]; exact hI⟩
    rw [decide_eq_true h3,Bool.true_and]
    congr 1
    rw [decide_eq_decide]
    omega
   ·refine dR h3 ?_
    repeat (first|refine ad ?_|refine ag (by decide) ?_|refine ae ?_|refine aq ?_|refine al ?_)
    exact ⟨by rw [decide_eq_false h3,Bool.false_and],by rw [hB1]; exact hI⟩
  intro t37 _ _ _ _ _ _ _ _ _ w'
  rintro ⟨rfl,hI⟩
  subst hB1
  split at h
  ·rename_i hc3
   rw [decide_eq_true hc3.1,decide_eq_true hc3.2]
   refine bg (fun _=>?_) (fun hb=>by cases hb)
   split at h
   ·rename_i y hy
    simp only [Option.some.injEq] at h
    have hlen:(bs t.name).length+y.length+2=x.length:=by rw [<- h]; simp only [List.length_append,List.length_cons,List.length_nil]; omega
    skip
    refine ⟨fun D x2 cW cA cq cB cC cE cD cz w_=>(D 0=true->cz=.pointer (some ⟨b1,2,none⟩))/\(D 1=true->cD=.string t.name)/\(D 2=true->cE=.string (st (bs t.name++[40])))/\(D 3=true->cC=.pointer (some ⟨b1,3,none⟩))/\(D 4=true->cB=.slice ka t.kids.length kc)/\(D 5=true->cq=.string (st y))/\(D 6=true->cA=.string (st (bs t.name++[40]++y)))/\(D 7=true->cW=.string (st (bs t.name++[40]++y++[41])))/\(D 8=true->x2=.string (st (bs t.name++[40]++y++[41])))/\Inv w [] [.blk b1 (.cells #[.int .i64 t.kind,.int .i64 t.n,.string t.name,.slice ka t.kids.length kc] ac)] S w_,⟨af,af,af,af,af,af,af,af,af,hI.draw⟩,⟨?_,?_,?_,?_,?_,?_,?_,?_,?_,trivial⟩,?_⟩
    ·intro D a6  x2 cW cA cq cB cC cE cD cz w_
     rintro ⟨aF,aC,aB,aE,aD,aG,az,aK,aQ,hI⟩
     refine bh bu ?_
     exact ⟨fun _=>rfl,aC,aB,aE,aD,aG,az,aK,aQ,hI⟩
    ·intro D a6 dc x2 cW cA cq cB cC cE cD cz w_
     rintro ⟨aF,aC,aB,aE,aD,aG,az,aK,aQ,hI⟩
     obtain rfl:=aF dc
     refine bG hI 0 bq rfl rfl ?_
     exact ⟨aF,fun _=>rfl,aB,aE,aD,aG,az,aK,aQ,hI⟩
    ·intro D a6 eB x2 cW cA cq cB cC cE cD cz w_
     rintro ⟨aF,aC,aB,aE,aD,aG,az,aK,aQ,hI⟩
     obtain rfl:=aC eB
     refine dw (a:=bs t.name) (b:=[40]) (by simp only [List.length_cons,List.length_nil]; omega) ?_
     exact ⟨aF,aC,fun _=>rfl,aE,aD,aG,az,aK,aQ,hI⟩
    ·intro D a6  x2 cW cA cq cB cC cE cD cz w_
     rintro ⟨aF,aC,aB,aE,aD,aG,az,aK,aQ,hI⟩
     refine bh a9 ?_
     exact ⟨aF,aC,aB,fun _=>rfl,aD,aG,az,aK,aQ,hI⟩
    ·intro D a6 ef x2 cW cA cq cB cC cE cD cz w_
     rintro ⟨aF,aC,aB,aE,aD,aG,az,aK,aQ,hI⟩
     obtain rfl:=aE ef
     refine bG hI 0 aV rfl rfl ?_
     exact ⟨aF,aC,aB,aE,fun _=>rfl,aG,az,aK,aQ,hI⟩
    ·intro D a6 jj x2 cW cA cq cB cC cE cD cz w_
     rintro ⟨aF,aC,aB,aE,aD,aG,az,aK,aQ,hI⟩
     obtain rfl:=aD jj
     refine Run.callPure kM lq hI (ihA g (by omega) t.kids y S _ hy (by omega) hk) fun w_ hI=>?_
     exact ⟨aF,aC,aB,aE,aD,fun _=>rfl,az,aK,aQ,hI⟩
    ·intro D a6 dy gd x2 cW cA cq cB cC cE cD cz w_
     rintro ⟨aF,aC,aB,aE,aD,aG,az,aK,aQ,hI⟩
     obtain rfl:=aB dy
     obtain rfl:=aG gd
     refine dw (by simp only [List.length_append,List.length_cons,List.length_nil]; omega) ?_
     exact ⟨aF,aC,aB,aE,aD,aG,fun _=>rfl,aK,aQ,hI⟩
    ·intro D a6 cw x2 cW cA cq cB cC cE cD cz w_
     rintro ⟨aF,aC,aB,aE,aD,aG,az,aK,aQ,hI⟩
     obtain rfl:=az cw
     refine dw (b:=[41]) (by simp only [List.length_append,List.length_cons,List.length_nil]; omega) ?_
     exact ⟨aF,aC,aB,aE,aD,aG,az,fun _=>rfl,aQ,hI⟩
    ·intro D a6 d6 gd CO Cq xx CT CN CC Cw Fs x2 cW cA cq cB cC cE cD cz w_
     rintro ⟨aF,aC,aB,aE,aD,aG,az,aK,aQ,hI⟩
     obtain rfl:=aK d6
     exact ⟨aF,aC,aB,aE,aD,aG,az,aK,fun _=>rfl,hI⟩
    intro D iV ii gM gT hO iR im iT iS x2 cW cA cq cB cC cE cD cz w_
    rintro ⟨aF,aC,aB,aE,aD,aG,az,aK,aQ,hI⟩
    obtain rfl:=aQ iV
    obtain rfl:=aK ii
    obtain rfl:=az gM
    obtain rfl:=aG gT
    obtain rfl:=aD hO
    obtain rfl:=aE iR
    obtain rfl:=aB im
    obtain rfl:=aC iT
    obtain rfl:=aF iS
    clear aF aC aB aE aD aG az aK aQ
    exact done hI (by rw [<- h])
   ·cases h
  ·rename_i hc3
   have e:(decide (t.kind=3) && decide (0<t.kids.length))=false:=by
    rw [Bool.eq_false_iff,ne_eq,Bool.and_eq_true,decide_eq_true_eq,decide_eq_true_eq]; exact hc3
   rw [e]
   refine bg (fun hb=>by cases hb) (fun _=>?_)
   refine bb hI 0 aj rfl rfl ?_
   refine Run.callPure zH zX hI (xC h0 hp h) fun w' hI=>?_
   exact done hI rfl
theorem BM:∀ F f,f<F->F<=1000->rH f/\Bv f/\ye f/\lY f/\AF f/\yd f
 | 0,f,h,_=>by omega
 | F+1,f,h,hF=>by
  have ih:=fun g (hg:g<f)=>BM F g (by omega) (by omega)
  have hT:rH f:=Fw (fun g hg=>(ih g hg).2.1) (fun g hg=>(ih g hg).2.2.1) (fun g hg=>(ih g hg).2.2.2.2.1) (fun g hg=>(ih g hg).2.2.2.2.2)
  exact ⟨hT,EB (by omega) (fun g hg=>(ih g hg).1) (fun g hg=>(ih g hg).2.2.1),EI fun g hg=>(ih g hg).1,A8 fun g hg=>(ih g hg).1,EW (fun g hg=>(ih g hg).1) (fun g hg=>(ih g hg).2.2.2.1),DC fun g hg=>(ih g hg).2.2.2.1⟩
theorem wu {f:Nat} (hf:f<=100):rH f:=(BM (f+1) f (by omega) (by omega)).1
end
end Go.Proofs.YtmnnpgdeecnfpaaGreat

/- Copies whose topmost row is still the caller's own, all else published. (printed by gen_top.py out of Copy and CopyC) -/
namespace Go.Proofs.YtmnnpgdeecnfpaaGreat
open Go Go.RowKit
theorem Grown.rows {α:Type} {k:Nat} {R:bn->List Value->α->Prop} {R':List Value->α->Prop} {Ls:List bn} {css:List (List Value)} {ys:List α} {S:ax} (h:Grown k R Ls css ys) (hi:Ins S Ls.flatten)
  (hR:∀ L cs x,Ins S L->R L cs x->R' cs x):Rows k R' css ys:=
 ⟨h.hc,h.hk,fun i h1 h2=>hR _ _ _ (xe hi (by rw [h.hL]; exact h1)) (h.hR i h1 (by rw [h.hL]; exact h1) h2)⟩
abbrev Df (t:T):Value->List Item->ax->Prop:=fun v I' S'=>∃ kv css,v=.agg #[.int .i64 t.kind,.int .i64 t.n,.string t.name,kv]/\I'=[be kv ac 4 css]/\Rows 4 (RdT S') css t.kids
abbrev Dh (c:C):Value->List Item->ax->Prop:=fun v I' S'=>∃ hd kv css,v=.agg (hd++[kv]).toArray/\RdT S' hd c.head/\I'=[be kv ac 4 css]/\Rows 4 (RdT S') css c.body
section
attribute [local irreducible] Run CondV ah ba
theorem CP:∀ (t:T) (S:ax) (cs:List Value),RdT S cs t->wT t<=1048576->Tri Tryz.prog m7 [.agg cs.toArray] [] S (Df t):=by
 intro t S cs h hw
 obtain ⟨k,n,s,ks⟩:=t
 have ih:∀ t∈ks,∀ (S:ax) (cs:List Value),RdT S cs t->wT t<=1048576->Tri Tryz.prog m7 [.agg cs.toArray] [] S (rO S t):=fun t _=>fQ t
 intro w hI
 obtain ⟨kv,rfl,h1,h2,hs,hks⟩:=RdT.iff.1 h
 simp only [T.name,T.kids,T.kind,T.n] at h1 h2 hs hks ⊢
 simp only [wT] at hw
 refine lf ?_
 unfold lF
 refine co hI fun b1 w' hI=>?_
 refine bm hI bx fun b2 w' hI=>?_
 refine aH hI 0 rfl bF bw rfl ?_
 refine aH hI 0 rfl bE bw rfl ?_
 refine aH hI 0 rfl bu bq rfl ?_
 refine jc ?_
 refine bm hI bx fun b3 w' hI=>?_
 refine aX hI 2 rfl aj rfl rfl (by simp [Value.oneCell']) fun w' hI=>?_
 have hI:=hI.rowNil ac 4
 refine ⟨fun i w'=>∃ (j:Nat) (kvc:Value) (Ls:List bn) (css:List (List Value)),j<=ks.length/\i=.int .i64 j/\Grown 4 TrT Ls css (ks.take j)/\
   Inv w [] (.blk b1 (.cells #[.int .i64 k,.int .i64 n,.string s,kv] ac)::.blk b2 (.cells #[.int .i64 0,.int .i64 0,.string ⟨#[]⟩,.slice none 0 0] ac)::.blk b3 (.cells #[.int .i64 k,.int .i64 n,.string s,kvc] ac)::be kvc ac 4 css::bk Ls.flatten) S w',
  fun i _=>ks.length - (intOf i).toNat,⟨0,_,[],[],Nat.zero_le _,rfl,Grown.nil _ _,hI⟩,?_⟩
 intro t4 _ _ _ _ _ _ _ _ _ _ _ _ _ _ _ _ _ _ w'
 rintro ⟨j,kvc,Ls,css,hj,rfl,hg,hI⟩
 refine aH hI 0 rfl a9 aV rfl ?_
 refine bo hks aS ?_
 refine dh ?_
 refine bz (fun hji=>?_) (fun hji=>?_)
 ·have hj':j<ks.length:=by omega
  have hjl:(ks.take j).length=j:=by simp; omega
  have hcl:=hg.hc
  have hm:=List.getElem_mem hj'
  have hwm:=fV hm
  obtain ⟨b,o,cap,c,E,fz,rfl,hS,hR⟩:=hks.at_ hj'
  refine ⟨fun D dq di dp cX cM dn dr de cY cK c4 w_=>(D 0=true->c4=.pointer (some ⟨b3,3,none⟩))/\(D 1=true->cK=kvc)/\(D 2=true->cY=.pointer (some ⟨b1,3,none⟩))/\(D 3=true->de=.slice (some ⟨b,o,none⟩) (ks).length cap)/\(D 4=true->dr=.int .i64 j)/\(D 5=true->dn=.pointer (some ⟨b,o+j * 4,none⟩))/\(D 6=true->cM=.agg (bB c (o+j * 4) 4).toArray)/\(D 7=true->True)/\(D 8=true->True)/\(D 9=true->True)/\(D 10=true->dq=.pointer (some ⟨b3,3,none⟩))/\(D 11=true->True)/\∃ M cs7 b8,(D 7=true->cX=.agg cs7.toArray/\TrT M cs7 (ks)[j])/\(D 8=true->dp=.slice (some ⟨b8,0,none⟩) 1 1)/\(D 8=true->D 7=true)/\(D 9=true->D 8=true)/\(D 11=true->D 9=true)/\(D 11=true->D 1=true)/\Inv w [] (bd (.blk b1 (.cells #[.int .i64 k,.int .i64 n,.string s,.slice (some ⟨b,o,none⟩) ks.length cap] ac)) (.blk b2 (.cells #[.int .i64 0,.int .i64 0,.string ⟨#[]⟩,.slice none 0 0] ac)) (.blk b3 (.cells #[.int .i64 k,.int .i64 n,.string s,kvc] ac)) (.blk b3 (.cells #[.int .i64 k,.int .i64 n,.string s,di] ac)) (be kvc ac 4 css) (be di ac 4 (css++[cs7])) (bk Ls.flatten) M (.blk b8 (.cells cs7.toArray ac)) (D 7) (D 8) (D 9) (D 11)) S w_,⟨af,af,af,af,af,af,af,af,af,af,af,af,⟨[],[],0,af,af,af,af,af,af,by simpa [bd,bk] using hI.draw⟩⟩,⟨?_,?_,?_,?_,?_,?_,?_,?_,?_,?_,?_,?_,trivial⟩,?_⟩
  ·intro D a6  dq di dp cX cM dn dr de cY cK c4 w_
   rintro ⟨aF,aC,aB,aE,aD,aG,az,aK,aQ,aU,ao,ar,⟨M,cs7,b8,e7,e8,k8,k9,k11,k1,hI⟩⟩
   refine bh a9 ?_
   exact ⟨fun _=>rfl,aC,aB,aE,aD,aG,az,aK,aQ,aU,ao,ar,⟨M,cs7,b8,e7,e8,k8,k9,k11,k1,hI⟩⟩
  ·intro D a6 dc dq di dp cX cM dn dr de cY cK c4 w_
   rintro ⟨aF,aC,aB,aE,aD,aG,az,aK,aQ,aU,ao,ar,⟨M,cs7,b8,e7,e8,k8,k9,k11,k1,hI⟩⟩
   obtain rfl:=aF dc
   have f11:D 11=false:=Bool.eq_false_iff.2 fun h=>by rw [k1 h] at a6; cases a6
   refine bG (b:=b3) hI 2 (c:=(#[.int .i64 k,.int .i64 n,.string s,kvc])) aV (by rw [f11]; rfl) rfl ?_
   have k1:=fun (_:av D 1 11=true)=>(rfl:av D 1 1=true)
   exact ⟨aF,fun _=>rfl,aB,aE,aD,aG,az,aK,aQ,aU,ao,ar,⟨M,cs7,b8,e7,e8,k8,k9,k11,k1,hI⟩⟩
  ·intro D a6  dq di dp cX cM dn dr de cY cK c4 w_
   rintro ⟨aF,aC,aB,aE,aD,aG,az,aK,aQ,aU,ao,ar,⟨M,cs7,b8,e7,e8,k8,k9,k11,k1,hI⟩⟩
   refine bh a9 ?_
   exact ⟨aF,aC,fun _=>rfl,aE,aD,aG,az,aK,aQ,aU,ao,ar,⟨M,cs7,b8,e7,e8,k8,k9,k11,k1,hI⟩⟩
  ·intro D a6 dy dq di dp cX cM dn dr de cY cK c4 w_
   rintro ⟨aF,aC,aB,aE,aD,aG,az,aK,aQ,aU,ao,ar,⟨M,cs7,b8,e7,e8,k8,k9,k11,k1,hI⟩⟩
   obtain rfl:=aB dy
   refine bG hI 0 aV rfl rfl ?_
   exact ⟨aF,aC,aB,fun _=>rfl,aD,aG,az,aK,aQ,aU,ao,ar,⟨M,cs7,b8,e7,e8,k8,k9,k11,k1,hI⟩⟩
  ·intro D a6  dq di dp cX cM dn dr de cY cK c4 w_
   rintro ⟨aF,aC,aB,aE,aD,aG,az,aK,aQ,aU,ao,ar,⟨M,cs7,b8,e7,e8,k8,k9,k11,k1,hI⟩⟩
   exact ⟨aF,aC,aB,aE,fun _=>rfl,aG,az,aK,aQ,aU,ao,ar,⟨M,cs7,b8,e7,e8,k8,k9,k11,k1,hI⟩⟩
  ·intro D a6 ef ev dq di dp cX cM dn dr de cY cK c4 w_
   rintro ⟨aF,aC,aB,aE,aD,aG,az,aK,aQ,aU,ao,ar,⟨M,cs7,b8,e7,e8,k8,k9,k11,k1,hI⟩⟩
   obtain rfl:=aE ef
   obtain rfl:=aD ev
   refine bv aS hj' ?_
   exact ⟨aF,aC,aB,aE,aD,fun _=>rfl,az,aK,aQ,aU,ao,ar,⟨M,cs7,b8,e7,e8,k8,k9,k11,k1,hI⟩⟩
  ·intro D a6 eq dq di dp cX cM dn dr de cY cK c4 w_
   rintro ⟨aF,aC,aB,aE,aD,aG,az,aK,aQ,aU,ao,ar,⟨M,cs7,b8,e7,e8,k8,k9,k11,k1,hI⟩⟩
   obtain rfl:=aG eq
   refine dM aj hR.length (fun j v hj=>by rw [hI.cellS hS]; exact bC rfl j v hj) ?_
   exact ⟨aF,aC,aB,aE,aD,aG,fun _=>rfl,aK,aQ,aU,ao,ar,⟨M,cs7,b8,e7,e8,k8,k9,k11,k1,hI⟩⟩
  ·intro D a6 cw dq di dp cX cM dn dr de cY cK c4 w_
   rintro ⟨aF,aC,aB,aE,aD,aG,az,aK,aQ,aU,ao,ar,⟨M,cs7,b8,e7,e8,k8,k9,k11,k1,hI⟩⟩
   obtain rfl:=az cw
   have f8:D 8=false:=Bool.eq_false_iff.2 fun h=>by rw [k8 h] at a6; cases a6
   have f9:D 9=false:=Bool.eq_false_iff.2 fun h=>by rw [k9 h] at f8; cases f8
   have f11:D 11=false:=Bool.eq_false_iff.2 fun h=>by rw [k11 h] at f9; cases f9
   rw [a6,f8,f9,f11] at hI
   refine Run.call0 eW eT hI (ih _ (List.getElem_mem hj') S _ hR (by omega)) fun v' I' S w_=>?_
   rintro ⟨rfl,cs7,M,rfl,rfl,hT⟩ _ hI
   have e7:av D 7 7=true->Value.agg cs7.toArray=Value.agg cs7.toArray/\TrT M cs7 (ks)[j]:=fun _=>⟨rfl,hT⟩
   have k8:=fun (_:av D 7 8=true)=>(rfl:av D 7 7=true)
   have hI:Inv w [] (bd (.blk b1 (.cells #[.int .i64 k,.int .i64 n,.string s,.slice (some ⟨b,o,none⟩) ks.length cap] ac)) (.blk b2 (.cells #[.int .i64 0,.int .i64 0,.string ⟨#[]⟩,.slice none 0 0] ac)) (.blk b3 (.cells #[.int .i64 k,.int .i64 n,.string s,kvc] ac)) (.blk b3 (.cells #[.int .i64 k,.int .i64 n,.string s,di] ac)) (be kvc ac 4 css) (be di ac 4 (css++[cs7])) (bk Ls.flatten) M (.blk b8 (.cells cs7.toArray ac)) true (D 8) (D 9) (D 11)) S w_:=by
    rw [f8,f9,f11]
    simpa [bd] using hI
   exact ⟨aF,aC,aB,aE,aD,aG,az,fun _=>by first|assumption|trivial,aQ,aU,ao,ar,⟨M,cs7,b8,e7,e8,k8,k9,k11,k1,hI⟩⟩
  ·intro D a6 d6 dq di dp cX cM dn dr de cY cK c4 w_
   rintro ⟨aF,aC,aB,aE,aD,aG,az,aK,aQ,aU,ao,ar,⟨M,cs7,b8,e7,e8,k8,k9,k11,k1,hI⟩⟩
   have Eq:=aK d6
   have f9:D 9=false:=Bool.eq_false_iff.2 fun h=>by rw [k9 h] at a6; cases a6
   have f11:D 11=false:=Bool.eq_false_iff.2 fun h=>by rw [k11 h] at f9; cases f9
   obtain ⟨q7,hT⟩:=e7 d6
   subst q7
   rw [d6,a6,f9,f11] at hI
   refine dg hI bt (by simp [Value.cells,hT.length]) (by omega) (by omega) fun b8 w_ hI=>?_
   have e7:av D 8 7=true->Value.agg cs7.toArray=Value.agg cs7.toArray/\TrT M cs7 (ks)[j]:=fun _=>⟨rfl,hT⟩
   have e8:=fun (_:av D 8 8=true)=>(rfl:Value.slice (some ⟨b8,0,none⟩) 1 1=_)
   have k8:=fun (_:av D 8 8=true)=>d6
   have k9:=fun (_:av D 8 9=true)=>(rfl:av D 8 8=true)
   have hI:Inv w [] (bd (.blk b1 (.cells #[.int .i64 k,.int .i64 n,.string s,.slice (some ⟨b,o,none⟩) ks.length cap] ac)) (.blk b2 (.cells #[.int .i64 0,.int .i64 0,.string ⟨#[]⟩,.slice none 0 0] ac)) (.blk b3 (.cells #[.int .i64 k,.int .i64 n,.string s,kvc] ac)) (.blk b3 (.cells #[.int .i64 k,.int .i64 n,.string s,di] ac)) (be kvc ac 4 css) (be di ac 4 (css++[cs7])) (bk Ls.flatten) M (.blk b8 (.cells cs7.toArray ac)) (D 7) true (D 9) (D 11)) S w_:=by
    rw [d6,f9,f11]
    simpa [bd,Value.cells] using hI
   exact ⟨aF,aC,aB,aE,aD,aG,az,aK,fun _=>by first|assumption|trivial,aU,ao,ar,⟨M,cs7,b8,e7,e8,k8,k9,k11,k1,hI⟩⟩
  ·intro D a6 eB fh lH dq di dp cX cM dn dr de cY cK c4 w_
   rintro ⟨aF,aC,aB,aE,aD,aG,az,aK,aQ,aU,ao,ar,⟨M,cs7,b8,e7,e8,k8,k9,k11,k1,hI⟩⟩
   obtain rfl:=aC eB
   have Ab:=aQ fh
   have f11:D 11=false:=Bool.eq_false_iff.2 fun h=>by rw [k11 h] at a6; cases a6
   have q8:=e8 fh
   subst q8
   obtain ⟨_,hT⟩:=e7 lH
   rw [lH,fh,a6,f11] at hI
   have hblk:((bd (.blk b1 (.cells #[.int .i64 k,.int .i64 n,.string s,.slice (some ⟨b,o,none⟩) ks.length cap] ac)) (.blk b2 (.cells #[.int .i64 0,.int .i64 0,.string ⟨#[]⟩,.slice none 0 0] ac)) (.blk b3 (.cells #[.int .i64 k,.int .i64 n,.string s,cK] ac)) (.blk b3 (.cells #[.int .i64 k,.int .i64 n,.string s,di] ac)) (be cK ac 4 css) (be di ac 4 (css++[cs7])) (bk Ls.flatten) M (.blk b8 (.cells cs7.toArray ac)) true true false false))[4+(bk Ls.flatten).length+(bk M).length]?=some (.blk b8 (.cells cs7.toArray ac)):=by
    have e4:4+(bk Ls.flatten).length+(bk M).length=((bk Ls.flatten).length+(bk M).length)+1+1+1+1:=by omega
    rw [e4]
    simp only [bd,List.getElem?_cons_succ]
    rw [List.getElem?_append_right (by omega),Nat.add_sub_cancel_left,List.getElem?_append_right (Nat.le_refl _),Nat.sub_self]; rfl
   refine dU hI 3 cs7 bt (by omega) rfl (by rw [hT.length]) (m:=1) (o:=0) ?_ hT.one (by omega) (by omega) fun v' w_ hI=>?_
   ·intro i u hi
    rw [hI.cellL hblk,Nat.zero_add]
    simpa using hi
   rw [el] at hI
   have k9:=fun (_:av D 9 9=true)=>fh
   have k11:=fun (_:av D 9 11=true)=>(rfl:av D 9 9=true)
   have hI:Inv w [] (bd (.blk b1 (.cells #[.int .i64 k,.int .i64 n,.string s,.slice (some ⟨b,o,none⟩) ks.length cap] ac)) (.blk b2 (.cells #[.int .i64 0,.int .i64 0,.string ⟨#[]⟩,.slice none 0 0] ac)) (.blk b3 (.cells #[.int .i64 k,.int .i64 n,.string s,cK] ac)) (.blk b3 (.cells #[.int .i64 k,.int .i64 n,.string s,v'] ac)) (be cK ac 4 css) (be v' ac 4 (css++[cs7])) (bk Ls.flatten) M (.blk b8 (.cells cs7.toArray ac)) (D 7) (D 8) true (D 11)) S w_:=by
    rw [lH,fh,f11]
    exact hI
   exact ⟨aF,aC,aB,aE,aD,aG,az,aK,aQ,fun _=>by first|assumption|trivial,ao,ar,⟨M,cs7,b8,e7,e8,k8,k9,k11,k1,hI⟩⟩
  ·intro D a6 dc gl mM sC sr uT vy wI AO A4 dq di dp cX cM dn dr de cY cK c4 w_
   rintro ⟨aF,aC,aB,aE,aD,aG,az,aK,aQ,aU,ao,ar,⟨M,cs7,b8,e7,e8,k8,k9,k11,k1,hI⟩⟩
   refine bh a9 ?_
   exact ⟨aF,aC,aB,aE,aD,aG,az,aK,aQ,aU,fun _=>rfl,ar,⟨M,cs7,b8,e7,e8,k8,k9,k11,k1,hI⟩⟩
  ·intro D a6 iC eh Fq rY gF sg r4 pf rW uR gt fm jx dq di dp cX cM dn dr de cY cK c4 w_
   rintro ⟨aF,aC,aB,aE,aD,aG,az,aK,aQ,aU,ao,ar,⟨M,cs7,b8,e7,e8,k8,k9,k11,k1,hI⟩⟩
   obtain rfl:=ao iC
   have Ac:=aU eh
   rw [gt,fm,eh,a6] at hI
   obtain ⟨va,vn,vc,hv9⟩:=Inv.rowSlice hI 3 rfl
   refine dY hI 2 (n:=1) (by rw [hv9]; rfl) (by decide +kernel) rfl (by simp) (by rw [hv9]; simp [Value.cells,Value.oneCell']) fun w_ hI=>?_
   have hcl9:Value.cells di=#[di]:=by rw [hv9]; rfl
   rw [hcl9] at hI
   have k1:=fun (_:av D 11 11=true)=>gF
   have k11:=fun (_:av D 11 11=true)=>eh
   have hI:Inv w [] (bd (.blk b1 (.cells #[.int .i64 k,.int .i64 n,.string s,.slice (some ⟨b,o,none⟩) ks.length cap] ac)) (.blk b2 (.cells #[.int .i64 0,.int .i64 0,.string ⟨#[]⟩,.slice none 0 0] ac)) (.blk b3 (.cells #[.int .i64 k,.int .i64 n,.string s,kvc] ac)) (.blk b3 (.cells #[.int .i64 k,.int .i64 n,.string s,di] ac)) (be kvc ac 4 css) (be di ac 4 (css++[cs7])) (bk Ls.flatten) M (.blk b8 (.cells cs7.toArray ac)) (D 7) (D 8) (D 9) true) S w_:=by
    rw [gt,fm,eh]
    exact hI
   exact ⟨aF,aC,aB,aE,aD,aG,az,aK,aQ,aU,ao,fun _=>trivial,⟨M,cs7,b8,e7,e8,k8,k9,k11,k1,hI⟩⟩
  intro D gw fK kA iV ii gM gT hO iR im iT iS dq di dp cX cM dn dr de cY cK c4 w_
  rintro ⟨aF,aC,aB,aE,aD,aG,az,aK,aQ,aU,ao,ar,⟨M,cs7,b8,e7,e8,k8,k9,k11,k1,hI⟩⟩
  obtain rfl:=ao fK
  have Ac:=aU kA
  have Ab:=aQ iV
  have Eq:=aK ii
  obtain rfl:=az gM
  obtain rfl:=aG gT
  obtain rfl:=aD hO
  obtain rfl:=aE iR
  obtain rfl:=aB im
  obtain rfl:=aC iT
  obtain rfl:=aF iS
  clear aF aC aB aE aD aG az aK aQ aU ao ar
  obtain ⟨_,hT⟩:=e7 ii
  rw [ii,iV,kA,gw] at hI
  refine ct (by omega) ?_
  refine ⟨⟨j+1,di,Ls++[M],css++[cs7],hj',rfl,?_,?_⟩,by simp [intOf]; omega⟩
  ·rw [List.take_succ_eq_append_getElem hj']
   exact hg.snoc hT hT.length
  ·simp only [List.flatten_append,List.flatten_cons,List.flatten_nil,List.append_nil,cH]
   refine hI.sub ?_
   simp only [bd]
   rw [<- List.append_assoc]
   exact (((List.sublist_append_left _ _).cons_cons _).cons_cons _).cons_cons _ |>.cons_cons _
 ·have:j=ks.length:=by omega
  subst this
  rw [List.take_length] at hg
  obtain ⟨va,vn,vc,hvk⟩:=hI.rowSlice 3 rfl
  have hv1:kvc.oneCell'=true:=by rw [hvk]; rfl
  refine bb hI 2 aj rfl rfl ?_
  refine aX hI 1 rfl aj rfl rfl ?_ fun w' hI=>?_
  ·intro u hu
   have hu':u∈([.int .i64 k,.int .i64 n,.string s,kvc]:List Value):=hu
   simp at hu'
   rcases hu' with rfl|rfl|rfl|rfl <;> first|rfl|exact hv1
  refine bA hI 1 aj rfl rfl ?_
  have hI:Inv w [] ([be kvc ac 4 css]++bk Ls.flatten) S w':=hI.sub (List.sublist_append_right [_,_,_] _)
  obtain ⟨S1,hI,hE,hins⟩:=hI.pubExt
  exact ⟨_,_,S1,rfl,hI,hE,_,css,rfl,rfl,hg.rows hins fun _ _ _ hi h=>h.rd hi⟩
theorem Cu {c0:C} {S:ax} {cs:List Value} (h:RdC S cs c0) (hw:wC c0<=1048576):Tri Tryz.prog tr [.agg cs.toArray] [] S (Dh c0):=by
 intro w hI
 obtain ⟨hd,ks,rfl,h1,h2⟩:=h
 have h1':=h1
 obtain ⟨kv,rfl,g1,g2,g3,g4⟩:=RdT.iff.1 h1
 unfold wC at hw
 refine lP ?_
 unfold kS
 refine co hI fun b1 w' hI=>?_
 refine bm hI bI fun b2 w' hI=>?_
 refine bh cm ?_
 refine dI hI 0 [.int .i64 c0.head.kind,.int .i64 c0.head.n,.string c0.head.name,kv] aj rfl rfl tV ?_
 refine Run.call0 eW eT hI (fQ _ S _ h1' (by omega)) fun v' I' S w'=>?_
 rintro ⟨rfl,cs1,N,rfl,rfl,hT1⟩ _ hI
 obtain ⟨kh,rfl,_⟩:=TrT.iff.1 hT1
 refine fA ?_
 refine bm hI bI fun b3 w' hI=>?_
 have hI:=hI.perm (M:=.blk b1 _::.blk b2 _::.blk b3 _::bk N) (((List.perm_append_comm (l₁:=[_])).cons _).cons _)
 refine aX hI 2 rfl aW rfl rfl ?_ fun w' hI=>?_
 ·intro u hu
  have hu':u∈([.int .i64 c0.head.kind,.int .i64 c0.head.n,.string c0.head.name,kh,.slice none 0 0]:List Value):=hu
  simp at hu'
  have o1:kh.oneCell'=true:=hT1.one kh (by simp)
  rcases hu' with rfl|rfl|rfl|rfl|rfl <;> first|rfl|exact o1
 have hI:=hI.rowNil ac 4
 have hI:=hI.perm (M:=.blk b1 (.cells #[.int .i64 c0.head.kind,.int .i64 c0.head.n,.string c0.head.name,kv,ks] ai)::.blk b2 (.cells #[.int .i64 0,.int .i64 0,.string ⟨#[]⟩,.slice none 0 0,.slice none 0 0] ai)::.blk b3 (.cells #[.int .i64 c0.head.kind,.int .i64 c0.head.n,.string c0.head.name,kh,.slice none 0 0] ai)::be (.slice none 0 0) ac 4 []::bk N) ((((List.perm_append_comm (l₁:=[_])).cons _).cons _).cons _)
 refine ⟨fun i w'=>∃ (j:Nat) (kvc:Value) (Ls:List bn) (css:List (List Value)),j<=c0.body.length/\i=.int .i64 j/\Grown 4 TrT Ls css (c0.body.take j)/\
   Inv w [] (.blk b1 (.cells #[.int .i64 c0.head.kind,.int .i64 c0.head.n,.string c0.head.name,kv,ks] ai)::.blk b2 (.cells #[.int .i64 0,.int .i64 0,.string ⟨#[]⟩,.slice none 0 0,.slice none 0 0] ai)::.blk b3 (.cells #[.int .i64 c0.head.kind,.int .i64 c0.head.n,.string c0.head.name,kh,kvc] ai)::be kvc ac 4 css::bk (N::Ls).flatten) S w',
  fun i _=>c0.body.length - (intOf i).toNat,⟨0,_,[],[],Nat.zero_le _,rfl,Grown.nil _ _,by simp only [List.flatten_cons,List.flatten_nil,List.append_nil]; exact hI⟩,?_⟩
 intro t4 _ _ _ _ _ _ _ _ _ _ _ _ _ _ _ _ _ _ w'
 rintro ⟨j,kvc,Ls,css,hj,rfl,hg,hI⟩
 refine aH hI 0 rfl bi aV rfl ?_
 refine bo h2 aS ?_
 refine dh ?_
 refine bz (fun hji=>?_) (fun hji=>?_)
 ·have hj':j<c0.body.length:=by omega
  have hjl:(c0.body.take j).length=j:=by simp; omega
  have hcl:=hg.hc
  have hm:=List.getElem_mem hj'
  have hwm:=fV hm
  obtain ⟨b,o,cap,c,E,fz,rfl,hS,hR⟩:=h2.at_ hj'
  refine ⟨fun D cX cM dn dr de cY cK c4 eI dQ dX w_=>(D 0=true->dX=.pointer (some ⟨b3,4,none⟩))/\(D 1=true->dQ=kvc)/\(D 2=true->eI=.pointer (some ⟨b1,4,none⟩))/\(D 3=true->c4=.slice (some ⟨b,o,none⟩) (c0.body).length cap)/\(D 4=true->cK=.int .i64 j)/\(D 5=true->cY=.pointer (some ⟨b,o+j * 4,none⟩))/\(D 6=true->de=.agg (bB c (o+j * 4) 4).toArray)/\(D 7=true->True)/\(D 8=true->True)/\(D 9=true->True)/\(D 10=true->cX=.pointer (some ⟨b3,4,none⟩))/\(D 11=true->True)/\∃ M cs7 b8,(D 7=true->dr=.agg cs7.toArray/\TrT M cs7 (c0.body)[j])/\(D 8=true->dn=.slice (some ⟨b8,0,none⟩) 1 1)/\(D 8=true->D 7=true)/\(D 9=true->D 8=true)/\(D 11=true->D 9=true)/\(D 11=true->D 1=true)/\Inv w [] (bd (.blk b1 (.cells #[.int .i64 c0.head.kind,.int .i64 c0.head.n,.string c0.head.name,kv,.slice (some ⟨b,o,none⟩) c0.body.length cap] ai)) (.blk b2 (.cells #[.int .i64 0,.int .i64 0,.string ⟨#[]⟩,.slice none 0 0,.slice none 0 0] ai)) (.blk b3 (.cells #[.int .i64 c0.head.kind,.int .i64 c0.head.n,.string c0.head.name,kh,kvc] ai)) (.blk b3 (.cells #[.int .i64 c0.head.kind,.int .i64 c0.head.n,.string c0.head.name,kh,cM] ai)) (be kvc ac 4 css) (be cM ac 4 (css++[cs7])) (bk (N::Ls).flatten) M (.blk b8 (.cells cs7.toArray ac)) (D 7) (D 8) (D 9) (D 11)) S w_,⟨af,af,af,af,af,af,af,af,af,af,af,af,⟨[],[],0,af,af,af,af,af,af,by simpa [bd,bk] using hI.draw⟩⟩,⟨?_,?_,?_,?_,?_,?_,?_,?_,?_,?_,?_,?_,trivial⟩,?_⟩
  ·intro D a6  cX cM dn dr de cY cK c4 eI dQ dX w_
   rintro ⟨aF,aC,aB,aE,aD,aG,az,aK,aQ,aU,ao,ar,⟨M,cs7,b8,e7,e8,k8,k9,k11,k1,hI⟩⟩
   refine bh bi ?_
   exact ⟨fun _=>rfl,aC,aB,aE,aD,aG,az,aK,aQ,aU,ao,ar,⟨M,cs7,b8,e7,e8,k8,k9,k11,k1,hI⟩⟩
  ·intro D a6 dc cX cM dn dr de cY cK c4 eI dQ dX w_
   rintro ⟨aF,aC,aB,aE,aD,aG,az,aK,aQ,aU,ao,ar,⟨M,cs7,b8,e7,e8,k8,k9,k11,k1,hI⟩⟩
   obtain rfl:=aF dc
   have f11:D 11=false:=Bool.eq_false_iff.2 fun h=>by rw [k1 h] at a6; cases a6
   refine bG (b:=b3) hI 2 (c:=(#[.int .i64 c0.head.kind,.int .i64 c0.head.n,.string c0.head.name,kh,kvc])) aV (by rw [f11]; rfl) rfl ?_
   have k1:=fun (_:av D 1 11=true)=>(rfl:av D 1 1=true)
   exact ⟨aF,fun _=>rfl,aB,aE,aD,aG,az,aK,aQ,aU,ao,ar,⟨M,cs7,b8,e7,e8,k8,k9,k11,k1,hI⟩⟩
  ·intro D a6  cX cM dn dr de cY cK c4 eI dQ dX w_
   rintro ⟨aF,aC,aB,aE,aD,aG,az,aK,aQ,aU,ao,ar,⟨M,cs7,b8,e7,e8,k8,k9,k11,k1,hI⟩⟩
   refine bh bi ?_
   exact ⟨aF,aC,fun _=>rfl,aE,aD,aG,az,aK,aQ,aU,ao,ar,⟨M,cs7,b8,e7,e8,k8,k9,k11,k1,hI⟩⟩
  ·intro D a6 dy cX cM dn dr de cY cK c4 eI dQ dX w_
   rintro ⟨aF,aC,aB,aE,aD,aG,az,aK,aQ,aU,ao,ar,⟨M,cs7,b8,e7,e8,k8,k9,k11,k1,hI⟩⟩
   obtain rfl:=aB dy
   refine bG hI 0 aV rfl rfl ?_
   exact ⟨aF,aC,aB,fun _=>rfl,aD,aG,az,aK,aQ,aU,ao,ar,⟨M,cs7,b8,e7,e8,k8,k9,k11,k1,hI⟩⟩
  ·intro D a6  cX cM dn dr de cY cK c4 eI dQ dX w_
   rintro ⟨aF,aC,aB,aE,aD,aG,az,aK,aQ,aU,ao,ar,⟨M,cs7,b8,e7,e8,k8,k9,k11,k1,hI⟩⟩
   exact ⟨aF,aC,aB,aE,fun _=>rfl,aG,az,aK,aQ,aU,ao,ar,⟨M,cs7,b8,e7,e8,k8,k9,k11,k1,hI⟩⟩
  ·intro D a6 ef ev cX cM dn dr de cY cK c4 eI dQ dX w_
   rintro ⟨aF,aC,aB,aE,aD,aG,az,aK,aQ,aU,ao,ar,⟨M,cs7,b8,e7,e8,k8,k9,k11,k1,hI⟩⟩
   obtain rfl:=aE ef
   obtain rfl:=aD ev
   refine bv aS hj' ?_
   exact ⟨aF,aC,aB,aE,aD,fun _=>rfl,az,aK,aQ,aU,ao,ar,⟨M,cs7,b8,e7,e8,k8,k9,k11,k1,hI⟩⟩
  ·intro D a6 eq cX cM dn dr de cY cK c4 eI dQ dX w_
   rintro ⟨aF,aC,aB,aE,aD,aG,az,aK,aQ,aU,ao,ar,⟨M,cs7,b8,e7,e8,k8,k9,k11,k1,hI⟩⟩
   obtain rfl:=aG eq
   refine dM aj hR.length (fun j v hj=>by rw [hI.cellS hS]; exact bC rfl j v hj) ?_
   exact ⟨aF,aC,aB,aE,aD,aG,fun _=>rfl,aK,aQ,aU,ao,ar,⟨M,cs7,b8,e7,e8,k8,k9,k11,k1,hI⟩⟩
  ·intro D a6 cw cX cM dn dr de cY cK c4 eI dQ dX w_
   rintro ⟨aF,aC,aB,aE,aD,aG,az,aK,aQ,aU,ao,ar,⟨M,cs7,b8,e7,e8,k8,k9,k11,k1,hI⟩⟩
   obtain rfl:=az cw
   have f8:D 8=false:=Bool.eq_false_iff.2 fun h=>by rw [k8 h] at a6; cases a6
   have f9:D 9=false:=Bool.eq_false_iff.2 fun h=>by rw [k9 h] at f8; cases f8
   have f11:D 11=false:=Bool.eq_false_iff.2 fun h=>by rw [k11 h] at f9; cases f9
   rw [a6,f8,f9,f11] at hI
   refine Run.call0 eW eT hI (fQ _ S _ hR (by omega)) fun v' I' S w_=>?_
   rintro ⟨rfl,cs7,M,rfl,rfl,hT⟩ _ hI
   have e7:av D 7 7=true->Value.agg cs7.toArray=Value.agg cs7.toArray/\TrT M cs7 (c0.body)[j]:=fun _=>⟨rfl,hT⟩
   have k8:=fun (_:av D 7 8=true)=>(rfl:av D 7 7=true)
   have hI:Inv w [] (bd (.blk b1 (.cells #[.int .i64 c0.head.kind,.int .i64 c0.head.n,.string c0.head.name,kv,.slice (some ⟨b,o,none⟩) c0.body.length cap] ai)) (.blk b2 (.cells #[.int .i64 0,.int .i64 0,.string ⟨#[]⟩,.slice none 0 0,.slice none 0 0] ai)) (.blk b3 (.cells #[.int .i64 c0.head.kind,.int .i64 c0.head.n,.string c0.head.name,kh,kvc] ai)) (.blk b3 (.cells #[.int .i64 c0.head.kind,.int .i64 c0.head.n,.string c0.head.name,kh,cM] ai)) (be kvc ac 4 css) (be cM ac 4 (css++[cs7])) (bk (N::Ls).flatten) M (.blk b8 (.cells cs7.toArray ac)) true (D 8) (D 9) (D 11)) S w_:=by
    rw [f8,f9,f11]
    simpa [bd] using hI
   exact ⟨aF,aC,aB,aE,aD,aG,az,fun _=>by first|assumption|trivial,aQ,aU,ao,ar,⟨M,cs7,b8,e7,e8,k8,k9,k11,k1,hI⟩⟩
  ·intro D a6 d6 cX cM dn dr de cY cK c4 eI dQ dX w_
   rintro ⟨aF,aC,aB,aE,aD,aG,az,aK,aQ,aU,ao,ar,⟨M,cs7,b8,e7,e8,k8,k9,k11,k1,hI⟩⟩
   have Eq:=aK d6
   have f9:D 9=false:=Bool.eq_false_iff.2 fun h=>by rw [k9 h] at a6; cases a6
   have f11:D 11=false:=Bool.eq_false_iff.2 fun h=>by rw [k11 h] at f9; cases f9
   obtain ⟨q7,hT⟩:=e7 d6
   subst q7
   rw [d6,a6,f9,f11] at hI
   refine dg hI bt (by simp [Value.cells,hT.length]) (by omega) (by omega) fun b8 w_ hI=>?_
   have e7:av D 8 7=true->Value.agg cs7.toArray=Value.agg cs7.toArray/\TrT M cs7 (c0.body)[j]:=fun _=>⟨rfl,hT⟩
   have e8:=fun (_:av D 8 8=true)=>(rfl:Value.slice (some ⟨b8,0,none⟩) 1 1=_)
   have k8:=fun (_:av D 8 8=true)=>d6
   have k9:=fun (_:av D 8 9=true)=>(rfl:av D 8 8=true)
   have hI:Inv w [] (bd (.blk b1 (.cells #[.int .i64 c0.head.kind,.int .i64 c0.head.n,.string c0.head.name,kv,.slice (some ⟨b,o,none⟩) c0.body.length cap] ai)) (.blk b2 (.cells #[.int .i64 0,.int .i64 0,.string ⟨#[]⟩,.slice none 0 0,.slice none 0 0] ai)) (.blk b3 (.cells #[.int .i64 c0.head.kind,.int .i64 c0.head.n,.string c0.head.name,kh,kvc] ai)) (.blk b3 (.cells #[.int .i64 c0.head.kind,.int .i64 c0.head.n,.string c0.head.name,kh,cM] ai)) (be kvc ac 4 css) (be cM ac 4 (css++[cs7])) (bk (N::Ls).flatten) M (.blk b8 (.cells cs7.toArray ac)) (D 7) true (D 9) (D 11)) S w_:=by
    rw [d6,f9,f11]
    simpa [bd,Value.cells] using hI
   exact ⟨aF,aC,aB,aE,aD,aG,az,aK,fun _=>by first|assumption|trivial,aU,ao,ar,⟨M,cs7,b8,e7,e8,k8,k9,k11,k1,hI⟩⟩
  ·intro D a6 eB fh lH cX cM dn dr de cY cK c4 eI dQ dX w_
   rintro ⟨aF,aC,aB,aE,aD,aG,az,aK,aQ,aU,ao,ar,⟨M,cs7,b8,e7,e8,k8,k9,k11,k1,hI⟩⟩
   obtain rfl:=aC eB
   have Ab:=aQ fh
   have f11:D 11=false:=Bool.eq_false_iff.2 fun h=>by rw [k11 h] at a6; cases a6
   have q8:=e8 fh
   subst q8
   obtain ⟨_,hT⟩:=e7 lH
   rw [lH,fh,a6,f11] at hI
   have hblk:((bd (.blk b1 (.cells #[.int .i64 c0.head.kind,.int .i64 c0.head.n,.string c0.head.name,kv,.slice (some ⟨b,o,none⟩) c0.body.length cap] ai)) (.blk b2 (.cells #[.int .i64 0,.int .i64 0,.string ⟨#[]⟩,.slice none 0 0,.slice none 0 0] ai)) (.blk b3 (.cells #[.int .i64 c0.head.kind,.int .i64 c0.head.n,.string c0.head.name,kh,dQ] ai)) (.blk b3 (.cells #[.int .i64 c0.head.kind,.int .i64 c0.head.n,.string c0.head.name,kh,cM] ai)) (be dQ ac 4 css) (be cM ac 4 (css++[cs7])) (bk (N::Ls).flatten) M (.blk b8 (.cells cs7.toArray ac)) true true false false))[4+(bk (N::Ls).flatten).length+(bk M).length]?=some (.blk b8 (.cells cs7.toArray ac)):=by
    have e4:4+(bk (N::Ls).flatten).length+(bk M).length=((bk (N::Ls).flatten).length+(bk M).length)+1+1+1+1:=by omega
    rw [e4]
    simp only [bd,List.getElem?_cons_succ]
    rw [List.getElem?_append_right (by omega),Nat.add_sub_cancel_left,List.getElem?_append_right (Nat.le_refl _),Nat.sub_self]; rfl
   refine dU hI 3 cs7 bt (by omega) rfl (by rw [hT.length]) (m:=1) (o:=0) ?_ hT.one (by omega) (by omega) fun v' w_ hI=>?_
   ·intro i u hi
    rw [hI.cellL hblk,Nat.zero_add]
    simpa using hi
   rw [el] at hI
   have k9:=fun (_:av D 9 9=true)=>fh
   have k11:=fun (_:av D 9 11=true)=>(rfl:av D 9 9=true)
   have hI:Inv w [] (bd (.blk b1 (.cells #[.int .i64 c0.head.kind,.int .i64 c0.head.n,.string c0.head.name,kv,.slice (some ⟨b,o,none⟩) c0.body.length cap] ai)) (.blk b2 (.cells #[.int .i64 0,.int .i64 0,.string ⟨#[]⟩,.slice none 0 0,.slice none 0 0] ai)) (.blk b3 (.cells #[.int .i64 c0.head.kind,.int .i64 c0.head.n,.string c0.head.name,kh,dQ] ai)) (.blk b3 (.cells #[.int .i64 c0.head.kind,.int .i64 c0.head.n,.string c0.head.name,kh,v'] ai)) (be dQ ac 4 css) (be v' ac 4 (css++[cs7])) (bk (N::Ls).flatten) M (.blk b8 (.cells cs7.toArray ac)) (D 7) (D 8) true (D 11)) S w_:=by
    rw [lH,fh,f11]
    exact hI
   exact ⟨aF,aC,aB,aE,aD,aG,az,aK,aQ,fun _=>by first|assumption|trivial,ao,ar,⟨M,cs7,b8,e7,e8,k8,k9,k11,k1,hI⟩⟩
  ·intro D a6 dc gl mM sC sr uT vy wI AO A4 cX cM dn dr de cY cK c4 eI dQ dX w_
   rintro ⟨aF,aC,aB,aE,aD,aG,az,aK,aQ,aU,ao,ar,⟨M,cs7,b8,e7,e8,k8,k9,k11,k1,hI⟩⟩
   refine bh bi ?_
   exact ⟨aF,aC,aB,aE,aD,aG,az,aK,aQ,aU,fun _=>rfl,ar,⟨M,cs7,b8,e7,e8,k8,k9,k11,k1,hI⟩⟩
  ·intro D a6 iC eh Fq rY gF sg r4 pf rW uR gt fm jx cX cM dn dr de cY cK c4 eI dQ dX w_
   rintro ⟨aF,aC,aB,aE,aD,aG,az,aK,aQ,aU,ao,ar,⟨M,cs7,b8,e7,e8,k8,k9,k11,k1,hI⟩⟩
   obtain rfl:=ao iC
   have Ac:=aU eh
   rw [gt,fm,eh,a6] at hI
   obtain ⟨va,vn,vc,hv9⟩:=Inv.rowSlice hI 3 rfl
   refine dY hI 2 (n:=1) (by rw [hv9]; rfl) (by decide +kernel) rfl (by simp) (by rw [hv9]; simp [Value.cells,Value.oneCell']) fun w_ hI=>?_
   have hcl9:Value.cells cM=#[cM]:=by rw [hv9]; rfl
   rw [hcl9] at hI
   have k1:=fun (_:av D 11 11=true)=>gF
   have k11:=fun (_:av D 11 11=true)=>eh
   have hI:Inv w [] (bd (.blk b1 (.cells #[.int .i64 c0.head.kind,.int .i64 c0.head.n,.string c0.head.name,kv,.slice (some ⟨b,o,none⟩) c0.body.length cap] ai)) (.blk b2 (.cells #[.int .i64 0,.int .i64 0,.string ⟨#[]⟩,.slice none 0 0,.slice none 0 0] ai)) (.blk b3 (.cells #[.int .i64 c0.head.kind,.int .i64 c0.head.n,.string c0.head.name,kh,kvc] ai)) (.blk b3 (.cells #[.int .i64 c0.head.kind,.int .i64 c0.head.n,.string c0.head.name,kh,cM] ai)) (be kvc ac 4 css) (be cM ac 4 (css++[cs7])) (bk (N::Ls).flatten) M (.blk b8 (.cells cs7.toArray ac)) (D 7) (D 8) (D 9) true) S w_:=by
    rw [gt,fm,eh]
    exact hI
   exact ⟨aF,aC,aB,aE,aD,aG,az,aK,aQ,aU,ao,fun _=>trivial,⟨M,cs7,b8,e7,e8,k8,k9,k11,k1,hI⟩⟩
  intro D gw fK kA iV ii gM gT hO iR im iT iS cX cM dn dr de cY cK c4 eI dQ dX w_
  rintro ⟨aF,aC,aB,aE,aD,aG,az,aK,aQ,aU,ao,ar,⟨M,cs7,b8,e7,e8,k8,k9,k11,k1,hI⟩⟩
  obtain rfl:=ao fK
  have Ac:=aU kA
  have Ab:=aQ iV
  have Eq:=aK ii
  obtain rfl:=az gM
  obtain rfl:=aG gT
  obtain rfl:=aD hO
  obtain rfl:=aE iR
  obtain rfl:=aB im
  obtain rfl:=aC iT
  obtain rfl:=aF iS
  clear aF aC aB aE aD aG az aK aQ aU ao ar
  obtain ⟨_,hT⟩:=e7 ii
  rw [ii,iV,kA,gw] at hI
  refine ct (by omega) ?_
  refine ⟨⟨j+1,cM,Ls++[M],css++[cs7],hj',rfl,?_,?_⟩,by simp [intOf]; omega⟩
  ·rw [List.take_succ_eq_append_getElem hj']
   exact hg.snoc hT hT.length
  ·rw [<- List.cons_append,List.flatten_append,cH]
   simp only [List.flatten_cons,List.flatten_nil,List.append_nil]
   refine hI.sub ?_
   simp only [bd,List.flatten_cons]
   rw [<- List.append_assoc]
   exact (((List.sublist_append_left _ _).cons_cons _).cons_cons _).cons_cons _ |>.cons_cons _
 ·have:j=c0.body.length:=by omega
  subst this
  rw [List.take_length] at hg
  obtain ⟨va,vn,vc,hvk⟩:=hI.rowSlice 3 rfl
  have hv1:kvc.oneCell'=true:=by rw [hvk]; rfl
  have o1:kh.oneCell'=true:=hT1.one kh (by simp)
  refine bb hI 2 aW rfl rfl ?_
  refine aX hI 1 rfl aW rfl rfl ?_ fun w' hI=>?_
  ·intro u hu
   have hu':u∈([.int .i64 c0.head.kind,.int .i64 c0.head.n,.string c0.head.name,kh,kvc]:List Value):=hu
   simp at hu'
   rcases hu' with rfl|rfl|rfl|rfl|rfl <;> first|rfl|exact o1|exact hv1
  refine bA hI 1 aW rfl rfl ?_
  have hI:Inv w [] (be kvc ac 4 css::bk (N::Ls).flatten) S w':=hI.sub (List.sublist_append_right [_,_,_] _)
  have hI:Inv w [] ([be kvc ac 4 css]++bk (N::Ls).flatten) S w':=hI
  obtain ⟨S1,hI,hE,hins⟩:=hI.pubExt
  rw [List.flatten_cons] at hins
  exact ⟨_,_,S1,rfl,hI,hE,_,kvc,css,rfl,hT1.rd hins.left,rfl,hg.rows hins.right fun _ _ _ hi h=>h.rd hi⟩
end
end Go.Proofs.YtmnnpgdeecnfpaaGreat

/- Texts written: spec.l2Text and its kin, l4Text, FormatClause. -/
import Derived.Test.YtcpgagfdeflbkaaGreatDoorZMv9
import Derived.Test.YtcpgagfdeflbkaaGreatDoorZMv10
namespace Go.Proofs.YtcpgagfdeflbkaaGreatDoor
open Go Go.RowKit
theorem JU:Tryz.prog.underlying EC=some (.slice CV):=by kernel_rfl
section
variable {w:World} {S:ad}
attribute [local irreducible] Run CondV ao aI
theorem iB {t:T} {cs:List Value} (h:RdT S cs t):Pure Tryz.prog HM [.agg cs.toArray] S (.bool (xI t)):=by
 intro w hI
 obtain ⟨kv,rfl,_,_,_,hk⟩:=RdT.iff.1 h
 obtain ⟨ka,kc,rfl,_⟩:=id hk
 refine vo.2 ?_
 dsimp only[vo,aC]
 refine bl hI fun b1 w' hI=>?_
 refine ae hI 0 rfl aP aF rfl ?_
 by_cases h3:t.kind=3
 ·refine dA h3 ?_
  refine rpG ?_
  refine ae hI 0 rfl aQ aK rfl ?_
  refine bj (b:=st [46]) ?_
  cases hn:decide (t.name=st [46])
  ·refine rpG ?_
   exact done hI (by rw [xI,hn,Bool.false_and,Bool.and_false])
  ·refine rpG ?_
   refine ae hI 0 rfl ar aj rfl ?_
   refine fw ag ?_
   refine ba ?_
   refine rpG ?_
   refine done hI ?_
   rw [xI,hn,decide_eq_true h3,Bool.true_and,Bool.true_and]
   congr 1
   rw [decide_eq_decide]
   omega
 ·refine dh h3 ?_
  refine rpG ?_
  exact done hI (by rw [xI,decide_eq_false h3,Bool.false_and])
theorem zO {t:T} {cs:List Value} (h:RdT S cs t):Pure Tryz.prog IM [.agg cs.toArray] S (.bool (KC t)):=by
 intro w hI
 obtain ⟨kv,rfl,_,_,_,hk⟩:=RdT.iff.1 h
 obtain ⟨ka,kc,rfl,_⟩:=id hk
 refine xU.2 ?_
 dsimp only[xU,aC]
 refine bl hI fun b1 w' hI=>?_
 refine ae hI 0 rfl aP aF rfl ?_
 by_cases h3:t.kind=3
 ·refine dA h3 ?_
  refine rpG ?_
  refine ae hI 0 rfl aQ aK rfl ?_
  refine bj (b:=st [91,93]) ?_
  cases hn:decide (t.name=st [91,93])
  ·refine rpG ?_
   exact done hI (by rw [KC,hn,Bool.false_and,Bool.and_false])
  ·refine rpG ?_
   refine ae hI 0 rfl ar aj rfl ?_
   refine fw ag ?_
   refine ba ?_
   refine rpG ?_
   refine done hI ?_
   rw [KC,hn,decide_eq_true h3,Bool.true_and,Bool.true_and]
   congr 1
   rw [decide_eq_decide]
   omega
 ·refine dh h3 ?_
  refine rpG ?_
  exact done hI (by rw [KC,decide_eq_false h3,Bool.false_and])
theorem l3 {t:T} {cs:List Value} (h:RdT S cs t):Pure Tryz.prog Fy [.agg cs.toArray] S (.bool (lQ t)):=by
 intro w hI
 obtain ⟨kv,rfl,_,_,_,hk⟩:=RdT.iff.1 h
 obtain ⟨ka,kc,rfl,_⟩:=id hk
 refine rT.2 ?_
 dsimp only[rT,aC]
 refine bl hI fun b1 w' hI=>?_
 refine ae hI 0 rfl aP aF rfl ?_
 by_cases h3:t.kind=3
 ·refine dA h3 ?_
  refine rpG ?_
  refine ae hI 0 rfl ar aj rfl ?_
  refine fw ag ?_
  by_cases hn:t.kids.length=2
  ·refine dA (by omega) ?_
   refine rpG ?_
   refine ae hI 0 rfl aQ aK rfl ?_
   refine Run.callPure dU dV hI (cX _ S) fun w' hI=>?_
   refine dK ?_
   refine rpG ?_
   exact done hI (by rw [lQ,decide_eq_true h3,decide_eq_true hn,Bool.true_and,Bool.true_and])
  ·refine dh (by omega) ?_
   refine rpG ?_
   exact done hI (by rw [lQ,decide_eq_false hn,Bool.false_and,Bool.and_false])
 ·refine dh h3 ?_
  refine rpG ?_
  exact done hI (by rw [lQ,decide_eq_false h3,Bool.false_and])
theorem nE {t:T} {cs:List Value} (h:RdT S cs t):Pure Tryz.prog Ho [.agg cs.toArray] S (.bool (vp t)):=by
 intro w hI
 obtain ⟨kv,rfl,_,_,_,hk⟩:=RdT.iff.1 h
 obtain ⟨ka,kc,rfl,_⟩:=id hk
 refine uU.2 ?_
 dsimp only[uU,aC]
 refine bl hI fun b1 w' hI=>?_
 refine ae hI 0 rfl aP aF rfl ?_
 by_cases h3:t.kind=3
 ·refine dA h3 ?_
  refine rpG ?_
  refine ae hI 0 rfl ar aj rfl ?_
  refine fw ag ?_
  by_cases hn:t.kids.length=0
  ·refine dA (by omega) ?_
   refine rpG ?_
   refine ae hI 0 rfl aQ aK rfl ?_
   refine Run.callPure dU dV hI (cX _ S) fun w' hI=>?_
   refine dK ?_
   refine rpG ?_
   exact done hI (by rw [vp,decide_eq_true h3,decide_eq_true hn,Bool.true_and,Bool.true_and])
  ·refine dh (by omega) ?_
   refine rpG ?_
   exact done hI (by rw [vp,decide_eq_false hn,Bool.false_and,Bool.and_false])
 ·refine dh h3 ?_
  refine rpG ?_
  exact done hI (by rw [vp,decide_eq_false h3,Bool.false_and])
theorem za (n:Bs) (hn:n.length<=1000000):Pure Tryz.prog BH [.string (st n)] S (.string (st (fF n))):=by
 intro w hI
 refine pz.2 ?_
 dsimp only[pz,aC]
 refine ⟨fun b w'=>b=.bool (decide (n=[105,115]) || decide (n=[109,111,100]))/\Inv w [] [] S w',?_,?_⟩
 ·refine yX (b:=[105,115]) ?_
  cases h5:decide (n=[105,115])
  ·refine rpG ?_
   refine yX (b:=[109,111,100]) ?_
   refine rpG ?_
   exact ⟨by rw [Bool.false_or],hI⟩
  ·refine rpG ?_
   exact ⟨by rw [Bool.true_or],hI⟩
 intro t8 _ _ _ _ _ w'
 rintro ⟨rfl,hI⟩
 refine av (fun hb=>?_) (fun hb=>?_)
 ·rw [Bool.or_eq_true,decide_eq_true_eq,decide_eq_true_eq] at hb
  refine cM (a:=[32]) (by simp; omega) ?_
  refine cM (b:=[32]) (by simp; omega) ?_
  exact done hI (by rw [fF,if_pos hb]; rfl)
 ·rw [Bool.or_eq_false_iff,decide_eq_false_iff_not,decide_eq_false_iff_not] at hb
  exact done hI (by rw [fF,if_neg (by rintro (h|h); exact hb.1 h; exact hb.2 h)])
theorem Ac (s:Bs) (h0:0<s.length):Pure Tryz.prog FG [.string (st s)] S (.bool (CR s)):=by
 intro w hI
 refine qS.2 ?_
 dsimp only[qS,aC]
 have e1:CR s=(sml s 0 || (dig s 0 || (upp s 0 || (sgn s 0 91 || sgn s 0 40)))):=rfl
 have eu:upp s 0=(decide (65<=s[0].toNat) && decide (s[0].toNat<=90)):=lO h0 65 90
 have ea:sgn s 0 91=decide (s[0].toNat=91):=iq h0 91
 have eb:sgn s 0 40=decide (s[0].toNat=40):=iq h0 40
 refine Run.callPure ra qH hI (mi s 0 S) fun w' hI=>?_
 cases hs:sml s 0
 ·refine rpG ?_
  refine Run.callPure hZ g6 hI (fh s 0 S) fun w' hI=>?_
  cases hd:dig s 0
  ·refine rpG ?_
   refine dj (i:=0) aG h0 ?_
   rw [hs,hd,Bool.false_or,Bool.false_or] at e1
   by_cases h65:65<=s[0].toNat
   ·refine lX (by omega) ?_
    refine rpG ?_
    refine dj (i:=0) aG h0 ?_
    by_cases h90:s[0].toNat<=90
    ·refine CS (by omega) ?_
     refine rpG ?_
     exact done hI (by rw [e1,eu,decide_eq_true h65,decide_eq_true h90]; rfl)
    ·refine KU (by omega) ?_
     refine rpG ?_
     refine dj (i:=0) aG h0 ?_
     by_cases h91:s[0].toNat=91
     ·refine dA (by omega) ?_
      refine rpG ?_
      exact done hI (by rw [e1,ea,decide_eq_true h91,Bool.true_or,Bool.or_true])
     ·refine dh (by omega) ?_
      refine rpG ?_
      refine dj (i:=0) aG h0 ?_
      refine dh (by omega) ?_
      refine rpG ?_
      exact done hI (by rw [e1,eu,ea,eb,decide_eq_false h90,decide_eq_false h91,decide_eq_false (show ¬ s[0].toNat=40 by omega),Bool.and_false]; rfl)
   ·refine ux (by omega) ?_
    refine rpG ?_
    refine dj (i:=0) aG h0 ?_
    refine dh (by omega) ?_
    refine rpG ?_
    refine dj (i:=0) aG h0 ?_
    by_cases h40:s[0].toNat=40
    ·refine dA (by omega) ?_
     refine rpG ?_
     exact done hI (by rw [e1,eb,decide_eq_true h40,Bool.or_true,Bool.or_true])
    ·refine dh (by omega) ?_
     refine rpG ?_
     exact done hI (by rw [e1,eu,ea,eb,decide_eq_false h65,decide_eq_false (show ¬ s[0].toNat=91 by omega),decide_eq_false h40,Bool.false_and]; rfl)
  ·refine rpG ?_
   exact done hI (by rw [e1,hd,Bool.true_or,Bool.or_true])
 ·refine rpG ?_
  exact done hI (by rw [e1,hs,Bool.true_or])
theorem zm {n:Int} (h:0<=n/\n<=25):Pure Tryz.prog Dg [.int .i64 n] S (.string (st [UInt8.ofNat (65+n.toNat)])):=by
 intro w hI
 refine pM.2 ?_
 dsimp only[pM,aC]
 refine ob eQ eq (IntWalk.u8_in _ (by omega)) ?_
 refine N0 (c:=((65+n.toNat:Nat):Int)) ?_ ?_
 ·rw [IntWalk.u8_in _ (by omega)]; omega
 refine yc hI tF JU eq aG fun w' hI=>?_
 exact done hI rfl
theorem Fc:∀ (f n:Nat) (out r:Bs),zG f n out=some r->out.length<r.length/\r.length<=out.length+f
 | 0,_,_,_,h=>by simp [zG] at h
 | f+1,n,out,r,h=>by
  rw [zG] at h
  split at h
  ·have:=Fc f _ _ _ h
   simp only [List.length_cons] at this
   omega
  ·simp only [Option.some.injEq] at h
   subst h
   simp only [List.length_cons]
   omega
theorem qz {f n:Nat} {r:Bs} (h:zG f n []=some r) (hn:n<=100000) (hf:f<=1000):Pure Tryz.prog FV [.int .i64 (n:Int)] S (.string (st r)):=by
 intro w hI
 refine uO.2 ?_
 dsimp only[uO,aC]
 refine dC (by omega) ?_
 refine av (fun hb=>by cases hb) (fun _=>?_)
 refine dC (by omega) ?_
 refine av (fun hb=>by cases hb) (fun _=>?_)
 refine ⟨fun a b w'=>∃ (f' m:Nat) (out:Bs),a=.int .i64 (m:Int)/\b=.string (st out)/\m<=100000/\out.length+f'<=1000/\zG f' m out=some r/\Inv w [] [] S w',fun a _ _=>(intOf a).toNat,⟨f,n,[],rfl,rfl,hn,by simpa using hf,h,hI⟩,?_⟩
 intro t0 _ _ t3 _ _ _ _ _ _ _ _ _ _ w'
 rintro ⟨f',m,out,rfl,rfl,hm,hof,hd,hI⟩
 cases f' with
 | zero=>simp [zG] at hd
 | succ g=>
 rw [zG] at hd
 split at hd
 ·rename_i h9
  refine Hc (by omega) ?_
  refine av (fun _=>?_) (fun hb=>by cases hb)
  refine Gw (a:=m) (b:=10) rfl rfl (by omega) ?_
  refine dB (a:=48) (b:=m % 10) rfl rfl (by omega) ?_
  refine ob eQ eq (IntWalk.u8_in _ (by omega)) ?_
  refine yc hI tF JU eq aG fun w' hI=>?_
  refine cM (by simp; omega) ?_
  refine HK (a:=m) (b:=10) rfl rfl (by omega) (by omega) ?_
  refine ⟨⟨g,m / 10,UInt8.ofNat (48+m % 10)::out,rfl,rfl,by omega,by simp only [List.length_cons]; omega,hd,hI⟩,?_⟩
  simp only [intOf,Int.toNat_natCast]
  omega
 ·rename_i h9
  refine iv (by omega) ?_
  refine av (fun hb=>by cases hb) (fun _=>?_)
  refine dB (a:=48) (b:=m) rfl rfl (by omega) ?_
  refine ob eQ eq (IntWalk.u8_in _ (by omega)) ?_
  refine yc hI tF JU eq aG fun w' hI=>?_
  refine cM (by simp; omega) ?_
  simp only [Option.some.injEq] at hd
  exact done hI (by rw [<- hd]; rfl)
theorem Ef {n:Int} {r:Bs} (h:Nq n=some r) (hn:-999<=n/\n<=999):Pure Tryz.prog I6 [.int .i64 n] S (.string (st r)):=by
 intro w hI
 refine x1.2 ?_
 dsimp only[x1,aC]
 unfold Nq at h
 split at h
 ·rename_i h0
  refine yh h0 ?_
  refine av (fun _=>?_) (fun hb=>by cases hb)
  refine M3 (by omega) ?_
  obtain ⟨m,hm⟩:∃ m:Nat,-n=(m:Int):=⟨(-n).toNat,by omega⟩
  rw [hm] at h ⊢
  rw [Int.toNat_natCast,Option.map_eq_some_iff] at h
  obtain ⟨l,hl,rfl⟩:=h
  have:=Fc _ _ _ _ hl
  refine Run.callPure uV uB hI (qz hl (by omega) (by omega)) fun w' hI=>?_
  refine cM (a:=[45]) (by simp only [List.length_nil,List.length_cons] at this ⊢; omega) ?_
  exact done hI rfl
 ·rename_i h0
  refine dC h0 ?_
  refine av (fun hb=>by cases hb) (fun _=>?_)
  obtain ⟨m,rfl⟩:∃ m:Nat,n=(m:Int):=⟨n.toNat,by omega⟩
  rw [Int.toNat_natCast] at h
  refine Run.callPure uV uB hI (qz h (by omega) (by omega)) fun w' hI=>?_
  exact done hI rfl
theorem De {t:T} {cs:List Value} {x:Bs} (h:RdT S cs t) (hp:xI t=false) (hx:Kp t=some x):Pure Tryz.prog Hf [.agg cs.toArray] S (.string (st x)):=by
 intro w hI
 have h0:=h
 obtain ⟨kv,rfl,_,_,_,hk⟩:=RdT.iff.1 h
 obtain ⟨ka,kc,rfl,_⟩:=id hk
 refine vz.2 ?_
 dsimp only[vz,aC]
 unfold Kp at hx
 refine bl hI fun b1 w' hI=>?_
 refine ae hI 0 rfl aP aF rfl ?_
 split at hx
 ·rename_i h1
  refine dA h1 ?_
  refine av (fun _=>?_) (fun hb=>by cases hb)
  refine ae hI 0 rfl bb aF rfl ?_
  split at hx
  ·rename_i h2
   refine Run.callPure Ad zF hI (zm h2) fun w' hI=>?_
   simp only [Option.some.injEq] at hx
   exact done hI (by rw [<- hx])
  ·cases hx
 ·rename_i h1
  refine dh h1 ?_
  refine av (fun hb=>by cases hb) (fun _=>?_)
  split at hx
  ·rename_i h2
   refine dA h2 ?_
   refine av (fun _=>?_) (fun hb=>by cases hb)
   refine ae hI 0 rfl bb aF rfl ?_
   split at hx
   ·rename_i h3
    refine Run.callPure FW Gj hI (Ef hx h3) fun w' hI=>?_
    exact done hI rfl
   ·cases hx
  ·rename_i h2
   refine dh h2 ?_
   refine av (fun hb=>by cases hb) (fun _=>?_)
   split at hx
   ·rename_i h3
    simp only [Option.some.injEq] at hx
    refine aw hI 0 ac rfl rfl ?_
    refine Run.callPure nC nO hI (iB h0) fun w' hI=>?_
    rw [hp]
    refine av (fun hb=>by cases hb) (fun _=>?_)
    refine ae hI 0 rfl aQ aK rfl ?_
    refine ⟨fun a b w'=>a=.int .i64 0/\b=.string t.name/\Inv w [] [.blk b1 (.cells #[.int .i64 t.kind,.int .i64 t.n,.string t.name,.slice ka t.kids.length kc] ab)] S w',fun _ _ _=>0,⟨rfl,rfl,hI⟩,?_⟩
    intro t4 _ _ _ _ _ _ _ _ _ _ _ _ t3 _ _ _ _ _ _ _ _ _ w'
    rintro ⟨rfl,rfl,hI⟩
    refine ae hI 0 rfl ar aj rfl ?_
    refine fw ag ?_
    refine dC (by omega) ?_
    refine av (fun hb=>by cases hb) (fun _=>?_)
    refine ⟨fun b w'=>b=.string t.name/\Inv w [] [.blk b1 (.cells #[.int .i64 t.kind,.int .i64 t.n,.string t.name,.slice ka t.kids.length kc] ab)] S w',?_,?_⟩
    ·refine ae hI 0 rfl ar aj rfl ?_
     refine fw ag ?_
     refine iv (by omega) ?_
     refine av (fun hb=>by cases hb) (fun _=>?_)
     exact ⟨rfl,hI⟩
    intro t3 _ _ _ _ _ _ w'
    rintro ⟨rfl,hI⟩
    exact done hI (by rw [<- hx])
   ·cases hx
end
theorem Ba:∀ (f:Nat) (l:List T) (out x:Bs),ma f l out=some x->out.length<=x.length
 | 0,_,_,_,h=>by simp [ma] at h
 | _+1,[],out,x,h=>by simp [ma] at h; subst h; exact Nat.le_refl _
 | f+1,t::l,out,x,h=>by
  rw [ma] at h
  split at h
  ·cases h
  ·have:=Ba f _ _ _ h
   simp only [List.length_append] at this
   omega
def lenOf:Value->Nat
 | .slice _ n _=>n
 | _=>0
def vE (f:Nat):Prop:=∀ (t:T) (x:Bs) (S:ad) (cs:List Value),CJ f t=some x->x.length<=1000000->RdT S cs t->Pure Tryz.prog GV [.agg cs.toArray] S (.string (st x))
def Hp (f:Nat):Prop:=∀ (t:T) (x:Bs) (S:ad) (cs:List Value),Bz f t []=some x->x.length<=1000000->RdT S cs t->Pure Tryz.prog GU [.agg cs.toArray] S (.string (st x))
def Ds (f:Nat):Prop:=∀ (ts:List T) (x:Bs) (S:ad) (u:Value),ma f ts []=some x->x.length<=1000000->RdSl S 4 (RdT S) u ts->Pure Tryz.prog FZ [u] S (.string (st x))
def oV (f:Nat):Prop:=∀ (t:T) (l:Int) (x:Bs) (S:ad) (cs:List Value),nn f t l=some x->x.length<=1000000->RdT S cs t->Pure Tryz.prog Aj [.agg cs.toArray,.int .i64 l] S (.string (st x))
def Gg (f:Nat):Prop:=∀ (t:T) (l:Int) (x:Bs) (S:ad) (cs:List Value),H5 f t l=some x->x.length<=1000000->RdT S cs t->Pure Tryz.prog Gq [.agg cs.toArray,.int .i64 l] S (.string (st x))
def BL (f:Nat):Prop:=∀ (t:T) (l:Int) (x:Bs) (S:ad) (cs:List Value),C9 f t l=some x->x.length<=1000000->RdT S cs t->Pure Tryz.prog E8 [.agg cs.toArray,.int .i64 l] S (.string (st x))
section
attribute [local irreducible] Run CondV ao aI
theorem LF {f:Nat} (ih:∀ g,g<f->vE g):Ds f:=by
 intro ts x S u h hx hu w hI
 refine vb.2 ?_
 dsimp only[vb,aC]
 refine ⟨fun a b w'=>∃ (f' j:Nat) (out acc:Bs),f'<=f/\j<=ts.length/\a=.int .i64 (j:Int)/\b=.string (st out)/\acc=out++(if 0<j/\j<ts.length then [44] else [])/\ma f' (ts.drop j) acc=some x/\Inv w [] [] S w',
  fun a _ _=>ts.length - (intOf a).toNat,⟨f,0,[],[],Nat.le_refl _,Nat.zero_le _,rfl,rfl,by simp,h,hI⟩,?_⟩
 intro t4 _ _ _ _ _ _ _ _ _ t3 _ _ _ _ _ _ _ _ w'
 rintro ⟨f',j,out,acc,hf',hj,rfl,rfl,hacc,ha,hI⟩
 cases f' with
 | zero=>simp [ma] at ha
 | succ g=>
 refine aD hu ag ?_
 refine bC ?_
 refine aH (fun hji=>?_) (fun hji=>?_)
 ·have hj':j<ts.length:=by omega
  rw [List.drop_eq_getElem_cons hj',ma] at ha
  split at ha
  ·cases ha
  rename_i y hy
  have hlen:=Ba _ _ _ _ ha
  simp only [List.length_append] at hlen
  refine ⟨fun b w'=>b=.string (st acc)/\Inv w [] [] S w',?_,?_⟩
  ·refine dK ?_
   refine aH (fun h0=>?_) (fun h0=>?_)
   ·rw [if_pos (by omega)] at hacc
    refine cM (b:=[44]) (by rw [hacc,List.length_append] at hlen; simp only [List.length_cons,List.length_nil] at hlen ⊢; omega) ?_
    exact ⟨by rw [hacc],hI⟩
   ·rw [if_neg (by omega),List.append_nil] at hacc
    exact ⟨by rw [hacc],hI⟩
  intro t3 _ _ _ _ w'
  rintro ⟨rfl,hI⟩
  refine bM hI hu ag ac hj' (fun _ _=>RdT.length) fun cs hcs=>?_
  refine Run.callPure ew eC hI (ih g (by omega) _ y S cs hy (by omega) hcs) fun w' hI=>?_
  refine cM (by omega) ?_
  refine bi (by have:=hu.le; simp only [maxLen] at this; omega) ?_
  refine ⟨⟨g,j+1,acc++y,_,by omega,hj',rfl,rfl,rfl,?_,hI⟩,by simp only [intOf,Int.toNat_natCast]; omega⟩
  have e:(if ts.drop (j+1)=[] then [] else [44]:Bs)=if 0<j+1/\j+1<ts.length then [44] else []:=by
   by_cases h1:j+1<ts.length
   ·rw [if_neg (fun h2=>by rw [List.drop_eq_nil_iff] at h2; omega),if_pos (by omega)]
   ·rw [if_pos (List.drop_eq_nil_of_le (by omega)),if_neg (by omega)]
  rw [<- e]
  exact ha
 ·have:j=ts.length:=by omega
  subst this
  rw [List.drop_length,ma] at ha
  simp only [Option.some.injEq] at ha
  rw [if_neg (by omega),List.append_nil] at hacc
  exact done hI (by rw [<- ha,hacc])
theorem Gx {f:Nat} (ih:∀ g,g<f->vE g):oV f:=by
 intro t l x S cs h hx hc w hI
 cases f with
 | zero=>simp [nn] at h
 | succ g=>
 rw [nn] at h
 split at h
 ·cases h
 rename_i y hy
 simp only [Option.some.injEq] at h
 have h0:=hc
 obtain ⟨kv,rfl,_,_,_,hk⟩:=RdT.iff.1 hc
 obtain ⟨ka,kc,rfl,_⟩:=id hk
 have hyx:y.length<=1000000/\y.length+2<=9000000:=by
  have:y.length<=x.length:=by
   rw [<- h]; split
   ·simp; omega
   ·omega
  omega
 refine oo.2 ?_
 dsimp only[oo,aR]
 refine bl hI fun b1 w' hI=>?_
 refine ⟨fun b w'=>b=.bool (lQ t && decide (l<bE t.name))/\Inv w [] [.blk b1 (.cells #[.int .i64 t.kind,.int .i64 t.n,.string t.name,.slice ka t.kids.length kc] ab)] S w',?_,?_⟩
 ·refine aw hI 0 ac rfl rfl ?_
  refine Run.callPure ro sB hI (l3 h0) fun w' hI=>?_
  cases hf:lQ t
  ·refine rpG ?_
   exact ⟨by rw [Bool.false_and],hI⟩
  ·refine rpG ?_
   refine ae hI 0 rfl aQ aK rfl ?_
   refine Run.callPure dU dV hI (cX _ S) fun w' hI=>?_
   refine dK ?_
   refine rpG ?_
   exact ⟨by rw [Bool.true_and],hI⟩
 intro t13 _ _ _ _ _ _ _ _ w'
 rintro ⟨rfl,hI⟩
 refine av (fun hb=>?_) (fun hb=>?_)
 ·rw [Bool.and_eq_true,decide_eq_true_eq] at hb
  rw [if_pos hb] at h
  refine aw hI 0 ac rfl rfl ?_
  refine Run.callPure ew eC hI (ih g (by omega) t y S _ hy hyx.1 h0) fun w' hI=>?_
  refine cM (a:=[40]) (by simp only [List.length_cons,List.length_nil]; omega) ?_
  refine cM (b:=[41]) (by simp only [List.length_append,List.length_cons,List.length_nil]; omega) ?_
  exact done hI (by rw [<- h])
 ·rw [if_neg (fun hh=>by rw [Bool.and_eq_false_iff,decide_eq_false_iff_not] at hb; rcases hb with hb|hb; rw [hh.1] at hb; cases hb; exact hb hh.2)] at h
  refine aw hI 0 ac rfl rfl ?_
  refine Run.callPure ew eC hI (ih g (by omega) t y S _ hy hyx.1 h0) fun w' hI=>?_
  exact done hI (by rw [<- h])
theorem LL {f:Nat} (ih:∀ g,g<f->vE g) (ihB:∀ g,g<f->oV g):Gg f:=by
 intro t l x S cs h hx hc w hI
 cases f with
 | zero=>simp [H5] at h
 | succ g=>
 rw [H5] at h
 have h0:=hc
 obtain ⟨kv,rfl,_,_,_,hk⟩:=RdT.iff.1 hc
 obtain ⟨ka,kc,rfl,_⟩:=id hk
 refine uD.2 ?_
 dsimp only[uD,aR]
 refine bl hI fun b1 w' hI=>?_
 refine aw hI 0 ac rfl rfl ?_
 refine Run.callPure vL vu hI (nE h0) fun w' hI=>?_
 split at h
 ·rename_i hs
  split at h
  ·cases h
  rename_i y hy
  simp only [Option.some.injEq] at h
  have hyx:y.length+2=x.length:=by rw [<- h]; simp only [List.length_append,List.length_cons,List.length_nil]; omega
  rw [hs]
  refine av (fun _=>?_) (fun hb=>by cases hb)
  refine aw hI 0 ac rfl rfl ?_
  refine Run.callPure ew eC hI (ih g (by omega) t y S _ hy (by omega) h0) fun w' hI=>?_
  refine cM (a:=[40]) (by simp only [List.length_cons,List.length_nil]; omega) ?_
  refine cM (b:=[41]) (by simp only [List.length_append,List.length_cons,List.length_nil]; omega) ?_
  exact done hI (by rw [<- h])
 ·rename_i hs
  rw [Bool.eq_false_iff.2 hs]
  refine av (fun hb=>by cases hb) (fun _=>?_)
  refine aw hI 0 ac rfl rfl ?_
  refine Run.callPure nL oD hI (ihB g (by omega) t l x S _ h hx h0) fun w' hI=>?_
  exact done hI rfl
theorem K0 {f:Nat} (ihB:∀ g,g<f->oV g):BL f:=by
 intro t l x S cs h hx hc w hI
 cases f with
 | zero=>simp [C9] at h
 | succ g=>
 rw [C9] at h
 split at h
 ·cases h
 rename_i y hy
 split at h
 ·cases h
 rename_i hne
 simp only [Option.some.injEq] at h
 have hy0:0<y.length:=by
  cases y with
  | nil=>exact absurd rfl hne
  | cons a l=>simp
 have hyx:y.length<=1000000:=by
  have:y.length<=x.length:=by
   rw [<- h]; split
   ·simp; omega
   ·omega
  omega
 have h0:=hc
 obtain ⟨kv,rfl,_,_,_,hk⟩:=RdT.iff.1 hc
 obtain ⟨ka,kc,rfl,_⟩:=id hk
 refine qG.2 ?_
 dsimp only[qG,aR]
 refine bl hI fun b1 w' hI=>?_
 refine aw hI 0 ac rfl rfl ?_
 refine Run.callPure nL oD hI (ihB g (by omega) t l y S _ hy hyx h0) fun w' hI=>?_
 refine ⟨fun b w'=>b=.bool (vp t || !CR y)/\Inv w [] [.blk b1 (.cells #[.int .i64 t.kind,.int .i64 t.n,.string t.name,.slice ka t.kids.length kc] ab)] S w',?_,?_⟩
 ·refine aw hI 0 ac rfl rfl ?_
  refine Run.callPure vL vu hI (nE h0) fun w' hI=>?_
  cases hs:vp t
  ·refine rpG ?_
   refine Run.callPure B8 Cj hI (Ac y hy0) fun w' hI=>?_
   refine bU ?_
   refine rpG ?_
   exact ⟨by rw [Bool.false_or],hI⟩
  ·refine rpG ?_
   exact ⟨by rw [Bool.true_or],hI⟩
 intro t15 _ _ _ _ _ _ w'
 rintro ⟨rfl,hI⟩
 refine av (fun hb=>?_) (fun hb=>?_)
 ·rw [Bool.or_eq_true,Bool.not_eq_true'] at hb
  rw [if_pos hb] at h
  refine cM (a:=[40]) (by simp only [List.length_cons,List.length_nil]; omega) ?_
  refine cM (b:=[41]) (by simp only [List.length_append,List.length_cons,List.length_nil]; omega) ?_
  exact done hI (by rw [<- h])
 ·rw [if_neg (fun hh=>by rw [<- Bool.not_eq_true',<- Bool.or_eq_true,hb] at hh; cases hh)] at h
  exact done hI (by rw [<- h])
theorem LD {f:Nat} (hf:f<=100000) (ih:∀ g,g<f->vE g) (ihA:∀ g,g<f->Ds g):Hp f:=by
 intro t x S cs h hx hc w hI
 obtain ⟨kv,rfl,_,_,_,hk⟩:=RdT.iff.1 hc
 refine u4.2 ?_
 dsimp only[u4,aC]
 refine bl hI fun b1 w' hI=>?_
 refine di hI bo fun v0 w' hI=>?_
 refine ⟨fun a w'=>∃ (f':Nat) (t':T) (items:List T) (ds:List Value) (css:List (List Value)),f'+items.length=f/\Bz f' t' items=some x/\RdT S ds t'/\Rows 4 (RdT S) css items/\(∃ p m,a=.slice p items.length m)/\Inv w [] [.blk b1 (.cells ds.toArray ab),aB a ab 4 css] S w',
  fun a _=>f+1 - lenOf a,⟨f,t,[],_,[],by simp,h,hc,Rows.nil _ _,?_,hI⟩,?_⟩
 ·have hI2:Inv w [] ([Item.blk b1 (.cells #[.int .i64 t.kind,.int .i64 t.n,.string t.name,kv] ab)]++[aB v0 ab 4 []]) S w':=hI
  obtain ⟨S1,_,hrd,_⟩:=Inv.lendExt hI2
  obtain ⟨p,m,e,_⟩:=RowRd.rows (Rows.nil 4 (RdT S)) hrd
  exact ⟨p,m,e⟩
 clear h hc hk hI
 intro _ _ _ _ t3 _ _ _ _ _ _ _ _ _ w'
 rintro ⟨f',t',items,ds,css,hfl,hl,hd,hR,⟨p,m,rfl⟩,hI⟩
 have hd0:=hd
 obtain ⟨kd,rfl,_,_,_,hk⟩:=RdT.iff.1 hd
 have hcl:=hR.hc
 cases f' with
 | zero=>simp [Bz] at hl
 | succ g=>
 rw [Bz] at hl
 refine aw hI 0 ac rfl rfl ?_
 refine Run.callPure nC nO hI (iB hd0) fun w' hI=>?_
 split at hl
 ·rename_i hp
  split at hl
  ·rename_i a b hab
   rw [hp]
   refine av (fun _=>?_) (fun hb=>by cases hb)
   rw [hab] at hk
   refine ae hI 0 rfl ar aj rfl ?_
   refine bM (i:=0) hI hk ag ac (by simp) (fun _ _=>RdT.length) fun es hes=>?_
   rw [List.getElem_cons_zero] at hes
   refine bP (css:=css) hI 1 es bo (by omega) (by omega) rfl hes.length hes.one (by omega) (by omega) fun v' w' hI=>?_
   refine ae hI 0 rfl ar aj rfl ?_
   refine bM (i:=1) hI hk ag ac (by simp) (fun _ _=>RdT.length) fun gs hgs=>?_
   rw [List.getElem_cons_succ,List.getElem_cons_zero] at hgs
   have hg1:=hgs.length
   refine au hI 0 rfl ac (by simpa using hg1) rfl (by simpa using hgs.one) fun w' hI=>?_
   have hR2:=hR.snoc hes hes.length
   have hI2:Inv w [] ([Item.blk b1 (.cells gs.toArray ab)]++[aB v' ab 4 (css++[es])]) S w':=hI
   obtain ⟨S1,hE1,hrd,_⟩:=Inv.lendExt hI2
   obtain ⟨p',m',e',_⟩:=RowRd.rows hR2 hrd
   refine ⟨⟨g,b,items++[a],gs,css++[es],by rw [List.length_append]; simp only [List.length_cons,List.length_nil]; omega,hl,hgs,hR2,⟨p',m',e'⟩,hI⟩,?_⟩
   rw [e']
   simp only [lenOf,List.length_append,List.length_cons,List.length_nil]
   omega
  ·cases hl
 ·rename_i hp
  rw [Bool.eq_false_iff.2 hp]
  refine av (fun hb=>by cases hb) (fun _=>?_)
  split at hl
  ·cases hl
  rename_i y hy
  refine aw hI 0 ac rfl rfl ?_
  refine Run.callPure Hk GZ hI (zO hd0) fun w' hI=>?_
  have hI2:Inv w [] ([Item.blk b1 (.cells #[.int .i64 t'.kind,.int .i64 t'.n,.string t'.name,kd] ab)]++[aB (.slice p items.length m) ab 4 css]) S w':=hI
  obtain ⟨S1,hE1,hrd,hI⟩:=Inv.lendExt hI2
  have hrs:=RowRd.rows (hR.monoR fun _ _ h=>RdT.mono hE1.1 h) hrd
  have hd1:=RdT.mono hE1.1 hd0
  split at hl
  ·rename_i hn
   simp only [Option.some.injEq] at hl
   have hyx:y.length+2=x.length:=by rw [<- hl]; simp only [List.length_append,List.length_cons,List.length_nil]; omega
   rw [hn]
   refine av (fun _=>?_) (fun hb=>by cases hb)
   refine Run.callPure n4 nY hI (ihA g (by omega) items y S1 _ hy (by omega) hrs) fun w' hI=>?_
   refine cM (a:=[91]) (by simp only [List.length_cons,List.length_nil]; omega) ?_
   refine cM (b:=[93]) (by simp only [List.length_append,List.length_cons,List.length_nil]; omega) ?_
   exact iy hI hE1.1 (by rw [<- hl])
  ·rename_i hn
   split at hl
   ·cases hl
   rename_i z hz
   simp only [Option.some.injEq] at hl
   have hyx:y.length+z.length+3=x.length:=by rw [<- hl]; simp only [List.length_append,List.length_cons,List.length_nil]; omega
   rw [Bool.eq_false_iff.2 hn]
   refine av (fun hb=>by cases hb) (fun _=>?_)
   refine ⟨fun D x2 DM kL wR iC vG mu eH mw w_=>Fx D 0 [mw=.slice p items.length m,eH=.string (st y),mu=.string (st ([91]++y)),vG=.string (st ([91]++y++[124])),iC=.agg #[.int .i64 t'.kind,.int .i64 t'.n,.string t'.name,kd],wR=.string (st z),kL=.string (st ([91]++y++[124]++z)),DM=.string (st ([91]++y++[124]++z++[93])),x2=.string (st ([91]++y++[124]++z++[93]))]/\Inv w [] [.blk b1 (.cells #[.int .i64 t'.kind,.int .i64 t'.n,.string t'.name,kd] ab)] S1 w_,⟨Fx.nil _ _,hI.draw⟩,⟨?_,?_,?_,?_,?_,?_,?_,?_,?_,trivial⟩,?_⟩
   all_goals (intro D bv; intros; rename_i x2 DM kL wR iC vG mu eH mw w_ hA_; have hF_:=hA_.1; obtain ⟨⟨ci,cd,cj,cc,cm,cr,bO,cR,dt,_⟩,hI⟩:=hA_)
   ·exact ⟨hF_.set 0 rfl,hI⟩
   ·obtain rfl:=ci ‹_›
    refine Run.callPure n4 nY hI (ihA g (by omega) items y S1 _ hy (by omega) hrs) fun w_ hI=>?_
    exact ⟨hF_.set 1 rfl,hI⟩
   ·obtain rfl:=cd ‹_›
    refine cM (a:=[91]) (by simp only [List.length_cons,List.length_nil]; omega) ?_
    exact ⟨hF_.set 2 rfl,hI⟩
   ·obtain rfl:=cj ‹_›
    refine cM (b:=[124]) (by simp only [List.length_append,List.length_cons,List.length_nil]; omega) ?_
    exact ⟨hF_.set 3 rfl,hI⟩
   ·refine aw hI 0 ac rfl rfl ?_
    exact ⟨hF_.set 4 rfl,hI⟩
   ·obtain rfl:=cm ‹_›
    refine Run.callPure ew eC hI (ih g (by omega) t' z S1 _ hz (by omega) hd1) fun w_ hI=>?_
    exact ⟨hF_.set 5 rfl,hI⟩
   ·obtain rfl:=cc ‹_›
    obtain rfl:=cr ‹_›
    refine cM (by simp only [List.length_append,List.length_cons,List.length_nil]; omega) ?_
    exact ⟨hF_.set 6 rfl,hI⟩
   ·obtain rfl:=bO ‹_›
    refine cM (b:=[93]) (by simp only [List.length_append,List.length_cons,List.length_nil]; omega) ?_
    exact ⟨hF_.set 7 rfl,hI⟩
   ·obtain rfl:=cR ‹_›
    exact ⟨hF_.set 8 rfl,hI⟩
   obtain ⟨rfl,rfl,rfl,rfl,rfl,rfl,rfl,rfl,rfl,_⟩:=hF_.all
   clear hF_ ci cd cj cc cm cr bO cR dt
   exact iy hI hE1.1 (by rw [<- hl])
theorem Nm {f:Nat} (ihL:∀ g,g<f->Hp g) (ihA:∀ g,g<f->Ds g) (ihF:∀ g,g<f->Gg g) (ihR:∀ g,g<f->BL g):vE f:=by
 intro t x S cs h hx hc w hI
 cases f with
 | zero=>simp [CJ] at h
 | succ g=>
 rw [CJ] at h
 have h0:=hc
 obtain ⟨kv,rfl,_,_,_,hk⟩:=RdT.iff.1 hc
 refine vF.2 ?_
 dsimp only[vF,aC]
 refine bl hI fun b1 w' hI=>?_
 obtain ⟨B1,hB1⟩:∃ B1,B1=Item.blk b1 (.cells #[.int .i64 t.kind,.int .i64 t.n,.string t.name,kv] ab):=⟨_,rfl⟩
 refine aw hI 0 ac rfl rfl ?_
 refine Run.callPure nC nO hI (iB h0) fun w' hI=>?_
 split at h
 ·rename_i hp
  rw [hp]
  refine av (fun _=>?_) (fun hb=>by cases hb)
  refine aw hI 0 ac rfl rfl ?_
  refine Run.callPure FE EX hI (ihL g (by omega) t x S _ h hx h0) fun w' hI=>?_
  exact done hI rfl
 rename_i hp
 have hp:=Bool.eq_false_iff.2 hp
 rw [hp]
 refine av (fun hb=>by cases hb) (fun _=>?_)
 refine aw hI 0 ac rfl rfl ?_
 refine Run.callPure ro sB hI (l3 h0) fun w' hI=>?_
 split at h
 ·rename_i hf
  rw [hf]
  refine av (fun _=>?_) (fun hb=>by cases hb)
  split at h
  ·rename_i a b hab
   obtain ⟨lv,hlv⟩:∃ lv,lv=bE t.name:=⟨_,rfl⟩
   rw [<- hlv] at h
   have hlr:1<=lv/\lv<=3:=by
    have h1:0<bE t.name:=by
     unfold lQ at hf
     simp only [Bool.and_eq_true,decide_eq_true_eq] at hf
     exact hf.2.2
    have h2:bE t.name<=3:=by
     unfold bE
     split
     ·omega
     ·split
      ·omega
      ·split <;> omega
    omega
   split at h
   ·rename_i y z hy hz
    simp only [Option.some.injEq] at h
    have hlen:y.length+(fF (bs t.name)).length+z.length=x.length:=by rw [<- h]; simp only [List.length_append]
    have hsp:(bs t.name).length<=(fF (bs t.name)).length:=by
     unfold fF
     split
     ·simp; omega
     ·omega
    rw [hab] at hk
    obtain ⟨b2,o2,cap2,c2,E2,fz2,rfl,hS,hRa⟩:=hk.at_ (i:=0) (by simp)
    obtain ⟨b2',o2',cap2',c2',E2',fz2',hsl,hS',hRb⟩:=hk.at_ (i:=1) (by simp)
    cases hsl
    rw [hS] at hS'
    cases hS'
    rw [List.getElem_cons_zero] at hRa
    rw [List.getElem_cons_succ,List.getElem_cons_zero] at hRb
    refine ae hI 0 rfl aQ aK rfl ?_
    refine Run.callPure dU dV hI (cX _ S) fun w' hI=>?_
    rw [<- hlv]
    have hI:Inv w [] [B1] S w':=by rw [hB1]; exact hI
    refine ⟨fun v w'=>v=.int .i64 (if lv=3 then 2 else lv)/\Inv w [] [B1] S w',?_,?_⟩
    ·refine ba ?_
     refine aH (fun h3=>⟨by rw [if_pos h3],hI⟩) (fun h3=>⟨by rw [if_neg h3],hI⟩)
    intro t4 _ _ w'
    rintro ⟨rfl,hI⟩
    subst hB1
    skip
    refine ⟨fun D x2 H4 Iw Ke MS Na DM kL wR iC vG mu eH mw s3 rD pe mQ od w_=>Fx D 0 [od=.pointer (some ⟨b1,3,none⟩),mQ=.slice (some ⟨b2,o2,none⟩) [a,b].length cap2,pe=.pointer (some ⟨b2,o2+0 * 4,none⟩),rD=.agg (aV c2 (o2+0 * 4) 4).toArray,s3=.int .i64 (if lv=3 then 2 else lv),mw=.string (st y),eH=.pointer (some ⟨b1,2,none⟩),mu=.string t.name,vG=.string (st (fF (bs t.name))),iC=.string (st (y++fF (bs t.name))),wR=.pointer (some ⟨b1,3,none⟩),kL=.slice (some ⟨b2,o2,none⟩) [a,b].length cap2,DM=.pointer (some ⟨b2,o2+1 * 4,none⟩),Na=.agg (aV c2 (o2+1 * 4) 4).toArray,MS=.int .i64 lv,Ke=.int .i64 (lv - 1),Iw=.string (st z),H4=.string (st (y++fF (bs t.name)++z)),x2=.string (st (y++fF (bs t.name)++z))]/\Inv w [] [.blk b1 (.cells #[.int .i64 t.kind,.int .i64 t.n,.string t.name,.slice (some ⟨b2,o2,none⟩) [a,b].length cap2] ab)] S w_,⟨Fx.nil _ _,hI.draw⟩,⟨?_,?_,?_,?_,?_,?_,?_,?_,?_,?_,?_,?_,?_,?_,?_,?_,?_,?_,?_,trivial⟩,?_⟩
    all_goals (intro D bv; intros; rename_i x2 H4 Iw Ke MS Na DM kL wR iC vG mu eH mw s3 rD pe mQ od w_ hA_; have hF_:=hA_.1; obtain ⟨⟨ci,cd,cj,cc,cm,cr,bO,cR,dt,eP,cI,db,d6,fx,fS,gN,iU,lH,o5,_⟩,hI⟩:=hA_)
    ·refine aA ar ?_
     exact ⟨hF_.set 0 rfl,hI⟩
    ·obtain rfl:=ci ‹_›
     refine aT hI 0 aj rfl rfl ?_
     exact ⟨hF_.set 1 rfl,hI⟩
    ·obtain rfl:=cd ‹_›
     refine aE (i:=0) ag (by simp) ?_
     exact ⟨hF_.set 2 rfl,hI⟩
    ·obtain rfl:=cj ‹_›
     refine bK ac hRa.length (fun j v hj=>by rw [hI.cellS hS]; exact aJ rfl j v hj) ?_
     exact ⟨hF_.set 3 rfl,hI⟩
    ·exact ⟨hF_.set 4 rfl,hI⟩
    ·obtain rfl:=cc ‹_›
     obtain rfl:=cm ‹_›
     refine Run.callPure Ft DZ hI (ihF g (by omega) a _ y S _ hy (by omega) hRa) fun w_ hI=>?_
     exact ⟨hF_.set 5 rfl,hI⟩
    ·refine aA aQ ?_
     exact ⟨hF_.set 6 rfl,hI⟩
    ·obtain rfl:=bO ‹_›
     refine aT hI 0 aK rfl rfl ?_
     exact ⟨hF_.set 7 rfl,hI⟩
    ·obtain rfl:=cR ‹_›
     refine Run.callPure zA zr hI (za (bs t.name) (by omega)) fun w_ hI=>?_
     exact ⟨hF_.set 8 rfl,hI⟩
    ·obtain rfl:=cr ‹_›
     obtain rfl:=dt ‹_›
     refine cM (by omega) ?_
     exact ⟨hF_.set 9 rfl,hI⟩
    ·refine aA ar ?_
     exact ⟨hF_.set 10 rfl,hI⟩
    ·obtain rfl:=cI ‹_›
     refine aT hI 0 aj rfl rfl ?_
     exact ⟨hF_.set 11 rfl,hI⟩
    ·obtain rfl:=db ‹_›
     refine aE (i:=1) ag (by simp) ?_
     exact ⟨hF_.set 12 rfl,hI⟩
    ·obtain rfl:=d6 ‹_›
     refine bK ac hRb.length (fun j v hj=>by rw [hI.cellS hS]; exact aJ rfl j v hj) ?_
     exact ⟨hF_.set 13 rfl,hI⟩
    ·exact ⟨hF_.set 14 rfl,hI⟩
    ·obtain rfl:=fS ‹_›
     refine jk (by omega) ?_
     exact ⟨hF_.set 15 rfl,hI⟩
    ·obtain rfl:=fx ‹_›
     obtain rfl:=gN ‹_›
     refine Run.callPure Dq B5 hI (ihR g (by omega) b _ z S _ hz (by omega) hRb) fun w_ hI=>?_
     exact ⟨hF_.set 16 rfl,hI⟩
    ·obtain rfl:=eP ‹_›
     obtain rfl:=iU ‹_›
     refine cM (by rw [List.length_append]; omega) ?_
     exact ⟨hF_.set 17 rfl,hI⟩
    ·obtain rfl:=lH ‹_›
     exact ⟨hF_.set 18 rfl,hI⟩
    obtain ⟨rfl,rfl,rfl,rfl,rfl,rfl,rfl,rfl,rfl,rfl,rfl,rfl,rfl,rfl,rfl,rfl,rfl,rfl,rfl,_⟩:=hF_.all
    clear hF_ ci cd cj cc cm cr bO cR dt eP cI db d6 fx fS gN iU lH o5
    exact done hI (by rw [<- h])
   ·cases h
  ·cases h
 ·rename_i hf
  rw [Bool.eq_false_iff.2 hf]
  refine av (fun hb=>by cases hb) (fun _=>?_)
  obtain ⟨ka,kc,rfl,_⟩:=id hk
  refine ⟨fun v w'=>v=.bool (decide (t.kind=3) && decide (0<t.kids.length))/\Inv w [] [B1] S w',?_,?_⟩
  ·refine ae hI 0 rfl aP aF rfl ?_
   by_cases h3:t.kind=3
   ·refine dA h3 ?_
    refine rpG ?_
    refine ae hI 0 rfl ar aj rfl ?_
    refine fw ag ?_
    refine dK ?_
    refine rpG ?_
    refine ⟨?_,by rw [hB1]; exact hI⟩
    rw [decide_eq_true h3,Bool.true_and]
    congr 1
    rw [decide_eq_decide]
    omega
   ·refine dh h3 ?_
    refine rpG ?_
    exact ⟨by rw [decide_eq_false h3,Bool.false_and],by rw [hB1]; exact hI⟩
  intro t37 _ _ _ _ _ _ _ _ _ w'
  rintro ⟨rfl,hI⟩
  subst hB1
  split at h
  ·rename_i hc3
   rw [decide_eq_true hc3.1,decide_eq_true hc3.2]
   refine av (fun _=>?_) (fun hb=>by cases hb)
   split at h
   ·rename_i y hy
    simp only [Option.some.injEq] at h
    have hlen:(bs t.name).length+y.length+2=x.length:=by rw [<- h]; simp only [List.length_append,List.length_cons,List.length_nil]; omega
    skip
    refine ⟨fun D x2 AG Bv Bo AL AJ xf xZ y7 w_=>Fx D 0 [y7=.pointer (some ⟨b1,2,none⟩),xZ=.string t.name,xf=.string (st (bs t.name++[40])),AJ=.pointer (some ⟨b1,3,none⟩),AL=.slice ka t.kids.length kc,Bo=.string (st y),Bv=.string (st (bs t.name++[40]++y)),AG=.string (st (bs t.name++[40]++y++[41])),x2=.string (st (bs t.name++[40]++y++[41]))]/\Inv w [] [.blk b1 (.cells #[.int .i64 t.kind,.int .i64 t.n,.string t.name,.slice ka t.kids.length kc] ab)] S w_,⟨Fx.nil _ _,hI.draw⟩,⟨?_,?_,?_,?_,?_,?_,?_,?_,?_,trivial⟩,?_⟩
    all_goals (intro D bv; intros; rename_i x2 AG Bv Bo AL AJ xf xZ y7 w_ hA_; have hF_:=hA_.1; obtain ⟨⟨ci,cd,cj,cc,cm,cr,bO,cR,dt,_⟩,hI⟩:=hA_)
    ·refine aA aQ ?_
     exact ⟨hF_.set 0 rfl,hI⟩
    ·obtain rfl:=ci ‹_›
     refine aT hI 0 aK rfl rfl ?_
     exact ⟨hF_.set 1 rfl,hI⟩
    ·obtain rfl:=cd ‹_›
     refine cM (a:=bs t.name) (b:=[40]) (by simp only [List.length_cons,List.length_nil]; omega) ?_
     exact ⟨hF_.set 2 rfl,hI⟩
    ·refine aA ar ?_
     exact ⟨hF_.set 3 rfl,hI⟩
    ·obtain rfl:=cc ‹_›
     refine aT hI 0 aj rfl rfl ?_
     exact ⟨hF_.set 4 rfl,hI⟩
    ·obtain rfl:=cm ‹_›
     refine Run.callPure n4 nY hI (ihA g (by omega) t.kids y S _ hy (by omega) hk) fun w_ hI=>?_
     exact ⟨hF_.set 5 rfl,hI⟩
    ·obtain rfl:=cj ‹_›
     obtain rfl:=cr ‹_›
     refine cM (by simp only [List.length_append,List.length_cons,List.length_nil]; omega) ?_
     exact ⟨hF_.set 6 rfl,hI⟩
    ·obtain rfl:=bO ‹_›
     refine cM (b:=[41]) (by simp only [List.length_append,List.length_cons,List.length_nil]; omega) ?_
     exact ⟨hF_.set 7 rfl,hI⟩
    ·obtain rfl:=cR ‹_›
     exact ⟨hF_.set 8 rfl,hI⟩
    obtain ⟨rfl,rfl,rfl,rfl,rfl,rfl,rfl,rfl,rfl,_⟩:=hF_.all
    clear hF_ ci cd cj cc cm cr bO cR dt
    exact done hI (by rw [<- h])
   ·cases h
  ·rename_i hc3
   have e:(decide (t.kind=3) && decide (0<t.kids.length))=false:=by
    rw [Bool.eq_false_iff,ne_eq,Bool.and_eq_true,decide_eq_true_eq,decide_eq_true_eq]; exact hc3
   rw [e]
   refine av (fun hb=>by cases hb) (fun _=>?_)
   refine aw hI 0 ac rfl rfl ?_
   refine Run.callPure Fe EU hI (De h0 hp h) fun w' hI=>?_
   exact done hI rfl
theorem Ig:∀ F f,f<F->F<=1000->vE f/\Hp f/\Ds f/\oV f/\Gg f/\BL f
 | 0,f,h,_=>by omega
 | F+1,f,h,hF=>by
  have ih:=fun g (hg:g<f)=>Ig F g (by omega) (by omega)
  have hT:vE f:=Nm (fun g hg=>(ih g hg).2.1) (fun g hg=>(ih g hg).2.2.1) (fun g hg=>(ih g hg).2.2.2.2.1) (fun g hg=>(ih g hg).2.2.2.2.2)
  exact ⟨hT,LD (by omega) (fun g hg=>(ih g hg).1) (fun g hg=>(ih g hg).2.2.1),LF fun g hg=>(ih g hg).1,Gx fun g hg=>(ih g hg).1,LL (fun g hg=>(ih g hg).1) (fun g hg=>(ih g hg).2.2.2.1),K0 fun g hg=>(ih g hg).2.2.2.1⟩
theorem A2 {f:Nat} (hf:f<=100):vE f:=(Ig (f+1) f (by omega) (by omega)).1
end
end Go.Proofs.YtcpgagfdeflbkaaGreatDoor

/- Texts written: spec.l2Text and its kin, l4Text, FormatClause. -/
import Derived.Test.YtfcbhfjomgopbaaGreatZFf3
import Derived.Test.YtfcbhfjomgopbaaGreatZFf2
namespace Go.Proofs.YtfcbhfjomgopbaaGreat
section
open Go Go.RowKit
theorem Pv:Tryz.prog.underlying HZ=some (.slice Gy):=by kernel_rfl
section
variable {w:World} {S:ae}
attribute [local irreducible] Run CondV aB aS
theorem kY {t:T} {cs:List Value} (h:RdT S cs t):Pure Tryz.prog KV [.agg cs.toArray] S (.bool (AK t)):=by
 intro w hI
 obtain ⟨kv,rfl,_,_,_,hk⟩:=RdT.iff.1 h
 obtain ⟨ka,kc,rfl,_⟩:=id hk
 refine yC.2 ?_
 dsimp only[yC,aO]
 refine be hI fun b1 w' hI=>?_
 refine ad hI 0 rfl aE aw rfl ?_
 by_cases h3:t.kind=3
 ·refine fK h3 ?_
  refine rpG ?_
  refine ad hI 0 rfl aM aJ rfl ?_
  refine bf (b:=st [46]) ?_
  cases hn:decide (t.name=st [46])
  ·refine rpG ?_
   exact done hI (by rw [AK,hn,Bool.false_and,Bool.and_false])
  ·refine rpG ?_
   refine ad hI 0 rfl al ag rfl ?_
   refine dX af ?_
   refine aY ?_
   refine rpG ?_
   refine done hI ?_
   rw [AK,hn,decide_eq_true h3,Bool.true_and,Bool.true_and]
   congr 1
   rw [decide_eq_decide]
   omega
 ·refine eC h3 ?_
  refine rpG ?_
  exact done hI (by rw [AK,decide_eq_false h3,Bool.false_and])
theorem DO {t:T} {cs:List Value} (h:RdT S cs t):Pure Tryz.prog M5 [.agg cs.toArray] S (.bool (NQ t)):=by
 intro w hI
 obtain ⟨kv,rfl,_,_,_,hk⟩:=RdT.iff.1 h
 obtain ⟨ka,kc,rfl,_⟩:=id hk
 refine Cr.2 ?_
 dsimp only[Cr,aO]
 refine be hI fun b1 w' hI=>?_
 refine ad hI 0 rfl aE aw rfl ?_
 by_cases h3:t.kind=3
 ·refine fK h3 ?_
  refine rpG ?_
  refine ad hI 0 rfl aM aJ rfl ?_
  refine bf (b:=st [91,93]) ?_
  cases hn:decide (t.name=st [91,93])
  ·refine rpG ?_
   exact done hI (by rw [NQ,hn,Bool.false_and,Bool.and_false])
  ·refine rpG ?_
   refine ad hI 0 rfl al ag rfl ?_
   refine dX af ?_
   refine aY ?_
   refine rpG ?_
   refine done hI ?_
   rw [NQ,hn,decide_eq_true h3,Bool.true_and,Bool.true_and]
   congr 1
   rw [decide_eq_decide]
   omega
 ·refine eC h3 ?_
  refine rpG ?_
  exact done hI (by rw [NQ,decide_eq_false h3,Bool.false_and])
theorem o5 {t:T} {cs:List Value} (h:RdT S cs t):Pure Tryz.prog HX [.agg cs.toArray] S (.bool (ot t)):=by
 intro w hI
 obtain ⟨kv,rfl,_,_,_,hk⟩:=RdT.iff.1 h
 obtain ⟨ka,kc,rfl,_⟩:=id hk
 refine vP.2 ?_
 dsimp only[vP,aO]
 refine be hI fun b1 w' hI=>?_
 refine ad hI 0 rfl aE aw rfl ?_
 by_cases h3:t.kind=3
 ·refine fK h3 ?_
  refine rpG ?_
  refine ad hI 0 rfl al ag rfl ?_
  refine dX af ?_
  by_cases hn:t.kids.length=2
  ·refine fK (by omega) ?_
   refine rpG ?_
   refine ad hI 0 rfl aM aJ rfl ?_
   refine Run.callPure eF eH hI (dI _ S) fun w' hI=>?_
   refine dv ?_
   refine rpG ?_
   exact done hI (by rw [ot,decide_eq_true h3,decide_eq_true hn,Bool.true_and,Bool.true_and])
  ·refine eC (by omega) ?_
   refine rpG ?_
   exact done hI (by rw [ot,decide_eq_false hn,Bool.false_and,Bool.and_false])
 ·refine eC h3 ?_
  refine rpG ?_
  exact done hI (by rw [ot,decide_eq_false h3,Bool.false_and])
theorem qq {t:T} {cs:List Value} (h:RdT S cs t):Pure Tryz.prog KI [.agg cs.toArray] S (.bool (yS t)):=by
 intro w hI
 obtain ⟨kv,rfl,_,_,_,hk⟩:=RdT.iff.1 h
 obtain ⟨ka,kc,rfl,_⟩:=id hk
 refine yj.2 ?_
 dsimp only[yj,aO]
 refine be hI fun b1 w' hI=>?_
 refine ad hI 0 rfl aE aw rfl ?_
 by_cases h3:t.kind=3
 ·refine fK h3 ?_
  refine rpG ?_
  refine ad hI 0 rfl al ag rfl ?_
  refine dX af ?_
  by_cases hn:t.kids.length=0
  ·refine fK (by omega) ?_
   refine rpG ?_
   refine ad hI 0 rfl aM aJ rfl ?_
   refine Run.callPure eF eH hI (dI _ S) fun w' hI=>?_
   refine dv ?_
   refine rpG ?_
   exact done hI (by rw [yS,decide_eq_true h3,decide_eq_true hn,Bool.true_and,Bool.true_and])
  ·refine eC (by omega) ?_
   refine rpG ?_
   exact done hI (by rw [yS,decide_eq_false hn,Bool.false_and,Bool.and_false])
 ·refine eC h3 ?_
  refine rpG ?_
  exact done hI (by rw [yS,decide_eq_false h3,Bool.false_and])
theorem BP (n:Bs) (hn:n.length<=1000000):Pure Tryz.prog GJ [.string (st n)] S (.string (st (im n))):=by
 intro w hI
 refine r3.2 ?_
 dsimp only[r3,aO]
 refine ⟨fun b w'=>b=.bool (decide (n=[105,115]) || decide (n=[109,111,100]))/\Inv w [] [] S w',?_,?_⟩
 ·refine BW (b:=[105,115]) ?_
  cases h5:decide (n=[105,115])
  ·refine rpG ?_
   refine BW (b:=[109,111,100]) ?_
   refine rpG ?_
   exact ⟨by rw [Bool.false_or],hI⟩
  ·refine rpG ?_
   exact ⟨by rw [Bool.true_or],hI⟩
 intro t8 _ _ _ _ _ w'
 rintro ⟨rfl,hI⟩
 refine az (fun hb=>?_) (fun hb=>?_)
 ·rw [Bool.or_eq_true,decide_eq_true_eq,decide_eq_true_eq] at hb
  refine dJ (a:=[32]) (by simp; omega) ?_
  refine dJ (b:=[32]) (by simp; omega) ?_
  exact done hI (by rw [im,if_pos hb]; rfl)
 ·rw [Bool.or_eq_false_iff,decide_eq_false_iff_not,decide_eq_false_iff_not] at hb
  exact done hI (by rw [im,if_neg (by rintro (h|h); exact hb.1 h; exact hb.2 h)])
theorem DJ (s:Bs) (h0:0<s.length):Pure Tryz.prog Io [.string (st s)] S (.bool (Fg s)):=by
 intro w hI
 refine wn.2 ?_
 dsimp only[wn,aO]
 have e1:Fg s=(sml s 0 || (dig s 0 || (upp s 0 || (sgn s 0 91 || sgn s 0 40)))):=rfl
 have eu:upp s 0=(decide (65<=s[0].toNat) && decide (s[0].toNat<=90)):=oa h0 65 90
 have ea:sgn s 0 91=decide (s[0].toNat=91):=kW h0 91
 have eb:sgn s 0 40=decide (s[0].toNat=40):=kW h0 40
 refine Run.callPure vu un hI (oH s 0 S) fun w' hI=>?_
 cases hs:sml s 0
 ·refine rpG ?_
  refine Run.callPure kl j8 hI (gU s 0 S) fun w' hI=>?_
  cases hd:dig s 0
  ·refine rpG ?_
   refine eB (i:=0) aR h0 ?_
   rw [hs,hd,Bool.false_or,Bool.false_or] at e1
   by_cases h65:65<=s[0].toNat
   ·refine oj (by omega) ?_
    refine rpG ?_
    refine eB (i:=0) aR h0 ?_
    by_cases h90:s[0].toNat<=90
    ·refine Fj (by omega) ?_
     refine rpG ?_
     exact done hI (by rw [e1,eu,decide_eq_true h65,decide_eq_true h90]; rfl)
    ·refine Oh (by omega) ?_
     refine rpG ?_
     refine eB (i:=0) aR h0 ?_
     by_cases h91:s[0].toNat=91
     ·refine fK (by omega) ?_
      refine rpG ?_
      exact done hI (by rw [e1,ea,decide_eq_true h91,Bool.true_or,Bool.or_true])
     ·refine eC (by omega) ?_
      refine rpG ?_
      refine eB (i:=0) aR h0 ?_
      refine eC (by omega) ?_
      refine rpG ?_
      exact done hI (by rw [e1,eu,ea,eb,decide_eq_false h90,decide_eq_false h91,decide_eq_false (show ¬ s[0].toNat=40 by omega),Bool.and_false]; rfl)
   ·refine ya (by omega) ?_
    refine rpG ?_
    refine eB (i:=0) aR h0 ?_
    refine eC (by omega) ?_
    refine rpG ?_
    refine eB (i:=0) aR h0 ?_
    by_cases h40:s[0].toNat=40
    ·refine fK (by omega) ?_
     refine rpG ?_
     exact done hI (by rw [e1,eb,decide_eq_true h40,Bool.or_true,Bool.or_true])
    ·refine eC (by omega) ?_
     refine rpG ?_
     exact done hI (by rw [e1,eu,ea,eb,decide_eq_false h65,decide_eq_false (show ¬ s[0].toNat=91 by omega),decide_eq_false h40,Bool.false_and]; rfl)
  ·refine rpG ?_
   exact done hI (by rw [e1,hd,Bool.true_or,Bool.or_true])
 ·refine rpG ?_
  exact done hI (by rw [e1,hs,Bool.true_or])
theorem Bn {n:Int} (h:0<=n/\n<=25):Pure Tryz.prog Gz [.int .i64 n] S (.string (st [UInt8.ofNat (65+n.toNat)])):=by
 intro w hI
 refine sm.2 ?_
 dsimp only[sm,aO]
 refine pN eW fT (IntWalk.u8_in _ (by omega)) ?_
 refine Ry (c:=((65+n.toNat:Nat):Int)) ?_ ?_
 ·rw [IntWalk.u8_in _ (by omega)]; omega
 refine Cq hI xW Pv fT aR fun w' hI=>?_
 exact done hI rfl
theorem HP:∀ (f n:Nat) (out r:Bs),De f n out=some r->out.length<r.length/\r.length<=out.length+f
 | 0,_,_,_,h=>by simp [De] at h
 | f+1,n,out,r,h=>by
  rw [De] at h
  split at h
  ·have:=HP f _ _ _ h
   simp only [List.length_cons] at this
   omega
  ·simp only [Option.some.injEq] at h
   subst h
   simp only [List.length_cons]
   omega
theorem uG {f n:Nat} {r:Bs} (h:De f n []=some r) (hn:n<=100000) (hf:f<=1000):Pure Tryz.prog Lw [.int .i64 (n:Int)] S (.string (st r)):=by
 intro w hI
 refine yE.2 ?_
 dsimp only[yE,aO]
 refine eM (by omega) ?_
 refine az (fun hb=>by cases hb) (fun _=>?_)
 refine eM (by omega) ?_
 refine az (fun hb=>by cases hb) (fun _=>?_)
 refine ⟨fun a b w'=>∃ (f' m:Nat) (out:Bs),a=.int .i64 (m:Int)/\b=.string (st out)/\m<=100000/\out.length+f'<=1000/\De f' m out=some r/\Inv w [] [] S w',fun a _ _=>(intOf a).toNat,⟨f,n,[],rfl,rfl,hn,by simpa using hf,h,hI⟩,?_⟩
 intro t0 _ _ t3 _ _ _ _ _ _ _ _ _ _ w'
 rintro ⟨f',m,out,rfl,rfl,hm,hof,hd,hI⟩
 cases f' with
 | zero=>simp [De] at hd
 | succ g=>
 rw [De] at hd
 split at hd
 ·rename_i h9
  refine Kx (by omega) ?_
  refine az (fun _=>?_) (fun hb=>by cases hb)
  refine Kn (a:=m) (b:=10) rfl rfl (by omega) ?_
  refine eO (a:=48) (b:=m % 10) rfl rfl (by omega) ?_
  refine pN eW fT (IntWalk.u8_in _ (by omega)) ?_
  refine Cq hI xW Pv fT aR fun w' hI=>?_
  refine dJ (by simp; omega) ?_
  refine J6 (a:=m) (b:=10) rfl rfl (by omega) (by omega) ?_
  refine ⟨⟨g,m / 10,UInt8.ofNat (48+m % 10)::out,rfl,rfl,by omega,by simp only [List.length_cons]; omega,hd,hI⟩,?_⟩
  simp only [intOf,Int.toNat_natCast]
  omega
 ·rename_i h9
  refine jN (by omega) ?_
  refine az (fun hb=>by cases hb) (fun _=>?_)
  refine eO (a:=48) (b:=m) rfl rfl (by omega) ?_
  refine pN eW fT (IntWalk.u8_in _ (by omega)) ?_
  refine Cq hI xW Pv fT aR fun w' hI=>?_
  refine dJ (by simp; omega) ?_
  simp only [Option.some.injEq] at hd
  exact done hI (by rw [<- hd]; rfl)
theorem H3 {n:Int} {r:Bs} (h:Rf n=some r) (hn:-999<=n/\n<=999):Pure Tryz.prog Nu [.int .i64 n] S (.string (st r)):=by
 intro w hI
 refine BO.2 ?_
 dsimp only[BO,aO]
 unfold Rf at h
 split at h
 ·rename_i h0
  refine Bp h0 ?_
  refine az (fun _=>?_) (fun hb=>by cases hb)
  refine QV (by omega) ?_
  obtain ⟨m,hm⟩:∃ m:Nat,-n=(m:Int):=⟨(-n).toNat,by omega⟩
  rw [hm] at h ⊢
  rw [Int.toNat_natCast,Option.map_eq_some_iff] at h
  obtain ⟨l,hl,rfl⟩:=h
  have:=HP _ _ _ _ hl
  refine Run.callPure ye yP hI (uG hl (by omega) (by omega)) fun w' hI=>?_
  refine dJ (a:=[45]) (by simp only [List.length_nil,List.length_cons] at this ⊢; omega) ?_
  exact done hI rfl
 ·rename_i h0
  refine eM h0 ?_
  refine az (fun hb=>by cases hb) (fun _=>?_)
  obtain ⟨m,rfl⟩:∃ m:Nat,n=(m:Int):=⟨n.toNat,by omega⟩
  rw [Int.toNat_natCast] at h
  refine Run.callPure ye yP hI (uG h (by omega) (by omega)) fun w' hI=>?_
  exact done hI rfl
theorem FX {t:T} {cs:List Value} {x:Bs} (h:RdT S cs t) (hp:AK t=false) (hx:Pq t=some x):Pure Tryz.prog Lb [.agg cs.toArray] S (.string (st x)):=by
 intro w hI
 have h0:=h
 obtain ⟨kv,rfl,_,_,_,hk⟩:=RdT.iff.1 h
 obtain ⟨ka,kc,rfl,_⟩:=id hk
 refine zc.2 ?_
 dsimp only[zc,aO]
 unfold Pq at hx
 refine be hI fun b1 w' hI=>?_
 refine ad hI 0 rfl aE aw rfl ?_
 split at hx
 ·rename_i h1
  refine fK h1 ?_
  refine az (fun _=>?_) (fun hb=>by cases hb)
  refine ad hI 0 rfl aK aw rfl ?_
  split at hx
  ·rename_i h2
   refine Run.callPure DK CR hI (Bn h2) fun w' hI=>?_
   simp only [Option.some.injEq] at hx
   exact done hI (by rw [<- hx])
  ·cases hx
 ·rename_i h1
  refine eC h1 ?_
  refine az (fun hb=>by cases hb) (fun _=>?_)
  split at hx
  ·rename_i h2
   refine fK h2 ?_
   refine az (fun _=>?_) (fun hb=>by cases hb)
   refine ad hI 0 rfl aK aw rfl ?_
   split at hx
   ·rename_i h3
    refine Run.callPure KD Le hI (H3 hx h3) fun w' hI=>?_
    exact done hI rfl
   ·cases hx
  ·rename_i h2
   refine eC h2 ?_
   refine az (fun hb=>by cases hb) (fun _=>?_)
   split at hx
   ·rename_i h3
    simp only [Option.some.injEq] at hx
    refine aq hI 0 ac rfl rfl ?_
    refine Run.callPure pB qr hI (kY h0) fun w' hI=>?_
    rw [hp]
    refine az (fun hb=>by cases hb) (fun _=>?_)
    refine ad hI 0 rfl aM aJ rfl ?_
    refine ⟨fun a b w'=>a=.int .i64 0/\b=.string t.name/\Inv w [] [.blk b1 (.cells #[.int .i64 t.kind,.int .i64 t.n,.string t.name,.slice ka t.kids.length kc] ab)] S w',fun _ _ _=>0,⟨rfl,rfl,hI⟩,?_⟩
    intro t4 _ _ _ _ _ _ _ _ _ _ _ _ t3 _ _ _ _ _ _ _ _ _ w'
    rintro ⟨rfl,rfl,hI⟩
    refine ad hI 0 rfl al ag rfl ?_
    refine dX af ?_
    refine eM (by omega) ?_
    refine az (fun hb=>by cases hb) (fun _=>?_)
    refine ⟨fun b w'=>b=.string t.name/\Inv w [] [.blk b1 (.cells #[.int .i64 t.kind,.int .i64 t.n,.string t.name,.slice ka t.kids.length kc] ab)] S w',?_,?_⟩
    ·refine ad hI 0 rfl al ag rfl ?_
     refine dX af ?_
     refine jN (by omega) ?_
     refine az (fun hb=>by cases hb) (fun _=>?_)
     exact ⟨rfl,hI⟩
    intro t3 _ _ _ _ _ _ w'
    rintro ⟨rfl,hI⟩
    exact done hI (by rw [<- hx])
   ·cases hx
end
theorem DV:∀ (f:Nat) (l:List T) (out x:Bs),o6 f l out=some x->out.length<=x.length
 | 0,_,_,_,h=>by simp [o6] at h
 | _+1,[],out,x,h=>by simp [o6] at h; subst h; exact Nat.le_refl _
 | f+1,t::l,out,x,h=>by
  rw [o6] at h
  split at h
  ·cases h
  ·have:=DV f _ _ _ h
   simp only [List.length_append] at this
   omega
def lenOf:Value->Nat
 | .slice _ n _=>n
 | _=>0
def yn (f:Nat):Prop:=∀ (t:T) (x:Bs) (S:ae) (cs:List Value),GM f t=some x->x.length<=1000000->RdT S cs t->Pure Tryz.prog Lj [.agg cs.toArray] S (.string (st x))
def Lr (f:Nat):Prop:=∀ (t:T) (x:Bs) (S:ae) (cs:List Value),Em f t []=some x->x.length<=1000000->RdT S cs t->Pure Tryz.prog K1 [.agg cs.toArray] S (.string (st x))
def Ge (f:Nat):Prop:=∀ (ts:List T) (x:Bs) (S:ae) (u:Value),o6 f ts []=some x->x.length<=1000000->RdSl S 4 (RdT S) u ts->Pure Tryz.prog Lm [u] S (.string (st x))
def qU (f:Nat):Prop:=∀ (t:T) (l:Int) (x:Bs) (S:ae) (cs:List Value),qF f t l=some x->x.length<=1000000->RdT S cs t->Pure Tryz.prog C9 [.agg cs.toArray,.int .i64 l] S (.string (st x))
def KX (f:Nat):Prop:=∀ (t:T) (l:Int) (x:Bs) (S:ae) (cs:List Value),Mf f t l=some x->x.length<=1000000->RdT S cs t->Pure Tryz.prog LG [.agg cs.toArray,.int .i64 l] S (.string (st x))
def Gd (f:Nat):Prop:=∀ (t:T) (l:Int) (x:Bs) (S:ae) (cs:List Value),Ft f t l=some x->x.length<=1000000->RdT S cs t->Pure Tryz.prog H7 [.agg cs.toArray,.int .i64 l] S (.string (st x))
section
attribute [local irreducible] Run CondV aB aS
theorem Qm {f:Nat} (ih:∀ g,g<f->yn g):Ge f:=by
 intro ts x S u h hx hu w hI
 refine yy.2 ?_
 dsimp only[yy,aO]
 refine ⟨fun a b w'=>∃ (f' j:Nat) (out acc:Bs),f'<=f/\j<=ts.length/\a=.int .i64 (j:Int)/\b=.string (st out)/\acc=out++(if 0<j/\j<ts.length then [44] else [])/\o6 f' (ts.drop j) acc=some x/\Inv w [] [] S w',
  fun a _ _=>ts.length - (intOf a).toNat,⟨f,0,[],[],Nat.le_refl _,Nat.zero_le _,rfl,rfl,by simp,h,hI⟩,?_⟩
 intro t4 _ _ _ _ _ _ _ _ _ t3 _ _ _ _ _ _ _ _ w'
 rintro ⟨f',j,out,acc,hf',hj,rfl,rfl,hacc,ha,hI⟩
 cases f' with
 | zero=>simp [o6] at ha
 | succ g=>
 refine aD hu af ?_
 refine bA ?_
 refine aI (fun hji=>?_) (fun hji=>?_)
 ·have hj':j<ts.length:=by omega
  rw [List.drop_eq_getElem_cons hj',o6] at ha
  split at ha
  ·cases ha
  rename_i y hy
  have hlen:=DV _ _ _ _ ha
  simp only [List.length_append] at hlen
  refine ⟨fun b w'=>b=.string (st acc)/\Inv w [] [] S w',?_,?_⟩
  ·refine dv ?_
   refine aI (fun h0=>?_) (fun h0=>?_)
   ·rw [if_pos (by omega)] at hacc
    refine dJ (b:=[44]) (by rw [hacc,List.length_append] at hlen; simp only [List.length_cons,List.length_nil] at hlen ⊢; omega) ?_
    exact ⟨by rw [hacc],hI⟩
   ·rw [if_neg (by omega),List.append_nil] at hacc
    exact ⟨by rw [hacc],hI⟩
  intro t3 _ _ _ _ w'
  rintro ⟨rfl,hI⟩
  refine ch hI hu af ac hj' (fun _ _=>RdT.length) fun cs hcs=>?_
  refine Run.callPure fZ gp hI (ih g (by omega) _ y S cs hy (by omega) hcs) fun w' hI=>?_
  refine dJ (by omega) ?_
  refine bn (by have:=hu.le; simp only [maxLen] at this; omega) ?_
  refine ⟨⟨g,j+1,acc++y,_,by omega,hj',rfl,rfl,rfl,?_,hI⟩,by simp only [intOf,Int.toNat_natCast]; omega⟩
  have e:(if ts.drop (j+1)=[] then [] else [44]:Bs)=if 0<j+1/\j+1<ts.length then [44] else []:=by
   by_cases h1:j+1<ts.length
   ·rw [if_neg (fun h2=>by rw [List.drop_eq_nil_iff] at h2; omega),if_pos (by omega)]
   ·rw [if_pos (List.drop_eq_nil_of_le (by omega)),if_neg (by omega)]
  rw [<- e]
  exact ha
 ·have:j=ts.length:=by omega
  subst this
  rw [List.drop_length,o6] at ha
  simp only [Option.some.injEq] at ha
  rw [if_neg (by omega),List.append_nil] at hacc
  exact done hI (by rw [<- ha,hacc])
theorem JM {f:Nat} (ih:∀ g,g<f->yn g):qU f:=by
 intro t l x S cs h hx hc w hI
 cases f with
 | zero=>simp [qF] at h
 | succ g=>
 rw [qF] at h
 split at h
 ·cases h
 rename_i y hy
 simp only [Option.some.injEq] at h
 have h0:=hc
 obtain ⟨kv,rfl,_,_,_,hk⟩:=RdT.iff.1 hc
 obtain ⟨ka,kc,rfl,_⟩:=id hk
 have hyx:y.length<=1000000/\y.length+2<=9000000:=by
  have:y.length<=x.length:=by
   rw [<- h]; split
   ·simp; omega
   ·omega
  omega
 refine pW.2 ?_
 dsimp only[pW,aX]
 refine be hI fun b1 w' hI=>?_
 refine ⟨fun b w'=>b=.bool (ot t && decide (l<cn t.name))/\Inv w [] [.blk b1 (.cells #[.int .i64 t.kind,.int .i64 t.n,.string t.name,.slice ka t.kids.length kc] ab)] S w',?_,?_⟩
 ·refine aq hI 0 ac rfl rfl ?_
  refine Run.callPure vy wb hI (o5 h0) fun w' hI=>?_
  cases hf:ot t
  ·refine rpG ?_
   exact ⟨by rw [Bool.false_and],hI⟩
  ·refine rpG ?_
   refine ad hI 0 rfl aM aJ rfl ?_
   refine Run.callPure eF eH hI (dI _ S) fun w' hI=>?_
   refine dv ?_
   refine rpG ?_
   exact ⟨by rw [Bool.true_and],hI⟩
 intro t13 _ _ _ _ _ _ _ _ w'
 rintro ⟨rfl,hI⟩
 refine az (fun hb=>?_) (fun hb=>?_)
 ·rw [Bool.and_eq_true,decide_eq_true_eq] at hb
  rw [if_pos hb] at h
  refine aq hI 0 ac rfl rfl ?_
  refine Run.callPure fZ gp hI (ih g (by omega) t y S _ hy hyx.1 h0) fun w' hI=>?_
  refine dJ (a:=[40]) (by simp only [List.length_cons,List.length_nil]; omega) ?_
  refine dJ (b:=[41]) (by simp only [List.length_append,List.length_cons,List.length_nil]; omega) ?_
  exact done hI (by rw [<- h])
 ·rw [if_neg (fun hh=>by rw [Bool.and_eq_false_iff,decide_eq_false_iff_not] at hb; rcases hb with hb|hb; rw [hh.1] at hb; cases hb; exact hb hh.2)] at h
  refine aq hI 0 ac rfl rfl ?_
  refine Run.callPure fZ gp hI (ih g (by omega) t y S _ hy hyx.1 h0) fun w' hI=>?_
  exact done hI (by rw [<- h])
theorem Qp {f:Nat} (ih:∀ g,g<f->yn g) (ihB:∀ g,g<f->qU g):KX f:=by
 intro t l x S cs h hx hc w hI
 cases f with
 | zero=>simp [Mf] at h
 | succ g=>
 rw [Mf] at h
 have h0:=hc
 obtain ⟨kv,rfl,_,_,_,hk⟩:=RdT.iff.1 hc
 obtain ⟨ka,kc,rfl,_⟩:=id hk
 refine yr.2 ?_
 dsimp only[yr,aX]
 refine be hI fun b1 w' hI=>?_
 refine aq hI 0 ac rfl rfl ?_
 refine Run.callPure yf y7 hI (qq h0) fun w' hI=>?_
 split at h
 ·rename_i hs
  split at h
  ·cases h
  rename_i y hy
  simp only [Option.some.injEq] at h
  have hyx:y.length+2=x.length:=by rw [<- h]; simp only [List.length_append,List.length_cons,List.length_nil]; omega
  rw [hs]
  refine az (fun _=>?_) (fun hb=>by cases hb)
  refine aq hI 0 ac rfl rfl ?_
  refine Run.callPure fZ gp hI (ih g (by omega) t y S _ hy (by omega) h0) fun w' hI=>?_
  refine dJ (a:=[40]) (by simp only [List.length_cons,List.length_nil]; omega) ?_
  refine dJ (b:=[41]) (by simp only [List.length_append,List.length_cons,List.length_nil]; omega) ?_
  exact done hI (by rw [<- h])
 ·rename_i hs
  rw [Bool.eq_false_iff.2 hs]
  refine az (fun hb=>by cases hb) (fun _=>?_)
  refine aq hI 0 ac rfl rfl ?_
  refine Run.callPure qj pp hI (ihB g (by omega) t l x S _ h hx h0) fun w' hI=>?_
  exact done hI rfl
theorem PA {f:Nat} (ihB:∀ g,g<f->qU g):Gd f:=by
 intro t l x S cs h hx hc w hI
 cases f with
 | zero=>simp [Ft] at h
 | succ g=>
 rw [Ft] at h
 split at h
 ·cases h
 rename_i y hy
 split at h
 ·cases h
 rename_i hne
 simp only [Option.some.injEq] at h
 have hy0:0<y.length:=by
  cases y with
  | nil=>exact absurd rfl hne
  | cons a l=>simp
 have hyx:y.length<=1000000:=by
  have:y.length<=x.length:=by
   rw [<- h]; split
   ·simp; omega
   ·omega
  omega
 have h0:=hc
 obtain ⟨kv,rfl,_,_,_,hk⟩:=RdT.iff.1 hc
 obtain ⟨ka,kc,rfl,_⟩:=id hk
 refine uN.2 ?_
 dsimp only[uN,aX]
 refine be hI fun b1 w' hI=>?_
 refine aq hI 0 ac rfl rfl ?_
 refine Run.callPure qj pp hI (ihB g (by omega) t l y S _ hy hyx h0) fun w' hI=>?_
 refine ⟨fun b w'=>b=.bool (yS t || !Fg y)/\Inv w [] [.blk b1 (.cells #[.int .i64 t.kind,.int .i64 t.n,.string t.name,.slice ka t.kids.length kc] ab)] S w',?_,?_⟩
 ·refine aq hI 0 ac rfl rfl ?_
  refine Run.callPure yf y7 hI (qq h0) fun w' hI=>?_
  cases hs:yS t
  ·refine rpG ?_
   refine Run.callPure Gm Fc hI (DJ y hy0) fun w' hI=>?_
   refine bM ?_
   refine rpG ?_
   exact ⟨by rw [Bool.false_or],hI⟩
  ·refine rpG ?_
   exact ⟨by rw [Bool.true_or],hI⟩
 intro t15 _ _ _ _ _ _ w'
 rintro ⟨rfl,hI⟩
 refine az (fun hb=>?_) (fun hb=>?_)
 ·rw [Bool.or_eq_true,Bool.not_eq_true'] at hb
  rw [if_pos hb] at h
  refine dJ (a:=[40]) (by simp only [List.length_cons,List.length_nil]; omega) ?_
  refine dJ (b:=[41]) (by simp only [List.length_append,List.length_cons,List.length_nil]; omega) ?_
  exact done hI (by rw [<- h])
 ·rw [if_neg (fun hh=>by rw [<- Bool.not_eq_true',<- Bool.or_eq_true,hb] at hh; cases hh)] at h
  exact done hI (by rw [<- h])
theorem Qd {f:Nat} (hf:f<=100000) (ih:∀ g,g<f->yn g) (ihA:∀ g,g<f->Ge g):Lr f:=by
 intro t x S cs h hx hc w hI
 obtain ⟨kv,rfl,_,_,_,hk⟩:=RdT.iff.1 hc
 refine yO.2 ?_
 dsimp only[yO,aO]
 refine be hI fun b1 w' hI=>?_
 refine dE hI bm fun v0 w' hI=>?_
 refine ⟨fun a w'=>∃ (f':Nat) (t':T) (items:List T) (ds:List Value) (css:List (List Value)),f'+items.length=f/\Em f' t' items=some x/\RdT S ds t'/\Rows 4 (RdT S) css items/\(∃ p m,a=.slice p items.length m)/\Inv w [] [.blk b1 (.cells ds.toArray ab),aL a ab 4 css] S w',
  fun a _=>f+1 - lenOf a,⟨f,t,[],_,[],by simp,h,hc,Rows.nil _ _,?_,hI⟩,?_⟩
 ·have hI2:Inv w [] ([Item.blk b1 (.cells #[.int .i64 t.kind,.int .i64 t.n,.string t.name,kv] ab)]++[aL v0 ab 4 []]) S w':=hI
  obtain ⟨S1,_,hrd,_⟩:=Inv.lendExt hI2
  obtain ⟨p,m,e,_⟩:=RowRd.rows (Rows.nil 4 (RdT S)) hrd
  exact ⟨p,m,e⟩
 clear h hc hk hI
 intro _ _ _ _ t3 _ _ _ _ _ _ _ _ _ w'
 rintro ⟨f',t',items,ds,css,hfl,hl,hd,hR,⟨p,m,rfl⟩,hI⟩
 have hd0:=hd
 obtain ⟨kd,rfl,_,_,_,hk⟩:=RdT.iff.1 hd
 have hcl:=hR.hc
 cases f' with
 | zero=>simp [Em] at hl
 | succ g=>
 rw [Em] at hl
 refine aq hI 0 ac rfl rfl ?_
 refine Run.callPure pB qr hI (kY hd0) fun w' hI=>?_
 split at hl
 ·rename_i hp
  split at hl
  ·rename_i a b hab
   rw [hp]
   refine az (fun _=>?_) (fun hb=>by cases hb)
   rw [hab] at hk
   refine ad hI 0 rfl al ag rfl ?_
   refine ch (i:=0) hI hk af ac (by simp) (fun _ _=>RdT.length) fun es hes=>?_
   rw [List.getElem_cons_zero] at hes
   refine dM (css:=css) hI 1 es bm (by omega) (by omega) rfl hes.length hes.one (by omega) (by omega) fun v' w' hI=>?_
   refine ad hI 0 rfl al ag rfl ?_
   refine ch (i:=1) hI hk af ac (by simp) (fun _ _=>RdT.length) fun gs hgs=>?_
   rw [List.getElem_cons_succ,List.getElem_cons_zero] at hgs
   have hg1:=hgs.length
   refine ao hI 0 rfl ac (by simpa using hg1) rfl (by simpa using hgs.one) fun w' hI=>?_
   have hR2:=hR.snoc hes hes.length
   have hI2:Inv w [] ([Item.blk b1 (.cells gs.toArray ab)]++[aL v' ab 4 (css++[es])]) S w':=hI
   obtain ⟨S1,hE1,hrd,_⟩:=Inv.lendExt hI2
   obtain ⟨p',m',e',_⟩:=RowRd.rows hR2 hrd
   refine ⟨⟨g,b,items++[a],gs,css++[es],by rw [List.length_append]; simp only [List.length_cons,List.length_nil]; omega,hl,hgs,hR2,⟨p',m',e'⟩,hI⟩,?_⟩
   rw [e']
   simp only [lenOf,List.length_append,List.length_cons,List.length_nil]
   omega
  ·cases hl
 ·rename_i hp
  rw [Bool.eq_false_iff.2 hp]
  refine az (fun hb=>by cases hb) (fun _=>?_)
  split at hl
  ·cases hl
  rename_i y hy
  refine aq hI 0 ac rfl rfl ?_
  refine Run.callPure KL Lh hI (DO hd0) fun w' hI=>?_
  have hI2:Inv w [] ([Item.blk b1 (.cells #[.int .i64 t'.kind,.int .i64 t'.n,.string t'.name,kd] ab)]++[aL (.slice p items.length m) ab 4 css]) S w':=hI
  obtain ⟨S1,hE1,hrd,hI⟩:=Inv.lendExt hI2
  have hrs:=RowRd.rows (hR.monoR fun _ _ h=>RdT.mono hE1.1 h) hrd
  have hd1:=RdT.mono hE1.1 hd0
  split at hl
  ·rename_i hn
   simp only [Option.some.injEq] at hl
   have hyx:y.length+2=x.length:=by rw [<- hl]; simp only [List.length_append,List.length_cons,List.length_nil]; omega
   rw [hn]
   refine az (fun _=>?_) (fun hb=>by cases hb)
   refine Run.callPure qh qS hI (ihA g (by omega) items y S1 _ hy (by omega) hrs) fun w' hI=>?_
   refine dJ (a:=[91]) (by simp only [List.length_cons,List.length_nil]; omega) ?_
   refine dJ (b:=[93]) (by simp only [List.length_append,List.length_cons,List.length_nil]; omega) ?_
   exact gg hI hE1.1 (by rw [<- hl])
  ·rename_i hn
   split at hl
   ·cases hl
   rename_i z hz
   simp only [Option.some.injEq] at hl
   have hyx:y.length+z.length+3=x.length:=by rw [<- hl]; simp only [List.length_append,List.length_cons,List.length_nil]; omega
   rw [Bool.eq_false_iff.2 hn]
   refine az (fun hb=>by cases hb) (fun _=>?_)
   refine ⟨fun D x2 jM jd lw iB mJ nh hY mY w_=>Fx D 0 [mY=.slice p items.length m,hY=.string (st y),nh=.string (st ([91]++y)),mJ=.string (st ([91]++y++[124])),iB=.agg #[.int .i64 t'.kind,.int .i64 t'.n,.string t'.name,kd],lw=.string (st z),jd=.string (st ([91]++y++[124]++z)),jM=.string (st ([91]++y++[124]++z++[93])),x2=.string (st ([91]++y++[124]++z++[93]))]/\Inv w [] [.blk b1 (.cells #[.int .i64 t'.kind,.int .i64 t'.n,.string t'.name,kd] ab)] S1 w_,⟨Fx.nil _ _,hI.draw⟩,⟨?_,?_,?_,?_,?_,?_,?_,?_,?_,trivial⟩,?_⟩
   all_goals (intro D bo; intros; rename_i x2 jM jd lw iB mJ nh hY mY w_ hA_; have hF_:=hA_.1; obtain ⟨⟨bU,bV,bH,bR,bZ,bI,bB,ct,cF,_⟩,hI⟩:=hA_)
   ·exact ⟨hF_.set 0 rfl,hI⟩
   ·obtain rfl:=bU ‹_›
    refine Run.callPure qh qS hI (ihA g (by omega) items y S1 _ hy (by omega) hrs) fun w_ hI=>?_
    exact ⟨hF_.set 1 rfl,hI⟩
   ·obtain rfl:=bV ‹_›
    refine dJ (a:=[91]) (by simp only [List.length_cons,List.length_nil]; omega) ?_
    exact ⟨hF_.set 2 rfl,hI⟩
   ·obtain rfl:=bH ‹_›
    refine dJ (b:=[124]) (by simp only [List.length_append,List.length_cons,List.length_nil]; omega) ?_
    exact ⟨hF_.set 3 rfl,hI⟩
   ·refine aq hI 0 ac rfl rfl ?_
    exact ⟨hF_.set 4 rfl,hI⟩
   ·obtain rfl:=bZ ‹_›
    refine Run.callPure fZ gp hI (ih g (by omega) t' z S1 _ hz (by omega) hd1) fun w_ hI=>?_
    exact ⟨hF_.set 5 rfl,hI⟩
   ·obtain rfl:=bR ‹_›
    obtain rfl:=bI ‹_›
    refine dJ (by simp only [List.length_append,List.length_cons,List.length_nil]; omega) ?_
    exact ⟨hF_.set 6 rfl,hI⟩
   ·obtain rfl:=bB ‹_›
    refine dJ (b:=[93]) (by simp only [List.length_append,List.length_cons,List.length_nil]; omega) ?_
    exact ⟨hF_.set 7 rfl,hI⟩
   ·obtain rfl:=ct ‹_›
    exact ⟨hF_.set 8 rfl,hI⟩
   obtain ⟨rfl,rfl,rfl,rfl,rfl,rfl,rfl,rfl,rfl,_⟩:=hF_.all
   clear hF_ bU bV bH bR bZ bI bB ct cF
   exact gg hI hE1.1 (by rw [<- hl])
theorem Rk {f:Nat} (ihL:∀ g,g<f->Lr g) (ihA:∀ g,g<f->Ge g) (ihF:∀ g,g<f->KX g) (ihR:∀ g,g<f->Gd g):yn f:=by
 intro t x S cs h hx hc w hI
 cases f with
 | zero=>simp [GM] at h
 | succ g=>
 rw [GM] at h
 have h0:=hc
 obtain ⟨kv,rfl,_,_,_,hk⟩:=RdT.iff.1 hc
 refine yX.2 ?_
 dsimp only[yX,aO]
 refine be hI fun b1 w' hI=>?_
 obtain ⟨B1,hB1⟩:∃ B1,B1=Item.blk b1 (.cells #[.int .i64 t.kind,.int .i64 t.n,.string t.name,kv] ab):=⟨_,rfl⟩
 refine aq hI 0 ac rfl rfl ?_
 refine Run.callPure pB qr hI (kY h0) fun w' hI=>?_
 split at h
 ·rename_i hp
  rw [hp]
  refine az (fun _=>?_) (fun hb=>by cases hb)
  refine aq hI 0 ac rfl rfl ?_
  refine Run.callPure Je Jz hI (ihL g (by omega) t x S _ h hx h0) fun w' hI=>?_
  exact done hI rfl
 rename_i hp
 have hp:=Bool.eq_false_iff.2 hp
 rw [hp]
 refine az (fun hb=>by cases hb) (fun _=>?_)
 refine aq hI 0 ac rfl rfl ?_
 refine Run.callPure vy wb hI (o5 h0) fun w' hI=>?_
 split at h
 ·rename_i hf
  rw [hf]
  refine az (fun _=>?_) (fun hb=>by cases hb)
  split at h
  ·rename_i a b hab
   obtain ⟨lv,hlv⟩:∃ lv,lv=cn t.name:=⟨_,rfl⟩
   rw [<- hlv] at h
   have hlr:1<=lv/\lv<=3:=by
    have h1:0<cn t.name:=by
     unfold ot at hf
     simp only [Bool.and_eq_true,decide_eq_true_eq] at hf
     exact hf.2.2
    have h2:cn t.name<=3:=by
     unfold cn
     split
     ·omega
     ·split
      ·omega
      ·split <;> omega
    omega
   split at h
   ·rename_i y z hy hz
    simp only [Option.some.injEq] at h
    have hlen:y.length+(im (bs t.name)).length+z.length=x.length:=by rw [<- h]; simp only [List.length_append]
    have hsp:(bs t.name).length<=(im (bs t.name)).length:=by
     unfold im
     split
     ·simp; omega
     ·omega
    rw [hab] at hk
    obtain ⟨b2,o2,cap2,c2,E2,fz2,rfl,hS,hRa⟩:=hk.at_ (i:=0) (by simp)
    obtain ⟨b2',o2',cap2',c2',E2',fz2',hsl,hS',hRb⟩:=hk.at_ (i:=1) (by simp)
    cases hsl
    rw [hS] at hS'
    cases hS'
    rw [List.getElem_cons_zero] at hRa
    rw [List.getElem_cons_succ,List.getElem_cons_zero] at hRb
    refine ad hI 0 rfl aM aJ rfl ?_
    refine Run.callPure eF eH hI (dI _ S) fun w' hI=>?_
    rw [<- hlv]
    have hI:Inv w [] [B1] S w':=by rw [hB1]; exact hI
    refine ⟨fun v w'=>v=.int .i64 (if lv=3 then 2 else lv)/\Inv w [] [B1] S w',?_,?_⟩
    ·refine aY ?_
     refine aI (fun h3=>⟨by rw [if_pos h3],hI⟩) (fun h3=>⟨by rw [if_neg h3],hI⟩)
    intro t4 _ _ w'
    rintro ⟨rfl,hI⟩
    subst hB1
    skip
    refine ⟨fun D x2 jL kz pz mt oE jM jd lw iB mJ nh hY mY pC oZ mD ki ml w_=>Fx D 0 [ml=.pointer (some ⟨b1,3,none⟩),ki=.slice (some ⟨b2,o2,none⟩) [a,b].length cap2,mD=.pointer (some ⟨b2,o2+0 * 4,none⟩),oZ=.agg (aH c2 (o2+0 * 4) 4).toArray,pC=.int .i64 (if lv=3 then 2 else lv),mY=.string (st y),hY=.pointer (some ⟨b1,2,none⟩),nh=.string t.name,mJ=.string (st (im (bs t.name))),iB=.string (st (y++im (bs t.name))),lw=.pointer (some ⟨b1,3,none⟩),jd=.slice (some ⟨b2,o2,none⟩) [a,b].length cap2,jM=.pointer (some ⟨b2,o2+1 * 4,none⟩),oE=.agg (aH c2 (o2+1 * 4) 4).toArray,mt=.int .i64 lv,pz=.int .i64 (lv - 1),kz=.string (st z),jL=.string (st (y++im (bs t.name)++z)),x2=.string (st (y++im (bs t.name)++z))]/\Inv w [] [.blk b1 (.cells #[.int .i64 t.kind,.int .i64 t.n,.string t.name,.slice (some ⟨b2,o2,none⟩) [a,b].length cap2] ab)] S w_,⟨Fx.nil _ _,hI.draw⟩,⟨?_,?_,?_,?_,?_,?_,?_,?_,?_,?_,?_,?_,?_,?_,?_,?_,?_,?_,?_,trivial⟩,?_⟩
    all_goals (intro D bo; intros; rename_i x2 jL kz pz mt oE jM jd lw iB mJ nh hY mY pC oZ mD ki ml w_ hA_; have hF_:=hA_.1; obtain ⟨⟨bU,bV,bH,bR,bZ,bI,bB,ct,cF,cK,bG,bX,cI,dq,cC,dA,dH,dV,fu,_⟩,hI⟩:=hA_)
    ·refine ai al ?_
     exact ⟨hF_.set 0 rfl,hI⟩
    ·obtain rfl:=bU ‹_›
     refine aA hI 0 ag rfl rfl ?_
     exact ⟨hF_.set 1 rfl,hI⟩
    ·obtain rfl:=bV ‹_›
     refine au (i:=0) af (by simp) ?_
     exact ⟨hF_.set 2 rfl,hI⟩
    ·obtain rfl:=bH ‹_›
     refine bw ac hRa.length (fun j v hj=>by rw [hI.cellS hS]; exact ar rfl j v hj) ?_
     exact ⟨hF_.set 3 rfl,hI⟩
    ·exact ⟨hF_.set 4 rfl,hI⟩
    ·obtain rfl:=bR ‹_›
     obtain rfl:=bZ ‹_›
     refine Run.callPure Jv Hs hI (ihF g (by omega) a _ y S _ hy (by omega) hRa) fun w_ hI=>?_
     exact ⟨hF_.set 5 rfl,hI⟩
    ·refine ai aM ?_
     exact ⟨hF_.set 6 rfl,hI⟩
    ·obtain rfl:=bB ‹_›
     refine aA hI 0 aJ rfl rfl ?_
     exact ⟨hF_.set 7 rfl,hI⟩
    ·obtain rfl:=ct ‹_›
     refine Run.callPure CP Dg hI (BP (bs t.name) (by omega)) fun w_ hI=>?_
     exact ⟨hF_.set 8 rfl,hI⟩
    ·obtain rfl:=bI ‹_›
     obtain rfl:=cF ‹_›
     refine dJ (by omega) ?_
     exact ⟨hF_.set 9 rfl,hI⟩
    ·refine ai al ?_
     exact ⟨hF_.set 10 rfl,hI⟩
    ·obtain rfl:=bG ‹_›
     refine aA hI 0 ag rfl rfl ?_
     exact ⟨hF_.set 11 rfl,hI⟩
    ·obtain rfl:=bX ‹_›
     refine au (i:=1) af (by simp) ?_
     exact ⟨hF_.set 12 rfl,hI⟩
    ·obtain rfl:=cI ‹_›
     refine bw ac hRb.length (fun j v hj=>by rw [hI.cellS hS]; exact ar rfl j v hj) ?_
     exact ⟨hF_.set 13 rfl,hI⟩
    ·exact ⟨hF_.set 14 rfl,hI⟩
    ·obtain rfl:=cC ‹_›
     refine ib (by omega) ?_
     exact ⟨hF_.set 15 rfl,hI⟩
    ·obtain rfl:=dq ‹_›
     obtain rfl:=dA ‹_›
     refine Run.callPure Gf E9 hI (ihR g (by omega) b _ z S _ hz (by omega) hRb) fun w_ hI=>?_
     exact ⟨hF_.set 16 rfl,hI⟩
    ·obtain rfl:=cK ‹_›
     obtain rfl:=dH ‹_›
     refine dJ (by rw [List.length_append]; omega) ?_
     exact ⟨hF_.set 17 rfl,hI⟩
    ·obtain rfl:=dV ‹_›
     exact ⟨hF_.set 18 rfl,hI⟩
    obtain ⟨rfl,rfl,rfl,rfl,rfl,rfl,rfl,rfl,rfl,rfl,rfl,rfl,rfl,rfl,rfl,rfl,rfl,rfl,rfl,_⟩:=hF_.all
    clear hF_ bU bV bH bR bZ bI bB ct cF cK bG bX cI dq cC dA dH dV fu
    exact done hI (by rw [<- h])
   ·cases h
  ·cases h
 ·rename_i hf
  rw [Bool.eq_false_iff.2 hf]
  refine az (fun hb=>by cases hb) (fun _=>?_)
  obtain ⟨ka,kc,rfl,_⟩:=id hk
  refine ⟨fun v w'=>v=.bool (decide (t.kind=3) && decide (0<t.kids.length))/\Inv w [] [B1] S w',?_,?_⟩
  ·refine ad hI 0 rfl aE aw rfl ?_
   by_cases h3:t.kind=3
   ·refine fK h3 ?_
    refine rpG ?_
    refine ad hI 0 rfl al ag rfl ?_
    refine dX af ?_
    refine dv ?_
    refine rpG ?_
    refine ⟨?_,by rw [hB1]; exact hI⟩
    rw [decide_eq_true h3,Bool.true_and]
    congr 1
    rw [decide_eq_decide]
    omega
   ·refine eC h3 ?_
    refine rpG ?_
    exact ⟨by rw [decide_eq_false h3,Bool.false_and],by rw [hB1]; exact hI⟩
  intro t37 _ _ _ _ _ _ _ _ _ w'
  rintro ⟨rfl,hI⟩
  subst hB1
  split at h
  ·rename_i hc3
   rw [decide_eq_true hc3.1,decide_eq_true hc3.2]
   refine az (fun _=>?_) (fun hb=>by cases hb)
   split at h
   ·rename_i y hy
    simp only [Option.some.injEq] at h
    have hlen:(bs t.name).length+y.length+2=x.length:=by rw [<- h]; simp only [List.length_append,List.length_cons,List.length_nil]; omega
    skip
    refine ⟨fun D x2 sB pj lp ro rZ rN pm jK w_=>Fx D 0 [jK=.pointer (some ⟨b1,2,none⟩),pm=.string t.name,rN=.string (st (bs t.name++[40])),rZ=.pointer (some ⟨b1,3,none⟩),ro=.slice ka t.kids.length kc,lp=.string (st y),pj=.string (st (bs t.name++[40]++y)),sB=.string (st (bs t.name++[40]++y++[41])),x2=.string (st (bs t.name++[40]++y++[41]))]/\Inv w [] [.blk b1 (.cells #[.int .i64 t.kind,.int .i64 t.n,.string t.name,.slice ka t.kids.length kc] ab)] S w_,⟨Fx.nil _ _,hI.draw⟩,⟨?_,?_,?_,?_,?_,?_,?_,?_,?_,trivial⟩,?_⟩
    all_goals (intro D bo; intros; rename_i x2 sB pj lp ro rZ rN pm jK w_ hA_; have hF_:=hA_.1; obtain ⟨⟨bU,bV,bH,bR,bZ,bI,bB,ct,cF,_⟩,hI⟩:=hA_)
    ·refine ai aM ?_
     exact ⟨hF_.set 0 rfl,hI⟩
    ·obtain rfl:=bU ‹_›
     refine aA hI 0 aJ rfl rfl ?_
     exact ⟨hF_.set 1 rfl,hI⟩
    ·obtain rfl:=bV ‹_›
     refine dJ (a:=bs t.name) (b:=[40]) (by simp only [List.length_cons,List.length_nil]; omega) ?_
     exact ⟨hF_.set 2 rfl,hI⟩
    ·refine ai al ?_
     exact ⟨hF_.set 3 rfl,hI⟩
    ·obtain rfl:=bR ‹_›
     refine aA hI 0 ag rfl rfl ?_
     exact ⟨hF_.set 4 rfl,hI⟩
    ·obtain rfl:=bZ ‹_›
     refine Run.callPure qh qS hI (ihA g (by omega) t.kids y S _ hy (by omega) hk) fun w_ hI=>?_
     exact ⟨hF_.set 5 rfl,hI⟩
    ·obtain rfl:=bH ‹_›
     obtain rfl:=bI ‹_›
     refine dJ (by simp only [List.length_append,List.length_cons,List.length_nil]; omega) ?_
     exact ⟨hF_.set 6 rfl,hI⟩
    ·obtain rfl:=bB ‹_›
     refine dJ (b:=[41]) (by simp only [List.length_append,List.length_cons,List.length_nil]; omega) ?_
     exact ⟨hF_.set 7 rfl,hI⟩
    ·obtain rfl:=ct ‹_›
     exact ⟨hF_.set 8 rfl,hI⟩
    obtain ⟨rfl,rfl,rfl,rfl,rfl,rfl,rfl,rfl,rfl,_⟩:=hF_.all
    clear hF_ bU bV bH bR bZ bI bB ct cF
    exact done hI (by rw [<- h])
   ·cases h
  ·rename_i hc3
   have e:(decide (t.kind=3) && decide (0<t.kids.length))=false:=by
    rw [Bool.eq_false_iff,ne_eq,Bool.and_eq_true,decide_eq_true_eq,decide_eq_true_eq]; exact hc3
   rw [e]
   refine az (fun hb=>by cases hb) (fun _=>?_)
   refine aq hI 0 ac rfl rfl ?_
   refine Run.callPure Hj IW hI (FX h0 hp h) fun w' hI=>?_
   exact done hI rfl
theorem LM:∀ F f,f<F->F<=1000->yn f/\Lr f/\Ge f/\qU f/\KX f/\Gd f
 | 0,f,h,_=>by omega
 | F+1,f,h,hF=>by
  have ih:=fun g (hg:g<f)=>LM F g (by omega) (by omega)
  have hT:yn f:=Rk (fun g hg=>(ih g hg).2.1) (fun g hg=>(ih g hg).2.2.1) (fun g hg=>(ih g hg).2.2.2.2.1) (fun g hg=>(ih g hg).2.2.2.2.2)
  exact ⟨hT,Qd (by omega) (fun g hg=>(ih g hg).1) (fun g hg=>(ih g hg).2.2.1),Qm fun g hg=>(ih g hg).1,JM fun g hg=>(ih g hg).1,Qp (fun g hg=>(ih g hg).1) (fun g hg=>(ih g hg).2.2.2.1),PA fun g hg=>(ih g hg).2.2.2.1⟩
theorem DY {f:Nat} (hf:f<=100):yn f:=(LM (f+1) f (by omega) (by omega)).1
end
end
section
open Go Go.RowKit
theorem Grown.rows {α:Type} {k:Nat} {R:bg->List Value->α->Prop} {R':List Value->α->Prop} {Ls:List bg} {css:List (List Value)} {ys:List α} {S:ae} (h:Grown k R Ls css ys) (hi:Ins S Ls.flatten)
  (hR:∀ L cs x,Ins S L->R L cs x->R' cs x):Rows k R' css ys:=
 ⟨h.hc,h.hk,fun i h1 h2=>hR _ _ _ (Af hi (by rw [h.hL]; exact h1)) (h.hR i h1 (by rw [h.hL]; exact h1) h2)⟩
abbrev N1 (t:T):Value->List Item->ae->Prop:=fun v I' S'=>∃ kv css,v=.agg #[.int .i64 t.kind,.int .i64 t.n,.string t.name,kv]/\I'=[aL kv ab 4 css]/\Rows 4 (RdT S') css t.kids
abbrev OX (c:C):Value->List Item->ae->Prop:=fun v I' S'=>∃ hd kv css,v=.agg (hd++[kv]).toArray/\RdT S' hd c.head/\I'=[aL kv ab 4 css]/\Rows 4 (RdT S') css c.body
section
attribute [local irreducible] Run CondV aB aS
theorem MH:∀ (t:T) (S:ae) (cs:List Value),RdT S cs t->wT t<=1048576->Tri Tryz.prog tg [.agg cs.toArray] [] S (N1 t):=by
 intro t S cs h hw
 obtain ⟨k,n,s,ks⟩:=t
 have ih:∀ t∈ks,∀ (S:ae) (cs:List Value),RdT S cs t->wT t<=1048576->Tri Tryz.prog tg [.agg cs.toArray] [] S (DX S t):=fun t _=>eI t
 intro w hI
 obtain ⟨kv,rfl,h1,h2,hs,hks⟩:=RdT.iff.1 h
 simp only [T.name,T.kids,T.kind,T.n] at h1 h2 hs hks ⊢
 simp only [wT] at hw
 refine lT.2 ?_
 dsimp only[lT,aO]
 refine be hI fun b1 w' hI=>?_
 refine aG hI aP fun b2 w' hI=>?_
 refine ad hI 0 rfl aE aw rfl ?_
 refine ad hI 0 rfl aK aw rfl ?_
 refine ad hI 0 rfl aM aJ rfl ?_
 refine gf ?_
 refine aG hI aP fun b3 w' hI=>?_
 refine ao hI 2 rfl ac rfl rfl (by simp [Value.oneCell']) fun w' hI=>?_
 have hI:=hI.rowNil ab 4
 refine ⟨fun i w'=>∃ (j:Nat) (kvc:Value) (Ls:List bg) (css:List (List Value)),j<=ks.length/\i=.int .i64 j/\Grown 4 TrT Ls css (ks.take j)/\
   Inv w [] (.blk b1 (.cells #[.int .i64 k,.int .i64 n,.string s,kv] ab)::.blk b2 (.cells #[.int .i64 0,.int .i64 0,.string ⟨#[]⟩,.slice none 0 0] ab)::.blk b3 (.cells #[.int .i64 k,.int .i64 n,.string s,kvc] ab)::aL kvc ab 4 css::bq Ls.flatten) S w',
  fun i _=>ks.length - (intOf i).toNat,⟨0,_,[],[],Nat.zero_le _,rfl,Grown.nil _ _,hI⟩,?_⟩
 intro t4 _ _ _ _ _ _ _ _ _ _ _ _ _ _ _ _ _ _ w'
 rintro ⟨j,kvc,Ls,css,hj,rfl,hg,hI⟩
 refine ad hI 0 rfl al ag rfl ?_
 refine aD hks af ?_
 refine bA ?_
 refine aI (fun hji=>?_) (fun hji=>?_)
 ·have hj':j<ks.length:=by omega
  have hjl:(ks.take j).length=j:=by simp; omega
  have hcl:=hg.hc
  have hm:=List.getElem_mem hj'
  have hwm:=kH hm
  obtain ⟨b,o,cap,c,E,fz,rfl,hS,hR⟩:=hks.at_ hj'
  refine ⟨fun D lw iB mJ nh hY mY pC oZ mD ki ml w_=>Fx D 0 [ml=.pointer (some ⟨b3,3,none⟩),ki=kvc,mD=.pointer (some ⟨b1,3,none⟩),oZ=.slice (some ⟨b,o,none⟩) (ks).length cap,pC=.int .i64 j,mY=.pointer (some ⟨b,o+j * 4,none⟩),hY=.agg (aH c (o+j * 4) 4).toArray,True,True,True,lw=.pointer (some ⟨b3,3,none⟩),True]/\∃ M cs7 b8,(D 7=true->nh=.agg cs7.toArray/\TrT M cs7 (ks)[j])/\(D 8=true->mJ=.slice (some ⟨b8,0,none⟩) 1 1)/\(D 8=true->D 7=true)/\(D 9=true->D 8=true)/\(D 11=true->D 9=true)/\(D 11=true->D 1=true)/\Inv w [] (bh (.blk b1 (.cells #[.int .i64 k,.int .i64 n,.string s,.slice (some ⟨b,o,none⟩) ks.length cap] ab)) (.blk b2 (.cells #[.int .i64 0,.int .i64 0,.string ⟨#[]⟩,.slice none 0 0] ab)) (.blk b3 (.cells #[.int .i64 k,.int .i64 n,.string s,kvc] ab)) (.blk b3 (.cells #[.int .i64 k,.int .i64 n,.string s,iB] ab)) (aL kvc ab 4 css) (aL iB ab 4 (css++[cs7])) (bq Ls.flatten) M (.blk b8 (.cells cs7.toArray ab)) (D 7) (D 8) (D 9) (D 11)) S w_,⟨Fx.nil _ _,⟨[],[],0,aU,aU,aU,aU,aU,aU,by simpa [bh,bq] using hI.draw⟩⟩,⟨?_,?_,?_,?_,?_,?_,?_,?_,?_,?_,?_,?_,trivial⟩,?_⟩
  all_goals (intro D bo; intros; rename_i lw iB mJ nh hY mY pC oZ mD ki ml w_ hA_; have hF_:=hA_.1; obtain ⟨⟨bU,bV,bH,bR,bZ,bI,bB,ct,cF,cK,bG,bX,_⟩,⟨M,cs7,b8,e7,e8,k8,k9,k11,k1,hI⟩⟩:=hA_)
  ·refine ai al ?_
   exact ⟨hF_.set 0 rfl,⟨M,cs7,b8,e7,e8,k8,k9,k11,k1,hI⟩⟩
  ·obtain rfl:=bU ‹_›
   have f11:D 11=false:=Bool.eq_false_iff.2 fun h=>by rw [k1 h] at bo; cases bo
   refine aA (b:=b3) hI 2 (c:=(#[.int .i64 k,.int .i64 n,.string s,kvc])) ag (by rw [f11]; rfl) rfl ?_
   have k1:=fun (_:aF D 1 11=true)=>(rfl:aF D 1 1=true)
   exact ⟨hF_.set 1 rfl,⟨M,cs7,b8,e7,e8,k8,k9,k11,k1,hI⟩⟩
  ·refine ai al ?_
   exact ⟨hF_.set 2 rfl,⟨M,cs7,b8,e7,e8,k8,k9,k11,k1,hI⟩⟩
  ·obtain rfl:=bH ‹_›
   refine aA hI 0 ag rfl rfl ?_
   exact ⟨hF_.set 3 rfl,⟨M,cs7,b8,e7,e8,k8,k9,k11,k1,hI⟩⟩
  ·exact ⟨hF_.set 4 rfl,⟨M,cs7,b8,e7,e8,k8,k9,k11,k1,hI⟩⟩
  ·obtain rfl:=bR ‹_›
   obtain rfl:=bZ ‹_›
   refine au af hj' ?_
   exact ⟨hF_.set 5 rfl,⟨M,cs7,b8,e7,e8,k8,k9,k11,k1,hI⟩⟩
  ·obtain rfl:=bI ‹_›
   refine bw ac hR.length (fun j v hj=>by rw [hI.cellS hS]; exact ar rfl j v hj) ?_
   exact ⟨hF_.set 6 rfl,⟨M,cs7,b8,e7,e8,k8,k9,k11,k1,hI⟩⟩
  ·obtain rfl:=bB ‹_›
   have f8:D 8=false:=Bool.eq_false_iff.2 fun h=>by rw [k8 h] at bo; cases bo
   have f9:D 9=false:=Bool.eq_false_iff.2 fun h=>by rw [k9 h] at f8; cases f8
   have f11:D 11=false:=Bool.eq_false_iff.2 fun h=>by rw [k11 h] at f9; cases f9
   rw [bo,f8,f9,f11] at hI
   refine Run.call0 eo ei hI (ih _ (List.getElem_mem hj') S _ hR (by omega)) fun v' I' S w_=>?_
   rintro ⟨rfl,cs7,M,rfl,rfl,hT⟩ _ hI
   have e7:aF D 7 7=true->Value.agg cs7.toArray=Value.agg cs7.toArray/\TrT M cs7 (ks)[j]:=fun _=>⟨rfl,hT⟩
   have k8:=fun (_:aF D 7 8=true)=>(rfl:aF D 7 7=true)
   have hI:Inv w [] (bh (.blk b1 (.cells #[.int .i64 k,.int .i64 n,.string s,.slice (some ⟨b,o,none⟩) ks.length cap] ab)) (.blk b2 (.cells #[.int .i64 0,.int .i64 0,.string ⟨#[]⟩,.slice none 0 0] ab)) (.blk b3 (.cells #[.int .i64 k,.int .i64 n,.string s,kvc] ab)) (.blk b3 (.cells #[.int .i64 k,.int .i64 n,.string s,iB] ab)) (aL kvc ab 4 css) (aL iB ab 4 (css++[cs7])) (bq Ls.flatten) M (.blk b8 (.cells cs7.toArray ab)) true (D 8) (D 9) (D 11)) S w_:=by
    rw [f8,f9,f11]
    simpa [bh] using hI
   exact ⟨hF_.set 7 (by first|assumption|trivial),⟨M,cs7,b8,e7,e8,k8,k9,k11,k1,hI⟩⟩
  ·have zQ:=ct ‹_›
   have f9:D 9=false:=Bool.eq_false_iff.2 fun h=>by rw [k9 h] at bo; cases bo
   have f11:D 11=false:=Bool.eq_false_iff.2 fun h=>by rw [k11 h] at f9; cases f9
   obtain ⟨q7,hT⟩:=e7 ‹D 7=true›
   subst q7
   rw [‹D 7=true›,bo,f9,f11] at hI
   refine dQ hI bm (by simp [Value.cells,hT.length]) (by omega) (by omega) fun b8 w_ hI=>?_
   have e7:aF D 8 7=true->Value.agg cs7.toArray=Value.agg cs7.toArray/\TrT M cs7 (ks)[j]:=fun _=>⟨rfl,hT⟩
   have e8:=fun (_:aF D 8 8=true)=>(rfl:Value.slice (some ⟨b8,0,none⟩) 1 1=_)
   have k8:=fun (_:aF D 8 8=true)=>‹D 7=true›
   have k9:=fun (_:aF D 8 9=true)=>(rfl:aF D 8 8=true)
   have hI:Inv w [] (bh (.blk b1 (.cells #[.int .i64 k,.int .i64 n,.string s,.slice (some ⟨b,o,none⟩) ks.length cap] ab)) (.blk b2 (.cells #[.int .i64 0,.int .i64 0,.string ⟨#[]⟩,.slice none 0 0] ab)) (.blk b3 (.cells #[.int .i64 k,.int .i64 n,.string s,kvc] ab)) (.blk b3 (.cells #[.int .i64 k,.int .i64 n,.string s,iB] ab)) (aL kvc ab 4 css) (aL iB ab 4 (css++[cs7])) (bq Ls.flatten) M (.blk b8 (.cells cs7.toArray ab)) (D 7) true (D 9) (D 11)) S w_:=by
    rw [‹D 7=true›,f9,f11]
    simpa [bh,Value.cells] using hI
   exact ⟨hF_.set 8 (by first|assumption|trivial),⟨M,cs7,b8,e7,e8,k8,k9,k11,k1,hI⟩⟩
  ·obtain rfl:=bV ‹_›
   have CJ:=cF ‹_›
   have f11:D 11=false:=Bool.eq_false_iff.2 fun h=>by rw [k11 h] at bo; cases bo
   have q8:=e8 ‹D 8=true›
   subst q8
   obtain ⟨_,hT⟩:=e7 ‹D 7=true›
   rw [‹D 7=true›,‹D 8=true›,bo,f11] at hI
   have hblk:((bh (.blk b1 (.cells #[.int .i64 k,.int .i64 n,.string s,.slice (some ⟨b,o,none⟩) ks.length cap] ab)) (.blk b2 (.cells #[.int .i64 0,.int .i64 0,.string ⟨#[]⟩,.slice none 0 0] ab)) (.blk b3 (.cells #[.int .i64 k,.int .i64 n,.string s,ki] ab)) (.blk b3 (.cells #[.int .i64 k,.int .i64 n,.string s,iB] ab)) (aL ki ab 4 css) (aL iB ab 4 (css++[cs7])) (bq Ls.flatten) M (.blk b8 (.cells cs7.toArray ab)) true true false false))[4+(bq Ls.flatten).length+(bq M).length]?=some (.blk b8 (.cells cs7.toArray ab)):=by
    have e4:4+(bq Ls.flatten).length+(bq M).length=((bq Ls.flatten).length+(bq M).length)+1+1+1+1:=by omega
    rw [e4]
    simp only [bh,List.getElem?_cons_succ]
    rw [List.getElem?_append_right (by omega),Nat.add_sub_cancel_left,List.getElem?_append_right (Nat.le_refl _),Nat.sub_self]; rfl
   refine eR hI 3 cs7 bm (by omega) rfl (by rw [hT.length]) (m:=1) (o:=0) ?_ hT.one (by omega) (by omega) fun v' w_ hI=>?_
   ·intro i u hi
    rw [hI.cellL hblk,Nat.zero_add]
    simpa using hi
   rw [gB] at hI
   have k9:=fun (_:aF D 9 9=true)=>‹D 8=true›
   have k11:=fun (_:aF D 9 11=true)=>(rfl:aF D 9 9=true)
   have hI:Inv w [] (bh (.blk b1 (.cells #[.int .i64 k,.int .i64 n,.string s,.slice (some ⟨b,o,none⟩) ks.length cap] ab)) (.blk b2 (.cells #[.int .i64 0,.int .i64 0,.string ⟨#[]⟩,.slice none 0 0] ab)) (.blk b3 (.cells #[.int .i64 k,.int .i64 n,.string s,ki] ab)) (.blk b3 (.cells #[.int .i64 k,.int .i64 n,.string s,v'] ab)) (aL ki ab 4 css) (aL v' ab 4 (css++[cs7])) (bq Ls.flatten) M (.blk b8 (.cells cs7.toArray ab)) (D 7) (D 8) true (D 11)) S w_:=by
    rw [‹D 7=true›,‹D 8=true›,f11]
    exact hI
   exact ⟨hF_.set 9 (by first|assumption|trivial),⟨M,cs7,b8,e7,e8,k8,k9,k11,k1,hI⟩⟩
  ·refine ai al ?_
   exact ⟨hF_.set 10 rfl,⟨M,cs7,b8,e7,e8,k8,k9,k11,k1,hI⟩⟩
  ·obtain rfl:=bG ‹_›
   have Hc:=cK ‹_›
   rw [‹D 7=true›,‹D 8=true›,‹D 9=true›,bo] at hI
   obtain ⟨va,vn,vc,hv9⟩:=Inv.rowSlice hI 3 rfl
   refine dK hI 2 (n:=1) (by rw [hv9]; rfl) (by decide +kernel) rfl (by simp) (by rw [hv9]; simp [Value.cells,Value.oneCell']) fun w_ hI=>?_
   have hcl9:Value.cells iB=#[iB]:=by rw [hv9]; rfl
   rw [hcl9] at hI
   have k1:=fun (_:aF D 11 11=true)=>‹D 1=true›
   have k11:=fun (_:aF D 11 11=true)=>‹D 9=true›
   have hI:Inv w [] (bh (.blk b1 (.cells #[.int .i64 k,.int .i64 n,.string s,.slice (some ⟨b,o,none⟩) ks.length cap] ab)) (.blk b2 (.cells #[.int .i64 0,.int .i64 0,.string ⟨#[]⟩,.slice none 0 0] ab)) (.blk b3 (.cells #[.int .i64 k,.int .i64 n,.string s,kvc] ab)) (.blk b3 (.cells #[.int .i64 k,.int .i64 n,.string s,iB] ab)) (aL kvc ab 4 css) (aL iB ab 4 (css++[cs7])) (bq Ls.flatten) M (.blk b8 (.cells cs7.toArray ab)) (D 7) (D 8) (D 9) true) S w_:=by
    rw [‹D 7=true›,‹D 8=true›,‹D 9=true›]
    exact hI
   exact ⟨hF_.set 11 trivial,⟨M,cs7,b8,e7,e8,k8,k9,k11,k1,hI⟩⟩
  obtain ⟨rfl,rfl,rfl,rfl,rfl,rfl,rfl,zQ,CJ,Hc,rfl,_,_⟩:=hF_.all
  have vG:D 7=true:=by assumption
  have Am:D 8=true:=by assumption
  have Fz:D 9=true:=by assumption
  have jP:D 11=true:=by assumption
  clear hF_ bU bV bH bR bZ bI bB ct cF cK bG bX
  obtain ⟨_,hT⟩:=e7 vG
  rw [vG,Am,Fz,jP] at hI
  refine bn (by omega) ?_
  refine ⟨⟨j+1,iB,Ls++[M],css++[cs7],hj',rfl,?_,?_⟩,by simp [intOf]; omega⟩
  ·rw [List.take_succ_eq_append_getElem hj']
   exact hg.snoc hT hT.length
  ·simp only [List.flatten_append,List.flatten_cons,List.flatten_nil,List.append_nil,eJ]
   refine hI.sub ?_
   simp only [bh]
   rw [<- List.append_assoc]
   exact (((List.sublist_append_left _ _).cons_cons _).cons_cons _).cons_cons _ |>.cons_cons _
 ·have:j=ks.length:=by omega
  subst this
  rw [List.take_length] at hg
  obtain ⟨va,vn,vc,hvk⟩:=hI.rowSlice 3 rfl
  have hv1:kvc.oneCell'=true:=by rw [hvk]; rfl
  refine aq hI 2 ac rfl rfl ?_
  refine ao hI 1 rfl ac rfl rfl ?_ fun w' hI=>?_
  ·intro u hu
   have hu':u∈([.int .i64 k,.int .i64 n,.string s,kvc]:List Value):=hu
   simp at hu'
   rcases hu' with rfl|rfl|rfl|rfl <;> first|rfl|exact hv1
  refine aW hI 1 ac rfl rfl ?_
  have hI:Inv w [] ([aL kvc ab 4 css]++bq Ls.flatten) S w':=hI.sub (List.sublist_append_right [_,_,_] _)
  obtain ⟨S1,hI,hE,hins⟩:=hI.pubExt
  exact ⟨_,_,S1,rfl,hI,hE,_,css,rfl,rfl,hg.rows hins fun _ _ _ hi h=>h.rd hi⟩
theorem M1 {c0:C} {S:ae} {cs:List Value} (h:RdC S cs c0) (hw:wC c0<=1048576):Tri Tryz.prog CE [.agg cs.toArray] [] S (OX c0):=by
 intro w hI
 obtain ⟨hd,ks,rfl,h1,h2⟩:=h
 have h1':=h1
 obtain ⟨kv,rfl,g1,g2,g3,g4⟩:=RdT.iff.1 h1
 unfold wC at hw
 refine lG.2 ?_
 dsimp only[lG,aO]
 refine be hI fun b1 w' hI=>?_
 refine aG hI dB fun b2 w' hI=>?_
 refine ai co ?_
 refine b0 hI 0 [.int .i64 c0.head.kind,.int .i64 c0.head.n,.string c0.head.name,kv] ac rfl rfl H2 ?_
 refine Run.call0 eo ei hI (eI _ S _ h1' (by omega)) fun v' I' S w'=>?_
 rintro ⟨rfl,cs1,N,rfl,rfl,hT1⟩ _ hI
 obtain ⟨kh,rfl,_⟩:=TrT.iff.1 hT1
 refine jz ?_
 refine aG hI dB fun b3 w' hI=>?_
 have hI:=hI.perm (M:=.blk b1 _::.blk b2 _::.blk b3 _::bq N) (((List.perm_append_comm (l₁:=[_])).cons _).cons _)
 refine ao hI 2 rfl bl rfl rfl ?_ fun w' hI=>?_
 ·intro u hu
  have hu':u∈([.int .i64 c0.head.kind,.int .i64 c0.head.n,.string c0.head.name,kh,.slice none 0 0]:List Value):=hu
  simp at hu'
  have o1:kh.oneCell'=true:=hT1.one kh (by simp)
  rcases hu' with rfl|rfl|rfl|rfl|rfl <;> first|rfl|exact o1
 have hI:=hI.rowNil ab 4
 have hI:=hI.perm (M:=.blk b1 (.cells #[.int .i64 c0.head.kind,.int .i64 c0.head.n,.string c0.head.name,kv,ks] av)::.blk b2 (.cells #[.int .i64 0,.int .i64 0,.string ⟨#[]⟩,.slice none 0 0,.slice none 0 0] av)::.blk b3 (.cells #[.int .i64 c0.head.kind,.int .i64 c0.head.n,.string c0.head.name,kh,.slice none 0 0] av)::aL (.slice none 0 0) ab 4 []::bq N) ((((List.perm_append_comm (l₁:=[_])).cons _).cons _).cons _)
 refine ⟨fun i w'=>∃ (j:Nat) (kvc:Value) (Ls:List bg) (css:List (List Value)),j<=c0.body.length/\i=.int .i64 j/\Grown 4 TrT Ls css (c0.body.take j)/\
   Inv w [] (.blk b1 (.cells #[.int .i64 c0.head.kind,.int .i64 c0.head.n,.string c0.head.name,kv,ks] av)::.blk b2 (.cells #[.int .i64 0,.int .i64 0,.string ⟨#[]⟩,.slice none 0 0,.slice none 0 0] av)::.blk b3 (.cells #[.int .i64 c0.head.kind,.int .i64 c0.head.n,.string c0.head.name,kh,kvc] av)::aL kvc ab 4 css::bq (N::Ls).flatten) S w',
  fun i _=>c0.body.length - (intOf i).toNat,⟨0,_,[],[],Nat.zero_le _,rfl,Grown.nil _ _,by simp only [List.flatten_cons,List.flatten_nil,List.append_nil]; exact hI⟩,?_⟩
 intro t4 _ _ _ _ _ _ _ _ _ _ _ _ _ _ _ _ _ _ w'
 rintro ⟨j,kvc,Ls,css,hj,rfl,hg,hI⟩
 refine ad hI 0 rfl bi ag rfl ?_
 refine aD h2 af ?_
 refine bA ?_
 refine aI (fun hji=>?_) (fun hji=>?_)
 ·have hj':j<c0.body.length:=by omega
  have hjl:(c0.body.take j).length=j:=by simp; omega
  have hcl:=hg.hc
  have hm:=List.getElem_mem hj'
  have hwm:=kH hm
  obtain ⟨b,o,cap,c,E,fz,rfl,hS,hR⟩:=h2.at_ hj'
  refine ⟨fun D nh hY mY pC oZ mD ki ml rR nT wD w_=>Fx D 0 [wD=.pointer (some ⟨b3,4,none⟩),nT=kvc,rR=.pointer (some ⟨b1,4,none⟩),ml=.slice (some ⟨b,o,none⟩) (c0.body).length cap,ki=.int .i64 j,mD=.pointer (some ⟨b,o+j * 4,none⟩),oZ=.agg (aH c (o+j * 4) 4).toArray,True,True,True,nh=.pointer (some ⟨b3,4,none⟩),True]/\∃ M cs7 b8,(D 7=true->pC=.agg cs7.toArray/\TrT M cs7 (c0.body)[j])/\(D 8=true->mY=.slice (some ⟨b8,0,none⟩) 1 1)/\(D 8=true->D 7=true)/\(D 9=true->D 8=true)/\(D 11=true->D 9=true)/\(D 11=true->D 1=true)/\Inv w [] (bh (.blk b1 (.cells #[.int .i64 c0.head.kind,.int .i64 c0.head.n,.string c0.head.name,kv,.slice (some ⟨b,o,none⟩) c0.body.length cap] av)) (.blk b2 (.cells #[.int .i64 0,.int .i64 0,.string ⟨#[]⟩,.slice none 0 0,.slice none 0 0] av)) (.blk b3 (.cells #[.int .i64 c0.head.kind,.int .i64 c0.head.n,.string c0.head.name,kh,kvc] av)) (.blk b3 (.cells #[.int .i64 c0.head.kind,.int .i64 c0.head.n,.string c0.head.name,kh,hY] av)) (aL kvc ab 4 css) (aL hY ab 4 (css++[cs7])) (bq (N::Ls).flatten) M (.blk b8 (.cells cs7.toArray ab)) (D 7) (D 8) (D 9) (D 11)) S w_,⟨Fx.nil _ _,⟨[],[],0,aU,aU,aU,aU,aU,aU,by simpa [bh,bq] using hI.draw⟩⟩,⟨?_,?_,?_,?_,?_,?_,?_,?_,?_,?_,?_,?_,trivial⟩,?_⟩
  all_goals (intro D bo; intros; rename_i nh hY mY pC oZ mD ki ml rR nT wD w_ hA_; have hF_:=hA_.1; obtain ⟨⟨bU,bV,bH,bR,bZ,bI,bB,ct,cF,cK,bG,bX,_⟩,⟨M,cs7,b8,e7,e8,k8,k9,k11,k1,hI⟩⟩:=hA_)
  ·refine ai bi ?_
   exact ⟨hF_.set 0 rfl,⟨M,cs7,b8,e7,e8,k8,k9,k11,k1,hI⟩⟩
  ·obtain rfl:=bU ‹_›
   have f11:D 11=false:=Bool.eq_false_iff.2 fun h=>by rw [k1 h] at bo; cases bo
   refine aA (b:=b3) hI 2 (c:=(#[.int .i64 c0.head.kind,.int .i64 c0.head.n,.string c0.head.name,kh,kvc])) ag (by rw [f11]; rfl) rfl ?_
   have k1:=fun (_:aF D 1 11=true)=>(rfl:aF D 1 1=true)
   exact ⟨hF_.set 1 rfl,⟨M,cs7,b8,e7,e8,k8,k9,k11,k1,hI⟩⟩
  ·refine ai bi ?_
   exact ⟨hF_.set 2 rfl,⟨M,cs7,b8,e7,e8,k8,k9,k11,k1,hI⟩⟩
  ·obtain rfl:=bH ‹_›
   refine aA hI 0 ag rfl rfl ?_
   exact ⟨hF_.set 3 rfl,⟨M,cs7,b8,e7,e8,k8,k9,k11,k1,hI⟩⟩
  ·exact ⟨hF_.set 4 rfl,⟨M,cs7,b8,e7,e8,k8,k9,k11,k1,hI⟩⟩
  ·obtain rfl:=bR ‹_›
   obtain rfl:=bZ ‹_›
   refine au af hj' ?_
   exact ⟨hF_.set 5 rfl,⟨M,cs7,b8,e7,e8,k8,k9,k11,k1,hI⟩⟩
  ·obtain rfl:=bI ‹_›
   refine bw ac hR.length (fun j v hj=>by rw [hI.cellS hS]; exact ar rfl j v hj) ?_
   exact ⟨hF_.set 6 rfl,⟨M,cs7,b8,e7,e8,k8,k9,k11,k1,hI⟩⟩
  ·obtain rfl:=bB ‹_›
   have f8:D 8=false:=Bool.eq_false_iff.2 fun h=>by rw [k8 h] at bo; cases bo
   have f9:D 9=false:=Bool.eq_false_iff.2 fun h=>by rw [k9 h] at f8; cases f8
   have f11:D 11=false:=Bool.eq_false_iff.2 fun h=>by rw [k11 h] at f9; cases f9
   rw [bo,f8,f9,f11] at hI
   refine Run.call0 eo ei hI (eI _ S _ hR (by omega)) fun v' I' S w_=>?_
   rintro ⟨rfl,cs7,M,rfl,rfl,hT⟩ _ hI
   have e7:aF D 7 7=true->Value.agg cs7.toArray=Value.agg cs7.toArray/\TrT M cs7 (c0.body)[j]:=fun _=>⟨rfl,hT⟩
   have k8:=fun (_:aF D 7 8=true)=>(rfl:aF D 7 7=true)
   have hI:Inv w [] (bh (.blk b1 (.cells #[.int .i64 c0.head.kind,.int .i64 c0.head.n,.string c0.head.name,kv,.slice (some ⟨b,o,none⟩) c0.body.length cap] av)) (.blk b2 (.cells #[.int .i64 0,.int .i64 0,.string ⟨#[]⟩,.slice none 0 0,.slice none 0 0] av)) (.blk b3 (.cells #[.int .i64 c0.head.kind,.int .i64 c0.head.n,.string c0.head.name,kh,kvc] av)) (.blk b3 (.cells #[.int .i64 c0.head.kind,.int .i64 c0.head.n,.string c0.head.name,kh,hY] av)) (aL kvc ab 4 css) (aL hY ab 4 (css++[cs7])) (bq (N::Ls).flatten) M (.blk b8 (.cells cs7.toArray ab)) true (D 8) (D 9) (D 11)) S w_:=by
    rw [f8,f9,f11]
    simpa [bh] using hI
   exact ⟨hF_.set 7 (by first|assumption|trivial),⟨M,cs7,b8,e7,e8,k8,k9,k11,k1,hI⟩⟩
  ·have zQ:=ct ‹_›
   have f9:D 9=false:=Bool.eq_false_iff.2 fun h=>by rw [k9 h] at bo; cases bo
   have f11:D 11=false:=Bool.eq_false_iff.2 fun h=>by rw [k11 h] at f9; cases f9
   obtain ⟨q7,hT⟩:=e7 ‹D 7=true›
   subst q7
   rw [‹D 7=true›,bo,f9,f11] at hI
   refine dQ hI bm (by simp [Value.cells,hT.length]) (by omega) (by omega) fun b8 w_ hI=>?_
   have e7:aF D 8 7=true->Value.agg cs7.toArray=Value.agg cs7.toArray/\TrT M cs7 (c0.body)[j]:=fun _=>⟨rfl,hT⟩
   have e8:=fun (_:aF D 8 8=true)=>(rfl:Value.slice (some ⟨b8,0,none⟩) 1 1=_)
   have k8:=fun (_:aF D 8 8=true)=>‹D 7=true›
   have k9:=fun (_:aF D 8 9=true)=>(rfl:aF D 8 8=true)
   have hI:Inv w [] (bh (.blk b1 (.cells #[.int .i64 c0.head.kind,.int .i64 c0.head.n,.string c0.head.name,kv,.slice (some ⟨b,o,none⟩) c0.body.length cap] av)) (.blk b2 (.cells #[.int .i64 0,.int .i64 0,.string ⟨#[]⟩,.slice none 0 0,.slice none 0 0] av)) (.blk b3 (.cells #[.int .i64 c0.head.kind,.int .i64 c0.head.n,.string c0.head.name,kh,kvc] av)) (.blk b3 (.cells #[.int .i64 c0.head.kind,.int .i64 c0.head.n,.string c0.head.name,kh,hY] av)) (aL kvc ab 4 css) (aL hY ab 4 (css++[cs7])) (bq (N::Ls).flatten) M (.blk b8 (.cells cs7.toArray ab)) (D 7) true (D 9) (D 11)) S w_:=by
    rw [‹D 7=true›,f9,f11]
    simpa [bh,Value.cells] using hI
   exact ⟨hF_.set 8 (by first|assumption|trivial),⟨M,cs7,b8,e7,e8,k8,k9,k11,k1,hI⟩⟩
  ·obtain rfl:=bV ‹_›
   have CJ:=cF ‹_›
   have f11:D 11=false:=Bool.eq_false_iff.2 fun h=>by rw [k11 h] at bo; cases bo
   have q8:=e8 ‹D 8=true›
   subst q8
   obtain ⟨_,hT⟩:=e7 ‹D 7=true›
   rw [‹D 7=true›,‹D 8=true›,bo,f11] at hI
   have hblk:((bh (.blk b1 (.cells #[.int .i64 c0.head.kind,.int .i64 c0.head.n,.string c0.head.name,kv,.slice (some ⟨b,o,none⟩) c0.body.length cap] av)) (.blk b2 (.cells #[.int .i64 0,.int .i64 0,.string ⟨#[]⟩,.slice none 0 0,.slice none 0 0] av)) (.blk b3 (.cells #[.int .i64 c0.head.kind,.int .i64 c0.head.n,.string c0.head.name,kh,nT] av)) (.blk b3 (.cells #[.int .i64 c0.head.kind,.int .i64 c0.head.n,.string c0.head.name,kh,hY] av)) (aL nT ab 4 css) (aL hY ab 4 (css++[cs7])) (bq (N::Ls).flatten) M (.blk b8 (.cells cs7.toArray ab)) true true false false))[4+(bq (N::Ls).flatten).length+(bq M).length]?=some (.blk b8 (.cells cs7.toArray ab)):=by
    have e4:4+(bq (N::Ls).flatten).length+(bq M).length=((bq (N::Ls).flatten).length+(bq M).length)+1+1+1+1:=by omega
    rw [e4]
    simp only [bh,List.getElem?_cons_succ]
    rw [List.getElem?_append_right (by omega),Nat.add_sub_cancel_left,List.getElem?_append_right (Nat.le_refl _),Nat.sub_self]; rfl
   refine eR hI 3 cs7 bm (by omega) rfl (by rw [hT.length]) (m:=1) (o:=0) ?_ hT.one (by omega) (by omega) fun v' w_ hI=>?_
   ·intro i u hi
    rw [hI.cellL hblk,Nat.zero_add]
    simpa using hi
   rw [gB] at hI
   have k9:=fun (_:aF D 9 9=true)=>‹D 8=true›
   have k11:=fun (_:aF D 9 11=true)=>(rfl:aF D 9 9=true)
   have hI:Inv w [] (bh (.blk b1 (.cells #[.int .i64 c0.head.kind,.int .i64 c0.head.n,.string c0.head.name,kv,.slice (some ⟨b,o,none⟩) c0.body.length cap] av)) (.blk b2 (.cells #[.int .i64 0,.int .i64 0,.string ⟨#[]⟩,.slice none 0 0,.slice none 0 0] av)) (.blk b3 (.cells #[.int .i64 c0.head.kind,.int .i64 c0.head.n,.string c0.head.name,kh,nT] av)) (.blk b3 (.cells #[.int .i64 c0.head.kind,.int .i64 c0.head.n,.string c0.head.name,kh,v'] av)) (aL nT ab 4 css) (aL v' ab 4 (css++[cs7])) (bq (N::Ls).flatten) M (.blk b8 (.cells cs7.toArray ab)) (D 7) (D 8) true (D 11)) S w_:=by
    rw [‹D 7=true›,‹D 8=true›,f11]
    exact hI
   exact ⟨hF_.set 9 (by first|assumption|trivial),⟨M,cs7,b8,e7,e8,k8,k9,k11,k1,hI⟩⟩
  ·refine ai bi ?_
   exact ⟨hF_.set 10 rfl,⟨M,cs7,b8,e7,e8,k8,k9,k11,k1,hI⟩⟩
  ·obtain rfl:=bG ‹_›
   have Hc:=cK ‹_›
   rw [‹D 7=true›,‹D 8=true›,‹D 9=true›,bo] at hI
   obtain ⟨va,vn,vc,hv9⟩:=Inv.rowSlice hI 3 rfl
   refine dK hI 2 (n:=1) (by rw [hv9]; rfl) (by decide +kernel) rfl (by simp) (by rw [hv9]; simp [Value.cells,Value.oneCell']) fun w_ hI=>?_
   have hcl9:Value.cells hY=#[hY]:=by rw [hv9]; rfl
   rw [hcl9] at hI
   have k1:=fun (_:aF D 11 11=true)=>‹D 1=true›
   have k11:=fun (_:aF D 11 11=true)=>‹D 9=true›
   have hI:Inv w [] (bh (.blk b1 (.cells #[.int .i64 c0.head.kind,.int .i64 c0.head.n,.string c0.head.name,kv,.slice (some ⟨b,o,none⟩) c0.body.length cap] av)) (.blk b2 (.cells #[.int .i64 0,.int .i64 0,.string ⟨#[]⟩,.slice none 0 0,.slice none 0 0] av)) (.blk b3 (.cells #[.int .i64 c0.head.kind,.int .i64 c0.head.n,.string c0.head.name,kh,kvc] av)) (.blk b3 (.cells #[.int .i64 c0.head.kind,.int .i64 c0.head.n,.string c0.head.name,kh,hY] av)) (aL kvc ab 4 css) (aL hY ab 4 (css++[cs7])) (bq (N::Ls).flatten) M (.blk b8 (.cells cs7.toArray ab)) (D 7) (D 8) (D 9) true) S w_:=by
    rw [‹D 7=true›,‹D 8=true›,‹D 9=true›]
    exact hI
   exact ⟨hF_.set 11 trivial,⟨M,cs7,b8,e7,e8,k8,k9,k11,k1,hI⟩⟩
  obtain ⟨rfl,rfl,rfl,rfl,rfl,rfl,rfl,zQ,CJ,Hc,rfl,_,_⟩:=hF_.all
  have vG:D 7=true:=by assumption
  have Am:D 8=true:=by assumption
  have Fz:D 9=true:=by assumption
  have jP:D 11=true:=by assumption
  clear hF_ bU bV bH bR bZ bI bB ct cF cK bG bX
  obtain ⟨_,hT⟩:=e7 vG
  rw [vG,Am,Fz,jP] at hI
  refine bn (by omega) ?_
  refine ⟨⟨j+1,hY,Ls++[M],css++[cs7],hj',rfl,?_,?_⟩,by simp [intOf]; omega⟩
  ·rw [List.take_succ_eq_append_getElem hj']
   exact hg.snoc hT hT.length
  ·rw [<- List.cons_append,List.flatten_append,eJ]
   simp only [List.flatten_cons,List.flatten_nil,List.append_nil]
   refine hI.sub ?_
   simp only [bh,List.flatten_cons]
   rw [<- List.append_assoc]
   exact (((List.sublist_append_left _ _).cons_cons _).cons_cons _).cons_cons _ |>.cons_cons _
 ·have:j=c0.body.length:=by omega
  subst this
  rw [List.take_length] at hg
  obtain ⟨va,vn,vc,hvk⟩:=hI.rowSlice 3 rfl
  have hv1:kvc.oneCell'=true:=by rw [hvk]; rfl
  have o1:kh.oneCell'=true:=hT1.one kh (by simp)
  refine aq hI 2 bl rfl rfl ?_
  refine ao hI 1 rfl bl rfl rfl ?_ fun w' hI=>?_
  ·intro u hu
   have hu':u∈([.int .i64 c0.head.kind,.int .i64 c0.head.n,.string c0.head.name,kh,kvc]:List Value):=hu
   simp at hu'
   rcases hu' with rfl|rfl|rfl|rfl|rfl <;> first|rfl|exact o1|exact hv1
  refine aW hI 1 bl rfl rfl ?_
  have hI:Inv w [] (aL kvc ab 4 css::bq (N::Ls).flatten) S w':=hI.sub (List.sublist_append_right [_,_,_] _)
  have hI:Inv w [] ([aL kvc ab 4 css]++bq (N::Ls).flatten) S w':=hI
  obtain ⟨S1,hI,hE,hins⟩:=hI.pubExt
  rw [List.flatten_cons] at hins
  exact ⟨_,_,S1,rfl,hI,hE,_,kvc,css,rfl,hT1.rd hins.left,rfl,hg.rows hins.right fun _ _ _ hi h=>h.rd hi⟩
end
end
section
open Go Go.RowKit
theorem xS:∀ (f:Nat) (l:List T) (b:Bool) (out x:Bs),y4 f l b out=some x->out.length<=x.length
 | _,[],_,out,x,h=>by simp only [y4,Option.some.injEq] at h; subst h; exact Nat.le_refl _
 | f,t::l,b,out,x,h=>by
  rw [y4] at h
  split at h
  ·cases h
  ·have:=xS f _ _ _ _ h
   simp only [List.length_append] at this
   omega
section
variable {w0 w:World} {X:List Nat} {L:List Item} {S:ae} {P:Program} {K:Value->World->Prop}
attribute [local irreducible] Run CondV aB aS
theorem KM (h:Inv w0 X L S w) {T ty e:TypeId} {by_:Nat} {z v x:Value} {cs:List Bool} {css:List (List Value)} (i:Nat)
  (hT:fQ P T=some (e,1,by_,z)) (hi:L[i]?=some (aL v e 1 css)) (hx:x.cells=#[x]) (h1:x.oneCell'=true) (hfit:css.length+1<=4294967296) (hby:by_<=32768)
  {K:Value->Value->World->Prop} (hk:∀ v' w',Inv w0 X (L.set i (aL v' e 1 (css++[[x]]))) S w'->K (.slice (some ⟨w.heap.size,0,none⟩) 1 1) v' w') :
  Run P (bt T 1 [(0,x)]) w fun u w'=>Run P (bF .append #[T,T] ty cs [v,u]) w' (K u):=by
 refine re h hT (by rw [hx]; rfl) (by omega) (by omega) fun w' hI=>?_
 have hil:i<L.length:=(List.getElem?_eq_some_iff.1 hi).1
 refine eR hI i [x] hT (by omega) (by rw [List.getElem?_append_left hil]; exact hi) (by simp) (m:=1) (o:=0) ?_ (by simpa using h1) hfit hby fun v' w' hI=>?_
 ·intro j u hj
  rw [hI.cellL (i:=L.length) (by rw [List.getElem?_append_right (Nat.le_refl _),Nat.sub_self]; rfl)]
  rw [Nat.zero_add,hx]
  simpa using hj
 ·refine hk _ _ ?_
  rw [<- gB]
  rw [List.set_append_left _ _ hil] at hI
  exact hI.sub (List.sublist_append_left _ _)
end
section
variable {S:ae}
attribute [local irreducible] Run CondV aB aS
theorem Gh {f:Nat} (hf:f<=100) {c:C} {cs:List Value} {x:Bs} (h:RdC S cs c) (hx:LJ f c=some x) (hl:x.length<=1000000):Pure Tryz.prog JR [.agg cs.toArray] S (.string (st x)):=by
 intro w hI
 obtain ⟨hd,ks,rfl,h1,h2⟩:=h
 have h1':=h1
 obtain ⟨kv,rfl,_⟩:=RdT.iff.1 h1
 unfold LJ at hx
 split at hx
 ·cases hx
 rename_i y hy
 split at hx
 ·cases hx
 rename_i z hz
 simp only [Option.some.injEq] at hx
 have hzx:z.length+1=x.length:=by rw [<- hx,List.length_append]; rfl
 have hyz:=xS _ _ _ _ _ hz
 have hb:c.body.length<=9223372036854775807:=by have:=h2.le; simpa [maxLen] using this
 refine yD.2 ?_
 dsimp only[yD,aO]
 refine be hI fun b1 w' hI=>?_
 have hI:Inv w [] [.blk b1 (.cells #[.int .i64 c.head.kind,.int .i64 c.head.n,.string c.head.name,kv,ks] av)] S w':=hI
 refine ai co ?_
 refine b0 hI 0 [.int .i64 c.head.kind,.int .i64 c.head.n,.string c.head.name,kv] ac rfl rfl H2 ?_
 refine Run.callPure fZ gp hI (DY hf _ y S _ hy (by omega) h1') fun w' hI=>?_
 refine ⟨fun a b w'=>∃ (j:Nat) (out:Bs),j<=c.body.length/\a=.int .i64 (j:Int)/\b=.string (st out)/\y4 f (c.body.drop j) (decide (j=0)) out=some z/\Inv w [] [.blk b1 (.cells #[.int .i64 c.head.kind,.int .i64 c.head.n,.string c.head.name,kv,ks] av)] S w',
  fun a _ _=>c.body.length - (intOf a).toNat,⟨0,y,Nat.zero_le _,rfl,rfl,hz,hI⟩,?_⟩
 intro t4 _ _ _ _ _ _ _ _ _ _ _ _ t3 _ _ _ _ _ _ _ _ _ w'
 rintro ⟨j,out,hj,rfl,rfl,hbf,hI⟩
 refine ad hI 0 rfl bi ag rfl ?_
 refine aD h2 af ?_
 refine bA ?_
 refine aI (fun hji=>?_) (fun hji=>?_)
 ·have hj':j<c.body.length:=by omega
  rw [List.drop_eq_getElem_cons hj',y4] at hbf
  split at hbf
  ·cases hbf
  rename_i u hu
  have hlen:=xS _ _ _ _ _ hbf
  simp only [List.length_append] at hlen
  obtain ⟨pre,hpre⟩:∃ pre:Bs,pre=if decide (j=0)=true then [58,45] else [44]:=⟨_,rfl⟩
  rw [<- hpre] at hbf hlen
  refine ⟨fun b w'=>b=.string (st (out++pre))/\Inv w [] [.blk b1 (.cells #[.int .i64 c.head.kind,.int .i64 c.head.n,.string c.head.name,kv,ks] av)] S w',?_,?_⟩
  ·refine aY ?_
   refine aI (fun h0=>?_) (fun h0=>?_)
   ·rw [if_pos (decide_eq_true (by omega))] at hpre
    subst hpre
    refine dJ (b:=[58,45]) (by omega) ?_
    exact ⟨rfl,hI⟩
   ·rw [if_neg (by rw [decide_eq_true_eq]; omega)] at hpre
    subst hpre
    refine dJ (b:=[44]) (by omega) ?_
    exact ⟨rfl,hI⟩
  intro _ _ t3 _ _ _ _ w'
  rintro ⟨rfl,hI⟩
  refine ad hI 0 rfl bi ag rfl ?_
  refine ch hI h2 af ac hj' (fun _ _=>RdT.length) fun es hes=>?_
  refine Run.callPure fZ gp hI (DY hf _ u S _ hu (by omega) hes) fun w' hI=>?_
  refine dJ (by rw [List.length_append]; omega) ?_
  refine bn (by omega) ?_
  refine ⟨⟨j+1,out++pre++u,hj',rfl,rfl,?_,hI⟩,by simp only [intOf,Int.toNat_natCast]; omega⟩
  rw [decide_eq_false (by omega)]
  exact hbf
 ·have:j=c.body.length:=by omega
  subst this
  rw [List.drop_length,y4] at hbf
  simp only [Option.some.injEq] at hbf
  subst hbf
  refine dJ (b:=[46]) (by simp only [List.length_cons,List.length_nil]; omega) ?_
  exact done hI (by rw [<- hx])
theorem s3 {f:Nat} (hf:f<=100) {c:C} {cs:List Value} {x:Bs} (h:RdC S cs c) (hc:ce c=true) (hw:wC c<=1048576) (hx:LJ f c=some x) (hl:x.length<=1000000):Pure Tryz.prog xj [.agg cs.toArray] S (.string (st x)):=by
 intro w hI
 have h0:=h
 obtain ⟨hd,ks,rfl,h1,h2⟩:=h
 obtain ⟨kv,rfl,_⟩:=RdT.iff.1 h1
 refine lD.2 ?_
 dsimp only[lD,aO]
 refine be hI fun b1 w' hI=>?_
 refine aq hI 0 bl rfl rfl ?_
 refine Run.callPure mH nS hI (lf h0 hw) fun w' hI=>?_
 refine bM ?_
 rw [hc]
 refine az (fun hb=>by cases hb) (fun _=>?_)
 refine aq hI 0 bl rfl rfl ?_
 refine Run.callPure Jk Ic hI (Gh hf h0 hx hl) fun w' hI=>?_
 exact done hI rfl
theorem sJ {f k:Nat} {s:Bs} {i:Nat} {ts:List T} {n:Nat} (h:n3 f k s i []=some (ts,n)) (hs:s.length<=100000) (hi:i<=s.length):Tri Tryz.prog Id [.string (st s),.int .i64 (i:Int)] [] S (QN ts n):=by
 intro w hI
 refine vf.2 ?_
 dsimp only[vf,aX]
 refine dE hI bm fun v0 w' hI=>?_
 refine ⟨fun a b w'=>∃ (k' i':Nat) (acc:List T) (S1:ae) (css:List (List Value)),a=.int .i64 (i':Int)/\i'<=s.length/\n3 f k' s i' acc=some (ts,n)/\Ext w.heap.size [] S S1/\Rows 4 (RdT S1) css acc/\(∃ p m,b=.slice p acc.length m)/\Inv w [] [aL b ab 4 css] S1 w',
  fun a _ _=>s.length+1 - (intOf a).toNat,⟨k,i,[],S,[],rfl,hi,h,Ext.refl _ _ _,Rows.nil _ _,?_,hI⟩,?_⟩
 ·have hI2:Inv w [] ([]++[aL v0 ab 4 []]) S w':=hI
  obtain ⟨S1,_,hrd,_⟩:=Inv.lendExt hI2
  obtain ⟨p,m,e,_⟩:=RowRd.rows (Rows.nil 4 (RdT S)) hrd
  exact ⟨p,m,e⟩
 intro t1 _ _ _ _ _ _ _ _ t6 _ _ _ _ _ _ _ _ _ _ _ _ _ _ _ _ _ _ _ w'
 rintro ⟨k',i',acc,S1,css,rfl,hi2,hT,hE,hR,⟨p,m,rfl⟩,hI⟩
 have hcl:=hR.hc
 cases k' with
 | zero=>simp [n3] at hT
 | succ g=>
 rw [n3] at hT
 split at hT
 ·cases hT
 rename_i h6
 split at hT
 ·cases hT
 rename_i t n' hr
 have hle:=(gP f).1 _ _ _ _ _ _ hr
 refine dX af ?_
 refine Fj (by omega) ?_
 refine az (fun _=>?_) (fun hb=>by cases hb)
 refine Run.call0E fl fq hI (xO f s i' 30 3 t n' S1 hr hs hi2 (by omega) (by omega)) fun v I' S2 w'=>?_
 rintro ⟨rfl,cs,rfl,hcs⟩ hE2 hI
 have hR2:=hR.monoR fun _ _ h=>RdT.mono hE2.1 h
 obtain ⟨kv,rfl,_,_,_,a,q,rfl,_⟩:=RdT.iff.1 hcs
 refine aj (v:=.agg _) rfl ?_
 refine aj (v:=.int .i64 (n':Int)) rfl ?_
 refine aG hI aP fun b13 w' hI=>?_
 refine ao hI 1 rfl ac rfl rfl (by simp [Value.oneCell']) fun w' hI=>?_
 refine eM (by omega) ?_
 refine az (fun hb=>by cases hb) (fun _=>?_)
 refine aq hI 1 ac rfl rfl ?_
 refine dM (css:=css) hI 0 _ bm (by omega) (by omega) rfl hcs.length hcs.one (by omega) (by omega) fun v' w' hI=>?_
 have hI:Inv w [] [aL v' ab 4 (css++[[.int .i64 t.kind,.int .i64 t.n,.string t.name,.slice a t.kids.length q]])] S2 w':=hI.pick [true,false]
 have hR3:=hR2.snoc hcs hcs.length
 have hI2:Inv w [] ([]++[aL v' ab 4 (css++[[.int .i64 t.kind,.int .i64 t.n,.string t.name,.slice a t.kids.length q]])]) S2 w':=hI
 obtain ⟨S3,hE3,hrd,hI3⟩:=Inv.lendExt hI2
 have hrs:=RowRd.rows (hR3.monoR fun _ _ h=>RdT.mono hE3.1 h) hrd
 refine Run.callPure cV cU hI (cL s n' 44 S2) fun w' hI=>?_
 refine bM ?_
 split at hT
 ·rename_i h44
  rw [h44]
  refine az (fun hb=>by cases hb) (fun _=>?_)
  have:=ik h44
  refine eO (a:=n') (b:=1) rfl rfl (by omega) ?_
  obtain ⟨p',m',e',_⟩:=hrs
  refine ⟨⟨g,n'+1,acc++[t],S2,_,rfl,by omega,hT,hE.trans hE2,hR3,⟨p',m',e'⟩,hI⟩,?_⟩
  simp only [intOf,Int.toNat_natCast]
  omega
 ·rename_i h44
  rw [Bool.eq_false_iff.2 h44]
  refine az (fun _=>?_) (fun hb=>by cases hb)
  simp only [Option.some.injEq,Prod.mk.injEq] at hT
  obtain ⟨rfl,rfl⟩:=hT
  have hI2:Inv w [] ([]++[aL v' ab 4 (css++[[.int .i64 t.kind,.int .i64 t.n,.string t.name,.slice a t.kids.length q]])]) S2 w':=hI
  obtain ⟨S4,hE4,hrd,hI⟩:=Inv.lendExt hI2
  have hrs:=RowRd.rows (hR3.monoR fun _ _ h=>RdT.mono hE4.1 h) hrd
  exact ⟨_,[],S4,rfl,hI,(hE.trans hE2).trans hE4,rfl,_,rfl,hrs⟩
abbrev RN (c:C) (b:Bool):Value->List Item->ae->Prop:=fun v I' S'=>I'=[]/\∃ cs,v=.tuple #[.agg cs.toArray,.bool b]/\RdC S' cs c
theorem wJ {f:Nat} (hf:f<=100) {s:Bs} {c:C} (h:ve f s=some c):Tri Tryz.prog zy [.string (st s)] [] S (RN c true):=by
 intro w hI
 refine nl.2 ?_
 dsimp only[nl,aO]
 unfold ve at h
 split at h
 ·cases h
 rename_i hs
 split at h
 ·cases h
 rename_i hd n hr
 have hle:=(gP f).1 _ _ _ _ _ _ hr
 have hfin:∃ b n2,c=⟨hd,b⟩/\Nl f s c n2=some c/\((sgn s n 58=true/\sgn s (n+1) 45=true/\n3 f 8 s (n+2) []=some (b,n2)) ∨ (¬ (sgn s n 58=true/\sgn s (n+1) 45=true)/\b=[]/\n2=n)):=by
  have hcc:∀ (c':C) (m:Nat),Nl f s c' m=some c->c'=c:=fun c' m h=>by
   unfold Nl at h
   split at h
   ·exact Option.some.inj h
   ·cases h
  split at h
  ·rename_i h58
   split at h
   ·cases h
   rename_i b n2 hg
   have e:=hcc _ _ h
   subst e
   exact ⟨b,n2,rfl,h,.inl ⟨h58.1,h58.2,hg⟩⟩
  ·rename_i h58
   have e:=hcc _ _ h
   subst e
   exact ⟨[],n,rfl,h,.inr ⟨h58,rfl,rfl⟩⟩
 clear h
 obtain ⟨b,n2,rfl,hfin,hcase⟩:=hfin
 unfold Nl at hfin
 split at hfin
 case isFalse=>cases hfin
 rename_i hq
 obtain ⟨hq1,hq2,hq3,hq4,hq5⟩:=hq
 clear hfin
 refine aG hI dB fun b2 w' hI=>?_
 refine fA aR ?_
 refine jN (by omega) ?_
 refine az (fun hb=>by cases hb) (fun _=>?_)
 refine Run.call0E fl fq hI (xO f s 0 30 3 hd n S hr (by omega) (by omega) (by omega) (by omega)) fun v I' S1 w'=>?_
 rintro ⟨rfl,cs,rfl,hcs⟩ hE1 hI
 obtain ⟨kv,rfl,_,_,_,a,q,rfl,_⟩:=RdT.iff.1 hcs
 refine aj (v:=.agg _) rfl ?_
 refine aj (v:=.int .i64 (n:Int)) rfl ?_
 refine aG hI aP fun b4 w' hI=>?_
 refine ao hI 1 rfl ac rfl rfl (by simp [Value.oneCell']) fun w' hI=>?_
 refine eM (by omega) ?_
 refine az (fun hb=>by cases hb) (fun _=>?_)
 refine aq hI 1 ac rfl rfl ?_
 refine jz ?_
 refine aG hI dB fun b6 w' hI=>?_
 refine ao hI 2 rfl bl rfl rfl (by simp [Value.oneCell']) fun w' hI=>?_
 obtain ⟨B2,hB2⟩:∃ B2,B2=Item.blk b2 (.cells #[.int .i64 0,.int .i64 0,.string ⟨#[]⟩,.slice none 0 0,.slice none 0 0] av):=⟨_,rfl⟩
 obtain ⟨B4,hB4⟩:∃ B4,B4=Item.blk b4 (.cells #[.int .i64 hd.kind,.int .i64 hd.n,.string hd.name,.slice a hd.kids.length q] ab):=⟨_,rfl⟩
 have hI:Inv w [] [B2,B4,.blk b6 (.cells #[.int .i64 hd.kind,.int .i64 hd.n,.string hd.name,.slice a hd.kids.length q,.slice none 0 0] av)] S1 w':=by rw [hB2,hB4]; exact hI
 refine ⟨fun v w'=>∃ (kb:Value) (S2:ae),v=.int .i64 (n2:Int)/\Ext w.heap.size [] S S2/\RdT S2 [.int .i64 hd.kind,.int .i64 hd.n,.string hd.name,.slice a hd.kids.length q] hd/\RdSl S2 4 (RdT S2) kb b/\
   Inv w [] [B2,B4,.blk b6 (.cells #[.int .i64 hd.kind,.int .i64 hd.n,.string hd.name,.slice a hd.kids.length q,kb] av)] S2 w',?_,?_⟩
 ·refine ⟨fun v w'=>v=.bool (sgn s n 58 && sgn s (n+1) 45)/\Inv w [] [B2,B4,.blk b6 (.cells #[.int .i64 hd.kind,.int .i64 hd.n,.string hd.name,.slice a hd.kids.length q,.slice none 0 0] av)] S1 w',?_,?_⟩
  ·refine Run.callPure cV cU hI (cL s n 58 S1) fun w' hI=>?_
   cases h58:sgn s n 58
   ·refine rpG ?_
    exact ⟨by rw [Bool.false_and],hI⟩
   ·refine rpG ?_
    refine eO (a:=n) (b:=1) rfl rfl (by omega) ?_
    refine Run.callPure cV cU hI (cL s (n+1) 45 S1) fun w' hI=>?_
    refine rpG ?_
    exact ⟨by rw [Bool.true_and],hI⟩
  intro t29 _ _ _ _ _ _ _ _ w'
  rintro ⟨rfl,hI⟩
  rcases hcase with ⟨h1,h2,hg⟩|⟨h1,rfl,rfl⟩
  ·rw [h1,h2]
   refine az (fun _=>?_) (fun hb=>by cases hb)
   have h3:=ik h2
   refine eO (a:=n) (b:=2) rfl rfl (by omega) ?_
   refine Run.call0E vN u6 hI (sJ hg (by omega) (by omega)) fun v I' S2 w'=>?_
   rintro ⟨rfl,u,rfl,hu⟩ hE2 hI
   obtain ⟨p,m,rfl,_⟩:=id hu
   refine aj (v:=.slice p b.length m) rfl ?_
   refine aj (v:=.int .i64 (n2:Int)) rfl ?_
   refine cG hI 2 rfl bi ag rfl rfl rfl fun w' hI=>?_
   exact ⟨_,S2,rfl,hE1.trans hE2,RdT.mono hE2.1 hcs,hu,hI⟩
  ·have e:(sgn s n2 58 && sgn s (n2+1) 45)=false:=by
    rw [Bool.eq_false_iff,ne_eq,Bool.and_eq_true]; exact h1
   rw [e]
   refine az (fun hb=>by cases hb) (fun _=>?_)
   exact ⟨_,S1,rfl,hE1,hcs,jk S1,hI⟩
 intro t5 _ _ _ _ _ _ _ _ _ _ _ _ _ _ _ _ _ w'
 rintro ⟨kb,S2,rfl,hE2,hhd,hb,hI⟩
 have hC:RdC S2 [.int .i64 hd.kind,.int .i64 hd.n,.string hd.name,.slice a hd.kids.length q,kb] ⟨hd,b⟩:=⟨[.int .i64 hd.kind,.int .i64 hd.n,.string hd.name,.slice a hd.kids.length q],kb,rfl,hhd,hb⟩
 refine ⟨fun v w'=>v=.bool false/\Inv w [] [B2,B4,.blk b6 (.cells #[.int .i64 hd.kind,.int .i64 hd.n,.string hd.name,.slice a hd.kids.length q,kb] av)] S2 w',?_,?_⟩
 ·refine fA aR ?_
  refine ib (by omega) ?_
  refine cE ?_
  rw [decide_eq_true (show (n2:Int)=(s.length:Int) - 1 by omega)]
  refine bj (b:=false) ?_
  refine Run.callPure cV cU hI (cL s n2 46 S2) fun w' hI=>?_
  refine bM ?_
  rw [hq2]
  refine oA ?_
  refine bj (b:=false) ?_
  refine aq hI 2 bl rfl rfl ?_
  refine Run.callPure wy tW hI (s3 hf hC hq3 (by omega) hq5 (by omega)) fun w' hI=>?_
  refine Mb ?_
  rw [decide_eq_true rfl]
  refine oA ?_
  exact ⟨rfl,hI⟩
 intro t54 _ _ _ _ _ _ _ _ _ _ _ _ _ _ _ _ w'
 rintro ⟨rfl,hI⟩
 refine az (fun hb=>by cases hb) (fun _=>?_)
 refine aq hI 2 bl rfl rfl ?_
 refine Run.call0E yF yT hI (Ha hC (by omega)) fun v I' S3 w'=>?_
 rintro ⟨rfl,ds,M,rfl,rfl,hT⟩ hE3 hI
 obtain ⟨S4,hI,hE4,hins⟩:=hI.pubExt
 have hR4:=hT.rd hins
 have hl5:=hR4.length
 have h15:=hT.one
 subst hB2
 refine ao hI 0 rfl bl (by simpa using hl5) rfl (by simpa using h15) fun w' hI=>?_
 refine aW hI 0 bl rfl (by simpa using hl5) ?_
 exact ⟨_,[],S4,rfl,hI.nil,(hE2.trans hE3).trans hE4,rfl,_,rfl,hR4⟩
def Rt (cs:List Value) (l:Bs):Prop:=cs=[.string (st l)]
theorem Gx (s:Bs) (c:Nat) (hs:s.length<=100000):Tri Tryz.prog LF [.string (st s),.int .u8 (c:Int)] [] S fun v I' S'=>I'=[]/\RdSl S' 1 Rt v (DD s c s.length 0 0 []):=by
 intro w hI
 refine yI.2 ?_
 dsimp only[yI,aX]
 refine dE hI Bh fun v0 w' hI=>?_
 obtain ⟨R,hR⟩:∃ R,R=DD s c s.length 0 0 []:=⟨_,rfl⟩
 rw [<- hR]
 refine ⟨fun t u v w'=>∃ (i fr:Nat) (acc:List Bs) (css:List (List Value)),t=.int .i64 (i:Int)/\u=.int .i64 (fr:Int)/\acc.length<=i/\((i<=s.length/\fr<=i/\DD s c (s.length - i) i fr acc=R) ∨ (i=s.length+1/\acc=R))/\Rows 1 Rt css acc/\Inv w [] [aL v jF 1 css] S w',
  fun t _ _ _=>s.length+2 - (intOf t).toNat,⟨0,0,[],[],rfl,rfl,Nat.le_refl _,.inl ⟨Nat.zero_le _,Nat.le_refl _,hR.symm⟩,Rows.nil _ _,hI⟩,?_⟩
 intro t7 _ _ t6 _ _ t5 _ _ _ _ _ _ _ _ _ _ _ _ _ _ _ _ _ _ _ _ _ _ w'
 rintro ⟨i,fr,acc,css,rfl,rfl,hal,hc,hRw,hI⟩
 have hcl:=hRw.hc
 refine fA aR ?_
 refine eK ?_
 refine aI (fun hi=>?_) (fun hi=>?_)
 ·have hi':i<=s.length:=by omega
  obtain ⟨_,hfr,hcut⟩:i<=s.length/\fr<=i/\DD s c (s.length - i) i fr acc=R:=by
   rcases hc with h|h
   ·exact h
   ·omega
  obtain ⟨br,hbr⟩:∃ br,br=(decide (i=s.length) || sgn s i c):=⟨_,rfl⟩
  refine ⟨fun u v w'=>∃ (fr':Nat) (acc':List Bs) (css':List (List Value)),u=.int .i64 (fr':Int)/\acc'.length<=i+1/\fr'<=i+1/\acc'=(if br=true then acc++[cut s fr i] else acc)/\fr'=(if br=true then i+1 else fr)/\Rows 1 Rt css' acc'/\Inv w [] [aL v jF 1 css'] S w',?_,?_⟩
  ·refine ⟨fun b w'=>b=.bool br/\Inv w [] [aL t5 jF 1 css] S w',?_,?_⟩
   ·refine fA aR ?_
    by_cases he:i=s.length
    ·refine fK (by omega) ?_
     refine rpG ?_
     exact ⟨by rw [hbr,decide_eq_true he,Bool.true_or],hI⟩
    ·refine eC (by omega) ?_
     refine rpG ?_
     have hlt:i<s.length:=by omega
     refine eB aR hlt ?_
     refine aY ?_
     refine rpG ?_
     refine ⟨?_,hI⟩
     rw [hbr,decide_eq_false he,Bool.false_or,kW hlt]
     congr 1
     rw [decide_eq_decide]
     omega
   intro t25 _ _ _ _ _ _ _ _ _ _ w'
   rintro ⟨rfl,hI⟩
   refine az (fun hb=>?_) (fun hb=>?_)
   ·refine Cz aR hfr hi' ?_
    refine KM (css:=css) hI 0 Bh rfl rfl rfl (by omega) (by omega) fun v' w' hI=>?_
    refine eO (a:=i) (b:=1) rfl rfl (by omega) ?_
    refine ⟨i+1,acc++[cut s fr i],_,rfl,by rw [List.length_append]; simp only [List.length_cons,List.length_nil]; omega,Nat.le_refl _,by rw [if_pos hb],by rw [if_pos hb],hRw.snoc rfl rfl,hI⟩
   ·exact ⟨fr,acc,css,rfl,by omega,by omega,by rw [if_neg (by rw [hb]; decide)],by rw [if_neg (by rw [hb]; decide)],hRw,hI⟩
  intro t6 _ _ t5 _ _ _ _ _ _ _ _ _ _ _ _ _ _ _ _ _ _ w'
  rintro ⟨fr',acc',css',rfl,hal',hfr',hacc',hfe,hRw',hI⟩
  refine eO (a:=i) (b:=1) rfl rfl (by omega) ?_
  refine ⟨⟨i+1,fr',acc',css',rfl,rfl,hal',?_,hRw',hI⟩,by simp only [intOf,Int.toNat_natCast]; omega⟩
  by_cases he:i=s.length
  ·right
   refine ⟨by rw [he],?_⟩
   rw [he,Nat.sub_self,DD,<- he] at hcut
   rw [hacc',if_pos (by rw [hbr,decide_eq_true he,Bool.true_or])]
   exact hcut
  ·left
   refine ⟨by omega,hfr',?_⟩
   rw [show s.length - i=(s.length - (i+1))+1 by omega,DD] at hcut
   rw [hbr,decide_eq_false he,Bool.false_or] at hacc' hfe
   split at hcut
   ·rename_i hsg
    rw [if_pos hsg] at hacc' hfe
    rw [hacc',hfe]
    exact hcut
   ·rename_i hsg
    rw [if_neg hsg] at hacc' hfe
    rw [hacc',hfe]
    exact hcut
 ·obtain ⟨_,rfl⟩:i=s.length+1/\acc=R:=by
   rcases hc with h|h
   ·omega
   ·exact h
  have hI2:Inv w [] ([]++[aL t5 jF 1 css]) S w':=hI
  obtain ⟨S1,hE1,hrd,hI⟩:=Inv.lendExt hI2
  exact ⟨_,[],S1,rfl,hI,hE1,rfl,RowRd.rows hRw hrd⟩
theorem DM {f:Nat} {ls:List Bs} {i:Nat} (h:i<ls.length) (acc:List C):li f (ls.drop i) acc=match ve f ls[i] with
  | none=>none
  | some c=>li f (ls.drop (i+1)) (acc++[c]):=by
 rw [List.drop_eq_getElem_cons h,li]
 cases ve f ls[i] <;> rfl
theorem tj {f:Nat} (hf:f<=100) {s:Bs} {p:List C} (h:Mp f s=some p) (hs:s.length<=100000):Tri Tryz.prog mN [.string (st s)] [] S fun v I' S'=>∃ u css,v=.tuple #[u,.bool true]/\I'=[aL u av 5 css]/\Rows 5 (RdC S') css p:=by
 intro w hI
 refine lZ.2 ?_
 dsimp only[lZ,aO]
 unfold Mp O8 at h
 refine dE hI eE fun v0 w' hI=>?_
 refine Run.call0E HR Ig hI (Gx s 10 hs) fun v I' S1 w'=>?_
 rintro ⟨rfl,hls⟩ hE1 hI
 have hI:Inv w [] [aL v0 av 5 []] S1 w':=hI
 obtain ⟨ls,hlsd⟩:∃ ls,ls=DD s 10 s.length 0 0 []:=⟨_,rfl⟩
 rw [<- hlsd] at hls h
 simp only [] at h
 split at h
 ·cases h
 rename_i hc
 simp only [not_or,ne_eq,Classical.not_not] at hc
 obtain ⟨hc1,hc2⟩:=hc
 have hl0:0<ls.length:=by
  cases ls with
  | nil=>simp at hc2
  | cons a l=>simp
 have hlast:ls[ls.length - 1]=[]:=by
  rw [List.getLast?_eq_getElem?,List.getElem?_eq_getElem (by omega)] at hc2
  exact Option.some.inj hc2
 refine ⟨fun b w'=>b=.bool false/\Inv w [] [aL v0 av 5 []] S1 w',?_,?_⟩
 ·refine aD hls cg ?_
  refine jN (by omega) ?_
  refine rpG ?_
  refine aD hls cg ?_
  refine Ci (a:=ls.length) (b:=1) rfl rfl (by omega) (by omega) ?_
  have hlt:ls.length - 1<ls.length:=by omega
  obtain ⟨b,o,cap,c,E,fz,hv,hS,hR⟩:=hls.at_ hlt
  subst hv
  refine au cg hlt ?_
  refine cz aJ ((hI.cellS hS).trans (ar hR 0 _ rfl)) ?_
  refine Mb (b:=[]) ?_
  rw [decide_eq_true hlast]
  refine rpG ?_
  exact ⟨rfl,hI⟩
 intro t23 _ _ _ _ _ _ _ _ _ _ _ w'
 rintro ⟨rfl,hI⟩
 refine az (fun hb=>by cases hb) (fun _=>?_)
 refine ⟨fun a b w'=>∃ (i:Nat) (acc:List C) (S2:ae) (css:List (List Value)),a=.int .i64 (i:Int)/\i+1<=ls.length/\acc.length=i/\li f (ls.dropLast.drop i) acc=some p/\Sle S1 S2/\Ext w.heap.size [] S S2/\Rows 5 (RdC S2) css acc/\Inv w [] [aL b av 5 css] S2 w',
  fun a _ _=>ls.length - (intOf a).toNat,⟨0,[],S1,[],rfl,by omega,rfl,h,Sle.refl _,hE1,Rows.nil _ _,hI⟩,?_⟩
 intro t6 _ _ t4 _ _ _ _ _ _ _ _ _ _ _ _ _ _ _ _ _ _ _ _ _ _ _ _ w'
 rintro ⟨i,acc,S2,css,rfl,hi,hal,hcl,hle2,hE2,hR,hI⟩
 have hcs:=hR.hc
 refine eO (a:=i) (b:=1) rfl rfl (by omega) ?_
 refine aD hls cg ?_
 refine bA ?_
 have hdl:ls.dropLast.length=ls.length - 1:=List.length_dropLast
 refine aI (fun hlt=>?_) (fun hge=>?_)
 ·have hi':i<ls.length:=by omega
  have hi2:i<ls.dropLast.length:=by omega
  rw [DM hi2] at hcl
  have eg:ls.dropLast[i]=ls[i]:=List.getElem_dropLast _
  rw [eg] at hcl
  obtain ⟨b,o,cap,c,E,fz,hv,hS,hRr⟩:=hls.at_ hi'
  subst hv
  split at hcl
  ·cases hcl
  rename_i cl hclf
  refine au cg hi' ?_
  refine cz aJ ((hI.cellS (hle2 _ _ hS)).trans (ar hRr 0 _ rfl)) ?_
  refine Run.call0E xn xJ hI (wJ hf hclf) fun v I' S3 w'=>?_
  rintro ⟨rfl,ds,rfl,hds⟩ hE3 hI
  have hl5:=hds.length
  have hR3:=hR.monoR fun _ _ h=>RdC.mono hE3.1 h
  refine aj (v:=.agg ds.toArray) rfl ?_
  refine aj (v:=.bool true) rfl ?_
  refine aG hI dB fun b7 w' hI=>?_
  refine ao hI 1 rfl bl (by simpa using hl5) rfl (by simpa using hds.one) fun w' hI=>?_
  refine bM ?_
  refine az (fun hb=>by cases hb) (fun _=>?_)
  refine aq hI 1 bl rfl (by simpa using hl5) ?_
  refine dM (css:=css) hI 0 _ eE (by omega) (by omega) rfl hl5 hds.one (by omega) (by omega) fun v' w' hI=>?_
  have hI:Inv w [] [aL v' av 5 (css++[ds])] S3 w':=hI.pick [true,false]
  refine eO (a:=i) (b:=1) rfl rfl (by omega) ?_
  exact ⟨⟨i+1,acc++[cl],S3,_,rfl,by omega,by rw [List.length_append,hal]; rfl,hcl,hle2.trans hE3.1,hE2.trans hE3,hR3.snoc hds hl5,hI⟩,by simp only [intOf,Int.toNat_natCast]; omega⟩
 ·have hi2:ls.dropLast.length<=i:=by omega
  rw [List.drop_eq_nil_of_le hi2,li] at hcl
  simp only [Option.some.injEq] at hcl
  subst hcl
  exact ⟨_,_,S2,rfl,hI,hE2,_,css,rfl,rfl,hR⟩
end
end
end Go.Proofs.YtfcbhfjomgopbaaGreat

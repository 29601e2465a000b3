/- Texts written: spec.l2Text and its kin, l4Text, FormatClause. -/
import Derived.Test.YtfcbhfjomgopbaaGreatZFu11
import Derived.Test.YtfcbhfjomgopbaaGreatZFu12
namespace Go.Proofs.YtfcbhfjomgopbaaGreat
open Go Go.RowKit
theorem OW:Tryz.prog.underlying IE=some (.slice HW):=by kernel_rfl
section
variable {w:World} {S:ae}
attribute [local irreducible] Run CondV aB aS
theorem lm {t:T} {cs:List Value} (h:RdT S cs t):Pure Tryz.prog KT [.agg cs.toArray] S (.bool (Cr t)):=by
 intro w hI
 obtain ⟨kv,rfl,_,_,_,hk⟩:=RdT.iff.1 h
 obtain ⟨ka,kc,rfl,_⟩:=id hk
 refine zI.2 ?_
 dsimp only[zI,aL]
 refine bf hI fun b1 w' hI=>?_
 refine ad hI 0 rfl aE av rfl ?_
 by_cases h3:t.kind=3
 ·refine fL h3 ?_
  refine rpG ?_
  refine ad hI 0 rfl aO aJ rfl ?_
  refine bg (b:=st [46]) ?_
  cases hn:decide (t.name=st [46])
  ·refine rpG ?_
   exact done hI (by rw [Cr,hn,Bool.false_and,Bool.and_false])
  ·refine rpG ?_
   refine ad hI 0 rfl al ah rfl ?_
   refine dK af ?_
   refine aZ ?_
   refine rpG ?_
   refine done hI ?_
   rw [Cr,hn,decide_eq_true h3,Bool.true_and,Bool.true_and]
   congr 1
   rw [decide_eq_decide]
   omega
 ·refine eD h3 ?_
  refine rpG ?_
  exact done hI (by rw [Cr,decide_eq_false h3,Bool.false_and])
theorem Ep {t:T} {cs:List Value} (h:RdT S cs t):Pure Tryz.prog NF [.agg cs.toArray] S (.bool (PU t)):=by
 intro w hI
 obtain ⟨kv,rfl,_,_,_,hk⟩:=RdT.iff.1 h
 obtain ⟨ka,kc,rfl,_⟩:=id hk
 refine BM.2 ?_
 dsimp only[BM,aL]
 refine bf hI fun b1 w' hI=>?_
 refine ad hI 0 rfl aE av rfl ?_
 by_cases h3:t.kind=3
 ·refine fL h3 ?_
  refine rpG ?_
  refine ad hI 0 rfl aO aJ rfl ?_
  refine bg (b:=st [91,93]) ?_
  cases hn:decide (t.name=st [91,93])
  ·refine rpG ?_
   exact done hI (by rw [PU,hn,Bool.false_and,Bool.and_false])
  ·refine rpG ?_
   refine ad hI 0 rfl al ah rfl ?_
   refine dK af ?_
   refine aZ ?_
   refine rpG ?_
   refine done hI ?_
   rw [PU,hn,decide_eq_true h3,Bool.true_and,Bool.true_and]
   congr 1
   rw [decide_eq_decide]
   omega
 ·refine eD h3 ?_
  refine rpG ?_
  exact done hI (by rw [PU,decide_eq_false h3,Bool.false_and])
theorem pm {t:T} {cs:List Value} (h:RdT S cs t):Pure Tryz.prog Ir [.agg cs.toArray] S (.bool (oR t)):=by
 intro w hI
 obtain ⟨kv,rfl,_,_,_,hk⟩:=RdT.iff.1 h
 obtain ⟨ka,kc,rfl,_⟩:=id hk
 refine wi.2 ?_
 dsimp only[wi,aL]
 refine bf hI fun b1 w' hI=>?_
 refine ad hI 0 rfl aE av rfl ?_
 by_cases h3:t.kind=3
 ·refine fL h3 ?_
  refine rpG ?_
  refine ad hI 0 rfl al ah rfl ?_
  refine dK af ?_
  by_cases hn:t.kids.length=2
  ·refine fL (by omega) ?_
   refine rpG ?_
   refine ad hI 0 rfl aO aJ rfl ?_
   refine Run.callPure eH eJ hI (dI _ S) fun w' hI=>?_
   refine dl ?_
   refine rpG ?_
   exact done hI (by rw [oR,decide_eq_true h3,decide_eq_true hn,Bool.true_and,Bool.true_and])
  ·refine eD (by omega) ?_
   refine rpG ?_
   exact done hI (by rw [oR,decide_eq_false hn,Bool.false_and,Bool.and_false])
 ·refine eD h3 ?_
  refine rpG ?_
  exact done hI (by rw [oR,decide_eq_false h3,Bool.false_and])
theorem pN {t:T} {cs:List Value} (h:RdT S cs t):Pure Tryz.prog Mi [.agg cs.toArray] S (.bool (zX t)):=by
 intro w hI
 obtain ⟨kv,rfl,_,_,_,hk⟩:=RdT.iff.1 h
 obtain ⟨ka,kc,rfl,_⟩:=id hk
 refine zE.2 ?_
 dsimp only[zE,aL]
 refine bf hI fun b1 w' hI=>?_
 refine ad hI 0 rfl aE av rfl ?_
 by_cases h3:t.kind=3
 ·refine fL h3 ?_
  refine rpG ?_
  refine ad hI 0 rfl al ah rfl ?_
  refine dK af ?_
  by_cases hn:t.kids.length=0
  ·refine fL (by omega) ?_
   refine rpG ?_
   refine ad hI 0 rfl aO aJ rfl ?_
   refine Run.callPure eH eJ hI (dI _ S) fun w' hI=>?_
   refine dl ?_
   refine rpG ?_
   exact done hI (by rw [zX,decide_eq_true h3,decide_eq_true hn,Bool.true_and,Bool.true_and])
  ·refine eD (by omega) ?_
   refine rpG ?_
   exact done hI (by rw [zX,decide_eq_false hn,Bool.false_and,Bool.and_false])
 ·refine eD h3 ?_
  refine rpG ?_
  exact done hI (by rw [zX,decide_eq_false h3,Bool.false_and])
theorem Bu (n:Bs) (hn:n.length<=1000000):Pure Tryz.prog Hx [.string (st n)] S (.string (st (iw n))):=by
 intro w hI
 refine sP.2 ?_
 dsimp only[sP,aL]
 refine ⟨fun b w'=>b=.bool (decide (n=[105,115]) || decide (n=[109,111,100]))/\Inv w [] [] S w',?_,?_⟩
 ·refine Ca (b:=[105,115]) ?_
  cases h5:decide (n=[105,115])
  ·refine rpG ?_
   refine Ca (b:=[109,111,100]) ?_
   refine rpG ?_
   exact ⟨by rw [Bool.false_or],hI⟩
  ·refine rpG ?_
   exact ⟨by rw [Bool.true_or],hI⟩
 intro t8 _ _ _ _ _ w'
 rintro ⟨rfl,hI⟩
 refine az (fun hb=>?_) (fun hb=>?_)
 ·rw [Bool.or_eq_true,decide_eq_true_eq,decide_eq_true_eq] at hb
  refine dJ (a:=[32]) (by simp; omega) ?_
  refine dJ (b:=[32]) (by simp; omega) ?_
  exact done hI (by rw [iw,if_pos hb]; rfl)
 ·rw [Bool.or_eq_false_iff,decide_eq_false_iff_not,decide_eq_false_iff_not] at hb
  exact done hI (by rw [iw,if_neg (by rintro (h|h); exact hb.1 h; exact hb.2 h)])
theorem Dy (s:Bs) (h0:0<s.length):Pure Tryz.prog Ky [.string (st s)] S (.bool (Hp s)):=by
 intro w hI
 refine uL.2 ?_
 dsimp only[uL,aL]
 have e1:Hp s=(sml s 0 || (dig s 0 || (upp s 0 || (sgn s 0 91 || sgn s 0 40)))):=rfl
 have eu:upp s 0=(decide (65<=s[0].toNat) && decide (s[0].toNat<=90)):=oI h0 65 90
 have ea:sgn s 0 91=decide (s[0].toNat=91):=lp h0 91
 have eb:sgn s 0 40=decide (s[0].toNat=40):=lp h0 40
 refine Run.callPure vz wW hI (ph s 0 S) fun w' hI=>?_
 cases hs:sml s 0
 ·refine rpG ?_
  refine Run.callPure kr j8 hI (gR s 0 S) fun w' hI=>?_
  cases hd:dig s 0
  ·refine rpG ?_
   refine eA (i:=0) aT h0 ?_
   rw [hs,hd,Bool.false_or,Bool.false_or] at e1
   by_cases h65:65<=s[0].toNat
   ·refine oj (by omega) ?_
    refine rpG ?_
    refine eA (i:=0) aT h0 ?_
    by_cases h90:s[0].toNat<=90
    ·refine HL (by omega) ?_
     refine rpG ?_
     exact done hI (by rw [e1,eu,decide_eq_true h65,decide_eq_true h90]; rfl)
    ·refine PL (by omega) ?_
     refine rpG ?_
     refine eA (i:=0) aT h0 ?_
     by_cases h91:s[0].toNat=91
     ·refine fL (by omega) ?_
      refine rpG ?_
      exact done hI (by rw [e1,ea,decide_eq_true h91,Bool.true_or,Bool.or_true])
     ·refine eD (by omega) ?_
      refine rpG ?_
      refine eA (i:=0) aT h0 ?_
      refine eD (by omega) ?_
      refine rpG ?_
      exact done hI (by rw [e1,eu,ea,eb,decide_eq_false h90,decide_eq_false h91,decide_eq_false (show ¬ s[0].toNat=40 by omega),Bool.and_false]; rfl)
   ·refine xR (by omega) ?_
    refine rpG ?_
    refine eA (i:=0) aT h0 ?_
    refine eD (by omega) ?_
    refine rpG ?_
    refine eA (i:=0) aT h0 ?_
    by_cases h40:s[0].toNat=40
    ·refine fL (by omega) ?_
     refine rpG ?_
     exact done hI (by rw [e1,eb,decide_eq_true h40,Bool.or_true,Bool.or_true])
    ·refine eD (by omega) ?_
     refine rpG ?_
     exact done hI (by rw [e1,eu,ea,eb,decide_eq_false h65,decide_eq_false (show ¬ s[0].toNat=91 by omega),decide_eq_false h40,Bool.false_and]; rfl)
  ·refine rpG ?_
   exact done hI (by rw [e1,hd,Bool.true_or,Bool.or_true])
 ·refine rpG ?_
  exact done hI (by rw [e1,hs,Bool.true_or])
theorem C4 {n:Int} (h:0<=n/\n<=25):Pure Tryz.prog Hd [.int .i64 n] S (.string (st [UInt8.ofNat (65+n.toNat)])):=by
 intro w hI
 refine sC.2 ?_
 dsimp only[sC,aL]
 refine qT fj ge (IntWalk.u8_in _ (by omega)) ?_
 refine SR (c:=((65+n.toNat:Nat):Int)) ?_ ?_
 ·rw [IntWalk.u8_in _ (by omega)]; omega
 refine Be hI xJ OW ge aT fun w' hI=>?_
 exact done hI rfl
theorem Jo:∀ (f n:Nat) (out r:Bs),EC f n out=some r->out.length<r.length/\r.length<=out.length+f
 | 0,_,_,_,h=>by simp [EC] at h
 | f+1,n,out,r,h=>by
  rw [EC] at h
  split at h
  ·have:=Jo f _ _ _ h
   simp only [List.length_cons] at this
   omega
  ·simp only [Option.some.injEq] at h
   subst h
   simp only [List.length_cons]
   omega
theorem vm {f n:Nat} {r:Bs} (h:EC f n []=some r) (hn:n<=100000) (hf:f<=1000):Pure Tryz.prog Mu [.int .i64 (n:Int)] S (.string (st r)):=by
 intro w hI
 refine Ac.2 ?_
 dsimp only[Ac,aL]
 refine eO (by omega) ?_
 refine az (fun hb=>by cases hb) (fun _=>?_)
 refine eO (by omega) ?_
 refine az (fun hb=>by cases hb) (fun _=>?_)
 refine ⟨fun a b w'=>∃ (f' m:Nat) (out:Bs),a=.int .i64 (m:Int)/\b=.string (st out)/\m<=100000/\out.length+f'<=1000/\EC f' m out=some r/\Inv w [] [] S w',fun a _ _=>(intOf a).toNat,⟨f,n,[],rfl,rfl,hn,by simpa using hf,h,hI⟩,?_⟩
 intro t0 _ _ t3 _ _ _ _ _ _ _ _ _ _ w'
 rintro ⟨f',m,out,rfl,rfl,hm,hof,hd,hI⟩
 cases f' with
 | zero=>simp [EC] at hd
 | succ g=>
 rw [EC] at hd
 split at hd
 ·rename_i h9
  refine KQ (by omega) ?_
  refine az (fun _=>?_) (fun hb=>by cases hb)
  refine MD (a:=m) (b:=10) rfl rfl (by omega) ?_
  refine eN (a:=48) (b:=m % 10) rfl rfl (by omega) ?_
  refine qT fj ge (IntWalk.u8_in _ (by omega)) ?_
  refine Be hI xJ OW ge aT fun w' hI=>?_
  refine dJ (by simp; omega) ?_
  refine K0 (a:=m) (b:=10) rfl rfl (by omega) (by omega) ?_
  refine ⟨⟨g,m / 10,UInt8.ofNat (48+m % 10)::out,rfl,rfl,by omega,by simp only [List.length_cons]; omega,hd,hI⟩,?_⟩
  simp only [intOf,Int.toNat_natCast]
  omega
 ·rename_i h9
  refine jQ (by omega) ?_
  refine az (fun hb=>by cases hb) (fun _=>?_)
  refine eN (a:=48) (b:=m) rfl rfl (by omega) ?_
  refine qT fj ge (IntWalk.u8_in _ (by omega)) ?_
  refine Be hI xJ OW ge aT fun w' hI=>?_
  refine dJ (by simp; omega) ?_
  simp only [Option.some.injEq] at hd
  exact done hI (by rw [<- hd]; rfl)
theorem KB {n:Int} {r:Bs} (h:Sk n=some r) (hn:-999<=n/\n<=999):Pure Tryz.prog Oi [.int .i64 n] S (.string (st r)):=by
 intro w hI
 refine Cg.2 ?_
 dsimp only[Cg,aL]
 unfold Sk at h
 split at h
 ·rename_i h0
  refine Co h0 ?_
  refine az (fun _=>?_) (fun hb=>by cases hb)
  refine RQ (by omega) ?_
  obtain ⟨m,hm⟩:∃ m:Nat,-n=(m:Int):=⟨(-n).toNat,by omega⟩
  rw [hm] at h ⊢
  rw [Int.toNat_natCast,Option.map_eq_some_iff] at h
  obtain ⟨l,hl,rfl⟩:=h
  have:=Jo _ _ _ _ hl
  refine Run.callPure z8 z5 hI (vm hl (by omega) (by omega)) fun w' hI=>?_
  refine dJ (a:=[45]) (by simp only [List.length_nil,List.length_cons] at this ⊢; omega) ?_
  exact done hI rfl
 ·rename_i h0
  refine eO h0 ?_
  refine az (fun hb=>by cases hb) (fun _=>?_)
  obtain ⟨m,rfl⟩:∃ m:Nat,n=(m:Int):=⟨n.toNat,by omega⟩
  rw [Int.toNat_natCast] at h
  refine Run.callPure z8 z5 hI (vm h (by omega) (by omega)) fun w' hI=>?_
  exact done hI rfl
theorem GS {t:T} {cs:List Value} {x:Bs} (h:RdT S cs t) (hp:Cr t=false) (hx:Pf t=some x):Pure Tryz.prog KR [.agg cs.toArray] S (.string (st x)):=by
 intro w hI
 have h0:=h
 obtain ⟨kv,rfl,_,_,_,hk⟩:=RdT.iff.1 h
 obtain ⟨ka,kc,rfl,_⟩:=id hk
 refine zU.2 ?_
 dsimp only[zU,aL]
 unfold Pf at hx
 refine bf hI fun b1 w' hI=>?_
 refine ad hI 0 rfl aE av rfl ?_
 split at hx
 ·rename_i h1
  refine fL h1 ?_
  refine az (fun _=>?_) (fun hb=>by cases hb)
  refine ad hI 0 rfl aM av rfl ?_
  split at hx
  ·rename_i h2
   refine Run.callPure DO Dw hI (C4 h2) fun w' hI=>?_
   simp only [Option.some.injEq] at hx
   exact done hI (by rw [<- hx])
  ·cases hx
 ·rename_i h1
  refine eD h1 ?_
  refine az (fun hb=>by cases hb) (fun _=>?_)
  split at hx
  ·rename_i h2
   refine fL h2 ?_
   refine az (fun _=>?_) (fun hb=>by cases hb)
   refine ad hI 0 rfl aM av rfl ?_
   split at hx
   ·rename_i h3
    refine Run.callPure Ln Mz hI (KB hx h3) fun w' hI=>?_
    exact done hI rfl
   ·cases hx
  ·rename_i h2
   refine eD h2 ?_
   refine az (fun hb=>by cases hb) (fun _=>?_)
   split at hx
   ·rename_i h3
    simp only [Option.some.injEq] at hx
    refine ao hI 0 ac rfl rfl ?_
    refine Run.callPure re qm hI (lm h0) fun w' hI=>?_
    rw [hp]
    refine az (fun hb=>by cases hb) (fun _=>?_)
    refine ad hI 0 rfl aO aJ rfl ?_
    refine ⟨fun a b w'=>a=.int .i64 0/\b=.string t.name/\Inv w [] [.blk b1 (.cells #[.int .i64 t.kind,.int .i64 t.n,.string t.name,.slice ka t.kids.length kc] ab)] S w',fun _ _ _=>0,⟨rfl,rfl,hI⟩,?_⟩
    intro t4 _ _ _ _ _ _ _ _ _ _ _ _ t3 _ _ _ _ _ _ _ _ _ w'
    rintro ⟨rfl,rfl,hI⟩
    refine ad hI 0 rfl al ah rfl ?_
    refine dK af ?_
    refine eO (by omega) ?_
    refine az (fun hb=>by cases hb) (fun _=>?_)
    refine ⟨fun b w'=>b=.string t.name/\Inv w [] [.blk b1 (.cells #[.int .i64 t.kind,.int .i64 t.n,.string t.name,.slice ka t.kids.length kc] ab)] S w',?_,?_⟩
    ·refine ad hI 0 rfl al ah rfl ?_
     refine dK af ?_
     refine jQ (by omega) ?_
     refine az (fun hb=>by cases hb) (fun _=>?_)
     exact ⟨rfl,hI⟩
    intro t3 _ _ _ _ _ _ w'
    rintro ⟨rfl,hI⟩
    exact done hI (by rw [<- hx])
   ·cases hx
end
theorem EW:∀ (f:Nat) (l:List T) (out x:Bs),oV f l out=some x->out.length<=x.length
 | 0,_,_,_,h=>by simp [oV] at h
 | _+1,[],out,x,h=>by simp [oV] at h; subst h; exact Nat.le_refl _
 | f+1,t::l,out,x,h=>by
  rw [oV] at h
  split at h
  ·cases h
  ·have:=EW f _ _ _ h
   simp only [List.length_append] at this
   omega
def lenOf:Value->Nat
 | .slice _ n _=>n
 | _=>0
def zh (f:Nat):Prop:=∀ (t:T) (x:Bs) (S:ae) (cs:List Value),HE f t=some x->x.length<=1000000->RdT S cs t->Pure Tryz.prog Mr [.agg cs.toArray] S (.string (st x))
def LL (f:Nat):Prop:=∀ (t:T) (x:Bs) (S:ae) (cs:List Value),Fi f t []=some x->x.length<=1000000->RdT S cs t->Pure Tryz.prog Ll [.agg cs.toArray] S (.string (st x))
def Gx (f:Nat):Prop:=∀ (ts:List T) (x:Bs) (S:ae) (u:Value),oV f ts []=some x->x.length<=1000000->RdSl S 4 (RdT S) u ts->Pure Tryz.prog LK [u] S (.string (st x))
def rx (f:Nat):Prop:=∀ (t:T) (l:Int) (x:Bs) (S:ae) (cs:List Value),pL f t l=some x->x.length<=1000000->RdT S cs t->Pure Tryz.prog DK [.agg cs.toArray,.int .i64 l] S (.string (st x))
def MA (f:Nat):Prop:=∀ (t:T) (l:Int) (x:Bs) (S:ae) (cs:List Value),Nq f t l=some x->x.length<=1000000->RdT S cs t->Pure Tryz.prog Mp [.agg cs.toArray,.int .i64 l] S (.string (st x))
def Gf (f:Nat):Prop:=∀ (t:T) (l:Int) (x:Bs) (S:ae) (cs:List Value),H8 f t l=some x->x.length<=1000000->RdT S cs t->Pure Tryz.prog I8 [.agg cs.toArray,.int .i64 l] S (.string (st x))
section
attribute [local irreducible] Run CondV aB aS
theorem Qd {f:Nat} (ih:∀ g,g<f->zh g):Gx f:=by
 intro ts x S u h hx hu w hI
 refine zY.2 ?_
 dsimp only[zY,aL]
 refine ⟨fun a b w'=>∃ (f' j:Nat) (out acc:Bs),f'<=f/\j<=ts.length/\a=.int .i64 (j:Int)/\b=.string (st out)/\acc=out++(if 0<j/\j<ts.length then [44] else [])/\oV f' (ts.drop j) acc=some x/\Inv w [] [] S w',
  fun a _ _=>ts.length - (intOf a).toNat,⟨f,0,[],[],Nat.le_refl _,Nat.zero_le _,rfl,rfl,by simp,h,hI⟩,?_⟩
 intro t4 _ _ _ _ _ _ _ _ _ t3 _ _ _ _ _ _ _ _ w'
 rintro ⟨f',j,out,acc,hf',hj,rfl,rfl,hacc,ha,hI⟩
 cases f' with
 | zero=>simp [oV] at ha
 | succ g=>
 refine aC hu af ?_
 refine bq ?_
 refine aI (fun hji=>?_) (fun hji=>?_)
 ·have hj':j<ts.length:=by omega
  rw [List.drop_eq_getElem_cons hj',oV] at ha
  split at ha
  ·cases ha
  rename_i y hy
  have hlen:=EW _ _ _ _ ha
  simp only [List.length_append] at hlen
  refine ⟨fun b w'=>b=.string (st acc)/\Inv w [] [] S w',?_,?_⟩
  ·refine dl ?_
   refine aI (fun h0=>?_) (fun h0=>?_)
   ·rw [if_pos (by omega)] at hacc
    refine dJ (b:=[44]) (by rw [hacc,List.length_append] at hlen; simp only [List.length_cons,List.length_nil] at hlen ⊢; omega) ?_
    exact ⟨by rw [hacc],hI⟩
   ·rw [if_neg (by omega),List.append_nil] at hacc
    exact ⟨by rw [hacc],hI⟩
  intro t3 _ _ _ _ w'
  rintro ⟨rfl,hI⟩
  refine bY hI hu af ac hj' (fun _ _=>RdT.length) fun cs hcs=>?_
  refine Run.callPure fV fR hI (ih g (by omega) _ y S cs hy (by omega) hcs) fun w' hI=>?_
  refine dJ (by omega) ?_
  refine bl (by have:=hu.le; simp only [maxLen] at this; omega) ?_
  refine ⟨⟨g,j+1,acc++y,_,by omega,hj',rfl,rfl,rfl,?_,hI⟩,by simp only [intOf,Int.toNat_natCast]; omega⟩
  have e:(if ts.drop (j+1)=[] then [] else [44]:Bs)=if 0<j+1/\j+1<ts.length then [44] else []:=by
   by_cases h1:j+1<ts.length
   ·rw [if_neg (fun h2=>by rw [List.drop_eq_nil_iff] at h2; omega),if_pos (by omega)]
   ·rw [if_pos (List.drop_eq_nil_of_le (by omega)),if_neg (by omega)]
  rw [<- e]
  exact ha
 ·have:j=ts.length:=by omega
  subst this
  rw [List.drop_length,oV] at ha
  simp only [Option.some.injEq] at ha
  rw [if_neg (by omega),List.append_nil] at hacc
  exact done hI (by rw [<- ha,hacc])
theorem LB {f:Nat} (ih:∀ g,g<f->zh g):rx f:=by
 intro t l x S cs h hx hc w hI
 cases f with
 | zero=>simp [pL] at h
 | succ g=>
 rw [pL] at h
 split at h
 ·cases h
 rename_i y hy
 simp only [Option.some.injEq] at h
 have h0:=hc
 obtain ⟨kv,rfl,_,_,_,hk⟩:=RdT.iff.1 hc
 obtain ⟨ka,kc,rfl,_⟩:=id hk
 have hyx:y.length<=1000000/\y.length+2<=9000000:=by
  have:y.length<=x.length:=by
   rw [<- h]; split
   ·simp; omega
   ·omega
  omega
 refine pJ.2 ?_
 dsimp only[pJ,aW]
 refine bf hI fun b1 w' hI=>?_
 refine ⟨fun b w'=>b=.bool (oR t && decide (l<cn t.name))/\Inv w [] [.blk b1 (.cells #[.int .i64 t.kind,.int .i64 t.n,.string t.name,.slice ka t.kids.length kc] ab)] S w',?_,?_⟩
 ·refine ao hI 0 ac rfl rfl ?_
  refine Run.callPure u6 xo hI (pm h0) fun w' hI=>?_
  cases hf:oR t
  ·refine rpG ?_
   exact ⟨by rw [Bool.false_and],hI⟩
  ·refine rpG ?_
   refine ad hI 0 rfl aO aJ rfl ?_
   refine Run.callPure eH eJ hI (dI _ S) fun w' hI=>?_
   refine dl ?_
   refine rpG ?_
   exact ⟨by rw [Bool.true_and],hI⟩
 intro t13 _ _ _ _ _ _ _ _ w'
 rintro ⟨rfl,hI⟩
 refine az (fun hb=>?_) (fun hb=>?_)
 ·rw [Bool.and_eq_true,decide_eq_true_eq] at hb
  rw [if_pos hb] at h
  refine ao hI 0 ac rfl rfl ?_
  refine Run.callPure fV fR hI (ih g (by omega) t y S _ hy hyx.1 h0) fun w' hI=>?_
  refine dJ (a:=[40]) (by simp only [List.length_cons,List.length_nil]; omega) ?_
  refine dJ (b:=[41]) (by simp only [List.length_append,List.length_cons,List.length_nil]; omega) ?_
  exact done hI (by rw [<- h])
 ·rw [if_neg (fun hh=>by rw [Bool.and_eq_false_iff,decide_eq_false_iff_not] at hb; rcases hb with hb|hb; rw [hh.1] at hb; cases hb; exact hb hh.2)] at h
  refine ao hI 0 ac rfl rfl ?_
  refine Run.callPure fV fR hI (ih g (by omega) t y S _ hy hyx.1 h0) fun w' hI=>?_
  exact done hI (by rw [<- h])
theorem QE {f:Nat} (ih:∀ g,g<f->zh g) (ihB:∀ g,g<f->rx g):MA f:=by
 intro t l x S cs h hx hc w hI
 cases f with
 | zero=>simp [Nq] at h
 | succ g=>
 rw [Nq] at h
 have h0:=hc
 obtain ⟨kv,rfl,_,_,_,hk⟩:=RdT.iff.1 hc
 obtain ⟨ka,kc,rfl,_⟩:=id hk
 refine zp.2 ?_
 dsimp only[zp,aW]
 refine bf hI fun b1 w' hI=>?_
 refine ao hI 0 ac rfl rfl ?_
 refine Run.callPure yY zw hI (pN h0) fun w' hI=>?_
 split at h
 ·rename_i hs
  split at h
  ·cases h
  rename_i y hy
  simp only [Option.some.injEq] at h
  have hyx:y.length+2=x.length:=by rw [<- h]; simp only [List.length_append,List.length_cons,List.length_nil]; omega
  rw [hs]
  refine az (fun _=>?_) (fun hb=>by cases hb)
  refine ao hI 0 ac rfl rfl ?_
  refine Run.callPure fV fR hI (ih g (by omega) t y S _ hy (by omega) h0) fun w' hI=>?_
  refine dJ (a:=[40]) (by simp only [List.length_cons,List.length_nil]; omega) ?_
  refine dJ (b:=[41]) (by simp only [List.length_append,List.length_cons,List.length_nil]; omega) ?_
  exact done hI (by rw [<- h])
 ·rename_i hs
  rw [Bool.eq_false_iff.2 hs]
  refine az (fun hb=>by cases hb) (fun _=>?_)
  refine ao hI 0 ac rfl rfl ?_
  refine Run.callPure rl pO hI (ihB g (by omega) t l x S _ h hx h0) fun w' hI=>?_
  exact done hI rfl
theorem OQ {f:Nat} (ihB:∀ g,g<f->rx g):Gf f:=by
 intro t l x S cs h hx hc w hI
 cases f with
 | zero=>simp [H8] at h
 | succ g=>
 rw [H8] at h
 split at h
 ·cases h
 rename_i y hy
 split at h
 ·cases h
 rename_i hne
 simp only [Option.some.injEq] at h
 have hy0:0<y.length:=by
  cases y with
  | nil=>exact absurd rfl hne
  | cons a l=>simp
 have hyx:y.length<=1000000:=by
  have:y.length<=x.length:=by
   rw [<- h]; split
   ·simp; omega
   ·omega
  omega
 have h0:=hc
 obtain ⟨kv,rfl,_,_,_,hk⟩:=RdT.iff.1 hc
 obtain ⟨ka,kc,rfl,_⟩:=id hk
 refine ww.2 ?_
 dsimp only[ww,aW]
 refine bf hI fun b1 w' hI=>?_
 refine ao hI 0 ac rfl rfl ?_
 refine Run.callPure rl pO hI (ihB g (by omega) t l y S _ hy hyx h0) fun w' hI=>?_
 refine ⟨fun b w'=>b=.bool (zX t || !Hp y)/\Inv w [] [.blk b1 (.cells #[.int .i64 t.kind,.int .i64 t.n,.string t.name,.slice ka t.kids.length kc] ab)] S w',?_,?_⟩
 ·refine ao hI 0 ac rfl rfl ?_
  refine Run.callPure yY zw hI (pN h0) fun w' hI=>?_
  cases hs:zX t
  ·refine rpG ?_
   refine Run.callPure Gh GB hI (Dy y hy0) fun w' hI=>?_
   refine bK ?_
   refine rpG ?_
   exact ⟨by rw [Bool.false_or],hI⟩
  ·refine rpG ?_
   exact ⟨by rw [Bool.true_or],hI⟩
 intro t15 _ _ _ _ _ _ w'
 rintro ⟨rfl,hI⟩
 refine az (fun hb=>?_) (fun hb=>?_)
 ·rw [Bool.or_eq_true,Bool.not_eq_true'] at hb
  rw [if_pos hb] at h
  refine dJ (a:=[40]) (by simp only [List.length_cons,List.length_nil]; omega) ?_
  refine dJ (b:=[41]) (by simp only [List.length_append,List.length_cons,List.length_nil]; omega) ?_
  exact done hI (by rw [<- h])
 ·rw [if_neg (fun hh=>by rw [<- Bool.not_eq_true',<- Bool.or_eq_true,hb] at hh; cases hh)] at h
  exact done hI (by rw [<- h])
theorem QN {f:Nat} (hf:f<=100000) (ih:∀ g,g<f->zh g) (ihA:∀ g,g<f->Gx g):LL f:=by
 intro t x S cs h hx hc w hI
 obtain ⟨kv,rfl,_,_,_,hk⟩:=RdT.iff.1 hc
 refine y8.2 ?_
 dsimp only[y8,aL]
 refine bf hI fun b1 w' hI=>?_
 refine dD hI bp fun v0 w' hI=>?_
 refine ⟨fun a w'=>∃ (f':Nat) (t':T) (items:List T) (ds:List Value) (css:List (List Value)),f'+items.length=f/\Fi f' t' items=some x/\RdT S ds t'/\Rows 4 (RdT S) css items/\(∃ p m,a=.slice p items.length m)/\Inv w [] [.blk b1 (.cells ds.toArray ab),aK a ab 4 css] S w',
  fun a _=>f+1 - lenOf a,⟨f,t,[],_,[],by simp,h,hc,Rows.nil _ _,?_,hI⟩,?_⟩
 ·have hI2:Inv w [] ([Item.blk b1 (.cells #[.int .i64 t.kind,.int .i64 t.n,.string t.name,kv] ab)]++[aK v0 ab 4 []]) S w':=hI
  obtain ⟨S1,_,hrd,_⟩:=Inv.lendExt hI2
  obtain ⟨p,m,e,_⟩:=RowRd.rows (Rows.nil 4 (RdT S)) hrd
  exact ⟨p,m,e⟩
 clear h hc hk hI
 intro _ _ _ _ t3 _ _ _ _ _ _ _ _ _ w'
 rintro ⟨f',t',items,ds,css,hfl,hl,hd,hR,⟨p,m,rfl⟩,hI⟩
 have hd0:=hd
 obtain ⟨kd,rfl,_,_,_,hk⟩:=RdT.iff.1 hd
 have hcl:=hR.hc
 cases f' with
 | zero=>simp [Fi] at hl
 | succ g=>
 rw [Fi] at hl
 refine ao hI 0 ac rfl rfl ?_
 refine Run.callPure re qm hI (lm hd0) fun w' hI=>?_
 split at hl
 ·rename_i hp
  split at hl
  ·rename_i a b hab
   rw [hp]
   refine az (fun _=>?_) (fun hb=>by cases hb)
   rw [hab] at hk
   refine ad hI 0 rfl al ah rfl ?_
   refine bY (i:=0) hI hk af ac (by simp) (fun _ _=>RdT.length) fun es hes=>?_
   rw [List.getElem_cons_zero] at hes
   refine dZ (css:=css) hI 1 es bp (by omega) (by omega) rfl hes.length hes.one (by omega) (by omega) fun v' w' hI=>?_
   refine ad hI 0 rfl al ah rfl ?_
   refine bY (i:=1) hI hk af ac (by simp) (fun _ _=>RdT.length) fun gs hgs=>?_
   rw [List.getElem_cons_succ,List.getElem_cons_zero] at hgs
   have hg1:=hgs.length
   refine aq hI 0 rfl ac (by simpa using hg1) rfl (by simpa using hgs.one) fun w' hI=>?_
   have hR2:=hR.snoc hes hes.length
   have hI2:Inv w [] ([Item.blk b1 (.cells gs.toArray ab)]++[aK v' ab 4 (css++[es])]) S w':=hI
   obtain ⟨S1,hE1,hrd,_⟩:=Inv.lendExt hI2
   obtain ⟨p',m',e',_⟩:=RowRd.rows hR2 hrd
   refine ⟨⟨g,b,items++[a],gs,css++[es],by rw [List.length_append]; simp only [List.length_cons,List.length_nil]; omega,hl,hgs,hR2,⟨p',m',e'⟩,hI⟩,?_⟩
   rw [e']
   simp only [lenOf,List.length_append,List.length_cons,List.length_nil]
   omega
  ·cases hl
 ·rename_i hp
  rw [Bool.eq_false_iff.2 hp]
  refine az (fun hb=>by cases hb) (fun _=>?_)
  split at hl
  ·cases hl
  rename_i y hy
  refine ao hI 0 ac rfl rfl ?_
  refine Run.callPure LJ LI hI (Ep hd0) fun w' hI=>?_
  have hI2:Inv w [] ([Item.blk b1 (.cells #[.int .i64 t'.kind,.int .i64 t'.n,.string t'.name,kd] ab)]++[aK (.slice p items.length m) ab 4 css]) S w':=hI
  obtain ⟨S1,hE1,hrd,hI⟩:=Inv.lendExt hI2
  have hrs:=RowRd.rows (hR.monoR fun _ _ h=>RdT.mono hE1.1 h) hrd
  have hd1:=RdT.mono hE1.1 hd0
  split at hl
  ·rename_i hn
   simp only [Option.some.injEq] at hl
   have hyx:y.length+2=x.length:=by rw [<- hl]; simp only [List.length_append,List.length_cons,List.length_nil]; omega
   rw [hn]
   refine az (fun _=>?_) (fun hb=>by cases hb)
   refine Run.callPure qF qg hI (ihA g (by omega) items y S1 _ hy (by omega) hrs) fun w' hI=>?_
   refine dJ (a:=[91]) (by simp only [List.length_cons,List.length_nil]; omega) ?_
   refine dJ (b:=[93]) (by simp only [List.length_append,List.length_cons,List.length_nil]; omega) ?_
   exact gi hI hE1.1 (by rw [<- hl])
  ·rename_i hn
   split at hl
   ·cases hl
   rename_i z hz
   simp only [Option.some.injEq] at hl
   have hyx:y.length+z.length+3=x.length:=by rw [<- hl]; simp only [List.length_append,List.length_cons,List.length_nil]; omega
   rw [Bool.eq_false_iff.2 hn]
   refine az (fun hb=>by cases hb) (fun _=>?_)
   refine ⟨fun D x2 iE ia jM gI lq lw fT j4 w_=>Fx D 0 [j4=.slice p items.length m,fT=.string (st y),lw=.string (st ([91]++y)),lq=.string (st ([91]++y++[124])),gI=.agg #[.int .i64 t'.kind,.int .i64 t'.n,.string t'.name,kd],jM=.string (st z),ia=.string (st ([91]++y++[124]++z)),iE=.string (st ([91]++y++[124]++z++[93])),x2=.string (st ([91]++y++[124]++z++[93]))]/\Inv w [] [.blk b1 (.cells #[.int .i64 t'.kind,.int .i64 t'.n,.string t'.name,kd] ab)] S1 w_,⟨Fx.nil _ _,hI.draw⟩,⟨?_,?_,?_,?_,?_,?_,?_,?_,?_,trivial⟩,?_⟩
   all_goals (intro D bn; intros; rename_i x2 iE ia jM gI lq lw fT j4 w_ hA_; have hF_:=hA_.1; obtain ⟨⟨bR,bQ,bG,bS,bU,bB,bD,cq,ci,_⟩,hI⟩:=hA_)
   ·exact ⟨hF_.set 0 rfl,hI⟩
   ·obtain rfl:=bR ‹_›
    refine Run.callPure qF qg hI (ihA g (by omega) items y S1 _ hy (by omega) hrs) fun w_ hI=>?_
    exact ⟨hF_.set 1 rfl,hI⟩
   ·obtain rfl:=bQ ‹_›
    refine dJ (a:=[91]) (by simp only [List.length_cons,List.length_nil]; omega) ?_
    exact ⟨hF_.set 2 rfl,hI⟩
   ·obtain rfl:=bG ‹_›
    refine dJ (b:=[124]) (by simp only [List.length_append,List.length_cons,List.length_nil]; omega) ?_
    exact ⟨hF_.set 3 rfl,hI⟩
   ·refine ao hI 0 ac rfl rfl ?_
    exact ⟨hF_.set 4 rfl,hI⟩
   ·obtain rfl:=bU ‹_›
    refine Run.callPure fV fR hI (ih g (by omega) t' z S1 _ hz (by omega) hd1) fun w_ hI=>?_
    exact ⟨hF_.set 5 rfl,hI⟩
   ·obtain rfl:=bS ‹_›
    obtain rfl:=bB ‹_›
    refine dJ (by simp only [List.length_append,List.length_cons,List.length_nil]; omega) ?_
    exact ⟨hF_.set 6 rfl,hI⟩
   ·obtain rfl:=bD ‹_›
    refine dJ (b:=[93]) (by simp only [List.length_append,List.length_cons,List.length_nil]; omega) ?_
    exact ⟨hF_.set 7 rfl,hI⟩
   ·obtain rfl:=cq ‹_›
    exact ⟨hF_.set 8 rfl,hI⟩
   obtain ⟨rfl,rfl,rfl,rfl,rfl,rfl,rfl,rfl,rfl,_⟩:=hF_.all
   clear hF_ bR bQ bG bS bU bB bD cq ci
   exact gi hI hE1.1 (by rw [<- hl])
theorem Sb {f:Nat} (ihL:∀ g,g<f->LL g) (ihA:∀ g,g<f->Gx g) (ihF:∀ g,g<f->MA g) (ihR:∀ g,g<f->Gf g):zh f:=by
 intro t x S cs h hx hc w hI
 cases f with
 | zero=>simp [HE] at h
 | succ g=>
 rw [HE] at h
 have h0:=hc
 obtain ⟨kv,rfl,_,_,_,hk⟩:=RdT.iff.1 hc
 refine zj.2 ?_
 dsimp only[zj,aL]
 refine bf hI fun b1 w' hI=>?_
 obtain ⟨B1,hB1⟩:∃ B1,B1=Item.blk b1 (.cells #[.int .i64 t.kind,.int .i64 t.n,.string t.name,kv] ab):=⟨_,rfl⟩
 refine ao hI 0 ac rfl rfl ?_
 refine Run.callPure re qm hI (lm h0) fun w' hI=>?_
 split at h
 ·rename_i hp
  rw [hp]
  refine az (fun _=>?_) (fun hb=>by cases hb)
  refine ao hI 0 ac rfl rfl ?_
  refine Run.callPure Ic Kb hI (ihL g (by omega) t x S _ h hx h0) fun w' hI=>?_
  exact done hI rfl
 rename_i hp
 have hp:=Bool.eq_false_iff.2 hp
 rw [hp]
 refine az (fun hb=>by cases hb) (fun _=>?_)
 refine ao hI 0 ac rfl rfl ?_
 refine Run.callPure u6 xo hI (pm h0) fun w' hI=>?_
 split at h
 ·rename_i hf
  rw [hf]
  refine az (fun _=>?_) (fun hb=>by cases hb)
  split at h
  ·rename_i a b hab
   obtain ⟨lv,hlv⟩:∃ lv,lv=cn t.name:=⟨_,rfl⟩
   rw [<- hlv] at h
   have hlr:1<=lv/\lv<=3:=by
    have h1:0<cn t.name:=by
     unfold oR at hf
     simp only [Bool.and_eq_true,decide_eq_true_eq] at hf
     exact hf.2.2
    have h2:cn t.name<=3:=by
     unfold cn
     split
     ·omega
     ·split
      ·omega
      ·split <;> omega
    omega
   split at h
   ·rename_i y z hy hz
    simp only [Option.some.injEq] at h
    have hlen:y.length+(iw (bs t.name)).length+z.length=x.length:=by rw [<- h]; simp only [List.length_append]
    have hsp:(bs t.name).length<=(iw (bs t.name)).length:=by
     unfold iw
     split
     ·simp; omega
     ·omega
    rw [hab] at hk
    obtain ⟨b2,o2,cap2,c2,E2,fz2,rfl,hS,hRa⟩:=hk.at_ (i:=0) (by simp)
    obtain ⟨b2',o2',cap2',c2',E2',fz2',hsl,hS',hRb⟩:=hk.at_ (i:=1) (by simp)
    cases hsl
    rw [hS] at hS'
    cases hS'
    rw [List.getElem_cons_zero] at hRa
    rw [List.getElem_cons_succ,List.getElem_cons_zero] at hRb
    refine ad hI 0 rfl aO aJ rfl ?_
    refine Run.callPure eH eJ hI (dI _ S) fun w' hI=>?_
    rw [<- hlv]
    have hI:Inv w [] [B1] S w':=by rw [hB1]; exact hI
    refine ⟨fun v w'=>v=.int .i64 (if lv=3 then 2 else lv)/\Inv w [] [B1] S w',?_,?_⟩
    ·refine aZ ?_
     refine aI (fun h3=>⟨by rw [if_pos h3],hI⟩) (fun h3=>⟨by rw [if_neg h3],hI⟩)
    intro t4 _ _ w'
    rintro ⟨rfl,hI⟩
    subst hB1
    skip
    refine ⟨fun D x2 iD ji nU j9 mD iE ia jM gI lq lw fT j4 pw og lR jN lM w_=>Fx D 0 [lM=.pointer (some ⟨b1,3,none⟩),jN=.slice (some ⟨b2,o2,none⟩) [a,b].length cap2,lR=.pointer (some ⟨b2,o2+0 * 4,none⟩),og=.agg (aH c2 (o2+0 * 4) 4).toArray,pw=.int .i64 (if lv=3 then 2 else lv),j4=.string (st y),fT=.pointer (some ⟨b1,2,none⟩),lw=.string t.name,lq=.string (st (iw (bs t.name))),gI=.string (st (y++iw (bs t.name))),jM=.pointer (some ⟨b1,3,none⟩),ia=.slice (some ⟨b2,o2,none⟩) [a,b].length cap2,iE=.pointer (some ⟨b2,o2+1 * 4,none⟩),mD=.agg (aH c2 (o2+1 * 4) 4).toArray,j9=.int .i64 lv,nU=.int .i64 (lv - 1),ji=.string (st z),iD=.string (st (y++iw (bs t.name)++z)),x2=.string (st (y++iw (bs t.name)++z))]/\Inv w [] [.blk b1 (.cells #[.int .i64 t.kind,.int .i64 t.n,.string t.name,.slice (some ⟨b2,o2,none⟩) [a,b].length cap2] ab)] S w_,⟨Fx.nil _ _,hI.draw⟩,⟨?_,?_,?_,?_,?_,?_,?_,?_,?_,?_,?_,?_,?_,?_,?_,?_,?_,?_,?_,trivial⟩,?_⟩
    all_goals (intro D bn; intros; rename_i x2 iD ji nU j9 mD iE ia jM gI lq lw fT j4 pw og lR jN lM w_ hA_; have hF_:=hA_.1; obtain ⟨⟨bR,bQ,bG,bS,bU,bB,bD,cq,ci,cL,bH,bT,cH,de,cB,dk,dw,dH,eE,_⟩,hI⟩:=hA_)
    ·refine ai al ?_
     exact ⟨hF_.set 0 rfl,hI⟩
    ·obtain rfl:=bR ‹_›
     refine aA hI 0 ah rfl rfl ?_
     exact ⟨hF_.set 1 rfl,hI⟩
    ·obtain rfl:=bQ ‹_›
     refine ar (i:=0) af (by simp) ?_
     exact ⟨hF_.set 2 rfl,hI⟩
    ·obtain rfl:=bG ‹_›
     refine bE ac hRa.length (fun j v hj=>by rw [hI.cellS hS]; exact au rfl j v hj) ?_
     exact ⟨hF_.set 3 rfl,hI⟩
    ·exact ⟨hF_.set 4 rfl,hI⟩
    ·obtain rfl:=bS ‹_›
     obtain rfl:=bU ‹_›
     refine Run.callPure Jz Kx hI (ihF g (by omega) a _ y S _ hy (by omega) hRa) fun w_ hI=>?_
     exact ⟨hF_.set 5 rfl,hI⟩
    ·refine ai aO ?_
     exact ⟨hF_.set 6 rfl,hI⟩
    ·obtain rfl:=bD ‹_›
     refine aA hI 0 aJ rfl rfl ?_
     exact ⟨hF_.set 7 rfl,hI⟩
    ·obtain rfl:=cq ‹_›
     refine Run.callPure EF Ex hI (Bu (bs t.name) (by omega)) fun w_ hI=>?_
     exact ⟨hF_.set 8 rfl,hI⟩
    ·obtain rfl:=bB ‹_›
     obtain rfl:=ci ‹_›
     refine dJ (by omega) ?_
     exact ⟨hF_.set 9 rfl,hI⟩
    ·refine ai al ?_
     exact ⟨hF_.set 10 rfl,hI⟩
    ·obtain rfl:=bH ‹_›
     refine aA hI 0 ah rfl rfl ?_
     exact ⟨hF_.set 11 rfl,hI⟩
    ·obtain rfl:=bT ‹_›
     refine ar (i:=1) af (by simp) ?_
     exact ⟨hF_.set 12 rfl,hI⟩
    ·obtain rfl:=cH ‹_›
     refine bE ac hRb.length (fun j v hj=>by rw [hI.cellS hS]; exact au rfl j v hj) ?_
     exact ⟨hF_.set 13 rfl,hI⟩
    ·exact ⟨hF_.set 14 rfl,hI⟩
    ·obtain rfl:=cB ‹_›
     refine hK (by omega) ?_
     exact ⟨hF_.set 15 rfl,hI⟩
    ·obtain rfl:=de ‹_›
     obtain rfl:=dk ‹_›
     refine Run.callPure Gg Ho hI (ihR g (by omega) b _ z S _ hz (by omega) hRb) fun w_ hI=>?_
     exact ⟨hF_.set 16 rfl,hI⟩
    ·obtain rfl:=cL ‹_›
     obtain rfl:=dw ‹_›
     refine dJ (by rw [List.length_append]; omega) ?_
     exact ⟨hF_.set 17 rfl,hI⟩
    ·obtain rfl:=dH ‹_›
     exact ⟨hF_.set 18 rfl,hI⟩
    obtain ⟨rfl,rfl,rfl,rfl,rfl,rfl,rfl,rfl,rfl,rfl,rfl,rfl,rfl,rfl,rfl,rfl,rfl,rfl,rfl,_⟩:=hF_.all
    clear hF_ bR bQ bG bS bU bB bD cq ci cL bH bT cH de cB dk dw dH eE
    exact done hI (by rw [<- h])
   ·cases h
  ·cases h
 ·rename_i hf
  rw [Bool.eq_false_iff.2 hf]
  refine az (fun hb=>by cases hb) (fun _=>?_)
  obtain ⟨ka,kc,rfl,_⟩:=id hk
  refine ⟨fun v w'=>v=.bool (decide (t.kind=3) && decide (0<t.kids.length))/\Inv w [] [B1] S w',?_,?_⟩
  ·refine ad hI 0 rfl aE av rfl ?_
   by_cases h3:t.kind=3
   ·refine fL h3 ?_
    refine rpG ?_
    refine ad hI 0 rfl al ah rfl ?_
    refine dK af ?_
    refine dl ?_
    refine rpG ?_
    refine ⟨?_,by rw [hB1]; exact hI⟩
    rw [decide_eq_true h3,Bool.true_and]
    congr 1
    rw [decide_eq_decide]
    omega
   ·refine eD h3 ?_
    refine rpG ?_
    exact ⟨by rw [decide_eq_false h3,Bool.false_and],by rw [hB1]; exact hI⟩
  intro t37 _ _ _ _ _ _ _ _ _ w'
  rintro ⟨rfl,hI⟩
  subst hB1
  split at h
  ·rename_i hc3
   rw [decide_eq_true hc3.1,decide_eq_true hc3.2]
   refine az (fun _=>?_) (fun hb=>by cases hb)
   split at h
   ·rename_i y hy
    simp only [Option.some.injEq] at h
    have hlen:(bs t.name).length+y.length+2=x.length:=by rw [<- h]; simp only [List.length_append,List.length_cons,List.length_nil]; omega
    skip
    refine ⟨fun D x2 ti pD kX rR s3 sO rp jL w_=>Fx D 0 [jL=.pointer (some ⟨b1,2,none⟩),rp=.string t.name,sO=.string (st (bs t.name++[40])),s3=.pointer (some ⟨b1,3,none⟩),rR=.slice ka t.kids.length kc,kX=.string (st y),pD=.string (st (bs t.name++[40]++y)),ti=.string (st (bs t.name++[40]++y++[41])),x2=.string (st (bs t.name++[40]++y++[41]))]/\Inv w [] [.blk b1 (.cells #[.int .i64 t.kind,.int .i64 t.n,.string t.name,.slice ka t.kids.length kc] ab)] S w_,⟨Fx.nil _ _,hI.draw⟩,⟨?_,?_,?_,?_,?_,?_,?_,?_,?_,trivial⟩,?_⟩
    all_goals (intro D bn; intros; rename_i x2 ti pD kX rR s3 sO rp jL w_ hA_; have hF_:=hA_.1; obtain ⟨⟨bR,bQ,bG,bS,bU,bB,bD,cq,ci,_⟩,hI⟩:=hA_)
    ·refine ai aO ?_
     exact ⟨hF_.set 0 rfl,hI⟩
    ·obtain rfl:=bR ‹_›
     refine aA hI 0 aJ rfl rfl ?_
     exact ⟨hF_.set 1 rfl,hI⟩
    ·obtain rfl:=bQ ‹_›
     refine dJ (a:=bs t.name) (b:=[40]) (by simp only [List.length_cons,List.length_nil]; omega) ?_
     exact ⟨hF_.set 2 rfl,hI⟩
    ·refine ai al ?_
     exact ⟨hF_.set 3 rfl,hI⟩
    ·obtain rfl:=bS ‹_›
     refine aA hI 0 ah rfl rfl ?_
     exact ⟨hF_.set 4 rfl,hI⟩
    ·obtain rfl:=bU ‹_›
     refine Run.callPure qF qg hI (ihA g (by omega) t.kids y S _ hy (by omega) hk) fun w_ hI=>?_
     exact ⟨hF_.set 5 rfl,hI⟩
    ·obtain rfl:=bG ‹_›
     obtain rfl:=bB ‹_›
     refine dJ (by simp only [List.length_append,List.length_cons,List.length_nil]; omega) ?_
     exact ⟨hF_.set 6 rfl,hI⟩
    ·obtain rfl:=bD ‹_›
     refine dJ (b:=[41]) (by simp only [List.length_append,List.length_cons,List.length_nil]; omega) ?_
     exact ⟨hF_.set 7 rfl,hI⟩
    ·obtain rfl:=cq ‹_›
     exact ⟨hF_.set 8 rfl,hI⟩
    obtain ⟨rfl,rfl,rfl,rfl,rfl,rfl,rfl,rfl,rfl,_⟩:=hF_.all
    clear hF_ bR bQ bG bS bU bB bD cq ci
    exact done hI (by rw [<- h])
   ·cases h
  ·rename_i hc3
   have e:(decide (t.kind=3) && decide (0<t.kids.length))=false:=by
    rw [Bool.eq_false_iff,ne_eq,Bool.and_eq_true,decide_eq_true_eq,decide_eq_true_eq]; exact hc3
   rw [e]
   refine az (fun hb=>by cases hb) (fun _=>?_)
   refine ao hI 0 ac rfl rfl ?_
   refine Run.callPure JR IH hI (GS h0 hp h) fun w' hI=>?_
   exact done hI rfl
theorem Nj:∀ F f,f<F->F<=1000->zh f/\LL f/\Gx f/\rx f/\MA f/\Gf f
 | 0,f,h,_=>by omega
 | F+1,f,h,hF=>by
  have ih:=fun g (hg:g<f)=>Nj F g (by omega) (by omega)
  have hT:zh f:=Sb (fun g hg=>(ih g hg).2.1) (fun g hg=>(ih g hg).2.2.1) (fun g hg=>(ih g hg).2.2.2.2.1) (fun g hg=>(ih g hg).2.2.2.2.2)
  exact ⟨hT,QN (by omega) (fun g hg=>(ih g hg).1) (fun g hg=>(ih g hg).2.2.1),Qd fun g hg=>(ih g hg).1,LB fun g hg=>(ih g hg).1,QE (fun g hg=>(ih g hg).1) (fun g hg=>(ih g hg).2.2.2.1),OQ fun g hg=>(ih g hg).2.2.2.1⟩
theorem FE {f:Nat} (hf:f<=100):zh f:=(Nj (f+1) f (by omega) (by omega)).1
end
end Go.Proofs.YtfcbhfjomgopbaaGreat

/- Texts written: spec.l2Text and its kin, l4Text, FormatClause. -/
import Derived.Test.YtbocelianhcfmaaGreatDoorZEg6
import Derived.Test.YtbocelianhcfmaaGreatDoorZEg7
namespace Go.Proofs.YtbocelianhcfmaaGreatDoor
open Go Go.RowKit
theorem Jo:Tryz.prog.underlying Fu=some (.slice CX):=by kernel_rfl
section
variable {w:World} {S:ae}
attribute [local irreducible] Run CondV ar aI
theorem jv {t:T} {cs:List Value} (h:RdT S cs t):Pure Tryz.prog Iz [.agg cs.toArray] S (.bool (dz t)):=by
 intro w hI
 obtain ⟨kv,rfl,_,_,_,hk⟩:=RdT.iff.1 h
 obtain ⟨ka,kc,rfl,_⟩:=id hk
 refine vO.2 ?_
 dsimp only[vO,aE]
 refine be hI fun b1 w' hI=>?_
 refine ad hI 0 rfl aM aw rfl ?_
 by_cases h3:t.kind=3
 ·refine dx h3 ?_
  refine rpG ?_
  refine ad hI 0 rfl aH aC rfl ?_
  refine bf (b:=st [46]) ?_
  cases hn:decide (t.name=st [46])
  ·refine rpG ?_
   exact done hI (by rw [dz,hn,Bool.false_and,Bool.and_false])
  ·refine rpG ?_
   refine ad hI 0 rfl ak al rfl ?_
   refine dL ah ?_
   refine bh ?_
   refine rpG ?_
   refine done hI ?_
   rw [dz,hn,decide_eq_true h3,Bool.true_and,Bool.true_and]
   congr 1
   rw [decide_eq_decide]
   omega
 ·refine cQ h3 ?_
  refine rpG ?_
  exact done hI (by rw [dz,decide_eq_false h3,Bool.false_and])
theorem Aj {t:T} {cs:List Value} (h:RdT S cs t):Pure Tryz.prog Kk [.agg cs.toArray] S (.bool (ux t)):=by
 intro w hI
 obtain ⟨kv,rfl,_,_,_,hk⟩:=RdT.iff.1 h
 obtain ⟨ka,kc,rfl,_⟩:=id hk
 refine zG.2 ?_
 dsimp only[zG,aE]
 refine be hI fun b1 w' hI=>?_
 refine ad hI 0 rfl aM aw rfl ?_
 by_cases h3:t.kind=3
 ·refine dx h3 ?_
  refine rpG ?_
  refine ad hI 0 rfl aH aC rfl ?_
  refine bf (b:=st [91,93]) ?_
  cases hn:decide (t.name=st [91,93])
  ·refine rpG ?_
   exact done hI (by rw [ux,hn,Bool.false_and,Bool.and_false])
  ·refine rpG ?_
   refine ad hI 0 rfl ak al rfl ?_
   refine dL ah ?_
   refine bh ?_
   refine rpG ?_
   refine done hI ?_
   rw [ux,hn,decide_eq_true h3,Bool.true_and,Bool.true_and]
   congr 1
   rw [decide_eq_decide]
   omega
 ·refine cQ h3 ?_
  refine rpG ?_
  exact done hI (by rw [ux,decide_eq_false h3,Bool.false_and])
theorem mS {t:T} {cs:List Value} (h:RdT S cs t):Pure Tryz.prog Gs [.agg cs.toArray] S (.bool (de t)):=by
 intro w hI
 obtain ⟨kv,rfl,_,_,_,hk⟩:=RdT.iff.1 h
 obtain ⟨ka,kc,rfl,_⟩:=id hk
 refine tF.2 ?_
 dsimp only[tF,aE]
 refine be hI fun b1 w' hI=>?_
 refine ad hI 0 rfl aM aw rfl ?_
 by_cases h3:t.kind=3
 ·refine dx h3 ?_
  refine rpG ?_
  refine ad hI 0 rfl ak al rfl ?_
  refine dL ah ?_
  by_cases hn:t.kids.length=2
  ·refine dx (by omega) ?_
   refine rpG ?_
   refine ad hI 0 rfl aH aC rfl ?_
   refine Run.callPure dN dP hI (cX _ S) fun w' hI=>?_
   refine cY ?_
   refine rpG ?_
   exact done hI (by rw [de,decide_eq_true h3,decide_eq_true hn,Bool.true_and,Bool.true_and])
  ·refine cQ (by omega) ?_
   refine rpG ?_
   exact done hI (by rw [de,decide_eq_false hn,Bool.false_and,Bool.and_false])
 ·refine cQ h3 ?_
  refine rpG ?_
  exact done hI (by rw [de,decide_eq_false h3,Bool.false_and])
theorem n7 {t:T} {cs:List Value} (h:RdT S cs t):Pure Tryz.prog He [.agg cs.toArray] S (.bool (iS t)):=by
 intro w hI
 obtain ⟨kv,rfl,_,_,_,hk⟩:=RdT.iff.1 h
 obtain ⟨ka,kc,rfl,_⟩:=id hk
 refine wd.2 ?_
 dsimp only[wd,aE]
 refine be hI fun b1 w' hI=>?_
 refine ad hI 0 rfl aM aw rfl ?_
 by_cases h3:t.kind=3
 ·refine dx h3 ?_
  refine rpG ?_
  refine ad hI 0 rfl ak al rfl ?_
  refine dL ah ?_
  by_cases hn:t.kids.length=0
  ·refine dx (by omega) ?_
   refine rpG ?_
   refine ad hI 0 rfl aH aC rfl ?_
   refine Run.callPure dN dP hI (cX _ S) fun w' hI=>?_
   refine cY ?_
   refine rpG ?_
   exact done hI (by rw [iS,decide_eq_true h3,decide_eq_true hn,Bool.true_and,Bool.true_and])
  ·refine cQ (by omega) ?_
   refine rpG ?_
   exact done hI (by rw [iS,decide_eq_false hn,Bool.false_and,Bool.and_false])
 ·refine cQ h3 ?_
  refine rpG ?_
  exact done hI (by rw [iS,decide_eq_false h3,Bool.false_and])
theorem zI (n:Bs) (hn:n.length<=1000000):Pure Tryz.prog CZ [.string (st n)] S (.string (st (dh n))):=by
 intro w hI
 refine pD.2 ?_
 dsimp only[pD,aE]
 refine ⟨fun b w'=>b=.bool (decide (n=[105,115]) || decide (n=[109,111,100]))/\Inv w [] [] S w',?_,?_⟩
 ·refine rg (b:=[105,115]) ?_
  cases h5:decide (n=[105,115])
  ·refine rpG ?_
   refine rg (b:=[109,111,100]) ?_
   refine rpG ?_
   exact ⟨by rw [Bool.false_or],hI⟩
  ·refine rpG ?_
   exact ⟨by rw [Bool.true_or],hI⟩
 intro t8 _ _ _ _ _ w'
 rintro ⟨rfl,hI⟩
 refine av (fun hb=>?_) (fun hb=>?_)
 ·rw [Bool.or_eq_true,decide_eq_true_eq,decide_eq_true_eq] at hb
  refine bA (a:=[32]) (by simp; omega) ?_
  refine bA (b:=[32]) (by simp; omega) ?_
  exact done hI (by rw [dh,if_pos hb]; rfl)
 ·rw [Bool.or_eq_false_iff,decide_eq_false_iff_not,decide_eq_false_iff_not] at hb
  exact done hI (by rw [dh,if_neg (by rintro (h|h); exact hb.1 h; exact hb.2 h)])
theorem At (s:Bs) (h0:0<s.length):Pure Tryz.prog FV [.string (st s)] S (.bool (mu s)):=by
 intro w hI
 refine tp.2 ?_
 dsimp only[tp,aE]
 have e1:mu s=(sml s 0 || (dig s 0 || (upp s 0 || (sgn s 0 91 || sgn s 0 40)))):=rfl
 have eu:upp s 0=(decide (65<=s[0].toNat) && decide (s[0].toNat<=90)):=me h0 65 90
 have ea:sgn s 0 91=decide (s[0].toNat=91):=jE h0 91
 have eb:sgn s 0 40=decide (s[0].toNat=40):=jE h0 40
 refine Run.callPure tH ru hI (mH s 0 S) fun w' hI=>?_
 cases hs:sml s 0
 ·refine rpG ?_
  refine Run.callPure jg jh hI (fL s 0 S) fun w' hI=>?_
  cases hd:dig s 0
  ·refine rpG ?_
   refine dy (i:=0) aF h0 ?_
   rw [hs,hd,Bool.false_or,Bool.false_or] at e1
   by_cases h65:65<=s[0].toNat
   ·refine iO (by omega) ?_
    refine rpG ?_
    refine dy (i:=0) aF h0 ?_
    by_cases h90:s[0].toNat<=90
    ·refine uG (by omega) ?_
     refine rpG ?_
     exact done hI (by rw [e1,eu,decide_eq_true h65,decide_eq_true h90]; rfl)
    ·refine DJ (by omega) ?_
     refine rpG ?_
     refine dy (i:=0) aF h0 ?_
     by_cases h91:s[0].toNat=91
     ·refine dx (by omega) ?_
      refine rpG ?_
      exact done hI (by rw [e1,ea,decide_eq_true h91,Bool.true_or,Bool.or_true])
     ·refine cQ (by omega) ?_
      refine rpG ?_
      refine dy (i:=0) aF h0 ?_
      refine cQ (by omega) ?_
      refine rpG ?_
      exact done hI (by rw [e1,eu,ea,eb,decide_eq_false h90,decide_eq_false h91,decide_eq_false (show ¬ s[0].toNat=40 by omega),Bool.and_false]; rfl)
   ·refine l5 (by omega) ?_
    refine rpG ?_
    refine dy (i:=0) aF h0 ?_
    refine cQ (by omega) ?_
    refine rpG ?_
    refine dy (i:=0) aF h0 ?_
    by_cases h40:s[0].toNat=40
    ·refine dx (by omega) ?_
     refine rpG ?_
     exact done hI (by rw [e1,eb,decide_eq_true h40,Bool.or_true,Bool.or_true])
    ·refine cQ (by omega) ?_
     refine rpG ?_
     exact done hI (by rw [e1,eu,ea,eb,decide_eq_false h65,decide_eq_false (show ¬ s[0].toNat=91 by omega),decide_eq_false h40,Bool.false_and]; rfl)
  ·refine rpG ?_
   exact done hI (by rw [e1,hd,Bool.true_or,Bool.or_true])
 ·refine rpG ?_
  exact done hI (by rw [e1,hs,Bool.true_or])
theorem zY {n:Int} (h:0<=n/\n<=25):Pure Tryz.prog Dc [.int .i64 n] S (.string (st [UInt8.ofNat (65+n.toNat)])):=by
 intro w hI
 refine qF.2 ?_
 dsimp only[qF,aE]
 refine l7 ma eq (IntWalk.u8_in _ (by omega)) ?_
 refine O6 (c:=((65+n.toNat:Nat):Int)) ?_ ?_
 ·rw [IntWalk.u8_in _ (by omega)]; omega
 refine rt hI o8 Jo eq aF fun w' hI=>?_
 exact done hI rfl
theorem Ex:∀ (f n:Nat) (out r:Bs),r8 f n out=some r->out.length<r.length/\r.length<=out.length+f
 | 0,_,_,_,h=>by simp [r8] at h
 | f+1,n,out,r,h=>by
  rw [r8] at h
  split at h
  ·have:=Ex f _ _ _ h
   simp only [List.length_cons] at this
   omega
  ·simp only [Option.some.injEq] at h
   subst h
   simp only [List.length_cons]
   omega
theorem mm {f n:Nat} {r:Bs} (h:r8 f n []=some r) (hn:n<=100000) (hf:f<=1000):Pure Tryz.prog H1 [.int .i64 (n:Int)] S (.string (st r)):=by
 intro w hI
 refine vM.2 ?_
 dsimp only[vM,aE]
 refine dU (by omega) ?_
 refine av (fun hb=>by cases hb) (fun _=>?_)
 refine dU (by omega) ?_
 refine av (fun hb=>by cases hb) (fun _=>?_)
 refine ⟨fun a b w'=>∃ (f' m:Nat) (out:Bs),a=.int .i64 (m:Int)/\b=.string (st out)/\m<=100000/\out.length+f'<=1000/\r8 f' m out=some r/\Inv w [] [] S w',fun a _ _=>(intOf a).toNat,⟨f,n,[],rfl,rfl,hn,by simpa using hf,h,hI⟩,?_⟩
 intro t0 _ _ t3 _ _ _ _ _ _ _ _ _ _ w'
 rintro ⟨f',m,out,rfl,rfl,hm,hof,hd,hI⟩
 cases f' with
 | zero=>simp [r8] at hd
 | succ g=>
 rw [r8] at hd
 split at hd
 ·rename_i h9
  refine DG (by omega) ?_
  refine av (fun _=>?_) (fun hb=>by cases hb)
  refine H5 (a:=m) (b:=10) rfl rfl (by omega) ?_
  refine dM (a:=48) (b:=m % 10) rfl rfl (by omega) ?_
  refine l7 ma eq (IntWalk.u8_in _ (by omega)) ?_
  refine rt hI o8 Jo eq aF fun w' hI=>?_
  refine bA (by simp; omega) ?_
  refine HE (a:=m) (b:=10) rfl rfl (by omega) (by omega) ?_
  refine ⟨⟨g,m / 10,UInt8.ofNat (48+m % 10)::out,rfl,rfl,by omega,by simp only [List.length_cons]; omega,hd,hI⟩,?_⟩
  simp only [intOf,Int.toNat_natCast]
  omega
 ·rename_i h9
  refine gP (by omega) ?_
  refine av (fun hb=>by cases hb) (fun _=>?_)
  refine dM (a:=48) (b:=m) rfl rfl (by omega) ?_
  refine l7 ma eq (IntWalk.u8_in _ (by omega)) ?_
  refine rt hI o8 Jo eq aF fun w' hI=>?_
  refine bA (by simp; omega) ?_
  simp only [Option.some.injEq] at hd
  exact done hI (by rw [<- hd]; rfl)
theorem Gm {n:Int} {r:Bs} (h:AL n=some r) (hn:-999<=n/\n<=999):Pure Tryz.prog Kr [.int .i64 n] S (.string (st r)):=by
 intro w hI
 refine yS.2 ?_
 dsimp only[yS,aE]
 unfold AL at h
 split at h
 ·rename_i h0
  refine yl h0 ?_
  refine av (fun _=>?_) (fun hb=>by cases hb)
  refine Or (by omega) ?_
  obtain ⟨m,hm⟩:∃ m:Nat,-n=(m:Int):=⟨(-n).toNat,by omega⟩
  rw [hm] at h ⊢
  rw [Int.toNat_natCast,Option.map_eq_some_iff] at h
  obtain ⟨l,hl,rfl⟩:=h
  have:=Ex _ _ _ _ hl
  refine Run.callPure nl ne hI (mm hl (by omega) (by omega)) fun w' hI=>?_
  refine bA (a:=[45]) (by simp only [List.length_nil,List.length_cons] at this ⊢; omega) ?_
  exact done hI rfl
 ·rename_i h0
  refine dU h0 ?_
  refine av (fun hb=>by cases hb) (fun _=>?_)
  obtain ⟨m,rfl⟩:∃ m:Nat,n=(m:Int):=⟨n.toNat,by omega⟩
  rw [Int.toNat_natCast] at h
  refine Run.callPure nl ne hI (mm h (by omega) (by omega)) fun w' hI=>?_
  exact done hI rfl
theorem DE {t:T} {cs:List Value} {x:Bs} (h:RdT S cs t) (hp:dz t=false) (hx:pH t=some x):Pure Tryz.prog Ij [.agg cs.toArray] S (.string (st x)):=by
 intro w hI
 have h0:=h
 obtain ⟨kv,rfl,_,_,_,hk⟩:=RdT.iff.1 h
 obtain ⟨ka,kc,rfl,_⟩:=id hk
 refine vQ.2 ?_
 dsimp only[vQ,aE]
 unfold pH at hx
 refine be hI fun b1 w' hI=>?_
 refine ad hI 0 rfl aM aw rfl ?_
 split at hx
 ·rename_i h1
  refine dx h1 ?_
  refine av (fun _=>?_) (fun hb=>by cases hb)
  refine ad hI 0 rfl aR aw rfl ?_
  split at hx
  ·rename_i h2
   refine Run.callPure Bd Bm hI (zY h2) fun w' hI=>?_
   simp only [Option.some.injEq] at hx
   exact done hI (by rw [<- hx])
  ·cases hx
 ·rename_i h1
  refine cQ h1 ?_
  refine av (fun hb=>by cases hb) (fun _=>?_)
  split at hx
  ·rename_i h2
   refine dx h2 ?_
   refine av (fun _=>?_) (fun hb=>by cases hb)
   refine ad hI 0 rfl aR aw rfl ?_
   split at hx
   ·rename_i h3
    refine Run.callPure Ip IU hI (Gm hx h3) fun w' hI=>?_
    exact done hI rfl
   ·cases hx
  ·rename_i h2
   refine cQ h2 ?_
   refine av (fun hb=>by cases hb) (fun _=>?_)
   split at hx
   ·rename_i h3
    simp only [Option.some.injEq] at hx
    refine ag hI 0 ac rfl rfl ?_
    refine Run.callPure oh mY hI (jv h0) fun w' hI=>?_
    rw [hp]
    refine av (fun hb=>by cases hb) (fun _=>?_)
    refine ad hI 0 rfl aH aC rfl ?_
    refine ⟨fun a b w'=>a=.int .i64 0/\b=.string t.name/\Inv w [] [.blk b1 (.cells #[.int .i64 t.kind,.int .i64 t.n,.string t.name,.slice ka t.kids.length kc] ab)] S w',fun _ _ _=>0,⟨rfl,rfl,hI⟩,?_⟩
    intro t4 _ _ _ _ _ _ _ _ _ _ _ _ t3 _ _ _ _ _ _ _ _ _ w'
    rintro ⟨rfl,rfl,hI⟩
    refine ad hI 0 rfl ak al rfl ?_
    refine dL ah ?_
    refine dU (by omega) ?_
    refine av (fun hb=>by cases hb) (fun _=>?_)
    refine ⟨fun b w'=>b=.string t.name/\Inv w [] [.blk b1 (.cells #[.int .i64 t.kind,.int .i64 t.n,.string t.name,.slice ka t.kids.length kc] ab)] S w',?_,?_⟩
    ·refine ad hI 0 rfl ak al rfl ?_
     refine dL ah ?_
     refine gP (by omega) ?_
     refine av (fun hb=>by cases hb) (fun _=>?_)
     exact ⟨rfl,hI⟩
    intro t3 _ _ _ _ _ _ w'
    rintro ⟨rfl,hI⟩
    exact done hI (by rw [<- hx])
   ·cases hx
end
theorem Cj:∀ (f:Nat) (l:List T) (out x:Bs),jN f l out=some x->out.length<=x.length
 | 0,_,_,_,h=>by simp [jN] at h
 | _+1,[],out,x,h=>by simp [jN] at h; subst h; exact Nat.le_refl _
 | f+1,t::l,out,x,h=>by
  rw [jN] at h
  split at h
  ·cases h
  ·have:=Cj f _ _ _ h
   simp only [List.length_append] at this
   omega
def lenOf:Value->Nat
 | .slice _ n _=>n
 | _=>0
def wN (f:Nat):Prop:=∀ (t:T) (x:Bs) (S:ae) (cs:List Value),nV f t=some x->x.length<=1000000->RdT S cs t->Pure Tryz.prog yo [.agg cs.toArray] S (.string (st x))
def HR (f:Nat):Prop:=∀ (t:T) (x:Bs) (S:ae) (cs:List Value),un f t []=some x->x.length<=1000000->RdT S cs t->Pure Tryz.prog GY [.agg cs.toArray] S (.string (st x))
def Dy (f:Nat):Prop:=∀ (ts:List T) (x:Bs) (S:ae) (u:Value),jN f ts []=some x->x.length<=1000000->RdSl S 4 (RdT S) u ts->Pure Tryz.prog Hx [u] S (.string (st x))
def oV (f:Nat):Prop:=∀ (t:T) (l:Int) (x:Bs) (S:ae) (cs:List Value),jQ f t l=some x->x.length<=1000000->RdT S cs t->Pure Tryz.prog AB [.agg cs.toArray,.int .i64 l] S (.string (st x))
def Ix (f:Nat):Prop:=∀ (t:T) (l:Int) (x:Bs) (S:ae) (cs:List Value),BP f t l=some x->x.length<=1000000->RdT S cs t->Pure Tryz.prog Ic [.agg cs.toArray,.int .i64 l] S (.string (st x))
def D6 (f:Nat):Prop:=∀ (t:T) (l:Int) (x:Bs) (S:ae) (cs:List Value),vt f t l=some x->x.length<=1000000->RdT S cs t->Pure Tryz.prog FN [.agg cs.toArray,.int .i64 l] S (.string (st x))
section
attribute [local irreducible] Run CondV ar aI
theorem Ob {f:Nat} (ih:∀ g,g<f->wN g):Dy f:=by
 intro ts x S u h hx hu w hI
 refine wm.2 ?_
 dsimp only[wm,aE]
 refine ⟨fun a b w'=>∃ (f' j:Nat) (out acc:Bs),f'<=f/\j<=ts.length/\a=.int .i64 (j:Int)/\b=.string (st out)/\acc=out++(if 0<j/\j<ts.length then [44] else [])/\jN f' (ts.drop j) acc=some x/\Inv w [] [] S w',
  fun a _ _=>ts.length - (intOf a).toNat,⟨f,0,[],[],Nat.le_refl _,Nat.zero_le _,rfl,rfl,by simp,h,hI⟩,?_⟩
 intro t4 _ _ _ _ _ _ _ _ _ t3 _ _ _ _ _ _ _ _ w'
 rintro ⟨f',j,out,acc,hf',hj,rfl,rfl,hacc,ha,hI⟩
 cases f' with
 | zero=>simp [jN] at ha
 | succ g=>
 refine aK hu ah ?_
 refine bD ?_
 refine aN (fun hji=>?_) (fun hji=>?_)
 ·have hj':j<ts.length:=by omega
  rw [List.drop_eq_getElem_cons hj',jN] at ha
  split at ha
  ·cases ha
  rename_i y hy
  have hlen:=Cj _ _ _ _ ha
  simp only [List.length_append] at hlen
  refine ⟨fun b w'=>b=.string (st acc)/\Inv w [] [] S w',?_,?_⟩
  ·refine cY ?_
   refine aN (fun h0=>?_) (fun h0=>?_)
   ·rw [if_pos (by omega)] at hacc
    refine bA (b:=[44]) (by rw [hacc,List.length_append] at hlen; simp only [List.length_cons,List.length_nil] at hlen ⊢; omega) ?_
    exact ⟨by rw [hacc],hI⟩
   ·rw [if_neg (by omega),List.append_nil] at hacc
    exact ⟨by rw [hacc],hI⟩
  intro t3 _ _ _ _ w'
  rintro ⟨rfl,hI⟩
  refine bP hI hu ah ac hj' (fun _ _=>RdT.length) fun cs hcs=>?_
  refine Run.callPure eF ey hI (ih g (by omega) _ y S cs hy (by omega) hcs) fun w' hI=>?_
  refine bA (by omega) ?_
  refine bm (by have:=hu.le; simp only [maxLen] at this; omega) ?_
  refine ⟨⟨g,j+1,acc++y,_,by omega,hj',rfl,rfl,rfl,?_,hI⟩,by simp only [intOf,Int.toNat_natCast]; omega⟩
  have e:(if ts.drop (j+1)=[] then [] else [44]:Bs)=if 0<j+1/\j+1<ts.length then [44] else []:=by
   by_cases h1:j+1<ts.length
   ·rw [if_neg (fun h2=>by rw [List.drop_eq_nil_iff] at h2; omega),if_pos (by omega)]
   ·rw [if_pos (List.drop_eq_nil_of_le (by omega)),if_neg (by omega)]
  rw [<- e]
  exact ha
 ·have:j=ts.length:=by omega
  subst this
  rw [List.drop_length,jN] at ha
  simp only [Option.some.injEq] at ha
  rw [if_neg (by omega),List.append_nil] at hacc
  exact done hI (by rw [<- ha,hacc])
theorem Ie {f:Nat} (ih:∀ g,g<f->wN g):oV f:=by
 intro t l x S cs h hx hc w hI
 cases f with
 | zero=>simp [jQ] at h
 | succ g=>
 rw [jQ] at h
 split at h
 ·cases h
 rename_i y hy
 simp only [Option.some.injEq] at h
 have h0:=hc
 obtain ⟨kv,rfl,_,_,_,hk⟩:=RdT.iff.1 hc
 obtain ⟨ka,kc,rfl,_⟩:=id hk
 have hyx:y.length<=1000000/\y.length+2<=9000000:=by
  have:y.length<=x.length:=by
   rw [<- h]; split
   ·simp; omega
   ·omega
  omega
 refine oL.2 ?_
 dsimp only[oL,aY]
 refine be hI fun b1 w' hI=>?_
 refine ⟨fun b w'=>b=.bool (de t && decide (l<aO t.name))/\Inv w [] [.blk b1 (.cells #[.int .i64 t.kind,.int .i64 t.n,.string t.name,.slice ka t.kids.length kc] ab)] S w',?_,?_⟩
 ·refine ag hI 0 ac rfl rfl ?_
  refine Run.callPure rN tQ hI (mS h0) fun w' hI=>?_
  cases hf:de t
  ·refine rpG ?_
   exact ⟨by rw [Bool.false_and],hI⟩
  ·refine rpG ?_
   refine ad hI 0 rfl aH aC rfl ?_
   refine Run.callPure dN dP hI (cX _ S) fun w' hI=>?_
   refine cY ?_
   refine rpG ?_
   exact ⟨by rw [Bool.true_and],hI⟩
 intro t13 _ _ _ _ _ _ _ _ w'
 rintro ⟨rfl,hI⟩
 refine av (fun hb=>?_) (fun hb=>?_)
 ·rw [Bool.and_eq_true,decide_eq_true_eq] at hb
  rw [if_pos hb] at h
  refine ag hI 0 ac rfl rfl ?_
  refine Run.callPure eF ey hI (ih g (by omega) t y S _ hy hyx.1 h0) fun w' hI=>?_
  refine bA (a:=[40]) (by simp only [List.length_cons,List.length_nil]; omega) ?_
  refine bA (b:=[41]) (by simp only [List.length_append,List.length_cons,List.length_nil]; omega) ?_
  exact done hI (by rw [<- h])
 ·rw [if_neg (fun hh=>by rw [Bool.and_eq_false_iff,decide_eq_false_iff_not] at hb; rcases hb with hb|hb; rw [hh.1] at hb; cases hb; exact hb hh.2)] at h
  refine ag hI 0 ac rfl rfl ?_
  refine Run.callPure eF ey hI (ih g (by omega) t y S _ hy hyx.1 h0) fun w' hI=>?_
  exact done hI (by rw [<- h])
theorem Oj {f:Nat} (ih:∀ g,g<f->wN g) (ihB:∀ g,g<f->oV g):Ix f:=by
 intro t l x S cs h hx hc w hI
 cases f with
 | zero=>simp [BP] at h
 | succ g=>
 rw [BP] at h
 have h0:=hc
 obtain ⟨kv,rfl,_,_,_,hk⟩:=RdT.iff.1 hc
 obtain ⟨ka,kc,rfl,_⟩:=id hk
 refine vU.2 ?_
 dsimp only[vU,aY]
 refine be hI fun b1 w' hI=>?_
 refine ag hI 0 ac rfl rfl ?_
 refine Run.callPure wU wW hI (n7 h0) fun w' hI=>?_
 split at h
 ·rename_i hs
  split at h
  ·cases h
  rename_i y hy
  simp only [Option.some.injEq] at h
  have hyx:y.length+2=x.length:=by rw [<- h]; simp only [List.length_append,List.length_cons,List.length_nil]; omega
  rw [hs]
  refine av (fun _=>?_) (fun hb=>by cases hb)
  refine ag hI 0 ac rfl rfl ?_
  refine Run.callPure eF ey hI (ih g (by omega) t y S _ hy (by omega) h0) fun w' hI=>?_
  refine bA (a:=[40]) (by simp only [List.length_cons,List.length_nil]; omega) ?_
  refine bA (b:=[41]) (by simp only [List.length_append,List.length_cons,List.length_nil]; omega) ?_
  exact done hI (by rw [<- h])
 ·rename_i hs
  rw [Bool.eq_false_iff.2 hs]
  refine av (fun hb=>by cases hb) (fun _=>?_)
  refine ag hI 0 ac rfl rfl ?_
  refine Run.callPure nj m8 hI (ihB g (by omega) t l x S _ h hx h0) fun w' hI=>?_
  exact done hI rfl
theorem Lw {f:Nat} (ihB:∀ g,g<f->oV g):D6 f:=by
 intro t l x S cs h hx hc w hI
 cases f with
 | zero=>simp [vt] at h
 | succ g=>
 rw [vt] at h
 split at h
 ·cases h
 rename_i y hy
 split at h
 ·cases h
 rename_i hne
 simp only [Option.some.injEq] at h
 have hy0:0<y.length:=by
  cases y with
  | nil=>exact absurd rfl hne
  | cons a l=>simp
 have hyx:y.length<=1000000:=by
  have:y.length<=x.length:=by
   rw [<- h]; split
   ·simp; omega
   ·omega
  omega
 have h0:=hc
 obtain ⟨kv,rfl,_,_,_,hk⟩:=RdT.iff.1 hc
 obtain ⟨ka,kc,rfl,_⟩:=id hk
 refine rr.2 ?_
 dsimp only[rr,aY]
 refine be hI fun b1 w' hI=>?_
 refine ag hI 0 ac rfl rfl ?_
 refine Run.callPure nj m8 hI (ihB g (by omega) t l y S _ hy hyx h0) fun w' hI=>?_
 refine ⟨fun b w'=>b=.bool (iS t || !mu y)/\Inv w [] [.blk b1 (.cells #[.int .i64 t.kind,.int .i64 t.n,.string t.name,.slice ka t.kids.length kc] ab)] S w',?_,?_⟩
 ·refine ag hI 0 ac rfl rfl ?_
  refine Run.callPure wU wW hI (n7 h0) fun w' hI=>?_
  cases hs:iS t
  ·refine rpG ?_
   refine Run.callPure DF CB hI (At y hy0) fun w' hI=>?_
   refine bW ?_
   refine rpG ?_
   exact ⟨by rw [Bool.false_or],hI⟩
  ·refine rpG ?_
   exact ⟨by rw [Bool.true_or],hI⟩
 intro t15 _ _ _ _ _ _ w'
 rintro ⟨rfl,hI⟩
 refine av (fun hb=>?_) (fun hb=>?_)
 ·rw [Bool.or_eq_true,Bool.not_eq_true'] at hb
  rw [if_pos hb] at h
  refine bA (a:=[40]) (by simp only [List.length_cons,List.length_nil]; omega) ?_
  refine bA (b:=[41]) (by simp only [List.length_append,List.length_cons,List.length_nil]; omega) ?_
  exact done hI (by rw [<- h])
 ·rw [if_neg (fun hh=>by rw [<- Bool.not_eq_true',<- Bool.or_eq_true,hb] at hh; cases hh)] at h
  exact done hI (by rw [<- h])
theorem Nz {f:Nat} (hf:f<=100000) (ih:∀ g,g<f->wN g) (ihA:∀ g,g<f->Dy g):HR f:=by
 intro t x S cs h hx hc w hI
 obtain ⟨kv,rfl,_,_,_,hk⟩:=RdT.iff.1 hc
 refine vS.2 ?_
 dsimp only[vS,aE]
 refine be hI fun b1 w' hI=>?_
 refine dG hI bj fun v0 w' hI=>?_
 refine ⟨fun a w'=>∃ (f':Nat) (t':T) (items:List T) (ds:List Value) (css:List (List Value)),f'+items.length=f/\un f' t' items=some x/\RdT S ds t'/\Rows 4 (RdT S) css items/\(∃ p m,a=.slice p items.length m)/\Inv w [] [.blk b1 (.cells ds.toArray ab),aP a ab 4 css] S w',
  fun a _=>f+1 - lenOf a,⟨f,t,[],_,[],by simp,h,hc,Rows.nil _ _,?_,hI⟩,?_⟩
 ·have hI2:Inv w [] ([Item.blk b1 (.cells #[.int .i64 t.kind,.int .i64 t.n,.string t.name,kv] ab)]++[aP v0 ab 4 []]) S w':=hI
  obtain ⟨S1,_,hrd,_⟩:=Inv.lendExt hI2
  obtain ⟨p,m,e,_⟩:=RowRd.rows (Rows.nil 4 (RdT S)) hrd
  exact ⟨p,m,e⟩
 clear h hc hk hI
 intro _ _ _ _ t3 _ _ _ _ _ _ _ _ _ w'
 rintro ⟨f',t',items,ds,css,hfl,hl,hd,hR,⟨p,m,rfl⟩,hI⟩
 have hd0:=hd
 obtain ⟨kd,rfl,_,_,_,hk⟩:=RdT.iff.1 hd
 have hcl:=hR.hc
 cases f' with
 | zero=>simp [un] at hl
 | succ g=>
 rw [un] at hl
 refine ag hI 0 ac rfl rfl ?_
 refine Run.callPure oh mY hI (jv hd0) fun w' hI=>?_
 split at hl
 ·rename_i hp
  split at hl
  ·rename_i a b hab
   rw [hp]
   refine av (fun _=>?_) (fun hb=>by cases hb)
   rw [hab] at hk
   refine ad hI 0 rfl ak al rfl ?_
   refine bP (i:=0) hI hk ah ac (by simp) (fun _ _=>RdT.length) fun es hes=>?_
   rw [List.getElem_cons_zero] at hes
   refine fU (css:=css) hI 1 es bj (by omega) (by omega) rfl hes.length hes.one (by omega) (by omega) fun v' w' hI=>?_
   refine ad hI 0 rfl ak al rfl ?_
   refine bP (i:=1) hI hk ah ac (by simp) (fun _ _=>RdT.length) fun gs hgs=>?_
   rw [List.getElem_cons_succ,List.getElem_cons_zero] at hgs
   have hg1:=hgs.length
   refine aj hI 0 rfl ac (by simpa using hg1) rfl (by simpa using hgs.one) fun w' hI=>?_
   have hR2:=hR.snoc hes hes.length
   have hI2:Inv w [] ([Item.blk b1 (.cells gs.toArray ab)]++[aP v' ab 4 (css++[es])]) S w':=hI
   obtain ⟨S1,hE1,hrd,_⟩:=Inv.lendExt hI2
   obtain ⟨p',m',e',_⟩:=RowRd.rows hR2 hrd
   refine ⟨⟨g,b,items++[a],gs,css++[es],by rw [List.length_append]; simp only [List.length_cons,List.length_nil]; omega,hl,hgs,hR2,⟨p',m',e'⟩,hI⟩,?_⟩
   rw [e']
   simp only [lenOf,List.length_append,List.length_cons,List.length_nil]
   omega
  ·cases hl
 ·rename_i hp
  rw [Bool.eq_false_iff.2 hp]
  refine av (fun hb=>by cases hb) (fun _=>?_)
  split at hl
  ·cases hl
  rename_i y hy
  refine ag hI 0 ac rfl rfl ?_
  refine Run.callPure Iw HX hI (Aj hd0) fun w' hI=>?_
  have hI2:Inv w [] ([Item.blk b1 (.cells #[.int .i64 t'.kind,.int .i64 t'.n,.string t'.name,kd] ab)]++[aP (.slice p items.length m) ab 4 css]) S w':=hI
  obtain ⟨S1,hE1,hrd,hI⟩:=Inv.lendExt hI2
  have hrs:=RowRd.rows (hR.monoR fun _ _ h=>RdT.mono hE1.1 h) hrd
  have hd1:=RdT.mono hE1.1 hd0
  split at hl
  ·rename_i hn
   simp only [Option.some.injEq] at hl
   have hyx:y.length+2=x.length:=by rw [<- hl]; simp only [List.length_append,List.length_cons,List.length_nil]; omega
   rw [hn]
   refine av (fun _=>?_) (fun hb=>by cases hb)
   refine Run.callPure oR na hI (ihA g (by omega) items y S1 _ hy (by omega) hrs) fun w' hI=>?_
   refine bA (a:=[91]) (by simp only [List.length_cons,List.length_nil]; omega) ?_
   refine bA (b:=[93]) (by simp only [List.length_append,List.length_cons,List.length_nil]; omega) ?_
   exact sG hI hE1.1 (by rw [<- hl])
  ·rename_i hn
   split at hl
   ·cases hl
   rename_i z hz
   simp only [Option.some.injEq] at hl
   have hyx:y.length+z.length+3=x.length:=by rw [<- hl]; simp only [List.length_append,List.length_cons,List.length_nil]; omega
   rw [Bool.eq_false_iff.2 hn]
   refine av (fun hb=>by cases hb) (fun _=>?_)
   refine ⟨fun D x2 iM ia iF fC kl lf iT lY w_=>Fx D 0 [lY=.slice p items.length m,iT=.string (st y),lf=.string (st ([91]++y)),kl=.string (st ([91]++y++[124])),fC=.agg #[.int .i64 t'.kind,.int .i64 t'.n,.string t'.name,kd],iF=.string (st z),ia=.string (st ([91]++y++[124]++z)),iM=.string (st ([91]++y++[124]++z++[93])),x2=.string (st ([91]++y++[124]++z++[93]))]/\Inv w [] [.blk b1 (.cells #[.int .i64 t'.kind,.int .i64 t'.n,.string t'.name,kd] ab)] S1 w_,⟨Fx.nil _ _,hI.draw⟩,⟨?_,?_,?_,?_,?_,?_,?_,?_,?_,trivial⟩,?_⟩
   all_goals (intro D bw; intros; rename_i x2 iM ia iF fC kl lf iT lY w_ hA_; have hF_:=hA_.1; obtain ⟨⟨bQ,bS,bU,bR,bY,bZ,bO,cG,cS,_⟩,hI⟩:=hA_)
   ·exact ⟨hF_.set 0 rfl,hI⟩
   ·obtain rfl:=bQ ‹_›
    refine Run.callPure oR na hI (ihA g (by omega) items y S1 _ hy (by omega) hrs) fun w_ hI=>?_
    exact ⟨hF_.set 1 rfl,hI⟩
   ·obtain rfl:=bS ‹_›
    refine bA (a:=[91]) (by simp only [List.length_cons,List.length_nil]; omega) ?_
    exact ⟨hF_.set 2 rfl,hI⟩
   ·obtain rfl:=bU ‹_›
    refine bA (b:=[124]) (by simp only [List.length_append,List.length_cons,List.length_nil]; omega) ?_
    exact ⟨hF_.set 3 rfl,hI⟩
   ·refine ag hI 0 ac rfl rfl ?_
    exact ⟨hF_.set 4 rfl,hI⟩
   ·obtain rfl:=bY ‹_›
    refine Run.callPure eF ey hI (ih g (by omega) t' z S1 _ hz (by omega) hd1) fun w_ hI=>?_
    exact ⟨hF_.set 5 rfl,hI⟩
   ·obtain rfl:=bR ‹_›
    obtain rfl:=bZ ‹_›
    refine bA (by simp only [List.length_append,List.length_cons,List.length_nil]; omega) ?_
    exact ⟨hF_.set 6 rfl,hI⟩
   ·obtain rfl:=bO ‹_›
    refine bA (b:=[93]) (by simp only [List.length_append,List.length_cons,List.length_nil]; omega) ?_
    exact ⟨hF_.set 7 rfl,hI⟩
   ·obtain rfl:=cG ‹_›
    exact ⟨hF_.set 8 rfl,hI⟩
   obtain ⟨rfl,rfl,rfl,rfl,rfl,rfl,rfl,rfl,rfl,_⟩:=hF_.all
   clear hF_ bQ bS bU bR bY bZ bO cG cS
   exact sG hI hE1.1 (by rw [<- hl])
theorem OZ {f:Nat} (ihL:∀ g,g<f->HR g) (ihA:∀ g,g<f->Dy g) (ihF:∀ g,g<f->Ix g) (ihR:∀ g,g<f->D6 g):wN f:=by
 intro t x S cs h hx hc w hI
 cases f with
 | zero=>simp [nV] at h
 | succ g=>
 rw [nV] at h
 have h0:=hc
 obtain ⟨kv,rfl,_,_,_,hk⟩:=RdT.iff.1 hc
 refine wG.2 ?_
 dsimp only[wG,aE]
 refine be hI fun b1 w' hI=>?_
 obtain ⟨B1,hB1⟩:∃ B1,B1=Item.blk b1 (.cells #[.int .i64 t.kind,.int .i64 t.n,.string t.name,kv] ab):=⟨_,rfl⟩
 refine ag hI 0 ac rfl rfl ?_
 refine Run.callPure oh mY hI (jv h0) fun w' hI=>?_
 split at h
 ·rename_i hp
  rw [hp]
  refine av (fun _=>?_) (fun hb=>by cases hb)
  refine ag hI 0 ac rfl rfl ?_
  refine Run.callPure Fo Fa hI (ihL g (by omega) t x S _ h hx h0) fun w' hI=>?_
  exact done hI rfl
 rename_i hp
 have hp:=Bool.eq_false_iff.2 hp
 rw [hp]
 refine av (fun hb=>by cases hb) (fun _=>?_)
 refine ag hI 0 ac rfl rfl ?_
 refine Run.callPure rN tQ hI (mS h0) fun w' hI=>?_
 split at h
 ·rename_i hf
  rw [hf]
  refine av (fun _=>?_) (fun hb=>by cases hb)
  split at h
  ·rename_i a b hab
   obtain ⟨lv,hlv⟩:∃ lv,lv=aO t.name:=⟨_,rfl⟩
   rw [<- hlv] at h
   have hlr:1<=lv/\lv<=3:=by
    have h1:0<aO t.name:=by
     unfold de at hf
     simp only [Bool.and_eq_true,decide_eq_true_eq] at hf
     exact hf.2.2
    have h2:aO t.name<=3:=by
     unfold aO
     split
     ·omega
     ·split
      ·omega
      ·split <;> omega
    omega
   split at h
   ·rename_i y z hy hz
    simp only [Option.some.injEq] at h
    have hlen:y.length+(dh (bs t.name)).length+z.length=x.length:=by rw [<- h]; simp only [List.length_append]
    have hsp:(bs t.name).length<=(dh (bs t.name)).length:=by
     unfold dh
     split
     ·simp; omega
     ·omega
    rw [hab] at hk
    obtain ⟨b2,o2,cap2,c2,E2,fz2,rfl,hS,hRa⟩:=hk.at_ (i:=0) (by simp)
    obtain ⟨b2',o2',cap2',c2',E2',fz2',hsl,hS',hRb⟩:=hk.at_ (i:=1) (by simp)
    cases hsl
    rw [hS] at hS'
    cases hS'
    rw [List.getElem_cons_zero] at hRa
    rw [List.getElem_cons_succ,List.getElem_cons_zero] at hRb
    refine ad hI 0 rfl aH aC rfl ?_
    refine Run.callPure dN dP hI (cX _ S) fun w' hI=>?_
    rw [<- hlv]
    have hI:Inv w [] [B1] S w':=by rw [hB1]; exact hI
    refine ⟨fun v w'=>v=.int .i64 (if lv=3 then 2 else lv)/\Inv w [] [B1] S w',?_,?_⟩
    ·refine bh ?_
     refine aN (fun h3=>⟨by rw [if_pos h3],hI⟩) (fun h3=>⟨by rw [if_neg h3],hI⟩)
    intro t4 _ _ w'
    rintro ⟨rfl,hI⟩
    subst hB1
    skip
    refine ⟨fun D x2 gU iI nC jT mP iM ia iF fC kl lf iT lY ni mD kX i6 lQ w_=>Fx D 0 [lQ=.pointer (some ⟨b1,3,none⟩),i6=.slice (some ⟨b2,o2,none⟩) [a,b].length cap2,kX=.pointer (some ⟨b2,o2+0 * 4,none⟩),mD=.agg (aL c2 (o2+0 * 4) 4).toArray,ni=.int .i64 (if lv=3 then 2 else lv),lY=.string (st y),iT=.pointer (some ⟨b1,2,none⟩),lf=.string t.name,kl=.string (st (dh (bs t.name))),fC=.string (st (y++dh (bs t.name))),iF=.pointer (some ⟨b1,3,none⟩),ia=.slice (some ⟨b2,o2,none⟩) [a,b].length cap2,iM=.pointer (some ⟨b2,o2+1 * 4,none⟩),mP=.agg (aL c2 (o2+1 * 4) 4).toArray,jT=.int .i64 lv,nC=.int .i64 (lv - 1),iI=.string (st z),gU=.string (st (y++dh (bs t.name)++z)),x2=.string (st (y++dh (bs t.name)++z))]/\Inv w [] [.blk b1 (.cells #[.int .i64 t.kind,.int .i64 t.n,.string t.name,.slice (some ⟨b2,o2,none⟩) [a,b].length cap2] ab)] S w_,⟨Fx.nil _ _,hI.draw⟩,⟨?_,?_,?_,?_,?_,?_,?_,?_,?_,?_,?_,?_,?_,?_,?_,?_,?_,?_,?_,trivial⟩,?_⟩
    all_goals (intro D bw; intros; rename_i x2 gU iI nC jT mP iM ia iF fC kl lf iT lY ni mD kX i6 lQ w_ hA_; have hF_:=hA_.1; obtain ⟨⟨bQ,bS,bU,bR,bY,bZ,bO,cG,cS,cT,bL,co,cO,dJ,dT,dY,ew,dK,fy,_⟩,hI⟩:=hA_)
    ·refine ao ak ?_
     exact ⟨hF_.set 0 rfl,hI⟩
    ·obtain rfl:=bQ ‹_›
     refine ax hI 0 al rfl rfl ?_
     exact ⟨hF_.set 1 rfl,hI⟩
    ·obtain rfl:=bS ‹_›
     refine ay (i:=0) ah (by simp) ?_
     exact ⟨hF_.set 2 rfl,hI⟩
    ·obtain rfl:=bU ‹_›
     refine ci ac hRa.length (fun j v hj=>by rw [hI.cellS hS]; exact aD rfl j v hj) ?_
     exact ⟨hF_.set 3 rfl,hI⟩
    ·exact ⟨hF_.set 4 rfl,hI⟩
    ·obtain rfl:=bR ‹_›
     obtain rfl:=bY ‹_›
     refine Run.callPure Fj E4 hI (ihF g (by omega) a _ y S _ hy (by omega) hRa) fun w_ hI=>?_
     exact ⟨hF_.set 5 rfl,hI⟩
    ·refine ao aH ?_
     exact ⟨hF_.set 6 rfl,hI⟩
    ·obtain rfl:=bO ‹_›
     refine ax hI 0 aC rfl rfl ?_
     exact ⟨hF_.set 7 rfl,hI⟩
    ·obtain rfl:=cG ‹_›
     refine Run.callPure Aq AE hI (zI (bs t.name) (by omega)) fun w_ hI=>?_
     exact ⟨hF_.set 8 rfl,hI⟩
    ·obtain rfl:=bZ ‹_›
     obtain rfl:=cS ‹_›
     refine bA (by omega) ?_
     exact ⟨hF_.set 9 rfl,hI⟩
    ·refine ao ak ?_
     exact ⟨hF_.set 10 rfl,hI⟩
    ·obtain rfl:=bL ‹_›
     refine ax hI 0 al rfl rfl ?_
     exact ⟨hF_.set 11 rfl,hI⟩
    ·obtain rfl:=co ‹_›
     refine ay (i:=1) ah (by simp) ?_
     exact ⟨hF_.set 12 rfl,hI⟩
    ·obtain rfl:=cO ‹_›
     refine ci ac hRb.length (fun j v hj=>by rw [hI.cellS hS]; exact aD rfl j v hj) ?_
     exact ⟨hF_.set 13 rfl,hI⟩
    ·exact ⟨hF_.set 14 rfl,hI⟩
    ·obtain rfl:=dT ‹_›
     refine gy (by omega) ?_
     exact ⟨hF_.set 15 rfl,hI⟩
    ·obtain rfl:=dJ ‹_›
     obtain rfl:=dY ‹_›
     refine Run.callPure C8 Cy hI (ihR g (by omega) b _ z S _ hz (by omega) hRb) fun w_ hI=>?_
     exact ⟨hF_.set 16 rfl,hI⟩
    ·obtain rfl:=cT ‹_›
     obtain rfl:=ew ‹_›
     refine bA (by rw [List.length_append]; omega) ?_
     exact ⟨hF_.set 17 rfl,hI⟩
    ·obtain rfl:=dK ‹_›
     exact ⟨hF_.set 18 rfl,hI⟩
    obtain ⟨rfl,rfl,rfl,rfl,rfl,rfl,rfl,rfl,rfl,rfl,rfl,rfl,rfl,rfl,rfl,rfl,rfl,rfl,rfl,_⟩:=hF_.all
    clear hF_ bQ bS bU bR bY bZ bO cG cS cT bL co cO dJ dT dY ew dK fy
    exact done hI (by rw [<- h])
   ·cases h
  ·cases h
 ·rename_i hf
  rw [Bool.eq_false_iff.2 hf]
  refine av (fun hb=>by cases hb) (fun _=>?_)
  obtain ⟨ka,kc,rfl,_⟩:=id hk
  refine ⟨fun v w'=>v=.bool (decide (t.kind=3) && decide (0<t.kids.length))/\Inv w [] [B1] S w',?_,?_⟩
  ·refine ad hI 0 rfl aM aw rfl ?_
   by_cases h3:t.kind=3
   ·refine dx h3 ?_
    refine rpG ?_
    refine ad hI 0 rfl ak al rfl ?_
    refine dL ah ?_
    refine cY ?_
    refine rpG ?_
    refine ⟨?_,by rw [hB1]; exact hI⟩
    rw [decide_eq_true h3,Bool.true_and]
    congr 1
    rw [decide_eq_decide]
    omega
   ·refine cQ h3 ?_
    refine rpG ?_
    exact ⟨by rw [decide_eq_false h3,Bool.false_and],by rw [hB1]; exact hI⟩
  intro t37 _ _ _ _ _ _ _ _ _ w'
  rintro ⟨rfl,hI⟩
  subst hB1
  split at h
  ·rename_i hc3
   rw [decide_eq_true hc3.1,decide_eq_true hc3.2]
   refine av (fun _=>?_) (fun hb=>by cases hb)
   split at h
   ·rename_i y hy
    simp only [Option.some.injEq] at h
    have hlen:(bs t.name).length+y.length+2=x.length:=by rw [<- h]; simp only [List.length_append,List.length_cons,List.length_nil]; omega
    skip
    refine ⟨fun D x2 tC pu kq rq rP sg pK lW w_=>Fx D 0 [lW=.pointer (some ⟨b1,2,none⟩),pK=.string t.name,sg=.string (st (bs t.name++[40])),rP=.pointer (some ⟨b1,3,none⟩),rq=.slice ka t.kids.length kc,kq=.string (st y),pu=.string (st (bs t.name++[40]++y)),tC=.string (st (bs t.name++[40]++y++[41])),x2=.string (st (bs t.name++[40]++y++[41]))]/\Inv w [] [.blk b1 (.cells #[.int .i64 t.kind,.int .i64 t.n,.string t.name,.slice ka t.kids.length kc] ab)] S w_,⟨Fx.nil _ _,hI.draw⟩,⟨?_,?_,?_,?_,?_,?_,?_,?_,?_,trivial⟩,?_⟩
    all_goals (intro D bw; intros; rename_i x2 tC pu kq rq rP sg pK lW w_ hA_; have hF_:=hA_.1; obtain ⟨⟨bQ,bS,bU,bR,bY,bZ,bO,cG,cS,_⟩,hI⟩:=hA_)
    ·refine ao aH ?_
     exact ⟨hF_.set 0 rfl,hI⟩
    ·obtain rfl:=bQ ‹_›
     refine ax hI 0 aC rfl rfl ?_
     exact ⟨hF_.set 1 rfl,hI⟩
    ·obtain rfl:=bS ‹_›
     refine bA (a:=bs t.name) (b:=[40]) (by simp only [List.length_cons,List.length_nil]; omega) ?_
     exact ⟨hF_.set 2 rfl,hI⟩
    ·refine ao ak ?_
     exact ⟨hF_.set 3 rfl,hI⟩
    ·obtain rfl:=bR ‹_›
     refine ax hI 0 al rfl rfl ?_
     exact ⟨hF_.set 4 rfl,hI⟩
    ·obtain rfl:=bY ‹_›
     refine Run.callPure oR na hI (ihA g (by omega) t.kids y S _ hy (by omega) hk) fun w_ hI=>?_
     exact ⟨hF_.set 5 rfl,hI⟩
    ·obtain rfl:=bU ‹_›
     obtain rfl:=bZ ‹_›
     refine bA (by simp only [List.length_append,List.length_cons,List.length_nil]; omega) ?_
     exact ⟨hF_.set 6 rfl,hI⟩
    ·obtain rfl:=bO ‹_›
     refine bA (b:=[41]) (by simp only [List.length_append,List.length_cons,List.length_nil]; omega) ?_
     exact ⟨hF_.set 7 rfl,hI⟩
    ·obtain rfl:=cG ‹_›
     exact ⟨hF_.set 8 rfl,hI⟩
    obtain ⟨rfl,rfl,rfl,rfl,rfl,rfl,rfl,rfl,rfl,_⟩:=hF_.all
    clear hF_ bQ bS bU bR bY bZ bO cG cS
    exact done hI (by rw [<- h])
   ·cases h
  ·rename_i hc3
   have e:(decide (t.kind=3) && decide (0<t.kids.length))=false:=by
    rw [Bool.eq_false_iff,ne_eq,Bool.and_eq_true,decide_eq_true_eq,decide_eq_true_eq]; exact hc3
   rw [e]
   refine av (fun hb=>by cases hb) (fun _=>?_)
   refine ag hI 0 ac rfl rfl ?_
   refine Run.callPure Gd GE hI (DE h0 hp h) fun w' hI=>?_
   exact done hI rfl
theorem Cz:∀ F f,f<F->F<=1000->wN f/\HR f/\Dy f/\oV f/\Ix f/\D6 f
 | 0,f,h,_=>by omega
 | F+1,f,h,hF=>by
  have ih:=fun g (hg:g<f)=>Cz F g (by omega) (by omega)
  have hT:wN f:=OZ (fun g hg=>(ih g hg).2.1) (fun g hg=>(ih g hg).2.2.1) (fun g hg=>(ih g hg).2.2.2.2.1) (fun g hg=>(ih g hg).2.2.2.2.2)
  exact ⟨hT,Nz (by omega) (fun g hg=>(ih g hg).1) (fun g hg=>(ih g hg).2.2.1),Ob fun g hg=>(ih g hg).1,Ie fun g hg=>(ih g hg).1,Oj (fun g hg=>(ih g hg).1) (fun g hg=>(ih g hg).2.2.2.1),Lw fun g hg=>(ih g hg).2.2.2.1⟩
theorem BI {f:Nat} (hf:f<=100):wN f:=(Cz (f+1) f (by omega) (by omega)).1
end
end Go.Proofs.YtbocelianhcfmaaGreatDoor

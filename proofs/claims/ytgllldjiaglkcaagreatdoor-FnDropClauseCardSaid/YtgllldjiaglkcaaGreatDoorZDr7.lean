/- Texts written: spec.l2Text and its kin, l4Text, FormatClause. -/
import Derived.Test.YtgllldjiaglkcaaGreatDoorZDr6
namespace Go.Proofs.YtgllldjiaglkcaaGreatDoor
open Go Go.RowKit
theorem LD:Tryz.prog.underlying EP=some (.slice C7):=by kernel_rfl
section
variable {w:World} {S:ad}
attribute [local irreducible] Run CondV ai az
theorem ju {t:T} {cs:List Value} (h:RdT S cs t):Pure Tryz.prog HJ [.agg cs.toArray] S (.bool (zd t)):=by
 intro w hI
 obtain ⟨kv,rfl,_,_,_,hk⟩:=RdT.iff.1 h
 obtain ⟨ka,kc,rfl,_⟩:=id hk
 refine wj.2 ?_
 dsimp only[wj,aD]
 refine bt hI fun b1 w' hI=>?_
 refine ae hI 0 rfl aQ aE rfl ?_
 by_cases h3:t.kind=3
 ·refine eC h3 ?_
  refine rpG ?_
  refine ae hI 0 rfl aR aL rfl ?_
  refine bg (b:=st [46]) ?_
  cases hn:decide (t.name=st [46])
  ·refine rpG ?_
   exact done hI (by rw [zd,hn,Bool.false_and,Bool.and_false])
  ·refine rpG ?_
   refine ae hI 0 rfl au aj rfl ?_
   refine ez ah ?_
   refine aZ ?_
   refine rpG ?_
   refine done hI ?_
   rw [zd,hn,decide_eq_true h3,Bool.true_and,Bool.true_and]
   congr 1
   rw [decide_eq_decide]
   omega
 ·refine du h3 ?_
  refine rpG ?_
  exact done hI (by rw [zd,decide_eq_false h3,Bool.false_and])
theorem Bq {t:T} {cs:List Value} (h:RdT S cs t):Pure Tryz.prog Kr [.agg cs.toArray] S (.bool (Mx t)):=by
 intro w hI
 obtain ⟨kv,rfl,_,_,_,hk⟩:=RdT.iff.1 h
 obtain ⟨ka,kc,rfl,_⟩:=id hk
 refine zK.2 ?_
 dsimp only[zK,aD]
 refine bt hI fun b1 w' hI=>?_
 refine ae hI 0 rfl aQ aE rfl ?_
 by_cases h3:t.kind=3
 ·refine eC h3 ?_
  refine rpG ?_
  refine ae hI 0 rfl aR aL rfl ?_
  refine bg (b:=st [91,93]) ?_
  cases hn:decide (t.name=st [91,93])
  ·refine rpG ?_
   exact done hI (by rw [Mx,hn,Bool.false_and,Bool.and_false])
  ·refine rpG ?_
   refine ae hI 0 rfl au aj rfl ?_
   refine ez ah ?_
   refine aZ ?_
   refine rpG ?_
   refine done hI ?_
   rw [Mx,hn,decide_eq_true h3,Bool.true_and,Bool.true_and]
   congr 1
   rw [decide_eq_decide]
   omega
 ·refine du h3 ?_
  refine rpG ?_
  exact done hI (by rw [Mx,decide_eq_false h3,Bool.false_and])
theorem mM {t:T} {cs:List Value} (h:RdT S cs t):Pure Tryz.prog ER [.agg cs.toArray] S (.bool (lV t)):=by
 intro w hI
 obtain ⟨kv,rfl,_,_,_,hk⟩:=RdT.iff.1 h
 obtain ⟨ka,kc,rfl,_⟩:=id hk
 refine r5.2 ?_
 dsimp only[r5,aD]
 refine bt hI fun b1 w' hI=>?_
 refine ae hI 0 rfl aQ aE rfl ?_
 by_cases h3:t.kind=3
 ·refine eC h3 ?_
  refine rpG ?_
  refine ae hI 0 rfl au aj rfl ?_
  refine ez ah ?_
  by_cases hn:t.kids.length=2
  ·refine eC (by omega) ?_
   refine rpG ?_
   refine ae hI 0 rfl aR aL rfl ?_
   refine Run.callPure eh ew hI (c5 _ S) fun w' hI=>?_
   refine dB ?_
   refine rpG ?_
   exact done hI (by rw [lV,decide_eq_true h3,decide_eq_true hn,Bool.true_and,Bool.true_and])
  ·refine du (by omega) ?_
   refine rpG ?_
   exact done hI (by rw [lV,decide_eq_false hn,Bool.false_and,Bool.and_false])
 ·refine du h3 ?_
  refine rpG ?_
  exact done hI (by rw [lV,decide_eq_false h3,Bool.false_and])
theorem n7 {t:T} {cs:List Value} (h:RdT S cs t):Pure Tryz.prog HM [.agg cs.toArray] S (.bool (wD t)):=by
 intro w hI
 obtain ⟨kv,rfl,_,_,_,hk⟩:=RdT.iff.1 h
 obtain ⟨ka,kc,rfl,_⟩:=id hk
 refine vJ.2 ?_
 dsimp only[vJ,aD]
 refine bt hI fun b1 w' hI=>?_
 refine ae hI 0 rfl aQ aE rfl ?_
 by_cases h3:t.kind=3
 ·refine eC h3 ?_
  refine rpG ?_
  refine ae hI 0 rfl au aj rfl ?_
  refine ez ah ?_
  by_cases hn:t.kids.length=0
  ·refine eC (by omega) ?_
   refine rpG ?_
   refine ae hI 0 rfl aR aL rfl ?_
   refine Run.callPure eh ew hI (c5 _ S) fun w' hI=>?_
   refine dB ?_
   refine rpG ?_
   exact done hI (by rw [wD,decide_eq_true h3,decide_eq_true hn,Bool.true_and,Bool.true_and])
  ·refine du (by omega) ?_
   refine rpG ?_
   exact done hI (by rw [wD,decide_eq_false hn,Bool.false_and,Bool.and_false])
 ·refine du h3 ?_
  refine rpG ?_
  exact done hI (by rw [wD,decide_eq_false h3,Bool.false_and])
theorem Ah (n:Bs) (hn:n.length<=1000000):Pure Tryz.prog Ey [.string (st n)] S (.string (st (gj n))):=by
 intro w hI
 refine qc.2 ?_
 dsimp only[qc,aD]
 refine ⟨fun b w'=>b=.bool (decide (n=[105,115]) || decide (n=[109,111,100]))/\Inv w [] [] S w',?_,?_⟩
 ·refine yR (b:=[105,115]) ?_
  cases h5:decide (n=[105,115])
  ·refine rpG ?_
   refine yR (b:=[109,111,100]) ?_
   refine rpG ?_
   exact ⟨by rw [Bool.false_or],hI⟩
  ·refine rpG ?_
   exact ⟨by rw [Bool.true_or],hI⟩
 intro t8 _ _ _ _ _ w'
 rintro ⟨rfl,hI⟩
 refine aw (fun hb=>?_) (fun hb=>?_)
 ·rw [Bool.or_eq_true,decide_eq_true_eq,decide_eq_true_eq] at hb
  refine cP (a:=[32]) (by simp; omega) ?_
  refine cP (b:=[32]) (by simp; omega) ?_
  exact done hI (by rw [gj,if_pos hb]; rfl)
 ·rw [Bool.or_eq_false_iff,decide_eq_false_iff_not,decide_eq_false_iff_not] at hb
  exact done hI (by rw [gj,if_neg (by rintro (h|h); exact hb.1 h; exact hb.2 h)])
theorem A2 (s:Bs) (h0:0<s.length):Pure Tryz.prog Fe [.string (st s)] S (.bool (Db s)):=by
 intro w hI
 refine sC.2 ?_
 dsimp only[sC,aD]
 have e1:Db s=(sml s 0 || (dig s 0 || (upp s 0 || (sgn s 0 91 || sgn s 0 40)))):=rfl
 have eu:upp s 0=(decide (65<=s[0].toNat) && decide (s[0].toNat<=90)):=lY h0 65 90
 have ea:sgn s 0 91=decide (s[0].toNat=91):=jf h0 91
 have eb:sgn s 0 40=decide (s[0].toNat=40):=jf h0 40
 refine Run.callPure tY rT hI (mB s 0 S) fun w' hI=>?_
 cases hs:sml s 0
 ·refine rpG ?_
  refine Run.callPure iK iO hI (fB s 0 S) fun w' hI=>?_
  cases hd:dig s 0
  ·refine rpG ?_
   refine dk (i:=0) aF h0 ?_
   rw [hs,hd,Bool.false_or,Bool.false_or] at e1
   by_cases h65:65<=s[0].toNat
   ·refine ml (by omega) ?_
    refine rpG ?_
    refine dk (i:=0) aF h0 ?_
    by_cases h90:s[0].toNat<=90
    ·refine CS (by omega) ?_
     refine rpG ?_
     exact done hI (by rw [e1,eu,decide_eq_true h65,decide_eq_true h90]; rfl)
    ·refine Lg (by omega) ?_
     refine rpG ?_
     refine dk (i:=0) aF h0 ?_
     by_cases h91:s[0].toNat=91
     ·refine eC (by omega) ?_
      refine rpG ?_
      exact done hI (by rw [e1,ea,decide_eq_true h91,Bool.true_or,Bool.or_true])
     ·refine du (by omega) ?_
      refine rpG ?_
      refine dk (i:=0) aF h0 ?_
      refine du (by omega) ?_
      refine rpG ?_
      exact done hI (by rw [e1,eu,ea,eb,decide_eq_false h90,decide_eq_false h91,decide_eq_false (show ¬ s[0].toNat=40 by omega),Bool.and_false]; rfl)
   ·refine ut (by omega) ?_
    refine rpG ?_
    refine dk (i:=0) aF h0 ?_
    refine du (by omega) ?_
    refine rpG ?_
    refine dk (i:=0) aF h0 ?_
    by_cases h40:s[0].toNat=40
    ·refine eC (by omega) ?_
     refine rpG ?_
     exact done hI (by rw [e1,eb,decide_eq_true h40,Bool.or_true,Bool.or_true])
    ·refine du (by omega) ?_
     refine rpG ?_
     exact done hI (by rw [e1,eu,ea,eb,decide_eq_false h65,decide_eq_false (show ¬ s[0].toNat=91 by omega),decide_eq_false h40,Bool.false_and]; rfl)
  ·refine rpG ?_
   exact done hI (by rw [e1,hd,Bool.true_or,Bool.or_true])
 ·refine rpG ?_
  exact done hI (by rw [e1,hs,Bool.true_or])
theorem zV {n:Int} (h:0<=n/\n<=25):Pure Tryz.prog EE [.int .i64 n] S (.string (st [UInt8.ofNat (65+n.toNat)])):=by
 intro w hI
 refine qj.2 ?_
 dsimp only[qj,aD]
 refine n9 fl eL (IntWalk.u8_in _ (by omega)) ?_
 refine Pa (c:=((65+n.toNat:Nat):Int)) ?_ ?_
 ·rw [IntWalk.u8_in _ (by omega)]; omega
 refine yW hI ud LD eL aF fun w' hI=>?_
 exact done hI rfl
theorem GR:∀ (f n:Nat) (out r:Bs),AF f n out=some r->out.length<r.length/\r.length<=out.length+f
 | 0,_,_,_,h=>by simp [AF] at h
 | f+1,n,out,r,h=>by
  rw [AF] at h
  split at h
  ·have:=GR f _ _ _ h
   simp only [List.length_cons] at this
   omega
  ·simp only [Option.some.injEq] at h
   subst h
   simp only [List.length_cons]
   omega
theorem sT {f n:Nat} {r:Bs} (h:AF f n []=some r) (hn:n<=100000) (hf:f<=1000):Pure Tryz.prog HH [.int .i64 (n:Int)] S (.string (st r)):=by
 intro w hI
 refine vu.2 ?_
 dsimp only[vu,aD]
 refine dG (by omega) ?_
 refine aw (fun hb=>by cases hb) (fun _=>?_)
 refine dG (by omega) ?_
 refine aw (fun hb=>by cases hb) (fun _=>?_)
 refine ⟨fun a b w'=>∃ (f' m:Nat) (out:Bs),a=.int .i64 (m:Int)/\b=.string (st out)/\m<=100000/\out.length+f'<=1000/\AF f' m out=some r/\Inv w [] [] S w',fun a _ _=>(intOf a).toNat,⟨f,n,[],rfl,rfl,hn,by simpa using hf,h,hI⟩,?_⟩
 intro t0 _ _ t3 _ _ _ _ _ _ _ _ _ _ w'
 rintro ⟨f',m,out,rfl,rfl,hm,hof,hd,hI⟩
 cases f' with
 | zero=>simp [AF] at hd
 | succ g=>
 rw [AF] at hd
 split at hd
 ·rename_i h9
  refine Hk (by omega) ?_
  refine aw (fun _=>?_) (fun hb=>by cases hb)
  refine Hp (a:=m) (b:=10) rfl rfl (by omega) ?_
  refine dJ (a:=48) (b:=m % 10) rfl rfl (by omega) ?_
  refine n9 fl eL (IntWalk.u8_in _ (by omega)) ?_
  refine yW hI ud LD eL aF fun w' hI=>?_
  refine cP (by simp; omega) ?_
  refine H1 (a:=m) (b:=10) rfl rfl (by omega) (by omega) ?_
  refine ⟨⟨g,m / 10,UInt8.ofNat (48+m % 10)::out,rfl,rfl,by omega,by simp only [List.length_cons]; omega,hd,hI⟩,?_⟩
  simp only [intOf,Int.toNat_natCast]
  omega
 ·rename_i h9
  refine jg (by omega) ?_
  refine aw (fun hb=>by cases hb) (fun _=>?_)
  refine dJ (a:=48) (b:=m) rfl rfl (by omega) ?_
  refine n9 fl eL (IntWalk.u8_in _ (by omega)) ?_
  refine yW hI ud LD eL aF fun w' hI=>?_
  refine cP (by simp; omega) ?_
  simp only [Option.some.injEq] at hd
  exact done hI (by rw [<- hd]; rfl)
theorem Gc {n:Int} {r:Bs} (h:Ps n=some r) (hn:-999<=n/\n<=999):Pure Tryz.prog KB [.int .i64 n] S (.string (st r)):=by
 intro w hI
 refine yx.2 ?_
 dsimp only[yx,aD]
 unfold Ps at h
 split at h
 ·rename_i h0
  refine zR h0 ?_
  refine aw (fun _=>?_) (fun hb=>by cases hb)
  refine OZ (by omega) ?_
  obtain ⟨m,hm⟩:∃ m:Nat,-n=(m:Int):=⟨(-n).toNat,by omega⟩
  rw [hm] at h ⊢
  rw [Int.toNat_natCast,Option.map_eq_some_iff] at h
  obtain ⟨l,hl,rfl⟩:=h
  have:=GR _ _ _ _ hl
  refine Run.callPure vI wq hI (sT hl (by omega) (by omega)) fun w' hI=>?_
  refine cP (a:=[45]) (by simp only [List.length_nil,List.length_cons] at this ⊢; omega) ?_
  exact done hI rfl
 ·rename_i h0
  refine dG h0 ?_
  refine aw (fun hb=>by cases hb) (fun _=>?_)
  obtain ⟨m,rfl⟩:∃ m:Nat,n=(m:Int):=⟨n.toNat,by omega⟩
  rw [Int.toNat_natCast] at h
  refine Run.callPure vI wq hI (sT h (by omega) (by omega)) fun w' hI=>?_
  exact done hI rfl
theorem DL {t:T} {cs:List Value} {x:Bs} (h:RdT S cs t) (hp:zd t=false) (hx:Ld t=some x):Pure Tryz.prog HV [.agg cs.toArray] S (.string (st x)):=by
 intro w hI
 have h0:=h
 obtain ⟨kv,rfl,_,_,_,hk⟩:=RdT.iff.1 h
 obtain ⟨ka,kc,rfl,_⟩:=id hk
 refine vV.2 ?_
 dsimp only[vV,aD]
 unfold Ld at hx
 refine bt hI fun b1 w' hI=>?_
 refine ae hI 0 rfl aQ aE rfl ?_
 split at hx
 ·rename_i h1
  refine eC h1 ?_
  refine aw (fun _=>?_) (fun hb=>by cases hb)
  refine ae hI 0 rfl ba aE rfl ?_
  split at hx
  ·rename_i h2
   refine Run.callPure Bx AV hI (zV h2) fun w' hI=>?_
   simp only [Option.some.injEq] at hx
   exact done hI (by rw [<- hx])
  ·cases hx
 ·rename_i h1
  refine du h1 ?_
  refine aw (fun hb=>by cases hb) (fun _=>?_)
  split at hx
  ·rename_i h2
   refine eC h2 ?_
   refine aw (fun _=>?_) (fun hb=>by cases hb)
   refine ae hI 0 rfl ba aE rfl ?_
   split at hx
   ·rename_i h3
    refine Run.callPure G2 HR hI (Gc hx h3) fun w' hI=>?_
    exact done hI rfl
   ·cases hx
  ·rename_i h2
   refine du h2 ?_
   refine aw (fun hb=>by cases hb) (fun _=>?_)
   split at hx
   ·rename_i h3
    simp only [Option.some.injEq] at hx
    refine aA hI 0 ac rfl rfl ?_
    refine Run.callPure oI nP hI (ju h0) fun w' hI=>?_
    rw [hp]
    refine aw (fun hb=>by cases hb) (fun _=>?_)
    refine ae hI 0 rfl aR aL rfl ?_
    refine ⟨fun a b w'=>a=.int .i64 0/\b=.string t.name/\Inv w [] [.blk b1 (.cells #[.int .i64 t.kind,.int .i64 t.n,.string t.name,.slice ka t.kids.length kc] ab)] S w',fun _ _ _=>0,⟨rfl,rfl,hI⟩,?_⟩
    intro t4 _ _ _ _ _ _ _ _ _ _ _ _ t3 _ _ _ _ _ _ _ _ _ w'
    rintro ⟨rfl,rfl,hI⟩
    refine ae hI 0 rfl au aj rfl ?_
    refine ez ah ?_
    refine dG (by omega) ?_
    refine aw (fun hb=>by cases hb) (fun _=>?_)
    refine ⟨fun b w'=>b=.string t.name/\Inv w [] [.blk b1 (.cells #[.int .i64 t.kind,.int .i64 t.n,.string t.name,.slice ka t.kids.length kc] ab)] S w',?_,?_⟩
    ·refine ae hI 0 rfl au aj rfl ?_
     refine ez ah ?_
     refine jg (by omega) ?_
     refine aw (fun hb=>by cases hb) (fun _=>?_)
     exact ⟨rfl,hI⟩
    intro t3 _ _ _ _ _ _ w'
    rintro ⟨rfl,hI⟩
    exact done hI (by rw [<- hx])
   ·cases hx
end
theorem CD:∀ (f:Nat) (l:List T) (out x:Bs),mX f l out=some x->out.length<=x.length
 | 0,_,_,_,h=>by simp [mX] at h
 | _+1,[],out,x,h=>by simp [mX] at h; subst h; exact Nat.le_refl _
 | f+1,t::l,out,x,h=>by
  rw [mX] at h
  split at h
  ·cases h
  ·have:=CD f _ _ _ h
   simp only [List.length_append] at this
   omega
def lenOf:Value->Nat
 | .slice _ n _=>n
 | _=>0
def wA (f:Nat):Prop:=∀ (t:T) (x:Bs) (S:ad) (cs:List Value),D0 f t=some x->x.length<=1000000->RdT S cs t->Pure Tryz.prog Il [.agg cs.toArray] S (.string (st x))
def Ir (f:Nat):Prop:=∀ (t:T) (x:Bs) (S:ad) (cs:List Value),Cf f t []=some x->x.length<=1000000->RdT S cs t->Pure Tryz.prog HP [.agg cs.toArray] S (.string (st x))
def D5 (f:Nat):Prop:=∀ (ts:List T) (x:Bs) (S:ad) (u:Value),mX f ts []=some x->x.length<=1000000->RdSl S 4 (RdT S) u ts->Pure Tryz.prog Ig [u] S (.string (st x))
def pB (f:Nat):Prop:=∀ (t:T) (l:Int) (x:Bs) (S:ad) (cs:List Value),oO f t l=some x->x.length<=1000000->RdT S cs t->Pure Tryz.prog AW [.agg cs.toArray,.int .i64 l] S (.string (st x))
def HA (f:Nat):Prop:=∀ (t:T) (l:Int) (x:Bs) (S:ad) (cs:List Value),IV f t l=some x->x.length<=1000000->RdT S cs t->Pure Tryz.prog HN [.agg cs.toArray,.int .i64 l] S (.string (st x))
def Eg (f:Nat):Prop:=∀ (t:T) (l:Int) (x:Bs) (S:ad) (cs:List Value),DM f t l=some x->x.length<=1000000->RdT S cs t->Pure Tryz.prog Fk [.agg cs.toArray,.int .i64 l] S (.string (st x))
section
attribute [local irreducible] Run CondV ai az
theorem NJ {f:Nat} (ih:∀ g,g<f->wA g):D5 f:=by
 intro ts x S u h hx hu w hI
 refine wH.2 ?_
 dsimp only[wH,aD]
 refine ⟨fun a b w'=>∃ (f' j:Nat) (out acc:Bs),f'<=f/\j<=ts.length/\a=.int .i64 (j:Int)/\b=.string (st out)/\acc=out++(if 0<j/\j<ts.length then [44] else [])/\mX f' (ts.drop j) acc=some x/\Inv w [] [] S w',
  fun a _ _=>ts.length - (intOf a).toNat,⟨f,0,[],[],Nat.le_refl _,Nat.zero_le _,rfl,rfl,by simp,h,hI⟩,?_⟩
 intro t4 _ _ _ _ _ _ _ _ _ t3 _ _ _ _ _ _ _ _ w'
 rintro ⟨f',j,out,acc,hf',hj,rfl,rfl,hacc,ha,hI⟩
 cases f' with
 | zero=>simp [mX] at ha
 | succ g=>
 refine aG hu ah ?_
 refine bI ?_
 refine aI (fun hji=>?_) (fun hji=>?_)
 ·have hj':j<ts.length:=by omega
  rw [List.drop_eq_getElem_cons hj',mX] at ha
  split at ha
  ·cases ha
  rename_i y hy
  have hlen:=CD _ _ _ _ ha
  simp only [List.length_append] at hlen
  refine ⟨fun b w'=>b=.string (st acc)/\Inv w [] [] S w',?_,?_⟩
  ·refine dB ?_
   refine aI (fun h0=>?_) (fun h0=>?_)
   ·rw [if_pos (by omega)] at hacc
    refine cP (b:=[44]) (by rw [hacc,List.length_append] at hlen; simp only [List.length_cons,List.length_nil] at hlen ⊢; omega) ?_
    exact ⟨by rw [hacc],hI⟩
   ·rw [if_neg (by omega),List.append_nil] at hacc
    exact ⟨by rw [hacc],hI⟩
  intro t3 _ _ _ _ w'
  rintro ⟨rfl,hI⟩
  refine ci hI hu ah ac hj' (fun _ _=>RdT.length) fun cs hcs=>?_
  refine Run.callPure eH eO hI (ih g (by omega) _ y S cs hy (by omega) hcs) fun w' hI=>?_
  refine cP (by omega) ?_
  refine bq (by have:=hu.le; simp only [maxLen] at this; omega) ?_
  refine ⟨⟨g,j+1,acc++y,_,by omega,hj',rfl,rfl,rfl,?_,hI⟩,by simp only [intOf,Int.toNat_natCast]; omega⟩
  have e:(if ts.drop (j+1)=[] then [] else [44]:Bs)=if 0<j+1/\j+1<ts.length then [44] else []:=by
   by_cases h1:j+1<ts.length
   ·rw [if_neg (fun h2=>by rw [List.drop_eq_nil_iff] at h2; omega),if_pos (by omega)]
   ·rw [if_pos (List.drop_eq_nil_of_le (by omega)),if_neg (by omega)]
  rw [<- e]
  exact ha
 ·have:j=ts.length:=by omega
  subst this
  rw [List.drop_length,mX] at ha
  simp only [Option.some.injEq] at ha
  rw [if_neg (by omega),List.append_nil] at hacc
  exact done hI (by rw [<- ha,hacc])
theorem Ih {f:Nat} (ih:∀ g,g<f->wA g):pB f:=by
 intro t l x S cs h hx hc w hI
 cases f with
 | zero=>simp [oO] at h
 | succ g=>
 rw [oO] at h
 split at h
 ·cases h
 rename_i y hy
 simp only [Option.some.injEq] at h
 have h0:=hc
 obtain ⟨kv,rfl,_,_,_,hk⟩:=RdT.iff.1 hc
 obtain ⟨ka,kc,rfl,_⟩:=id hk
 have hyx:y.length<=1000000/\y.length+2<=9000000:=by
  have:y.length<=x.length:=by
   rw [<- h]; split
   ·simp; omega
   ·omega
  omega
 refine oH.2 ?_
 dsimp only[oH,aX]
 refine bt hI fun b1 w' hI=>?_
 refine ⟨fun b w'=>b=.bool (lV t && decide (l<bD t.name))/\Inv w [] [.blk b1 (.cells #[.int .i64 t.kind,.int .i64 t.n,.string t.name,.slice ka t.kids.length kc] ab)] S w',?_,?_⟩
 ·refine aA hI 0 ac rfl rfl ?_
  refine Run.callPure tm tM hI (mM h0) fun w' hI=>?_
  cases hf:lV t
  ·refine rpG ?_
   exact ⟨by rw [Bool.false_and],hI⟩
  ·refine rpG ?_
   refine ae hI 0 rfl aR aL rfl ?_
   refine Run.callPure eh ew hI (c5 _ S) fun w' hI=>?_
   refine dB ?_
   refine rpG ?_
   exact ⟨by rw [Bool.true_and],hI⟩
 intro t13 _ _ _ _ _ _ _ _ w'
 rintro ⟨rfl,hI⟩
 refine aw (fun hb=>?_) (fun hb=>?_)
 ·rw [Bool.and_eq_true,decide_eq_true_eq] at hb
  rw [if_pos hb] at h
  refine aA hI 0 ac rfl rfl ?_
  refine Run.callPure eH eO hI (ih g (by omega) t y S _ hy hyx.1 h0) fun w' hI=>?_
  refine cP (a:=[40]) (by simp only [List.length_cons,List.length_nil]; omega) ?_
  refine cP (b:=[41]) (by simp only [List.length_append,List.length_cons,List.length_nil]; omega) ?_
  exact done hI (by rw [<- h])
 ·rw [if_neg (fun hh=>by rw [Bool.and_eq_false_iff,decide_eq_false_iff_not] at hb; rcases hb with hb|hb; rw [hh.1] at hb; cases hb; exact hb hh.2)] at h
  refine aA hI 0 ac rfl rfl ?_
  refine Run.callPure eH eO hI (ih g (by omega) t y S _ hy hyx.1 h0) fun w' hI=>?_
  exact done hI (by rw [<- h])
theorem Od {f:Nat} (ih:∀ g,g<f->wA g) (ihB:∀ g,g<f->pB g):HA f:=by
 intro t l x S cs h hx hc w hI
 cases f with
 | zero=>simp [IV] at h
 | succ g=>
 rw [IV] at h
 have h0:=hc
 obtain ⟨kv,rfl,_,_,_,hk⟩:=RdT.iff.1 hc
 obtain ⟨ka,kc,rfl,_⟩:=id hk
 refine vt.2 ?_
 dsimp only[vt,aX]
 refine bt hI fun b1 w' hI=>?_
 refine aA hI 0 ac rfl rfl ?_
 refine Run.callPure v7 vW hI (n7 h0) fun w' hI=>?_
 split at h
 ·rename_i hs
  split at h
  ·cases h
  rename_i y hy
  simp only [Option.some.injEq] at h
  have hyx:y.length+2=x.length:=by rw [<- h]; simp only [List.length_append,List.length_cons,List.length_nil]; omega
  rw [hs]
  refine aw (fun _=>?_) (fun hb=>by cases hb)
  refine aA hI 0 ac rfl rfl ?_
  refine Run.callPure eH eO hI (ih g (by omega) t y S _ hy (by omega) h0) fun w' hI=>?_
  refine cP (a:=[40]) (by simp only [List.length_cons,List.length_nil]; omega) ?_
  refine cP (b:=[41]) (by simp only [List.length_append,List.length_cons,List.length_nil]; omega) ?_
  exact done hI (by rw [<- h])
 ·rename_i hs
  rw [Bool.eq_false_iff.2 hs]
  refine aw (fun hb=>by cases hb) (fun _=>?_)
  refine aA hI 0 ac rfl rfl ?_
  refine Run.callPure nO nM hI (ihB g (by omega) t l x S _ h hx h0) fun w' hI=>?_
  exact done hI rfl
theorem MV {f:Nat} (ihB:∀ g,g<f->pB g):Eg f:=by
 intro t l x S cs h hx hc w hI
 cases f with
 | zero=>simp [DM] at h
 | succ g=>
 rw [DM] at h
 split at h
 ·cases h
 rename_i y hy
 split at h
 ·cases h
 rename_i hne
 simp only [Option.some.injEq] at h
 have hy0:0<y.length:=by
  cases y with
  | nil=>exact absurd rfl hne
  | cons a l=>simp
 have hyx:y.length<=1000000:=by
  have:y.length<=x.length:=by
   rw [<- h]; split
   ·simp; omega
   ·omega
  omega
 have h0:=hc
 obtain ⟨kv,rfl,_,_,_,hk⟩:=RdT.iff.1 hc
 obtain ⟨ka,kc,rfl,_⟩:=id hk
 refine rO.2 ?_
 dsimp only[rO,aX]
 refine bt hI fun b1 w' hI=>?_
 refine aA hI 0 ac rfl rfl ?_
 refine Run.callPure nO nM hI (ihB g (by omega) t l y S _ hy hyx h0) fun w' hI=>?_
 refine ⟨fun b w'=>b=.bool (wD t || !Db y)/\Inv w [] [.blk b1 (.cells #[.int .i64 t.kind,.int .i64 t.n,.string t.name,.slice ka t.kids.length kc] ab)] S w',?_,?_⟩
 ·refine aA hI 0 ac rfl rfl ?_
  refine Run.callPure v7 vW hI (n7 h0) fun w' hI=>?_
  cases hs:wD t
  ·refine rpG ?_
   refine Run.callPure En DT hI (A2 y hy0) fun w' hI=>?_
   refine bK ?_
   refine rpG ?_
   exact ⟨by rw [Bool.false_or],hI⟩
  ·refine rpG ?_
   exact ⟨by rw [Bool.true_or],hI⟩
 intro t15 _ _ _ _ _ _ w'
 rintro ⟨rfl,hI⟩
 refine aw (fun hb=>?_) (fun hb=>?_)
 ·rw [Bool.or_eq_true,Bool.not_eq_true'] at hb
  rw [if_pos hb] at h
  refine cP (a:=[40]) (by simp only [List.length_cons,List.length_nil]; omega) ?_
  refine cP (b:=[41]) (by simp only [List.length_append,List.length_cons,List.length_nil]; omega) ?_
  exact done hI (by rw [<- h])
 ·rw [if_neg (fun hh=>by rw [<- Bool.not_eq_true',<- Bool.or_eq_true,hb] at hh; cases hh)] at h
  exact done hI (by rw [<- h])
theorem M0 {f:Nat} (hf:f<=100000) (ih:∀ g,g<f->wA g) (ihA:∀ g,g<f->D5 g):Ir f:=by
 intro t x S cs h hx hc w hI
 obtain ⟨kv,rfl,_,_,_,hk⟩:=RdT.iff.1 hc
 refine vY.2 ?_
 dsimp only[vY,aD]
 refine bt hI fun b1 w' hI=>?_
 refine eJ hI bu fun v0 w' hI=>?_
 refine ⟨fun a w'=>∃ (f':Nat) (t':T) (items:List T) (ds:List Value) (css:List (List Value)),f'+items.length=f/\Cf f' t' items=some x/\RdT S ds t'/\Rows 4 (RdT S) css items/\(∃ p m,a=.slice p items.length m)/\Inv w [] [.blk b1 (.cells ds.toArray ab),aC a ab 4 css] S w',
  fun a _=>f+1 - lenOf a,⟨f,t,[],_,[],by simp,h,hc,Rows.nil _ _,?_,hI⟩,?_⟩
 ·have hI2:Inv w [] ([Item.blk b1 (.cells #[.int .i64 t.kind,.int .i64 t.n,.string t.name,kv] ab)]++[aC v0 ab 4 []]) S w':=hI
  obtain ⟨S1,_,hrd,_⟩:=Inv.lendExt hI2
  obtain ⟨p,m,e,_⟩:=RowRd.rows (Rows.nil 4 (RdT S)) hrd
  exact ⟨p,m,e⟩
 clear h hc hk hI
 intro _ _ _ _ t3 _ _ _ _ _ _ _ _ _ w'
 rintro ⟨f',t',items,ds,css,hfl,hl,hd,hR,⟨p,m,rfl⟩,hI⟩
 have hd0:=hd
 obtain ⟨kd,rfl,_,_,_,hk⟩:=RdT.iff.1 hd
 have hcl:=hR.hc
 cases f' with
 | zero=>simp [Cf] at hl
 | succ g=>
 rw [Cf] at hl
 refine aA hI 0 ac rfl rfl ?_
 refine Run.callPure oI nP hI (ju hd0) fun w' hI=>?_
 split at hl
 ·rename_i hp
  split at hl
  ·rename_i a b hab
   rw [hp]
   refine aw (fun _=>?_) (fun hb=>by cases hb)
   rw [hab] at hk
   refine ae hI 0 rfl au aj rfl ?_
   refine ci (i:=0) hI hk ah ac (by simp) (fun _ _=>RdT.length) fun es hes=>?_
   rw [List.getElem_cons_zero] at hes
   refine cR (css:=css) hI 1 es bu (by omega) (by omega) rfl hes.length hes.one (by omega) (by omega) fun v' w' hI=>?_
   refine ae hI 0 rfl au aj rfl ?_
   refine ci (i:=1) hI hk ah ac (by simp) (fun _ _=>RdT.length) fun gs hgs=>?_
   rw [List.getElem_cons_succ,List.getElem_cons_zero] at hgs
   have hg1:=hgs.length
   refine av hI 0 rfl ac (by simpa using hg1) rfl (by simpa using hgs.one) fun w' hI=>?_
   have hR2:=hR.snoc hes hes.length
   have hI2:Inv w [] ([Item.blk b1 (.cells gs.toArray ab)]++[aC v' ab 4 (css++[es])]) S w':=hI
   obtain ⟨S1,hE1,hrd,_⟩:=Inv.lendExt hI2
   obtain ⟨p',m',e',_⟩:=RowRd.rows hR2 hrd
   refine ⟨⟨g,b,items++[a],gs,css++[es],by rw [List.length_append]; simp only [List.length_cons,List.length_nil]; omega,hl,hgs,hR2,⟨p',m',e'⟩,hI⟩,?_⟩
   rw [e']
   simp only [lenOf,List.length_append,List.length_cons,List.length_nil]
   omega
  ·cases hl
 ·rename_i hp
  rw [Bool.eq_false_iff.2 hp]
  refine aw (fun hb=>by cases hb) (fun _=>?_)
  split at hl
  ·cases hl
  rename_i y hy
  refine aA hI 0 ac rfl rfl ?_
  refine Run.callPure IC Ho hI (Bq hd0) fun w' hI=>?_
  have hI2:Inv w [] ([Item.blk b1 (.cells #[.int .i64 t'.kind,.int .i64 t'.n,.string t'.name,kd] ab)]++[aC (.slice p items.length m) ab 4 css]) S w':=hI
  obtain ⟨S1,hE1,hrd,hI⟩:=Inv.lendExt hI2
  have hrs:=RowRd.rows (hR.monoR fun _ _ h=>RdT.mono hE1.1 h) hrd
  have hd1:=RdT.mono hE1.1 hd0
  split at hl
  ·rename_i hn
   simp only [Option.some.injEq] at hl
   have hyx:y.length+2=x.length:=by rw [<- hl]; simp only [List.length_append,List.length_cons,List.length_nil]; omega
   rw [hn]
   refine aw (fun _=>?_) (fun hb=>by cases hb)
   refine Run.callPure od pd hI (ihA g (by omega) items y S1 _ hy (by omega) hrs) fun w' hI=>?_
   refine cP (a:=[91]) (by simp only [List.length_cons,List.length_nil]; omega) ?_
   refine cP (b:=[93]) (by simp only [List.length_append,List.length_cons,List.length_nil]; omega) ?_
   exact gh hI hE1.1 (by rw [<- hl])
  ·rename_i hn
   split at hl
   ·cases hl
   rename_i z hz
   simp only [Option.some.injEq] at hl
   have hyx:y.length+z.length+3=x.length:=by rw [<- hl]; simp only [List.length_append,List.length_cons,List.length_nil]; omega
   rw [Bool.eq_false_iff.2 hn]
   refine aw (fun hb=>by cases hb) (fun _=>?_)
   refine ⟨fun D x2 zx g6 np jo ww nf eV lO w_=>Fx D 0 [lO=.slice p items.length m,eV=.string (st y),nf=.string (st ([91]++y)),ww=.string (st ([91]++y++[124])),jo=.agg #[.int .i64 t'.kind,.int .i64 t'.n,.string t'.name,kd],np=.string (st z),g6=.string (st ([91]++y++[124]++z)),zx=.string (st ([91]++y++[124]++z++[93])),x2=.string (st ([91]++y++[124]++z++[93]))]/\Inv w [] [.blk b1 (.cells #[.int .i64 t'.kind,.int .i64 t'.n,.string t'.name,kd] ab)] S1 w_,⟨Fx.nil _ _,hI.draw⟩,⟨?_,?_,?_,?_,?_,?_,?_,?_,?_,trivial⟩,?_⟩
   all_goals (intro D bx; intros; rename_i x2 zx g6 np jo ww nf eV lO w_ hA_; have hF_:=hA_.1; obtain ⟨⟨cr,cq,ct,cu,cz,cB,bP,cT,dw,_⟩,hI⟩:=hA_)
   ·exact ⟨hF_.set 0 rfl,hI⟩
   ·obtain rfl:=cr ‹_›
    refine Run.callPure od pd hI (ihA g (by omega) items y S1 _ hy (by omega) hrs) fun w_ hI=>?_
    exact ⟨hF_.set 1 rfl,hI⟩
   ·obtain rfl:=cq ‹_›
    refine cP (a:=[91]) (by simp only [List.length_cons,List.length_nil]; omega) ?_
    exact ⟨hF_.set 2 rfl,hI⟩
   ·obtain rfl:=ct ‹_›
    refine cP (b:=[124]) (by simp only [List.length_append,List.length_cons,List.length_nil]; omega) ?_
    exact ⟨hF_.set 3 rfl,hI⟩
   ·refine aA hI 0 ac rfl rfl ?_
    exact ⟨hF_.set 4 rfl,hI⟩
   ·obtain rfl:=cz ‹_›
    refine Run.callPure eH eO hI (ih g (by omega) t' z S1 _ hz (by omega) hd1) fun w_ hI=>?_
    exact ⟨hF_.set 5 rfl,hI⟩
   ·obtain rfl:=cu ‹_›
    obtain rfl:=cB ‹_›
    refine cP (by simp only [List.length_append,List.length_cons,List.length_nil]; omega) ?_
    exact ⟨hF_.set 6 rfl,hI⟩
   ·obtain rfl:=bP ‹_›
    refine cP (b:=[93]) (by simp only [List.length_append,List.length_cons,List.length_nil]; omega) ?_
    exact ⟨hF_.set 7 rfl,hI⟩
   ·obtain rfl:=cT ‹_›
    exact ⟨hF_.set 8 rfl,hI⟩
   obtain ⟨rfl,rfl,rfl,rfl,rfl,rfl,rfl,rfl,rfl,_⟩:=hF_.all
   clear hF_ cr cq ct cu cz cB bP cT dw
   exact gh hI hE1.1 (by rw [<- hl])
theorem PC {f:Nat} (ihL:∀ g,g<f->Ir g) (ihA:∀ g,g<f->D5 g) (ihF:∀ g,g<f->HA g) (ihR:∀ g,g<f->Eg g):wA f:=by
 intro t x S cs h hx hc w hI
 cases f with
 | zero=>simp [D0] at h
 | succ g=>
 rw [D0] at h
 have h0:=hc
 obtain ⟨kv,rfl,_,_,_,hk⟩:=RdT.iff.1 hc
 refine wu.2 ?_
 dsimp only[wu,aD]
 refine bt hI fun b1 w' hI=>?_
 obtain ⟨B1,hB1⟩:∃ B1,B1=Item.blk b1 (.cells #[.int .i64 t.kind,.int .i64 t.n,.string t.name,kv] ab):=⟨_,rfl⟩
 refine aA hI 0 ac rfl rfl ?_
 refine Run.callPure oI nP hI (ju h0) fun w' hI=>?_
 split at h
 ·rename_i hp
  rw [hp]
  refine aw (fun _=>?_) (fun hb=>by cases hb)
  refine aA hI 0 ac rfl rfl ?_
  refine Run.callPure Fd Fp hI (ihL g (by omega) t x S _ h hx h0) fun w' hI=>?_
  exact done hI rfl
 rename_i hp
 have hp:=Bool.eq_false_iff.2 hp
 rw [hp]
 refine aw (fun hb=>by cases hb) (fun _=>?_)
 refine aA hI 0 ac rfl rfl ?_
 refine Run.callPure tm tM hI (mM h0) fun w' hI=>?_
 split at h
 ·rename_i hf
  rw [hf]
  refine aw (fun _=>?_) (fun hb=>by cases hb)
  split at h
  ·rename_i a b hab
   obtain ⟨lv,hlv⟩:∃ lv,lv=bD t.name:=⟨_,rfl⟩
   rw [<- hlv] at h
   have hlr:1<=lv/\lv<=3:=by
    have h1:0<bD t.name:=by
     unfold lV at hf
     simp only [Bool.and_eq_true,decide_eq_true_eq] at hf
     exact hf.2.2
    have h2:bD t.name<=3:=by
     unfold bD
     split
     ·omega
     ·split
      ·omega
      ·split <;> omega
    omega
   split at h
   ·rename_i y z hy hz
    simp only [Option.some.injEq] at h
    have hlen:y.length+(gj (bs t.name)).length+z.length=x.length:=by rw [<- h]; simp only [List.length_append]
    have hsp:(bs t.name).length<=(gj (bs t.name)).length:=by
     unfold gj
     split
     ·simp; omega
     ·omega
    rw [hab] at hk
    obtain ⟨b2,o2,cap2,c2,E2,fz2,rfl,hS,hRa⟩:=hk.at_ (i:=0) (by simp)
    obtain ⟨b2',o2',cap2',c2',E2',fz2',hsl,hS',hRb⟩:=hk.at_ (i:=1) (by simp)
    cases hsl
    rw [hS] at hS'
    cases hS'
    rw [List.getElem_cons_zero] at hRa
    rw [List.getElem_cons_succ,List.getElem_cons_zero] at hRb
    refine ae hI 0 rfl aR aL rfl ?_
    refine Run.callPure eh ew hI (c5 _ S) fun w' hI=>?_
    rw [<- hlv]
    have hI:Inv w [] [B1] S w':=by rw [hB1]; exact hI
    refine ⟨fun v w'=>v=.int .i64 (if lv=3 then 2 else lv)/\Inv w [] [B1] S w',?_,?_⟩
    ·refine aZ ?_
     refine aI (fun h3=>⟨by rw [if_pos h3],hI⟩) (fun h3=>⟨by rw [if_neg h3],hI⟩)
    intro t4 _ _ w'
    rintro ⟨rfl,hI⟩
    subst hB1
    skip
    refine ⟨fun D x2 xX EI Mv KX OX zx g6 np jo ww nf eV lO wo wi rD md sn w_=>Fx D 0 [sn=.pointer (some ⟨b1,3,none⟩),md=.slice (some ⟨b2,o2,none⟩) [a,b].length cap2,rD=.pointer (some ⟨b2,o2+0 * 4,none⟩),wi=.agg (aJ c2 (o2+0 * 4) 4).toArray,wo=.int .i64 (if lv=3 then 2 else lv),lO=.string (st y),eV=.pointer (some ⟨b1,2,none⟩),nf=.string t.name,ww=.string (st (gj (bs t.name))),jo=.string (st (y++gj (bs t.name))),np=.pointer (some ⟨b1,3,none⟩),g6=.slice (some ⟨b2,o2,none⟩) [a,b].length cap2,zx=.pointer (some ⟨b2,o2+1 * 4,none⟩),OX=.agg (aJ c2 (o2+1 * 4) 4).toArray,KX=.int .i64 lv,Mv=.int .i64 (lv - 1),EI=.string (st z),xX=.string (st (y++gj (bs t.name)++z)),x2=.string (st (y++gj (bs t.name)++z))]/\Inv w [] [.blk b1 (.cells #[.int .i64 t.kind,.int .i64 t.n,.string t.name,.slice (some ⟨b2,o2,none⟩) [a,b].length cap2] ab)] S w_,⟨Fx.nil _ _,hI.draw⟩,⟨?_,?_,?_,?_,?_,?_,?_,?_,?_,?_,?_,?_,?_,?_,?_,?_,?_,?_,?_,trivial⟩,?_⟩
    all_goals (intro D bx; intros; rename_i x2 xX EI Mv KX OX zx g6 np jo ww nf eV lO wo wi rD md sn w_ hA_; have hF_:=hA_.1; obtain ⟨⟨cr,cq,ct,cu,cz,cB,bP,cT,dw,fc,cE,cY,dS,fQ,gx,ir,jD,l6,pS,_⟩,hI⟩:=hA_)
    ·refine aB au ?_
     exact ⟨hF_.set 0 rfl,hI⟩
    ·obtain rfl:=cr ‹_›
     refine aS hI 0 aj rfl rfl ?_
     exact ⟨hF_.set 1 rfl,hI⟩
    ·obtain rfl:=cq ‹_›
     refine aH (i:=0) ah (by simp) ?_
     exact ⟨hF_.set 2 rfl,hI⟩
    ·obtain rfl:=ct ‹_›
     refine b0 ac hRa.length (fun j v hj=>by rw [hI.cellS hS]; exact aO rfl j v hj) ?_
     exact ⟨hF_.set 3 rfl,hI⟩
    ·exact ⟨hF_.set 4 rfl,hI⟩
    ·obtain rfl:=cu ‹_›
     obtain rfl:=cz ‹_›
     refine Run.callPure FX GP hI (ihF g (by omega) a _ y S _ hy (by omega) hRa) fun w_ hI=>?_
     exact ⟨hF_.set 5 rfl,hI⟩
    ·refine aB aR ?_
     exact ⟨hF_.set 6 rfl,hI⟩
    ·obtain rfl:=bP ‹_›
     refine aS hI 0 aL rfl rfl ?_
     exact ⟨hF_.set 7 rfl,hI⟩
    ·obtain rfl:=cT ‹_›
     refine Run.callPure Bn Be hI (Ah (bs t.name) (by omega)) fun w_ hI=>?_
     exact ⟨hF_.set 8 rfl,hI⟩
    ·obtain rfl:=cB ‹_›
     obtain rfl:=dw ‹_›
     refine cP (by omega) ?_
     exact ⟨hF_.set 9 rfl,hI⟩
    ·refine aB au ?_
     exact ⟨hF_.set 10 rfl,hI⟩
    ·obtain rfl:=cE ‹_›
     refine aS hI 0 aj rfl rfl ?_
     exact ⟨hF_.set 11 rfl,hI⟩
    ·obtain rfl:=cY ‹_›
     refine aH (i:=1) ah (by simp) ?_
     exact ⟨hF_.set 12 rfl,hI⟩
    ·obtain rfl:=dS ‹_›
     refine b0 ac hRb.length (fun j v hj=>by rw [hI.cellS hS]; exact aO rfl j v hj) ?_
     exact ⟨hF_.set 13 rfl,hI⟩
    ·exact ⟨hF_.set 14 rfl,hI⟩
    ·obtain rfl:=gx ‹_›
     refine iw (by omega) ?_
     exact ⟨hF_.set 15 rfl,hI⟩
    ·obtain rfl:=fQ ‹_›
     obtain rfl:=ir ‹_›
     refine Run.callPure DV EC hI (ihR g (by omega) b _ z S _ hz (by omega) hRb) fun w_ hI=>?_
     exact ⟨hF_.set 16 rfl,hI⟩
    ·obtain rfl:=fc ‹_›
     obtain rfl:=jD ‹_›
     refine cP (by rw [List.length_append]; omega) ?_
     exact ⟨hF_.set 17 rfl,hI⟩
    ·obtain rfl:=l6 ‹_›
     exact ⟨hF_.set 18 rfl,hI⟩
    obtain ⟨rfl,rfl,rfl,rfl,rfl,rfl,rfl,rfl,rfl,rfl,rfl,rfl,rfl,rfl,rfl,rfl,rfl,rfl,rfl,_⟩:=hF_.all
    clear hF_ cr cq ct cu cz cB bP cT dw fc cE cY dS fQ gx ir jD l6 pS
    exact done hI (by rw [<- h])
   ·cases h
  ·cases h
 ·rename_i hf
  rw [Bool.eq_false_iff.2 hf]
  refine aw (fun hb=>by cases hb) (fun _=>?_)
  obtain ⟨ka,kc,rfl,_⟩:=id hk
  refine ⟨fun v w'=>v=.bool (decide (t.kind=3) && decide (0<t.kids.length))/\Inv w [] [B1] S w',?_,?_⟩
  ·refine ae hI 0 rfl aQ aE rfl ?_
   by_cases h3:t.kind=3
   ·refine eC h3 ?_
    refine rpG ?_
    refine ae hI 0 rfl au aj rfl ?_
    refine ez ah ?_
    refine dB ?_
    refine rpG ?_
    refine ⟨?_,by rw [hB1]; exact hI⟩
    rw [decide_eq_true h3,Bool.true_and]
    congr 1
    rw [decide_eq_decide]
    omega
   ·refine du h3 ?_
    refine rpG ?_
    exact ⟨by rw [decide_eq_false h3,Bool.false_and],by rw [hB1]; exact hI⟩
  intro t37 _ _ _ _ _ _ _ _ _ w'
  rintro ⟨rfl,hI⟩
  subst hB1
  split at h
  ·rename_i hc3
   rw [decide_eq_true hc3.1,decide_eq_true hc3.2]
   refine aw (fun _=>?_) (fun hb=>by cases hb)
   split at h
   ·rename_i y hy
    simp only [Option.some.injEq] at h
    have hlen:(bs t.name).length+y.length+2=x.length:=by rw [<- h]; simp only [List.length_append,List.length_cons,List.length_nil]; omega
    skip
    refine ⟨fun D x2 Co BS BR BK Cn yQ yG uK w_=>Fx D 0 [uK=.pointer (some ⟨b1,2,none⟩),yG=.string t.name,yQ=.string (st (bs t.name++[40])),Cn=.pointer (some ⟨b1,3,none⟩),BK=.slice ka t.kids.length kc,BR=.string (st y),BS=.string (st (bs t.name++[40]++y)),Co=.string (st (bs t.name++[40]++y++[41])),x2=.string (st (bs t.name++[40]++y++[41]))]/\Inv w [] [.blk b1 (.cells #[.int .i64 t.kind,.int .i64 t.n,.string t.name,.slice ka t.kids.length kc] ab)] S w_,⟨Fx.nil _ _,hI.draw⟩,⟨?_,?_,?_,?_,?_,?_,?_,?_,?_,trivial⟩,?_⟩
    all_goals (intro D bx; intros; rename_i x2 Co BS BR BK Cn yQ yG uK w_ hA_; have hF_:=hA_.1; obtain ⟨⟨cr,cq,ct,cu,cz,cB,bP,cT,dw,_⟩,hI⟩:=hA_)
    ·refine aB aR ?_
     exact ⟨hF_.set 0 rfl,hI⟩
    ·obtain rfl:=cr ‹_›
     refine aS hI 0 aL rfl rfl ?_
     exact ⟨hF_.set 1 rfl,hI⟩
    ·obtain rfl:=cq ‹_›
     refine cP (a:=bs t.name) (b:=[40]) (by simp only [List.length_cons,List.length_nil]; omega) ?_
     exact ⟨hF_.set 2 rfl,hI⟩
    ·refine aB au ?_
     exact ⟨hF_.set 3 rfl,hI⟩
    ·obtain rfl:=cu ‹_›
     refine aS hI 0 aj rfl rfl ?_
     exact ⟨hF_.set 4 rfl,hI⟩
    ·obtain rfl:=cz ‹_›
     refine Run.callPure od pd hI (ihA g (by omega) t.kids y S _ hy (by omega) hk) fun w_ hI=>?_
     exact ⟨hF_.set 5 rfl,hI⟩
    ·obtain rfl:=ct ‹_›
     obtain rfl:=cB ‹_›
     refine cP (by simp only [List.length_append,List.length_cons,List.length_nil]; omega) ?_
     exact ⟨hF_.set 6 rfl,hI⟩
    ·obtain rfl:=bP ‹_›
     refine cP (b:=[41]) (by simp only [List.length_append,List.length_cons,List.length_nil]; omega) ?_
     exact ⟨hF_.set 7 rfl,hI⟩
    ·obtain rfl:=cT ‹_›
     exact ⟨hF_.set 8 rfl,hI⟩
    obtain ⟨rfl,rfl,rfl,rfl,rfl,rfl,rfl,rfl,rfl,_⟩:=hF_.all
    clear hF_ cr cq ct cu cz cB bP cT dw
    exact done hI (by rw [<- h])
   ·cases h
  ·rename_i hc3
   have e:(decide (t.kind=3) && decide (0<t.kids.length))=false:=by
    rw [Bool.eq_false_iff,ne_eq,Bool.and_eq_true,decide_eq_true_eq,decide_eq_true_eq]; exact hc3
   rw [e]
   refine aw (fun hb=>by cases hb) (fun _=>?_)
   refine aA hI 0 ac rfl rfl ?_
   refine Run.callPure GT FO hI (DL h0 hp h) fun w' hI=>?_
   exact done hI rfl
theorem Jm:∀ F f,f<F->F<=1000->wA f/\Ir f/\D5 f/\pB f/\HA f/\Eg f
 | 0,f,h,_=>by omega
 | F+1,f,h,hF=>by
  have ih:=fun g (hg:g<f)=>Jm F g (by omega) (by omega)
  have hT:wA f:=PC (fun g hg=>(ih g hg).2.1) (fun g hg=>(ih g hg).2.2.1) (fun g hg=>(ih g hg).2.2.2.2.1) (fun g hg=>(ih g hg).2.2.2.2.2)
  exact ⟨hT,M0 (by omega) (fun g hg=>(ih g hg).1) (fun g hg=>(ih g hg).2.2.1),NJ fun g hg=>(ih g hg).1,Ih fun g hg=>(ih g hg).1,Od (fun g hg=>(ih g hg).1) (fun g hg=>(ih g hg).2.2.2.1),MV fun g hg=>(ih g hg).2.2.2.1⟩
theorem BU {f:Nat} (hf:f<=100):wA f:=(Jm (f+1) f (by omega) (by omega)).1
end
end Go.Proofs.YtgllldjiaglkcaaGreatDoor

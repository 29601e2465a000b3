/- Texts written: spec.l2Text and its kin, l4Text, FormatClause. -/
import Derived.Test.YtgllldjiaglkcaaGreatDoorZMa9
namespace Go.Proofs.YtgllldjiaglkcaaGreatDoor
open Go Go.RowKit
theorem Wn:Tryz.prog.underlying Pl=some (.slice MP):=by kernel_rfl
section
variable {w:World} {S:af}
attribute [local irreducible] Run CondV aw aN
theorem jK {t:T} {cs:List Value} (h:RdT S cs t):Pure Tryz.prog RY [.agg cs.toArray] S (.bool (yS t)):=by
 intro w hI
 obtain ⟨kv,rfl,_,_,_,hk⟩:=RdT.iff.1 h
 obtain ⟨ka,kc,rfl,_⟩:=id hk
 refine CW.2 ?_
 dsimp only[CW,aL]
 refine bt hI fun b1 w' hI=>?_
 refine ag hI 0 rfl aP aH rfl ?_
 by_cases h3:t.kind=3
 ·refine gk h3 ?_
  refine rpG ?_
  refine ag hI 0 rfl bb aQ rfl ?_
  refine bO (b:=st [46]) ?_
  cases hn:decide (t.name=st [46])
  ·refine rpG ?_
   exact done hI (by rw [yS,hn,g6,lP])
  ·refine rpG ?_
   refine ag hI 0 rfl al aj rfl ?_
   refine eP ae ?_
   refine bo ?_
   refine rpG ?_
   refine done hI ?_
   rw [yS,hn,aM h3,dM,dM]
   congr 1
   rw [fK]
   omega
 ·refine ew h3 ?_
  refine rpG ?_
  exact done hI (by rw [yS,aW h3,g6])
theorem Je {t:T} {cs:List Value} (h:RdT S cs t):Pure Tryz.prog VR [.agg cs.toArray] S (.bool (W2 t)):=by
 intro w hI
 obtain ⟨kv,rfl,_,_,_,hk⟩:=RdT.iff.1 h
 obtain ⟨ka,kc,rfl,_⟩:=id hk
 refine HR.2 ?_
 dsimp only[HR,aL]
 refine bt hI fun b1 w' hI=>?_
 refine ag hI 0 rfl aP aH rfl ?_
 by_cases h3:t.kind=3
 ·refine gk h3 ?_
  refine rpG ?_
  refine ag hI 0 rfl bb aQ rfl ?_
  refine bO (b:=st [91,93]) ?_
  cases hn:decide (t.name=st [91,93])
  ·refine rpG ?_
   exact done hI (by rw [W2,hn,g6,lP])
  ·refine rpG ?_
   refine ag hI 0 rfl al aj rfl ?_
   refine eP ae ?_
   refine bo ?_
   refine rpG ?_
   refine done hI ?_
   rw [W2,hn,aM h3,dM,dM]
   congr 1
   rw [fK]
   omega
 ·refine ew h3 ?_
  refine rpG ?_
  exact done hI (by rw [W2,aW h3,g6])
theorem rp {t:T} {cs:List Value} (h:RdT S cs t):Pure Tryz.prog N7 [.agg cs.toArray] S (.bool (rb t)):=by
 intro w hI
 obtain ⟨kv,rfl,_,_,_,hk⟩:=RdT.iff.1 h
 obtain ⟨ka,kc,rfl,_⟩:=id hk
 refine zf.2 ?_
 dsimp only[zf,aL]
 refine bt hI fun b1 w' hI=>?_
 refine ag hI 0 rfl aP aH rfl ?_
 by_cases h3:t.kind=3
 ·refine gk h3 ?_
  refine rpG ?_
  refine ag hI 0 rfl al aj rfl ?_
  refine eP ae ?_
  by_cases hn:t.kids.length=2
  ·refine gk (by omega) ?_
   refine rpG ?_
   refine ag hI 0 rfl bb aQ rfl ?_
   refine Run.callPure ge gi hI (eM _ S) fun w' hI=>?_
   refine dC ?_
   refine rpG ?_
   exact done hI (by rw [rb,aM h3,aM hn,dM,dM])
  ·refine ew (by omega) ?_
   refine rpG ?_
   exact done hI (by rw [rb,aW hn,g6,lP])
 ·refine ew h3 ?_
  refine rpG ?_
  exact done hI (by rw [rb,aW h3,g6])
theorem s4 {t:T} {cs:List Value} (h:RdT S cs t):Pure Tryz.prog TG [.agg cs.toArray] S (.bool (DE t)):=by
 intro w hI
 obtain ⟨kv,rfl,_,_,_,hk⟩:=RdT.iff.1 h
 obtain ⟨ka,kc,rfl,_⟩:=id hk
 refine Db.2 ?_
 dsimp only[Db,aL]
 refine bt hI fun b1 w' hI=>?_
 refine ag hI 0 rfl aP aH rfl ?_
 by_cases h3:t.kind=3
 ·refine gk h3 ?_
  refine rpG ?_
  refine ag hI 0 rfl al aj rfl ?_
  refine eP ae ?_
  by_cases hn:t.kids.length=0
  ·refine gk (by omega) ?_
   refine rpG ?_
   refine ag hI 0 rfl bb aQ rfl ?_
   refine Run.callPure ge gi hI (eM _ S) fun w' hI=>?_
   refine dC ?_
   refine rpG ?_
   exact done hI (by rw [DE,aM h3,aM hn,dM,dM])
  ·refine ew (by omega) ?_
   refine rpG ?_
   exact done hI (by rw [DE,aW hn,g6,lP])
 ·refine ew h3 ?_
  refine rpG ?_
  exact done hI (by rw [DE,aW h3,g6])
theorem Hz (n:Bs) (hn:n.length<=1000000):Pure Tryz.prog N0 [.string (st n)] S (.string (st (jB n))):=by
 intro w hI
 refine wk.2 ?_
 dsimp only[wk,aL]
 refine ⟨fun b w'=>b=.bool (decide (n=[105,115]) || decide (n=[109,111,100]))/\Inv w [] [] S w',?_,?_⟩
 ·refine Hf (b:=[105,115]) ?_
  cases h5:decide (n=[105,115])
  ·refine rpG ?_
   refine Hf (b:=[109,111,100]) ?_
   refine rpG ?_
   exact ⟨by rw [fL],hI⟩
  ·refine rpG ?_
   exact ⟨by rw [vJ],hI⟩
 intro t8 _ _ _ _ _ w'
 rintro ⟨rfl,hI⟩
 refine az (fun hb=>?_) (fun hb=>?_)
 ·rw [jC,bk,bk] at hb
  refine du (a:=[32]) (by simp; omega) ?_
  refine du (b:=[32]) (by simp; omega) ?_
  exact done hI (by rw [jB,ai hb]; rfl)
 ·rw [Qw,ji,ji] at hb
  exact done hI (by rw [jB,ah (by rintro (h|h); exact hb.1 h; exact hb.2 h)])
theorem Jm (s:Bs) (h0:0<s.length):Pure Tryz.prog QV [.string (st s)] S (.bool (Mc s)):=by
 intro w hI
 refine Ah.2 ?_
 dsimp only[Ah,aL]
 have e1:Mc s=(sml s 0 || (dig s 0 || (upp s 0 || (sgn s 0 91 || sgn s 0 40)))):=rfl
 have eu:upp s 0=(decide (65<=s[0].toNat) && decide (s[0].toNat<=90)):=lo h0 65 90
 have ea:sgn s 0 91=decide (s[0].toNat=91):=jh h0 91
 have eb:sgn s 0 40=decide (s[0].toNat=40):=jh h0 40
 refine Run.callPure yI yT hI (rv s 0 S) fun w' hI=>?_
 cases hs:sml s 0
 ·refine rpG ?_
  refine Run.callPure im ia hI (fm s 0 S) fun w' hI=>?_
  cases hd:dig s 0
  ·refine rpG ?_
   refine dZ (i:=0) aU h0 ?_
   rw [hs,hd,fL,fL] at e1
   by_cases h65:65<=s[0].toNat
   ·refine o9 (by omega) ?_
    refine rpG ?_
    refine dZ (i:=0) aU h0 ?_
    by_cases h90:s[0].toNat<=90
    ·refine Fu (by omega) ?_
     refine rpG ?_
     exact done hI (by rw [e1,eu,aM h65,aM h90]; rfl)
    ·refine Wu (by omega) ?_
     refine rpG ?_
     refine dZ (i:=0) aU h0 ?_
     by_cases h91:s[0].toNat=91
     ·refine gk (by omega) ?_
      refine rpG ?_
      exact done hI (by rw [e1,ea,aM h91,vJ,UB])
     ·refine ew (by omega) ?_
      refine rpG ?_
      refine dZ (i:=0) aU h0 ?_
      refine ew (by omega) ?_
      refine rpG ?_
      exact done hI (by rw [e1,eu,ea,eb,aW h90,aW h91,aW (show ¬ s[0].toNat=40 by omega),lP]; rfl)
   ·refine tO (by omega) ?_
    refine rpG ?_
    refine dZ (i:=0) aU h0 ?_
    refine ew (by omega) ?_
    refine rpG ?_
    refine dZ (i:=0) aU h0 ?_
    by_cases h40:s[0].toNat=40
    ·refine gk (by omega) ?_
     refine rpG ?_
     exact done hI (by rw [e1,eb,aM h40,UB,UB])
    ·refine ew (by omega) ?_
     refine rpG ?_
     exact done hI (by rw [e1,eu,ea,eb,aW h65,aW (show ¬ s[0].toNat=91 by omega),aW h40,g6]; rfl)
  ·refine rpG ?_
   exact done hI (by rw [e1,hd,vJ,UB])
 ·refine rpG ?_
  exact done hI (by rw [e1,hs,vJ])
theorem Ii {n:Int} (h:0<=n/\n<=25):Pure Tryz.prog Mp [.int .i64 n] S (.string (st [UInt8.ofNat (65+n.toNat)])):=by
 intro w hI
 refine wA.2 ?_
 dsimp only[wA,aL]
 refine qz fQ gq (IntWalk.u8_in _ (by omega)) ?_
 refine abm (c:=((65+n.toNat:Nat):Int)) ?_ ?_
 ·rw [IntWalk.u8_in _ (by omega)]; omega
 refine GA hI Bd Wn gq aU fun w' hI=>?_
 exact done hI rfl
theorem OK:∀ (f n:Nat) (out r:Bs),JR f n out=some r->out.length<r.length/\r.length<=out.length+f
 | 0,_,_,_,h=>by simp [JR] at h
 | f+1,n,out,r,h=>by
  rw [JR] at h
  split at h
  ·have:=OK f _ _ _ h
   simp only [bu] at this
   omega
  ·simp only [bg] at h
   subst h
   simp only [bu]
   omega
theorem yh {f n:Nat} {r:Bs} (h:JR f n []=some r) (hn:n<=100000) (hf:f<=1000):Pure Tryz.prog R1 [.int .i64 (n:Int)] S (.string (st r)):=by
 intro w hI
 refine DO.2 ?_
 dsimp only[DO,aL]
 refine eT (by omega) ?_
 refine az (fun hb=>by cases hb) (fun _=>?_)
 refine eT (by omega) ?_
 refine az (fun hb=>by cases hb) (fun _=>?_)
 refine ⟨fun a b w'=>∃ (f' m:Nat) (out:Bs),a=.int .i64 (m:Int)/\b=.string (st out)/\m<=100000/\out.length+f'<=1000/\JR f' m out=some r/\Inv w [] [] S w',fun a _ _=>(intOf a).toNat,⟨f,n,[],rfl,rfl,hn,by simpa using hf,h,hI⟩,?_⟩
 intro t0 _ _ t3 _ _ _ _ _ _ _ _ _ _ w'
 rintro ⟨f',m,out,rfl,rfl,hm,hof,hd,hI⟩
 cases f' with
 | zero=>simp [JR] at hd
 | succ g=>
 rw [JR] at hd
 split at hd
 ·rename_i h9
  refine Sa (by omega) ?_
  refine az (fun _=>?_) (fun hb=>by cases hb)
  refine R9 (a:=m) (b:=10) rfl rfl (by omega) ?_
  refine eB (a:=48) (b:=m % 10) rfl rfl (by omega) ?_
  refine qz fQ gq (IntWalk.u8_in _ (by omega)) ?_
  refine GA hI Bd Wn gq aU fun w' hI=>?_
  refine du (by simp; omega) ?_
  refine SH (a:=m) (b:=10) rfl rfl (by omega) (by omega) ?_
  refine ⟨⟨g,m / 10,UInt8.ofNat (48+m % 10)::out,rfl,rfl,by omega,by simp only [bu]; omega,hd,hI⟩,?_⟩
  simp only [intOf,cV]
  omega
 ·rename_i h9
  refine oZ (by omega) ?_
  refine az (fun hb=>by cases hb) (fun _=>?_)
  refine eB (a:=48) (b:=m) rfl rfl (by omega) ?_
  refine qz fQ gq (IntWalk.u8_in _ (by omega)) ?_
  refine GA hI Bd Wn gq aU fun w' hI=>?_
  refine du (by simp; omega) ?_
  simp only [bg] at hd
  exact done hI (by rw [<- hd]; rfl)
theorem PZ {n:Int} {r:Bs} (h:aaL n=some r) (hn:-999<=n/\n<=999):Pure Tryz.prog V4 [.int .i64 n] S (.string (st r)):=by
 intro w hI
 refine FY.2 ?_
 dsimp only[FY,aL]
 unfold aaL at h
 split at h
 ·rename_i h0
  refine Gc h0 ?_
  refine az (fun _=>?_) (fun hb=>by cases hb)
  refine ZZ (by omega) ?_
  obtain ⟨m,hm⟩:∃ m:Nat,-n=(m:Int):=⟨(-n).toNat,by omega⟩
  rw [hm] at h ⊢
  rw [cV,RM] at h
  obtain ⟨l,hl,rfl⟩:=h
  have:=OK _ _ _ _ hl
  refine Run.callPure Dt CR hI (yh hl (by omega) (by omega)) fun w' hI=>?_
  refine du (a:=[45]) (by simp only [bQ,bu] at this ⊢; omega) ?_
  exact done hI rfl
 ·rename_i h0
  refine eT h0 ?_
  refine az (fun hb=>by cases hb) (fun _=>?_)
  obtain ⟨m,rfl⟩:∃ m:Nat,n=(m:Int):=⟨n.toNat,by omega⟩
  rw [cV] at h
  refine Run.callPure Dt CR hI (yh h (by omega) (by omega)) fun w' hI=>?_
  exact done hI rfl
theorem ye {t:T} {cs:List Value} {x:Bs} (h:RdT S cs t) (hp:yS t=false) (hx:Ud t=some x):Pure Tryz.prog F4 [.agg cs.toArray] S (.string (st x)):=by
 intro w hI
 have h0:=h
 obtain ⟨kv,rfl,_,_,_,hk⟩:=RdT.iff.1 h
 obtain ⟨ka,kc,rfl,_⟩:=id hk
 refine og.2 ?_
 dsimp only[og,aL]
 unfold Ud at hx
 refine bt hI fun b1 w' hI=>?_
 refine ag hI 0 rfl aP aH rfl ?_
 split at hx
 ·rename_i h1
  refine gk h1 ?_
  refine az (fun _=>?_) (fun hb=>by cases hb)
  refine ag hI 0 rfl bh aH rfl ?_
  split at hx
  ·rename_i h2
   refine Run.callPure JC JY hI (Ii h2) fun w' hI=>?_
   simp only [bg] at hx
   exact done hI (by rw [<- hx])
  ·cases hx
 ·rename_i h1
  refine ew h1 ?_
  refine az (fun hb=>by cases hb) (fun _=>?_)
  split at hx
  ·rename_i h2
   refine gk h2 ?_
   refine az (fun _=>?_) (fun hb=>by cases hb)
   refine ag hI 0 rfl bh aH rfl ?_
   split at hx
   ·rename_i h3
    refine Run.callPure So RQ hI (PZ hx h3) fun w' hI=>?_
    exact done hI rfl
   ·cases hx
  ·rename_i h2
   refine ew h2 ?_
   refine az (fun hb=>by cases hb) (fun _=>?_)
   split at hx
   ·rename_i h3
    simp only [bg] at hx
    refine ar hI 0 ad rfl rfl ?_
    refine Run.callPure nN nH hI (jK h0) fun w' hI=>?_
    rw [hp]
    refine az (fun hb=>by cases hb) (fun _=>?_)
    refine ag hI 0 rfl bb aQ rfl ?_
    refine ⟨fun a b w'=>a=.int .i64 0/\b=.string t.name/\Inv w [] [.blk b1 (.cells #[.int .i64 t.kind,.int .i64 t.n,.string t.name,.slice ka t.kids.length kc] ac)] S w',fun _ _ _=>0,⟨rfl,rfl,hI⟩,?_⟩
    intro t4 _ _ _ _ _ _ _ _ _ _ _ _ t3 _ _ _ _ _ _ _ _ _ w'
    rintro ⟨rfl,rfl,hI⟩
    refine ag hI 0 rfl al aj rfl ?_
    refine eP ae ?_
    refine eT (by omega) ?_
    refine az (fun hb=>by cases hb) (fun _=>?_)
    refine ⟨fun b w'=>b=.string t.name/\Inv w [] [.blk b1 (.cells #[.int .i64 t.kind,.int .i64 t.n,.string t.name,.slice ka t.kids.length kc] ac)] S w',?_,?_⟩
    ·refine ag hI 0 rfl al aj rfl ?_
     refine eP ae ?_
     refine oZ (by omega) ?_
     refine az (fun hb=>by cases hb) (fun _=>?_)
     exact ⟨rfl,hI⟩
    intro t3 _ _ _ _ _ _ w'
    rintro ⟨rfl,hI⟩
    exact done hI (by rw [<- hx])
   ·cases hx
end
theorem LF:∀ (f:Nat) (l:List T) (out x:Bs),rU f l out=some x->out.length<=x.length
 | 0,_,_,_,h=>by simp [rU] at h
 | _+1,[],out,x,h=>by simp [rU] at h; subst h; exact aR _
 | f+1,t::l,out,x,h=>by
  rw [rU] at h
  split at h
  ·cases h
  ·have:=LF f _ _ _ h
   simp only [bx] at this
   omega
def lenOf:Value->Nat
 | .slice _ n _=>n
 | _=>0
def Eh (f:Nat):Prop:=∀ (t:T) (x:Bs) (S:af) (cs:List Value),Nd f t=some x->x.length<=1000000->RdT S cs t->Pure Tryz.prog RJ [.agg cs.toArray] S (.string (st x))
def St (f:Nat):Prop:=∀ (t:T) (x:Bs) (S:af) (cs:List Value),K7 f t []=some x->x.length<=1000000->RdT S cs t->Pure Tryz.prog Q8 [.agg cs.toArray] S (.string (st x))
def Nx (f:Nat):Prop:=∀ (ts:List T) (x:Bs) (S:af) (u:Value),rU f ts []=some x->x.length<=1000000->RdSl S 4 (RdT S) u ts->Pure Tryz.prog RG [u] S (.string (st x))
def ve (f:Nat):Prop:=∀ (t:T) (l:Int) (x:Bs) (S:af) (cs:List Value),uh f t l=some x->x.length<=1000000->RdT S cs t->Pure Tryz.prog Jr [.agg cs.toArray,.int .i64 l] S (.string (st x))
def Rn (f:Nat):Prop:=∀ (t:T) (l:Int) (x:Bs) (S:af) (cs:List Value),Uq f t l=some x->x.length<=1000000->RdT S cs t->Pure Tryz.prog Q9 [.agg cs.toArray,.int .i64 l] S (.string (st x))
def Ma (f:Nat):Prop:=∀ (t:T) (l:Int) (x:Bs) (S:af) (cs:List Value),Mv f t l=some x->x.length<=1000000->RdT S cs t->Pure Tryz.prog QI [.agg cs.toArray,.int .i64 l] S (.string (st x))
section
attribute [local irreducible] Run CondV aw aN
theorem ZQ {f:Nat} (ih:∀ g,g<f->Eh g):Nx f:=by
 intro ts x S u h hx hu w hI
 refine DJ.2 ?_
 dsimp only[DJ,aL]
 refine ⟨fun a b w'=>∃ (f' j:Nat) (out acc:Bs),f'<=f/\j<=ts.length/\a=.int .i64 (j:Int)/\b=.string (st out)/\acc=out++(if 0<j/\j<ts.length then [44] else [])/\rU f' (ts.drop j) acc=some x/\Inv w [] [] S w',
  fun a _ _=>ts.length - (intOf a).toNat,⟨f,0,[],[],aR _,be _,rfl,rfl,by simp,h,hI⟩,?_⟩
 intro t4 _ _ _ _ _ _ _ _ _ t3 _ _ _ _ _ _ _ _ w'
 rintro ⟨f',j,out,acc,hf',hj,rfl,rfl,hacc,ha,hI⟩
 cases f' with
 | zero=>simp [rU] at ha
 | succ g=>
 refine aC hu ae ?_
 refine bF ?_
 refine aI (fun hji=>?_) (fun hji=>?_)
 ·have hj':j<ts.length:=by omega
  rw [cZ hj',rU] at ha
  split at ha
  ·cases ha
  rename_i y hy
  have hlen:=LF _ _ _ _ ha
  simp only [bx] at hlen
  refine ⟨fun b w'=>b=.string (st acc)/\Inv w [] [] S w',?_,?_⟩
  ·refine dC ?_
   refine aI (fun h0=>?_) (fun h0=>?_)
   ·rw [ai (by omega)] at hacc
    refine du (b:=[44]) (by rw [hacc,bx] at hlen; simp only [bu,bQ] at hlen ⊢; omega) ?_
    exact ⟨by rw [hacc],hI⟩
   ·rw [ah (by omega),dB] at hacc
    exact ⟨by rw [hacc],hI⟩
  intro t3 _ _ _ _ w'
  rintro ⟨rfl,hI⟩
  refine cE hI hu ae ad hj' (fun _ _=>RdT.length) fun cs hcs=>?_
  refine Run.callPure g9 hZ hI (ih g (by omega) _ y S cs hy (by omega) hcs) fun w' hI=>?_
  refine du (by omega) ?_
  refine bq (by have:=hu.le; simp only [maxLen] at this; omega) ?_
  refine ⟨⟨g,j+1,acc++y,_,by omega,hj',rfl,rfl,rfl,?_,hI⟩,by simp only [intOf,cV]; omega⟩
  have e:(if ts.drop (j+1)=[] then [] else [44]:Bs)=if 0<j+1/\j+1<ts.length then [44] else []:=by
   by_cases h1:j+1<ts.length
   ·rw [ah (fun h2=>by rw [List.drop_eq_nil_iff] at h2; omega),ai (by omega)]
   ·rw [ai (jQ (by omega)),ah (by omega)]
  rw [<- e]
  exact ha
 ·have:j=ts.length:=by omega
  subst this
  rw [dL,rU] at ha
  simp only [bg] at ha
  rw [ah (by omega),dB] at hacc
  exact done hI (by rw [<- ha,hacc])
theorem Tv {f:Nat} (ih:∀ g,g<f->Eh g):ve f:=by
 intro t l x S cs h hx hc w hI
 cases f with
 | zero=>simp [uh] at h
 | succ g=>
 rw [uh] at h
 split at h
 ·cases h
 rename_i y hy
 simp only [bg] at h
 have h0:=hc
 obtain ⟨kv,rfl,_,_,_,hk⟩:=RdT.iff.1 hc
 obtain ⟨ka,kc,rfl,_⟩:=id hk
 have hyx:y.length<=1000000/\y.length+2<=9000000:=by
  have:y.length<=x.length:=by
   rw [<- h]; split
   ·simp; omega
   ·omega
  omega
 refine tP.2 ?_
 dsimp only[tP,aZ]
 refine bt hI fun b1 w' hI=>?_
 refine ⟨fun b w'=>b=.bool (rb t && decide (l<cM t.name))/\Inv w [] [.blk b1 (.cells #[.int .i64 t.kind,.int .i64 t.n,.string t.name,.slice ka t.kids.length kc] ac)] S w',?_,?_⟩
 ·refine ar hI 0 ad rfl rfl ?_
  refine Run.callPure z0 zm hI (rp h0) fun w' hI=>?_
  cases hf:rb t
  ·refine rpG ?_
   exact ⟨by rw [g6],hI⟩
  ·refine rpG ?_
   refine ag hI 0 rfl bb aQ rfl ?_
   refine Run.callPure ge gi hI (eM _ S) fun w' hI=>?_
   refine dC ?_
   refine rpG ?_
   exact ⟨by rw [dM],hI⟩
 intro t13 _ _ _ _ _ _ _ _ w'
 rintro ⟨rfl,hI⟩
 refine az (fun hb=>?_) (fun hb=>?_)
 ·rw [bw,bk] at hb
  rw [ai hb] at h
  refine ar hI 0 ad rfl rfl ?_
  refine Run.callPure g9 hZ hI (ih g (by omega) t y S _ hy hyx.1 h0) fun w' hI=>?_
  refine du (a:=[40]) (by simp only [bu,bQ]; omega) ?_
  refine du (b:=[41]) (by simp only [bx,bu,bQ]; omega) ?_
  exact done hI (by rw [<- h])
 ·rw [ah (fun hh=>by rw [Bool.and_eq_false_iff,ji] at hb; rcases hb with hb|hb; rw [hh.1] at hb; cases hb; exact hb hh.2)] at h
  refine ar hI 0 ad rfl rfl ?_
  refine Run.callPure g9 hZ hI (ih g (by omega) t y S _ hy hyx.1 h0) fun w' hI=>?_
  exact done hI (by rw [<- h])
theorem Zi {f:Nat} (ih:∀ g,g<f->Eh g) (ihB:∀ g,g<f->ve g):Rn f:=by
 intro t l x S cs h hx hc w hI
 cases f with
 | zero=>simp [Uq] at h
 | succ g=>
 rw [Uq] at h
 have h0:=hc
 obtain ⟨kv,rfl,_,_,_,hk⟩:=RdT.iff.1 hc
 obtain ⟨ka,kc,rfl,_⟩:=id hk
 refine D5.2 ?_
 dsimp only[D5,aZ]
 refine bt hI fun b1 w' hI=>?_
 refine ar hI 0 ad rfl rfl ?_
 refine Run.callPure D3 Ed hI (s4 h0) fun w' hI=>?_
 split at h
 ·rename_i hs
  split at h
  ·cases h
  rename_i y hy
  simp only [bg] at h
  have hyx:y.length+2=x.length:=by rw [<- h]; simp only [bx,bu,bQ]; omega
  rw [hs]
  refine az (fun _=>?_) (fun hb=>by cases hb)
  refine ar hI 0 ad rfl rfl ?_
  refine Run.callPure g9 hZ hI (ih g (by omega) t y S _ hy (by omega) h0) fun w' hI=>?_
  refine du (a:=[40]) (by simp only [bu,bQ]; omega) ?_
  refine du (b:=[41]) (by simp only [bx,bu,bQ]; omega) ?_
  exact done hI (by rw [<- h])
 ·rename_i hs
  rw [bH.2 hs]
  refine az (fun hb=>by cases hb) (fun _=>?_)
  refine ar hI 0 ad rfl rfl ?_
  refine Run.callPure sY uo hI (ihB g (by omega) t l x S _ h hx h0) fun w' hI=>?_
  exact done hI rfl
theorem Yn {f:Nat} (ihB:∀ g,g<f->ve g):Ma f:=by
 intro t l x S cs h hx hc w hI
 cases f with
 | zero=>simp [Mv] at h
 | succ g=>
 rw [Mv] at h
 split at h
 ·cases h
 rename_i y hy
 split at h
 ·cases h
 rename_i hne
 simp only [bg] at h
 have hy0:0<y.length:=by
  cases y with
  | nil=>exact absurd rfl hne
  | cons a l=>simp
 have hyx:y.length<=1000000:=by
  have:y.length<=x.length:=by
   rw [<- h]; split
   ·simp; omega
   ·omega
  omega
 have h0:=hc
 obtain ⟨kv,rfl,_,_,_,hk⟩:=RdT.iff.1 hc
 obtain ⟨ka,kc,rfl,_⟩:=id hk
 refine Ad.2 ?_
 dsimp only[Ad,aZ]
 refine bt hI fun b1 w' hI=>?_
 refine ar hI 0 ad rfl rfl ?_
 refine Run.callPure sY uo hI (ihB g (by omega) t l y S _ hy hyx h0) fun w' hI=>?_
 refine ⟨fun b w'=>b=.bool (DE t || !Mc y)/\Inv w [] [.blk b1 (.cells #[.int .i64 t.kind,.int .i64 t.n,.string t.name,.slice ka t.kids.length kc] ac)] S w',?_,?_⟩
 ·refine ar hI 0 ad rfl rfl ?_
  refine Run.callPure D3 Ed hI (s4 h0) fun w' hI=>?_
  cases hs:DE t
  ·refine rpG ?_
   refine Run.callPure MO NU hI (Jm y hy0) fun w' hI=>?_
   refine bX ?_
   refine rpG ?_
   exact ⟨by rw [fL],hI⟩
  ·refine rpG ?_
   exact ⟨by rw [vJ],hI⟩
 intro t15 _ _ _ _ _ _ w'
 rintro ⟨rfl,hI⟩
 refine az (fun hb=>?_) (fun hb=>?_)
 ·rw [jC,js] at hb
  rw [ai hb] at h
  refine du (a:=[40]) (by simp only [bu,bQ]; omega) ?_
  refine du (b:=[41]) (by simp only [bx,bu,bQ]; omega) ?_
  exact done hI (by rw [<- h])
 ·rw [ah (fun hh=>by rw [<- js,<- jC,hb] at hh; cases hh)] at h
  exact done hI (by rw [<- h])
theorem Y0 {f:Nat} (hf:f<=100000) (ih:∀ g,g<f->Eh g) (ihA:∀ g,g<f->Nx g):St f:=by
 intro t x S cs h hx hc w hI
 obtain ⟨kv,rfl,_,_,_,hk⟩:=RdT.iff.1 hc
 refine C8.2 ?_
 dsimp only[C8,aL]
 refine bt hI fun b1 w' hI=>?_
 refine eQ hI bj fun v0 w' hI=>?_
 refine ⟨fun a w'=>∃ (f':Nat) (t':T) (items:List T) (ds:List Value) (css:List (List Value)),f'+items.length=f/\K7 f' t' items=some x/\RdT S ds t'/\Rows 4 (RdT S) css items/\(∃ p m,a=.slice p items.length m)/\Inv w [] [.blk b1 (.cells ds.toArray ac),aJ a ac 4 css] S w',
  fun a _=>f+1 - lenOf a,⟨f,t,[],_,[],by simp,h,hc,Rows.nil _ _,?_,hI⟩,?_⟩
 ·have hI2:Inv w [] ([Item.blk b1 (.cells #[.int .i64 t.kind,.int .i64 t.n,.string t.name,kv] ac)]++[aJ v0 ac 4 []]) S w':=hI
  obtain ⟨S1,_,hrd,_⟩:=Inv.lendExt hI2
  obtain ⟨p,m,e,_⟩:=RowRd.rows (Rows.nil 4 (RdT S)) hrd
  exact ⟨p,m,e⟩
 clear h hc hk hI
 intro _ _ _ _ t3 _ _ _ _ _ _ _ _ _ w'
 rintro ⟨f',t',items,ds,css,hfl,hl,hd,hR,⟨p,m,rfl⟩,hI⟩
 have hd0:=hd
 obtain ⟨kd,rfl,_,_,_,hk⟩:=RdT.iff.1 hd
 have hcl:=hR.hc
 cases f' with
 | zero=>simp [K7] at hl
 | succ g=>
 rw [K7] at hl
 refine ar hI 0 ad rfl rfl ?_
 refine Run.callPure nN nH hI (jK hd0) fun w' hI=>?_
 split at hl
 ·rename_i hp
  split at hl
  ·rename_i a b hab
   rw [hp]
   refine az (fun _=>?_) (fun hb=>by cases hb)
   rw [hab] at hk
   refine ag hI 0 rfl al aj rfl ?_
   refine cE (i:=0) hI hk ae ad (by simp) (fun _ _=>RdT.length) fun es hes=>?_
   rw [mF] at hes
   refine dD (css:=css) hI 1 es bj (by omega) (by omega) rfl hes.length hes.one (by omega) (by omega) fun v' w' hI=>?_
   refine ag hI 0 rfl al aj rfl ?_
   refine cE (i:=1) hI hk ae ad (by simp) (fun _ _=>RdT.length) fun gs hgs=>?_
   rw [Kj,mF] at hgs
   have hg1:=hgs.length
   refine aA hI 0 rfl ad (by simpa using hg1) rfl (by simpa using hgs.one) fun w' hI=>?_
   have hR2:=hR.snoc hes hes.length
   have hI2:Inv w [] ([Item.blk b1 (.cells gs.toArray ac)]++[aJ v' ac 4 (css++[es])]) S w':=hI
   obtain ⟨S1,hE1,hrd,_⟩:=Inv.lendExt hI2
   obtain ⟨p',m',e',_⟩:=RowRd.rows hR2 hrd
   refine ⟨⟨g,b,items++[a],gs,css++[es],by rw [bx]; simp only [bu,bQ]; omega,hl,hgs,hR2,⟨p',m',e'⟩,hI⟩,?_⟩
   rw [e']
   simp only [lenOf,bx,bu,bQ]
   omega
  ·cases hl
 ·rename_i hp
  rw [bH.2 hp]
  refine az (fun hb=>by cases hb) (fun _=>?_)
  split at hl
  ·cases hl
  rename_i y hy
  refine ar hI 0 ad rfl rfl ?_
  refine Run.callPure Tb SS hI (Je hd0) fun w' hI=>?_
  have hI2:Inv w [] ([Item.blk b1 (.cells #[.int .i64 t'.kind,.int .i64 t'.n,.string t'.name,kd] ac)]++[aJ (.slice p items.length m) ac 4 css]) S w':=hI
  obtain ⟨S1,hE1,hrd,hI⟩:=Inv.lendExt hI2
  have hrs:=RowRd.rows (hR.monoR fun _ _ h=>RdT.mono hE1.1 h) hrd
  have hd1:=RdT.mono hE1.1 hd0
  split at hl
  ·rename_i hn
   simp only [bg] at hl
   have hyx:y.length+2=x.length:=by rw [<- hl]; simp only [bx,bu,bQ]; omega
   rw [hn]
   refine az (fun _=>?_) (fun hb=>by cases hb)
   refine Run.callPure sE uC hI (ihA g (by omega) items y S1 _ hy (by omega) hrs) fun w' hI=>?_
   refine du (a:=[91]) (by simp only [bu,bQ]; omega) ?_
   refine du (b:=[93]) (by simp only [bx,bu,bQ]; omega) ?_
   exact jz hI hE1.1 (by rw [<- hl])
  ·rename_i hn
   split at hl
   ·cases hl
   rename_i z hz
   simp only [bg] at hl
   have hyx:y.length+z.length+3=x.length:=by rw [<- hl]; simp only [bx,bu,bQ]; omega
   rw [bH.2 hn]
   refine az (fun hb=>by cases hb) (fun _=>?_)
   refine ⟨fun D x2 v9 iq qs jL r2 lE fF kU w_=>Fx D 0 [kU=.slice p items.length m,fF=.string (st y),lE=.string (st ([91]++y)),r2=.string (st ([91]++y++[124])),jL=.agg #[.int .i64 t'.kind,.int .i64 t'.n,.string t'.name,kd],qs=.string (st z),iq=.string (st ([91]++y++[124]++z)),v9=.string (st ([91]++y++[124]++z++[93])),x2=.string (st ([91]++y++[124]++z++[93]))]/\Inv w [] [.blk b1 (.cells #[.int .i64 t'.kind,.int .i64 t'.n,.string t'.name,kd] ac)] S1 w_,⟨Fx.nil _ _,hI.draw⟩,⟨?_,?_,?_,?_,?_,?_,?_,?_,?_,trivial⟩,?_⟩
   all_goals (intro D bP; intros; rename_i x2 v9 iq qs jL r2 lE fF kU w_ hA_; have hF_:=hA_.1; obtain ⟨⟨cm,cj,cd,ci,bT,ct,bZ,cR,dq,_⟩,hI⟩:=hA_)
   ·exact ⟨hF_.set 0 rfl,hI⟩
   ·obtain rfl:=cm ‹_›
    refine Run.callPure sE uC hI (ihA g (by omega) items y S1 _ hy (by omega) hrs) fun w_ hI=>?_
    exact ⟨hF_.set 1 rfl,hI⟩
   ·obtain rfl:=cj ‹_›
    refine du (a:=[91]) (by simp only [bu,bQ]; omega) ?_
    exact ⟨hF_.set 2 rfl,hI⟩
   ·obtain rfl:=cd ‹_›
    refine du (b:=[124]) (by simp only [bx,bu,bQ]; omega) ?_
    exact ⟨hF_.set 3 rfl,hI⟩
   ·refine ar hI 0 ad rfl rfl ?_
    exact ⟨hF_.set 4 rfl,hI⟩
   ·obtain rfl:=bT ‹_›
    refine Run.callPure g9 hZ hI (ih g (by omega) t' z S1 _ hz (by omega) hd1) fun w_ hI=>?_
    exact ⟨hF_.set 5 rfl,hI⟩
   ·obtain rfl:=ci ‹_›
    obtain rfl:=ct ‹_›
    refine du (by simp only [bx,bu,bQ]; omega) ?_
    exact ⟨hF_.set 6 rfl,hI⟩
   ·obtain rfl:=bZ ‹_›
    refine du (b:=[93]) (by simp only [bx,bu,bQ]; omega) ?_
    exact ⟨hF_.set 7 rfl,hI⟩
   ·obtain rfl:=cR ‹_›
    exact ⟨hF_.set 8 rfl,hI⟩
   obtain ⟨rfl,rfl,rfl,rfl,rfl,rfl,rfl,rfl,rfl,_⟩:=hF_.all
   clear hF_ cm cj cd ci bT ct bZ cR dq
   exact jz hI hE1.1 (by rw [<- hl])
theorem aaQ {f:Nat} (ihL:∀ g,g<f->St g) (ihA:∀ g,g<f->Nx g) (ihF:∀ g,g<f->Rn g) (ihR:∀ g,g<f->Ma g):Eh f:=by
 intro t x S cs h hx hc w hI
 cases f with
 | zero=>simp [Nd] at h
 | succ g=>
 rw [Nd] at h
 have h0:=hc
 obtain ⟨kv,rfl,_,_,_,hk⟩:=RdT.iff.1 hc
 refine CK.2 ?_
 dsimp only[CK,aL]
 refine bt hI fun b1 w' hI=>?_
 obtain ⟨B1,hB1⟩:∃ B1,B1=Item.blk b1 (.cells #[.int .i64 t.kind,.int .i64 t.n,.string t.name,kv] ac):=⟨_,rfl⟩
 refine ar hI 0 ad rfl rfl ?_
 refine Run.callPure nN nH hI (jK h0) fun w' hI=>?_
 split at h
 ·rename_i hp
  rw [hp]
  refine az (fun _=>?_) (fun hb=>by cases hb)
  refine ar hI 0 ad rfl rfl ?_
  refine Run.callPure PK Oz hI (ihL g (by omega) t x S _ h hx h0) fun w' hI=>?_
  exact done hI rfl
 rename_i hp
 have hp:=bH.2 hp
 rw [hp]
 refine az (fun hb=>by cases hb) (fun _=>?_)
 refine ar hI 0 ad rfl rfl ?_
 refine Run.callPure z0 zm hI (rp h0) fun w' hI=>?_
 split at h
 ·rename_i hf
  rw [hf]
  refine az (fun _=>?_) (fun hb=>by cases hb)
  split at h
  ·rename_i a b hab
   obtain ⟨lv,hlv⟩:∃ lv,lv=cM t.name:=⟨_,rfl⟩
   rw [<- hlv] at h
   have hlr:1<=lv/\lv<=3:=by
    have h1:0<cM t.name:=by
     unfold rb at hf
     simp only [bw,bk] at hf
     exact hf.2.2
    have h2:cM t.name<=3:=by
     unfold cM
     split
     ·omega
     ·split
      ·omega
      ·split <;> omega
    omega
   split at h
   ·rename_i y z hy hz
    simp only [bg] at h
    have hlen:y.length+(jB (bs t.name)).length+z.length=x.length:=by rw [<- h]; simp only [bx]
    have hsp:(bs t.name).length<=(jB (bs t.name)).length:=by
     unfold jB
     split
     ·simp; omega
     ·omega
    rw [hab] at hk
    obtain ⟨b2,o2,cap2,c2,E2,fz2,rfl,hS,hRa⟩:=hk.at_ (i:=0) (by simp)
    obtain ⟨b2',o2',cap2',c2',E2',fz2',hsl,hS',hRb⟩:=hk.at_ (i:=1) (by simp)
    cases hsl
    rw [hS] at hS'
    cases hS'
    rw [mF] at hRa
    rw [Kj,mF] at hRb
    refine ag hI 0 rfl bb aQ rfl ?_
    refine Run.callPure ge gi hI (eM _ S) fun w' hI=>?_
    rw [<- hlv]
    have hI:Inv w [] [B1] S w':=by rw [hB1]; exact hI
    refine ⟨fun v w'=>v=.int .i64 (if lv=3 then 2 else lv)/\Inv w [] [B1] S w',?_,?_⟩
    ·refine bo ?_
     refine aI (fun h3=>⟨by rw [ai h3],hI⟩) (fun h3=>⟨by rw [ah h3],hI⟩)
    intro t4 _ _ w'
    rintro ⟨rfl,hI⟩
    subst hB1
    skip
    refine ⟨fun D x2 zE yH JJ GE LH v9 iq qs jL r2 lE fF kU tA tR sv nj lS w_=>Fx D 0 [lS=.pointer (some ⟨b1,3,none⟩),nj=.slice (some ⟨b2,o2,none⟩) [a,b].length cap2,sv=.pointer (some ⟨b2,o2+0 * 4,none⟩),tR=.agg (aO c2 (o2+0 * 4) 4).toArray,tA=.int .i64 (if lv=3 then 2 else lv),kU=.string (st y),fF=.pointer (some ⟨b1,2,none⟩),lE=.string t.name,r2=.string (st (jB (bs t.name))),jL=.string (st (y++jB (bs t.name))),qs=.pointer (some ⟨b1,3,none⟩),iq=.slice (some ⟨b2,o2,none⟩) [a,b].length cap2,v9=.pointer (some ⟨b2,o2+1 * 4,none⟩),LH=.agg (aO c2 (o2+1 * 4) 4).toArray,GE=.int .i64 lv,JJ=.int .i64 (lv - 1),yH=.string (st z),zE=.string (st (y++jB (bs t.name)++z)),x2=.string (st (y++jB (bs t.name)++z))]/\Inv w [] [.blk b1 (.cells #[.int .i64 t.kind,.int .i64 t.n,.string t.name,.slice (some ⟨b2,o2,none⟩) [a,b].length cap2] ac)] S w_,⟨Fx.nil _ _,hI.draw⟩,⟨?_,?_,?_,?_,?_,?_,?_,?_,?_,?_,?_,?_,?_,?_,?_,?_,?_,?_,?_,trivial⟩,?_⟩
    all_goals (intro D bP; intros; rename_i x2 zE yH JJ GE LH v9 iq qs jL r2 lE fF kU tA tR sv nj lS w_ hA_; have hF_:=hA_.1; obtain ⟨⟨cm,cj,cd,ci,bT,ct,bZ,cR,dq,er,co,cG,dJ,fl,fS,gD,kF,nn,qL,_⟩,hI⟩:=hA_)
    ·refine aB al ?_
     exact ⟨hF_.set 0 rfl,hI⟩
    ·obtain rfl:=cm ‹_›
     refine aX hI 0 aj rfl rfl ?_
     exact ⟨hF_.set 1 rfl,hI⟩
    ·obtain rfl:=cj ‹_›
     refine aD (i:=0) ae (by simp) ?_
     exact ⟨hF_.set 2 rfl,hI⟩
    ·obtain rfl:=cd ‹_›
     refine bK ad hRa.length (fun j v hj=>by rw [hI.cellS hS]; exact aK rfl j v hj) ?_
     exact ⟨hF_.set 3 rfl,hI⟩
    ·exact ⟨hF_.set 4 rfl,hI⟩
    ·obtain rfl:=ci ‹_›
     obtain rfl:=bT ‹_›
     refine Run.callPure Ou N9 hI (ihF g (by omega) a _ y S _ hy (by omega) hRa) fun w_ hI=>?_
     exact ⟨hF_.set 5 rfl,hI⟩
    ·refine aB bb ?_
     exact ⟨hF_.set 6 rfl,hI⟩
    ·obtain rfl:=bZ ‹_›
     refine aX hI 0 aQ rfl rfl ?_
     exact ⟨hF_.set 7 rfl,hI⟩
    ·obtain rfl:=cR ‹_›
     refine Run.callPure Jx Jb hI (Hz (bs t.name) (by omega)) fun w_ hI=>?_
     exact ⟨hF_.set 8 rfl,hI⟩
    ·obtain rfl:=ct ‹_›
     obtain rfl:=dq ‹_›
     refine du (by omega) ?_
     exact ⟨hF_.set 9 rfl,hI⟩
    ·refine aB al ?_
     exact ⟨hF_.set 10 rfl,hI⟩
    ·obtain rfl:=co ‹_›
     refine aX hI 0 aj rfl rfl ?_
     exact ⟨hF_.set 11 rfl,hI⟩
    ·obtain rfl:=cG ‹_›
     refine aD (i:=1) ae (by simp) ?_
     exact ⟨hF_.set 12 rfl,hI⟩
    ·obtain rfl:=dJ ‹_›
     refine bK ad hRb.length (fun j v hj=>by rw [hI.cellS hS]; exact aK rfl j v hj) ?_
     exact ⟨hF_.set 13 rfl,hI⟩
    ·exact ⟨hF_.set 14 rfl,hI⟩
    ·obtain rfl:=fS ‹_›
     refine mz (by omega) ?_
     exact ⟨hF_.set 15 rfl,hI⟩
    ·obtain rfl:=fl ‹_›
     obtain rfl:=gD ‹_›
     refine Run.callPure Nb MB hI (ihR g (by omega) b _ z S _ hz (by omega) hRb) fun w_ hI=>?_
     exact ⟨hF_.set 16 rfl,hI⟩
    ·obtain rfl:=er ‹_›
     obtain rfl:=kF ‹_›
     refine du (by rw [bx]; omega) ?_
     exact ⟨hF_.set 17 rfl,hI⟩
    ·obtain rfl:=nn ‹_›
     exact ⟨hF_.set 18 rfl,hI⟩
    obtain ⟨rfl,rfl,rfl,rfl,rfl,rfl,rfl,rfl,rfl,rfl,rfl,rfl,rfl,rfl,rfl,rfl,rfl,rfl,rfl,_⟩:=hF_.all
    clear hF_ cm cj cd ci bT ct bZ cR dq er co cG dJ fl fS gD kF nn qL
    exact done hI (by rw [<- h])
   ·cases h
  ·cases h
 ·rename_i hf
  rw [bH.2 hf]
  refine az (fun hb=>by cases hb) (fun _=>?_)
  obtain ⟨ka,kc,rfl,_⟩:=id hk
  refine ⟨fun v w'=>v=.bool (decide (t.kind=3) && decide (0<t.kids.length))/\Inv w [] [B1] S w',?_,?_⟩
  ·refine ag hI 0 rfl aP aH rfl ?_
   by_cases h3:t.kind=3
   ·refine gk h3 ?_
    refine rpG ?_
    refine ag hI 0 rfl al aj rfl ?_
    refine eP ae ?_
    refine dC ?_
    refine rpG ?_
    refine ⟨?_,by rw [hB1]; exact hI⟩
    rw [aM h3,dM]
    congr 1
    rw [fK]
    omega
   ·refine ew h3 ?_
    refine rpG ?_
    exact ⟨by rw [aW h3,g6],by rw [hB1]; exact hI⟩
  intro t37 _ _ _ _ _ _ _ _ _ w'
  rintro ⟨rfl,hI⟩
  subst hB1
  split at h
  ·rename_i hc3
   rw [aM hc3.1,aM hc3.2]
   refine az (fun _=>?_) (fun hb=>by cases hb)
   split at h
   ·rename_i y hy
    simp only [bg] at h
    have hlen:(bs t.name).length+y.length+2=x.length:=by rw [<- h]; simp only [bx,bu,bQ]; omega
    skip
    refine ⟨fun D x2 Gu GP C9 DN C5 Ai rY rx w_=>Fx D 0 [rx=.pointer (some ⟨b1,2,none⟩),rY=.string t.name,Ai=.string (st (bs t.name++[40])),C5=.pointer (some ⟨b1,3,none⟩),DN=.slice ka t.kids.length kc,C9=.string (st y),GP=.string (st (bs t.name++[40]++y)),Gu=.string (st (bs t.name++[40]++y++[41])),x2=.string (st (bs t.name++[40]++y++[41]))]/\Inv w [] [.blk b1 (.cells #[.int .i64 t.kind,.int .i64 t.n,.string t.name,.slice ka t.kids.length kc] ac)] S w_,⟨Fx.nil _ _,hI.draw⟩,⟨?_,?_,?_,?_,?_,?_,?_,?_,?_,trivial⟩,?_⟩
    all_goals (intro D bP; intros; rename_i x2 Gu GP C9 DN C5 Ai rY rx w_ hA_; have hF_:=hA_.1; obtain ⟨⟨cm,cj,cd,ci,bT,ct,bZ,cR,dq,_⟩,hI⟩:=hA_)
    ·refine aB bb ?_
     exact ⟨hF_.set 0 rfl,hI⟩
    ·obtain rfl:=cm ‹_›
     refine aX hI 0 aQ rfl rfl ?_
     exact ⟨hF_.set 1 rfl,hI⟩
    ·obtain rfl:=cj ‹_›
     refine du (a:=bs t.name) (b:=[40]) (by simp only [bu,bQ]; omega) ?_
     exact ⟨hF_.set 2 rfl,hI⟩
    ·refine aB al ?_
     exact ⟨hF_.set 3 rfl,hI⟩
    ·obtain rfl:=ci ‹_›
     refine aX hI 0 aj rfl rfl ?_
     exact ⟨hF_.set 4 rfl,hI⟩
    ·obtain rfl:=bT ‹_›
     refine Run.callPure sE uC hI (ihA g (by omega) t.kids y S _ hy (by omega) hk) fun w_ hI=>?_
     exact ⟨hF_.set 5 rfl,hI⟩
    ·obtain rfl:=cd ‹_›
     obtain rfl:=ct ‹_›
     refine du (by simp only [bx,bu,bQ]; omega) ?_
     exact ⟨hF_.set 6 rfl,hI⟩
    ·obtain rfl:=bZ ‹_›
     refine du (b:=[41]) (by simp only [bx,bu,bQ]; omega) ?_
     exact ⟨hF_.set 7 rfl,hI⟩
    ·obtain rfl:=cR ‹_›
     exact ⟨hF_.set 8 rfl,hI⟩
    obtain ⟨rfl,rfl,rfl,rfl,rfl,rfl,rfl,rfl,rfl,_⟩:=hF_.all
    clear hF_ cm cj cd ci bT ct bZ cR dq
    exact done hI (by rw [<- h])
   ·cases h
  ·rename_i hc3
   have e:(decide (t.kind=3) && decide (0<t.kids.length))=false:=by
    rw [bH,ne_eq,bw,bk,bk]; exact hc3
   rw [e]
   refine az (fun hb=>by cases hb) (fun _=>?_)
   refine ar hI 0 ad rfl rfl ?_
   refine Run.callPure tQ uw hI (ye h0 hp h) fun w' hI=>?_
   exact done hI rfl
theorem Ui:∀ F f,f<F->F<=1000->Eh f/\St f/\Nx f/\ve f/\Rn f/\Ma f
 | 0,f,h,_=>by omega
 | F+1,f,h,hF=>by
  have ih:=fun g (hg:g<f)=>Ui F g (by omega) (by omega)
  have hT:Eh f:=aaQ (fun g hg=>(ih g hg).2.1) (fun g hg=>(ih g hg).2.2.1) (fun g hg=>(ih g hg).2.2.2.2.1) (fun g hg=>(ih g hg).2.2.2.2.2)
  exact ⟨hT,Y0 (by omega) (fun g hg=>(ih g hg).1) (fun g hg=>(ih g hg).2.2.1),ZQ fun g hg=>(ih g hg).1,Tv fun g hg=>(ih g hg).1,Zi (fun g hg=>(ih g hg).1) (fun g hg=>(ih g hg).2.2.2.1),Yn fun g hg=>(ih g hg).2.2.2.1⟩
theorem KH {f:Nat} (hf:f<=100):Eh f:=(Ui (f+1) f (by omega) (by omega)).1
end
end Go.Proofs.YtgllldjiaglkcaaGreatDoor

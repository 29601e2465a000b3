/- Texts written: spec.l2Text and its kin, l4Text, FormatClause. -/
import Derived.Test.YtgllldjiaglkcaaGreatDoorZMp7
namespace Go.Proofs.YtgllldjiaglkcaaGreatDoor
open Go Go.RowKit
theorem Wd:Tryz.prog.underlying OJ=some (.slice ND):=by kernel_rfl
section
variable {w:World} {S:ae}
attribute [local irreducible] Run CondV az aO
theorem mT {t:T} {cs:List Value} (h:RdT S cs t):Pure Tryz.prog Rb [.agg cs.toArray] S (.bool (He t)):=by
 intro w hI
 obtain ⟨kv,rfl,_,_,_,hk⟩:=RdT.iff.1 h
 obtain ⟨ka,kc,rfl,_⟩:=id hk
 refine CJ.2 ?_
 dsimp only[CJ,aM]
 refine bq hI fun b1 w' hI=>?_
 refine af hI 0 rfl aR aG rfl ?_
 by_cases h3:t.kind=3
 ·refine gF h3 ?_
  refine rpG ?_
  refine af hI 0 rfl bb aU rfl ?_
  refine bS (b:=st [46]) ?_
  cases hn:decide (t.name=st [46])
  ·refine rpG ?_
   exact done hI (by rw [He,hn,iG,kY])
  ·refine rpG ?_
   refine af hI 0 rfl ao aj rfl ?_
   refine eV ag ?_
   refine bl ?_
   refine rpG ?_
   refine done hI ?_
   rw [He,hn,aI h3,dg,dg]
   congr 1
   rw [fg]
   omega
 ·refine fm h3 ?_
  refine rpG ?_
  exact done hI (by rw [He,aP h3,iG])
theorem Iy {t:T} {cs:List Value} (h:RdT S cs t):Pure Tryz.prog VI [.agg cs.toArray] S (.bool (W9 t)):=by
 intro w hI
 obtain ⟨kv,rfl,_,_,_,hk⟩:=RdT.iff.1 h
 obtain ⟨ka,kc,rfl,_⟩:=id hk
 refine Ig.2 ?_
 dsimp only[Ig,aM]
 refine bq hI fun b1 w' hI=>?_
 refine af hI 0 rfl aR aG rfl ?_
 by_cases h3:t.kind=3
 ·refine gF h3 ?_
  refine rpG ?_
  refine af hI 0 rfl bb aU rfl ?_
  refine bS (b:=st [91,93]) ?_
  cases hn:decide (t.name=st [91,93])
  ·refine rpG ?_
   exact done hI (by rw [W9,hn,iG,kY])
  ·refine rpG ?_
   refine af hI 0 rfl ao aj rfl ?_
   refine eV ag ?_
   refine bl ?_
   refine rpG ?_
   refine done hI ?_
   rw [W9,hn,aI h3,dg,dg]
   congr 1
   rw [fg]
   omega
 ·refine fm h3 ?_
  refine rpG ?_
  exact done hI (by rw [W9,aP h3,iG])
theorem rW {t:T} {cs:List Value} (h:RdT S cs t):Pure Tryz.prog Qh [.agg cs.toArray] S (.bool (ri t)):=by
 intro w hI
 obtain ⟨kv,rfl,_,_,_,hk⟩:=RdT.iff.1 h
 obtain ⟨ka,kc,rfl,_⟩:=id hk
 refine Av.2 ?_
 dsimp only[Av,aM]
 refine bq hI fun b1 w' hI=>?_
 refine af hI 0 rfl aR aG rfl ?_
 by_cases h3:t.kind=3
 ·refine gF h3 ?_
  refine rpG ?_
  refine af hI 0 rfl ao aj rfl ?_
  refine eV ag ?_
  by_cases hn:t.kids.length=2
  ·refine gF (by omega) ?_
   refine rpG ?_
   refine af hI 0 rfl bb aU rfl ?_
   refine Run.callPure gg gf hI (eJ _ S) fun w' hI=>?_
   refine dA ?_
   refine rpG ?_
   exact done hI (by rw [ri,aI h3,aI hn,dg,dg])
  ·refine fm (by omega) ?_
   refine rpG ?_
   exact done hI (by rw [ri,aP hn,iG,kY])
 ·refine fm h3 ?_
  refine rpG ?_
  exact done hI (by rw [ri,aP h3,iG])
theorem tK {t:T} {cs:List Value} (h:RdT S cs t):Pure Tryz.prog SW [.agg cs.toArray] S (.bool (De t)):=by
 intro w hI
 obtain ⟨kv,rfl,_,_,_,hk⟩:=RdT.iff.1 h
 obtain ⟨ka,kc,rfl,_⟩:=id hk
 refine DM.2 ?_
 dsimp only[DM,aM]
 refine bq hI fun b1 w' hI=>?_
 refine af hI 0 rfl aR aG rfl ?_
 by_cases h3:t.kind=3
 ·refine gF h3 ?_
  refine rpG ?_
  refine af hI 0 rfl ao aj rfl ?_
  refine eV ag ?_
  by_cases hn:t.kids.length=0
  ·refine gF (by omega) ?_
   refine rpG ?_
   refine af hI 0 rfl bb aU rfl ?_
   refine Run.callPure gg gf hI (eJ _ S) fun w' hI=>?_
   refine dA ?_
   refine rpG ?_
   exact done hI (by rw [De,aI h3,aI hn,dg,dg])
  ·refine fm (by omega) ?_
   refine rpG ?_
   exact done hI (by rw [De,aP hn,iG,kY])
 ·refine fm h3 ?_
  refine rpG ?_
  exact done hI (by rw [De,aP h3,iG])
theorem Gy (n:Bs) (hn:n.length<=1000000):Pure Tryz.prog Mz [.string (st n)] S (.string (st (ju n))):=by
 intro w hI
 refine wz.2 ?_
 dsimp only[wz,aM]
 refine ⟨fun b w'=>b=.bool (decide (n=[105,115]) || decide (n=[109,111,100]))/\Inv w [] [] S w',?_,?_⟩
 ·refine Fo (b:=[105,115]) ?_
  cases h5:decide (n=[105,115])
  ·refine rpG ?_
   refine Fo (b:=[109,111,100]) ?_
   refine rpG ?_
   exact ⟨by rw [fV],hI⟩
  ·refine rpG ?_
   exact ⟨by rw [s6],hI⟩
 intro t8 _ _ _ _ _ w'
 rintro ⟨rfl,hI⟩
 refine aw (fun hb=>?_) (fun hb=>?_)
 ·rw [jR,bk,bk] at hb
  refine eh (a:=[32]) (by simp; omega) ?_
  refine eh (b:=[32]) (by simp; omega) ?_
  exact done hI (by rw [ju,ai hb]; rfl)
 ·rw [KU,jC,jC] at hb
  exact done hI (by rw [ju,ah (by rintro (h|h); exact hb.1 h; exact hb.2 h)])
theorem Ip (s:Bs) (h0:0<s.length):Pure Tryz.prog Qs [.string (st s)] S (.bool (MB s)):=by
 intro w hI
 refine zw.2 ?_
 dsimp only[zw,aM]
 have e1:MB s=(sml s 0 || (dig s 0 || (upp s 0 || (sgn s 0 91 || sgn s 0 40)))):=rfl
 have eu:upp s 0=(decide (65<=s[0].toNat) && decide (s[0].toNat<=90)):=rb h0 65 90
 have ea:sgn s 0 91=decide (s[0].toNat=91):=mZ h0 91
 have eb:sgn s 0 40=decide (s[0].toNat=40):=mZ h0 40
 refine Run.callPure zE yi hI (rM s 0 S) fun w' hI=>?_
 cases hs:sml s 0
 ·refine rpG ?_
  refine Run.callPure l4 lZ hI (iZ s 0 S) fun w' hI=>?_
  cases hd:dig s 0
  ·refine rpG ?_
   refine fa (i:=0) ba h0 ?_
   rw [hs,hd,fV,fV] at e1
   by_cases h65:65<=s[0].toNat
   ·refine qJ (by omega) ?_
    refine rpG ?_
    refine fa (i:=0) ba h0 ?_
    by_cases h90:s[0].toNat<=90
    ·refine MO (by omega) ?_
     refine rpG ?_
     exact done hI (by rw [e1,eu,aI h65,aI h90]; rfl)
    ·refine WZ (by omega) ?_
     refine rpG ?_
     refine fa (i:=0) ba h0 ?_
     by_cases h91:s[0].toNat=91
     ·refine gF (by omega) ?_
      refine rpG ?_
      exact done hI (by rw [e1,ea,aI h91,s6,Tx])
     ·refine fm (by omega) ?_
      refine rpG ?_
      refine fa (i:=0) ba h0 ?_
      refine fm (by omega) ?_
      refine rpG ?_
      exact done hI (by rw [e1,eu,ea,eb,aP h90,aP h91,aP (show ¬ s[0].toNat=40 by omega),kY]; rfl)
   ·refine Ct (by omega) ?_
    refine rpG ?_
    refine fa (i:=0) ba h0 ?_
    refine fm (by omega) ?_
    refine rpG ?_
    refine fa (i:=0) ba h0 ?_
    by_cases h40:s[0].toNat=40
    ·refine gF (by omega) ?_
     refine rpG ?_
     exact done hI (by rw [e1,eb,aI h40,Tx,Tx])
    ·refine fm (by omega) ?_
     refine rpG ?_
     exact done hI (by rw [e1,eu,ea,eb,aP h65,aP (show ¬ s[0].toNat=91 by omega),aP h40,iG]; rfl)
  ·refine rpG ?_
   exact done hI (by rw [e1,hd,s6,Tx])
 ·refine rpG ?_
  exact done hI (by rw [e1,hs,s6])
theorem Hi {n:Int} (h:0<=n/\n<=25):Pure Tryz.prog LI [.int .i64 n] S (.string (st [UInt8.ofNat (65+n.toNat)])):=by
 intro w hI
 refine vI.2 ?_
 dsimp only[vI,aM]
 refine sJ fK gY (IntWalk.u8_in _ (by omega)) ?_
 refine aaj (c:=((65+n.toNat:Nat):Int)) ?_ ?_
 ·rw [IntWalk.u8_in _ (by omega)]; omega
 refine Hu hI Cz Wd gY ba fun w' hI=>?_
 exact done hI rfl
theorem Qw:∀ (f n:Nat) (out r:Bs),JL f n out=some r->out.length<r.length/\r.length<=out.length+f
 | 0,_,_,_,h=>by simp [JL] at h
 | f+1,n,out,r,h=>by
  rw [JL] at h
  split at h
  ·have:=Qw f _ _ _ h
   simp only [bw] at this
   omega
  ·simp only [bg] at h
   subst h
   simp only [bw]
   omega
theorem y3 {f n:Nat} {r:Bs} (h:JL f n []=some r) (hn:n<=100000) (hf:f<=1000):Pure Tryz.prog RY [.int .i64 (n:Int)] S (.string (st r)):=by
 intro w hI
 refine DS.2 ?_
 dsimp only[DS,aM]
 refine fN (by omega) ?_
 refine aw (fun hb=>by cases hb) (fun _=>?_)
 refine fN (by omega) ?_
 refine aw (fun hb=>by cases hb) (fun _=>?_)
 refine ⟨fun a b w'=>∃ (f' m:Nat) (out:Bs),a=.int .i64 (m:Int)/\b=.string (st out)/\m<=100000/\out.length+f'<=1000/\JL f' m out=some r/\Inv w [] [] S w',fun a _ _=>(intOf a).toNat,⟨f,n,[],rfl,rfl,hn,by simpa using hf,h,hI⟩,?_⟩
 intro t0 _ _ t3 _ _ _ _ _ _ _ _ _ _ w'
 rintro ⟨f',m,out,rfl,rfl,hm,hof,hd,hI⟩
 cases f' with
 | zero=>simp [JL] at hd
 | succ g=>
 rw [JL] at hd
 split at hd
 ·rename_i h9
  refine Rg (by omega) ?_
  refine aw (fun _=>?_) (fun hb=>by cases hb)
  refine QX (a:=m) (b:=10) rfl rfl (by omega) ?_
  refine fI (a:=48) (b:=m % 10) rfl rfl (by omega) ?_
  refine sJ fK gY (IntWalk.u8_in _ (by omega)) ?_
  refine Hu hI Cz Wd gY ba fun w' hI=>?_
  refine eh (by simp; omega) ?_
  refine Su (a:=m) (b:=10) rfl rfl (by omega) (by omega) ?_
  refine ⟨⟨g,m / 10,UInt8.ofNat (48+m % 10)::out,rfl,rfl,by omega,by simp only [bw]; omega,hd,hI⟩,?_⟩
  simp only [intOf,dv]
  omega
 ·rename_i h9
  refine o3 (by omega) ?_
  refine aw (fun hb=>by cases hb) (fun _=>?_)
  refine fI (a:=48) (b:=m) rfl rfl (by omega) ?_
  refine sJ fK gY (IntWalk.u8_in _ (by omega)) ?_
  refine Hu hI Cz Wd gY ba fun w' hI=>?_
  refine eh (by simp; omega) ?_
  simp only [bg] at hd
  exact done hI (by rw [<- hd]; rfl)
theorem Qk {n:Int} {r:Bs} (h:Z3 n=some r) (hn:-999<=n/\n<=999):Pure Tryz.prog UY [.int .i64 n] S (.string (st r)):=by
 intro w hI
 refine Ib.2 ?_
 dsimp only[Ib,aM]
 unfold Z3 at h
 split at h
 ·rename_i h0
  refine F8 h0 ?_
  refine aw (fun _=>?_) (fun hb=>by cases hb)
  refine Zu (by omega) ?_
  obtain ⟨m,hm⟩:∃ m:Nat,-n=(m:Int):=⟨(-n).toNat,by omega⟩
  rw [hm] at h ⊢
  rw [dv,QL] at h
  obtain ⟨l,hl,rfl⟩:=h
  have:=Qw _ _ _ _ hl
  refine Run.callPure Da Dg hI (y3 hl (by omega) (by omega)) fun w' hI=>?_
  refine eh (a:=[45]) (by simp only [bU,bw] at this ⊢; omega) ?_
  exact done hI rfl
 ·rename_i h0
  refine fN h0 ?_
  refine aw (fun hb=>by cases hb) (fun _=>?_)
  obtain ⟨m,rfl⟩:∃ m:Nat,n=(m:Int):=⟨n.toNat,by omega⟩
  rw [dv] at h
  refine Run.callPure Da Dg hI (y3 h (by omega) (by omega)) fun w' hI=>?_
  exact done hI rfl
theorem LN {t:T} {cs:List Value} {x:Bs} (h:RdT S cs t) (hp:He t=false) (hx:V2 t=some x):Pure Tryz.prog Tc [.agg cs.toArray] S (.string (st x)):=by
 intro w hI
 have h0:=h
 obtain ⟨kv,rfl,_,_,_,hk⟩:=RdT.iff.1 h
 obtain ⟨ka,kc,rfl,_⟩:=id hk
 refine Dp.2 ?_
 dsimp only[Dp,aM]
 unfold V2 at hx
 refine bq hI fun b1 w' hI=>?_
 refine af hI 0 rfl aR aG rfl ?_
 split at hx
 ·rename_i h1
  refine gF h1 ?_
  refine aw (fun _=>?_) (fun hb=>by cases hb)
  refine af hI 0 rfl bf aG rfl ?_
  split at hx
  ·rename_i h2
   refine Run.callPure Jo Iu hI (Hi h2) fun w' hI=>?_
   simp only [bg] at hx
   exact done hI (by rw [<- hx])
  ·cases hx
 ·rename_i h1
  refine fm h1 ?_
  refine aw (fun hb=>by cases hb) (fun _=>?_)
  split at hx
  ·rename_i h2
   refine gF h2 ?_
   refine aw (fun _=>?_) (fun hb=>by cases hb)
   refine af hI 0 rfl bf aG rfl ?_
   split at hx
   ·rename_i h3
    refine Run.callPure SG QV hI (Qk hx h3) fun w' hI=>?_
    exact done hI rfl
   ·cases hx
  ·rename_i h2
   refine fm h2 ?_
   refine aw (fun hb=>by cases hb) (fun _=>?_)
   split at hx
   ·rename_i h3
    simp only [bg] at hx
    refine av hI 0 ad rfl rfl ?_
    refine Run.callPure tQ tS hI (mT h0) fun w' hI=>?_
    rw [hp]
    refine aw (fun hb=>by cases hb) (fun _=>?_)
    refine af hI 0 rfl bb aU rfl ?_
    refine ⟨fun a b w'=>a=.int .i64 0/\b=.string t.name/\Inv w [] [.blk b1 (.cells #[.int .i64 t.kind,.int .i64 t.n,.string t.name,.slice ka t.kids.length kc] ab)] S w',fun _ _ _=>0,⟨rfl,rfl,hI⟩,?_⟩
    intro t4 _ _ _ _ _ _ _ _ _ _ _ _ t3 _ _ _ _ _ _ _ _ _ w'
    rintro ⟨rfl,rfl,hI⟩
    refine af hI 0 rfl ao aj rfl ?_
    refine eV ag ?_
    refine fN (by omega) ?_
    refine aw (fun hb=>by cases hb) (fun _=>?_)
    refine ⟨fun b w'=>b=.string t.name/\Inv w [] [.blk b1 (.cells #[.int .i64 t.kind,.int .i64 t.n,.string t.name,.slice ka t.kids.length kc] ab)] S w',?_,?_⟩
    ·refine af hI 0 rfl ao aj rfl ?_
     refine eV ag ?_
     refine o3 (by omega) ?_
     refine aw (fun hb=>by cases hb) (fun _=>?_)
     exact ⟨rfl,hI⟩
    intro t3 _ _ _ _ _ _ w'
    rintro ⟨rfl,hI⟩
    exact done hI (by rw [<- hx])
   ·cases hx
end
theorem JU:∀ (f:Nat) (l:List T) (out x:Bs),rx f l out=some x->out.length<=x.length
 | 0,_,_,_,h=>by simp [rx] at h
 | _+1,[],out,x,h=>by simp [rx] at h; subst h; exact aW _
 | f+1,t::l,out,x,h=>by
  rw [rx] at h
  split at h
  ·cases h
  ·have:=JU f _ _ _ h
   simp only [bA] at this
   omega
def lenOf:Value->Nat
 | .slice _ n _=>n
 | _=>0
def Dk (f:Nat):Prop:=∀ (t:T) (x:Bs) (S:ae) (cs:List Value),ML f t=some x->x.length<=1000000->RdT S cs t->Pure Tryz.prog RD [.agg cs.toArray] S (.string (st x))
def R3 (f:Nat):Prop:=∀ (t:T) (x:Bs) (S:ae) (cs:List Value),J0 f t []=some x->x.length<=1000000->RdT S cs t->Pure Tryz.prog Sb [.agg cs.toArray] S (.string (st x))
def Np (f:Nat):Prop:=∀ (ts:List T) (x:Bs) (S:ae) (u:Value),rx f ts []=some x->x.length<=1000000->RdSl S 4 (RdT S) u ts->Pure Tryz.prog R9 [u] S (.string (st x))
def uZ (f:Nat):Prop:=∀ (t:T) (l:Int) (x:Bs) (S:ae) (cs:List Value),s9 f t l=some x->x.length<=1000000->RdT S cs t->Pure Tryz.prog Jx [.agg cs.toArray,.int .i64 l] S (.string (st x))
def SS (f:Nat):Prop:=∀ (t:T) (l:Int) (x:Bs) (S:ae) (cs:List Value),UD f t l=some x->x.length<=1000000->RdT S cs t->Pure Tryz.prog Rw [.agg cs.toArray,.int .i64 l] S (.string (st x))
def L3 (f:Nat):Prop:=∀ (t:T) (l:Int) (x:Bs) (S:ae) (cs:List Value),Mh f t l=some x->x.length<=1000000->RdT S cs t->Pure Tryz.prog P1 [.agg cs.toArray,.int .i64 l] S (.string (st x))
section
attribute [local irreducible] Run CondV az aO
theorem YU {f:Nat} (ih:∀ g,g<f->Dk g):Np f:=by
 intro ts x S u h hx hu w hI
 refine D3.2 ?_
 dsimp only[D3,aM]
 refine ⟨fun a b w'=>∃ (f' j:Nat) (out acc:Bs),f'<=f/\j<=ts.length/\a=.int .i64 (j:Int)/\b=.string (st out)/\acc=out++(if 0<j/\j<ts.length then [44] else [])/\rx f' (ts.drop j) acc=some x/\Inv w [] [] S w',
  fun a _ _=>ts.length - (intOf a).toNat,⟨f,0,[],[],aW _,be _,rfl,rfl,by simp,h,hI⟩,?_⟩
 intro t4 _ _ _ _ _ _ _ _ _ t3 _ _ _ _ _ _ _ _ w'
 rintro ⟨f',j,out,acc,hf',hj,rfl,rfl,hacc,ha,hI⟩
 cases f' with
 | zero=>simp [rx] at ha
 | succ g=>
 refine aF hu ag ?_
 refine bH ?_
 refine aL (fun hji=>?_) (fun hji=>?_)
 ·have hj':j<ts.length:=by omega
  rw [cU hj',rx] at ha
  split at ha
  ·cases ha
  rename_i y hy
  have hlen:=JU _ _ _ _ ha
  simp only [bA] at hlen
  refine ⟨fun b w'=>b=.string (st acc)/\Inv w [] [] S w',?_,?_⟩
  ·refine dA ?_
   refine aL (fun h0=>?_) (fun h0=>?_)
   ·rw [ai (by omega)] at hacc
    refine eh (b:=[44]) (by rw [hacc,bA] at hlen; simp only [bw,bU] at hlen ⊢; omega) ?_
    exact ⟨by rw [hacc],hI⟩
   ·rw [ah (by omega),dh] at hacc
    exact ⟨by rw [hacc],hI⟩
  intro t3 _ _ _ _ w'
  rintro ⟨rfl,hI⟩
  refine cL hI hu ag ad hj' (fun _ _=>RdT.length) fun cs hcs=>?_
  refine Run.callPure gS hH hI (ih g (by omega) _ y S cs hy (by omega) hcs) fun w' hI=>?_
  refine eh (by omega) ?_
  refine bp (by have:=hu.le; simp only [maxLen] at this; omega) ?_
  refine ⟨⟨g,j+1,acc++y,_,by omega,hj',rfl,rfl,rfl,?_,hI⟩,by simp only [intOf,dv]; omega⟩
  have e:(if ts.drop (j+1)=[] then [] else [44]:Bs)=if 0<j+1/\j+1<ts.length then [44] else []:=by
   by_cases h1:j+1<ts.length
   ·rw [ah (fun h2=>by rw [List.drop_eq_nil_iff] at h2; omega),ai (by omega)]
   ·rw [ai (jT (by omega)),ah (by omega)]
  rw [<- e]
  exact ha
 ·have:j=ts.length:=by omega
  subst this
  rw [dO,rx] at ha
  simp only [bg] at ha
  rw [ah (by omega),dh] at hacc
  exact done hI (by rw [<- ha,hacc])
theorem RK {f:Nat} (ih:∀ g,g<f->Dk g):uZ f:=by
 intro t l x S cs h hx hc w hI
 cases f with
 | zero=>simp [s9] at h
 | succ g=>
 rw [s9] at h
 split at h
 ·cases h
 rename_i y hy
 simp only [bg] at h
 have h0:=hc
 obtain ⟨kv,rfl,_,_,_,hk⟩:=RdT.iff.1 hc
 obtain ⟨ka,kc,rfl,_⟩:=id hk
 have hyx:y.length<=1000000/\y.length+2<=9000000:=by
  have:y.length<=x.length:=by
   rw [<- h]; split
   ·simp; omega
   ·omega
  omega
 refine sE.2 ?_
 dsimp only[sE,aY]
 refine bq hI fun b1 w' hI=>?_
 refine ⟨fun b w'=>b=.bool (ri t && decide (l<cJ t.name))/\Inv w [] [.blk b1 (.cells #[.int .i64 t.kind,.int .i64 t.n,.string t.name,.slice ka t.kids.length kc] ab)] S w',?_,?_⟩
 ·refine av hI 0 ad rfl rfl ?_
  refine Run.callPure yL yu hI (rW h0) fun w' hI=>?_
  cases hf:ri t
  ·refine rpG ?_
   exact ⟨by rw [iG],hI⟩
  ·refine rpG ?_
   refine af hI 0 rfl bb aU rfl ?_
   refine Run.callPure gg gf hI (eJ _ S) fun w' hI=>?_
   refine dA ?_
   refine rpG ?_
   exact ⟨by rw [dg],hI⟩
 intro t13 _ _ _ _ _ _ _ _ w'
 rintro ⟨rfl,hI⟩
 refine aw (fun hb=>?_) (fun hb=>?_)
 ·rw [bu,bk] at hb
  rw [ai hb] at h
  refine av hI 0 ad rfl rfl ?_
  refine Run.callPure gS hH hI (ih g (by omega) t y S _ hy hyx.1 h0) fun w' hI=>?_
  refine eh (a:=[40]) (by simp only [bw,bU]; omega) ?_
  refine eh (b:=[41]) (by simp only [bA,bw,bU]; omega) ?_
  exact done hI (by rw [<- h])
 ·rw [ah (fun hh=>by rw [Bool.and_eq_false_iff,jC] at hb; rcases hb with hb|hb; rw [hh.1] at hb; cases hb; exact hb hh.2)] at h
  refine av hI 0 ad rfl rfl ?_
  refine Run.callPure gS hH hI (ih g (by omega) t y S _ hy hyx.1 h0) fun w' hI=>?_
  exact done hI (by rw [<- h])
theorem Zb {f:Nat} (ih:∀ g,g<f->Dk g) (ihB:∀ g,g<f->uZ g):SS f:=by
 intro t l x S cs h hx hc w hI
 cases f with
 | zero=>simp [UD] at h
 | succ g=>
 rw [UD] at h
 have h0:=hc
 obtain ⟨kv,rfl,_,_,_,hk⟩:=RdT.iff.1 hc
 obtain ⟨ka,kc,rfl,_⟩:=id hk
 refine DP.2 ?_
 dsimp only[DP,aY]
 refine bq hI fun b1 w' hI=>?_
 refine av hI 0 ad rfl rfl ?_
 refine Run.callPure DD C1 hI (tK h0) fun w' hI=>?_
 split at h
 ·rename_i hs
  split at h
  ·cases h
  rename_i y hy
  simp only [bg] at h
  have hyx:y.length+2=x.length:=by rw [<- h]; simp only [bA,bw,bU]; omega
  rw [hs]
  refine aw (fun _=>?_) (fun hb=>by cases hb)
  refine av hI 0 ad rfl rfl ?_
  refine Run.callPure gS hH hI (ih g (by omega) t y S _ hy (by omega) h0) fun w' hI=>?_
  refine eh (a:=[40]) (by simp only [bw,bU]; omega) ?_
  refine eh (b:=[41]) (by simp only [bA,bw,bU]; omega) ?_
  exact done hI (by rw [<- h])
 ·rename_i hs
  rw [bB.2 hs]
  refine aw (fun hb=>by cases hb) (fun _=>?_)
  refine av hI 0 ad rfl rfl ?_
  refine Run.callPure tY ti hI (ihB g (by omega) t l x S _ h hx h0) fun w' hI=>?_
  exact done hI rfl
theorem Wv {f:Nat} (ihB:∀ g,g<f->uZ g):L3 f:=by
 intro t l x S cs h hx hc w hI
 cases f with
 | zero=>simp [Mh] at h
 | succ g=>
 rw [Mh] at h
 split at h
 ·cases h
 rename_i y hy
 split at h
 ·cases h
 rename_i hne
 simp only [bg] at h
 have hy0:0<y.length:=by
  cases y with
  | nil=>exact absurd rfl hne
  | cons a l=>simp
 have hyx:y.length<=1000000:=by
  have:y.length<=x.length:=by
   rw [<- h]; split
   ·simp; omega
   ·omega
  omega
 have h0:=hc
 obtain ⟨kv,rfl,_,_,_,hk⟩:=RdT.iff.1 hc
 obtain ⟨ka,kc,rfl,_⟩:=id hk
 refine Ah.2 ?_
 dsimp only[Ah,aY]
 refine bq hI fun b1 w' hI=>?_
 refine av hI 0 ad rfl rfl ?_
 refine Run.callPure tY ti hI (ihB g (by omega) t l y S _ hy hyx h0) fun w' hI=>?_
 refine ⟨fun b w'=>b=.bool (De t || !MB y)/\Inv w [] [.blk b1 (.cells #[.int .i64 t.kind,.int .i64 t.n,.string t.name,.slice ka t.kids.length kc] ab)] S w',?_,?_⟩
 ·refine av hI 0 ad rfl rfl ?_
  refine Run.callPure DD C1 hI (tK h0) fun w' hI=>?_
  cases hs:De t
  ·refine rpG ?_
   refine Run.callPure LW MK hI (Ip y hy0) fun w' hI=>?_
   refine bQ ?_
   refine rpG ?_
   exact ⟨by rw [fV],hI⟩
  ·refine rpG ?_
   exact ⟨by rw [s6],hI⟩
 intro t15 _ _ _ _ _ _ w'
 rintro ⟨rfl,hI⟩
 refine aw (fun hb=>?_) (fun hb=>?_)
 ·rw [jR,jj] at hb
  rw [ai hb] at h
  refine eh (a:=[40]) (by simp only [bw,bU]; omega) ?_
  refine eh (b:=[41]) (by simp only [bA,bw,bU]; omega) ?_
  exact done hI (by rw [<- h])
 ·rw [ah (fun hh=>by rw [<- jj,<- jR,hb] at hh; cases hh)] at h
  exact done hI (by rw [<- h])
theorem Y6 {f:Nat} (hf:f<=100000) (ih:∀ g,g<f->Dk g) (ihA:∀ g,g<f->Np g):R3 f:=by
 intro t x S cs h hx hc w hI
 obtain ⟨kv,rfl,_,_,_,hk⟩:=RdT.iff.1 hc
 refine DV.2 ?_
 dsimp only[DV,aM]
 refine bq hI fun b1 w' hI=>?_
 refine fA hI bo fun v0 w' hI=>?_
 refine ⟨fun a w'=>∃ (f':Nat) (t':T) (items:List T) (ds:List Value) (css:List (List Value)),f'+items.length=f/\J0 f' t' items=some x/\RdT S ds t'/\Rows 4 (RdT S) css items/\(∃ p m,a=.slice p items.length m)/\Inv w [] [.blk b1 (.cells ds.toArray ab),aJ a ab 4 css] S w',
  fun a _=>f+1 - lenOf a,⟨f,t,[],_,[],by simp,h,hc,Rows.nil _ _,?_,hI⟩,?_⟩
 ·have hI2:Inv w [] ([Item.blk b1 (.cells #[.int .i64 t.kind,.int .i64 t.n,.string t.name,kv] ab)]++[aJ v0 ab 4 []]) S w':=hI
  obtain ⟨S1,_,hrd,_⟩:=Inv.lendExt hI2
  obtain ⟨p,m,e,_⟩:=RowRd.rows (Rows.nil 4 (RdT S)) hrd
  exact ⟨p,m,e⟩
 clear h hc hk hI
 intro _ _ _ _ t3 _ _ _ _ _ _ _ _ _ w'
 rintro ⟨f',t',items,ds,css,hfl,hl,hd,hR,⟨p,m,rfl⟩,hI⟩
 have hd0:=hd
 obtain ⟨kd,rfl,_,_,_,hk⟩:=RdT.iff.1 hd
 have hcl:=hR.hc
 cases f' with
 | zero=>simp [J0] at hl
 | succ g=>
 rw [J0] at hl
 refine av hI 0 ad rfl rfl ?_
 refine Run.callPure tQ tS hI (mT hd0) fun w' hI=>?_
 split at hl
 ·rename_i hp
  split at hl
  ·rename_i a b hab
   rw [hp]
   refine aw (fun _=>?_) (fun hb=>by cases hb)
   rw [hab] at hk
   refine af hI 0 rfl ao aj rfl ?_
   refine cL (i:=0) hI hk ag ad (by simp) (fun _ _=>RdT.length) fun es hes=>?_
   rw [lG] at hes
   refine d6 (css:=css) hI 1 es bo (by omega) (by omega) rfl hes.length hes.one (by omega) (by omega) fun v' w' hI=>?_
   refine af hI 0 rfl ao aj rfl ?_
   refine cL (i:=1) hI hk ag ad (by simp) (fun _ _=>RdT.length) fun gs hgs=>?_
   rw [Lq,lG] at hgs
   have hg1:=hgs.length
   refine aC hI 0 rfl ad (by simpa using hg1) rfl (by simpa using hgs.one) fun w' hI=>?_
   have hR2:=hR.snoc hes hes.length
   have hI2:Inv w [] ([Item.blk b1 (.cells gs.toArray ab)]++[aJ v' ab 4 (css++[es])]) S w':=hI
   obtain ⟨S1,hE1,hrd,_⟩:=Inv.lendExt hI2
   obtain ⟨p',m',e',_⟩:=RowRd.rows hR2 hrd
   refine ⟨⟨g,b,items++[a],gs,css++[es],by rw [bA]; simp only [bw,bU]; omega,hl,hgs,hR2,⟨p',m',e'⟩,hI⟩,?_⟩
   rw [e']
   simp only [lenOf,bA,bw,bU]
   omega
  ·cases hl
 ·rename_i hp
  rw [bB.2 hp]
  refine aw (fun hb=>by cases hb) (fun _=>?_)
  split at hl
  ·cases hl
  rename_i y hy
  refine av hI 0 ad rfl rfl ?_
  refine Run.callPure RF Ry hI (Iy hd0) fun w' hI=>?_
  have hI2:Inv w [] ([Item.blk b1 (.cells #[.int .i64 t'.kind,.int .i64 t'.n,.string t'.name,kd] ab)]++[aJ (.slice p items.length m) ab 4 css]) S w':=hI
  obtain ⟨S1,hE1,hrd,hI⟩:=Inv.lendExt hI2
  have hrs:=RowRd.rows (hR.monoR fun _ _ h=>RdT.mono hE1.1 h) hrd
  have hd1:=RdT.mono hE1.1 hd0
  split at hl
  ·rename_i hn
   simp only [bg] at hl
   have hyx:y.length+2=x.length:=by rw [<- hl]; simp only [bA,bw,bU]; omega
   rw [hn]
   refine aw (fun _=>?_) (fun hb=>by cases hb)
   refine Run.callPure sN uf hI (ihA g (by omega) items y S1 _ hy (by omega) hrs) fun w' hI=>?_
   refine eh (a:=[91]) (by simp only [bw,bU]; omega) ?_
   refine eh (b:=[93]) (by simp only [bA,bw,bU]; omega) ?_
   exact fT hI hE1.1 (by rw [<- hl])
  ·rename_i hn
   split at hl
   ·cases hl
   rename_i z hz
   simp only [bg] at hl
   have hyx:y.length+z.length+3=x.length:=by rw [<- hl]; simp only [bA,bw,bU]; omega
   rw [bB.2 hn]
   refine aw (fun hb=>by cases hb) (fun _=>?_)
   refine ⟨fun D x2 zY lj su jO uk mM gk lK w_=>Fx D 0 [lK=.slice p items.length m,gk=.string (st y),mM=.string (st ([91]++y)),uk=.string (st ([91]++y++[124])),jO=.agg #[.int .i64 t'.kind,.int .i64 t'.n,.string t'.name,kd],su=.string (st z),lj=.string (st ([91]++y++[124]++z)),zY=.string (st ([91]++y++[124]++z++[93])),x2=.string (st ([91]++y++[124]++z++[93]))]/\Inv w [] [.blk b1 (.cells #[.int .i64 t'.kind,.int .i64 t'.n,.string t'.name,kd] ab)] S1 w_,⟨Fx.nil _ _,hI.draw⟩,⟨?_,?_,?_,?_,?_,?_,?_,?_,?_,trivial⟩,?_⟩
   all_goals (intro D bF; intros; rename_i x2 zY lj su jO uk mM gk lK w_ hA_; have hF_:=hA_.1; obtain ⟨⟨cj,ci,bR,ce,bP,bY,bZ,cH,c5,_⟩,hI⟩:=hA_)
   ·exact ⟨hF_.set 0 rfl,hI⟩
   ·obtain rfl:=cj ‹_›
    refine Run.callPure sN uf hI (ihA g (by omega) items y S1 _ hy (by omega) hrs) fun w_ hI=>?_
    exact ⟨hF_.set 1 rfl,hI⟩
   ·obtain rfl:=ci ‹_›
    refine eh (a:=[91]) (by simp only [bw,bU]; omega) ?_
    exact ⟨hF_.set 2 rfl,hI⟩
   ·obtain rfl:=bR ‹_›
    refine eh (b:=[124]) (by simp only [bA,bw,bU]; omega) ?_
    exact ⟨hF_.set 3 rfl,hI⟩
   ·refine av hI 0 ad rfl rfl ?_
    exact ⟨hF_.set 4 rfl,hI⟩
   ·obtain rfl:=bP ‹_›
    refine Run.callPure gS hH hI (ih g (by omega) t' z S1 _ hz (by omega) hd1) fun w_ hI=>?_
    exact ⟨hF_.set 5 rfl,hI⟩
   ·obtain rfl:=ce ‹_›
    obtain rfl:=bY ‹_›
    refine eh (by simp only [bA,bw,bU]; omega) ?_
    exact ⟨hF_.set 6 rfl,hI⟩
   ·obtain rfl:=bZ ‹_›
    refine eh (b:=[93]) (by simp only [bA,bw,bU]; omega) ?_
    exact ⟨hF_.set 7 rfl,hI⟩
   ·obtain rfl:=cH ‹_›
    exact ⟨hF_.set 8 rfl,hI⟩
   obtain ⟨rfl,rfl,rfl,rfl,rfl,rfl,rfl,rfl,rfl,_⟩:=hF_.all
   clear hF_ cj ci bR ce bP bY bZ cH c5
   exact fT hI hE1.1 (by rw [<- hl])
theorem aai {f:Nat} (ihL:∀ g,g<f->R3 g) (ihA:∀ g,g<f->Np g) (ihF:∀ g,g<f->SS g) (ihR:∀ g,g<f->L3 g):Dk f:=by
 intro t x S cs h hx hc w hI
 cases f with
 | zero=>simp [ML] at h
 | succ g=>
 rw [ML] at h
 have h0:=hc
 obtain ⟨kv,rfl,_,_,_,hk⟩:=RdT.iff.1 hc
 refine Dh.2 ?_
 dsimp only[Dh,aM]
 refine bq hI fun b1 w' hI=>?_
 obtain ⟨B1,hB1⟩:∃ B1,B1=Item.blk b1 (.cells #[.int .i64 t.kind,.int .i64 t.n,.string t.name,kv] ab):=⟨_,rfl⟩
 refine av hI 0 ad rfl rfl ?_
 refine Run.callPure tQ tS hI (mT h0) fun w' hI=>?_
 split at h
 ·rename_i hp
  rw [hp]
  refine aw (fun _=>?_) (fun hb=>by cases hb)
  refine av hI 0 ad rfl rfl ?_
  refine Run.callPure Qy NS hI (ihL g (by omega) t x S _ h hx h0) fun w' hI=>?_
  exact done hI rfl
 rename_i hp
 have hp:=bB.2 hp
 rw [hp]
 refine aw (fun hb=>by cases hb) (fun _=>?_)
 refine av hI 0 ad rfl rfl ?_
 refine Run.callPure yL yu hI (rW h0) fun w' hI=>?_
 split at h
 ·rename_i hf
  rw [hf]
  refine aw (fun _=>?_) (fun hb=>by cases hb)
  split at h
  ·rename_i a b hab
   obtain ⟨lv,hlv⟩:∃ lv,lv=cJ t.name:=⟨_,rfl⟩
   rw [<- hlv] at h
   have hlr:1<=lv/\lv<=3:=by
    have h1:0<cJ t.name:=by
     unfold ri at hf
     simp only [bu,bk] at hf
     exact hf.2.2
    have h2:cJ t.name<=3:=by
     unfold cJ
     split
     ·omega
     ·split
      ·omega
      ·split <;> omega
    omega
   split at h
   ·rename_i y z hy hz
    simp only [bg] at h
    have hlen:y.length+(ju (bs t.name)).length+z.length=x.length:=by rw [<- h]; simp only [bA]
    have hsp:(bs t.name).length<=(ju (bs t.name)).length:=by
     unfold ju
     split
     ·simp; omega
     ·omega
    rw [hab] at hk
    obtain ⟨b2,o2,cap2,c2,E2,fz2,rfl,hS,hRa⟩:=hk.at_ (i:=0) (by simp)
    obtain ⟨b2',o2',cap2',c2',E2',fz2',hsl,hS',hRb⟩:=hk.at_ (i:=1) (by simp)
    cases hsl
    rw [hS] at hS'
    cases hS'
    rw [lG] at hRa
    rw [Lq,lG] at hRb
    refine af hI 0 rfl bb aU rfl ?_
    refine Run.callPure gg gf hI (eJ _ S) fun w' hI=>?_
    rw [<- hlv]
    have hI:Inv w [] [B1] S w':=by rw [hB1]; exact hI
    refine ⟨fun v w'=>v=.int .i64 (if lv=3 then 2 else lv)/\Inv w [] [B1] S w',?_,?_⟩
    ·refine bl ?_
     refine aL (fun h3=>⟨by rw [ai h3],hI⟩) (fun h3=>⟨by rw [ah h3],hI⟩)
    intro t4 _ _ w'
    rintro ⟨rfl,hI⟩
    subst hB1
    skip
    refine ⟨fun D x2 vN vL JI Ih Km zY lj su jO uk mM gk lK tx uK sj oU lp w_=>Fx D 0 [lp=.pointer (some ⟨b1,3,none⟩),oU=.slice (some ⟨b2,o2,none⟩) [a,b].length cap2,sj=.pointer (some ⟨b2,o2+0 * 4,none⟩),uK=.agg (aX c2 (o2+0 * 4) 4).toArray,tx=.int .i64 (if lv=3 then 2 else lv),lK=.string (st y),gk=.pointer (some ⟨b1,2,none⟩),mM=.string t.name,uk=.string (st (ju (bs t.name))),jO=.string (st (y++ju (bs t.name))),su=.pointer (some ⟨b1,3,none⟩),lj=.slice (some ⟨b2,o2,none⟩) [a,b].length cap2,zY=.pointer (some ⟨b2,o2+1 * 4,none⟩),Km=.agg (aX c2 (o2+1 * 4) 4).toArray,Ih=.int .i64 lv,JI=.int .i64 (lv - 1),vL=.string (st z),vN=.string (st (y++ju (bs t.name)++z)),x2=.string (st (y++ju (bs t.name)++z))]/\Inv w [] [.blk b1 (.cells #[.int .i64 t.kind,.int .i64 t.n,.string t.name,.slice (some ⟨b2,o2,none⟩) [a,b].length cap2] ab)] S w_,⟨Fx.nil _ _,hI.draw⟩,⟨?_,?_,?_,?_,?_,?_,?_,?_,?_,?_,?_,?_,?_,?_,?_,?_,?_,?_,?_,trivial⟩,?_⟩
    all_goals (intro D bF; intros; rename_i x2 vN vL JI Ih Km zY lj su jO uk mM gk lK tx uK sj oU lp w_ hA_; have hF_:=hA_.1; obtain ⟨⟨cj,ci,bR,ce,bP,bY,bZ,cH,c5,dI,bX,cr,cZ,eo,c8,eQ,fW,hO,jJ,_⟩,hI⟩:=hA_)
    ·refine au ao ?_
     exact ⟨hF_.set 0 rfl,hI⟩
    ·obtain rfl:=cj ‹_›
     refine aN hI 0 aj rfl rfl ?_
     exact ⟨hF_.set 1 rfl,hI⟩
    ·obtain rfl:=ci ‹_›
     refine aE (i:=0) ag (by simp) ?_
     exact ⟨hF_.set 2 rfl,hI⟩
    ·obtain rfl:=bR ‹_›
     refine bL ad hRa.length (fun j v hj=>by rw [hI.cellS hS]; exact aH rfl j v hj) ?_
     exact ⟨hF_.set 3 rfl,hI⟩
    ·exact ⟨hF_.set 4 rfl,hI⟩
    ·obtain rfl:=ce ‹_›
     obtain rfl:=bP ‹_›
     refine Run.callPure Qn Pc hI (ihF g (by omega) a _ y S _ hy (by omega) hRa) fun w_ hI=>?_
     exact ⟨hF_.set 5 rfl,hI⟩
    ·refine au bb ?_
     exact ⟨hF_.set 6 rfl,hI⟩
    ·obtain rfl:=bZ ‹_›
     refine aN hI 0 aU rfl rfl ?_
     exact ⟨hF_.set 7 rfl,hI⟩
    ·obtain rfl:=cH ‹_›
     refine Run.callPure Jp IU hI (Gy (bs t.name) (by omega)) fun w_ hI=>?_
     exact ⟨hF_.set 8 rfl,hI⟩
    ·obtain rfl:=bY ‹_›
     obtain rfl:=c5 ‹_›
     refine eh (by omega) ?_
     exact ⟨hF_.set 9 rfl,hI⟩
    ·refine au ao ?_
     exact ⟨hF_.set 10 rfl,hI⟩
    ·obtain rfl:=bX ‹_›
     refine aN hI 0 aj rfl rfl ?_
     exact ⟨hF_.set 11 rfl,hI⟩
    ·obtain rfl:=cr ‹_›
     refine aE (i:=1) ag (by simp) ?_
     exact ⟨hF_.set 12 rfl,hI⟩
    ·obtain rfl:=cZ ‹_›
     refine bL ad hRb.length (fun j v hj=>by rw [hI.cellS hS]; exact aH rfl j v hj) ?_
     exact ⟨hF_.set 13 rfl,hI⟩
    ·exact ⟨hF_.set 14 rfl,hI⟩
    ·obtain rfl:=c8 ‹_›
     refine mx (by omega) ?_
     exact ⟨hF_.set 15 rfl,hI⟩
    ·obtain rfl:=eo ‹_›
     obtain rfl:=eQ ‹_›
     refine Run.callPure LM Mu hI (ihR g (by omega) b _ z S _ hz (by omega) hRb) fun w_ hI=>?_
     exact ⟨hF_.set 16 rfl,hI⟩
    ·obtain rfl:=dI ‹_›
     obtain rfl:=fW ‹_›
     refine eh (by rw [bA]; omega) ?_
     exact ⟨hF_.set 17 rfl,hI⟩
    ·obtain rfl:=hO ‹_›
     exact ⟨hF_.set 18 rfl,hI⟩
    obtain ⟨rfl,rfl,rfl,rfl,rfl,rfl,rfl,rfl,rfl,rfl,rfl,rfl,rfl,rfl,rfl,rfl,rfl,rfl,rfl,_⟩:=hF_.all
    clear hF_ cj ci bR ce bP bY bZ cH c5 dI bX cr cZ eo c8 eQ fW hO jJ
    exact done hI (by rw [<- h])
   ·cases h
  ·cases h
 ·rename_i hf
  rw [bB.2 hf]
  refine aw (fun hb=>by cases hb) (fun _=>?_)
  obtain ⟨ka,kc,rfl,_⟩:=id hk
  refine ⟨fun v w'=>v=.bool (decide (t.kind=3) && decide (0<t.kids.length))/\Inv w [] [B1] S w',?_,?_⟩
  ·refine af hI 0 rfl aR aG rfl ?_
   by_cases h3:t.kind=3
   ·refine gF h3 ?_
    refine rpG ?_
    refine af hI 0 rfl ao aj rfl ?_
    refine eV ag ?_
    refine dA ?_
    refine rpG ?_
    refine ⟨?_,by rw [hB1]; exact hI⟩
    rw [aI h3,dg]
    congr 1
    rw [fg]
    omega
   ·refine fm h3 ?_
    refine rpG ?_
    exact ⟨by rw [aP h3,iG],by rw [hB1]; exact hI⟩
  intro t37 _ _ _ _ _ _ _ _ _ w'
  rintro ⟨rfl,hI⟩
  subst hB1
  split at h
  ·rename_i hc3
   rw [aI hc3.1,aI hc3.2]
   refine aw (fun _=>?_) (fun hb=>by cases hb)
   split at h
   ·rename_i y hy
    simp only [bg] at h
    have hlen:(bs t.name).length+y.length+2=x.length:=by rw [<- h]; simp only [bA,bw,bU]; omega
    skip
    refine ⟨fun D x2 zp ze wa vA vY ut nR oK w_=>Fx D 0 [oK=.pointer (some ⟨b1,2,none⟩),nR=.string t.name,ut=.string (st (bs t.name++[40])),vY=.pointer (some ⟨b1,3,none⟩),vA=.slice ka t.kids.length kc,wa=.string (st y),ze=.string (st (bs t.name++[40]++y)),zp=.string (st (bs t.name++[40]++y++[41])),x2=.string (st (bs t.name++[40]++y++[41]))]/\Inv w [] [.blk b1 (.cells #[.int .i64 t.kind,.int .i64 t.n,.string t.name,.slice ka t.kids.length kc] ab)] S w_,⟨Fx.nil _ _,hI.draw⟩,⟨?_,?_,?_,?_,?_,?_,?_,?_,?_,trivial⟩,?_⟩
    all_goals (intro D bF; intros; rename_i x2 zp ze wa vA vY ut nR oK w_ hA_; have hF_:=hA_.1; obtain ⟨⟨cj,ci,bR,ce,bP,bY,bZ,cH,c5,_⟩,hI⟩:=hA_)
    ·refine au bb ?_
     exact ⟨hF_.set 0 rfl,hI⟩
    ·obtain rfl:=cj ‹_›
     refine aN hI 0 aU rfl rfl ?_
     exact ⟨hF_.set 1 rfl,hI⟩
    ·obtain rfl:=ci ‹_›
     refine eh (a:=bs t.name) (b:=[40]) (by simp only [bw,bU]; omega) ?_
     exact ⟨hF_.set 2 rfl,hI⟩
    ·refine au ao ?_
     exact ⟨hF_.set 3 rfl,hI⟩
    ·obtain rfl:=ce ‹_›
     refine aN hI 0 aj rfl rfl ?_
     exact ⟨hF_.set 4 rfl,hI⟩
    ·obtain rfl:=bP ‹_›
     refine Run.callPure sN uf hI (ihA g (by omega) t.kids y S _ hy (by omega) hk) fun w_ hI=>?_
     exact ⟨hF_.set 5 rfl,hI⟩
    ·obtain rfl:=bR ‹_›
     obtain rfl:=bY ‹_›
     refine eh (by simp only [bA,bw,bU]; omega) ?_
     exact ⟨hF_.set 6 rfl,hI⟩
    ·obtain rfl:=bZ ‹_›
     refine eh (b:=[41]) (by simp only [bA,bw,bU]; omega) ?_
     exact ⟨hF_.set 7 rfl,hI⟩
    ·obtain rfl:=cH ‹_›
     exact ⟨hF_.set 8 rfl,hI⟩
    obtain ⟨rfl,rfl,rfl,rfl,rfl,rfl,rfl,rfl,rfl,_⟩:=hF_.all
    clear hF_ cj ci bR ce bP bY bZ cH c5
    exact done hI (by rw [<- h])
   ·cases h
  ·rename_i hc3
   have e:(decide (t.kind=3) && decide (0<t.kids.length))=false:=by
    rw [bB,ne_eq,bu,bk,bk]; exact hc3
   rw [e]
   refine aw (fun hb=>by cases hb) (fun _=>?_)
   refine av hI 0 ad rfl rfl ?_
   refine Run.callPure Ps Pm hI (LN h0 hp h) fun w' hI=>?_
   exact done hI rfl
theorem T5:∀ F f,f<F->F<=1000->Dk f/\R3 f/\Np f/\uZ f/\SS f/\L3 f
 | 0,f,h,_=>by omega
 | F+1,f,h,hF=>by
  have ih:=fun g (hg:g<f)=>T5 F g (by omega) (by omega)
  have hT:Dk f:=aai (fun g hg=>(ih g hg).2.1) (fun g hg=>(ih g hg).2.2.1) (fun g hg=>(ih g hg).2.2.2.2.1) (fun g hg=>(ih g hg).2.2.2.2.2)
  exact ⟨hT,Y6 (by omega) (fun g hg=>(ih g hg).1) (fun g hg=>(ih g hg).2.2.1),YU fun g hg=>(ih g hg).1,RK fun g hg=>(ih g hg).1,Zb (fun g hg=>(ih g hg).1) (fun g hg=>(ih g hg).2.2.2.1),Wv fun g hg=>(ih g hg).2.2.2.1⟩
theorem Ko {f:Nat} (hf:f<=100):Dk f:=(T5 (f+1) f (by omega) (by omega)).1
end
end Go.Proofs.YtgllldjiaglkcaaGreatDoor

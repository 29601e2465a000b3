/- Texts written: spec.l2Text and its kin, l4Text, FormatClause. -/
import Derived.Test.YtjbcdmheajljpaaGreatZRdA
import Derived.Test.YtjbcdmheajljpaaGreatZRd3
namespace Go.Proofs.YtjbcdmheajljpaaGreat
attribute [local irreducible] Run CondV aI bg
section
open Go Go.RowKit
theorem TK:Tryz.prog.underlying MT=some (.slice Lr):=by kernel_rfl
section
variable {w:World} {S:ai}
theorem mU {t:T} {cs:nA} (h:RdT S cs t):ru Qv [.agg cs.toArray] S (.bool (Fd t)):=by
 intro w a;obtain ⟨kv,rfl,_,_,_,hk⟩:=RdT.iff.1 h;obtain ⟨j,l,rfl,_⟩:=id hk;refine Cs.2 ?_;dsimp only[Cs,bd];refine bH a fun i w' a=>?_;refine ah a 0 rfl aW au rfl ?_;by_cases g:t.kind=3
 ·refine ik g ?_;refine rpG ?_;refine ah a 0 rfl bu aV rfl ?_;refine bT (b:=st [46]) ?_;cases hn:decide (t.name=st [46])
  ·refine rpG ?_;exact done a (by rw [Fd,hn,jm,zR])
  ·refine rpG ?_;refine ah a 0 rfl az aw rfl ?_;refine iP ao ?_;refine a9 ?_;refine rpG ?_;refine done a ?_;rw [Fd,hn,aD g,fk,fk]
   congr 1
   rw [cW];omega
 ·refine gk g ?_;refine rpG ?_;exact done a (by rw [Fd,aM g,jm])
theorem G3 {t:T} {cs:nA} (h:RdT S cs t):ru R6 [.agg cs.toArray] S (.bool (UG t)):=by
 intro w a;obtain ⟨kv,rfl,_,_,_,hk⟩:=RdT.iff.1 h;obtain ⟨j,l,rfl,_⟩:=id hk;refine D6.2 ?_;dsimp only[D6,bd];refine bH a fun i w' a=>?_;refine ah a 0 rfl aW au rfl ?_;by_cases g:t.kind=3
 ·refine ik g ?_;refine rpG ?_;refine ah a 0 rfl bu aV rfl ?_;refine bT (b:=st [91,93]) ?_;cases hn:decide (t.name=st [91,93])
  ·refine rpG ?_;exact done a (by rw [UG,hn,jm,zR])
  ·refine rpG ?_;refine ah a 0 rfl az aw rfl ?_;refine iP ao ?_;refine a9 ?_;refine rpG ?_;refine done a ?_;rw [UG,hn,aD g,fk,fk]
   congr 1
   rw [cW];omega
 ·refine gk g ?_;refine rpG ?_;exact done a (by rw [UG,aM g,jm])
theorem qX {t:T} {cs:nA} (h:RdT S cs t):ru Ob [.agg cs.toArray] S (.bool (qk t)):=by
 intro w a;obtain ⟨kv,rfl,_,_,_,hk⟩:=RdT.iff.1 h;obtain ⟨j,l,rfl,_⟩:=id hk;refine yn.2 ?_;dsimp only[yn,bd];refine bH a fun i w' a=>?_;refine ah a 0 rfl aW au rfl ?_;by_cases g:t.kind=3
 ·refine ik g ?_;refine rpG ?_;refine ah a 0 rfl az aw rfl ?_;refine iP ao ?_;by_cases hn:t.kids.length=2
  ·refine ik (by omega) ?_;refine rpG ?_;refine ah a 0 rfl bu aV rfl ?_;refine Run.callPure ia hZ a (fQ _ S) fun w' a=>?_;refine fL ?_;refine rpG ?_;exact done a (by rw [qk,aD g,aD hn,fk,fk])
  ·refine gk (by omega) ?_;refine rpG ?_;exact done a (by rw [qk,aM hn,jm,zR])
 ·refine gk g ?_;refine rpG ?_;exact done a (by rw [qk,aM g,jm])
theorem sR {t:T} {cs:nA} (h:RdT S cs t):ru OE [.agg cs.toArray] S (.bool (CY t)):=by
 intro w a;obtain ⟨kv,rfl,_,_,_,hk⟩:=RdT.iff.1 h;obtain ⟨j,l,rfl,_⟩:=id hk;refine Cc.2 ?_;dsimp only[Cc,bd];refine bH a fun i w' a=>?_;refine ah a 0 rfl aW au rfl ?_;by_cases g:t.kind=3
 ·refine ik g ?_;refine rpG ?_;refine ah a 0 rfl az aw rfl ?_;refine iP ao ?_;by_cases hn:t.kids.length=0
  ·refine ik (by omega) ?_;refine rpG ?_;refine ah a 0 rfl bu aV rfl ?_;refine Run.callPure ia hZ a (fQ _ S) fun w' a=>?_;refine fL ?_;refine rpG ?_;exact done a (by rw [CY,aD g,aD hn,fk,fk])
  ·refine gk (by omega) ?_;refine rpG ?_;exact done a (by rw [CY,aM hn,jm,zR])
 ·refine gk g ?_;refine rpG ?_;exact done a (by rw [CY,aM g,jm])
theorem E0 (n:Bs) (hn:n.length<=1000000):ru Ko [.string (st n)] S (.string (st (j0 n))):=by
 intro w i;refine uK.2 ?_;dsimp only[uK,bd];refine ⟨fun b w'=>b=.bool (decide (n=[105,115]) || decide (n=[109,111,100]))/\Inv w [] [] S w',?_,?_⟩
 ·refine F0 (b:=[105,115]) ?_;cases l:decide (n=[105,115])
  ·refine rpG ?_;refine F0 (b:=[109,111,100]) ?_;refine rpG ?_;exact ⟨by rw [jb],i⟩
  ·refine rpG ?_;exact ⟨by rw [za],i⟩
 intro j _ _ _ _ _ w';rintro ⟨rfl,i⟩;refine aL (fun g=>?_) (fun g=>?_)
 ·rw [na,bK,bK] at g;refine eh (a:=[32]) (by simp;omega) ?_;refine eh (b:=[32]) (by simp;omega) ?_;exact done i (by rw [j0,ag g];rfl)
 ·rw [QN,nu,nu] at g;exact done i (by rw [j0,ae (by rintro (h|h);exact g.1 h;exact g.2 h)])
theorem GK (s:Bs) (g:0<s.length):ru L0 [.string (st s)] S (.bool (Ki s)):=by
 intro w a;refine yb.2 ?_;dsimp only[yb,bd];have h:Ki s=(sml s 0 || (dig s 0 || (upp s 0 || (sgn s 0 91 || sgn s 0 40)))):=rfl;have p:upp s 0=(decide (65<=s[0].toNat) && decide (s[0].toNat<=90)):=p9 g 65 90;have q:sgn s 0 91=decide (s[0].toNat=91):=mH g 91;have r:sgn s 0 40=decide (s[0].toNat=40):=mH g 40;refine Run.callPure wu zm a (qW s 0 S) fun w' a=>?_;cases t:sml s 0
 ·refine rpG ?_;refine Run.callPure mw mv a (jt s 0 S) fun w' a=>?_;cases B:dig s 0
  ·refine rpG ?_;refine fZ (i:=0) bm g ?_;rw [t,B,jb,jb] at h;by_cases j:65<=s[0].toNat
   ·refine qK (by omega) ?_;refine rpG ?_;refine fZ (i:=0) bm g ?_;by_cases l:s[0].toNat<=90
    ·refine KC (by omega) ?_;refine rpG ?_;exact done a (by rw [h,p,aD j,aD l];rfl)
    ·refine Vu (by omega) ?_;refine rpG ?_;refine fZ (i:=0) bm g ?_;by_cases m:s[0].toNat=91
     ·refine ik (by omega) ?_;refine rpG ?_;exact done a (by rw [h,q,aD m,za,Rg])
     ·refine gk (by omega) ?_;refine rpG ?_;refine fZ (i:=0) bm g ?_;refine gk (by omega) ?_;refine rpG ?_;exact done a (by rw [h,p,q,r,aM l,aM m,aM (show ¬ s[0].toNat=40 by omega),zR];rfl)
   ·refine Ax (by omega) ?_;refine rpG ?_;refine fZ (i:=0) bm g ?_;refine gk (by omega) ?_;refine rpG ?_;refine fZ (i:=0) bm g ?_;by_cases o:s[0].toNat=40
    ·refine ik (by omega) ?_;refine rpG ?_;exact done a (by rw [h,r,aD o,Rg,Rg])
    ·refine gk (by omega) ?_;refine rpG ?_;exact done a (by rw [h,p,q,r,aM j,aM (show ¬ s[0].toNat=91 by omega),aM o,jm];rfl)
  ·refine rpG ?_;exact done a (by rw [h,B,za,Rg])
 ·refine rpG ?_;exact done a (by rw [h,t,za])
theorem EI {n:Int} (h:0<=n/\n<=25):ru KK [ee n] S (.string (st [UInt8.ofNat (65+n.toNat)])):=by
 intro w a;refine vm.2 ?_;dsimp only[vm,bd];refine sg dS iJ (IntWalk.u8_in _ (by omega)) ?_;refine Xz (c:=((65+n.toNat:Nat):Int)) ?_ ?_
 ·rw [IntWalk.u8_in _ (by omega)];omega
 refine Gz a AX TK iJ bm fun w' a=>?_;exact done a rfl
theorem yr:∀ (f n:Nat) (out r:Bs),Ap f n out=some r->out.length<r.length/\r.length<=out.length+f
 | 0,_,_,_,h=>by simp [Ap] at h
 | f+1,n,out,r,h=>by
  rw [Ap] at h;split at h
  ·have:=yr f _ _ _ h;simp only [aP] at this;omega
  ·simp only [bj] at h;subst h;simp only [aP];omega
theorem yu {f n:Nat} {r:Bs} (h:Ap f n []=some r) (hn:n<=100000) (hf:f<=1000):ru Pz [ee (n:Int)] S (.string (st r)):=by
 intro w i;refine BA.2 ?_;dsimp only[BA,bd];refine gu (by omega) ?_;refine aL (fun j=>by cases j) (fun _=>?_);refine gu (by omega) ?_;refine aL (fun j=>by cases j) (fun _=>?_);refine ⟨fun a b w'=>∃ (o m:Nat) (out:Bs),a=ee (m:Int)/\b=.string (st out)/\m<=100000/\out.length+o<=1000/\Ap o m out=some r/\Inv w [] [] S w',fun a _ _=>(intOf a).toNat,⟨f,n,[],rfl,rfl,hn,by simpa using hf,h,i⟩,?_⟩;intro t _ _ B _ _ _ _ _ _ _ _ _ _ w';rintro ⟨o,m,out,rfl,rfl,C,p,l,i⟩;cases o with
 | zero=>simp [Ap] at l
 | succ g=>
 rw [Ap] at l;split at l
 ·rename_i q
  refine Qu (by omega) ?_;refine aL (fun _=>?_) (fun j=>by cases j);refine O4 (a:=m) (b:=10) rfl rfl (by omega) ?_;refine gx (a:=48) (b:=m % 10) rfl rfl (by omega) ?_;refine sg dS iJ (IntWalk.u8_in _ (by omega)) ?_;refine Gz i AX TK iJ bm fun w' i=>?_;refine eh (by simp;omega) ?_;refine O7 (a:=m) (b:=10) rfl rfl (by omega) (by omega) ?_;refine ⟨⟨g,m / 10,UInt8.ofNat (48+m % 10)::out,rfl,rfl,by omega,by simp only [aP];omega,l,i⟩,?_⟩;simp only [intOf,dH];omega
 ·rename_i q
  refine oA (by omega) ?_;refine aL (fun j=>by cases j) (fun _=>?_);refine gx (a:=48) (b:=m) rfl rfl (by omega) ?_;refine sg dS iJ (IntWalk.u8_in _ (by omega)) ?_;refine Gz i AX TK iJ bm fun w' i=>?_;refine eh (by simp;omega) ?_;simp only [bj] at l;exact done i (by rw [<- l];rfl)
theorem r3 {n:Int} {r:Bs} (h:U8 n=some r) (hn:-999<=n/\n<=999):ru Sr [ee n] S (.string (st r)):=by
 intro w g;refine EO.2 ?_;dsimp only[EO,bd];unfold U8 at h;split at h
 ·rename_i i
  refine EP i ?_;refine aL (fun _=>?_) (fun j=>by cases j);refine W7 (by omega) ?_;obtain ⟨m,p⟩:∃ m:Nat,-n=(m:Int):=⟨(-n).toNat,by omega⟩
  rw [p] at h ⊢;rw [dH,fV] at h;obtain ⟨l,o,rfl⟩:=h;have:=yr _ _ _ _ o;refine Run.callPure BO BF g (yu o (by omega) (by omega)) fun w' g=>?_;refine eh (a:=[45]) (by simp only [ce,aP] at this ⊢;omega) ?_;exact done g rfl
 ·rename_i i
  refine gu i ?_;refine aL (fun j=>by cases j) (fun _=>?_);obtain ⟨m,rfl⟩:∃ m:Nat,n=(m:Int):=⟨n.toNat,by omega⟩
  rw [dH] at h;refine Run.callPure BO BF g (yu h (by omega) (by omega)) fun w' g=>?_;exact done g rfl
theorem Lw {t:T} {cs:nA} {x:Bs} (h:RdT S cs t) (B:Fd t=false) (i:VD t=some x):ru PG [.agg cs.toArray] S (.string (st x)):=by
 intro w g;have D:=h;obtain ⟨kv,rfl,_,_,_,hk⟩:=RdT.iff.1 h;obtain ⟨q,r,rfl,_⟩:=id hk;refine BP.2 ?_;dsimp only[BP,bd];unfold VD at i;refine bH g fun p w' g=>?_;refine ah g 0 rfl aW au rfl ?_;split at i
 ·rename_i m
  refine ik m ?_;refine aL (fun _=>?_) (fun j=>by cases j);refine ah g 0 rfl aR au rfl ?_;split at i
  ·rename_i l
   refine Run.callPure Hu GN g (EI l) fun w' g=>?_;simp only [bj] at i;exact done g (by rw [<- i])
  ·cases i
 ·rename_i m
  refine gk m ?_;refine aL (fun j=>by cases j) (fun _=>?_);split at i
  ·rename_i l
   refine ik l ?_;refine aL (fun _=>?_) (fun j=>by cases j);refine ah g 0 rfl aR au rfl ?_;split at i
   ·rename_i o
    refine Run.callPure vJ vC g (r3 i o) fun w' g=>?_;exact done g rfl
   ·cases i
  ·rename_i l
   refine gk l ?_;refine aL (fun j=>by cases j) (fun _=>?_);split at i
   ·rename_i o
    simp only [bj] at i;refine aq g 0 af rfl rfl ?_;refine Run.callPure sI ss g (mU D) fun w' g=>?_;rw [B];refine aL (fun j=>by cases j) (fun _=>?_);refine ah g 0 rfl bu aV rfl ?_;refine ⟨fun a b w'=>a=ee 0/\b=.string t.name/\Inv w [] [ei p (ku t (.slice q t.kids.length r)) ac] S w',fun _ _ _=>0,⟨rfl,rfl,g⟩,?_⟩;intro G _ _ _ _ _ _ _ _ _ _ _ _ C _ _ _ _ _ _ _ _ _ w';rintro ⟨rfl,rfl,g⟩;refine ah g 0 rfl az aw rfl ?_;refine iP ao ?_;refine gu (by omega) ?_;refine aL (fun j=>by cases j) (fun _=>?_);refine ⟨fun b w'=>b=.string t.name/\Inv w [] [ei p (ku t (.slice q t.kids.length r)) ac] S w',?_,?_⟩
    ·refine ah g 0 rfl az aw rfl ?_;refine iP ao ?_;refine oA (by omega) ?_;refine aL (fun j=>by cases j) (fun _=>?_);exact ⟨rfl,g⟩
    intro C _ _ _ _ _ _ w';rintro ⟨rfl,g⟩;exact done g (by rw [<- i])
   ·cases i
end
theorem IW:∀ (f:Nat) (l:List T) (out x:Bs),qY f l out=some x->out.length<=x.length
 | 0,_,_,_,h=>by simp [qY] at h
 | _+1,[],out,x,h=>by simp [qY] at h;subst h;exact aY _
 | f+1,t::l,out,x,h=>by
  rw [qY] at h;split at h
  ·cases h
  ·have:=IW f _ _ _ h;simp only [bt] at this;omega
def lenOf:Value->Nat
 | .slice _ n _=>n
 | _=>0
def Bm (f:Nat):Prop:=∀ (t:T) (x:Bs) (S:ai) (cs:List Value),Lx f t=some x->x.length<=1000000->RdT S cs t->Pure Tryz.prog Ph [.agg cs.toArray] S (.string (st x))
def O8 (f:Nat):Prop:=∀ (t:T) (x:Bs) (S:ai) (cs:List Value),Ig f t []=some x->x.length<=1000000->RdT S cs t->Pure Tryz.prog Qj [.agg cs.toArray] S (.string (st x))
def Js (f:Nat):Prop:=∀ (ts:List T) (x:Bs) (S:ai) (u:Value),qY f ts []=some x->x.length<=1000000->RdSl S 4 (RdT S) u ts->Pure Tryz.prog PW [u] S (.string (st x))
def tJ (f:Nat):Prop:=∀ (t:T) (l:Int) (x:Bs) (S:ai) (cs:List Value),r5 f t l=some x->x.length<=1000000->RdT S cs t->Pure Tryz.prog GW [.agg cs.toArray,ee l] S (.string (st x))
def Pg (f:Nat):Prop:=∀ (t:T) (l:Int) (x:Bs) (S:ai) (cs:List Value),Q1 f t l=some x->x.length<=1000000->RdT S cs t->Pure Tryz.prog Pu [.agg cs.toArray,ee l] S (.string (st x))
def Lh (f:Nat):Prop:=∀ (t:T) (l:Int) (x:Bs) (S:ai) (cs:List Value),JO f t l=some x->x.length<=1000000->RdT S cs t->Pure Tryz.prog Ms [.agg cs.toArray,ee l] S (.string (st x))
section
theorem V5 {f:Nat} (D:∀ g,g<f->Bm g):Js f:=by
 intro ts x S u h U t w o;refine CT.2 ?_;dsimp only[CT,bd];refine ⟨fun a b w'=>∃ (r j:Nat) (out l:Bs),r<=f/\j<=ts.length/\a=ee (j:Int)/\b=.string (st out)/\l=out++(if 0<j/\j<ts.length then [44] else [])/\qY r (ts.drop j) l=some x/\Inv w [] [] S w',
  fun a _ _=>ts.length - (intOf a).toNat,⟨f,0,[],[],aY _,aT _,rfl,rfl,by simp,h,o⟩,?_⟩
 intro V _ _ _ _ _ _ _ _ _ G _ _ _ _ _ _ _ _ w';rintro ⟨r,j,out,l,J,Y,rfl,rfl,i,p,o⟩;cases r with
 | zero=>simp [qY] at p
 | succ g=>
 refine aO t ao ?_;refine cd ?_;refine aJ (fun B=>?_) (fun B=>?_)
 ·have q:j<ts.length:=by omega
  rw [ef q,qY] at p;split at p
  ·cases p
  rename_i y M
  have m:=IW _ _ _ _ p;simp only [bt] at m;refine ⟨fun b w'=>b=.string (st l)/\Inv w [] [] S w',?_,?_⟩
  ·refine fL ?_;refine aJ (fun N=>?_) (fun N=>?_)
   ·rw [ag (by omega)] at i;refine eh (b:=[44]) (by rw [i,bt] at m;simp only [aP,ce] at m ⊢;omega) ?_;exact ⟨by rw [i],o⟩
   ·rw [ae (by omega),dk] at i;exact ⟨by rw [i],o⟩
  intro G _ _ _ _ w';rintro ⟨rfl,o⟩;refine dj o t ao af q (fun _ _=>RdT.length) fun cs C=>?_;refine Run.callPure iH iI o (D g (by omega) _ y S cs M (by omega) C) fun w' o=>?_;refine eh (by omega) ?_;refine bL (by have:=t.le;simp only [maxLen] at this;omega) ?_;refine ⟨⟨g,j+1,l++y,_,by omega,q,rfl,rfl,rfl,?_,o⟩,by simp only [intOf,dH];omega⟩;have e:(if ts.drop (j+1)=[] then [] else [44]:Bs)=if 0<j+1/\j+1<ts.length then [44] else []:=by
   by_cases Z:j+1<ts.length
   ·rw [ae (fun O=>by rw [List.drop_eq_nil_iff] at O;omega),ag (by omega)]
   ·rw [ag (uY (by omega)),ae (by omega)]
  rw [<- e];exact p
 ·have:j=ts.length:=by omega
  subst this;rw [eL,qY] at p;simp only [bj] at p;rw [ae (by omega),dk] at i;exact done o (by rw [<- p,i])
theorem PA {f:Nat} (p:∀ g,g<f->Bm g):tJ f:=by
 intro t l x S cs h J hc w i;cases f with
 | zero=>simp [r5] at h
 | succ g=>
 rw [r5] at h;split at h
 ·cases h
 rename_i y q
 simp only [bj] at h;have o:=hc;obtain ⟨kv,rfl,_,_,_,hk⟩:=RdT.iff.1 hc;obtain ⟨D,G,rfl,_⟩:=id hk;have m:y.length<=1000000/\y.length+2<=9000000:=by
  have:y.length<=x.length:=by
   rw [<- h];split
   ·simp;omega
   ·omega
  omega
 refine tp.2 ?_;dsimp only[tp,bv];refine bH i fun C w' i=>?_;refine ⟨fun b w'=>b=.bool (qk t && decide (l<dA t.name))/\Inv w [] [ei C (ku t (.slice D t.kids.length G)) ac] S w',?_,?_⟩
 ·refine aq i 0 af rfl rfl ?_;refine Run.callPure zg xC i (qX o) fun w' i=>?_;cases hf:qk t
  ·refine rpG ?_;exact ⟨by rw [jm],i⟩
  ·refine rpG ?_;refine ah i 0 rfl bu aV rfl ?_;refine Run.callPure ia hZ i (fQ _ S) fun w' i=>?_;refine fL ?_;refine rpG ?_;exact ⟨by rw [fk],i⟩
 intro B _ _ _ _ _ _ _ _ w';rintro ⟨rfl,i⟩;refine aL (fun j=>?_) (fun j=>?_)
 ·rw [bQ,bK] at j;rw [ag j] at h;refine aq i 0 af rfl rfl ?_;refine Run.callPure iH iI i (p g (by omega) t y S _ q m.1 o) fun w' i=>?_;refine eh (a:=[40]) (by simp only [aP,ce];omega) ?_;refine eh (b:=[41]) (by simp only [bt,aP,ce];omega) ?_;exact done i (by rw [<- h])
 ·rw [ae (fun r=>by rw [SH,nu] at j;rcases j with j|j;rw [r.1] at j;cases j;exact j r.2)] at h;refine aq i 0 af rfl rfl ?_;refine Run.callPure iH iI i (p g (by omega) t y S _ q m.1 o) fun w' i=>?_;exact done i (by rw [<- h])
theorem WK {f:Nat} (q:∀ g,g<f->Bm g) (j:∀ g,g<f->tJ g):Pg f:=by
 intro t l x S cs h r hc w i;cases f with
 | zero=>simp [Q1] at h
 | succ g=>
 rw [Q1] at h;have p:=hc;obtain ⟨kv,rfl,_,_,_,hk⟩:=RdT.iff.1 hc;obtain ⟨G,J,rfl,_⟩:=id hk;refine Bw.2 ?_;dsimp only[Bw,bv];refine bH i fun D w' i=>?_;refine aq i 0 af rfl rfl ?_;refine Run.callPure BV BR i (sR p) fun w' i=>?_;split at h
 ·rename_i m
  split at h
  ·cases h
  rename_i y B
  simp only [bj] at h;have C:y.length+2=x.length:=by rw [<- h];simp only [bt,aP,ce];omega
  rw [m];refine aL (fun _=>?_) (fun o=>by cases o);refine aq i 0 af rfl rfl ?_;refine Run.callPure iH iI i (q g (by omega) t y S _ B (by omega) p) fun w' i=>?_;refine eh (a:=[40]) (by simp only [aP,ce];omega) ?_;refine eh (b:=[41]) (by simp only [bt,aP,ce];omega) ?_;exact done i (by rw [<- h])
 ·rename_i m
  rw [bA.2 m];refine aL (fun o=>by cases o) (fun _=>?_);refine aq i 0 af rfl rfl ?_;refine Run.callPure sV tg i (j g (by omega) t l x S _ h r p) fun w' i=>?_;exact done i rfl
theorem Uu {f:Nat} (m:∀ g,g<f->tJ g):Lh f:=by
 intro t l x S cs h N hc w i;cases f with
 | zero=>simp [JO] at h
 | succ g=>
 rw [JO] at h;split at h
 ·cases h
 rename_i y C
 split at h
 ·cases h
 rename_i o
 simp only [bj] at h;have p:0<y.length:=by
  cases y with
  | nil=>exact absurd rfl o
  | cons a l=>simp
 have q:y.length<=1000000:=by
  have:y.length<=x.length:=by
   rw [<- h];split
   ·simp;omega
   ·omega
  omega
 have B:=hc;obtain ⟨kv,rfl,_,_,_,hk⟩:=RdT.iff.1 hc;obtain ⟨J,M,rfl,_⟩:=id hk;refine xP.2 ?_;dsimp only[xP,bv];refine bH i fun G w' i=>?_;refine aq i 0 af rfl rfl ?_;refine Run.callPure sV tg i (m g (by omega) t l y S _ C q B) fun w' i=>?_;refine ⟨fun b w'=>b=.bool (CY t || !Ki y)/\Inv w [] [ei G (ku t (.slice J t.kids.length M)) ac] S w',?_,?_⟩
 ·refine aq i 0 af rfl rfl ?_;refine Run.callPure BV BR i (sR B) fun w' i=>?_;cases O:CY t
  ·refine rpG ?_;refine Run.callPure KQ Kh i (GK y p) fun w' i=>?_;refine c8 ?_;refine rpG ?_;exact ⟨by rw [jb],i⟩
  ·refine rpG ?_;exact ⟨by rw [za],i⟩
 intro D _ _ _ _ _ _ w';rintro ⟨rfl,i⟩;refine aL (fun j=>?_) (fun j=>?_)
 ·rw [na,ry] at j;rw [ag j] at h;refine eh (a:=[40]) (by simp only [aP,ce];omega) ?_;refine eh (b:=[41]) (by simp only [bt,aP,ce];omega) ?_;exact done i (by rw [<- h])
 ·rw [ae (fun r=>by rw [<- ry,<- na,j] at r;cases r)] at h;exact done i (by rw [<- h])
theorem WQ {f:Nat} (hf:f<=100000) (ih:∀ g,g<f->Bm g) (U:∀ g,g<f->Js g):O8 f:=by
 intro t x S cs h hx hc w j;obtain ⟨kv,rfl,_,_,_,hk⟩:=RdT.iff.1 hc;refine BG.2 ?_;dsimp only[BG,bd];refine bH j fun Y w' j=>?_;refine eZ j bi fun v0 w' j=>?_;refine ⟨fun a w'=>∃ (f':Nat) (r:T) (l:List T) (ds:nA) (css:List (nA)),f'+l.length=f/\Ig f' r l=some x/\RdT S ds r/\Rows 4 (RdT S) css l/\(∃ p m,a=.slice p l.length m)/\Inv w [] [ei Y ds.toArray ac,aB a ac 4 css] S w',
  fun a _=>f+1 - lenOf a,⟨f,t,[],_,[],by simp,h,hc,Rows.nil _ _,?_,j⟩,?_⟩
 ·have J:Inv w [] ([Item.blk Y (.cells (ku t kv) ac)]++[aB v0 ac 4 []]) S w':=j;obtain ⟨S1,_,C,_⟩:=Inv.lendExt J;obtain ⟨p,m,e,_⟩:=RowRd.rows (Rows.nil 4 (RdT S)) C;exact ⟨p,m,e⟩
 clear h hc hk j;intro _ _ _ _ t3 _ _ _ _ _ _ _ _ _ w';rintro ⟨f',r,l,ds,css,a5,q,hd,hR,⟨p,m,rfl⟩,j⟩;have O:=hd;obtain ⟨kd,rfl,_,_,_,hk⟩:=RdT.iff.1 hd;have a6:=hR.hc;cases f' with
 | zero=>simp [Ig] at q
 | succ g=>
 rw [Ig] at q;refine aq j 0 af rfl rfl ?_;refine Run.callPure sI ss j (mU O) fun w' j=>?_;split at q
 ·rename_i hp
  split at q
  ·rename_i a b a1
   rw [hp];refine aL (fun _=>?_) (fun N=>by cases N);rw [a1] at hk;refine ah j 0 rfl az aw rfl ?_;refine dj (i:=0) j hk ao af (by simp) (fun _ _=>RdT.length) fun es B=>?_;rw [pQ] at B;refine dB (css:=css) j 1 es bi (by omega) (by omega) rfl B.length B.one (by omega) (by omega) fun v' w' j=>?_;refine ah j 0 rfl az aw rfl ?_;refine dj (i:=1) j hk ao af (by simp) (fun _ _=>RdT.length) fun gs M=>?_;rw [UZ,pQ] at M;have a2:=M.length;refine aj j 0 rfl af (by simpa using a2) rfl (by simpa using M.one) fun w' j=>?_;have Z:=hR.snoc B B.length;have J:Inv w [] ([Item.blk Y (.cells gs.toArray ac)]++[aB v' ac 4 (css++[es])]) S w':=j;obtain ⟨S1,G,C,_⟩:=Inv.lendExt J;obtain ⟨p',m',e',_⟩:=RowRd.rows Z C;refine ⟨⟨g,b,l++[a],gs,css++[es],by rw [bt];simp only [aP,ce];omega,q,M,Z,⟨p',m',e'⟩,j⟩,?_⟩;rw [e'];simp only [lenOf,bt,aP,ce];omega
  ·cases q
 ·rename_i hp
  rw [bA.2 hp];refine aL (fun N=>by cases N) (fun _=>?_);split at q
  ·cases q
  rename_i y hy
  refine aq j 0 af rfl rfl ?_;refine Run.callPure Py Qb j (G3 O) fun w' j=>?_;have J:Inv w [] ([Item.blk Y (.cells (ku r kd) ac)]++[aB (.slice p l.length m) ac 4 css]) S w':=j;obtain ⟨S1,G,C,j⟩:=Inv.lendExt J;have a0:=RowRd.rows (hR.monoR fun _ _ h=>RdT.mono G.1 h) C;have a3:=RdT.mono G.1 O;split at q
  ·rename_i hn
   simp only [bj] at q;have a4:y.length+2=x.length:=by rw [<- q];simp only [bt,aP,ce];omega
   rw [hn];refine aL (fun _=>?_) (fun N=>by cases N);refine Run.callPure r9 tk j (U g (by omega) l y S1 _ hy (by omega) a0) fun w' j=>?_;refine eh (a:=[91]) (by simp only [aP,ce];omega) ?_;refine eh (b:=[93]) (by simp only [bt,aP,ce];omega) ?_;exact Ci j G.1 (by rw [<- q])
  ·rename_i hn
   split at q
   ·cases q
   rename_i z hz
   simp only [bj] at q;have a4:y.length+z.length+3=x.length:=by rw [<- q];simp only [bt,aP,ce];omega
   rw [bA.2 hn];refine aL (fun N=>by cases N) (fun _=>?_);refine ⟨fun D x2 uQ sM wz lW BJ rP ja oO w_=>Fx D 0 [oO=.slice p l.length m,ja=.string (st y),rP=.string (st ([91]++y)),BJ=.string (st ([91]++y++[124])),lW=.agg (ku r kd),wz=.string (st z),sM=.string (st ([91]++y++[124]++z)),uQ=.string (st ([91]++y++[124]++z++[93])),x2=.string (st ([91]++y++[124]++z++[93]))]/\Inv w [] [ei Y (ku r kd) ac] S1 w_,⟨Fx.nil _ _,j.draw⟩,⟨?_,?_,?_,?_,?_,?_,?_,?_,?_,trivial⟩,?_⟩;all_goals (intro D bp;intros;rename_i x2 uQ sM wz lW BJ rP ja oO w_ V;have o:=V.1;obtain ⟨⟨cF,ci,cG,cD,bU,cH,cj,cR,dJ,_⟩,j⟩:=V)
   ·exact ⟨o.set 0 rfl,j⟩
   ·obtain rfl:=cF ‹_›;refine Run.callPure r9 tk j (U g (by omega) l y S1 _ hy (by omega) a0) fun w_ j=>?_;exact ⟨o.set 1 rfl,j⟩
   ·obtain rfl:=ci ‹_›;refine eh (a:=[91]) (by simp only [aP,ce];omega) ?_;exact ⟨o.set 2 rfl,j⟩
   ·obtain rfl:=cG ‹_›;refine eh (b:=[124]) (by simp only [bt,aP,ce];omega) ?_;exact ⟨o.set 3 rfl,j⟩
   ·refine aq j 0 af rfl rfl ?_;exact ⟨o.set 4 rfl,j⟩
   ·obtain rfl:=bU ‹_›;refine Run.callPure iH iI j (ih g (by omega) r z S1 _ hz (by omega) a3) fun w_ j=>?_;exact ⟨o.set 5 rfl,j⟩
   ·obtain rfl:=cD ‹_›;obtain rfl:=cH ‹_›;refine eh (by simp only [bt,aP,ce];omega) ?_;exact ⟨o.set 6 rfl,j⟩
   ·obtain rfl:=cj ‹_›;refine eh (b:=[93]) (by simp only [bt,aP,ce];omega) ?_;exact ⟨o.set 7 rfl,j⟩
   ·obtain rfl:=cR ‹_›;exact ⟨o.set 8 rfl,j⟩
   obtain ⟨rfl,rfl,rfl,rfl,rfl,rfl,rfl,rfl,rfl,_⟩:=o.all;clear o cF ci cG cD bU cH cj cR dJ;exact Ci j G.1 (by rw [<- q])
theorem X0 {f:Nat} (a2:∀ g,g<f->O8 g) (a3:∀ g,g<f->Js g) (a4:∀ g,g<f->Pg g) (a5:∀ g,g<f->Lh g):Bm f:=by
 intro t x S cs h hx hc w l;cases f with
 | zero=>simp [Lx] at h
 | succ g=>
 rw [Lx] at h;have h0:=hc;obtain ⟨kv,rfl,_,_,_,hk⟩:=RdT.iff.1 hc;refine Bp.2 ?_;dsimp only[Bp,bd];refine bH l fun J w' l=>?_;obtain ⟨B1,q⟩:∃ B1,B1=Item.blk J (.cells (ku t kv) ac):=⟨_,rfl⟩
 refine aq l 0 af rfl rfl ?_;refine Run.callPure sI ss l (mU h0) fun w' l=>?_;split at h
 ·rename_i V
  rw [V];refine aL (fun _=>?_) (fun p=>by cases p);refine aq l 0 af rfl rfl ?_;refine Run.callPure NK Nm l (a2 g (by omega) t x S _ h hx h0) fun w' l=>?_;exact done l rfl
 rename_i V
 have V:=bA.2 V;rw [V];refine aL (fun p=>by cases p) (fun _=>?_);refine aq l 0 af rfl rfl ?_;refine Run.callPure zg xC l (qX h0) fun w' l=>?_;split at h
 ·rename_i hf
  rw [hf];refine aL (fun _=>?_) (fun p=>by cases p);split at h
  ·rename_i a b a6
   obtain ⟨B,Z⟩:∃ B,B=dA t.name:=⟨_,rfl⟩
   rw [<- Z] at h;have b8:1<=B/\B<=3:=by
    have h1:0<dA t.name:=by
     unfold qk at hf;simp only [bQ,bK] at hf;exact hf.2.2
    have h2:dA t.name<=3:=by
     unfold dA;split
     ·omega
     ·split
      ·omega
      ·split <;> omega
    omega
   split at h
   ·rename_i y z hy hz
    simp only [bj] at h;have a1:y.length+(j0 (bs t.name)).length+z.length=x.length:=by rw [<- h];simp only [bt]
    have b9:(bs t.name).length<=(j0 (bs t.name)).length:=by
     unfold j0;split
     ·simp;omega
     ·omega
    rw [a6] at hk;obtain ⟨b2,N,r,c2,E2,b4,rfl,hS,O⟩:=hk.at_ (i:=0) (by simp);obtain ⟨b5,b6,a7,b7,E2',b0,a8,a0,U⟩:=hk.at_ (i:=1) (by simp);cases a8;rw [hS] at a0;cases a0;rw [pQ] at O;rw [UZ,pQ] at U;refine ah l 0 rfl bu aV rfl ?_;refine Run.callPure ia hZ l (fQ _ S) fun w' l=>?_;rw [<- Z];have l:Inv w [] [B1] S w':=by rw [q];exact l
    refine ⟨fun v w'=>v=ee (if B=3 then 2 else B)/\Inv w [] [B1] S w',?_,?_⟩
    ·refine a9 ?_;refine aJ (fun M=>⟨by rw [ag M],l⟩) (fun M=>⟨by rw [ae M],l⟩)
    intro t4 _ _ w';rintro ⟨rfl,l⟩;subst q
    skip
    refine ⟨fun D Y oN uq xG CJ zb uQ sM wz lW BJ rP ja oO rj pr oM lT mY C=>Fx D 0 [mY=kh J 3,lT=kt b2 N [a,b].length r,oM=kh b2 (N+0 * 4),pr=.agg (bJ c2 (N+0 * 4) 4).toArray,rj=ee (if B=3 then 2 else B),oO=.string (st y),ja=kh J 2,rP=.string t.name,BJ=.string (st (j0 (bs t.name))),lW=.string (st (y++j0 (bs t.name))),wz=kh J 3,sM=kt b2 N [a,b].length r,uQ=kh b2 (N+1 * 4),zb=.agg (bJ c2 (N+1 * 4) 4).toArray,CJ=ee B,xG=ee (B - 1),uq=.string (st z),oN=.string (st (y++j0 (bs t.name)++z)),Y=.string (st (y++j0 (bs t.name)++z))]/\Inv w [] [ei J (ku t (kt b2 N [a,b].length r)) ac] S C,⟨Fx.nil _ _,l.draw⟩,⟨?_,?_,?_,?_,?_,?_,?_,?_,?_,?_,?_,?_,?_,?_,?_,?_,?_,?_,?_,trivial⟩,?_⟩;all_goals (intro D bp;intros;rename_i Y oN uq xG CJ zb uQ sM wz lW BJ rP ja oO rj pr oM lT mY C o;have m:=o.1;obtain ⟨⟨cF,ci,cG,cD,bU,cH,cj,cR,dJ,dQ,cJ,dv,eG,gL,kz,kX,lU,qe,rL,_⟩,l⟩:=o)
    ·refine ax az ?_;exact ⟨m.set 0 rfl,l⟩
    ·obtain rfl:=cF ‹_›;refine aG l 0 aw rfl rfl ?_;exact ⟨m.set 1 rfl,l⟩
    ·obtain rfl:=ci ‹_›;refine aN (i:=0) ao (by simp) ?_;exact ⟨m.set 2 rfl,l⟩
    ·obtain rfl:=cG ‹_›;refine eE af O.length (fun j v hj=>by rw [l.cellS hS];exact bf rfl j v hj) ?_;exact ⟨m.set 3 rfl,l⟩
    ·exact ⟨m.set 4 rfl,l⟩
    ·obtain rfl:=cD ‹_›;obtain rfl:=bU ‹_›;refine Run.callPure LA Ou l (a4 g (by omega) a _ y S _ hy (by omega) O) fun C l=>?_;exact ⟨m.set 5 rfl,l⟩
    ·refine ax bu ?_;exact ⟨m.set 6 rfl,l⟩
    ·obtain rfl:=cj ‹_›;refine aG l 0 aV rfl rfl ?_;exact ⟨m.set 7 rfl,l⟩
    ·obtain rfl:=cR ‹_›;refine Run.callPure GP GQ l (E0 (bs t.name) (by omega)) fun C l=>?_;exact ⟨m.set 8 rfl,l⟩
    ·obtain rfl:=cH ‹_›;obtain rfl:=dJ ‹_›;refine eh (by omega) ?_;exact ⟨m.set 9 rfl,l⟩
    ·refine ax az ?_;exact ⟨m.set 10 rfl,l⟩
    ·obtain rfl:=cJ ‹_›;refine aG l 0 aw rfl rfl ?_;exact ⟨m.set 11 rfl,l⟩
    ·obtain rfl:=dv ‹_›;refine aN (i:=1) ao (by simp) ?_;exact ⟨m.set 12 rfl,l⟩
    ·obtain rfl:=eG ‹_›;refine eE af U.length (fun j v hj=>by rw [l.cellS hS];exact bf rfl j v hj) ?_;exact ⟨m.set 13 rfl,l⟩
    ·exact ⟨m.set 14 rfl,l⟩
    ·obtain rfl:=kz ‹_›;refine jl (by omega) ?_;exact ⟨m.set 15 rfl,l⟩
    ·obtain rfl:=gL ‹_›;obtain rfl:=kX ‹_›;refine Run.callPure KB Kt l (a5 g (by omega) b _ z S _ hz (by omega) U) fun C l=>?_;exact ⟨m.set 16 rfl,l⟩
    ·obtain rfl:=dQ ‹_›;obtain rfl:=lU ‹_›;refine eh (by rw [bt];omega) ?_;exact ⟨m.set 17 rfl,l⟩
    ·obtain rfl:=qe ‹_›;exact ⟨m.set 18 rfl,l⟩
    obtain ⟨rfl,rfl,rfl,rfl,rfl,rfl,rfl,rfl,rfl,rfl,rfl,rfl,rfl,rfl,rfl,rfl,rfl,rfl,rfl,_⟩:=m.all;clear m cF ci cG cD bU cH cj cR dJ dQ cJ dv eG gL kz kX lU qe rL;exact done l (by rw [<- h])
   ·cases h
  ·cases h
 ·rename_i hf
  rw [bA.2 hf];refine aL (fun p=>by cases p) (fun _=>?_);obtain ⟨ka,kc,rfl,_⟩:=id hk;refine ⟨fun v w'=>v=.bool (decide (t.kind=3) && decide (0<t.kids.length))/\Inv w [] [B1] S w',?_,?_⟩
  ·refine ah l 0 rfl aW au rfl ?_;by_cases M:t.kind=3
   ·refine ik M ?_;refine rpG ?_;refine ah l 0 rfl az aw rfl ?_;refine iP ao ?_;refine fL ?_;refine rpG ?_;refine ⟨?_,by rw [q];exact l⟩;rw [aD M,fk]
    congr 1
    rw [cW];omega
   ·refine gk M ?_;refine rpG ?_;exact ⟨by rw [aM M,jm],by rw [q];exact l⟩
  intro b3 _ _ _ _ _ _ _ _ _ w';rintro ⟨rfl,l⟩;subst q;split at h
  ·rename_i G
   rw [aD G.1,aD G.2];refine aL (fun _=>?_) (fun p=>by cases p);split at h
   ·rename_i y hy
    simp only [bj] at h;have a1:(bs t.name).length+y.length+2=x.length:=by rw [<- h];simp only [bt,aP,ce];omega
    skip
    refine ⟨fun D Y wt rp lM rB pN pq oV nL C=>Fx D 0 [nL=kh J 2,oV=.string t.name,pq=.string (st (bs t.name++[40])),pN=kh J 3,rB=.slice ka t.kids.length kc,lM=.string (st y),rp=.string (st (bs t.name++[40]++y)),wt=.string (st (bs t.name++[40]++y++[41])),Y=.string (st (bs t.name++[40]++y++[41]))]/\Inv w [] [ei J (ku t (.slice ka t.kids.length kc)) ac] S C,⟨Fx.nil _ _,l.draw⟩,⟨?_,?_,?_,?_,?_,?_,?_,?_,?_,trivial⟩,?_⟩;all_goals (intro D bp;intros;rename_i Y wt rp lM rB pN pq oV nL C o;have m:=o.1;obtain ⟨⟨cF,ci,cG,cD,bU,cH,cj,cR,dJ,_⟩,l⟩:=o)
    ·refine ax bu ?_;exact ⟨m.set 0 rfl,l⟩
    ·obtain rfl:=cF ‹_›;refine aG l 0 aV rfl rfl ?_;exact ⟨m.set 1 rfl,l⟩
    ·obtain rfl:=ci ‹_›;refine eh (a:=bs t.name) (b:=[40]) (by simp only [aP,ce];omega) ?_;exact ⟨m.set 2 rfl,l⟩
    ·refine ax az ?_;exact ⟨m.set 3 rfl,l⟩
    ·obtain rfl:=cD ‹_›;refine aG l 0 aw rfl rfl ?_;exact ⟨m.set 4 rfl,l⟩
    ·obtain rfl:=bU ‹_›;refine Run.callPure r9 tk l (a3 g (by omega) t.kids y S _ hy (by omega) hk) fun C l=>?_;exact ⟨m.set 5 rfl,l⟩
    ·obtain rfl:=cG ‹_›;obtain rfl:=cH ‹_›;refine eh (by simp only [bt,aP,ce];omega) ?_;exact ⟨m.set 6 rfl,l⟩
    ·obtain rfl:=cj ‹_›;refine eh (b:=[41]) (by simp only [bt,aP,ce];omega) ?_;exact ⟨m.set 7 rfl,l⟩
    ·obtain rfl:=cR ‹_›;exact ⟨m.set 8 rfl,l⟩
    obtain ⟨rfl,rfl,rfl,rfl,rfl,rfl,rfl,rfl,rfl,_⟩:=m.all;clear m cF ci cG cD bU cH cj cR dJ;exact done l (by rw [<- h])
   ·cases h
  ·rename_i G
   have e:(decide (t.kind=3) && decide (0<t.kids.length))=false:=by
    rw [bA,ne_eq,bQ,bK,bK];exact G
   rw [e];refine aL (fun p=>by cases p) (fun _=>?_);refine aq l 0 af rfl rfl ?_;refine Run.callPure M6 Ni l (Lw h0 V h) fun w' l=>?_;exact done l rfl
theorem RL:∀ F f,f<F->F<=1000->Bm f/\O8 f/\Js f/\tJ f/\Pg f/\Lh f
 | 0,f,h,_=>by omega
 | F+1,f,h,hF=>by
  have i:=fun g (a:g<f)=>RL F g (by omega) (by omega);have j:Bm f:=X0 (fun g a=>(i g a).2.1) (fun g a=>(i g a).2.2.1) (fun g a=>(i g a).2.2.2.2.1) (fun g a=>(i g a).2.2.2.2.2);exact ⟨j,WQ (by omega) (fun g a=>(i g a).1) (fun g a=>(i g a).2.2.1),V5 fun g a=>(i g a).1,PA fun g a=>(i g a).1,WK (fun g a=>(i g a).1) (fun g a=>(i g a).2.2.2.1),Uu fun g a=>(i g a).2.2.2.1⟩
theorem Iu {f:Nat} (hf:f<=100):Bm f:=(RL (f+1) f (by omega) (by omega)).1
end
end
section
open Go Go.RowKit
theorem Grown.rows {α:Type} {k:Nat} {R:bN->nA->α->Prop} {R':nA->α->Prop} {Ls:List bN} {css:List (nA)} {ys:List α} {S:ai} (h:Grown k R Ls css ys) (g:Ins S Ls.flatten)
  (hR:∀ L cs x,Ins S L->R L cs x->R' cs x):Rows k R' css ys:=
 ⟨h.hc,h.hk,fun i a j=>hR _ _ _ (K9 g (by rw [h.hL];exact a)) (h.hR i a (by rw [h.hL];exact a) j)⟩
abbrev TB (t:T):Value->List Item->ai->Prop:=fun v I' S'=>∃ kv css,v=.agg #[ee t.kind,ee t.n,.string t.name,kv]/\I'=[aB kv ac 4 css]/\Rows 4 (RdT S') css t.kids
abbrev Vi (c:C):Value->List Item->ai->Prop:=fun v I' S'=>∃ hd kv css,v=.agg (hd++[kv]).toArray/\RdT S' hd c.head/\I'=[aB kv ac 4 css]/\Rows 4 (RdT S') css c.body
section
theorem Sf:∀ (t:T) (S:ai) (cs:nA),RdT S cs t->wT t<=1048576->nB wh [.agg cs.toArray] [] S (TB t):=by
 intro t S cs h hw;obtain ⟨k,n,s,ks⟩:=t;have ih:∀ t∈ks,∀ (S:ai) (cs:nA),RdT S cs t->wT t<=1048576->nB wh [.agg cs.toArray] [] S (Fv S t):=fun t _=>jW t;intro w g;obtain ⟨kv,rfl,h1,h2,hs,a0⟩:=RdT.iff.1 h;simp only [T.name,T.kids,T.kind,T.n] at h1 h2 hs a0 ⊢;simp only [wT] at hw;refine nQ.2 ?_;dsimp only[nQ,bd];refine bH g fun b1 w' g=>?_;refine aE g aQ fun b2 w' g=>?_;refine ah g 0 rfl aW au rfl ?_;refine ah g 0 rfl aR au rfl ?_;refine ah g 0 rfl bu aV rfl ?_;refine jO ?_;refine aE g aQ fun b3 w' g=>?_;refine aj g 2 rfl af rfl rfl (by simp [Value.oneCell']) fun w' g=>?_;have g:=g.rowNil ac 4;refine ⟨fun i w'=>∃ (j:Nat) (p:Value) (Ls:List bN) (css:List (nA)),j<=ks.length/\i=ee j/\Grown 4 TrT Ls css (ks.take j)/\
   Inv w [] (ei b1 #[ee k,ee n,.string s,kv] ac::.blk b2 (.cells et ac)::.blk b3 (.cells #[ee k,ee n,.string s,p] ac)::aB p ac 4 css::bO Ls.flatten) S w',
  fun i _=>ks.length - (intOf i).toNat,⟨0,_,[],[],aT _,rfl,Grown.nil _ _,g⟩,?_⟩
 intro t4 _ _ _ _ _ _ _ _ _ _ _ _ _ _ _ _ _ _ w';rintro ⟨j,p,Ls,css,hj,rfl,hg,g⟩;refine ah g 0 rfl az aw rfl ?_;refine aO a0 ao ?_;refine cd ?_;refine aJ (fun a7=>?_) (fun a7=>?_)
 ·have V:j<ks.length:=by omega
  have b0:(ks.take j).length=j:=by simp;omega
  have b4:=hg.hc;have hm:=cO V;have b5:=ni hm;obtain ⟨b,o,cap,c,E,fz,rfl,hS,hR⟩:=a0.at_ V;refine ⟨fun D wz O BJ rP ja oO rj pr oM lT mY Z=>Fx D 0 [mY=kh b3 3,lT=p,oM=kh b1 3,pr=kt b o (ks).length cap,rj=ee j,oO=kh b (o+j * 4),ja=.agg (bJ c (o+j * 4) 4).toArray,True,True,True,wz=kh b3 3,True]/\∃ M a r,(D 7=true->rP=.agg a.toArray/\TrT M a (ks)[j])/\(D 8=true->BJ=kt r 0 1 1)/\(D 8=true->D 7=true)/\(D 9=true->D 8=true)/\(D 11=true->D 9=true)/\(D 11=true->D 1=true)/\Inv w [] (bC (ei b1 #[ee k,ee n,.string s,kt b o ks.length cap] ac) (ei b2 et ac) (ei b3 #[ee k,ee n,.string s,p] ac) (ei b3 #[ee k,ee n,.string s,O] ac) (aB p ac 4 css) (aB O ac 4 (css++[a])) (bO Ls.flatten) M (ei r a.toArray ac) (D 7) (D 8) (D 9) (D 11)) S Z,⟨Fx.nil _ _,⟨[],[],0,aU,aU,aU,aU,aU,aU,by simpa [bC,bO] using g.draw⟩⟩,⟨?_,?_,?_,?_,?_,?_,?_,?_,?_,?_,?_,?_,trivial⟩,?_⟩;all_goals (intro D Y;intros;rename_i wz O BJ rP ja oO rj pr oM lT mY Z a2;have q:=a2.1;obtain ⟨⟨cF,ci,cG,cD,bU,cH,cj,cR,dJ,dQ,cJ,dv,_⟩,⟨M,a,r,C,U,J,G,l,N,g⟩⟩:=a2)
  ·refine ax az ?_;exact ⟨q.set 0 rfl,⟨M,a,r,C,U,J,G,l,N,g⟩⟩
  ·obtain rfl:=cF ‹_›;have B:D 11=false:=bA.2 fun h=>by rw [N h] at Y;cases Y
   refine aG (b:=b3) g 2 (c:=(#[ee k,ee n,.string s,p])) aw (by rw [B];rfl) rfl ?_;have N:=fun (_:aF D 1 11=true)=>(rfl:aF D 1 1=true)
   exact ⟨q.set 1 rfl,⟨M,a,r,C,U,J,G,l,N,g⟩⟩
  ·refine ax az ?_;exact ⟨q.set 2 rfl,⟨M,a,r,C,U,J,G,l,N,g⟩⟩
  ·obtain rfl:=cG ‹_›;refine aG g 0 aw rfl rfl ?_;exact ⟨q.set 3 rfl,⟨M,a,r,C,U,J,G,l,N,g⟩⟩
  ·exact ⟨q.set 4 rfl,⟨M,a,r,C,U,J,G,l,N,g⟩⟩
  ·obtain rfl:=cD ‹_›;obtain rfl:=bU ‹_›;refine aN ao V ?_;exact ⟨q.set 5 rfl,⟨M,a,r,C,U,J,G,l,N,g⟩⟩
  ·obtain rfl:=cH ‹_›;refine eE af hR.length (fun j v hj=>by rw [g.cellS hS];exact bf rfl j v hj) ?_;exact ⟨q.set 6 rfl,⟨M,a,r,C,U,J,G,l,N,g⟩⟩
  ·obtain rfl:=cj ‹_›;have f8:D 8=false:=bA.2 fun h=>by rw [J h] at Y;cases Y
   have f9:D 9=false:=bA.2 fun h=>by rw [G h] at f8;cases f8
   have B:D 11=false:=bA.2 fun h=>by rw [l h] at f9;cases f9
   rw [Y,f8,f9,B] at g;refine Run.call0 iC iG g (ih _ (cO V) S _ hR (by omega)) fun v' I' S Z=>?_;rintro ⟨rfl,a,M,rfl,rfl,hT⟩ _ g;have C:aF D 7 7=true->Value.agg a.toArray=Value.agg a.toArray/\TrT M a (ks)[j]:=fun _=>⟨rfl,hT⟩
   have J:=fun (_:aF D 7 8=true)=>(rfl:aF D 7 7=true)
   have g:Inv w [] (bC (ei b1 #[ee k,ee n,.string s,kt b o ks.length cap] ac) (ei b2 et ac) (ei b3 #[ee k,ee n,.string s,p] ac) (ei b3 #[ee k,ee n,.string s,O] ac) (aB p ac 4 css) (aB O ac 4 (css++[a])) (bO Ls.flatten) M (ei r a.toArray ac) true (D 8) (D 9) (D 11)) S Z:=by
    rw [f8,f9,B];simpa [bC] using g
   exact ⟨q.set 7 (by first|assumption|trivial),⟨M,a,r,C,U,J,G,l,N,g⟩⟩
  ·have Ch:=cR ‹_›;have f9:D 9=false:=bA.2 fun h=>by rw [G h] at Y;cases Y
   have B:D 11=false:=bA.2 fun h=>by rw [l h] at f9;cases f9
   obtain ⟨q7,hT⟩:=C ‹D 7=true›;subst q7;rw [‹D 7=true›,Y,f9,B] at g;refine eO g bi (by simp [Value.cells,hT.length]) (by omega) (by omega) fun r Z g=>?_;have C:aF D 8 7=true->Value.agg a.toArray=Value.agg a.toArray/\TrT M a (ks)[j]:=fun _=>⟨rfl,hT⟩
   have U:=fun (_:aF D 8 8=true)=>(rfl:Value.slice (some ⟨r,0,none⟩) 1 1=_)
   have J:=fun (_:aF D 8 8=true)=>‹D 7=true›;have G:=fun (_:aF D 8 9=true)=>(rfl:aF D 8 8=true)
   have g:Inv w [] (bC (ei b1 #[ee k,ee n,.string s,kt b o ks.length cap] ac) (ei b2 et ac) (ei b3 #[ee k,ee n,.string s,p] ac) (ei b3 #[ee k,ee n,.string s,O] ac) (aB p ac 4 css) (aB O ac 4 (css++[a])) (bO Ls.flatten) M (ei r a.toArray ac) (D 7) true (D 9) (D 11)) S Z:=by
    rw [‹D 7=true›,f9,B];simpa [bC,Value.cells] using g
   exact ⟨q.set 8 (by first|assumption|trivial),⟨M,a,r,C,U,J,G,l,N,g⟩⟩
  ·obtain rfl:=ci ‹_›;have z4:=dJ ‹_›;have B:D 11=false:=bA.2 fun h=>by rw [l h] at Y;cases Y
   have q8:=U ‹D 8=true›;subst q8;obtain ⟨_,hT⟩:=C ‹D 7=true›;rw [‹D 7=true›,‹D 8=true›,Y,B] at g;have a4:((bC (ei b1 #[ee k,ee n,.string s,kt b o ks.length cap] ac) (ei b2 et ac) (ei b3 #[ee k,ee n,.string s,lT] ac) (ei b3 #[ee k,ee n,.string s,O] ac) (aB lT ac 4 css) (aB O ac 4 (css++[a])) (bO Ls.flatten) M (ei r a.toArray ac) true true false false))[4+(bO Ls.flatten).length+(bO M).length]?=some (ei r a.toArray ac):=by
    have e4:4+(bO Ls.flatten).length+(bO M).length=((bO Ls.flatten).length+(bO M).length)+1+1+1+1:=by omega
    rw [e4];simp only [bC,mG];rw [jV (by omega),qx,jV (aY _),fB];rfl
   refine fl g 3 a bi (by omega) rfl (by rw [hT.length]) (m:=1) (o:=0) ?_ hT.one (by omega) (by omega) fun v' Z g=>?_
   ·intro i u hi;rw [g.cellL a4,cS];simpa using hi
   rw [fO] at g;have G:=fun (_:aF D 9 9=true)=>‹D 8=true›;have l:=fun (_:aF D 9 11=true)=>(rfl:aF D 9 9=true)
   have g:Inv w [] (bC (ei b1 #[ee k,ee n,.string s,kt b o ks.length cap] ac) (ei b2 et ac) (ei b3 #[ee k,ee n,.string s,lT] ac) (ei b3 #[ee k,ee n,.string s,v'] ac) (aB lT ac 4 css) (aB v' ac 4 (css++[a])) (bO Ls.flatten) M (ei r a.toArray ac) (D 7) (D 8) true (D 11)) S Z:=by
    rw [‹D 7=true›,‹D 8=true›,B];exact g
   exact ⟨q.set 9 (by first|assumption|trivial),⟨M,a,r,C,U,J,G,l,N,g⟩⟩
  ·refine ax az ?_;exact ⟨q.set 10 rfl,⟨M,a,r,C,U,J,G,l,N,g⟩⟩
  ·obtain rfl:=cJ ‹_›;have Ds:=dQ ‹_›;rw [‹D 7=true›,‹D 8=true›,‹D 9=true›,Y] at g;obtain ⟨va,vn,vc,a1⟩:=Inv.rowSlice g 3 rfl;refine eV g 2 (n:=1) (by rw [a1];rfl) (by decide +kernel) rfl (by simp) (by rw [a1];simp [Value.cells,Value.oneCell']) fun Z g=>?_;have a5:Value.cells O=#[O]:=by rw [a1];rfl
   rw [a5] at g;have N:=fun (_:aF D 11 11=true)=>‹D 1=true›;have l:=fun (_:aF D 11 11=true)=>‹D 9=true›;have g:Inv w [] (bC (ei b1 #[ee k,ee n,.string s,kt b o ks.length cap] ac) (ei b2 et ac) (ei b3 #[ee k,ee n,.string s,p] ac) (ei b3 #[ee k,ee n,.string s,O] ac) (aB p ac 4 css) (aB O ac 4 (css++[a])) (bO Ls.flatten) M (ei r a.toArray ac) (D 7) (D 8) (D 9) true) S Z:=by
    rw [‹D 7=true›,‹D 8=true›,‹D 9=true›];exact g
   exact ⟨q.set 11 trivial,⟨M,a,r,C,U,J,G,l,N,g⟩⟩
  obtain ⟨rfl,rfl,rfl,rfl,rfl,rfl,rfl,Ch,z4,Ds,rfl,_,_⟩:=q.all;have nI:D 7=true:=by assumption
  have H7:D 8=true:=by assumption
  have Jw:D 9=true:=by assumption
  have qb:D 11=true:=by assumption
  clear q cF ci cG cD bU cH cj cR dJ dQ cJ dv;obtain ⟨_,hT⟩:=C nI;rw [nI,H7,Jw,qb] at g;refine bL (by omega) ?_;refine ⟨⟨j+1,O,Ls++[M],css++[a],V,rfl,?_,?_⟩,by simp [intOf];omega⟩
  ·rw [gt V];exact hg.snoc hT hT.length
  ·simp only [y5,gR,sU,dk,ft];refine g.sub ?_;simp only [bC];rw [<- cN];exact (((gV _ _).cons_cons _).cons_cons _).cons_cons _ |>.cons_cons _
 ·have:j=ks.length:=by omega
  subst this;rw [g7] at hg;obtain ⟨va,vn,vc,a8⟩:=g.rowSlice 3 rfl;have a9:p.oneCell'=true:=by rw [a8];rfl
  refine aq g 2 af rfl rfl ?_;refine aj g 1 rfl af rfl rfl ?_ fun w' g=>?_
  ·intro u hu;have a6:u∈([ee k,ee n,.string s,p]:nA):=hu;simp at a6;rcases a6 with rfl|rfl|rfl|rfl <;> first|rfl|exact a9
  refine be g 1 af rfl rfl ?_;have g:Inv w [] ([aB p ac 4 css]++bO Ls.flatten) S w':=g.sub (fj [_,_,_] _);obtain ⟨S1,g,hE,a3⟩:=g.pubExt;exact ⟨_,_,S1,rfl,g,hE,_,css,rfl,rfl,hg.rows a3 fun _ _ _ hi h=>h.rd hi⟩
theorem Sx {c0:C} {S:ai} {cs:nA} (h:RdC S cs c0) (hw:wC c0<=1048576):nB Es [.agg cs.toArray] [] S (Vi c0):=by
 intro w a;obtain ⟨hd,ks,rfl,h1,h2⟩:=h;have b0:=h1;obtain ⟨kv,rfl,g1,g2,g3,g4⟩:=RdT.iff.1 h1;unfold wC at hw;refine nK.2 ?_;dsimp only[nK,bd];refine bH a fun b1 w' a=>?_;refine aE a cI fun b2 w' a=>?_;refine ax cV ?_;refine gd a 0 (kB c0.head kv) af rfl rfl ON ?_;refine Run.call0 iC iG a (jW _ S _ b0 (by omega)) fun v' I' S w'=>?_;rintro ⟨rfl,b5,N,rfl,rfl,a3⟩ _ a;obtain ⟨t,rfl,_⟩:=TrT.iff.1 a3;refine n9 ?_;refine aE a cI fun b3 w' a=>?_;have a:=a.perm (M:=.blk b1 _::.blk b2 _::.blk b3 _::bO N) (((bD (l₁:=[_])).cons _).cons _);refine aj a 2 rfl aK rfl rfl ?_ fun w' a=>?_
 ·intro u hu;have a1:u∈([ee c0.head.kind,ee c0.head.n,.string c0.head.name,t,nx]:nA):=hu;simp at a1;have o1:t.oneCell'=true:=a3.one t (by simp);rcases a1 with rfl|rfl|rfl|rfl|rfl <;> first|rfl|exact o1
 have a:=a.rowNil ac 4;have a:=a.perm (M:=ei b1 #[ee c0.head.kind,ee c0.head.n,.string c0.head.name,kv,ks] ad::.blk b2 (.cells eu ad)::.blk b3 (.cells #[ee c0.head.kind,ee c0.head.n,.string c0.head.name,t,nx] ad)::aB (nx) ac 4 []::bO N) ((((bD (l₁:=[_])).cons _).cons _).cons _);refine ⟨fun i w'=>∃ (j:Nat) (l:Value) (Ls:List bN) (css:List (nA)),j<=c0.body.length/\i=ee j/\Grown 4 TrT Ls css (c0.body.take j)/\
   Inv w [] (ei b1 #[ee c0.head.kind,ee c0.head.n,.string c0.head.name,kv,ks] ad::.blk b2 (.cells eu ad)::.blk b3 (.cells #[ee c0.head.kind,ee c0.head.n,.string c0.head.name,t,l] ad)::aB l ac 4 css::bO (N::Ls).flatten) S w',
  fun i _=>c0.body.length - (intOf i).toNat,⟨0,_,[],[],aT _,rfl,Grown.nil _ _,by simp only [gR,sU,dk];exact a⟩,?_⟩
 intro t4 _ _ _ _ _ _ _ _ _ _ _ _ _ _ _ _ _ _ w';rintro ⟨j,l,Ls,css,hj,rfl,hg,a⟩;refine ah a 0 rfl bS aw rfl ?_;refine aO h2 ao ?_;refine cd ?_;refine aJ (fun a8=>?_) (fun a8=>?_)
 ·have a2:j<c0.body.length:=by omega
  have b6:(c0.body.take j).length=j:=by simp;omega
  have b7:=hg.hc;have hm:=cO a2;have b9:=ni hm;obtain ⟨b,o,cap,c,E,fz,rfl,hS,hR⟩:=h2.at_ a2;refine ⟨fun D rP V oO rj pr oM lT mY oX lS p8 w_=>Fx D 0 [p8=kh b3 4,lS=l,oX=kh b1 4,mY=kt b o (c0.body).length cap,lT=ee j,oM=kh b (o+j * 4),pr=.agg (bJ c (o+j * 4) 4).toArray,True,True,True,rP=kh b3 4,True]/\∃ M g r,(D 7=true->rj=.agg g.toArray/\TrT M g (c0.body)[j])/\(D 8=true->oO=kt r 0 1 1)/\(D 8=true->D 7=true)/\(D 9=true->D 8=true)/\(D 11=true->D 9=true)/\(D 11=true->D 1=true)/\Inv w [] (bC (ei b1 #[ee c0.head.kind,ee c0.head.n,.string c0.head.name,kv,kt b o c0.body.length cap] ad) (ei b2 eu ad) (ei b3 #[ee c0.head.kind,ee c0.head.n,.string c0.head.name,t,l] ad) (ei b3 #[ee c0.head.kind,ee c0.head.n,.string c0.head.name,t,V] ad) (aB l ac 4 css) (aB V ac 4 (css++[g])) (bO (N::Ls).flatten) M (ei r g.toArray ac) (D 7) (D 8) (D 9) (D 11)) S w_,⟨Fx.nil _ _,⟨[],[],0,aU,aU,aU,aU,aU,aU,by simpa [bC,bO] using a.draw⟩⟩,⟨?_,?_,?_,?_,?_,?_,?_,?_,?_,?_,?_,?_,trivial⟩,?_⟩;all_goals (intro D Z;intros;rename_i rP V oO rj pr oM lT mY oX lS p8 w_ a5;have q:=a5.1;obtain ⟨⟨cF,ci,cG,cD,bU,cH,cj,cR,dJ,dQ,cJ,dv,_⟩,⟨M,g,r,G,Y,O,J,p,U,a⟩⟩:=a5)
  ·refine ax bS ?_;exact ⟨q.set 0 rfl,⟨M,g,r,G,Y,O,J,p,U,a⟩⟩
  ·obtain rfl:=cF ‹_›;have B:D 11=false:=bA.2 fun h=>by rw [U h] at Z;cases Z
   refine aG (b:=b3) a 2 (c:=(#[ee c0.head.kind,ee c0.head.n,.string c0.head.name,t,l])) aw (by rw [B];rfl) rfl ?_;have U:=fun (_:aF D 1 11=true)=>(rfl:aF D 1 1=true)
   exact ⟨q.set 1 rfl,⟨M,g,r,G,Y,O,J,p,U,a⟩⟩
  ·refine ax bS ?_;exact ⟨q.set 2 rfl,⟨M,g,r,G,Y,O,J,p,U,a⟩⟩
  ·obtain rfl:=cG ‹_›;refine aG a 0 aw rfl rfl ?_;exact ⟨q.set 3 rfl,⟨M,g,r,G,Y,O,J,p,U,a⟩⟩
  ·exact ⟨q.set 4 rfl,⟨M,g,r,G,Y,O,J,p,U,a⟩⟩
  ·obtain rfl:=cD ‹_›;obtain rfl:=bU ‹_›;refine aN ao a2 ?_;exact ⟨q.set 5 rfl,⟨M,g,r,G,Y,O,J,p,U,a⟩⟩
  ·obtain rfl:=cH ‹_›;refine eE af hR.length (fun j v hj=>by rw [a.cellS hS];exact bf rfl j v hj) ?_;exact ⟨q.set 6 rfl,⟨M,g,r,G,Y,O,J,p,U,a⟩⟩
  ·obtain rfl:=cj ‹_›;have f8:D 8=false:=bA.2 fun h=>by rw [O h] at Z;cases Z
   have f9:D 9=false:=bA.2 fun h=>by rw [J h] at f8;cases f8
   have B:D 11=false:=bA.2 fun h=>by rw [p h] at f9;cases f9
   rw [Z,f8,f9,B] at a;refine Run.call0 iC iG a (jW _ S _ hR (by omega)) fun v' I' S w_=>?_;rintro ⟨rfl,g,M,rfl,rfl,hT⟩ _ a;have G:aF D 7 7=true->Value.agg g.toArray=Value.agg g.toArray/\TrT M g (c0.body)[j]:=fun _=>⟨rfl,hT⟩
   have O:=fun (_:aF D 7 8=true)=>(rfl:aF D 7 7=true)
   have a:Inv w [] (bC (ei b1 #[ee c0.head.kind,ee c0.head.n,.string c0.head.name,kv,kt b o c0.body.length cap] ad) (ei b2 eu ad) (ei b3 #[ee c0.head.kind,ee c0.head.n,.string c0.head.name,t,l] ad) (ei b3 #[ee c0.head.kind,ee c0.head.n,.string c0.head.name,t,V] ad) (aB l ac 4 css) (aB V ac 4 (css++[g])) (bO (N::Ls).flatten) M (ei r g.toArray ac) true (D 8) (D 9) (D 11)) S w_:=by
    rw [f8,f9,B];simpa [bC] using a
   exact ⟨q.set 7 (by first|assumption|trivial),⟨M,g,r,G,Y,O,J,p,U,a⟩⟩
  ·have Ch:=cR ‹_›;have f9:D 9=false:=bA.2 fun h=>by rw [J h] at Z;cases Z
   have B:D 11=false:=bA.2 fun h=>by rw [p h] at f9;cases f9
   obtain ⟨q7,hT⟩:=G ‹D 7=true›;subst q7;rw [‹D 7=true›,Z,f9,B] at a;refine eO a bi (by simp [Value.cells,hT.length]) (by omega) (by omega) fun r w_ a=>?_;have G:aF D 8 7=true->Value.agg g.toArray=Value.agg g.toArray/\TrT M g (c0.body)[j]:=fun _=>⟨rfl,hT⟩
   have Y:=fun (_:aF D 8 8=true)=>(rfl:Value.slice (some ⟨r,0,none⟩) 1 1=_)
   have O:=fun (_:aF D 8 8=true)=>‹D 7=true›;have J:=fun (_:aF D 8 9=true)=>(rfl:aF D 8 8=true)
   have a:Inv w [] (bC (ei b1 #[ee c0.head.kind,ee c0.head.n,.string c0.head.name,kv,kt b o c0.body.length cap] ad) (ei b2 eu ad) (ei b3 #[ee c0.head.kind,ee c0.head.n,.string c0.head.name,t,l] ad) (ei b3 #[ee c0.head.kind,ee c0.head.n,.string c0.head.name,t,V] ad) (aB l ac 4 css) (aB V ac 4 (css++[g])) (bO (N::Ls).flatten) M (ei r g.toArray ac) (D 7) true (D 9) (D 11)) S w_:=by
    rw [‹D 7=true›,f9,B];simpa [bC,Value.cells] using a
   exact ⟨q.set 8 (by first|assumption|trivial),⟨M,g,r,G,Y,O,J,p,U,a⟩⟩
  ·obtain rfl:=ci ‹_›;have z4:=dJ ‹_›;have B:D 11=false:=bA.2 fun h=>by rw [p h] at Z;cases Z
   have q8:=Y ‹D 8=true›;subst q8;obtain ⟨_,hT⟩:=G ‹D 7=true›;rw [‹D 7=true›,‹D 8=true›,Z,B] at a;have a6:((bC (ei b1 #[ee c0.head.kind,ee c0.head.n,.string c0.head.name,kv,kt b o c0.body.length cap] ad) (ei b2 eu ad) (ei b3 #[ee c0.head.kind,ee c0.head.n,.string c0.head.name,t,lS] ad) (ei b3 #[ee c0.head.kind,ee c0.head.n,.string c0.head.name,t,V] ad) (aB lS ac 4 css) (aB V ac 4 (css++[g])) (bO (N::Ls).flatten) M (ei r g.toArray ac) true true false false))[4+(bO (N::Ls).flatten).length+(bO M).length]?=some (ei r g.toArray ac):=by
    have e4:4+(bO (N::Ls).flatten).length+(bO M).length=((bO (N::Ls).flatten).length+(bO M).length)+1+1+1+1:=by omega
    rw [e4];simp only [bC,mG];rw [jV (by omega),qx,jV (aY _),fB];rfl
   refine fl a 3 g bi (by omega) rfl (by rw [hT.length]) (m:=1) (o:=0) ?_ hT.one (by omega) (by omega) fun v' w_ a=>?_
   ·intro i u hi;rw [a.cellL a6,cS];simpa using hi
   rw [fO] at a;have J:=fun (_:aF D 9 9=true)=>‹D 8=true›;have p:=fun (_:aF D 9 11=true)=>(rfl:aF D 9 9=true)
   have a:Inv w [] (bC (ei b1 #[ee c0.head.kind,ee c0.head.n,.string c0.head.name,kv,kt b o c0.body.length cap] ad) (ei b2 eu ad) (ei b3 #[ee c0.head.kind,ee c0.head.n,.string c0.head.name,t,lS] ad) (ei b3 #[ee c0.head.kind,ee c0.head.n,.string c0.head.name,t,v'] ad) (aB lS ac 4 css) (aB v' ac 4 (css++[g])) (bO (N::Ls).flatten) M (ei r g.toArray ac) (D 7) (D 8) true (D 11)) S w_:=by
    rw [‹D 7=true›,‹D 8=true›,B];exact a
   exact ⟨q.set 9 (by first|assumption|trivial),⟨M,g,r,G,Y,O,J,p,U,a⟩⟩
  ·refine ax bS ?_;exact ⟨q.set 10 rfl,⟨M,g,r,G,Y,O,J,p,U,a⟩⟩
  ·obtain rfl:=cJ ‹_›;have Ds:=dQ ‹_›;rw [‹D 7=true›,‹D 8=true›,‹D 9=true›,Z] at a;obtain ⟨va,vn,vc,a4⟩:=Inv.rowSlice a 3 rfl;refine eV a 2 (n:=1) (by rw [a4];rfl) (by decide +kernel) rfl (by simp) (by rw [a4];simp [Value.cells,Value.oneCell']) fun w_ a=>?_;have a7:Value.cells V=#[V]:=by rw [a4];rfl
   rw [a7] at a;have U:=fun (_:aF D 11 11=true)=>‹D 1=true›;have p:=fun (_:aF D 11 11=true)=>‹D 9=true›;have a:Inv w [] (bC (ei b1 #[ee c0.head.kind,ee c0.head.n,.string c0.head.name,kv,kt b o c0.body.length cap] ad) (ei b2 eu ad) (ei b3 #[ee c0.head.kind,ee c0.head.n,.string c0.head.name,t,l] ad) (ei b3 #[ee c0.head.kind,ee c0.head.n,.string c0.head.name,t,V] ad) (aB l ac 4 css) (aB V ac 4 (css++[g])) (bO (N::Ls).flatten) M (ei r g.toArray ac) (D 7) (D 8) (D 9) true) S w_:=by
    rw [‹D 7=true›,‹D 8=true›,‹D 9=true›];exact a
   exact ⟨q.set 11 trivial,⟨M,g,r,G,Y,O,J,p,U,a⟩⟩
  obtain ⟨rfl,rfl,rfl,rfl,rfl,rfl,rfl,Ch,z4,Ds,rfl,_,_⟩:=q.all;have nI:D 7=true:=by assumption
  have H7:D 8=true:=by assumption
  have Jw:D 9=true:=by assumption
  have qb:D 11=true:=by assumption
  clear q cF ci cG cD bU cH cj cR dJ dQ cJ dv;obtain ⟨_,hT⟩:=G nI;rw [nI,H7,Jw,qb] at a;refine bL (by omega) ?_;refine ⟨⟨j+1,V,Ls++[M],css++[g],a2,rfl,?_,?_⟩,by simp [intOf];omega⟩
  ·rw [gt a2];exact hg.snoc hT hT.length
  ·rw [<- dg,y5,ft];simp only [gR,sU,dk];refine a.sub ?_;simp only [bC,gR];rw [<- cN];exact (((gV _ _).cons_cons _).cons_cons _).cons_cons _ |>.cons_cons _
 ·have:j=c0.body.length:=by omega
  subst this;rw [g7] at hg;obtain ⟨va,vn,vc,a9⟩:=a.rowSlice 3 rfl;have b4:l.oneCell'=true:=by rw [a9];rfl
  have o1:t.oneCell'=true:=a3.one t (by simp);refine aq a 2 aK rfl rfl ?_;refine aj a 1 rfl aK rfl rfl ?_ fun w' a=>?_
  ·intro u hu;have a1:u∈([ee c0.head.kind,ee c0.head.n,.string c0.head.name,t,l]:nA):=hu;simp at a1;rcases a1 with rfl|rfl|rfl|rfl|rfl <;> first|rfl|exact o1|exact b4
  refine be a 1 aK rfl rfl ?_;have a:Inv w [] (aB l ac 4 css::bO (N::Ls).flatten) S w':=a.sub (fj [_,_,_] _);have a:Inv w [] ([aB l ac 4 css]++bO (N::Ls).flatten) S w':=a;obtain ⟨S1,a,hE,a0⟩:=a.pubExt;rw [gR] at a0;exact ⟨_,_,S1,rfl,a,hE,_,l,css,rfl,a3.rd a0.left,rfl,hg.rows a0.right fun _ _ _ hi h=>h.rd hi⟩
end
end
section
open Go Go.RowKit
section
variable {w0 w:World} {X:List Nat} {L:List Item} {S:ai} {P:Program} {K:Value->World->Prop}
theorem vy (h:Inv w0 X L S w) {T ty e:TypeId} {a:Nat} {z v x:Value} {cs:List Bool} {css:List (nA)} (i:Nat)
  (r:jX P T=some (e,1,a,z)) (t:L[i]?=some (aB v e 1 css)) (B:x.cells=#[x]) (C:x.oneCell'=true) (g:css.length+1<=4294967296) (q:a<=32768)
  {K:Value->Value->World->Prop} (hk:∀ v' w',Inv w0 X (L.set i (aB v' e 1 (css++[[x]]))) S w'->K (.slice (some ⟨w.heap.size,0,none⟩) 1 1) v' w') :
  Run P (cf T 1 [(0,x)]) w fun u w'=>Run P (co .append #[T,T] ty cs [v,u]) w' (K u):=by
 refine pa h r (by rw [B];rfl) (by omega) (by omega) fun w' l=>?_;have p:i<L.length:=(ie.1 t).1;refine fl l i [x] r (by omega) (by rw [UF p];exact t) (by simp) (m:=1) (o:=0) ?_ (by simpa using C) g q fun v' w' l=>?_
 ·intro j u D;rw [l.cellL (i:=L.length) (by rw [jV (aY _),fB];rfl)];rw [cS,B];simpa using D
 ·refine hk _ _ ?_;rw [<- fO];rw [KX _ _ p] at l;exact l.sub (gV _ _)
end
end
section
open Go Go.RowKit
theorem AK:∀ (f:Nat) (l:List T) (b:Bool) (out x:Bs),Bx f l b out=some x->out.length<=x.length
 | _,[],_,out,x,h=>by simp only [Bx,bj] at h;subst h;exact aY _
 | f,t::l,b,out,x,h=>by
  rw [Bx] at h;split at h
  ·cases h
  ·have:=AK f _ _ _ _ h;simp only [bt] at this;omega
section
variable {S:ai}
theorem JQ {f:Nat} (hf:f<=100) {c:C} {cs:nA} {x:Bs} (h:RdC S cs c) (m:Rm f c=some x) (Z:x.length<=1000000):ru Qg [.agg cs.toArray] S (.string (st x)):=by
 intro w g;obtain ⟨hd,ks,rfl,J,B⟩:=h;have D:=J;obtain ⟨kv,rfl,_⟩:=RdT.iff.1 J;unfold Rm at m;split at m
 ·cases m
 rename_i y M
 split at m
 ·cases m
 rename_i z G
 simp only [bj] at m;have V:z.length+1=x.length:=by rw [<- m,bt];rfl
 have Y:=AK _ _ _ _ _ G;have hb:c.body.length<=9223372036854775807:=by have:=B.le;simpa [maxLen] using this
 refine C1.2 ?_;dsimp only[C1,bd];refine bH g fun q w' g=>?_;have g:Inv w [] [ei q #[ee c.head.kind,ee c.head.n,.string c.head.name,kv,ks] ad] S w':=g;refine ax cV ?_;refine gd g 0 (kB c.head kv) af rfl rfl ON ?_;refine Run.callPure iH iI g (Iu hf _ y S _ M (by omega) D) fun w' g=>?_;refine ⟨fun a b w'=>∃ (j:Nat) (out:Bs),j<=c.body.length/\a=ee (j:Int)/\b=.string (st out)/\Bx f (c.body.drop j) (decide (j=0)) out=some z/\Inv w [] [ei q #[ee c.head.kind,ee c.head.n,.string c.head.name,kv,ks] ad] S w',
  fun a _ _=>c.body.length - (intOf a).toNat,⟨0,y,aT _,rfl,rfl,G,g⟩,?_⟩
 intro t4 _ _ _ _ _ _ _ _ _ _ _ _ N _ _ _ _ _ _ _ _ _ w';rintro ⟨j,out,hj,rfl,rfl,i,g⟩;refine ah g 0 rfl bS aw rfl ?_;refine aO B ao ?_;refine cd ?_;refine aJ (fun r=>?_) (fun r=>?_)
 ·have p:j<c.body.length:=by omega
  rw [ef p,Bx] at i;split at i
  ·cases i
  rename_i u O
  have o:=AK _ _ _ _ _ i;simp only [bt] at o;obtain ⟨pre,l⟩:∃ pre:Bs,pre=if decide (j=0)=true then [58,45] else [44]:=⟨_,rfl⟩
  rw [<- l] at i o;refine ⟨fun b w'=>b=.string (st (out++pre))/\Inv w [] [ei q #[ee c.head.kind,ee c.head.n,.string c.head.name,kv,ks] ad] S w',?_,?_⟩
  ·refine a9 ?_;refine aJ (fun U=>?_) (fun U=>?_)
   ·rw [ag (aD (by omega))] at l;subst l;refine eh (b:=[58,45]) (by omega) ?_;exact ⟨rfl,g⟩
   ·rw [ae (by rw [bK];omega)] at l;subst l;refine eh (b:=[44]) (by omega) ?_;exact ⟨rfl,g⟩
  intro _ _ N _ _ _ _ w';rintro ⟨rfl,g⟩;refine ah g 0 rfl bS aw rfl ?_;refine dj g B ao af p (fun _ _=>RdT.length) fun es t=>?_;refine Run.callPure iH iI g (Iu hf _ u S _ O (by omega) t) fun w' g=>?_;refine eh (by rw [bt];omega) ?_;refine bL (by omega) ?_;refine ⟨⟨j+1,out++pre++u,p,rfl,rfl,?_,g⟩,by simp only [intOf,dH];omega⟩;rw [aM (by omega)];exact i
 ·have:j=c.body.length:=by omega
  subst this;rw [eL,Bx] at i;simp only [bj] at i;subst i;refine eh (b:=[46]) (by simp only [aP,ce];omega) ?_;exact done g (by rw [<- m])
theorem wo {f:Nat} (hf:f<=100) {c:C} {cs:nA} {x:Bs} (h:RdC S cs c) (hc:aZ c=true) (i:wC c<=1048576) (j:Rm f c=some x) (l:x.length<=1000000):ru Ba [.agg cs.toArray] S (.string (st x)):=by
 intro w a;have g:=h;obtain ⟨q,ks,rfl,o,r⟩:=h;obtain ⟨kv,rfl,_⟩:=RdT.iff.1 o;refine od.2 ?_;dsimp only[od,bd];refine bH a fun p w' a=>?_;refine aq a 0 aK rfl rfl ?_;refine Run.callPure oS pF a (mS g i) fun w' a=>?_;refine c8 ?_;rw [hc];refine aL (fun m=>by cases m) (fun _=>?_);refine aq a 0 aK rfl rfl ?_;refine Run.callPure NS Mr a (JQ hf g j l) fun w' a=>?_;exact done a rfl
theorem HA {f k:Nat} {s:Bs} {i:Nat} {ts:List T} {n:Nat} (h:wb f k s i []=some (ts,n)) (hs:s.length<=100000) (hi:i<=s.length):nB LQ [.string (st s),ee (i:Int)] [] S (Xg ts n):=by
 intro w j;refine wU.2 ?_;dsimp only[wU,bv];refine eZ j bi fun v0 w' j=>?_;refine ⟨fun a b w'=>∃ (Y O:Nat) (l:List T) (S1:ai) (css:List (nA)),a=ee (O:Int)/\O<=s.length/\wb f Y s O l=some (ts,n)/\Ext w.heap.size [] S S1/\Rows 4 (RdT S1) css l/\(∃ p m,b=.slice p l.length m)/\Inv w [] [aB b ac 4 css] S1 w',
  fun a _ _=>s.length+1 - (intOf a).toNat,⟨k,i,[],S,[],rfl,hi,h,Ext.refl _ _ _,Rows.nil _ _,?_,j⟩,?_⟩
 ·have B:Inv w [] ([]++[aB v0 ac 4 []]) S w':=j;obtain ⟨S1,_,r,_⟩:=Inv.lendExt B;obtain ⟨p,m,e,_⟩:=RowRd.rows (Rows.nil 4 (RdT S)) r;exact ⟨p,m,e⟩
 intro t1 _ _ _ _ _ _ _ _ t6 _ _ _ _ _ _ _ _ _ _ _ _ _ _ _ _ _ _ _ w';rintro ⟨Y,O,l,S1,css,rfl,Z,C,hE,hR,⟨p,m,rfl⟩,j⟩;have a4:=hR.hc;cases Y with
 | zero=>simp [wb] at C
 | succ g=>
 rw [wb] at C;split at C
 ·cases C
 rename_i h6
 split at C
 ·cases C
 rename_i t U hr
 have a5:=(jo f).1 _ _ _ _ _ _ hr;refine iP ao ?_;refine KC (by omega) ?_;refine aL (fun _=>?_) (fun J=>by cases J);refine Run.call0E iN iB j (IK f s O 30 3 t U S1 hr hs Z (by omega) (by omega)) fun v I' S2 w'=>?_;rintro ⟨rfl,cs,rfl,o⟩ G j;have a1:=hR.monoR fun _ _ h=>RdT.mono G.1 h;obtain ⟨kv,rfl,_,_,_,a,q,rfl,_⟩:=RdT.iff.1 o;refine aA (v:=.agg _) rfl ?_;refine aA (v:=ee (U:Int)) rfl ?_;refine aE j aQ fun a2 w' j=>?_;refine aj j 1 rfl af rfl rfl (by simp [Value.oneCell']) fun w' j=>?_;refine gu (by omega) ?_;refine aL (fun J=>by cases J) (fun _=>?_);refine aq j 1 af rfl rfl ?_;refine dB (css:=css) j 0 _ bi (by omega) (by omega) rfl o.length o.one (by omega) (by omega) fun v' w' j=>?_;have j:Inv w [] [aB v' ac 4 (css++[(kB t (.slice a t.kids.length q))])] S2 w':=j.pick [true,false];have M:=a1.snoc o o.length;have B:Inv w [] ([]++[aB v' ac 4 (css++[(kB t (.slice a t.kids.length q))])]) S2 w':=j;obtain ⟨S3,a0,r,a3⟩:=Inv.lendExt B;have N:=RowRd.rows (M.monoR fun _ _ h=>RdT.mono a0.1 h) r;refine Run.callPure ey ez j (dN s U 44 S2) fun w' j=>?_;refine c8 ?_;split at C
 ·rename_i D
  rw [D];refine aL (fun J=>by cases J) (fun _=>?_);have:=jZ D;refine gx (a:=U) (b:=1) rfl rfl (by omega) ?_;obtain ⟨p',m',e',_⟩:=N;refine ⟨⟨g,U+1,l++[t],S2,_,rfl,by omega,C,hE.trans G,M,⟨p',m',e'⟩,j⟩,?_⟩;simp only [intOf,dH];omega
 ·rename_i D
  rw [bA.2 D];refine aL (fun _=>?_) (fun J=>by cases J);simp only [bj,c9] at C;obtain ⟨rfl,rfl⟩:=C;have B:Inv w [] ([]++[aB v' ac 4 (css++[(kB t (.slice a t.kids.length q))])]) S2 w':=j;obtain ⟨S4,V,r,j⟩:=Inv.lendExt B;have N:=RowRd.rows (M.monoR fun _ _ h=>RdT.mono V.1 h) r;exact ⟨_,[],S4,rfl,j,(hE.trans G).trans V,rfl,_,rfl,N⟩
abbrev Zz (c:C) (b:Bool):Value->List Item->ai->Prop:=fun v I' S'=>I'=[]/\∃ cs,v=.tuple #[.agg cs.toArray,.bool b]/\RdC S' cs c
theorem zJ {f:Nat} (hf:f<=100) {s:Bs} {c:C} (h:yH f s=some c):nB Dl [.string (st s)] [] S (Zz c true):=by
 intro w g;refine pj.2 ?_;dsimp only[pj,bd];unfold yH at h;split at h
 ·cases h
 rename_i hs
 split at h
 ·cases h
 rename_i i n hr
 have b3:=(jo f).1 _ _ _ _ _ _ hr;have j:∃ b l,c=⟨i,b⟩/\Su f s c l=some c/\((sgn s n 58=true/\sgn s (n+1) 45=true/\wb f 8 s (n+2) []=some (b,l)) ∨ (¬ (sgn s n 58=true/\sgn s (n+1) 45=true)/\b=[]/\l=n)):=by
  have U:∀ (c':C) (m:Nat),Su f s c' m=some c->c'=c:=fun c' m h=>by
   unfold Su at h;split at h
   ·exact JK h
   ·cases h
  split at h
  ·rename_i o
   split at h
   ·cases h
   rename_i b l hg
   have e:=U _ _ h;subst e;exact ⟨b,l,rfl,h,.inl ⟨o.1,o.2,hg⟩⟩
  ·rename_i o
   have e:=U _ _ h;subst e;exact ⟨[],n,rfl,h,.inr ⟨o,rfl,rfl⟩⟩
 clear h;obtain ⟨b,l,rfl,j,D⟩:=j;unfold Su at j;split at j
 case isFalse=>cases j
 rename_i hq
 obtain ⟨b0,a2,a3,b1,a4⟩:=hq;clear j;refine aE g cI fun b2 w' g=>?_;refine g6 bm ?_;refine oA (by omega) ?_;refine aL (fun r=>by cases r) (fun _=>?_);refine Run.call0E iN iB g (IK f s 0 30 3 i n S hr (by omega) (by omega) (by omega) (by omega)) fun v I' S1 w'=>?_;rintro ⟨rfl,cs,rfl,B⟩ J g;obtain ⟨kv,rfl,_,_,_,a,q,rfl,_⟩:=RdT.iff.1 B;refine aA (v:=.agg _) rfl ?_;refine aA (v:=ee (n:Int)) rfl ?_;refine aE g aQ fun b4 w' g=>?_;refine aj g 1 rfl af rfl rfl (by simp [Value.oneCell']) fun w' g=>?_;refine gu (by omega) ?_;refine aL (fun r=>by cases r) (fun _=>?_);refine aq g 1 af rfl rfl ?_;refine n9 ?_;refine aE g cI fun Z w' g=>?_;refine aj g 2 rfl aK rfl rfl (by simp [Value.oneCell']) fun w' g=>?_;obtain ⟨B2,N⟩:∃ B2,B2=Item.blk b2 (.cells eu ad):=⟨_,rfl⟩
 obtain ⟨B4,a5⟩:∃ B4,B4=Item.blk b4 (.cells (ku i (.slice a i.kids.length q)) ac):=⟨_,rfl⟩
 have g:Inv w [] [B2,B4,ei Z #[ee i.kind,ee i.n,.string i.name,.slice a i.kids.length q,nx] ad] S1 w':=by rw [N,a5];exact g
 refine ⟨fun v w'=>∃ (G:Value) (S2:ai),v=ee (l:Int)/\Ext w.heap.size [] S S2/\RdT S2 (kB i (.slice a i.kids.length q)) i/\RdSl S2 4 (RdT S2) G b/\
   Inv w [] [B2,B4,ei Z #[ee i.kind,ee i.n,.string i.name,.slice a i.kids.length q,G] ad] S2 w',?_,?_⟩
 ·refine ⟨fun v w'=>v=.bool (sgn s n 58 && sgn s (n+1) 45)/\Inv w [] [B2,B4,ei Z #[ee i.kind,ee i.n,.string i.name,.slice a i.kids.length q,nx] ad] S1 w',?_,?_⟩
  ·refine Run.callPure ey ez g (dN s n 58 S1) fun w' g=>?_;cases o:sgn s n 58
   ·refine rpG ?_;exact ⟨by rw [jm],g⟩
   ·refine rpG ?_;refine gx (a:=n) (b:=1) rfl rfl (by omega) ?_;refine Run.callPure ey ez g (dN s (n+1) 45 S1) fun w' g=>?_;refine rpG ?_;exact ⟨by rw [fk],g⟩
  intro a8 _ _ _ _ _ _ _ _ w';rintro ⟨rfl,g⟩;rcases D with ⟨h1,h2,hg⟩|⟨h1,rfl,rfl⟩
  ·rw [h1,h2];refine aL (fun _=>?_) (fun r=>by cases r);have h3:=jZ h2;refine gx (a:=n) (b:=2) rfl rfl (by omega) ?_;refine Run.call0E KE Kc g (HA hg (by omega) (by omega)) fun v I' S2 w'=>?_;rintro ⟨rfl,u,rfl,hu⟩ t g;obtain ⟨p,m,rfl,_⟩:=id hu;refine aA (v:=.slice p b.length m) rfl ?_;refine aA (v:=ee (l:Int)) rfl ?_;refine cq g 2 rfl bS aw rfl rfl rfl fun w' g=>?_;exact ⟨_,S2,rfl,J.trans t,RdT.mono t.1 B,hu,g⟩
  ·have e:(sgn s l 58 && sgn s (l+1) 45)=false:=by
    rw [bA,ne_eq,bQ];exact h1
   rw [e];refine aL (fun r=>by cases r) (fun _=>?_);exact ⟨_,S1,rfl,J,B,ll S1,g⟩
 intro t5 _ _ _ _ _ _ _ _ _ _ _ _ _ _ _ _ _ w';rintro ⟨G,S2,rfl,t,a0,r,g⟩;have hC:RdC S2 [ee i.kind,ee i.n,.string i.name,.slice a i.kids.length q,G] ⟨i,b⟩:=⟨(kB i (.slice a i.kids.length q)),G,rfl,a0,r⟩
 refine ⟨fun v w'=>v=.bool false/\Inv w [] [B2,B4,ei Z #[ee i.kind,ee i.n,.string i.name,.slice a i.kids.length q,G] ad] S2 w',?_,?_⟩
 ·refine g6 bm ?_;refine jl (by omega) ?_;refine jN ?_;rw [aD (show (l:Int)=(s.length:Int) - 1 by omega)];refine cw (b:=false) ?_;refine Run.callPure ey ez g (dN s l 46 S2) fun w' g=>?_;refine c8 ?_;rw [a2];refine tY ?_;refine cw (b:=false) ?_;refine aq g 2 aK rfl rfl ?_;refine Run.callPure wO yB g (wo hf hC a3 (by omega) a4 (by omega)) fun w' g=>?_;refine QT ?_;rw [aD rfl];refine tY ?_;exact ⟨rfl,g⟩
 intro a9 _ _ _ _ _ _ _ _ _ _ _ _ _ _ _ _ w';rintro ⟨rfl,g⟩;refine aL (fun r=>by cases r) (fun _=>?_);refine aq g 2 aK rfl rfl ?_;refine Run.call0E r6 sY g (xp hC (by omega)) fun v I' S3 w'=>?_;rintro ⟨rfl,ds,M,rfl,rfl,hT⟩ a1 g;obtain ⟨S4,g,a6,O⟩:=g.pubExt;have V:=hT.rd O;have Y:=V.length;have a7:=hT.one;subst N;refine aj g 0 rfl aK (by simpa using Y) rfl (by simpa using a7) fun w' g=>?_;refine be g 0 aK rfl (by simpa using Y) ?_;exact ⟨_,[],S4,rfl,g.nil,(t.trans a1).trans a6,rfl,_,rfl,V⟩
def XD (cs:List Value) (l:Bs):Prop:=cs=[.string (st l)]
theorem Ju (s:Bs) (c:Nat) (hs:s.length<=100000):nB PC [.string (st s),.int .u8 (c:Int)] [] S fun v I' S'=>I'=[]/\RdSl S' 1 XD v (Hf s c s.length 0 0 []):=by
 intro w m;refine B7.2 ?_;dsimp only[B7,bv];refine eZ m EF fun v0 w' m=>?_;obtain ⟨R,hR⟩:∃ R,R=Hf s c s.length 0 0 []:=⟨_,rfl⟩
 rw [<- hR];refine ⟨fun t u v w'=>∃ (i fr:Nat) (j:List Bs) (css:List (nA)),t=ee (i:Int)/\u=ee (fr:Int)/\j.length<=i/\((i<=s.length/\fr<=i/\Hf s c (s.length - i) i fr j=R) ∨ (i=s.length+1/\j=R))/\Rows 1 XD css j/\Inv w [] [aB v fx 1 css] S w',
  fun t _ _ _=>s.length+2 - (intOf t).toNat,⟨0,0,[],[],rfl,rfl,aY _,.inl ⟨aT _,aY _,hR.symm⟩,Rows.nil _ _,m⟩,?_⟩
 intro t7 _ _ t6 _ _ U _ _ _ _ _ _ _ _ _ _ _ _ _ _ _ _ _ _ _ _ _ _ w';rintro ⟨i,fr,j,css,rfl,rfl,a1,hc,r,m⟩;have a3:=r.hc;refine g6 bm ?_;refine jK ?_;refine aJ (fun hi=>?_) (fun hi=>?_)
 ·have Z:i<=s.length:=by omega
  obtain ⟨_,hfr,hcut⟩:i<=s.length/\fr<=i/\Hf s c (s.length - i) i fr j=R:=by
   rcases hc with h|h
   ·exact h
   ·omega
  obtain ⟨br,B⟩:∃ br,br=(decide (i=s.length) || sgn s i c):=⟨_,rfl⟩
  refine ⟨fun u v w'=>∃ (p:Nat) (l:List Bs) (o:List (nA)),u=ee (p:Int)/\l.length<=i+1/\p<=i+1/\l=(if br=true then j++[cut s fr i] else j)/\p=(if br=true then i+1 else fr)/\Rows 1 XD o l/\Inv w [] [aB v fx 1 o] S w',?_,?_⟩
  ·refine ⟨fun b w'=>b=.bool br/\Inv w [] [aB U fx 1 css] S w',?_,?_⟩
   ·refine g6 bm ?_;by_cases C:i=s.length
    ·refine ik (by omega) ?_;refine rpG ?_;exact ⟨by rw [B,aD C,za],m⟩
    ·refine gk (by omega) ?_;refine rpG ?_;have O:i<s.length:=by omega
     refine fZ bm O ?_;refine a9 ?_;refine rpG ?_;refine ⟨?_,m⟩;rw [B,aM C,jb,mH O]
     congr 1
     rw [cW];omega
   intro a2 _ _ _ _ _ _ _ _ _ _ w';rintro ⟨rfl,m⟩;refine aL (fun N=>?_) (fun N=>?_)
   ·refine FS bm hfr Z ?_;refine vy (css:=css) m 0 EF rfl rfl rfl (by omega) (by omega) fun v' w' m=>?_;refine gx (a:=i) (b:=1) rfl rfl (by omega) ?_;refine ⟨i+1,j++[cut s fr i],_,rfl,by rw [bt];simp only [aP,ce];omega,aY _,by rw [ag N],by rw [ag N],r.snoc rfl rfl,m⟩
   ·exact ⟨fr,j,css,rfl,by omega,by omega,by rw [ae (by rw [N];decide)],by rw [ae (by rw [N];decide)],r,m⟩
  intro t6 _ _ U _ _ _ _ _ _ _ _ _ _ _ _ _ _ _ _ _ _ w';rintro ⟨p,l,o,rfl,G,J,g,q,M,m⟩;refine gx (a:=i) (b:=1) rfl rfl (by omega) ?_;refine ⟨⟨i+1,p,l,o,rfl,rfl,G,?_,M,m⟩,by simp only [intOf,dH];omega⟩;by_cases C:i=s.length
  ·right;refine ⟨by rw [C],?_⟩;rw [C,fB,Hf,<- C] at hcut;rw [g,ag (by rw [B,aD C,za])];exact hcut
  ·left;refine ⟨by omega,J,?_⟩;rw [show s.length - i=(s.length - (i+1))+1 by omega,Hf] at hcut;rw [B,aM C,jb] at g q;split at hcut
   ·rename_i D
    rw [ag D] at g q;rw [g,q];exact hcut
   ·rename_i D
    rw [ae D] at g q;rw [g,q];exact hcut
 ·obtain ⟨_,rfl⟩:i=s.length+1/\j=R:=by
   rcases hc with h|h
   ·omega
   ·exact h
  have a0:Inv w [] ([]++[aB U fx 1 css]) S w':=m;obtain ⟨S1,V,Y,m⟩:=Inv.lendExt a0;exact ⟨_,[],S1,rfl,m,V,rfl,RowRd.rows r Y⟩
theorem HB {f:Nat} {a:List Bs} {i:Nat} (h:i<a.length) (g:List C):m9 f (a.drop i) g=match yH f a[i] with
  | none=>none
  | some c=>m9 f (a.drop (i+1)) (g++[c]):=by
 rw [ef h,m9];cases yH f a[i] <;> rfl
theorem vI {f:Nat} (hf:f<=100) {s:Bs} {p:List C} (h:Rw f s=some p) (hs:s.length<=100000):nB pn [.string (st s)] [] S fun v I' S'=>∃ u css,v=.tuple #[u,.bool true]/\I'=[aB u ad 5 css]/\Rows 5 (RdC S') css p:=by
 intro w g;refine ol.2 ?_;dsimp only[ol,bd];unfold Rw VM at h;refine eZ g BK fun v0 w' g=>?_;refine Run.call0E Mb Nc g (Ju s 10 hs) fun v I' S1 w'=>?_;rintro ⟨rfl,q⟩ a0 g;have g:Inv w [] [aB v0 ad 5 []] S1 w':=g;obtain ⟨j,Y⟩:∃ j,j=Hf s 10 s.length 0 0 []:=⟨_,rfl⟩
 rw [<- Y] at q h;simp only [] at h;split at h
 ·cases h
 rename_i hc
 simp only [not_or,ne_eq,LG] at hc;obtain ⟨a6,M⟩:=hc;have a7:0<j.length:=by
  cases j with
  | nil=>simp at M
  | cons a l=>simp
 have N:j[j.length - 1]=[]:=by
  rw [List.getLast?_eq_getElem?,me (by omega)] at M;exact JK M
 refine ⟨fun b w'=>b=.bool false/\Inv w [] [aB v0 ad 5 []] S1 w',?_,?_⟩
 ·refine aO q dM ?_;refine oA (by omega) ?_;refine rpG ?_;refine aO q dM ?_;refine F7 (a:=j.length) (b:=1) rfl rfl (by omega) (by omega) ?_;have J:j.length - 1<j.length:=by omega
  obtain ⟨b,o,cap,c,E,fz,hv,hS,hR⟩:=q.at_ J;subst hv;refine aN dM J ?_;refine eD aV ((g.cellS hS).trans (bf hR 0 _ rfl)) ?_;refine QT (b:=[]) ?_;rw [aD N];refine rpG ?_;exact ⟨rfl,g⟩
 intro a4 _ _ _ _ _ _ _ _ _ _ _ w';rintro ⟨rfl,g⟩;refine aL (fun hb=>by cases hb) (fun _=>?_);refine ⟨fun a b w'=>∃ (i:Nat) (r:List C) (S2:ai) (css:List (nA)),a=ee (i:Int)/\i+1<=j.length/\r.length=i/\m9 f (j.dropLast.drop i) r=some p/\Sle S1 S2/\Ext w.heap.size [] S S2/\Rows 5 (RdC S2) css r/\Inv w [] [aB b ad 5 css] S2 w',
  fun a _ _=>j.length - (intOf a).toNat,⟨0,[],S1,[],rfl,by omega,rfl,h,Sle.refl _,a0,Rows.nil _ _,g⟩,?_⟩
 intro t6 _ _ t4 _ _ _ _ _ _ _ _ _ _ _ _ _ _ _ _ _ _ _ _ _ _ _ _ w';rintro ⟨i,r,S2,css,rfl,hi,a1,m,D,U,hR,g⟩;have a8:=hR.hc;refine gx (a:=i) (b:=1) rfl rfl (by omega) ?_;refine aO q dM ?_;refine cd ?_;have a9:j.dropLast.length=j.length - 1:=List.length_dropLast;refine aJ (fun J=>?_) (fun a5=>?_)
 ·have Z:i<j.length:=by omega
  have O:i<j.dropLast.length:=by omega
  rw [HB O] at m;have eg:j.dropLast[i]=j[i]:=List.getElem_dropLast _;rw [eg] at m;obtain ⟨b,o,cap,c,E,fz,hv,hS,a2⟩:=q.at_ Z;subst hv;split at m
  ·cases m
  rename_i cl V
  refine aN dM Z ?_;refine eD aV ((g.cellS (D _ _ hS)).trans (bf a2 0 _ rfl)) ?_;refine Run.call0E AQ AC g (zJ hf V) fun v I' S3 w'=>?_;rintro ⟨rfl,ds,rfl,t⟩ G g;have B:=t.length;have a3:=hR.monoR fun _ _ h=>RdC.mono G.1 h;refine aA (v:=.agg ds.toArray) rfl ?_;refine aA (v:=.bool true) rfl ?_;refine aE g cI fun b7 w' g=>?_;refine aj g 1 rfl aK (by simpa using B) rfl (by simpa using t.one) fun w' g=>?_;refine c8 ?_;refine aL (fun hb=>by cases hb) (fun _=>?_);refine aq g 1 aK rfl (by simpa using B) ?_;refine dB (css:=css) g 0 _ BK (by omega) (by omega) rfl B t.one (by omega) (by omega) fun v' w' g=>?_;have g:Inv w [] [aB v' ad 5 (css++[ds])] S3 w':=g.pick [true,false];refine gx (a:=i) (b:=1) rfl rfl (by omega) ?_;exact ⟨⟨i+1,r++[cl],S3,_,rfl,by omega,by rw [bt,a1];rfl,m,D.trans G.1,U.trans G,a3.snoc t B,g⟩,by simp only [intOf,dH];omega⟩
 ·have O:j.dropLast.length<=i:=by omega
  rw [uY O,m9] at m;simp only [bj] at m;subst m;exact ⟨_,_,S2,rfl,g,U,_,css,rfl,rfl,hR⟩
end
end
section
open Go Go.RowKit

def qz (t u:T):Bool:=decide (t.kind=u.kind) && (decide (t.n=u.n) && (decide (t.name=u.name) && decide (t.kids.length=u.kids.length)))
theorem ot (k n g h:Int) (s s':ByteArray) (ks a:List T):qz (.mk k n s ks) (.mk g h s' a)=(decide (k=g) && (decide (n=h) && (decide (s=s') && decide (ks.length=a.length)))):=rfl
theorem W5 {α β:Type} (a:List α) (b:List β):decide (a.length=b.length)=decide ((a.length:Int)=(b.length:Int)):=by
 rw [sD];simp only [bK];omega
end
section
open Go Go.RowKit

theorem xW {xs:List T} (N:∀ t∈xs,∀ (u:T) (S:ai) (cs ds:nA),RdT S cs t->RdT S ds u->ru qI [.agg cs.toArray,.agg ds.toArray] S (.bool (eqT t u)))
  {ys:List T} {S:ai} {v u:Value} (h:RdSl S 4 (RdT S) v xs) (J:RdSl S 4 (RdT S) u ys):ru wl [v,u,.func (.func qI) #[] #[]] S (.bool (eqL xs ys)):=by
 intro w a;have M:(xs.length:Int)<=9223372036854775807:=by have:=h.le;simp only [maxLen] at this;omega
 refine l8.2 ?_;dsimp only[l8,eX];refine aO h ao ?_;refine aO J ao ?_;refine jN ?_;refine aL (fun l=>?_) (fun D=>?_)
 ·exact done a (by rw [VX (by simp at l;omega)])
 have D:xs.length=ys.length:=by simp at D;omega
 refine aO h ao ?_;refine ⟨fun i w'=>∃ (k:Nat),k<=xs.length/\i=ee k/\eqL (xs.drop k) (ys.drop k)=eqL xs ys/\Inv w [] [] S w',fun i _=>xs.length - (intOf i).toNat,⟨0,aT _,rfl,rfl,a⟩,?_⟩;intro O _ _ _ _ _ _ _ _ _ _ _ _ _ _ _ _ _ _ w';rintro ⟨k,hk,rfl,g,a⟩;refine cd ?_;refine aJ (fun G=>?_) (fun G=>?_)
 ·have m:k<xs.length:=by omega
  have r:k<ys.length:=by omega
  have j:eqL (xs.drop k) (ys.drop k)=(eqT xs[k] ys[k] && eqL (xs.drop (k+1)) (ys.drop (k+1))):=by
   rw [ef m,ef r,eqL]
  refine dj a h ao af m (fun _ _=>RdT.length) fun cs o=>?_;have B:=o.length;refine aE a aQ fun U w' a=>?_;refine aj a 0 rfl af (by simpa using B) rfl (by simpa using o.one) fun w' a=>?_;refine dj a J ao af r (fun _ _=>RdT.length) fun ds p=>?_;have C:=p.length;refine aE a aQ fun V w' a=>?_;refine aj a 1 rfl af (by simpa using C) rfl (by simpa using p.one) fun w' a=>?_;refine aq a 0 af rfl (by simpa using B) ?_;refine aq a 1 af rfl (by simpa using C) ?_;refine Run.callPure vk uZ a (N _ (cO m) _ S _ _ o p) fun w' a=>?_;refine c8 ?_;refine aL (fun l=>?_) (fun q=>?_)
  ·exact done a (by rw [<- g,j];simp at l;rw [l];rfl)
  ·refine bL (by omega) ?_;refine ⟨⟨k+1,m,rfl,?_,a.nil⟩,by simp [intOf];omega⟩;rw [<- g,j];simp at q;rw [q,fk]
 ·have:k=xs.length:=by omega
  subst this;refine done a ?_;rw [<- g,eL,D,eL];rfl
theorem pd:∀ (t u:T) (S:ai) (cs ds:nA),RdT S cs t->RdT S ds u->ru qI [.agg cs.toArray,.agg ds.toArray] S (.bool (eqT t u)):=by
 refine T.ind fun k n s ks o u S cs ds h p=>?_;intro w a;obtain ⟨kv,rfl,_,_,_,j⟩:=RdT.iff.1 h;obtain ⟨q,rfl,_,_,_,g⟩:=RdT.iff.1 p;obtain ⟨r,B,s',C⟩:=u;simp only [T.name,T.kids,T.kind,T.n] at j g ⊢;refine vt.2 ?_;dsimp only[vt,bv];refine bH a fun D w' a=>?_;refine bH a fun G w' a=>?_;refine ah a 0 rfl aW au rfl ?_;refine ah a 1 rfl aW au rfl ?_;refine a9 ?_;by_cases i:k=r
 ·rw [aD i];refine rpG ?_;refine ah a 0 rfl aR au rfl ?_;refine ah a 1 rfl aR au rfl ?_;refine a9 ?_;by_cases l:n=B
  ·rw [aD l];refine rpG ?_;refine ah a 0 rfl bu aV rfl ?_;refine ah a 1 rfl bu aV rfl ?_;refine bT ?_;by_cases m:s=s'
   ·rw [aD m];refine rpG ?_;refine ah a 0 rfl az aw rfl ?_;refine ah a 1 rfl az aw rfl ?_;refine Run.callPure mh l6 a (xW o j g) fun w' a=>?_;refine rpG ?_;exact done a (by rw [eqT,aD i,aD l,aD m];rfl)
   ·rw [aM m];refine rpG ?_;exact done a (by rw [eqT,aD i,aD l,aM m];rfl)
  ·rw [aM l];refine rpG ?_;exact done a (by rw [eqT,aD i,aM l];rfl)
 ·rw [aM i];refine rpG ?_;exact done a (by rw [eqT,aM i];rfl)
end
end Go.Proofs.YtjbcdmheajljpaaGreat

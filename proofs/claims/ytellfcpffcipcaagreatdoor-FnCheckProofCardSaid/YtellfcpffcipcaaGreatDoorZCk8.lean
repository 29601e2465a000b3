/- Texts written: spec.l2Text and its kin, l4Text, FormatClause. -/
import Derived.Test.YtellfcpffcipcaaGreatDoorZCkA
import Derived.Test.YtellfcpffcipcaaGreatDoorZCk7
namespace Go.Proofs.YtellfcpffcipcaaGreatDoor
attribute [local irreducible] Run CondV aF aT
open Go Go.RowKit
theorem Yh:Tryz.prog.underlying RW=some (.slice Pj):=by kernel_rfl
section
variable {w:World} {S:ae}
theorem pg {t:T} {cs:hZ} (h:RdT S cs t):ll U3 [.agg cs.toArray] S (.bool (HU t)):=by
 intro w a;obtain ⟨kv,rfl,_,_,_,hk⟩:=RdT.iff.1 h;obtain ⟨i,j,rfl,_⟩:=id hk;apply FJ.2;dsimp only[FJ,aR];refine bq a fun g w' a=>?_;apply ad a 0 rfl aM aw rfl;by_cases f:t.kind=3
 ·apply iZ f;refine rpG ?_;refine ad a 0 rfl aW aP rfl (bB (b:=st [46]) ?_);cases hn:decide (t.name=st [46])
  ·refine rpG ?_;exact done a (by rw [HU,hn,jZ,m5])
  ·refine rpG ?_;refine ad a 0 rfl ao aj rfl (fJ ag (bn ?_));refine rpG ?_;refine done a ?_;rw [HU,hn,aL f,dz,dz]
   congr 1
   rw [dJ];omega
 ·apply gr f;refine rpG ?_;exact done a (by rw [HU,aS f,jZ])
theorem K1 {t:T} {cs:hZ} (h:RdT S cs t):ll W2 [.agg cs.toArray] S (.bool (Ya t)):=by
 intro w a;obtain ⟨kv,rfl,_,_,_,hk⟩:=RdT.iff.1 h;obtain ⟨i,j,rfl,_⟩:=id hk;apply JL.2;dsimp only[JL,aR];refine bq a fun g w' a=>?_;apply ad a 0 rfl aM aw rfl;by_cases f:t.kind=3
 ·apply iZ f;refine rpG ?_;refine ad a 0 rfl aW aP rfl (bB (b:=st [91,93]) ?_);cases hn:decide (t.name=st [91,93])
  ·refine rpG ?_;exact done a (by rw [Ya,hn,jZ,m5])
  ·refine rpG ?_;refine ad a 0 rfl ao aj rfl (fJ ag (bn ?_));refine rpG ?_;refine done a ?_;rw [Ya,hn,aL f,dz,dz]
   congr 1
   rw [dJ];omega
 ·apply gr f;refine rpG ?_;exact done a (by rw [Ya,aS f,jZ])
theorem tC {t:T} {cs:hZ} (h:RdT S cs t):ll SO [.agg cs.toArray] S (.bool (tx t)):=by
 intro w a;obtain ⟨kv,rfl,_,_,_,hk⟩:=RdT.iff.1 h;obtain ⟨i,j,rfl,_⟩:=id hk;apply Cj.2;dsimp only[Cj,aR];refine bq a fun g w' a=>?_;apply ad a 0 rfl aM aw rfl;by_cases f:t.kind=3
 ·apply iZ f;refine rpG ?_;refine ad a 0 rfl ao aj rfl (fJ ag ?_);by_cases hn:t.kids.length=2
  ·refine iZ (by omega) ?_;refine rpG ?_;refine ad a 0 rfl aW aP rfl (Run.callPure gD gI a (eZ _ S) fun w' a=>?_);apply ew;refine rpG ?_;exact done a (by rw [tx,aL f,aL hn,dz,dz])
  ·refine gr (by omega) ?_;refine rpG ?_;exact done a (by rw [tx,aS hn,jZ,m5])
 ·apply gr f;refine rpG ?_;exact done a (by rw [tx,aS f,jZ])
theorem uP {t:T} {cs:hZ} (h:RdT S cs t):ll Vz [.agg cs.toArray] S (.bool (EI t)):=by
 intro w a;obtain ⟨kv,rfl,_,_,_,hk⟩:=RdT.iff.1 h;obtain ⟨i,j,rfl,_⟩:=id hk;apply Ft.2;dsimp only[Ft,aR];refine bq a fun g w' a=>?_;apply ad a 0 rfl aM aw rfl;by_cases f:t.kind=3
 ·apply iZ f;refine rpG ?_;refine ad a 0 rfl ao aj rfl (fJ ag ?_);by_cases hn:t.kids.length=0
  ·refine iZ (by omega) ?_;refine rpG ?_;refine ad a 0 rfl aW aP rfl (Run.callPure gD gI a (eZ _ S) fun w' a=>?_);apply ew;refine rpG ?_;exact done a (by rw [EI,aL f,aL hn,dz,dz])
  ·refine gr (by omega) ?_;refine rpG ?_;exact done a (by rw [EI,aS hn,jZ,m5])
 ·apply gr f;refine rpG ?_;exact done a (by rw [EI,aS f,jZ])
theorem Kl (n:Bs) (hn:n.length<=1000000):ll N9 [.string (st n)] S (.string (st (lz n))):=by
 intro w g;apply xX.2;dsimp only[xX,aR];refine ⟨fun b w'=>b=.bool (decide (n=[105,115]) || decide (n=[109,111,100]))/\Inv w [] [] S w',?_,?_⟩
 ·refine JX (b:=[105,115]) ?_;cases j:decide (n=[105,115])
  ·refine rpG ?_;refine JX (b:=[109,111,100]) ?_;refine rpG ?_;exact ⟨by rw [ib],g⟩
  ·refine rpG ?_;exact ⟨by rw [py],g⟩
 intro i _ _ _ _ _ w';rintro ⟨rfl,g⟩;refine aE (fun f=>?_) (fun f=>?_)
 ·rw [jI,bt,bt] at f;refine fe (a:=[32]) (by simp;omega) (fe (b:=[32]) (by simp;omega) ?_);exact done g (by rw [lz,ai f];rfl)
 ·rw [Hy,nt,nt] at f;exact done g (by rw [lz,af (by rintro (h|h);exact f.1 h;exact f.2 h)])
theorem KC (s:Bs) (f:0<s.length):ll QI [.string (st s)] S (.bool (OK s)):=by
 intro w a;apply Cu.2;dsimp only[Cu,aR];have e1:OK s=(sml s 0 || (dig s 0 || (upp s 0 || (sgn s 0 91 || sgn s 0 40)))):=rfl;have m:upp s 0=(decide (65<=s[0].toNat) && decide (s[0].toNat<=90)):=sZ f 65 90;have o:sgn s 0 91=decide (s[0].toNat=91):=pt f 91;have q:sgn s 0 40=decide (s[0].toNat=40):=pt f 40;refine Run.callPure Ah BE a (ur s 0 S) fun w' a=>?_;cases r:sml s 0
 ·refine rpG ?_;refine Run.callPure nW nY a (kw s 0 S) fun w' a=>?_;cases hd:dig s 0
  ·refine rpG ?_;refine ge (i:=0) bg f ?_;rw [r,hd,ib,ib] at e1;by_cases g:65<=s[0].toNat
   ·refine sG (by omega) ?_;refine rpG ?_;refine ge (i:=0) bg f ?_;by_cases h:s[0].toNat<=90
    ·refine Ow (by omega) ?_;refine rpG ?_;exact done a (by rw [e1,m,aL g,aL h];rfl)
    ·refine aaf (by omega) ?_;refine rpG ?_;refine ge (i:=0) bg f ?_;by_cases j:s[0].toNat=91
     ·refine iZ (by omega) ?_;refine rpG ?_;exact done a (by rw [e1,o,aL j,py,IF])
     ·refine gr (by omega) ?_;refine rpG ?_;refine ge (i:=0) bg f (gr (by omega) ?_);refine rpG ?_;exact done a (by rw [e1,m,o,q,aS h,aS j,aS (show ¬ s[0].toNat=40 by omega),m5];rfl)
   ·refine Er (by omega) ?_;refine rpG ?_;refine ge (i:=0) bg f (gr (by omega) ?_);refine rpG ?_;refine ge (i:=0) bg f ?_;by_cases l:s[0].toNat=40
    ·refine iZ (by omega) ?_;refine rpG ?_;exact done a (by rw [e1,q,aL l,IF,IF])
    ·refine gr (by omega) ?_;refine rpG ?_;exact done a (by rw [e1,m,o,q,aS g,aS (show ¬ s[0].toNat=91 by omega),aS l,jZ];rfl)
  ·refine rpG ?_;exact done a (by rw [e1,hd,py,IF])
 ·refine rpG ?_;exact done a (by rw [e1,r,py])
theorem JD {n:Int} (h:0<=n/\n<=25):ll Pm [ax n] S (.string (st [UInt8.ofNat (65+n.toNat)])):=by
 intro w a;apply yN.2;dsimp only[yN,aR];refine vK gO jd (IntWalk.u8_in _ (by omega)) (acu (c:=((65+n.toNat:Nat):Int)) ?_ ?_)
 ·rw [IntWalk.u8_in _ (by omega)];omega
 refine Kn a D0 Yh jd bg fun w' a=>?_;exact done a rfl
theorem Qg:∀ (f n:Nat) (out r:Bs),Lz f n out=some r->out.length<r.length/\r.length<=out.length+f
 | 0,_,_,_,h=>by simp [Lz] at h
 | f+1,n,out,r,h=>by
  rw [Lz] at h;split at h
  ·have:=Qg f _ _ _ h;simp only [bI] at this;omega
  ·simp only [aY] at h;subst h;simp only [bI];omega
theorem Cp {f n:Nat} {r:Bs} (h:Lz f n []=some r) (hn:n<=100000) (hf:f<=1000):ll Uo [ax (n:Int)] S (.string (st r)):=by
 intro w i;apply Fr.2;dsimp only[Fr,aR];refine gN (by omega) (aE (fun j=>by cases j) (fun _=>?_));refine gN (by omega) (aE (fun j=>by cases j) (fun _=>?_));refine ⟨fun a b w'=>∃ (l m:Nat) (out:Bs),a=ax (m:Int)/\b=.string (st out)/\m<=100000/\out.length+l<=1000/\Lz l m out=some r/\Inv w [] [] S w',fun a _ _=>(intOf a).toNat,⟨f,n,[],rfl,rfl,hn,by simpa using hf,h,i⟩,?_⟩;intro t _ _ B _ _ _ _ _ _ _ _ _ _ w';rintro ⟨l,m,out,rfl,rfl,D,o,hd,i⟩;cases l with
 | zero=>simp [Lz] at hd
 | succ g=>
 rw [Lz] at hd;split at hd
 ·rename_i q
  refine Vt (by omega) (aE (fun _=>?_) (fun j=>by cases j));refine Vs (a:=m) (b:=10) rfl rfl (by omega) (gU (a:=48) (b:=m % 10) rfl rfl (by omega) (vK gO jd (IntWalk.u8_in _ (by omega)) (Kn i D0 Yh jd bg fun w' i=>?_)));refine fe (by simp;omega) (Vx (a:=m) (b:=10) rfl rfl (by omega) (by omega) ?_);refine ⟨⟨g,m / 10,UInt8.ofNat (48+m % 10)::out,rfl,rfl,by omega,by simp only [bI];omega,hd,i⟩,?_⟩;simp only [intOf,dq];omega
 ·rename_i q
  refine nD (by omega) (aE (fun j=>by cases j) (fun _=>?_));refine gU (a:=48) (b:=m) rfl rfl (by omega) (vK gO jd (IntWalk.u8_in _ (by omega)) (Kn i D0 Yh jd bg fun w' i=>?_));refine fe (by simp;omega) ?_;simp only [aY] at hd;exact done i (by rw [<- hd];rfl)
theorem Sl {n:Int} {r:Bs} (h:acz n=some r) (hn:-999<=n/\n<=999):ll Xn [ax n] S (.string (st r)):=by
 intro w f;apply HM.2;dsimp only[HM,aR];unfold acz at h;split at h
 ·rename_i g
  refine JZ g (aE (fun _=>?_) (fun i=>by cases i));refine abT (by omega) ?_;obtain ⟨m,j⟩:∃ m:Nat,-n=(m:Int):=⟨(-n).toNat,by omega⟩
  rw [j] at h ⊢;rw [dq,Ta] at h;obtain ⟨l,hl,rfl⟩:=h;have:=Qg _ _ _ _ hl;refine Run.callPure FE EU f (Cp hl (by omega) (by omega)) fun w' f=>?_;refine fe (a:=[45]) (by simp only [cB,bI] at this ⊢;omega) ?_;exact done f rfl
 ·rename_i g
  refine gN g (aE (fun i=>by cases i) (fun _=>?_));obtain ⟨m,rfl⟩:∃ m:Nat,n=(m:Int):=⟨n.toNat,by omega⟩
  rw [dq] at h;refine Run.callPure FE EU f (Cp h (by omega) (by omega)) fun w' f=>?_;exact done f rfl
theorem OH {t:T} {cs:hZ} {x:Bs} (h:RdT S cs t) (B:HU t=false) (g:Y5 t=some x):ll U6 [.agg cs.toArray] S (.string (st x)):=by
 intro w f;have G:=h;obtain ⟨kv,rfl,_,_,_,hk⟩:=RdT.iff.1 h;obtain ⟨q,r,rfl,_⟩:=id hk;apply EO.2;dsimp only[EO,aR];unfold Y5 at g;refine bq f fun o w' f=>?_;apply ad f 0 rfl aM aw rfl;split at g
 ·rename_i l
  refine iZ l (aE (fun _=>?_) (fun i=>by cases i));apply ad f 0 rfl aQ aw rfl;split at g
  ·rename_i j
   refine Run.callPure Kw Lm f (JD j) fun w' f=>?_;simp only [aY] at g;exact done f (by rw [<- g])
  ·cases g
 ·rename_i l
  refine gr l (aE (fun i=>by cases i) (fun _=>?_));split at g
  ·rename_i j
   refine iZ j (aE (fun _=>?_) (fun i=>by cases i));apply ad f 0 rfl aQ aw rfl;split at g
   ·rename_i m
    refine Run.callPure Tx Vo f (Sl g m) fun w' f=>?_;exact done f rfl
   ·cases g
  ·rename_i j
   refine gr j (aE (fun i=>by cases i) (fun _=>?_));split at g
   ·rename_i m
    simp only [aY] at g;refine av f 0 ac rfl rfl (Run.callPure vP wE f (pg G) fun w' f=>?_);rw [B];refine aE (fun i=>by cases i) (fun _=>?_);apply ad f 0 rfl aW aP rfl;refine ⟨fun a b w'=>a=ax 0/\b=.string t.name/\Inv w [] [ay o (gn t (.slice q t.kids.length r)) ab] S w',fun _ _ _=>0,⟨rfl,rfl,f⟩,?_⟩;intro J _ _ _ _ _ _ _ _ _ _ _ _ D _ _ _ _ _ _ _ _ _ w';rintro ⟨rfl,rfl,f⟩;refine ad f 0 rfl ao aj rfl (fJ ag (gN (by omega) (aE (fun i=>by cases i) (fun _=>?_))));refine ⟨fun b w'=>b=.string t.name/\Inv w [] [ay o (gn t (.slice q t.kids.length r)) ab] S w',?_,?_⟩
    ·refine ad f 0 rfl ao aj rfl (fJ ag (nD (by omega) (aE (fun i=>by cases i) (fun _=>?_))));exact ⟨rfl,f⟩
    intro D _ _ _ _ _ _ w';rintro ⟨rfl,f⟩;exact done f (by rw [<- g])
   ·cases g
end
theorem LR:∀ (f:Nat) (l:List T) (out x:Bs),tG f l out=some x->out.length<=x.length
 | 0,_,_,_,h=>by simp [tG] at h
 | _+1,[],out,x,h=>by simp [tG] at h;subst h;exact be _
 | f+1,t::l,out,x,h=>by
  rw [tG] at h;split at h
  ·cases h
  ·have:=LR f _ _ _ h;simp only [bK] at this;omega
def lenOf:Value->Nat
 | .slice _ n _=>n
 | _=>0
def Fc (f:Nat):Prop:=∀ (t:T) (x:Bs) (S:ae) (cs:List Value),N5 f t=some x->x.length<=1000000->RdT S cs t->Pure Tryz.prog UO [.agg cs.toArray] S (.string (st x))
def Ur (f:Nat):Prop:=∀ (t:T) (x:Bs) (S:ae) (cs:List Value),LW f t []=some x->x.length<=1000000->RdT S cs t->Pure Tryz.prog Ts [.agg cs.toArray] S (.string (st x))
def PP (f:Nat):Prop:=∀ (ts:List T) (x:Bs) (S:ae) (u:Value),tG f ts []=some x->x.length<=1000000->RdSl S 4 (RdT S) u ts->Pure Tryz.prog TH [u] S (.string (st x))
def wX (f:Nat):Prop:=∀ (t:T) (l:Int) (x:Bs) (S:ae) (cs:List Value),vq f t l=some x->x.length<=1000000->RdT S cs t->Pure Tryz.prog Lr [.agg cs.toArray,ax l] S (.string (st x))
def TM (f:Nat):Prop:=∀ (t:T) (l:Int) (x:Bs) (S:ae) (cs:List Value),Wh f t l=some x->x.length<=1000000->RdT S cs t->Pure Tryz.prog UW [.agg cs.toArray,ax l] S (.string (st x))
def NT (f:Nat):Prop:=∀ (t:T) (l:Int) (x:Bs) (S:ae) (cs:List Value),Pt f t l=some x->x.length<=1000000->RdT S cs t->Pure Tryz.prog Su [.agg cs.toArray,ax l] S (.string (st x))
section
theorem abs {f:Nat} (J:∀ g,g<f->Fc g):PP f:=by
 intro ts x S u h Y B w o;refine EE.2 ?_;dsimp only[EE,aR];refine ⟨fun a b w'=>∃ (t j:Nat) (out l:Bs),t<=f/\j<=ts.length/\a=ax (j:Int)/\b=.string (st out)/\l=out++(if 0<j/\j<ts.length then [44] else [])/\tG t (ts.drop j) l=some x/\Inv w [] [] S w',
  fun a _ _=>ts.length - (intOf a).toNat,⟨f,0,[],[],be _,bf _,rfl,rfl,by simp,h,o⟩,?_⟩
 intro Z _ _ _ _ _ _ _ _ _ M _ _ _ _ _ _ _ _ w';rintro ⟨t,j,out,l,N,hj,rfl,rfl,i,q,o⟩;cases t with
 | zero=>simp [tG] at q
 | succ g=>
 refine aI B ag (bM (aJ (fun D=>?_) (fun D=>?_)))
 ·have r:j<ts.length:=by omega
  rw [dB r,tG] at q;split at q
  ·cases q
  rename_i y O
  have m:=LR _ _ _ _ q;simp only [bK] at m;refine ⟨fun b w'=>b=.string (st l)/\Inv w [] [] S w',?_,?_⟩
  ·refine ew (aJ (fun U=>?_) (fun U=>?_))
   ·rw [ai (by omega)] at i;refine fe (b:=[44]) (by rw [i,bK] at m;simp only [bI,cB] at m ⊢;omega) ?_;exact ⟨by rw [i],o⟩
   ·rw [af (by omega),dc] at i;exact ⟨by rw [i],o⟩
  intro M _ _ _ _ w';rintro ⟨rfl,o⟩;refine cL o B ag ac r (fun _ _=>RdT.length) fun cs G=>?_;refine Run.callPure jg js o (J g (by omega) _ y S cs O (by omega) G) fun w' o=>?_;refine fe (by omega) (bA (by have:=B.le;simp only [maxLen] at this;omega) ?_);refine ⟨⟨g,j+1,l++y,_,by omega,r,rfl,rfl,rfl,?_,o⟩,by simp only [intOf,dq];omega⟩;have e:(if ts.drop (j+1)=[] then [] else [44]:Bs)=if 0<j+1/\j+1<ts.length then [44] else []:=by
   by_cases h1:j+1<ts.length
   ·rw [af (fun V=>by rw [List.drop_eq_nil_iff] at V;omega),ai (by omega)]
   ·rw [ai (xZ (by omega)),af (by omega)]
  rw [<- e];exact q
 ·have:j=ts.length:=by omega
  subst this;rw [dY,tG] at q;simp only [aY] at q;rw [af (by omega),dc] at i;exact done o (by rw [<- q,i])
theorem Tz {f:Nat} (q:∀ g,g<f->Fc g):wX f:=by
 intro t l x S cs h N hc w i;cases f with
 | zero=>simp [vq] at h
 | succ g=>
 rw [vq] at h;split at h
 ·cases h
 rename_i y r
 simp only [aY] at h;have o:=hc;obtain ⟨kv,rfl,_,_,_,hk⟩:=RdT.iff.1 hc;obtain ⟨J,M,rfl,_⟩:=id hk;have m:y.length<=1000000/\y.length+2<=9000000:=by
  have:y.length<=x.length:=by
   rw [<- h];split
   ·simp;omega
   ·omega
  omega
 apply u0.2;dsimp only[u0,bl];refine bq i fun G w' i=>?_;refine ⟨fun b w'=>b=.bool (tx t && decide (l<di t.name))/\Inv w [] [ay G (gn t (.slice J t.kids.length M)) ab] S w',?_,?_⟩
 ·refine av i 0 ac rfl rfl (Run.callPure CA AC i (tC o) fun w' i=>?_);cases hf:tx t
  ·refine rpG ?_;exact ⟨by rw [jZ],i⟩
  ·refine rpG ?_;refine ad i 0 rfl aW aP rfl (Run.callPure gD gI i (eZ _ S) fun w' i=>?_);apply ew;refine rpG ?_;exact ⟨by rw [dz],i⟩
 intro D _ _ _ _ _ _ _ _ w';rintro ⟨rfl,i⟩;refine aE (fun j=>?_) (fun j=>?_)
 ·rw [aZ,bt] at j;rw [ai j] at h;refine av i 0 ac rfl rfl (Run.callPure jg js i (q g (by omega) t y S _ r m.1 o) fun w' i=>?_);refine fe (a:=[40]) (by simp only [bI,cB];omega) (fe (b:=[41]) (by simp only [bK,bI,cB];omega) ?_);exact done i (by rw [<- h])
 ·rw [af (fun B=>by rw [acq,nt] at j;rcases j with j|j;rw [B.1] at j;cases j;exact j B.2)] at h;refine av i 0 ac rfl rfl (Run.callPure jg js i (q g (by omega) t y S _ r m.1 o) fun w' i=>?_);exact done i (by rw [<- h])
theorem abn {f:Nat} (r:∀ g,g<f->Fc g) (j:∀ g,g<f->wX g):TM f:=by
 intro t l x S cs h B hc w i;cases f with
 | zero=>simp [Wh] at h
 | succ g=>
 rw [Wh] at h;have q:=hc;obtain ⟨kv,rfl,_,_,_,hk⟩:=RdT.iff.1 hc;obtain ⟨M,N,rfl,_⟩:=id hk;apply Gg.2;dsimp only[Gg,bl];refine bq i fun J w' i=>?_;refine av i 0 ac rfl rfl (Run.callPure E6 EW i (uP q) fun w' i=>?_);split at h
 ·rename_i m
  split at h
  ·cases h
  rename_i y D
  simp only [aY] at h;have G:y.length+2=x.length:=by rw [<- h];simp only [bK,bI,cB];omega
  rw [m];refine aE (fun _=>?_) (fun o=>by cases o);refine av i 0 ac rfl rfl (Run.callPure jg js i (r g (by omega) t y S _ D (by omega) q) fun w' i=>?_);refine fe (a:=[40]) (by simp only [bI,cB];omega) (fe (b:=[41]) (by simp only [bK,bI,cB];omega) ?_);exact done i (by rw [<- h])
 ·rename_i m
  rw [bN.2 m];refine aE (fun o=>by cases o) (fun _=>?_);refine av i 0 ac rfl rfl (Run.callPure vZ vS i (j g (by omega) t l x S _ h B q) fun w' i=>?_);exact done i rfl
theorem Ye {f:Nat} (m:∀ g,g<f->wX g):NT f:=by
 intro t l x S cs h U hc w i;cases f with
 | zero=>simp [Pt] at h
 | succ g=>
 rw [Pt] at h;split at h
 ·cases h
 rename_i y G
 split at h
 ·cases h
 rename_i o
 simp only [aY] at h;have q:0<y.length:=by
  cases y with
  | nil=>exact absurd rfl o
  | cons a l=>simp
 have r:y.length<=1000000:=by
  have:y.length<=x.length:=by
   rw [<- h];split
   ·simp;omega
   ·omega
  omega
 have D:=hc;obtain ⟨kv,rfl,_,_,_,hk⟩:=RdT.iff.1 hc;obtain ⟨N,O,rfl,_⟩:=id hk;apply AO.2;dsimp only[AO,bl];refine bq i fun M w' i=>?_;refine av i 0 ac rfl rfl (Run.callPure vZ vS i (m g (by omega) t l y S _ G r D) fun w' i=>?_);refine ⟨fun b w'=>b=.bool (EI t || !OK y)/\Inv w [] [ay M (gn t (.slice N t.kids.length O)) ab] S w',?_,?_⟩
 ·refine av i 0 ac rfl rfl (Run.callPure E6 EW i (uP D) fun w' i=>?_);cases V:EI t
  ·refine rpG ?_;refine Run.callPure O8 O7 i (KC y q) fun w' i=>?_;apply cq;refine rpG ?_;exact ⟨by rw [ib],i⟩
  ·refine rpG ?_;exact ⟨by rw [py],i⟩
 intro J _ _ _ _ _ _ w';rintro ⟨rfl,i⟩;refine aE (fun j=>?_) (fun j=>?_)
 ·rw [jI,lg] at j;rw [ai j] at h;refine fe (a:=[40]) (by simp only [bI,cB];omega) (fe (b:=[41]) (by simp only [bK,bI,cB];omega) ?_);exact done i (by rw [<- h])
 ·rw [af (fun B=>by rw [<- lg,<- jI,j] at B;cases B)] at h;exact done i (by rw [<- h])
theorem aba {f:Nat} (hf:f<=100000) (ih:∀ g,g<f->Fc g) (U:∀ g,g<f->PP g):Ur f:=by
 intro t x S cs h hx hc w j;obtain ⟨kv,rfl,_,_,_,hk⟩:=RdT.iff.1 hc;refine FL.2 ?_;dsimp only[FL,aR];refine bq j fun Y w' j=>?_;refine fg j bx fun v0 w' j=>?_;refine ⟨fun a w'=>∃ (f':Nat) (q:T) (l:List T) (ds:hZ) (css:List (hZ)),f'+l.length=f/\LW f' q l=some x/\RdT S ds q/\Rows 4 (RdT S) css l/\(∃ p m,a=.slice p l.length m)/\Inv w [] [ay Y ds.toArray ab,aK a ab 4 css] S w',
  fun a _=>f+1 - lenOf a,⟨f,t,[],_,[],by simp,h,hc,Rows.nil _ _,?_,j⟩,?_⟩
 ·have J:Inv w [] ([Item.blk Y (.cells (gn t kv) ab)]++[aK v0 ab 4 []]) S w':=j;obtain ⟨S1,_,B,_⟩:=Inv.lendExt J;obtain ⟨p,m,e,_⟩:=RowRd.rows (Rows.nil 4 (RdT S)) B;exact ⟨p,m,e⟩
 clear h hc hk j;intro _ _ _ _ t3 _ _ _ _ _ _ _ _ _ w';rintro ⟨f',q,l,ds,css,a5,hl,hd,hR,⟨p,m,rfl⟩,j⟩;have O:=hd;obtain ⟨kd,rfl,_,_,_,hk⟩:=RdT.iff.1 hd;have a6:=hR.hc;cases f' with
 | zero=>simp [LW] at hl
 | succ g=>
 rw [LW] at hl;refine av j 0 ac rfl rfl (Run.callPure vP wE j (pg O) fun w' j=>?_);split at hl
 ·rename_i hp
  split at hl
  ·rename_i a b a1
   rw [hp];refine aE (fun _=>?_) (fun N=>by cases N);rw [a1] at hk;refine ad j 0 rfl ao aj rfl (cL (i:=0) j hk ag ac (by simp) (fun _ _=>RdT.length) fun es r=>?_);rw [pi] at r;refine ei (css:=css) j 1 es bx (by omega) (by omega) rfl r.length r.one (by omega) (by omega) fun v' w' j=>?_;refine ad j 0 rfl ao aj rfl (cL (i:=1) j hk ag ac (by simp) (fun _ _=>RdT.length) fun gs M=>?_);rw [Z9,pi] at M;have a2:=M.length;refine aq j 0 rfl ac (by simpa using a2) rfl (by simpa using M.one) fun w' j=>?_;have Z:=hR.snoc r r.length;have J:Inv w [] ([Item.blk Y (.cells gs.toArray ab)]++[aK v' ab 4 (css++[es])]) S w':=j;obtain ⟨S1,G,B,_⟩:=Inv.lendExt J;obtain ⟨p',m',e',_⟩:=RowRd.rows Z B;refine ⟨⟨g,b,l++[a],gs,css++[es],by rw [bK];simp only [bI,cB];omega,hl,M,Z,⟨p',m',e'⟩,j⟩,?_⟩;rw [e'];simp only [lenOf,bK,bI,cB];omega
  ·cases hl
 ·rename_i hp
  rw [bN.2 hp];refine aE (fun N=>by cases N) (fun _=>?_);split at hl
  ·cases hl
  rename_i y hy
  refine av j 0 ac rfl rfl (Run.callPure TW TE j (K1 O) fun w' j=>?_);have J:Inv w [] ([Item.blk Y (.cells (gn q kd) ab)]++[aK (.slice p l.length m) ab 4 css]) S w':=j;obtain ⟨S1,G,B,j⟩:=Inv.lendExt J;have a0:=RowRd.rows (hR.monoR fun _ _ h=>RdT.mono G.1 h) B;have a3:=RdT.mono G.1 O;split at hl
  ·rename_i hn
   simp only [aY] at hl;have a4:y.length+2=x.length:=by rw [<- hl];simp only [bK,bI,cB];omega
   rw [hn];refine aE (fun _=>?_) (fun N=>by cases N);refine Run.callPure wJ wj j (U g (by omega) l y S1 _ hy (by omega) a0) fun w' j=>?_;refine fe (a:=[91]) (by simp only [bI,cB];omega) (fe (b:=[93]) (by simp only [bK,bI,cB];omega) ?_);exact iN j G.1 (by rw [<- hl])
  ·rename_i hn
   split at hl
   ·cases hl
   rename_i z hz
   simp only [aY] at hl;have a4:y.length+z.length+3=x.length:=by rw [<- hl];simp only [bK,bI,cB];omega
   rw [bN.2 hn];refine aE (fun N=>by cases N) (fun _=>?_);refine ⟨fun D x2 kY gQ lO jW pp oR iU pj w_=>Fx D 0 [pj=.slice p l.length m,iU=.string (st y),oR=.string (st ([91]++y)),pp=.string (st ([91]++y++[124])),jW=.agg (gn q kd),lO=.string (st z),gQ=.string (st ([91]++y++[124]++z)),kY=.string (st ([91]++y++[124]++z++[93])),x2=.string (st ([91]++y++[124]++z++[93]))]/\Inv w [] [ay Y (gn q kd) ab] S1 w_,⟨Fx.nil _ _,j.draw⟩,⟨?_,?_,?_,?_,?_,?_,?_,?_,?_,trivial⟩,?_⟩;all_goals (intro D bw;intros;rename_i x2 kY gQ lO jW pp oR iU pj w_ V;have o:=V.1;obtain ⟨⟨co,cn,bP,cj,cA,bQ,bO,cM,de,_⟩,j⟩:=V)
   rotate_left;obtain rfl:=co ‹_›;refine Run.callPure wJ wj j (U g (by omega) l y S1 _ hy (by omega) a0) fun w_ j=>?_;rotate_left
   obtain rfl:=cn ‹_›;refine fe (a:=[91]) (by simp only [bI,cB];omega) ?_;rotate_left
   obtain rfl:=bP ‹_›;refine fe (b:=[124]) (by simp only [bK,bI,cB];omega) ?_;rotate_left
   apply av j 0 ac rfl rfl;rotate_left
   obtain rfl:=cA ‹_›;refine Run.callPure jg js j (ih g (by omega) q z S1 _ hz (by omega) a3) fun w_ j=>?_;rotate_left
   obtain rfl:=cj ‹_›;obtain rfl:=bQ ‹_›;refine fe (by simp only [bK,bI,cB];omega) ?_;rotate_left
   obtain rfl:=bO ‹_›;refine fe (b:=[93]) (by simp only [bK,bI,cB];omega) ?_;rotate_left
   obtain rfl:=cM ‹_›;rotate_left
   all_goals try exact ⟨o.set _ (by first|rfl|assumption|trivial),j⟩
   obtain ⟨rfl,rfl,rfl,rfl,rfl,rfl,rfl,rfl,rfl,_⟩:=o.all;clear o co cn bP cj cA bQ bO cM de;exact iN j G.1 (by rw [<- hl])
theorem acl {f:Nat} (a3:∀ g,g<f->Ur g) (a4:∀ g,g<f->PP g) (a5:∀ g,g<f->TM g) (a6:∀ g,g<f->NT g):Fc f:=by
 intro t x S cs h hx hc w l;cases f with
 | zero=>simp [N5] at h
 | succ g=>
 rw [N5] at h;have h0:=hc;obtain ⟨kv,rfl,_,_,_,hk⟩:=RdT.iff.1 hc;apply Fz.2;dsimp only[Fz,aR];refine bq l fun N w' l=>?_;obtain ⟨B1,r⟩:∃ B1,B1=Item.blk N (.cells (gn t kv) ab):=⟨_,rfl⟩
 refine av l 0 ac rfl rfl (Run.callPure vP wE l (pg h0) fun w' l=>?_);split at h
 ·rename_i Z
  rw [Z];refine aE (fun _=>?_) (fun q=>by cases q);refine av l 0 ac rfl rfl (Run.callPure Qs QG l (a3 g (by omega) t x S _ h hx h0) fun w' l=>?_);exact done l rfl
 rename_i Z
 have Z:=bN.2 Z;rw [Z];refine aE (fun q=>by cases q) (fun _=>?_);refine av l 0 ac rfl rfl (Run.callPure CA AC l (tC h0) fun w' l=>?_);split at h
 ·rename_i hf
  rw [hf];refine aE (fun _=>?_) (fun q=>by cases q);split at h
  ·rename_i a b a7
   obtain ⟨G,a0⟩:∃ G,G=di t.name:=⟨_,rfl⟩
   rw [<- a0] at h;have b8:1<=G/\G<=3:=by
    have h1:0<di t.name:=by
     unfold tx at hf;simp only [aZ,bt] at hf;exact hf.2.2
    have h2:di t.name<=3:=by
     unfold di;split
     ·omega
     ·split
      ·omega
      ·split <;> omega
    omega
   split at h
   ·rename_i y z hy hz
    simp only [aY] at h;have a2:y.length+(lz (bs t.name)).length+z.length=x.length:=by rw [<- h];simp only [bK]
    have b9:(bs t.name).length<=(lz (bs t.name)).length:=by
     unfold lz;split
     ·simp;omega
     ·omega
    rw [a7] at hk;obtain ⟨b2,U,B,c2,E2,b4,rfl,hS,V⟩:=hk.at_ (i:=0) (by simp);obtain ⟨b5,b6,a8,b7,E2',b0,a9,a1,Y⟩:=hk.at_ (i:=1) (by simp);cases a9;rw [hS] at a1;cases a1;rw [pi] at V;rw [Z9,pi] at Y;refine ad l 0 rfl aW aP rfl (Run.callPure gD gI l (eZ _ S) fun w' l=>?_);rw [<- a0];have l:Inv w [] [B1] S w':=by rw [r];exact l
    refine ⟨fun v w'=>v=ax (if G=3 then 2 else G)/\Inv w [] [B1] S w',?_,?_⟩
    ·apply bn;refine aJ (fun O=>⟨by rw [ai O],l⟩) (fun O=>⟨by rw [af O],l⟩)
    intro t4 _ _ w';rintro ⟨rfl,l⟩;subst r
    skip
    refine ⟨fun D x2 lK mC r7 og rr kY gQ lO jW pp oR iU pj vz tU qX nX pu J=>Fx D 0 [pu=eu N 3,nX=eF b2 U [a,b].length B,qX=eu b2 (U+0 * 4),tU=.agg (aO c2 (U+0 * 4) 4).toArray,vz=ax (if G=3 then 2 else G),pj=.string (st y),iU=eu N 2,oR=.string t.name,pp=.string (st (lz (bs t.name))),jW=.string (st (y++lz (bs t.name))),lO=eu N 3,gQ=eF b2 U [a,b].length B,kY=eu b2 (U+1 * 4),rr=.agg (aO c2 (U+1 * 4) 4).toArray,og=ax G,r7=ax (G - 1),mC=.string (st z),lK=.string (st (y++lz (bs t.name)++z)),x2=.string (st (y++lz (bs t.name)++z))]/\Inv w [] [ay N (gn t (eF b2 U [a,b].length B)) ab] S J,⟨Fx.nil _ _,l.draw⟩,⟨?_,?_,?_,?_,?_,?_,?_,?_,?_,?_,?_,?_,?_,?_,?_,?_,?_,?_,?_,trivial⟩,?_⟩;all_goals (intro D bw;intros;rename_i x2 lK mC r7 og rr kY gQ lO jW pp oR iU pj vz tU qX nX pu J o;have m:=o.1;obtain ⟨⟨co,cn,bP,cj,cA,bQ,bO,cM,de,dv,bU,cC,cY,dK,dd,ek,eH,fl,gZ,_⟩,l⟩:=o)
    apply ah ao;rotate_left
    obtain rfl:=co ‹_›;apply aD l 0 aj rfl rfl;rotate_left
    obtain rfl:=cn ‹_›;refine az (i:=0) ag (by simp) ?_;rotate_left
    obtain rfl:=bP ‹_›;refine bV ac V.length (fun j v hj=>by rw [l.cellS hS];exact aA rfl j v hj) ?_;rotate_left;rotate_left
    obtain rfl:=cj ‹_›;obtain rfl:=cA ‹_›;refine Run.callPure Rs RS l (a5 g (by omega) a _ y S _ hy (by omega) V) fun J l=>?_;rotate_left
    apply ah aW;rotate_left
    obtain rfl:=bO ‹_›;apply aD l 0 aP rfl rfl;rotate_left
    obtain rfl:=cM ‹_›;refine Run.callPure Ku Lq l (Kl (bs t.name) (by omega)) fun J l=>?_;rotate_left
    obtain rfl:=bQ ‹_›;obtain rfl:=de ‹_›;refine fe (by omega) ?_;rotate_left
    apply ah ao;rotate_left
    obtain rfl:=bU ‹_›;apply aD l 0 aj rfl rfl;rotate_left
    obtain rfl:=cC ‹_›;refine az (i:=1) ag (by simp) ?_;rotate_left
    obtain rfl:=cY ‹_›;refine bV ac Y.length (fun j v hj=>by rw [l.cellS hS];exact aA rfl j v hj) ?_;rotate_left;rotate_left
    obtain rfl:=dd ‹_›;refine je (by omega) ?_;rotate_left
    obtain rfl:=dK ‹_›;obtain rfl:=ek ‹_›;refine Run.callPure NV Py l (a6 g (by omega) b _ z S _ hz (by omega) Y) fun J l=>?_;rotate_left
    obtain rfl:=dv ‹_›;obtain rfl:=eH ‹_›;refine fe (by rw [bK];omega) ?_;rotate_left
    obtain rfl:=fl ‹_›;rotate_left
    all_goals try exact ⟨m.set _ (by first|rfl|assumption|trivial),l⟩
    obtain ⟨rfl,rfl,rfl,rfl,rfl,rfl,rfl,rfl,rfl,rfl,rfl,rfl,rfl,rfl,rfl,rfl,rfl,rfl,rfl,_⟩:=m.all;clear m co cn bP cj cA bQ bO cM de dv bU cC cY dK dd ek eH fl gZ;exact done l (by rw [<- h])
   ·cases h
  ·cases h
 ·rename_i hf
  rw [bN.2 hf];refine aE (fun q=>by cases q) (fun _=>?_);obtain ⟨ka,kc,rfl,_⟩:=id hk;refine ⟨fun v w'=>v=.bool (decide (t.kind=3) && decide (0<t.kids.length))/\Inv w [] [B1] S w',?_,?_⟩
  ·apply ad l 0 rfl aM aw rfl;by_cases O:t.kind=3
   ·apply iZ O;refine rpG ?_;refine ad l 0 rfl ao aj rfl (fJ ag (ew ?_));refine rpG ?_;refine ⟨?_,by rw [r];exact l⟩;rw [aL O,dz]
    congr 1
    rw [dJ];omega
   ·apply gr O;refine rpG ?_;exact ⟨by rw [aS O,jZ],by rw [r];exact l⟩
  intro b3 _ _ _ _ _ _ _ _ _ w';rintro ⟨rfl,l⟩;subst r;split at h
  ·rename_i M
   rw [aL M.1,aL M.2];refine aE (fun _=>?_) (fun q=>by cases q);split at h
   ·rename_i y hy
    simp only [aY] at h;have a2:(bs t.name).length+y.length+2=x.length:=by rw [<- h];simp only [bK,bI,cB];omega
    skip
    refine ⟨fun D x2 uv qW nh s6 tV rf qp lL J=>Fx D 0 [lL=eu N 2,qp=.string t.name,rf=.string (st (bs t.name++[40])),tV=eu N 3,s6=.slice ka t.kids.length kc,nh=.string (st y),qW=.string (st (bs t.name++[40]++y)),uv=.string (st (bs t.name++[40]++y++[41])),x2=.string (st (bs t.name++[40]++y++[41]))]/\Inv w [] [ay N (gn t (.slice ka t.kids.length kc)) ab] S J,⟨Fx.nil _ _,l.draw⟩,⟨?_,?_,?_,?_,?_,?_,?_,?_,?_,trivial⟩,?_⟩;all_goals (intro D bw;intros;rename_i x2 uv qW nh s6 tV rf qp lL J o;have m:=o.1;obtain ⟨⟨co,cn,bP,cj,cA,bQ,bO,cM,de,_⟩,l⟩:=o)
    apply ah aW;rotate_left
    obtain rfl:=co ‹_›;apply aD l 0 aP rfl rfl;rotate_left
    obtain rfl:=cn ‹_›;refine fe (a:=bs t.name) (b:=[40]) (by simp only [bI,cB];omega) ?_;rotate_left
    apply ah ao;rotate_left
    obtain rfl:=cj ‹_›;apply aD l 0 aj rfl rfl;rotate_left
    obtain rfl:=cA ‹_›;refine Run.callPure wJ wj l (a4 g (by omega) t.kids y S _ hy (by omega) hk) fun J l=>?_;rotate_left
    obtain rfl:=bP ‹_›;obtain rfl:=bQ ‹_›;refine fe (by simp only [bK,bI,cB];omega) ?_;rotate_left
    obtain rfl:=bO ‹_›;refine fe (b:=[41]) (by simp only [bK,bI,cB];omega) ?_;rotate_left
    obtain rfl:=cM ‹_›;rotate_left
    all_goals try exact ⟨m.set _ (by first|rfl|assumption|trivial),l⟩
    obtain ⟨rfl,rfl,rfl,rfl,rfl,rfl,rfl,rfl,rfl,_⟩:=m.all;clear m co cn bP cj cA bQ bO cM de;exact done l (by rw [<- h])
   ·cases h
  ·rename_i M
   have e:(decide (t.kind=3) && decide (0<t.kids.length))=false:=by
    rw [bN,ne_eq,aZ,bt,bt];exact M
   rw [e];refine aE (fun q=>by cases q) (fun _=>?_);refine av l 0 ac rfl rfl (Run.callPure PV SU l (OH h0 Z h) fun w' l=>?_);exact done l rfl
theorem WQ:∀ F f,f<F->F<=1000->Fc f/\Ur f/\PP f/\wX f/\TM f/\NT f
 | 0,f,h,_=>by omega
 | F+1,f,h,hF=>by
  have i:=fun g (a:g<f)=>WQ F g (by omega) (by omega);have j:Fc f:=acl (fun g a=>(i g a).2.1) (fun g a=>(i g a).2.2.1) (fun g a=>(i g a).2.2.2.2.1) (fun g a=>(i g a).2.2.2.2.2);exact ⟨j,aba (by omega) (fun g a=>(i g a).1) (fun g a=>(i g a).2.2.1),abs fun g a=>(i g a).1,Tz fun g a=>(i g a).1,abn (fun g a=>(i g a).1) (fun g a=>(i g a).2.2.2.1),Ye fun g a=>(i g a).2.2.2.1⟩
theorem MA {f:Nat} (hf:f<=100):Fc f:=(WQ (f+1) f (by omega) (by omega)).1
end
end Go.Proofs.YtellfcpffcipcaaGreatDoor

/- Texts written: spec.l2Text and its kin, l4Text, FormatClause. -/
import Derived.Test.YtgllldjiaglkcaaGreatDoorZUf10
namespace Go.Proofs.YtgllldjiaglkcaaGreatDoor
open Go Go.RowKit
theorem V2:Tryz.prog.underlying M5=some (.slice KZ):=by kernel_rfl
section
variable {w:World} {S:ae}
attribute [local irreducible] Run CondV aq aK
theorem mv {t:T} {cs:List Value} (h:RdT S cs t):Pure Tryz.prog O9 [.agg cs.toArray] S (.bool (FL t)):=by
 intro w a;obtain ⟨kv,rfl,_,_,_,hk⟩:=RdT.iff.1 h;obtain ⟨i,l,rfl,_⟩:=id hk;refine C0.2 ?_;dsimp only[C0,aO];refine bJ a fun g w' a=>?_;refine af a 0 rfl aW aG rfl ?_;by_cases f:t.kind=3
 ·refine gf f ?_;refine rpG ?_;refine af a 0 rfl bl be rfl ?_;refine bR (b:=st [46]) ?_;cases hn:decide (t.name=st [46])
  ·refine rpG ?_;exact done a (by rw [FL,hn,iQ,xI])
  ·refine rpG ?_;refine af a 0 rfl ar al rfl ?_;refine iB ah ?_;refine bw ?_;refine rpG ?_;refine done a ?_;rw [FL,hn,aN f,eH,eH]
   congr 1
   rw [fY];omega
 ·refine fe f ?_;refine rpG ?_;exact done a (by rw [FL,aZ f,iQ])
theorem HK {t:T} {cs:List Value} (h:RdT S cs t):Pure Tryz.prog Tj [.agg cs.toArray] S (.bool (TX t)):=by
 intro w a;obtain ⟨kv,rfl,_,_,_,hk⟩:=RdT.iff.1 h;obtain ⟨i,l,rfl,_⟩:=id hk;refine El.2 ?_;dsimp only[El,aO];refine bJ a fun g w' a=>?_;refine af a 0 rfl aW aG rfl ?_;by_cases f:t.kind=3
 ·refine gf f ?_;refine rpG ?_;refine af a 0 rfl bl be rfl ?_;refine bR (b:=st [91,93]) ?_;cases hn:decide (t.name=st [91,93])
  ·refine rpG ?_;exact done a (by rw [TX,hn,iQ,xI])
  ·refine rpG ?_;refine af a 0 rfl ar al rfl ?_;refine iB ah ?_;refine bw ?_;refine rpG ?_;refine done a ?_;rw [TX,hn,aN f,eH,eH]
   congr 1
   rw [fY];omega
 ·refine fe f ?_;refine rpG ?_;exact done a (by rw [TX,aZ f,iQ])
theorem r7 {t:T} {cs:List Value} (h:RdT S cs t):Pure Tryz.prog NH [.agg cs.toArray] S (.bool (qT t)):=by
 intro w a;obtain ⟨kv,rfl,_,_,_,hk⟩:=RdT.iff.1 h;obtain ⟨i,l,rfl,_⟩:=id hk;refine yy.2 ?_;dsimp only[yy,aO];refine bJ a fun g w' a=>?_;refine af a 0 rfl aW aG rfl ?_;by_cases f:t.kind=3
 ·refine gf f ?_;refine rpG ?_;refine af a 0 rfl ar al rfl ?_;refine iB ah ?_;by_cases hn:t.kids.length=2
  ·refine gf (by omega) ?_;refine rpG ?_;refine af a 0 rfl bl be rfl ?_;refine Run.callPure gq gw a (eG _ S) fun w' a=>?_;refine eP ?_;refine rpG ?_;exact done a (by rw [qT,aN f,aN hn,eH,eH])
  ·refine fe (by omega) ?_;refine rpG ?_;exact done a (by rw [qT,aZ hn,iQ,xI])
 ·refine fe f ?_;refine rpG ?_;exact done a (by rw [qT,aZ f,iQ])
theorem tL {t:T} {cs:List Value} (h:RdT S cs t):Pure Tryz.prog PV [.agg cs.toArray] S (.bool (BT t)):=by
 intro w a;obtain ⟨kv,rfl,_,_,_,hk⟩:=RdT.iff.1 h;obtain ⟨i,l,rfl,_⟩:=id hk;refine C4.2 ?_;dsimp only[C4,aO];refine bJ a fun g w' a=>?_;refine af a 0 rfl aW aG rfl ?_;by_cases f:t.kind=3
 ·refine gf f ?_;refine rpG ?_;refine af a 0 rfl ar al rfl ?_;refine iB ah ?_;by_cases hn:t.kids.length=0
  ·refine gf (by omega) ?_;refine rpG ?_;refine af a 0 rfl bl be rfl ?_;refine Run.callPure gq gw a (eG _ S) fun w' a=>?_;refine eP ?_;refine rpG ?_;exact done a (by rw [BT,aN f,aN hn,eH,eH])
  ·refine fe (by omega) ?_;refine rpG ?_;exact done a (by rw [BT,aZ hn,iQ,xI])
 ·refine fe f ?_;refine rpG ?_;exact done a (by rw [BT,aZ f,iQ])
theorem Ha (n:Bs) (hn:n.length<=1000000):Pure Tryz.prog Lu [.string (st n)] S (.string (st (jC n))):=by
 intro w g;refine wy.2 ?_;dsimp only[wy,aO];refine ⟨fun b w'=>b=.bool (decide (n=[105,115]) || decide (n=[109,111,100]))/\Inv w [] [] S w',?_,?_⟩
 ·refine FO (b:=[105,115]) ?_;cases l:decide (n=[105,115])
  ·refine rpG ?_;refine FO (b:=[109,111,100]) ?_;refine rpG ?_;exact ⟨by rw [iw],g⟩
  ·refine rpG ?_;exact ⟨by rw [y9],g⟩
 intro i _ _ _ _ _ w';rintro ⟨rfl,g⟩;refine aD (fun f=>?_) (fun f=>?_)
 ·rw [jd,bD,bD] at f;refine d6 (a:=[32]) (by simp; omega) ?_;refine d6 (b:=[32]) (by simp; omega) ?_;exact done g (by rw [jC,ai f]; rfl)
 ·rw [Jc,mH,mH] at f;exact done g (by rw [jC,ag (by rintro (h|h); exact f.1 h; exact f.2 h)])
theorem H0 (s:Bs) (f:0<s.length):Pure Tryz.prog OH [.string (st s)] S (.bool (Ks s)):=by
 intro w a;refine zn.2 ?_;dsimp only[zn,aO];have e1:Ks s=(sml s 0 || (dig s 0 || (upp s 0 || (sgn s 0 91 || sgn s 0 40)))):=rfl;have o:upp s 0=(decide (65<=s[0].toNat) && decide (s[0].toNat<=90)):=qN f 65 90;have q:sgn s 0 91=decide (s[0].toNat=91):=mF f 91;have r:sgn s 0 40=decide (s[0].toNat=40):=mF f 40;refine Run.callPure xH zE a (r3 s 0 S) fun w' a=>?_;cases t:sml s 0
 ·refine rpG ?_;refine Run.callPure l0 lQ a (iV s 0 S) fun w' a=>?_;cases hd:dig s 0
  ·refine rpG ?_;refine eV (i:=0) ba f ?_;rw [t,hd,iw,iw] at e1;by_cases g:65<=s[0].toNat
   ·refine qf (by omega) ?_;refine rpG ?_;refine eV (i:=0) ba f ?_;by_cases h:s[0].toNat<=90
    ·refine L4 (by omega) ?_;refine rpG ?_;exact done a (by rw [e1,o,aN g,aN h]; rfl)
    ·refine T4 (by omega) ?_;refine rpG ?_;refine eV (i:=0) ba f ?_;by_cases l:s[0].toNat=91
     ·refine gf (by omega) ?_;refine rpG ?_;exact done a (by rw [e1,q,aN l,y9,Sc])
     ·refine fe (by omega) ?_;refine rpG ?_;refine eV (i:=0) ba f ?_;refine fe (by omega) ?_;refine rpG ?_;exact done a (by rw [e1,o,q,r,aZ h,aZ l,aZ (show ¬ s[0].toNat=40 by omega),xI]; rfl)
   ·refine AL (by omega) ?_;refine rpG ?_;refine eV (i:=0) ba f ?_;refine fe (by omega) ?_;refine rpG ?_;refine eV (i:=0) ba f ?_;by_cases m:s[0].toNat=40
    ·refine gf (by omega) ?_;refine rpG ?_;exact done a (by rw [e1,r,aN m,Sc,Sc])
    ·refine fe (by omega) ?_;refine rpG ?_;exact done a (by rw [e1,o,q,r,aZ g,aZ (show ¬ s[0].toNat=91 by omega),aZ m,iQ]; rfl)
  ·refine rpG ?_;exact done a (by rw [e1,hd,y9,Sc])
 ·refine rpG ?_;exact done a (by rw [e1,t,y9])
theorem EZ {n:Int} (h:0<=n/\n<=25):Pure Tryz.prog JZ [.int .i64 n] S (.string (st [UInt8.ofNat (65+n.toNat)])):=by
 intro w a;refine vN.2 ?_;dsimp only[vN,aO];refine uj iD gX (IntWalk.u8_in _ (by omega)) ?_;refine Yn (c:=((65+n.toNat:Nat):Int)) ?_ ?_
 ·rw [IntWalk.u8_in _ (by omega)]; omega
 refine Fr a Bc V2 gX ba fun w' a=>?_;exact done a rfl
theorem Mv:∀ (f n:Nat) (out r:Bs),Hr f n out=some r->out.length<r.length/\r.length<=out.length+f
 | 0,_,_,_,h=>by simp [Hr] at h
 | f+1,n,out,r,h=>by
  rw [Hr] at h;split at h
  ·have:=Mv f _ _ _ h;simp only [bq] at this;omega
  ·simp only [aY] at h;subst h;simp only [bq];omega
theorem yM {f n:Nat} {r:Bs} (h:Hr f n []=some r) (hn:n<=100000) (hf:f<=1000):Pure Tryz.prog QC [.int .i64 (n:Int)] S (.string (st r)):=by
 intro w i;refine BQ.2 ?_;dsimp only[BQ,aO];refine fp (by omega) ?_;refine aD (fun l=>by cases l) (fun _=>?_);refine fp (by omega) ?_;refine aD (fun l=>by cases l) (fun _=>?_);refine ⟨fun a b w'=>∃ (o m:Nat) (out:Bs),a=.int .i64 (m:Int)/\b=.string (st out)/\m<=100000/\out.length+o<=1000/\Hr o m out=some r/\Inv w [] [] S w',fun a _ _=>(intOf a).toNat,⟨f,n,[],rfl,rfl,hn,by simpa using hf,h,i⟩,?_⟩;intro B _ _ D _ _ _ _ _ _ _ _ _ _ w';rintro ⟨o,m,out,rfl,rfl,G,q,hd,i⟩;cases o with
 | zero=>simp [Hr] at hd
 | succ g=>
 rw [Hr] at hd;split at hd
 ·rename_i t
  refine Qh (by omega) ?_;refine aD (fun _=>?_) (fun l=>by cases l);refine PI (a:=m) (b:=10) rfl rfl (by omega) ?_;refine fw (a:=48) (b:=m % 10) rfl rfl (by omega) ?_;refine uj iD gX (IntWalk.u8_in _ (by omega)) ?_;refine Fr i Bc V2 gX ba fun w' i=>?_;refine d6 (by simp; omega) ?_;refine Pq (a:=m) (b:=10) rfl rfl (by omega) (by omega) ?_;refine ⟨⟨g,m / 10,UInt8.ofNat (48+m % 10)::out,rfl,rfl,by omega,by simp only [bq]; omega,hd,i⟩,?_⟩;simp only [intOf,cu];omega
 ·rename_i t
  refine mn (by omega) ?_;refine aD (fun l=>by cases l) (fun _=>?_);refine fw (a:=48) (b:=m) rfl rfl (by omega) ?_;refine uj iD gX (IntWalk.u8_in _ (by omega)) ?_;refine Fr i Bc V2 gX ba fun w' i=>?_;refine d6 (by simp; omega) ?_;simp only [aY] at hd;exact done i (by rw [<- hd]; rfl)
theorem Ms {n:Int} {r:Bs} (h:Yq n=some r) (hn:-999<=n/\n<=999):Pure Tryz.prog Ti [.int .i64 n] S (.string (st r)):=by
 intro w f;refine FT.2 ?_;dsimp only[FT,aO];unfold Yq at h;split at h
 ·rename_i g
  refine GD g ?_;refine aD (fun _=>?_) (fun i=>by cases i);refine X4 (by omega) ?_;obtain ⟨m,o⟩:∃ m:Nat,-n=(m:Int):=⟨(-n).toNat,by omega⟩
  rw [o] at h ⊢;rw [cu,Pu] at h;obtain ⟨l,hl,rfl⟩:=h;have:=Mv _ _ _ _ hl;refine Run.callPure BU C6 f (yM hl (by omega) (by omega)) fun w' f=>?_;refine d6 (a:=[45]) (by simp only [bW,bq] at this ⊢; omega) ?_;exact done f rfl
 ·rename_i g
  refine fp g ?_;refine aD (fun i=>by cases i) (fun _=>?_);obtain ⟨m,rfl⟩:∃ m:Nat,n=(m:Int):=⟨n.toNat,by omega⟩
  rw [cu] at h;refine Run.callPure BU C6 f (yM h (by omega) (by omega)) fun w' f=>?_;exact done f rfl
theorem LY {t:T} {cs:List Value} {x:Bs} (h:RdT S cs t) (D:FL t=false) (g:Vi t=some x):Pure Tryz.prog Pr [.agg cs.toArray] S (.string (st x)):=by
 intro w f;have J:=h;obtain ⟨kv,rfl,_,_,_,hk⟩:=RdT.iff.1 h;obtain ⟨r,B,rfl,_⟩:=id hk;refine Di.2 ?_;dsimp only[Di,aO];unfold Vi at g;refine bJ f fun q w' f=>?_;refine af f 0 rfl aW aG rfl ?_;split at g
 ·rename_i m
  refine gf m ?_;refine aD (fun _=>?_) (fun i=>by cases i);refine af f 0 rfl bi aG rfl ?_;split at g
  ·rename_i l
   refine Run.callPure HG HC f (EZ l) fun w' f=>?_;simp only [aY] at g;exact done f (by rw [<- g])
  ·cases g
 ·rename_i m
  refine fe m ?_;refine aD (fun i=>by cases i) (fun _=>?_);split at g
  ·rename_i l
   refine gf l ?_;refine aD (fun _=>?_) (fun i=>by cases i);refine af f 0 rfl bi aG rfl ?_;split at g
   ·rename_i o
    refine Run.callPure Pj Pb f (Ms g o) fun w' f=>?_;exact done f rfl
   ·cases g
  ·rename_i l
   refine fe l ?_;refine aD (fun i=>by cases i) (fun _=>?_);split at g
   ·rename_i o
    simp only [aY] at g;refine aC f 0 ad rfl rfl ?_;refine Run.callPure tP sD f (mv J) fun w' f=>?_;rw [D];refine aD (fun i=>by cases i) (fun _=>?_);refine af f 0 rfl bl be rfl ?_;refine ⟨fun a b w'=>a=.int .i64 0/\b=.string t.name/\Inv w [] [.blk q (.cells #[.int .i64 t.kind,.int .i64 t.n,.string t.name,.slice r t.kids.length B] ab)] S w',fun _ _ _=>0,⟨rfl,rfl,f⟩,?_⟩;intro M _ _ _ _ _ _ _ _ _ _ _ _ G _ _ _ _ _ _ _ _ _ w';rintro ⟨rfl,rfl,f⟩;refine af f 0 rfl ar al rfl ?_;refine iB ah ?_;refine fp (by omega) ?_;refine aD (fun i=>by cases i) (fun _=>?_);refine ⟨fun b w'=>b=.string t.name/\Inv w [] [.blk q (.cells #[.int .i64 t.kind,.int .i64 t.n,.string t.name,.slice r t.kids.length B] ab)] S w',?_,?_⟩
    ·refine af f 0 rfl ar al rfl ?_;refine iB ah ?_;refine mn (by omega) ?_;refine aD (fun i=>by cases i) (fun _=>?_);exact ⟨rfl,f⟩
    intro G _ _ _ _ _ _ w';rintro ⟨rfl,f⟩;exact done f (by rw [<- g])
   ·cases g
end
theorem JA:∀ (f:Nat) (l:List T) (out x:Bs),rz f l out=some x->out.length<=x.length
 | 0,_,_,_,h=>by simp [rz] at h
 | _+1,[],out,x,h=>by simp [rz] at h; subst h; exact aS _
 | f+1,t::l,out,x,h=>by
  rw [rz] at h;split at h
  ·cases h
  ·have:=JA f _ _ _ h;simp only [bA] at this;omega
def lenOf:Value->Nat
 | .slice _ n _=>n
 | _=>0
def Ci (f:Nat):Prop:=∀ (t:T) (x:Bs) (S:ae) (cs:List Value),Kz f t=some x->x.length<=1000000->RdT S cs t->Pure Tryz.prog PD [.agg cs.toArray] S (.string (st x))
def QN (f:Nat):Prop:=∀ (t:T) (x:Bs) (S:ae) (cs:List Value),IG f t []=some x->x.length<=1000000->RdT S cs t->Pure Tryz.prog QQ [.agg cs.toArray] S (.string (st x))
def Lp (f:Nat):Prop:=∀ (ts:List T) (x:Bs) (S:ae) (u:Value),rz f ts []=some x->x.length<=1000000->RdSl S 4 (RdT S) u ts->Pure Tryz.prog P2 [u] S (.string (st x))
def uK (f:Nat):Prop:=∀ (t:T) (l:Int) (x:Bs) (S:ae) (cs:List Value),sX f t l=some x->x.length<=1000000->RdT S cs t->Pure Tryz.prog Hm [.agg cs.toArray,.int .i64 l] S (.string (st x))
def Qt (f:Nat):Prop:=∀ (t:T) (l:Int) (x:Bs) (S:ae) (cs:List Value),Ru f t l=some x->x.length<=1000000->RdT S cs t->Pure Tryz.prog QO [.agg cs.toArray,.int .i64 l] S (.string (st x))
def Lo (f:Nat):Prop:=∀ (t:T) (l:Int) (x:Bs) (S:ae) (cs:List Value),LP f t l=some x->x.length<=1000000->RdT S cs t->Pure Tryz.prog MS [.agg cs.toArray,.int .i64 l] S (.string (st x))
section
attribute [local irreducible] Run CondV aq aK
theorem WS {f:Nat} (J:∀ g,g<f->Ci g):Lp f:=by
 intro ts x S u h Y B w o;refine Cl.2 ?_;dsimp only[Cl,aO];refine ⟨fun a b w'=>∃ (t j:Nat) (out l:Bs),t<=f/\j<=ts.length/\a=.int .i64 (j:Int)/\b=.string (st out)/\l=out++(if 0<j/\j<ts.length then [44] else [])/\rz t (ts.drop j) l=some x/\Inv w [] [] S w',
  fun a _ _=>ts.length - (intOf a).toNat,⟨f,0,[],[],aS _,bk _,rfl,rfl,by simp,h,o⟩,?_⟩
 intro Z _ _ _ _ _ _ _ _ _ M _ _ _ _ _ _ _ _ w';rintro ⟨t,j,out,l,N,hj,rfl,rfl,i,q,o⟩;cases t with
 | zero=>simp [rz] at q
 | succ g=>
 refine aJ B ah ?_;refine bT ?_;refine aL (fun D=>?_) (fun D=>?_)
 ·have r:j<ts.length:=by omega
  rw [dY r,rz] at q;split at q
  ·cases q
  rename_i y O
  have m:=JA _ _ _ _ q;simp only [bA] at m;refine ⟨fun b w'=>b=.string (st l)/\Inv w [] [] S w',?_,?_⟩
  ·refine eP ?_;refine aL (fun U=>?_) (fun U=>?_)
   ·rw [ai (by omega)] at i;refine d6 (b:=[44]) (by rw [i,bA] at m; simp only [bq,bW] at m ⊢; omega) ?_;exact ⟨by rw [i],o⟩
   ·rw [ag (by omega),bU] at i;exact ⟨by rw [i],o⟩
  intro M _ _ _ _ w';rintro ⟨rfl,o⟩;refine cn o B ah ad r (fun _ _=>RdT.length) fun cs G=>?_;refine Run.callPure gU gS o (J g (by omega) _ y S cs O (by omega) G) fun w' o=>?_;refine d6 (by omega) ?_;refine bC (by have:=B.le; simp only [maxLen] at this; omega) ?_;refine ⟨⟨g,j+1,l++y,_,by omega,r,rfl,rfl,rfl,?_,o⟩,by simp only [intOf,cu]; omega⟩;have e:(if ts.drop (j+1)=[] then [] else [44]:Bs)=if 0<j+1/\j+1<ts.length then [44] else []:=by
   by_cases h1:j+1<ts.length
   ·rw [ag (fun V=>by rw [List.drop_eq_nil_iff] at V; omega),ai (by omega)]
   ·rw [ai (vY (by omega)),ag (by omega)]
  rw [<- e];exact q
 ·have:j=ts.length:=by omega
  subst this;rw [eD,rz] at q;simp only [aY] at q;rw [ag (by omega),bU] at i;exact done o (by rw [<- q,i])
theorem Qi {f:Nat} (r:∀ g,g<f->Ci g):uK f:=by
 intro t l x S cs h O hc w i;cases f with
 | zero=>simp [sX] at h
 | succ g=>
 rw [sX] at h;split at h
 ·cases h
 rename_i y B
 simp only [aY] at h;have q:=hc;obtain ⟨kv,rfl,_,_,_,hk⟩:=RdT.iff.1 hc;obtain ⟨M,N,rfl,_⟩:=id hk;have o:y.length<=1000000/\y.length+2<=9000000:=by
  have:y.length<=x.length:=by
   rw [<- h]; split
   ·simp; omega
   ·omega
  omega
 refine ui.2 ?_;dsimp only[ui,bm];refine bJ i fun J w' i=>?_;refine ⟨fun b w'=>b=.bool (qT t && decide (l<cR t.name))/\Inv w [] [.blk J (.cells #[.int .i64 t.kind,.int .i64 t.n,.string t.name,.slice M t.kids.length N] ab)] S w',?_,?_⟩
 ·refine aC i 0 ad rfl rfl ?_;refine Run.callPure yK xD i (r7 q) fun w' i=>?_;cases hf:qT t
  ·refine rpG ?_;exact ⟨by rw [iQ],i⟩
  ·refine rpG ?_;refine af i 0 rfl bl be rfl ?_;refine Run.callPure gq gw i (eG _ S) fun w' i=>?_;refine eP ?_;refine rpG ?_;exact ⟨by rw [eH],i⟩
 intro G _ _ _ _ _ _ _ _ w';rintro ⟨rfl,i⟩;refine aD (fun m=>?_) (fun m=>?_)
 ·rw [bM,bD] at m;rw [ai m] at h;refine aC i 0 ad rfl rfl ?_;refine Run.callPure gU gS i (r g (by omega) t y S _ B o.1 q) fun w' i=>?_;refine d6 (a:=[40]) (by simp only [bq,bW]; omega) ?_;refine d6 (b:=[41]) (by simp only [bA,bq,bW]; omega) ?_;exact done i (by rw [<- h])
 ·rw [ag (fun D=>by rw [Bool.and_eq_false_iff,mH] at m; rcases m with m|m; rw [D.1] at m; cases m; exact m D.2)] at h;refine aC i 0 ad rfl rfl ?_;refine Run.callPure gU gS i (r g (by omega) t y S _ B o.1 q) fun w' i=>?_;exact done i (by rw [<- h])
theorem WI {f:Nat} (B:∀ g,g<f->Ci g) (m:∀ g,g<f->uK g):Qt f:=by
 intro t l x S cs h D hc w i;cases f with
 | zero=>simp [Ru] at h
 | succ g=>
 rw [Ru] at h;have r:=hc;obtain ⟨kv,rfl,_,_,_,hk⟩:=RdT.iff.1 hc;obtain ⟨N,O,rfl,_⟩:=id hk;refine C1.2 ?_;dsimp only[C1,bm];refine bJ i fun M w' i=>?_;refine aC i 0 ad rfl rfl ?_;refine Run.callPure CH CY i (tL r) fun w' i=>?_;split at h
 ·rename_i o
  split at h
  ·cases h
  rename_i y G
  simp only [aY] at h;have J:y.length+2=x.length:=by rw [<- h]; simp only [bA,bq,bW]; omega
  rw [o];refine aD (fun _=>?_) (fun q=>by cases q);refine aC i 0 ad rfl rfl ?_;refine Run.callPure gU gS i (B g (by omega) t y S _ G (by omega) r) fun w' i=>?_;refine d6 (a:=[40]) (by simp only [bq,bW]; omega) ?_;refine d6 (b:=[41]) (by simp only [bA,bq,bW]; omega) ?_;exact done i (by rw [<- h])
 ·rename_i o
  rw [bx.2 o];refine aD (fun q=>by cases q) (fun _=>?_);refine aC i 0 ad rfl rfl ?_;refine Run.callPure sM ug i (m g (by omega) t l x S _ h D r) fun w' i=>?_;exact done i rfl
theorem TV {f:Nat} (o:∀ g,g<f->uK g):Lo f:=by
 intro t l x S cs h V hc w i;cases f with
 | zero=>simp [LP] at h
 | succ g=>
 rw [LP] at h;split at h
 ·cases h
 rename_i y J
 split at h
 ·cases h
 rename_i q
 simp only [aY] at h;have r:0<y.length:=by
  cases y with
  | nil=>exact absurd rfl q
  | cons a l=>simp
 have B:y.length<=1000000:=by
  have:y.length<=x.length:=by
   rw [<- h]; split
   ·simp; omega
   ·omega
  omega
 have G:=hc;obtain ⟨kv,rfl,_,_,_,hk⟩:=RdT.iff.1 hc;obtain ⟨O,U,rfl,_⟩:=id hk;refine yp.2 ?_;dsimp only[yp,bm];refine bJ i fun N w' i=>?_;refine aC i 0 ad rfl rfl ?_;refine Run.callPure sM ug i (o g (by omega) t l y S _ J B G) fun w' i=>?_;refine ⟨fun b w'=>b=.bool (BT t || !Ks y)/\Inv w [] [.blk N (.cells #[.int .i64 t.kind,.int .i64 t.n,.string t.name,.slice O t.kids.length U] ab)] S w',?_,?_⟩
 ·refine aC i 0 ad rfl rfl ?_;refine Run.callPure CH CY i (tL G) fun w' i=>?_;cases Y:BT t
  ·refine rpG ?_;refine Run.callPure K2 K1 i (H0 y r) fun w' i=>?_;refine cw ?_;refine rpG ?_;exact ⟨by rw [iw],i⟩
  ·refine rpG ?_;exact ⟨by rw [y9],i⟩
 intro M _ _ _ _ _ _ w';rintro ⟨rfl,i⟩;refine aD (fun m=>?_) (fun m=>?_)
 ·rw [jd,pZ] at m;rw [ai m] at h;refine d6 (a:=[40]) (by simp only [bq,bW]; omega) ?_;refine d6 (b:=[41]) (by simp only [bA,bq,bW]; omega) ?_;exact done i (by rw [<- h])
 ·rw [ag (fun D=>by rw [<- pZ,<- jd,m] at D; cases D)] at h;exact done i (by rw [<- h])
theorem Xy {f:Nat} (hf:f<=100000) (ih:∀ g,g<f->Ci g) (V:∀ g,g<f->Lp g):QN f:=by
 intro t x S cs h hx hc w l;obtain ⟨kv,rfl,_,_,_,hk⟩:=RdT.iff.1 hc;refine Cc.2 ?_;dsimp only[Cc,aO];refine bJ l fun Z w' l=>?_;refine ei l bn fun v0 w' l=>?_;refine ⟨fun a w'=>∃ (f':Nat) (r:T) (o:List T) (ds:List Value) (css:List (List Value)),f'+o.length=f/\IG f' r o=some x/\RdT S ds r/\Rows 4 (RdT S) css o/\(∃ p m,a=.slice p o.length m)/\Inv w [] [.blk Z (.cells ds.toArray ab),aA a ab 4 css] S w',
  fun a _=>f+1 - lenOf a,⟨f,t,[],_,[],by simp,h,hc,Rows.nil _ _,?_,l⟩,?_⟩
 ·have M:Inv w [] ([Item.blk Z (.cells #[.int .i64 t.kind,.int .i64 t.n,.string t.name,kv] ab)]++[aA v0 ab 4 []]) S w':=l;obtain ⟨S1,_,G,_⟩:=Inv.lendExt M;obtain ⟨p,m,e,_⟩:=RowRd.rows (Rows.nil 4 (RdT S)) G;exact ⟨p,m,e⟩
 clear h hc hk l;intro _ _ _ _ t3 _ _ _ _ _ _ _ _ _ w';rintro ⟨f',r,o,ds,css,a6,hl,hd,hR,⟨p,m,rfl⟩,l⟩;have U:=hd;obtain ⟨kd,rfl,_,_,_,hk⟩:=RdT.iff.1 hd;have a7:=hR.hc;cases f' with
 | zero=>simp [IG] at hl
 | succ g=>
 rw [IG] at hl;refine aC l 0 ad rfl rfl ?_;refine Run.callPure tP sD l (mv U) fun w' l=>?_;split at hl
 ·rename_i hp
  split at hl
  ·rename_i a b a2
   rw [hp];refine aD (fun _=>?_) (fun O=>by cases O);rw [a2] at hk;refine af l 0 rfl ar al rfl ?_;refine cn (i:=0) l hk ah ad (by simp) (fun _ _=>RdT.length) fun es B=>?_;rw [kX] at B;refine de (css:=css) l 1 es bn (by omega) (by omega) rfl B.length B.one (by omega) (by omega) fun v' w' l=>?_;refine af l 0 rfl ar al rfl ?_;refine cn (i:=1) l hk ah ad (by simp) (fun _ _=>RdT.length) fun gs N=>?_;rw [U3,kX] at N;have a3:=N.length;refine au l 0 rfl ad (by simpa using a3) rfl (by simpa using N.one) fun w' l=>?_;have a0:=hR.snoc B B.length;have M:Inv w [] ([Item.blk Z (.cells gs.toArray ab)]++[aA v' ab 4 (css++[es])]) S w':=l;obtain ⟨S1,J,G,_⟩:=Inv.lendExt M;obtain ⟨p',m',e',_⟩:=RowRd.rows a0 G;refine ⟨⟨g,b,o++[a],gs,css++[es],by rw [bA]; simp only [bq,bW]; omega,hl,N,a0,⟨p',m',e'⟩,l⟩,?_⟩;rw [e'];simp only [lenOf,bA,bq,bW];omega
  ·cases hl
 ·rename_i hp
  rw [bx.2 hp];refine aD (fun O=>by cases O) (fun _=>?_);split at hl
  ·cases hl
  rename_i y hy
  refine aC l 0 ad rfl rfl ?_;refine Run.callPure OX Pw l (HK U) fun w' l=>?_;have M:Inv w [] ([Item.blk Z (.cells #[.int .i64 r.kind,.int .i64 r.n,.string r.name,kd] ab)]++[aA (.slice p o.length m) ab 4 css]) S w':=l;obtain ⟨S1,J,G,l⟩:=Inv.lendExt M;have a1:=RowRd.rows (hR.monoR fun _ _ h=>RdT.mono J.1 h) G;have a4:=RdT.mono J.1 U;split at hl
  ·rename_i hn
   simp only [aY] at hl;have a5:y.length+2=x.length:=by rw [<- hl]; simp only [bA,bq,bW]; omega
   rw [hn];refine aD (fun _=>?_) (fun O=>by cases O);refine Run.callPure uA uv l (V g (by omega) o y S1 _ hy (by omega) a1) fun w' l=>?_;refine d6 (a:=[91]) (by simp only [bq,bW]; omega) ?_;refine d6 (b:=[93]) (by simp only [bA,bq,bW]; omega) ?_;exact iy l J.1 (by rw [<- hl])
  ·rename_i hn
   split at hl
   ·cases hl
   rename_i z hz
   simp only [aY] at hl;have a5:y.length+z.length+3=x.length:=by rw [<- hl]; simp only [bA,bq,bW]; omega
   rw [bx.2 hn];refine aD (fun O=>by cases O) (fun _=>?_);refine ⟨fun D x2 ut ik ji jw oP kT fN lK w_=>Fx D 0 [lK=.slice p o.length m,fN=.string (st y),kT=.string (st ([91]++y)),oP=.string (st ([91]++y++[124])),jw=.agg #[.int .i64 r.kind,.int .i64 r.n,.string r.name,kd],ji=.string (st z),ik=.string (st ([91]++y++[124]++z)),ut=.string (st ([91]++y++[124]++z++[93])),x2=.string (st ([91]++y++[124]++z++[93]))]/\Inv w [] [.blk Z (.cells #[.int .i64 r.kind,.int .i64 r.n,.string r.name,kd] ab)] S1 w_,⟨Fx.nil _ _,l.draw⟩,⟨?_,?_,?_,?_,?_,?_,?_,?_,?_,trivial⟩,?_⟩;all_goals (intro D bI; intros; rename_i x2 ut ik ji jw oP kT fN lK w_ Y; have q:=Y.1; obtain ⟨⟨cJ,cH,cI,cD,cM,cO,cq,dg,dF,_⟩,l⟩:=Y)
   ·exact ⟨q.set 0 rfl,l⟩
   ·obtain rfl:=cJ ‹_›;refine Run.callPure uA uv l (V g (by omega) o y S1 _ hy (by omega) a1) fun w_ l=>?_;exact ⟨q.set 1 rfl,l⟩
   ·obtain rfl:=cH ‹_›;refine d6 (a:=[91]) (by simp only [bq,bW]; omega) ?_;exact ⟨q.set 2 rfl,l⟩
   ·obtain rfl:=cI ‹_›;refine d6 (b:=[124]) (by simp only [bA,bq,bW]; omega) ?_;exact ⟨q.set 3 rfl,l⟩
   ·refine aC l 0 ad rfl rfl ?_;exact ⟨q.set 4 rfl,l⟩
   ·obtain rfl:=cM ‹_›;refine Run.callPure gU gS l (ih g (by omega) r z S1 _ hz (by omega) a4) fun w_ l=>?_;exact ⟨q.set 5 rfl,l⟩
   ·obtain rfl:=cD ‹_›;obtain rfl:=cO ‹_›;refine d6 (by simp only [bA,bq,bW]; omega) ?_;exact ⟨q.set 6 rfl,l⟩
   ·obtain rfl:=cq ‹_›;refine d6 (b:=[93]) (by simp only [bA,bq,bW]; omega) ?_;exact ⟨q.set 7 rfl,l⟩
   ·obtain rfl:=dg ‹_›;exact ⟨q.set 8 rfl,l⟩
   obtain ⟨rfl,rfl,rfl,rfl,rfl,rfl,rfl,rfl,rfl,_⟩:=q.all;clear q cJ cH cI cD cM cO cq dg dF;exact iy l J.1 (by rw [<- hl])
theorem YK {f:Nat} (a3:∀ g,g<f->QN g) (a4:∀ g,g<f->Lp g) (a5:∀ g,g<f->Qt g) (a6:∀ g,g<f->Lo g):Ci f:=by
 intro t x S cs h hx hc w l;cases f with
 | zero=>simp [Kz] at h
 | succ g=>
 rw [Kz] at h;have h0:=hc;obtain ⟨kv,rfl,_,_,_,hk⟩:=RdT.iff.1 hc;refine CM.2 ?_;dsimp only[CM,aO];refine bJ l fun N w' l=>?_;obtain ⟨B1,r⟩:∃ B1,B1=Item.blk N (.cells #[.int .i64 t.kind,.int .i64 t.n,.string t.name,kv] ab):=⟨_,rfl⟩
 refine aC l 0 ad rfl rfl ?_;refine Run.callPure tP sD l (mv h0) fun w' l=>?_;split at h
 ·rename_i Z
  rw [Z];refine aD (fun _=>?_) (fun q=>by cases q);refine aC l 0 ad rfl rfl ?_;refine Run.callPure NY MI l (a3 g (by omega) t x S _ h hx h0) fun w' l=>?_;exact done l rfl
 rename_i Z
 have Z:=bx.2 Z;rw [Z];refine aD (fun q=>by cases q) (fun _=>?_);refine aC l 0 ad rfl rfl ?_;refine Run.callPure yK xD l (r7 h0) fun w' l=>?_;split at h
 ·rename_i hf
  rw [hf];refine aD (fun _=>?_) (fun q=>by cases q);split at h
  ·rename_i a b a7
   obtain ⟨G,a0⟩:∃ G,G=cR t.name:=⟨_,rfl⟩
   rw [<- a0] at h;have b8:1<=G/\G<=3:=by
    have h1:0<cR t.name:=by
     unfold qT at hf;simp only [bM,bD] at hf;exact hf.2.2
    have h2:cR t.name<=3:=by
     unfold cR;split
     ·omega
     ·split
      ·omega
      ·split <;> omega
    omega
   split at h
   ·rename_i y z hy hz
    simp only [aY] at h;have a2:y.length+(jC (bs t.name)).length+z.length=x.length:=by rw [<- h]; simp only [bA]
    have b9:(bs t.name).length<=(jC (bs t.name)).length:=by
     unfold jC;split
     ·simp; omega
     ·omega
    rw [a7] at hk;obtain ⟨b2,U,B,c2,E2,b4,rfl,hS,V⟩:=hk.at_ (i:=0) (by simp);obtain ⟨b5,b6,a8,b7,E2',b0,a9,a1,Y⟩:=hk.at_ (i:=1) (by simp);cases a9;rw [hS] at a1;cases a1;rw [kX] at V;rw [U3,kX] at Y;refine af l 0 rfl bl be rfl ?_;refine Run.callPure gq gw l (eG _ S) fun w' l=>?_;rw [<- a0];have l:Inv w [] [B1] S w':=by rw [r]; exact l
    refine ⟨fun v w'=>v=.int .i64 (if G=3 then 2 else G)/\Inv w [] [B1] S w',?_,?_⟩
    ·refine bw ?_;refine aL (fun O=>⟨by rw [ai O],l⟩) (fun O=>⟨by rw [ag O],l⟩)
    intro t4 _ _ w';rintro ⟨rfl,l⟩;subst r
    skip
    refine ⟨fun D x2 sy sg Ab BF CK ut ik ji jw oP kT fN lK rW qb oJ ju ld J=>Fx D 0 [ld=.pointer (some ⟨N,3,none⟩),ju=.slice (some ⟨b2,U,none⟩) [a,b].length B,oJ=.pointer (some ⟨b2,U+0 * 4,none⟩),qb=.agg (aX c2 (U+0 * 4) 4).toArray,rW=.int .i64 (if G=3 then 2 else G),lK=.string (st y),fN=.pointer (some ⟨N,2,none⟩),kT=.string t.name,oP=.string (st (jC (bs t.name))),jw=.string (st (y++jC (bs t.name))),ji=.pointer (some ⟨N,3,none⟩),ik=.slice (some ⟨b2,U,none⟩) [a,b].length B,ut=.pointer (some ⟨b2,U+1 * 4,none⟩),CK=.agg (aX c2 (U+1 * 4) 4).toArray,BF=.int .i64 G,Ab=.int .i64 (G - 1),sg=.string (st z),sy=.string (st (y++jC (bs t.name)++z)),x2=.string (st (y++jC (bs t.name)++z))]/\Inv w [] [.blk N (.cells #[.int .i64 t.kind,.int .i64 t.n,.string t.name,.slice (some ⟨b2,U,none⟩) [a,b].length B] ab)] S J,⟨Fx.nil _ _,l.draw⟩,⟨?_,?_,?_,?_,?_,?_,?_,?_,?_,?_,?_,?_,?_,?_,?_,?_,?_,?_,?_,trivial⟩,?_⟩;all_goals (intro D bI; intros; rename_i x2 sy sg Ab BF CK ut ik ji jw oP kT fN lK rW qb oJ ju ld J o; have m:=o.1; obtain ⟨⟨cJ,cH,cI,cD,cM,cO,cq,dg,dF,dL,cT,dl,dN,fE,gr,gQ,iC,ku,lY,_⟩,l⟩:=o)
    ·refine aw ar ?_;exact ⟨m.set 0 rfl,l⟩
    ·obtain rfl:=cJ ‹_›;refine aU l 0 al rfl rfl ?_;exact ⟨m.set 1 rfl,l⟩
    ·obtain rfl:=cH ‹_›;refine az (i:=0) ah (by simp) ?_;exact ⟨m.set 2 rfl,l⟩
    ·obtain rfl:=cI ‹_›;refine ci ad V.length (fun j v hj=>by rw [l.cellS hS]; exact aF rfl j v hj) ?_;exact ⟨m.set 3 rfl,l⟩
    ·exact ⟨m.set 4 rfl,l⟩
    ·obtain rfl:=cD ‹_›;obtain rfl:=cM ‹_›;refine Run.callPure NB MH l (a5 g (by omega) a _ y S _ hy (by omega) V) fun J l=>?_;exact ⟨m.set 5 rfl,l⟩
    ·refine aw bl ?_;exact ⟨m.set 6 rfl,l⟩
    ·obtain rfl:=cq ‹_›;refine aU l 0 be rfl rfl ?_;exact ⟨m.set 7 rfl,l⟩
    ·obtain rfl:=dg ‹_›;refine Run.callPure HW H9 l (Ha (bs t.name) (by omega)) fun J l=>?_;exact ⟨m.set 8 rfl,l⟩
    ·obtain rfl:=cO ‹_›;obtain rfl:=dF ‹_›;refine d6 (by omega) ?_;exact ⟨m.set 9 rfl,l⟩
    ·refine aw ar ?_;exact ⟨m.set 10 rfl,l⟩
    ·obtain rfl:=cT ‹_›;refine aU l 0 al rfl rfl ?_;exact ⟨m.set 11 rfl,l⟩
    ·obtain rfl:=dl ‹_›;refine az (i:=1) ah (by simp) ?_;exact ⟨m.set 12 rfl,l⟩
    ·obtain rfl:=dN ‹_›;refine ci ad Y.length (fun j v hj=>by rw [l.cellS hS]; exact aF rfl j v hj) ?_;exact ⟨m.set 13 rfl,l⟩
    ·exact ⟨m.set 14 rfl,l⟩
    ·obtain rfl:=gr ‹_›;refine kS (by omega) ?_;exact ⟨m.set 15 rfl,l⟩
    ·obtain rfl:=fE ‹_›;obtain rfl:=gQ ‹_›;refine Run.callPure KX Kd l (a6 g (by omega) b _ z S _ hz (by omega) Y) fun J l=>?_;exact ⟨m.set 16 rfl,l⟩
    ·obtain rfl:=dL ‹_›;obtain rfl:=iC ‹_›;refine d6 (by rw [bA]; omega) ?_;exact ⟨m.set 17 rfl,l⟩
    ·obtain rfl:=ku ‹_›;exact ⟨m.set 18 rfl,l⟩
    obtain ⟨rfl,rfl,rfl,rfl,rfl,rfl,rfl,rfl,rfl,rfl,rfl,rfl,rfl,rfl,rfl,rfl,rfl,rfl,rfl,_⟩:=m.all;clear m cJ cH cI cD cM cO cq dg dF dL cT dl dN fE gr gQ iC ku lY;exact done l (by rw [<- h])
   ·cases h
  ·cases h
 ·rename_i hf
  rw [bx.2 hf];refine aD (fun q=>by cases q) (fun _=>?_);obtain ⟨ka,kc,rfl,_⟩:=id hk;refine ⟨fun v w'=>v=.bool (decide (t.kind=3) && decide (0<t.kids.length))/\Inv w [] [B1] S w',?_,?_⟩
  ·refine af l 0 rfl aW aG rfl ?_;by_cases O:t.kind=3
   ·refine gf O ?_;refine rpG ?_;refine af l 0 rfl ar al rfl ?_;refine iB ah ?_;refine eP ?_;refine rpG ?_;refine ⟨?_,by rw [r]; exact l⟩;rw [aN O,eH]
    congr 1
    rw [fY];omega
   ·refine fe O ?_;refine rpG ?_;exact ⟨by rw [aZ O,iQ],by rw [r]; exact l⟩
  intro b3 _ _ _ _ _ _ _ _ _ w';rintro ⟨rfl,l⟩;subst r;split at h
  ·rename_i M
   rw [aN M.1,aN M.2];refine aD (fun _=>?_) (fun q=>by cases q);split at h
   ·rename_i y hy
    simp only [aY] at h;have a2:(bs t.name).length+y.length+2=x.length:=by rw [<- h]; simp only [bA,bq,bW]; omega
    skip
    refine ⟨fun D x2 Ix Gx sc Df CG y7 z8 sx J=>Fx D 0 [sx=.pointer (some ⟨N,2,none⟩),z8=.string t.name,y7=.string (st (bs t.name++[40])),CG=.pointer (some ⟨N,3,none⟩),Df=.slice ka t.kids.length kc,sc=.string (st y),Gx=.string (st (bs t.name++[40]++y)),Ix=.string (st (bs t.name++[40]++y++[41])),x2=.string (st (bs t.name++[40]++y++[41]))]/\Inv w [] [.blk N (.cells #[.int .i64 t.kind,.int .i64 t.n,.string t.name,.slice ka t.kids.length kc] ab)] S J,⟨Fx.nil _ _,l.draw⟩,⟨?_,?_,?_,?_,?_,?_,?_,?_,?_,trivial⟩,?_⟩;all_goals (intro D bI; intros; rename_i x2 Ix Gx sc Df CG y7 z8 sx J o; have m:=o.1; obtain ⟨⟨cJ,cH,cI,cD,cM,cO,cq,dg,dF,_⟩,l⟩:=o)
    ·refine aw bl ?_;exact ⟨m.set 0 rfl,l⟩
    ·obtain rfl:=cJ ‹_›;refine aU l 0 be rfl rfl ?_;exact ⟨m.set 1 rfl,l⟩
    ·obtain rfl:=cH ‹_›;refine d6 (a:=bs t.name) (b:=[40]) (by simp only [bq,bW]; omega) ?_;exact ⟨m.set 2 rfl,l⟩
    ·refine aw ar ?_;exact ⟨m.set 3 rfl,l⟩
    ·obtain rfl:=cD ‹_›;refine aU l 0 al rfl rfl ?_;exact ⟨m.set 4 rfl,l⟩
    ·obtain rfl:=cM ‹_›;refine Run.callPure uA uv l (a4 g (by omega) t.kids y S _ hy (by omega) hk) fun J l=>?_;exact ⟨m.set 5 rfl,l⟩
    ·obtain rfl:=cI ‹_›;obtain rfl:=cO ‹_›;refine d6 (by simp only [bA,bq,bW]; omega) ?_;exact ⟨m.set 6 rfl,l⟩
    ·obtain rfl:=cq ‹_›;refine d6 (b:=[41]) (by simp only [bA,bq,bW]; omega) ?_;exact ⟨m.set 7 rfl,l⟩
    ·obtain rfl:=dg ‹_›;exact ⟨m.set 8 rfl,l⟩
    obtain ⟨rfl,rfl,rfl,rfl,rfl,rfl,rfl,rfl,rfl,_⟩:=m.all;clear m cJ cH cI cD cM cO cq dg dF;exact done l (by rw [<- h])
   ·cases h
  ·rename_i M
   have e:(decide (t.kind=3) && decide (0<t.kids.length))=false:=by
    rw [bx,ne_eq,bM,bD,bD]; exact M
   rw [e];refine aD (fun q=>by cases q) (fun _=>?_);refine aC l 0 ad rfl rfl ?_;refine Run.callPure Od OJ l (LY h0 Z h) fun w' l=>?_;exact done l rfl
theorem Q7:∀ F f,f<F->F<=1000->Ci f/\QN f/\Lp f/\uK f/\Qt f/\Lo f
 | 0,f,h,_=>by omega
 | F+1,f,h,hF=>by
  have i:=fun g (a:g<f)=>Q7 F g (by omega) (by omega);have l:Ci f:=YK (fun g a=>(i g a).2.1) (fun g a=>(i g a).2.2.1) (fun g a=>(i g a).2.2.2.2.1) (fun g a=>(i g a).2.2.2.2.2);exact ⟨l,Xy (by omega) (fun g a=>(i g a).1) (fun g a=>(i g a).2.2.1),WS fun g a=>(i g a).1,Qi fun g a=>(i g a).1,WI (fun g a=>(i g a).1) (fun g a=>(i g a).2.2.2.1),TV fun g a=>(i g a).2.2.2.1⟩
theorem Jo {f:Nat} (hf:f<=100):Ci f:=(Q7 (f+1) f (by omega) (by omega)).1
end
end Go.Proofs.YtgllldjiaglkcaaGreatDoor

/- Texts written: spec.l2Text and its kin, l4Text, FormatClause. -/
import Derived.Test.YtgllldjiaglkcaaGreatDoorZUf10
namespace Go.Proofs.YtgllldjiaglkcaaGreatDoor
open Go Go.RowKit
theorem VL:Tryz.prog.underlying Od=some (.slice Ky):=by kernel_rfl
section
variable {w:World} {S:ae}
attribute [local irreducible] Run CondV aq aK
theorem mE {t:T} {cs:List Value} (h:RdT S cs t):Pure Tryz.prog QA [.agg cs.toArray] S (.bool (Gv t)):=by
 intro w a;obtain ⟨kv,rfl,_,_,_,hk⟩:=RdT.iff.1 h;obtain ⟨i,l,rfl,_⟩:=id hk;refine C4.2 ?_;dsimp only[C4,aO];refine bJ a fun g w' a=>?_;refine af a 0 rfl aW aG rfl ?_;by_cases f:t.kind=3
 ·refine gf f ?_;refine rpG ?_;refine af a 0 rfl bl be rfl ?_;refine bQ (b:=st [46]) ?_;cases hn:decide (t.name=st [46])
  ·refine rpG ?_;exact done a (by rw [Gv,hn,iP,y5])
  ·refine rpG ?_;refine af a 0 rfl ar al rfl ?_;refine iA ah ?_;refine bw ?_;refine rpG ?_;refine done a ?_;rw [Gv,hn,aN f,eH,eH]
   congr 1
   rw [gB];omega
 ·refine fc f ?_;refine rpG ?_;exact done a (by rw [Gv,ba f,iP])
theorem Hk {t:T} {cs:List Value} (h:RdT S cs t):Pure Tryz.prog Ta [.agg cs.toArray] S (.bool (Wl t)):=by
 intro w a;obtain ⟨kv,rfl,_,_,_,hk⟩:=RdT.iff.1 h;obtain ⟨i,l,rfl,_⟩:=id hk;refine GR.2 ?_;dsimp only[GR,aO];refine bJ a fun g w' a=>?_;refine af a 0 rfl aW aG rfl ?_;by_cases f:t.kind=3
 ·refine gf f ?_;refine rpG ?_;refine af a 0 rfl bl be rfl ?_;refine bQ (b:=st [91,93]) ?_;cases hn:decide (t.name=st [91,93])
  ·refine rpG ?_;exact done a (by rw [Wl,hn,iP,y5])
  ·refine rpG ?_;refine af a 0 rfl ar al rfl ?_;refine iA ah ?_;refine bw ?_;refine rpG ?_;refine done a ?_;rw [Wl,hn,aN f,eH,eH]
   congr 1
   rw [gB];omega
 ·refine fc f ?_;refine rpG ?_;exact done a (by rw [Wl,ba f,iP])
theorem rD {t:T} {cs:List Value} (h:RdT S cs t):Pure Tryz.prog Nt [.agg cs.toArray] S (.bool (qT t)):=by
 intro w a;obtain ⟨kv,rfl,_,_,_,hk⟩:=RdT.iff.1 h;obtain ⟨i,l,rfl,_⟩:=id hk;refine zh.2 ?_;dsimp only[zh,aO];refine bJ a fun g w' a=>?_;refine af a 0 rfl aW aG rfl ?_;by_cases f:t.kind=3
 ·refine gf f ?_;refine rpG ?_;refine af a 0 rfl ar al rfl ?_;refine iA ah ?_;by_cases hn:t.kids.length=2
  ·refine gf (by omega) ?_;refine rpG ?_;refine af a 0 rfl bl be rfl ?_;refine Run.callPure gi gg a (eG _ S) fun w' a=>?_;refine eP ?_;refine rpG ?_;exact done a (by rw [qT,aN f,aN hn,eH,eH])
  ·refine fc (by omega) ?_;refine rpG ?_;exact done a (by rw [qT,ba hn,iP,y5])
 ·refine fc f ?_;refine rpG ?_;exact done a (by rw [qT,ba f,iP])
theorem tB {t:T} {cs:List Value} (h:RdT S cs t):Pure Tryz.prog QY [.agg cs.toArray] S (.bool (CK t)):=by
 intro w a;obtain ⟨kv,rfl,_,_,_,hk⟩:=RdT.iff.1 h;obtain ⟨i,l,rfl,_⟩:=id hk;refine CE.2 ?_;dsimp only[CE,aO];refine bJ a fun g w' a=>?_;refine af a 0 rfl aW aG rfl ?_;by_cases f:t.kind=3
 ·refine gf f ?_;refine rpG ?_;refine af a 0 rfl ar al rfl ?_;refine iA ah ?_;by_cases hn:t.kids.length=0
  ·refine gf (by omega) ?_;refine rpG ?_;refine af a 0 rfl bl be rfl ?_;refine Run.callPure gi gg a (eG _ S) fun w' a=>?_;refine eP ?_;refine rpG ?_;exact done a (by rw [CK,aN f,aN hn,eH,eH])
  ·refine fc (by omega) ?_;refine rpG ?_;exact done a (by rw [CK,ba hn,iP,y5])
 ·refine fc f ?_;refine rpG ?_;exact done a (by rw [CK,ba f,iP])
theorem Fh (n:Bs) (hn:n.length<=1000000):Pure Tryz.prog L6 [.string (st n)] S (.string (st (ju n))):=by
 intro w g;refine wi.2 ?_;dsimp only[wi,aO];refine ⟨fun b w'=>b=.bool (decide (n=[105,115]) || decide (n=[109,111,100]))/\Inv w [] [] S w',?_,?_⟩
 ·refine GP (b:=[105,115]) ?_;cases l:decide (n=[105,115])
  ·refine rpG ?_;refine GP (b:=[109,111,100]) ?_;refine rpG ?_;exact ⟨by rw [iz],g⟩
  ·refine rpG ?_;exact ⟨by rw [zO],g⟩
 intro i _ _ _ _ _ w';rintro ⟨rfl,g⟩;refine aD (fun f=>?_) (fun f=>?_)
 ·rw [jc,bD,bD] at f;refine ed (a:=[32]) (by simp; omega) ?_;refine ed (b:=[32]) (by simp; omega) ?_;exact done g (by rw [ju,ai f]; rfl)
 ·rw [IQ,mK,mK] at f;exact done g (by rw [ju,ag (by rintro (h|h); exact f.1 h; exact f.2 h)])
theorem Ip (s:Bs) (f:0<s.length):Pure Tryz.prog Mv [.string (st s)] S (.bool (Kp s)):=by
 intro w a;refine xJ.2 ?_;dsimp only[xJ,aO];have e1:Kp s=(sml s 0 || (dig s 0 || (upp s 0 || (sgn s 0 91 || sgn s 0 40)))):=rfl;have o:upp s 0=(decide (65<=s[0].toNat) && decide (s[0].toNat<=90)):=qG f 65 90;have q:sgn s 0 91=decide (s[0].toNat=91):=ml f 91;have r:sgn s 0 40=decide (s[0].toNat=40):=ml f 40;refine Run.callPure yA xY a (r6 s 0 S) fun w' a=>?_;cases t:sml s 0
 ·refine rpG ?_;refine Run.callPure l0 lW a (iU s 0 S) fun w' a=>?_;cases hd:dig s 0
  ·refine rpG ?_;refine eW (i:=0) aZ f ?_;rw [t,hd,iz,iz] at e1;by_cases g:65<=s[0].toNat
   ·refine qk (by omega) ?_;refine rpG ?_;refine eW (i:=0) aZ f ?_;by_cases h:s[0].toNat<=90
    ·refine LM (by omega) ?_;refine rpG ?_;exact done a (by rw [e1,o,aN g,aN h]; rfl)
    ·refine TS (by omega) ?_;refine rpG ?_;refine eW (i:=0) aZ f ?_;by_cases l:s[0].toNat=91
     ·refine gf (by omega) ?_;refine rpG ?_;exact done a (by rw [e1,q,aN l,zO,Sj])
     ·refine fc (by omega) ?_;refine rpG ?_;refine eW (i:=0) aZ f ?_;refine fc (by omega) ?_;refine rpG ?_;exact done a (by rw [e1,o,q,r,ba h,ba l,ba (show ¬ s[0].toNat=40 by omega),y5]; rfl)
   ·refine Ap (by omega) ?_;refine rpG ?_;refine eW (i:=0) aZ f ?_;refine fc (by omega) ?_;refine rpG ?_;refine eW (i:=0) aZ f ?_;by_cases m:s[0].toNat=40
    ·refine gf (by omega) ?_;refine rpG ?_;exact done a (by rw [e1,r,aN m,Sj,Sj])
    ·refine fc (by omega) ?_;refine rpG ?_;exact done a (by rw [e1,o,q,r,ba g,ba (show ¬ s[0].toNat=91 by omega),ba m,iP]; rfl)
  ·refine rpG ?_;exact done a (by rw [e1,hd,zO,Sj])
 ·refine rpG ?_;exact done a (by rw [e1,t,zO])
theorem EF {n:Int} (h:0<=n/\n<=25):Pure Tryz.prog LH [.int .i64 n] S (.string (st [UInt8.ofNat (65+n.toNat)])):=by
 intro w a;refine vz.2 ?_;dsimp only[vz,aO];refine sZ iK gV (IntWalk.u8_in _ (by omega)) ?_;refine Yi (c:=((65+n.toNat:Nat):Int)) ?_ ?_
 ·rw [IntWalk.u8_in _ (by omega)]; omega
 refine FR a A8 VL gV aZ fun w' a=>?_;exact done a rfl
theorem Oq:∀ (f n:Nat) (out r:Bs),HP f n out=some r->out.length<r.length/\r.length<=out.length+f
 | 0,_,_,_,h=>by simp [HP] at h
 | f+1,n,out,r,h=>by
  rw [HP] at h;split at h
  ·have:=Oq f _ _ _ h;simp only [bq] at this;omega
  ·simp only [aY] at h;subst h;simp only [bq];omega
theorem yp {f n:Nat} {r:Bs} (h:HP f n []=some r) (hn:n<=100000) (hf:f<=1000):Pure Tryz.prog Pm [.int .i64 (n:Int)] S (.string (st r)):=by
 intro w i;refine Cp.2 ?_;dsimp only[Cp,aO];refine fw (by omega) ?_;refine aD (fun l=>by cases l) (fun _=>?_);refine fw (by omega) ?_;refine aD (fun l=>by cases l) (fun _=>?_);refine ⟨fun a b w'=>∃ (o m:Nat) (out:Bs),a=.int .i64 (m:Int)/\b=.string (st out)/\m<=100000/\out.length+o<=1000/\HP o m out=some r/\Inv w [] [] S w',fun a _ _=>(intOf a).toNat,⟨f,n,[],rfl,rfl,hn,by simpa using hf,h,i⟩,?_⟩;intro B _ _ D _ _ _ _ _ _ _ _ _ _ w';rintro ⟨o,m,out,rfl,rfl,G,q,hd,i⟩;cases o with
 | zero=>simp [HP] at hd
 | succ g=>
 rw [HP] at hd;split at hd
 ·rename_i t
  refine Qw (by omega) ?_;refine aD (fun _=>?_) (fun l=>by cases l);refine Ps (a:=m) (b:=10) rfl rfl (by omega) ?_;refine fq (a:=48) (b:=m % 10) rfl rfl (by omega) ?_;refine sZ iK gV (IntWalk.u8_in _ (by omega)) ?_;refine FR i A8 VL gV aZ fun w' i=>?_;refine ed (by simp; omega) ?_;refine Pk (a:=m) (b:=10) rfl rfl (by omega) (by omega) ?_;refine ⟨⟨g,m / 10,UInt8.ofNat (48+m % 10)::out,rfl,rfl,by omega,by simp only [bq]; omega,hd,i⟩,?_⟩;simp only [intOf,cu];omega
 ·rename_i t
  refine mz (by omega) ?_;refine aD (fun l=>by cases l) (fun _=>?_);refine fq (a:=48) (b:=m) rfl rfl (by omega) ?_;refine sZ iK gV (IntWalk.u8_in _ (by omega)) ?_;refine FR i A8 VL gV aZ fun w' i=>?_;refine ed (by simp; omega) ?_;simp only [aY] at hd;exact done i (by rw [<- hd]; rfl)
theorem Mq {n:Int} {r:Bs} (h:YR n=some r) (hn:-999<=n/\n<=999):Pure Tryz.prog SF [.int .i64 n] S (.string (st r)):=by
 intro w f;refine Gs.2 ?_;dsimp only[Gs,aO];unfold YR at h;split at h
 ·rename_i g
  refine Gg g ?_;refine aD (fun _=>?_) (fun i=>by cases i);refine X1 (by omega) ?_;obtain ⟨m,o⟩:∃ m:Nat,-n=(m:Int):=⟨(-n).toNat,by omega⟩
  rw [o] at h ⊢;rw [cu,P5] at h;obtain ⟨l,hl,rfl⟩:=h;have:=Oq _ _ _ _ hl;refine Run.callPure CW Di f (yp hl (by omega) (by omega)) fun w' f=>?_;refine ed (a:=[45]) (by simp only [bW,bq] at this ⊢; omega) ?_;exact done f rfl
 ·rename_i g
  refine fw g ?_;refine aD (fun i=>by cases i) (fun _=>?_);obtain ⟨m,rfl⟩:∃ m:Nat,n=(m:Int):=⟨n.toNat,by omega⟩
  rw [cu] at h;refine Run.callPure CW Di f (yp h (by omega) (by omega)) fun w' f=>?_;exact done f rfl
theorem KS {t:T} {cs:List Value} {x:Bs} (h:RdT S cs t) (D:Gv t=false) (g:Ut t=some x):Pure Tryz.prog QC [.agg cs.toArray] S (.string (st x)):=by
 intro w f;have J:=h;obtain ⟨kv,rfl,_,_,_,hk⟩:=RdT.iff.1 h;obtain ⟨r,B,rfl,_⟩:=id hk;refine CC.2 ?_;dsimp only[CC,aO];unfold Ut at g;refine bJ f fun q w' f=>?_;refine af f 0 rfl aW aG rfl ?_;split at g
 ·rename_i m
  refine gf m ?_;refine aD (fun _=>?_) (fun i=>by cases i);refine af f 0 rfl bi aG rfl ?_;split at g
  ·rename_i l
   refine Run.callPure H8 Id f (EF l) fun w' f=>?_;simp only [aY] at g;exact done f (by rw [<- g])
  ·cases g
 ·rename_i m
  refine fc m ?_;refine aD (fun i=>by cases i) (fun _=>?_);split at g
  ·rename_i l
   refine gf l ?_;refine aD (fun _=>?_) (fun i=>by cases i);refine af f 0 rfl bi aG rfl ?_;split at g
   ·rename_i o
    refine Run.callPure Qn QU f (Mq g o) fun w' f=>?_;exact done f rfl
   ·cases g
  ·rename_i l
   refine fc l ?_;refine aD (fun i=>by cases i) (fun _=>?_);split at g
   ·rename_i o
    simp only [aY] at g;refine aC f 0 ad rfl rfl ?_;refine Run.callPure ue sO f (mE J) fun w' f=>?_;rw [D];refine aD (fun i=>by cases i) (fun _=>?_);refine af f 0 rfl bl be rfl ?_;refine ⟨fun a b w'=>a=.int .i64 0/\b=.string t.name/\Inv w [] [.blk q (.cells #[.int .i64 t.kind,.int .i64 t.n,.string t.name,.slice r t.kids.length B] ab)] S w',fun _ _ _=>0,⟨rfl,rfl,f⟩,?_⟩;intro M _ _ _ _ _ _ _ _ _ _ _ _ G _ _ _ _ _ _ _ _ _ w';rintro ⟨rfl,rfl,f⟩;refine af f 0 rfl ar al rfl ?_;refine iA ah ?_;refine fw (by omega) ?_;refine aD (fun i=>by cases i) (fun _=>?_);refine ⟨fun b w'=>b=.string t.name/\Inv w [] [.blk q (.cells #[.int .i64 t.kind,.int .i64 t.n,.string t.name,.slice r t.kids.length B] ab)] S w',?_,?_⟩
    ·refine af f 0 rfl ar al rfl ?_;refine iA ah ?_;refine mz (by omega) ?_;refine aD (fun i=>by cases i) (fun _=>?_);exact ⟨rfl,f⟩
    intro G _ _ _ _ _ _ w';rintro ⟨rfl,f⟩;exact done f (by rw [<- g])
   ·cases g
end
theorem ID:∀ (f:Nat) (l:List T) (out x:Bs),rW f l out=some x->out.length<=x.length
 | 0,_,_,_,h=>by simp [rW] at h
 | _+1,[],out,x,h=>by simp [rW] at h; subst h; exact aS _
 | f+1,t::l,out,x,h=>by
  rw [rW] at h;split at h
  ·cases h
  ·have:=ID f _ _ _ h;simp only [bA] at this;omega
def lenOf:Value->Nat
 | .slice _ n _=>n
 | _=>0
def Ct (f:Nat):Prop:=∀ (t:T) (x:Bs) (S:ae) (cs:List Value),KX f t=some x->x.length<=1000000->RdT S cs t->Pure Tryz.prog Pv [.agg cs.toArray] S (.string (st x))
def Qh (f:Nat):Prop:=∀ (t:T) (x:Bs) (S:ae) (cs:List Value),JP f t []=some x->x.length<=1000000->RdT S cs t->Pure Tryz.prog OV [.agg cs.toArray] S (.string (st x))
def K7 (f:Nat):Prop:=∀ (ts:List T) (x:Bs) (S:ae) (u:Value),rW f ts []=some x->x.length<=1000000->RdSl S 4 (RdT S) u ts->Pure Tryz.prog Qm [u] S (.string (st x))
def uY (f:Nat):Prop:=∀ (t:T) (l:Int) (x:Bs) (S:ae) (cs:List Value),uq f t l=some x->x.length<=1000000->RdT S cs t->Pure Tryz.prog HL [.agg cs.toArray,.int .i64 l] S (.string (st x))
def Pb (f:Nat):Prop:=∀ (t:T) (l:Int) (x:Bs) (S:ae) (cs:List Value),RH f t l=some x->x.length<=1000000->RdT S cs t->Pure Tryz.prog Ph [.agg cs.toArray,.int .i64 l] S (.string (st x))
def Ku (f:Nat):Prop:=∀ (t:T) (l:Int) (x:Bs) (S:ae) (cs:List Value),KG f t l=some x->x.length<=1000000->RdT S cs t->Pure Tryz.prog OL [.agg cs.toArray,.int .i64 l] S (.string (st x))
section
attribute [local irreducible] Run CondV aq aK
theorem XA {f:Nat} (J:∀ g,g<f->Ct g):K7 f:=by
 intro ts x S u h Y B w o;refine C5.2 ?_;dsimp only[C5,aO];refine ⟨fun a b w'=>∃ (t j:Nat) (out l:Bs),t<=f/\j<=ts.length/\a=.int .i64 (j:Int)/\b=.string (st out)/\l=out++(if 0<j/\j<ts.length then [44] else [])/\rW t (ts.drop j) l=some x/\Inv w [] [] S w',
  fun a _ _=>ts.length - (intOf a).toNat,⟨f,0,[],[],aS _,bk _,rfl,rfl,by simp,h,o⟩,?_⟩
 intro Z _ _ _ _ _ _ _ _ _ M _ _ _ _ _ _ _ _ w';rintro ⟨t,j,out,l,N,hj,rfl,rfl,i,q,o⟩;cases t with
 | zero=>simp [rW] at q
 | succ g=>
 refine aJ B ah ?_;refine bS ?_;refine aL (fun D=>?_) (fun D=>?_)
 ·have r:j<ts.length:=by omega
  rw [dY r,rW] at q;split at q
  ·cases q
  rename_i y O
  have m:=ID _ _ _ _ q;simp only [bA] at m;refine ⟨fun b w'=>b=.string (st l)/\Inv w [] [] S w',?_,?_⟩
  ·refine eP ?_;refine aL (fun U=>?_) (fun U=>?_)
   ·rw [ai (by omega)] at i;refine ed (b:=[44]) (by rw [i,bA] at m; simp only [bq,bW] at m ⊢; omega) ?_;exact ⟨by rw [i],o⟩
   ·rw [ag (by omega),bV] at i;exact ⟨by rw [i],o⟩
  intro M _ _ _ _ w';rintro ⟨rfl,o⟩;refine co o B ah ad r (fun _ _=>RdT.length) fun cs G=>?_;refine Run.callPure gZ g8 o (J g (by omega) _ y S cs O (by omega) G) fun w' o=>?_;refine ed (by omega) ?_;refine bC (by have:=B.le; simp only [maxLen] at this; omega) ?_;refine ⟨⟨g,j+1,l++y,_,by omega,r,rfl,rfl,rfl,?_,o⟩,by simp only [intOf,cu]; omega⟩;have e:(if ts.drop (j+1)=[] then [] else [44]:Bs)=if 0<j+1/\j+1<ts.length then [44] else []:=by
   by_cases h1:j+1<ts.length
   ·rw [ag (fun V=>by rw [List.drop_eq_nil_iff] at V; omega),ai (by omega)]
   ·rw [ai (vK (by omega)),ag (by omega)]
  rw [<- e];exact q
 ·have:j=ts.length:=by omega
  subst this;rw [eC,rW] at q;simp only [aY] at q;rw [ag (by omega),bV] at i;exact done o (by rw [<- q,i])
theorem OS {f:Nat} (r:∀ g,g<f->Ct g):uY f:=by
 intro t l x S cs h O hc w i;cases f with
 | zero=>simp [uq] at h
 | succ g=>
 rw [uq] at h;split at h
 ·cases h
 rename_i y B
 simp only [aY] at h;have q:=hc;obtain ⟨kv,rfl,_,_,_,hk⟩:=RdT.iff.1 hc;obtain ⟨M,N,rfl,_⟩:=id hk;have o:y.length<=1000000/\y.length+2<=9000000:=by
  have:y.length<=x.length:=by
   rw [<- h]; split
   ·simp; omega
   ·omega
  omega
 refine uo.2 ?_;dsimp only[uo,bm];refine bJ i fun J w' i=>?_;refine ⟨fun b w'=>b=.bool (qT t && decide (l<cS t.name))/\Inv w [] [.blk J (.cells #[.int .i64 t.kind,.int .i64 t.n,.string t.name,.slice M t.kids.length N] ab)] S w',?_,?_⟩
 ·refine aC i 0 ad rfl rfl ?_;refine Run.callPure zF zZ i (rD q) fun w' i=>?_;cases hf:qT t
  ·refine rpG ?_;exact ⟨by rw [iP],i⟩
  ·refine rpG ?_;refine af i 0 rfl bl be rfl ?_;refine Run.callPure gi gg i (eG _ S) fun w' i=>?_;refine eP ?_;refine rpG ?_;exact ⟨by rw [eH],i⟩
 intro G _ _ _ _ _ _ _ _ w';rintro ⟨rfl,i⟩;refine aD (fun m=>?_) (fun m=>?_)
 ·rw [bM,bD] at m;rw [ai m] at h;refine aC i 0 ad rfl rfl ?_;refine Run.callPure gZ g8 i (r g (by omega) t y S _ B o.1 q) fun w' i=>?_;refine ed (a:=[40]) (by simp only [bq,bW]; omega) ?_;refine ed (b:=[41]) (by simp only [bA,bq,bW]; omega) ?_;exact done i (by rw [<- h])
 ·rw [ag (fun D=>by rw [Bool.and_eq_false_iff,mK] at m; rcases m with m|m; rw [D.1] at m; cases m; exact m D.2)] at h;refine aC i 0 ad rfl rfl ?_;refine Run.callPure gZ g8 i (r g (by omega) t y S _ B o.1 q) fun w' i=>?_;exact done i (by rw [<- h])
theorem XC {f:Nat} (B:∀ g,g<f->Ct g) (m:∀ g,g<f->uY g):Pb f:=by
 intro t l x S cs h D hc w i;cases f with
 | zero=>simp [RH] at h
 | succ g=>
 rw [RH] at h;have r:=hc;obtain ⟨kv,rfl,_,_,_,hk⟩:=RdT.iff.1 hc;obtain ⟨N,O,rfl,_⟩:=id hk;refine CQ.2 ?_;dsimp only[CQ,bm];refine bJ i fun M w' i=>?_;refine aC i 0 ad rfl rfl ?_;refine Run.callPure Cv C0 i (tB r) fun w' i=>?_;split at h
 ·rename_i o
  split at h
  ·cases h
  rename_i y G
  simp only [aY] at h;have J:y.length+2=x.length:=by rw [<- h]; simp only [bA,bq,bW]; omega
  rw [o];refine aD (fun _=>?_) (fun q=>by cases q);refine aC i 0 ad rfl rfl ?_;refine Run.callPure gZ g8 i (B g (by omega) t y S _ G (by omega) r) fun w' i=>?_;refine ed (a:=[40]) (by simp only [bq,bW]; omega) ?_;refine ed (b:=[41]) (by simp only [bA,bq,bW]; omega) ?_;exact done i (by rw [<- h])
 ·rename_i o
  rw [bx.2 o];refine aD (fun q=>by cases q) (fun _=>?_);refine aC i 0 ad rfl rfl ?_;refine Run.callPure tw uI i (m g (by omega) t l x S _ h D r) fun w' i=>?_;exact done i rfl
theorem Vs {f:Nat} (o:∀ g,g<f->uY g):Ku f:=by
 intro t l x S cs h V hc w i;cases f with
 | zero=>simp [KG] at h
 | succ g=>
 rw [KG] at h;split at h
 ·cases h
 rename_i y J
 split at h
 ·cases h
 rename_i q
 simp only [aY] at h;have r:0<y.length:=by
  cases y with
  | nil=>exact absurd rfl q
  | cons a l=>simp
 have B:y.length<=1000000:=by
  have:y.length<=x.length:=by
   rw [<- h]; split
   ·simp; omega
   ·omega
  omega
 have G:=hc;obtain ⟨kv,rfl,_,_,_,hk⟩:=RdT.iff.1 hc;obtain ⟨O,U,rfl,_⟩:=id hk;refine zM.2 ?_;dsimp only[zM,bm];refine bJ i fun N w' i=>?_;refine aC i 0 ad rfl rfl ?_;refine Run.callPure tw uI i (o g (by omega) t l y S _ J B G) fun w' i=>?_;refine ⟨fun b w'=>b=.bool (CK t || !Kp y)/\Inv w [] [.blk N (.cells #[.int .i64 t.kind,.int .i64 t.n,.string t.name,.slice O t.kids.length U] ab)] S w',?_,?_⟩
 ·refine aC i 0 ad rfl rfl ?_;refine Run.callPure Cv C0 i (tB G) fun w' i=>?_;cases Y:CK t
  ·refine rpG ?_;refine Run.callPure KN LK i (Ip y r) fun w' i=>?_;refine cw ?_;refine rpG ?_;exact ⟨by rw [iz],i⟩
  ·refine rpG ?_;exact ⟨by rw [zO],i⟩
 intro M _ _ _ _ _ _ w';rintro ⟨rfl,i⟩;refine aD (fun m=>?_) (fun m=>?_)
 ·rw [jc,o6] at m;rw [ai m] at h;refine ed (a:=[40]) (by simp only [bq,bW]; omega) ?_;refine ed (b:=[41]) (by simp only [bA,bq,bW]; omega) ?_;exact done i (by rw [<- h])
 ·rw [ag (fun D=>by rw [<- o6,<- jc,m] at D; cases D)] at h;exact done i (by rw [<- h])
theorem XS {f:Nat} (hf:f<=100000) (ih:∀ g,g<f->Ct g) (V:∀ g,g<f->K7 g):Qh f:=by
 intro t x S cs h hx hc w l;obtain ⟨kv,rfl,_,_,_,hk⟩:=RdT.iff.1 hc;refine B6.2 ?_;dsimp only[B6,aO];refine bJ l fun Z w' l=>?_;refine ei l bn fun v0 w' l=>?_;refine ⟨fun a w'=>∃ (f':Nat) (r:T) (o:List T) (ds:List Value) (css:List (List Value)),f'+o.length=f/\JP f' r o=some x/\RdT S ds r/\Rows 4 (RdT S) css o/\(∃ p m,a=.slice p o.length m)/\Inv w [] [.blk Z (.cells ds.toArray ab),aA a ab 4 css] S w',
  fun a _=>f+1 - lenOf a,⟨f,t,[],_,[],by simp,h,hc,Rows.nil _ _,?_,l⟩,?_⟩
 ·have M:Inv w [] ([Item.blk Z (.cells #[.int .i64 t.kind,.int .i64 t.n,.string t.name,kv] ab)]++[aA v0 ab 4 []]) S w':=l;obtain ⟨S1,_,G,_⟩:=Inv.lendExt M;obtain ⟨p,m,e,_⟩:=RowRd.rows (Rows.nil 4 (RdT S)) G;exact ⟨p,m,e⟩
 clear h hc hk l;intro _ _ _ _ t3 _ _ _ _ _ _ _ _ _ w';rintro ⟨f',r,o,ds,css,a6,hl,hd,hR,⟨p,m,rfl⟩,l⟩;have U:=hd;obtain ⟨kd,rfl,_,_,_,hk⟩:=RdT.iff.1 hd;have a7:=hR.hc;cases f' with
 | zero=>simp [JP] at hl
 | succ g=>
 rw [JP] at hl;refine aC l 0 ad rfl rfl ?_;refine Run.callPure ue sO l (mE U) fun w' l=>?_;split at hl
 ·rename_i hp
  split at hl
  ·rename_i a b a2
   rw [hp];refine aD (fun _=>?_) (fun O=>by cases O);rw [a2] at hk;refine af l 0 rfl ar al rfl ?_;refine co (i:=0) l hk ah ad (by simp) (fun _ _=>RdT.length) fun es B=>?_;rw [lc] at B;refine de (css:=css) l 1 es bn (by omega) (by omega) rfl B.length B.one (by omega) (by omega) fun v' w' l=>?_;refine af l 0 rfl ar al rfl ?_;refine co (i:=1) l hk ah ad (by simp) (fun _ _=>RdT.length) fun gs N=>?_;rw [Uz,lc] at N;have a3:=N.length;refine au l 0 rfl ad (by simpa using a3) rfl (by simpa using N.one) fun w' l=>?_;have a0:=hR.snoc B B.length;have M:Inv w [] ([Item.blk Z (.cells gs.toArray ab)]++[aA v' ab 4 (css++[es])]) S w':=l;obtain ⟨S1,J,G,_⟩:=Inv.lendExt M;obtain ⟨p',m',e',_⟩:=RowRd.rows a0 G;refine ⟨⟨g,b,o++[a],gs,css++[es],by rw [bA]; simp only [bq,bW]; omega,hl,N,a0,⟨p',m',e'⟩,l⟩,?_⟩;rw [e'];simp only [lenOf,bA,bq,bW];omega
  ·cases hl
 ·rename_i hp
  rw [bx.2 hp];refine aD (fun O=>by cases O) (fun _=>?_);split at hl
  ·cases hl
  rename_i y hy
  refine aC l 0 ad rfl rfl ?_;refine Run.callPure Pj O2 l (Hk U) fun w' l=>?_;have M:Inv w [] ([Item.blk Z (.cells #[.int .i64 r.kind,.int .i64 r.n,.string r.name,kd] ab)]++[aA (.slice p o.length m) ab 4 css]) S w':=l;obtain ⟨S1,J,G,l⟩:=Inv.lendExt M;have a1:=RowRd.rows (hR.monoR fun _ _ h=>RdT.mono J.1 h) G;have a4:=RdT.mono J.1 U;split at hl
  ·rename_i hn
   simp only [aY] at hl;have a5:y.length+2=x.length:=by rw [<- hl]; simp only [bA,bq,bW]; omega
   rw [hn];refine aD (fun _=>?_) (fun O=>by cases O);refine Run.callPure tS tI l (V g (by omega) o y S1 _ hy (by omega) a1) fun w' l=>?_;refine ed (a:=[91]) (by simp only [bq,bW]; omega) ?_;refine ed (b:=[93]) (by simp only [bA,bq,bW]; omega) ?_;exact iw l J.1 (by rw [<- hl])
  ·rename_i hn
   split at hl
   ·cases hl
   rename_i z hz
   simp only [aY] at hl;have a5:y.length+z.length+3=x.length:=by rw [<- hl]; simp only [bA,bq,bW]; omega
   rw [bx.2 hn];refine aD (fun O=>by cases O) (fun _=>?_);refine ⟨fun D x2 sA ir ji jv pn kV fN lP w_=>Fx D 0 [lP=.slice p o.length m,fN=.string (st y),kV=.string (st ([91]++y)),pn=.string (st ([91]++y++[124])),jv=.agg #[.int .i64 r.kind,.int .i64 r.n,.string r.name,kd],ji=.string (st z),ir=.string (st ([91]++y++[124]++z)),sA=.string (st ([91]++y++[124]++z++[93])),x2=.string (st ([91]++y++[124]++z++[93]))]/\Inv w [] [.blk Z (.cells #[.int .i64 r.kind,.int .i64 r.n,.string r.name,kd] ab)] S1 w_,⟨Fx.nil _ _,l.draw⟩,⟨?_,?_,?_,?_,?_,?_,?_,?_,?_,trivial⟩,?_⟩;all_goals (intro D bH; intros; rename_i x2 sA ir ji jv pn kV fN lP w_ Y; have q:=Y.1; obtain ⟨⟨cI,cJ,cH,cD,cL,cN,cq,dg,dG,_⟩,l⟩:=Y)
   ·exact ⟨q.set 0 rfl,l⟩
   ·obtain rfl:=cI ‹_›;refine Run.callPure tS tI l (V g (by omega) o y S1 _ hy (by omega) a1) fun w_ l=>?_;exact ⟨q.set 1 rfl,l⟩
   ·obtain rfl:=cJ ‹_›;refine ed (a:=[91]) (by simp only [bq,bW]; omega) ?_;exact ⟨q.set 2 rfl,l⟩
   ·obtain rfl:=cH ‹_›;refine ed (b:=[124]) (by simp only [bA,bq,bW]; omega) ?_;exact ⟨q.set 3 rfl,l⟩
   ·refine aC l 0 ad rfl rfl ?_;exact ⟨q.set 4 rfl,l⟩
   ·obtain rfl:=cL ‹_›;refine Run.callPure gZ g8 l (ih g (by omega) r z S1 _ hz (by omega) a4) fun w_ l=>?_;exact ⟨q.set 5 rfl,l⟩
   ·obtain rfl:=cD ‹_›;obtain rfl:=cN ‹_›;refine ed (by simp only [bA,bq,bW]; omega) ?_;exact ⟨q.set 6 rfl,l⟩
   ·obtain rfl:=cq ‹_›;refine ed (b:=[93]) (by simp only [bA,bq,bW]; omega) ?_;exact ⟨q.set 7 rfl,l⟩
   ·obtain rfl:=dg ‹_›;exact ⟨q.set 8 rfl,l⟩
   obtain ⟨rfl,rfl,rfl,rfl,rfl,rfl,rfl,rfl,rfl,_⟩:=q.all;clear q cI cJ cH cD cL cN cq dg dG;exact iw l J.1 (by rw [<- hl])
theorem Yx {f:Nat} (a3:∀ g,g<f->Qh g) (a4:∀ g,g<f->K7 g) (a5:∀ g,g<f->Pb g) (a6:∀ g,g<f->Ku g):Ct f:=by
 intro t x S cs h hx hc w l;cases f with
 | zero=>simp [KX] at h
 | succ g=>
 rw [KX] at h;have h0:=hc;obtain ⟨kv,rfl,_,_,_,hk⟩:=RdT.iff.1 hc;refine Db.2 ?_;dsimp only[Db,aO];refine bJ l fun N w' l=>?_;obtain ⟨B1,r⟩:∃ B1,B1=Item.blk N (.cells #[.int .i64 t.kind,.int .i64 t.n,.string t.name,kv] ab):=⟨_,rfl⟩
 refine aC l 0 ad rfl rfl ?_;refine Run.callPure ue sO l (mE h0) fun w' l=>?_;split at h
 ·rename_i Z
  rw [Z];refine aD (fun _=>?_) (fun q=>by cases q);refine aC l 0 ad rfl rfl ?_;refine Run.callPure Nz MV l (a3 g (by omega) t x S _ h hx h0) fun w' l=>?_;exact done l rfl
 rename_i Z
 have Z:=bx.2 Z;rw [Z];refine aD (fun q=>by cases q) (fun _=>?_);refine aC l 0 ad rfl rfl ?_;refine Run.callPure zF zZ l (rD h0) fun w' l=>?_;split at h
 ·rename_i hf
  rw [hf];refine aD (fun _=>?_) (fun q=>by cases q);split at h
  ·rename_i a b a7
   obtain ⟨G,a0⟩:∃ G,G=cS t.name:=⟨_,rfl⟩
   rw [<- a0] at h;have b8:1<=G/\G<=3:=by
    have h1:0<cS t.name:=by
     unfold qT at hf;simp only [bM,bD] at hf;exact hf.2.2
    have h2:cS t.name<=3:=by
     unfold cS;split
     ·omega
     ·split
      ·omega
      ·split <;> omega
    omega
   split at h
   ·rename_i y z hy hz
    simp only [aY] at h;have a2:y.length+(ju (bs t.name)).length+z.length=x.length:=by rw [<- h]; simp only [bA]
    have b9:(bs t.name).length<=(ju (bs t.name)).length:=by
     unfold ju;split
     ·simp; omega
     ·omega
    rw [a7] at hk;obtain ⟨b2,U,B,c2,E2,b4,rfl,hS,V⟩:=hk.at_ (i:=0) (by simp);obtain ⟨b5,b6,a8,b7,E2',b0,a9,a1,Y⟩:=hk.at_ (i:=1) (by simp);cases a9;rw [hS] at a1;cases a1;rw [lc] at V;rw [Uz,lc] at Y;refine af l 0 rfl bl be rfl ?_;refine Run.callPure gi gg l (eG _ S) fun w' l=>?_;rw [<- a0];have l:Inv w [] [B1] S w':=by rw [r]; exact l
    refine ⟨fun v w'=>v=.int .i64 (if G=3 then 2 else G)/\Inv w [] [B1] S w',?_,?_⟩
    ·refine bw ?_;refine aL (fun O=>⟨by rw [ai O],l⟩) (fun O=>⟨by rw [ag O],l⟩)
    intro t4 _ _ w';rintro ⟨rfl,l⟩;subst r
    skip
    refine ⟨fun D x2 sy sr Ab AE CS sA ir ji jv pn kV fN lP r4 pR oK jG kZ J=>Fx D 0 [kZ=.pointer (some ⟨N,3,none⟩),jG=.slice (some ⟨b2,U,none⟩) [a,b].length B,oK=.pointer (some ⟨b2,U+0 * 4,none⟩),pR=.agg (aX c2 (U+0 * 4) 4).toArray,r4=.int .i64 (if G=3 then 2 else G),lP=.string (st y),fN=.pointer (some ⟨N,2,none⟩),kV=.string t.name,pn=.string (st (ju (bs t.name))),jv=.string (st (y++ju (bs t.name))),ji=.pointer (some ⟨N,3,none⟩),ir=.slice (some ⟨b2,U,none⟩) [a,b].length B,sA=.pointer (some ⟨b2,U+1 * 4,none⟩),CS=.agg (aX c2 (U+1 * 4) 4).toArray,AE=.int .i64 G,Ab=.int .i64 (G - 1),sr=.string (st z),sy=.string (st (y++ju (bs t.name)++z)),x2=.string (st (y++ju (bs t.name)++z))]/\Inv w [] [.blk N (.cells #[.int .i64 t.kind,.int .i64 t.n,.string t.name,.slice (some ⟨b2,U,none⟩) [a,b].length B] ab)] S J,⟨Fx.nil _ _,l.draw⟩,⟨?_,?_,?_,?_,?_,?_,?_,?_,?_,?_,?_,?_,?_,?_,?_,?_,?_,?_,?_,trivial⟩,?_⟩;all_goals (intro D bH; intros; rename_i x2 sy sr Ab AE CS sA ir ji jv pn kV fN lP r4 pR oK jG kZ J o; have m:=o.1; obtain ⟨⟨cI,cJ,cH,cD,cL,cN,cq,dg,dG,dL,cT,dn,dN,fE,gy,gP,iH,kw,lQ,_⟩,l⟩:=o)
    ·refine aw ar ?_;exact ⟨m.set 0 rfl,l⟩
    ·obtain rfl:=cI ‹_›;refine aT l 0 al rfl rfl ?_;exact ⟨m.set 1 rfl,l⟩
    ·obtain rfl:=cJ ‹_›;refine az (i:=0) ah (by simp) ?_;exact ⟨m.set 2 rfl,l⟩
    ·obtain rfl:=cH ‹_›;refine ci ad V.length (fun j v hj=>by rw [l.cellS hS]; exact aF rfl j v hj) ?_;exact ⟨m.set 3 rfl,l⟩
    ·exact ⟨m.set 4 rfl,l⟩
    ·obtain rfl:=cD ‹_›;obtain rfl:=cL ‹_›;refine Run.callPure N2 Og l (a5 g (by omega) a _ y S _ hy (by omega) V) fun J l=>?_;exact ⟨m.set 5 rfl,l⟩
    ·refine aw bl ?_;exact ⟨m.set 6 rfl,l⟩
    ·obtain rfl:=cq ‹_›;refine aT l 0 be rfl rfl ?_;exact ⟨m.set 7 rfl,l⟩
    ·obtain rfl:=dg ‹_›;refine Run.callPure Is Ib l (Fh (bs t.name) (by omega)) fun J l=>?_;exact ⟨m.set 8 rfl,l⟩
    ·obtain rfl:=cN ‹_›;obtain rfl:=dG ‹_›;refine ed (by omega) ?_;exact ⟨m.set 9 rfl,l⟩
    ·refine aw ar ?_;exact ⟨m.set 10 rfl,l⟩
    ·obtain rfl:=cT ‹_›;refine aT l 0 al rfl rfl ?_;exact ⟨m.set 11 rfl,l⟩
    ·obtain rfl:=dn ‹_›;refine az (i:=1) ah (by simp) ?_;exact ⟨m.set 12 rfl,l⟩
    ·obtain rfl:=dN ‹_›;refine ci ad Y.length (fun j v hj=>by rw [l.cellS hS]; exact aF rfl j v hj) ?_;exact ⟨m.set 13 rfl,l⟩
    ·exact ⟨m.set 14 rfl,l⟩
    ·obtain rfl:=gy ‹_›;refine kT (by omega) ?_;exact ⟨m.set 15 rfl,l⟩
    ·obtain rfl:=fE ‹_›;obtain rfl:=gP ‹_›;refine Run.callPure K1 Kv l (a6 g (by omega) b _ z S _ hz (by omega) Y) fun J l=>?_;exact ⟨m.set 16 rfl,l⟩
    ·obtain rfl:=dL ‹_›;obtain rfl:=iH ‹_›;refine ed (by rw [bA]; omega) ?_;exact ⟨m.set 17 rfl,l⟩
    ·obtain rfl:=kw ‹_›;exact ⟨m.set 18 rfl,l⟩
    obtain ⟨rfl,rfl,rfl,rfl,rfl,rfl,rfl,rfl,rfl,rfl,rfl,rfl,rfl,rfl,rfl,rfl,rfl,rfl,rfl,_⟩:=m.all;clear m cI cJ cH cD cL cN cq dg dG dL cT dn dN fE gy gP iH kw lQ;exact done l (by rw [<- h])
   ·cases h
  ·cases h
 ·rename_i hf
  rw [bx.2 hf];refine aD (fun q=>by cases q) (fun _=>?_);obtain ⟨ka,kc,rfl,_⟩:=id hk;refine ⟨fun v w'=>v=.bool (decide (t.kind=3) && decide (0<t.kids.length))/\Inv w [] [B1] S w',?_,?_⟩
  ·refine af l 0 rfl aW aG rfl ?_;by_cases O:t.kind=3
   ·refine gf O ?_;refine rpG ?_;refine af l 0 rfl ar al rfl ?_;refine iA ah ?_;refine eP ?_;refine rpG ?_;refine ⟨?_,by rw [r]; exact l⟩;rw [aN O,eH]
    congr 1
    rw [gB];omega
   ·refine fc O ?_;refine rpG ?_;exact ⟨by rw [ba O,iP],by rw [r]; exact l⟩
  intro b3 _ _ _ _ _ _ _ _ _ w';rintro ⟨rfl,l⟩;subst r;split at h
  ·rename_i M
   rw [aN M.1,aN M.2];refine aD (fun _=>?_) (fun q=>by cases q);split at h
   ·rename_i y hy
    simp only [aY] at h;have a2:(bs t.name).length+y.length+2=x.length:=by rw [<- h]; simp only [bA,bq,bW]; omega
    skip
    refine ⟨fun D x2 Jd Gr r8 Cu Cw zl yZ sx J=>Fx D 0 [sx=.pointer (some ⟨N,2,none⟩),yZ=.string t.name,zl=.string (st (bs t.name++[40])),Cw=.pointer (some ⟨N,3,none⟩),Cu=.slice ka t.kids.length kc,r8=.string (st y),Gr=.string (st (bs t.name++[40]++y)),Jd=.string (st (bs t.name++[40]++y++[41])),x2=.string (st (bs t.name++[40]++y++[41]))]/\Inv w [] [.blk N (.cells #[.int .i64 t.kind,.int .i64 t.n,.string t.name,.slice ka t.kids.length kc] ab)] S J,⟨Fx.nil _ _,l.draw⟩,⟨?_,?_,?_,?_,?_,?_,?_,?_,?_,trivial⟩,?_⟩;all_goals (intro D bH; intros; rename_i x2 Jd Gr r8 Cu Cw zl yZ sx J o; have m:=o.1; obtain ⟨⟨cI,cJ,cH,cD,cL,cN,cq,dg,dG,_⟩,l⟩:=o)
    ·refine aw bl ?_;exact ⟨m.set 0 rfl,l⟩
    ·obtain rfl:=cI ‹_›;refine aT l 0 be rfl rfl ?_;exact ⟨m.set 1 rfl,l⟩
    ·obtain rfl:=cJ ‹_›;refine ed (a:=bs t.name) (b:=[40]) (by simp only [bq,bW]; omega) ?_;exact ⟨m.set 2 rfl,l⟩
    ·refine aw ar ?_;exact ⟨m.set 3 rfl,l⟩
    ·obtain rfl:=cD ‹_›;refine aT l 0 al rfl rfl ?_;exact ⟨m.set 4 rfl,l⟩
    ·obtain rfl:=cL ‹_›;refine Run.callPure tS tI l (a4 g (by omega) t.kids y S _ hy (by omega) hk) fun J l=>?_;exact ⟨m.set 5 rfl,l⟩
    ·obtain rfl:=cH ‹_›;obtain rfl:=cN ‹_›;refine ed (by simp only [bA,bq,bW]; omega) ?_;exact ⟨m.set 6 rfl,l⟩
    ·obtain rfl:=cq ‹_›;refine ed (b:=[41]) (by simp only [bA,bq,bW]; omega) ?_;exact ⟨m.set 7 rfl,l⟩
    ·obtain rfl:=dg ‹_›;exact ⟨m.set 8 rfl,l⟩
    obtain ⟨rfl,rfl,rfl,rfl,rfl,rfl,rfl,rfl,rfl,_⟩:=m.all;clear m cI cJ cH cD cL cN cq dg dG;exact done l (by rw [<- h])
   ·cases h
  ·rename_i M
   have e:(decide (t.kind=3) && decide (0<t.kids.length))=false:=by
    rw [bx,ne_eq,bM,bD,bD]; exact M
   rw [e];refine aD (fun q=>by cases q) (fun _=>?_);refine aC l 0 ad rfl rfl ?_;refine Run.callPure M4 MX l (KS h0 Z h) fun w' l=>?_;exact done l rfl
theorem RL:∀ F f,f<F->F<=1000->Ct f/\Qh f/\K7 f/\uY f/\Pb f/\Ku f
 | 0,f,h,_=>by omega
 | F+1,f,h,hF=>by
  have i:=fun g (a:g<f)=>RL F g (by omega) (by omega);have l:Ct f:=Yx (fun g a=>(i g a).2.1) (fun g a=>(i g a).2.2.1) (fun g a=>(i g a).2.2.2.2.1) (fun g a=>(i g a).2.2.2.2.2);exact ⟨l,XS (by omega) (fun g a=>(i g a).1) (fun g a=>(i g a).2.2.1),XA fun g a=>(i g a).1,OS fun g a=>(i g a).1,XC (fun g a=>(i g a).1) (fun g a=>(i g a).2.2.2.1),Vs fun g a=>(i g a).2.2.2.1⟩
theorem Jw {f:Nat} (hf:f<=100):Ct f:=(RL (f+1) f (by omega) (by omega)).1
end
end Go.Proofs.YtgllldjiaglkcaaGreatDoor

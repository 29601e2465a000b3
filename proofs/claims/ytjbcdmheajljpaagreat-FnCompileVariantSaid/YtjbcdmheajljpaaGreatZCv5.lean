/- Texts written: spec.l2Text and its kin, l4Text, FormatClause. -/
import Derived.Test.YtjbcdmheajljpaaGreatZCv4
namespace Go.Proofs.YtjbcdmheajljpaaGreat
section
open Go Go.RowKit
theorem GD:Tryz.prog.underlying z9=some (.slice yD):=by kernel_rfl
section
variable {w:World} {S:af}
attribute [local irreducible] Run CondV aw aI
theorem iB {t:T} {cs:List Value} (h:RdT S cs t):Pure Tryz.prog C7 [.agg cs.toArray] S (.bool (vl t)):=by
 intro w a;obtain ⟨kv,rfl,_,_,_,hk⟩:=RdT.iff.1 h;obtain ⟨j,l,rfl,_⟩:=id hk;refine rg.2 ?_;dsimp only[rg,aG];refine bB a fun i w' a=>?_;refine ag a 0 rfl aV az rfl ?_;by_cases g:t.kind=3
 ·refine eB g ?_;refine rpG ?_;refine ag a 0 rfl aW aO rfl ?_;refine bU (b:=st [46]) ?_;cases hn:decide (t.name=st [46])
  ·refine rpG ?_;exact done a (by rw [vl,hn,gx,Ao])
  ·refine rpG ?_;refine ag a 0 rfl av ar rfl ?_;refine gg ao ?_;refine bo ?_;refine rpG ?_;refine done a ?_;rw [vl,hn,bb g,dL,dL]
   congr 1
   rw [gN];omega
 ·refine dz g ?_;refine rpG ?_;exact done a (by rw [vl,bk g,gx])
theorem vS {t:T} {cs:List Value} (h:RdT S cs t):Pure Tryz.prog FD [.agg cs.toArray] S (.bool (GN t)):=by
 intro w a;obtain ⟨kv,rfl,_,_,_,hk⟩:=RdT.iff.1 h;obtain ⟨j,l,rfl,_⟩:=id hk;refine tY.2 ?_;dsimp only[tY,aG];refine bB a fun i w' a=>?_;refine ag a 0 rfl aV az rfl ?_;by_cases g:t.kind=3
 ·refine eB g ?_;refine rpG ?_;refine ag a 0 rfl aW aO rfl ?_;refine bU (b:=st [91,93]) ?_;cases hn:decide (t.name=st [91,93])
  ·refine rpG ?_;exact done a (by rw [GN,hn,gx,Ao])
  ·refine rpG ?_;refine ag a 0 rfl av ar rfl ?_;refine gg ao ?_;refine bo ?_;refine rpG ?_;refine done a ?_;rw [GN,hn,bb g,dL,dL]
   congr 1
   rw [gN];omega
 ·refine dz g ?_;refine rpG ?_;exact done a (by rw [GN,bk g,gx])
theorem kS {t:T} {cs:List Value} (h:RdT S cs t):Pure Tryz.prog Bj [.agg cs.toArray] S (.bool (jY t)):=by
 intro w a;obtain ⟨kv,rfl,_,_,_,hk⟩:=RdT.iff.1 h;obtain ⟨j,l,rfl,_⟩:=id hk;refine pK.2 ?_;dsimp only[pK,aG];refine bB a fun i w' a=>?_;refine ag a 0 rfl aV az rfl ?_;by_cases g:t.kind=3
 ·refine eB g ?_;refine rpG ?_;refine ag a 0 rfl av ar rfl ?_;refine gg ao ?_;by_cases hn:t.kids.length=2
  ·refine eB (by omega) ?_;refine rpG ?_;refine ag a 0 rfl aW aO rfl ?_;refine Run.callPure eq ek a (dn _ S) fun w' a=>?_;refine eD ?_;refine rpG ?_;exact done a (by rw [jY,bb g,bb hn,dL,dL])
  ·refine dz (by omega) ?_;refine rpG ?_;exact done a (by rw [jY,bk hn,gx,Ao])
 ·refine dz g ?_;refine rpG ?_;exact done a (by rw [jY,bk g,gx])
theorem ll {t:T} {cs:List Value} (h:RdT S cs t):Pure Tryz.prog CE [.agg cs.toArray] S (.bool (rZ t)):=by
 intro w a;obtain ⟨kv,rfl,_,_,_,hk⟩:=RdT.iff.1 h;obtain ⟨j,l,rfl,_⟩:=id hk;refine r8.2 ?_;dsimp only[r8,aG];refine bB a fun i w' a=>?_;refine ag a 0 rfl aV az rfl ?_;by_cases g:t.kind=3
 ·refine eB g ?_;refine rpG ?_;refine ag a 0 rfl av ar rfl ?_;refine gg ao ?_;by_cases hn:t.kids.length=0
  ·refine eB (by omega) ?_;refine rpG ?_;refine ag a 0 rfl aW aO rfl ?_;refine Run.callPure eq ek a (dn _ S) fun w' a=>?_;refine eD ?_;refine rpG ?_;exact done a (by rw [rZ,bb g,bb hn,dL,dL])
  ·refine dz (by omega) ?_;refine rpG ?_;exact done a (by rw [rZ,bk hn,gx,Ao])
 ·refine dz g ?_;refine rpG ?_;exact done a (by rw [rZ,bk g,gx])
theorem tT (n:Bs) (hn:n.length<=1000000):Pure Tryz.prog y0 [.string (st n)] S (.string (st (fV n))):=by
 intro w i;refine m7.2 ?_;dsimp only[m7,aG];refine ⟨fun b w'=>b=.bool (decide (n=[105,115]) || decide (n=[109,111,100]))/\Inv w [] [] S w',?_,?_⟩
 ·refine vp (b:=[105,115]) ?_;cases l:decide (n=[105,115])
  ·refine rpG ?_;refine vp (b:=[109,111,100]) ?_;refine rpG ?_;exact ⟨by rw [fo],i⟩
  ·refine rpG ?_;exact ⟨by rw [oU],i⟩
 intro j _ _ _ _ _ w';rintro ⟨rfl,i⟩;refine aE (fun g=>?_) (fun g=>?_)
 ·rw [iV,bQ,bQ] at g;refine cT (a:=[32]) (by simp; omega) ?_;refine cT (b:=[32]) (by simp; omega) ?_;exact done i (by rw [fV,ai g]; rfl)
 ·rw [El,j1,j1] at g;exact done i (by rw [fV,ah (by rintro (h|h); exact g.1 h; exact g.2 h)])
theorem wu (s:Bs) (g:0<s.length):Pure Tryz.prog z7 [.string (st s)] S (.bool (y8 s)):=by
 intro w a;refine ob.2 ?_;dsimp only[ob,aG];have h:y8 s=(sml s 0 || (dig s 0 || (upp s 0 || (sgn s 0 91 || sgn s 0 40)))):=rfl;have p:upp s 0=(decide (65<=s[0].toNat) && decide (s[0].toNat<=90)):=j5 g 65 90;have q:sgn s 0 91=decide (s[0].toNat=91):=ib g 91;have r:sgn s 0 40=decide (s[0].toNat=40):=ib g 40;refine Run.callPure px nS a (kU s 0 S) fun w' a=>?_;cases t:sml s 0
 ·refine rpG ?_;refine Run.callPure gY hG a (fA s 0 S) fun w' a=>?_;cases u:dig s 0
  ·refine rpG ?_;refine dw (i:=0) aD g ?_;rw [t,u,fo,fo] at h;by_cases j:65<=s[0].toNat
   ·refine ku (by omega) ?_;refine rpG ?_;refine dw (i:=0) aD g ?_;by_cases l:s[0].toNat<=90
    ·refine yO (by omega) ?_;refine rpG ?_;exact done a (by rw [h,p,bb j,bb l]; rfl)
    ·refine FY (by omega) ?_;refine rpG ?_;refine dw (i:=0) aD g ?_;by_cases m:s[0].toNat=91
     ·refine eB (by omega) ?_;refine rpG ?_;exact done a (by rw [h,q,bb m,oU,Em])
     ·refine dz (by omega) ?_;refine rpG ?_;refine dw (i:=0) aD g ?_;refine dz (by omega) ?_;refine rpG ?_;exact done a (by rw [h,p,q,r,bk l,bk m,bk (show ¬ s[0].toNat=40 by omega),Ao]; rfl)
   ·refine qR (by omega) ?_;refine rpG ?_;refine dw (i:=0) aD g ?_;refine dz (by omega) ?_;refine rpG ?_;refine dw (i:=0) aD g ?_;by_cases o:s[0].toNat=40
    ·refine eB (by omega) ?_;refine rpG ?_;exact done a (by rw [h,r,bb o,Em,Em])
    ·refine dz (by omega) ?_;refine rpG ?_;exact done a (by rw [h,p,q,r,bk j,bk (show ¬ s[0].toNat=91 by omega),bk o,gx]; rfl)
  ·refine rpG ?_;exact done a (by rw [h,u,oU,Em])
 ·refine rpG ?_;exact done a (by rw [h,t,oU])
theorem ub {n:Int} (h:0<=n/\n<=25):Pure Tryz.prog y6 [.int .i64 n] S (.string (st [UInt8.ofNat (65+n.toNat)])):=by
 intro w a;refine mP.2 ?_;dsimp only[mP,aG];refine lE eY eU (IntWalk.u8_in _ (by omega)) ?_;refine Jj (c:=((65+n.toNat:Nat):Int)) ?_ ?_
 ·rw [IntWalk.u8_in _ (by omega)]; omega
 refine vh a qe GD eU aD fun w' a=>?_;exact done a rfl
theorem BO:∀ (f n:Nat) (out r:Bs),wh f n out=some r->out.length<r.length/\r.length<=out.length+f
 | 0,_,_,_,h=>by simp [wh] at h
 | f+1,n,out,r,h=>by
  rw [wh] at h;split at h
  ·have:=BO f _ _ _ h;simp only [bg] at this;omega
  ·simp only [a9] at h;subst h;simp only [bg];omega
theorem pO {f n:Nat} {r:Bs} (h:wh f n []=some r) (hn:n<=100000) (hf:f<=1000):Pure Tryz.prog DL [.int .i64 (n:Int)] S (.string (st r)):=by
 intro w i;refine rW.2 ?_;dsimp only[rW,aG];refine dO (by omega) ?_;refine aE (fun j=>by cases j) (fun _=>?_);refine dO (by omega) ?_;refine aE (fun j=>by cases j) (fun _=>?_);refine ⟨fun a b w'=>∃ (o m:Nat) (out:Bs),a=.int .i64 (m:Int)/\b=.string (st out)/\m<=100000/\out.length+o<=1000/\wh o m out=some r/\Inv w [] [] S w',fun a _ _=>(intOf a).toNat,⟨f,n,[],rfl,rfl,hn,by simpa using hf,h,i⟩,?_⟩;intro t _ _ u _ _ _ _ _ _ _ _ _ _ w';rintro ⟨o,m,out,rfl,rfl,B,p,l,i⟩;cases o with
 | zero=>simp [wh] at l
 | succ g=>
 rw [wh] at l;split at l
 ·rename_i q
  refine C9 (by omega) ?_;refine aE (fun _=>?_) (fun j=>by cases j);refine DW (a:=m) (b:=10) rfl rfl (by omega) ?_;refine dN (a:=48) (b:=m % 10) rfl rfl (by omega) ?_;refine lE eY eU (IntWalk.u8_in _ (by omega)) ?_;refine vh i qe GD eU aD fun w' i=>?_;refine cT (by simp; omega) ?_;refine Dc (a:=m) (b:=10) rfl rfl (by omega) (by omega) ?_;refine ⟨⟨g,m / 10,UInt8.ofNat (48+m % 10)::out,rfl,rfl,by omega,by simp only [bg]; omega,l,i⟩,?_⟩;simp only [intOf,gS];omega
 ·rename_i q
  refine ja (by omega) ?_;refine aE (fun j=>by cases j) (fun _=>?_);refine dN (a:=48) (b:=m) rfl rfl (by omega) ?_;refine lE eY eU (IntWalk.u8_in _ (by omega)) ?_;refine vh i qe GD eU aD fun w' i=>?_;refine cT (by simp; omega) ?_;simp only [a9] at l;exact done i (by rw [<- l]; rfl)
theorem AU {n:Int} {r:Bs} (h:IX n=some r) (hn:-999<=n/\n<=999):Pure Tryz.prog Fh [.int .i64 n] S (.string (st r)):=by
 intro w g;refine vH.2 ?_;dsimp only[vH,aG];unfold IX at h;split at h
 ·rename_i i
  refine uQ i ?_;refine aE (fun _=>?_) (fun j=>by cases j);refine Iu (by omega) ?_;obtain ⟨m,p⟩:∃ m:Nat,-n=(m:Int):=⟨(-n).toNat,by omega⟩
  rw [p] at h ⊢;rw [gS,C4] at h;obtain ⟨l,o,rfl⟩:=h;have:=BO _ _ _ _ o;refine Run.callPure r5 rH g (pO o (by omega) (by omega)) fun w' g=>?_;refine cT (a:=[45]) (by simp only [cd,bg] at this ⊢; omega) ?_;exact done g rfl
 ·rename_i i
  refine dO i ?_;refine aE (fun j=>by cases j) (fun _=>?_);obtain ⟨m,rfl⟩:∃ m:Nat,n=(m:Int):=⟨n.toNat,by omega⟩
  rw [gS] at h;refine Run.callPure r5 rH g (pO h (by omega) (by omega)) fun w' g=>?_;exact done g rfl
theorem yw {t:T} {cs:List Value} {x:Bs} (h:RdT S cs t) (u:vl t=false) (i:F1 t=some x):Pure Tryz.prog DH [.agg cs.toArray] S (.string (st x)):=by
 intro w g;have C:=h;obtain ⟨kv,rfl,_,_,_,hk⟩:=RdT.iff.1 h;obtain ⟨q,r,rfl,_⟩:=id hk;refine rx.2 ?_;dsimp only[rx,aG];unfold F1 at i;refine bB g fun p w' g=>?_;refine ag g 0 rfl aV az rfl ?_;split at i
 ·rename_i m
  refine eB m ?_;refine aE (fun _=>?_) (fun j=>by cases j);refine ag g 0 rfl aM az rfl ?_;split at i
  ·rename_i l
   refine Run.callPure wq wN g (ub l) fun w' g=>?_;simp only [a9] at i;exact done g (by rw [<- i])
  ·cases i
 ·rename_i m
  refine dz m ?_;refine aE (fun j=>by cases j) (fun _=>?_);split at i
  ·rename_i l
   refine eB l ?_;refine aE (fun _=>?_) (fun j=>by cases j);refine ag g 0 rfl aM az rfl ?_;split at i
   ·rename_i o
    refine Run.callPure CV Cw g (AU i o) fun w' g=>?_;exact done g rfl
   ·cases i
  ·rename_i l
   refine dz l ?_;refine aE (fun j=>by cases j) (fun _=>?_);split at i
   ·rename_i o
    simp only [a9] at i;refine au g 0 ad rfl rfl ?_;refine Run.callPure lW k0 g (iB C) fun w' g=>?_;rw [u];refine aE (fun j=>by cases j) (fun _=>?_);refine ag g 0 rfl aW aO rfl ?_;refine ⟨fun a b w'=>a=.int .i64 0/\b=.string t.name/\Inv w [] [.blk p (.cells #[.int .i64 t.kind,.int .i64 t.n,.string t.name,.slice q t.kids.length r] ac)] S w',fun _ _ _=>0,⟨rfl,rfl,g⟩,?_⟩;intro D _ _ _ _ _ _ _ _ _ _ _ _ B _ _ _ _ _ _ _ _ _ w';rintro ⟨rfl,rfl,g⟩;refine ag g 0 rfl av ar rfl ?_;refine gg ao ?_;refine dO (by omega) ?_;refine aE (fun j=>by cases j) (fun _=>?_);refine ⟨fun b w'=>b=.string t.name/\Inv w [] [.blk p (.cells #[.int .i64 t.kind,.int .i64 t.n,.string t.name,.slice q t.kids.length r] ac)] S w',?_,?_⟩
    ·refine ag g 0 rfl av ar rfl ?_;refine gg ao ?_;refine ja (by omega) ?_;refine aE (fun j=>by cases j) (fun _=>?_);exact ⟨rfl,g⟩
    intro B _ _ _ _ _ _ w';rintro ⟨rfl,g⟩;exact done g (by rw [<- i])
   ·cases i
end
theorem xO:∀ (f:Nat) (l:List T) (out x:Bs),kT f l out=some x->out.length<=x.length
 | 0,_,_,_,h=>by simp [kT] at h
 | _+1,[],out,x,h=>by simp [kT] at h; subst h; exact a7 _
 | f+1,t::l,out,x,h=>by
  rw [kT] at h;split at h
  ·cases h
  ·have:=xO f _ _ _ h;simp only [bv] at this;omega
def lenOf:Value->Nat
 | .slice _ n _=>n
 | _=>0
def r6 (f:Nat):Prop:=∀ (t:T) (x:Bs) (S:af) (cs:List Value),yK f t=some x->x.length<=1000000->RdT S cs t->Pure Tryz.prog DQ [.agg cs.toArray] S (.string (st x))
def Dt (f:Nat):Prop:=∀ (t:T) (x:Bs) (S:af) (cs:List Value),xq f t []=some x->x.length<=1000000->RdT S cs t->Pure Tryz.prog Dg [.agg cs.toArray] S (.string (st x))
def zs (f:Nat):Prop:=∀ (ts:List T) (x:Bs) (S:af) (u:Value),kT f ts []=some x->x.length<=1000000->RdSl S 4 (RdT S) u ts->Pure Tryz.prog DU [u] S (.string (st x))
def mm (f:Nat):Prop:=∀ (t:T) (l:Int) (x:Bs) (S:af) (cs:List Value),li f t l=some x->x.length<=1000000->RdT S cs t->Pure Tryz.prog vU [.agg cs.toArray,.int .i64 l] S (.string (st x))
def CI (f:Nat):Prop:=∀ (t:T) (l:Int) (x:Bs) (S:af) (cs:List Value),D1 f t l=some x->x.length<=1000000->RdT S cs t->Pure Tryz.prog Cv [.agg cs.toArray,.int .i64 l] S (.string (st x))
def zi (f:Nat):Prop:=∀ (t:T) (l:Int) (x:Bs) (S:af) (cs:List Value),za f t l=some x->x.length<=1000000->RdT S cs t->Pure Tryz.prog AW [.agg cs.toArray,.int .i64 l] S (.string (st x))
section
attribute [local irreducible] Run CondV aw aI
theorem HP {f:Nat} (G:∀ g,g<f->r6 g):zs f:=by
 intro p x S u h V B w o;refine sQ.2 ?_;dsimp only[sQ,aG];refine ⟨fun a b w'=>∃ (t j:Nat) (out l:Bs),t<=f/\j<=p.length/\a=.int .i64 (j:Int)/\b=.string (st out)/\l=out++(if 0<j/\j<p.length then [44] else [])/\kT t (p.drop j) l=some x/\Inv w [] [] S w',
  fun a _ _=>p.length - (intOf a).toNat,⟨f,0,[],[],a7 _,aQ _,rfl,rfl,by simp,h,o⟩,?_⟩
 intro Y _ _ _ _ _ _ _ _ _ J _ _ _ _ _ _ _ _ w';rintro ⟨t,j,out,l,M,Z,rfl,rfl,i,q,o⟩;cases t with
 | zero=>simp [kT] at q
 | succ g=>
 refine aL B ao ?_;refine cq ?_;refine aR (fun C=>?_) (fun C=>?_)
 ·have r:j<p.length:=by omega
  rw [dr r,kT] at q;split at q
  ·cases q
  rename_i y N
  have m:=xO _ _ _ _ q;simp only [bv] at m;refine ⟨fun b w'=>b=.string (st l)/\Inv w [] [] S w',?_,?_⟩
  ·refine eD ?_;refine aR (fun O=>?_) (fun O=>?_)
   ·rw [ai (by omega)] at i;refine cT (b:=[44]) (by rw [i,bv] at m; simp only [bg,cd] at m ⊢; omega) ?_;exact ⟨by rw [i],o⟩
   ·rw [ah (by omega),cS] at i;exact ⟨by rw [i],o⟩
  intro J _ _ _ _ w';rintro ⟨rfl,o⟩;refine dx o B ao ad r (fun _ _=>RdT.length) fun cs D=>?_;refine Run.callPure eG eT o (G g (by omega) _ y S cs N (by omega) D) fun w' o=>?_;refine cT (by omega) ?_;refine bz (by have:=B.le; simp only [maxLen] at this; omega) ?_;refine ⟨⟨g,j+1,l++y,_,by omega,r,rfl,rfl,rfl,?_,o⟩,by simp only [intOf,gS]; omega⟩;have e:(if p.drop (j+1)=[] then [] else [44]:Bs)=if 0<j+1/\j+1<p.length then [44] else []:=by
   by_cases h1:j+1<p.length
   ·rw [ah (fun U=>by rw [List.drop_eq_nil_iff] at U; omega),ai (by omega)]
   ·rw [ai (tC (by omega)),ah (by omega)]
  rw [<- e];exact q
 ·have:j=p.length:=by omega
  subst this;rw [dV,kT] at q;simp only [a9] at q;rw [ah (by omega),cS] at i;exact done o (by rw [<- q,i])
theorem Du {f:Nat} (p:∀ g,g<f->r6 g):mm f:=by
 intro t l x S cs h G hc w i;cases f with
 | zero=>simp [li] at h
 | succ g=>
 rw [li] at h;split at h
 ·cases h
 rename_i y q
 simp only [a9] at h;have o:=hc;obtain ⟨kv,rfl,_,_,_,hk⟩:=RdT.iff.1 hc;obtain ⟨C,D,rfl,_⟩:=id hk;have m:y.length<=1000000/\y.length+2<=9000000:=by
  have:y.length<=x.length:=by
   rw [<- h]; split
   ·simp; omega
   ·omega
  omega
 refine l2.2 ?_;dsimp only[l2,a6];refine bB i fun B w' i=>?_;refine ⟨fun b w'=>b=.bool (jY t && decide (l<bX t.name))/\Inv w [] [.blk B (.cells #[.int .i64 t.kind,.int .i64 t.n,.string t.name,.slice C t.kids.length D] ac)] S w',?_,?_⟩
 ·refine au i 0 ad rfl rfl ?_;refine Run.callPure pJ og i (kS o) fun w' i=>?_;cases hf:jY t
  ·refine rpG ?_;exact ⟨by rw [gx],i⟩
  ·refine rpG ?_;refine ag i 0 rfl aW aO rfl ?_;refine Run.callPure eq ek i (dn _ S) fun w' i=>?_;refine eD ?_;refine rpG ?_;exact ⟨by rw [dL],i⟩
 intro u _ _ _ _ _ _ _ _ w';rintro ⟨rfl,i⟩;refine aE (fun j=>?_) (fun j=>?_)
 ·rw [bJ,bQ] at j;rw [ai j] at h;refine au i 0 ad rfl rfl ?_;refine Run.callPure eG eT i (p g (by omega) t y S _ q m.1 o) fun w' i=>?_;refine cT (a:=[40]) (by simp only [bg,cd]; omega) ?_;refine cT (b:=[41]) (by simp only [bv,bg,cd]; omega) ?_;exact done i (by rw [<- h])
 ·rw [ah (fun r=>by rw [Bool.and_eq_false_iff,j1] at j; rcases j with j|j; rw [r.1] at j; cases j; exact j r.2)] at h;refine au i 0 ad rfl rfl ?_;refine Run.callPure eG eT i (p g (by omega) t y S _ q m.1 o) fun w' i=>?_;exact done i (by rw [<- h])
theorem Hp {f:Nat} (q:∀ g,g<f->r6 g) (j:∀ g,g<f->mm g):CI f:=by
 intro t l x S cs h r hc w i;cases f with
 | zero=>simp [D1] at h
 | succ g=>
 rw [D1] at h;have p:=hc;obtain ⟨kv,rfl,_,_,_,hk⟩:=RdT.iff.1 hc;obtain ⟨D,G,rfl,_⟩:=id hk;refine sw.2 ?_;dsimp only[sw,a6];refine bB i fun C w' i=>?_;refine au i 0 ad rfl rfl ?_;refine Run.callPure sH rF i (ll p) fun w' i=>?_;split at h
 ·rename_i m
  split at h
  ·cases h
  rename_i y u
  simp only [a9] at h;have B:y.length+2=x.length:=by rw [<- h]; simp only [bv,bg,cd]; omega
  rw [m];refine aE (fun _=>?_) (fun o=>by cases o);refine au i 0 ad rfl rfl ?_;refine Run.callPure eG eT i (q g (by omega) t y S _ u (by omega) p) fun w' i=>?_;refine cT (a:=[40]) (by simp only [bg,cd]; omega) ?_;refine cT (b:=[41]) (by simp only [bv,bg,cd]; omega) ?_;exact done i (by rw [<- h])
 ·rename_i m
  rw [bS.2 m];refine aE (fun o=>by cases o) (fun _=>?_);refine au i 0 ad rfl rfl ?_;refine Run.callPure lI lF i (j g (by omega) t l x S _ h r p) fun w' i=>?_;exact done i rfl
theorem Gg {f:Nat} (m:∀ g,g<f->mm g):zi f:=by
 intro t l x S cs h M hc w i;cases f with
 | zero=>simp [za] at h
 | succ g=>
 rw [za] at h;split at h
 ·cases h
 rename_i y B
 split at h
 ·cases h
 rename_i o
 simp only [a9] at h;have p:0<y.length:=by
  cases y with
  | nil=>exact absurd rfl o
  | cons a l=>simp
 have q:y.length<=1000000:=by
  have:y.length<=x.length:=by
   rw [<- h]; split
   ·simp; omega
   ·omega
  omega
 have u:=hc;obtain ⟨kv,rfl,_,_,_,hk⟩:=RdT.iff.1 hc;obtain ⟨G,J,rfl,_⟩:=id hk;refine ow.2 ?_;dsimp only[ow,a6];refine bB i fun D w' i=>?_;refine au i 0 ad rfl rfl ?_;refine Run.callPure lI lF i (m g (by omega) t l y S _ B q u) fun w' i=>?_;refine ⟨fun b w'=>b=.bool (rZ t || !y8 y)/\Inv w [] [.blk D (.cells #[.int .i64 t.kind,.int .i64 t.n,.string t.name,.slice G t.kids.length J] ac)] S w',?_,?_⟩
 ·refine au i 0 ad rfl rfl ?_;refine Run.callPure sH rF i (ll u) fun w' i=>?_;cases N:rZ t
  ·refine rpG ?_;refine Run.callPure zy zm i (wu y p) fun w' i=>?_;refine dD ?_;refine rpG ?_;exact ⟨by rw [fo],i⟩
  ·refine rpG ?_;exact ⟨by rw [oU],i⟩
 intro C _ _ _ _ _ _ w';rintro ⟨rfl,i⟩;refine aE (fun j=>?_) (fun j=>?_)
 ·rw [iV,sy] at j;rw [ai j] at h;refine cT (a:=[40]) (by simp only [bg,cd]; omega) ?_;refine cT (b:=[41]) (by simp only [bv,bg,cd]; omega) ?_;exact done i (by rw [<- h])
 ·rw [ah (fun r=>by rw [<- sy,<- iV,j] at r; cases r)] at h;exact done i (by rw [<- h])
theorem H2 {f:Nat} (hf:f<=100000) (ih:∀ g,g<f->r6 g) (O:∀ g,g<f->zs g):Dt f:=by
 intro t x S cs h hx hc w j;obtain ⟨kv,rfl,_,_,_,hk⟩:=RdT.iff.1 hc;refine su.2 ?_;dsimp only[su,aG];refine bB j fun V w' j=>?_;refine ey j bw fun v0 w' j=>?_;refine ⟨fun a w'=>∃ (f':Nat) (r:T) (l:List T) (ds:List Value) (css:List (List Value)),f'+l.length=f/\xq f' r l=some x/\RdT S ds r/\Rows 4 (RdT S) css l/\(∃ p m,a=.slice p l.length m)/\Inv w [] [.blk V (.cells ds.toArray ac),ax a ac 4 css] S w',
  fun a _=>f+1 - lenOf a,⟨f,t,[],_,[],by simp,h,hc,Rows.nil _ _,?_,j⟩,?_⟩
 ·have G:Inv w [] ([Item.blk V (.cells #[.int .i64 t.kind,.int .i64 t.n,.string t.name,kv] ac)]++[ax v0 ac 4 []]) S w':=j;obtain ⟨S1,_,B,_⟩:=Inv.lendExt G;obtain ⟨p,m,e,_⟩:=RowRd.rows (Rows.nil 4 (RdT S)) B;exact ⟨p,m,e⟩
 clear h hc hk j;intro _ _ _ _ t3 _ _ _ _ _ _ _ _ _ w';rintro ⟨f',r,l,ds,css,a4,q,hd,hR,⟨p,m,rfl⟩,j⟩;have N:=hd;obtain ⟨kd,rfl,_,_,_,hk⟩:=RdT.iff.1 hd;have a5:=hR.hc;cases f' with
 | zero=>simp [xq] at q
 | succ g=>
 rw [xq] at q;refine au j 0 ad rfl rfl ?_;refine Run.callPure lW k0 j (iB N) fun w' j=>?_;split at q
 ·rename_i hp
  split at q
  ·rename_i a b a0
   rw [hp];refine aE (fun _=>?_) (fun M=>by cases M);rw [a0] at hk;refine ag j 0 rfl av ar rfl ?_;refine dx (i:=0) j hk ao ad (by simp) (fun _ _=>RdT.length) fun es u=>?_;rw [pb] at u;refine fj (css:=css) j 1 es bw (by omega) (by omega) rfl u.length u.one (by omega) (by omega) fun v' w' j=>?_;refine ag j 0 rfl av ar rfl ?_;refine dx (i:=1) j hk ao ad (by simp) (fun _ _=>RdT.length) fun gs J=>?_;rw [List.getElem_cons_succ,pb] at J;have a1:=J.length;refine al j 0 rfl ad (by simpa using a1) rfl (by simpa using J.one) fun w' j=>?_;have Y:=hR.snoc u u.length;have G:Inv w [] ([Item.blk V (.cells gs.toArray ac)]++[ax v' ac 4 (css++[es])]) S w':=j;obtain ⟨S1,C,B,_⟩:=Inv.lendExt G;obtain ⟨p',m',e',_⟩:=RowRd.rows Y B;refine ⟨⟨g,b,l++[a],gs,css++[es],by rw [bv]; simp only [bg,cd]; omega,q,J,Y,⟨p',m',e'⟩,j⟩,?_⟩;rw [e'];simp only [lenOf,bv,bg,cd];omega
  ·cases q
 ·rename_i hp
  rw [bS.2 hp];refine aE (fun M=>by cases M) (fun _=>?_);split at q
  ·cases q
  rename_i y hy
  refine au j 0 ad rfl rfl ?_;refine Run.callPure Dv Dk j (vS N) fun w' j=>?_;have G:Inv w [] ([Item.blk V (.cells #[.int .i64 r.kind,.int .i64 r.n,.string r.name,kd] ac)]++[ax (.slice p l.length m) ac 4 css]) S w':=j;obtain ⟨S1,C,B,j⟩:=Inv.lendExt G;have Z:=RowRd.rows (hR.monoR fun _ _ h=>RdT.mono C.1 h) B;have a2:=RdT.mono C.1 N;split at q
  ·rename_i hn
   simp only [a9] at q;have a3:y.length+2=x.length:=by rw [<- q]; simp only [bv,bg,cd]; omega
   rw [hn];refine aE (fun _=>?_) (fun M=>by cases M);refine Run.callPure lY lL j (O g (by omega) l y S1 _ hy (by omega) Z) fun w' j=>?_;refine cT (a:=[91]) (by simp only [bg,cd]; omega) ?_;refine cT (b:=[93]) (by simp only [bv,bg,cd]; omega) ?_;exact rt j C.1 (by rw [<- q])
  ·rename_i hn
   split at q
   ·cases q
   rename_i z hz
   simp only [a9] at q;have a3:y.length+z.length+3=x.length:=by rw [<- q]; simp only [bv,bg,cd]; omega
   rw [bS.2 hn];refine aE (fun M=>by cases M) (fun _=>?_);refine ⟨fun D x2 sK kZ sJ iI tl sg gu rV w_=>Fx D 0 [rV=.slice p l.length m,gu=.string (st y),sg=.string (st ([91]++y)),tl=.string (st ([91]++y++[124])),iI=.agg #[.int .i64 r.kind,.int .i64 r.n,.string r.name,kd],sJ=.string (st z),kZ=.string (st ([91]++y++[124]++z)),sK=.string (st ([91]++y++[124]++z++[93])),x2=.string (st ([91]++y++[124]++z++[93]))]/\Inv w [] [.blk V (.cells #[.int .i64 r.kind,.int .i64 r.n,.string r.name,kd] ac)] S1 w_,⟨Fx.nil _ _,j.draw⟩,⟨?_,?_,?_,?_,?_,?_,?_,?_,?_,trivial⟩,?_⟩;all_goals (intro D bm; intros; rename_i x2 sK kZ sJ iI tl sg gu rV w_ U; have o:=U.1; obtain ⟨⟨c9,cX,cZ,c4,cY,c8,cB,df,dK,_⟩,j⟩:=U)
   ·exact ⟨o.set 0 rfl,j⟩
   ·obtain rfl:=c9 ‹_›;refine Run.callPure lY lL j (O g (by omega) l y S1 _ hy (by omega) Z) fun w_ j=>?_;exact ⟨o.set 1 rfl,j⟩
   ·obtain rfl:=cX ‹_›;refine cT (a:=[91]) (by simp only [bg,cd]; omega) ?_;exact ⟨o.set 2 rfl,j⟩
   ·obtain rfl:=cZ ‹_›;refine cT (b:=[124]) (by simp only [bv,bg,cd]; omega) ?_;exact ⟨o.set 3 rfl,j⟩
   ·refine au j 0 ad rfl rfl ?_;exact ⟨o.set 4 rfl,j⟩
   ·obtain rfl:=cY ‹_›;refine Run.callPure eG eT j (ih g (by omega) r z S1 _ hz (by omega) a2) fun w_ j=>?_;exact ⟨o.set 5 rfl,j⟩
   ·obtain rfl:=c4 ‹_›;obtain rfl:=c8 ‹_›;refine cT (by simp only [bv,bg,cd]; omega) ?_;exact ⟨o.set 6 rfl,j⟩
   ·obtain rfl:=cB ‹_›;refine cT (b:=[93]) (by simp only [bv,bg,cd]; omega) ?_;exact ⟨o.set 7 rfl,j⟩
   ·obtain rfl:=df ‹_›;exact ⟨o.set 8 rfl,j⟩
   obtain ⟨rfl,rfl,rfl,rfl,rfl,rfl,rfl,rfl,rfl,_⟩:=o.all;clear o c9 cX cZ c4 cY c8 cB df dK;exact rt j C.1 (by rw [<- q])
theorem Jq {f:Nat} (a2:∀ g,g<f->Dt g) (a3:∀ g,g<f->zs g) (a4:∀ g,g<f->CI g) (a5:∀ g,g<f->zi g):r6 f:=by
 intro t x S cs h hx hc w l;cases f with
 | zero=>simp [yK] at h
 | succ g=>
 rw [yK] at h;have h0:=hc;obtain ⟨kv,rfl,_,_,_,hk⟩:=RdT.iff.1 hc;refine rQ.2 ?_;dsimp only[rQ,aG];refine bB l fun G w' l=>?_;obtain ⟨B1,q⟩:∃ B1,B1=Item.blk G (.cells #[.int .i64 t.kind,.int .i64 t.n,.string t.name,kv] ac):=⟨_,rfl⟩
 refine au l 0 ad rfl rfl ?_;refine Run.callPure lW k0 l (iB h0) fun w' l=>?_;split at h
 ·rename_i U
  rw [U];refine aE (fun _=>?_) (fun p=>by cases p);refine au l 0 ad rfl rfl ?_;refine Run.callPure Bz Ai l (a2 g (by omega) t x S _ h hx h0) fun w' l=>?_;exact done l rfl
 rename_i U
 have U:=bS.2 U;rw [U];refine aE (fun p=>by cases p) (fun _=>?_);refine au l 0 ad rfl rfl ?_;refine Run.callPure pJ og l (kS h0) fun w' l=>?_;split at h
 ·rename_i hf
  rw [hf];refine aE (fun _=>?_) (fun p=>by cases p);split at h
  ·rename_i a b a6
   obtain ⟨u,Y⟩:∃ u,u=bX t.name:=⟨_,rfl⟩
   rw [<- Y] at h;have b8:1<=u/\u<=3:=by
    have h1:0<bX t.name:=by
     unfold jY at hf;simp only [bJ,bQ] at hf;exact hf.2.2
    have h2:bX t.name<=3:=by
     unfold bX;split
     ·omega
     ·split
      ·omega
      ·split <;> omega
    omega
   split at h
   ·rename_i y z hy hz
    simp only [a9] at h;have a1:y.length+(fV (bs t.name)).length+z.length=x.length:=by rw [<- h]; simp only [bv]
    have b9:(bs t.name).length<=(fV (bs t.name)).length:=by
     unfold fV;split
     ·simp; omega
     ·omega
    rw [a6] at hk;obtain ⟨Z,M,r,c2,E2,b4,rfl,hS,N⟩:=hk.at_ (i:=0) (by simp);obtain ⟨b5,b6,a7,b7,E2',b0,a8,a0,O⟩:=hk.at_ (i:=1) (by simp);cases a8;rw [hS] at a0;cases a0;rw [pb] at N;rw [List.getElem_cons_succ,pb] at O;refine ag l 0 rfl aW aO rfl ?_;refine Run.callPure eq ek l (dn _ S) fun w' l=>?_;rw [<- Y];have l:Inv w [] [B1] S w':=by rw [q]; exact l
    refine ⟨fun v w'=>v=.int .i64 (if u=3 then 2 else u)/\Inv w [] [B1] S w',?_,?_⟩
    ·refine bo ?_;refine aR (fun J=>⟨by rw [ai J],l⟩) (fun J=>⟨by rw [ah J],l⟩)
    intro t4 _ _ w';rintro ⟨rfl,l⟩;subst q
    skip
    refine ⟨fun D V iJ nM ri uy uu sK kZ sJ iI tl sg gu rV uC vg qB mc sG B=>Fx D 0 [sG=.pointer (some ⟨G,3,none⟩),mc=.slice (some ⟨Z,M,none⟩) [a,b].length r,qB=.pointer (some ⟨Z,M+0 * 4,none⟩),vg=.agg (bd c2 (M+0 * 4) 4).toArray,uC=.int .i64 (if u=3 then 2 else u),rV=.string (st y),gu=.pointer (some ⟨G,2,none⟩),sg=.string t.name,tl=.string (st (fV (bs t.name))),iI=.string (st (y++fV (bs t.name))),sJ=.pointer (some ⟨G,3,none⟩),kZ=.slice (some ⟨Z,M,none⟩) [a,b].length r,sK=.pointer (some ⟨Z,M+1 * 4,none⟩),uu=.agg (bd c2 (M+1 * 4) 4).toArray,uy=.int .i64 u,ri=.int .i64 (u - 1),nM=.string (st z),iJ=.string (st (y++fV (bs t.name)++z)),V=.string (st (y++fV (bs t.name)++z))]/\Inv w [] [.blk G (.cells #[.int .i64 t.kind,.int .i64 t.n,.string t.name,.slice (some ⟨Z,M,none⟩) [a,b].length r] ac)] S B,⟨Fx.nil _ _,l.draw⟩,⟨?_,?_,?_,?_,?_,?_,?_,?_,?_,?_,?_,?_,?_,?_,?_,?_,?_,?_,?_,trivial⟩,?_⟩;all_goals (intro D bm; intros; rename_i V iJ nM ri uy uu sK kZ sJ iI tl sg gu rV uC vg qB mc sG B o; have m:=o.1; obtain ⟨⟨c9,cX,cZ,c4,cY,c8,cB,df,dK,eF,cW,dR,gZ,kX,nE,o6,oI,pL,qk,_⟩,l⟩:=o)
    ·refine ay av ?_;exact ⟨m.set 0 rfl,l⟩
    ·obtain rfl:=c9 ‹_›;refine aJ l 0 ar rfl rfl ?_;exact ⟨m.set 1 rfl,l⟩
    ·obtain rfl:=cX ‹_›;refine aN (i:=0) ao (by simp) ?_;exact ⟨m.set 2 rfl,l⟩
    ·obtain rfl:=cZ ‹_›;refine dC ad N.length (fun j v hj=>by rw [l.cellS hS]; exact aX rfl j v hj) ?_;exact ⟨m.set 3 rfl,l⟩
    ·exact ⟨m.set 4 rfl,l⟩
    ·obtain rfl:=c4 ‹_›;obtain rfl:=cY ‹_›;refine Run.callPure BS BF l (a4 g (by omega) a _ y S _ hy (by omega) N) fun B l=>?_;exact ⟨m.set 5 rfl,l⟩
    ·refine ay aW ?_;exact ⟨m.set 6 rfl,l⟩
    ·obtain rfl:=cB ‹_›;refine aJ l 0 aO rfl rfl ?_;exact ⟨m.set 7 rfl,l⟩
    ·obtain rfl:=df ‹_›;refine Run.callPure wt wH l (tT (bs t.name) (by omega)) fun B l=>?_;exact ⟨m.set 8 rfl,l⟩
    ·obtain rfl:=c8 ‹_›;obtain rfl:=dK ‹_›;refine cT (by omega) ?_;exact ⟨m.set 9 rfl,l⟩
    ·refine ay av ?_;exact ⟨m.set 10 rfl,l⟩
    ·obtain rfl:=cW ‹_›;refine aJ l 0 ar rfl rfl ?_;exact ⟨m.set 11 rfl,l⟩
    ·obtain rfl:=dR ‹_›;refine aN (i:=1) ao (by simp) ?_;exact ⟨m.set 12 rfl,l⟩
    ·obtain rfl:=gZ ‹_›;refine dC ad O.length (fun j v hj=>by rw [l.cellS hS]; exact aX rfl j v hj) ?_;exact ⟨m.set 13 rfl,l⟩
    ·exact ⟨m.set 14 rfl,l⟩
    ·obtain rfl:=nE ‹_›;refine ld (by omega) ?_;exact ⟨m.set 15 rfl,l⟩
    ·obtain rfl:=kX ‹_›;obtain rfl:=o6 ‹_›;refine Run.callPure zl zA l (a5 g (by omega) b _ z S _ hz (by omega) O) fun B l=>?_;exact ⟨m.set 16 rfl,l⟩
    ·obtain rfl:=eF ‹_›;obtain rfl:=oI ‹_›;refine cT (by rw [bv]; omega) ?_;exact ⟨m.set 17 rfl,l⟩
    ·obtain rfl:=pL ‹_›;exact ⟨m.set 18 rfl,l⟩
    obtain ⟨rfl,rfl,rfl,rfl,rfl,rfl,rfl,rfl,rfl,rfl,rfl,rfl,rfl,rfl,rfl,rfl,rfl,rfl,rfl,_⟩:=m.all;clear m c9 cX cZ c4 cY c8 cB df dK eF cW dR gZ kX nE o6 oI pL qk;exact done l (by rw [<- h])
   ·cases h
  ·cases h
 ·rename_i hf
  rw [bS.2 hf];refine aE (fun p=>by cases p) (fun _=>?_);obtain ⟨ka,kc,rfl,_⟩:=id hk;refine ⟨fun v w'=>v=.bool (decide (t.kind=3) && decide (0<t.kids.length))/\Inv w [] [B1] S w',?_,?_⟩
  ·refine ag l 0 rfl aV az rfl ?_;by_cases J:t.kind=3
   ·refine eB J ?_;refine rpG ?_;refine ag l 0 rfl av ar rfl ?_;refine gg ao ?_;refine eD ?_;refine rpG ?_;refine ⟨?_,by rw [q]; exact l⟩;rw [bb J,dL]
    congr 1
    rw [gN];omega
   ·refine dz J ?_;refine rpG ?_;exact ⟨by rw [bk J,gx],by rw [q]; exact l⟩
  intro b3 _ _ _ _ _ _ _ _ _ w';rintro ⟨rfl,l⟩;subst q;split at h
  ·rename_i C
   rw [bb C.1,bb C.2];refine aE (fun _=>?_) (fun p=>by cases p);split at h
   ·rename_i y hy
    simp only [a9] at h;have a1:(bs t.name).length+y.length+2=x.length:=by rw [<- h]; simp only [bv,bg,cd]; omega
    skip
    refine ⟨fun D V xT BQ xk Ce Ah Az Cc wV B=>Fx D 0 [wV=.pointer (some ⟨G,2,none⟩),Cc=.string t.name,Az=.string (st (bs t.name++[40])),Ah=.pointer (some ⟨G,3,none⟩),Ce=.slice ka t.kids.length kc,xk=.string (st y),BQ=.string (st (bs t.name++[40]++y)),xT=.string (st (bs t.name++[40]++y++[41])),V=.string (st (bs t.name++[40]++y++[41]))]/\Inv w [] [.blk G (.cells #[.int .i64 t.kind,.int .i64 t.n,.string t.name,.slice ka t.kids.length kc] ac)] S B,⟨Fx.nil _ _,l.draw⟩,⟨?_,?_,?_,?_,?_,?_,?_,?_,?_,trivial⟩,?_⟩;all_goals (intro D bm; intros; rename_i V xT BQ xk Ce Ah Az Cc wV B o; have m:=o.1; obtain ⟨⟨c9,cX,cZ,c4,cY,c8,cB,df,dK,_⟩,l⟩:=o)
    ·refine ay aW ?_;exact ⟨m.set 0 rfl,l⟩
    ·obtain rfl:=c9 ‹_›;refine aJ l 0 aO rfl rfl ?_;exact ⟨m.set 1 rfl,l⟩
    ·obtain rfl:=cX ‹_›;refine cT (a:=bs t.name) (b:=[40]) (by simp only [bg,cd]; omega) ?_;exact ⟨m.set 2 rfl,l⟩
    ·refine ay av ?_;exact ⟨m.set 3 rfl,l⟩
    ·obtain rfl:=c4 ‹_›;refine aJ l 0 ar rfl rfl ?_;exact ⟨m.set 4 rfl,l⟩
    ·obtain rfl:=cY ‹_›;refine Run.callPure lY lL l (a3 g (by omega) t.kids y S _ hy (by omega) hk) fun B l=>?_;exact ⟨m.set 5 rfl,l⟩
    ·obtain rfl:=cZ ‹_›;obtain rfl:=c8 ‹_›;refine cT (by simp only [bv,bg,cd]; omega) ?_;exact ⟨m.set 6 rfl,l⟩
    ·obtain rfl:=cB ‹_›;refine cT (b:=[41]) (by simp only [bv,bg,cd]; omega) ?_;exact ⟨m.set 7 rfl,l⟩
    ·obtain rfl:=df ‹_›;exact ⟨m.set 8 rfl,l⟩
    obtain ⟨rfl,rfl,rfl,rfl,rfl,rfl,rfl,rfl,rfl,_⟩:=m.all;clear m c9 cX cZ c4 cY c8 cB df dK;exact done l (by rw [<- h])
   ·cases h
  ·rename_i C
   have e:(decide (t.kind=3) && decide (0<t.kids.length))=false:=by
    rw [bS,ne_eq,bJ,bQ,bQ]; exact C
   rw [e];refine aE (fun p=>by cases p) (fun _=>?_);refine au l 0 ad rfl rfl ?_;refine Run.callPure A8 BM l (yw h0 U h) fun w' l=>?_;exact done l rfl
theorem ER:∀ F f,f<F->F<=1000->r6 f/\Dt f/\zs f/\mm f/\CI f/\zi f
 | 0,f,h,_=>by omega
 | F+1,f,h,hF=>by
  have i:=fun g (a:g<f)=>ER F g (by omega) (by omega);have j:r6 f:=Jq (fun g a=>(i g a).2.1) (fun g a=>(i g a).2.2.1) (fun g a=>(i g a).2.2.2.2.1) (fun g a=>(i g a).2.2.2.2.2);exact ⟨j,H2 (by omega) (fun g a=>(i g a).1) (fun g a=>(i g a).2.2.1),HP fun g a=>(i g a).1,Du fun g a=>(i g a).1,Hp (fun g a=>(i g a).1) (fun g a=>(i g a).2.2.2.1),Gg fun g a=>(i g a).2.2.2.1⟩
theorem xV {f:Nat} (hf:f<=100):r6 f:=(ER (f+1) f (by omega) (by omega)).1
end
end
section
open Go Go.RowKit
theorem Grown.rows {α:Type} {k:Nat} {R:aU->List Value->α->Prop} {R':List Value->α->Prop} {Ls:List aU} {css:List (List Value)} {ys:List α} {S:af} (h:Grown k R Ls css ys) (g:Ins S Ls.flatten)
  (hR:∀ L cs x,Ins S L->R L cs x->R' cs x):Rows k R' css ys:=
 ⟨h.hc,h.hk,fun i a j=>hR _ _ _ (zH g (by rw [h.hL]; exact a)) (h.hR i a (by rw [h.hL]; exact a) j)⟩
abbrev F2 (t:T):Value->List Item->af->Prop:=fun v I' S'=>∃ kv css,v=.agg #[.int .i64 t.kind,.int .i64 t.n,.string t.name,kv]/\I'=[ax kv ac 4 css]/\Rows 4 (RdT S') css t.kids
abbrev GA (c:C):Value->List Item->af->Prop:=fun v I' S'=>∃ hd kv css,v=.agg (hd++[kv]).toArray/\RdT S' hd c.head/\I'=[ax kv ac 4 css]/\Rows 4 (RdT S') css c.body
section
attribute [local irreducible] Run CondV aw aI
theorem FI:∀ (t:T) (S:af) (cs:List Value),RdT S cs t->wT t<=1048576->Tri Tryz.prog nn [.agg cs.toArray] [] S (F2 t):=by
 intro t S cs h hw;obtain ⟨k,n,s,C⟩:=t;have ih:∀ t∈C,∀ (S:af) (cs:List Value),RdT S cs t->wT t<=1048576->Tri Tryz.prog nn [.agg cs.toArray] [] S (uF S t):=fun t _=>fS t;intro w g;obtain ⟨kv,rfl,h1,h2,hs,a0⟩:=RdT.iff.1 h;simp only [T.name,T.kids,T.kind,T.n] at h1 h2 hs a0 ⊢;simp only [wT] at hw;refine i0.2 ?_;dsimp only[i0,aG];refine bB g fun b1 w' g=>?_;refine aF g aZ fun b2 w' g=>?_;refine ag g 0 rfl aV az rfl ?_;refine ag g 0 rfl aM az rfl ?_;refine ag g 0 rfl aW aO rfl ?_;refine lm ?_;refine aF g aZ fun b3 w' g=>?_;refine al g 2 rfl ad rfl rfl (by simp [Value.oneCell']) fun w' g=>?_;have g:=g.rowNil ac 4;refine ⟨fun i w'=>∃ (j:Nat) (p:Value) (Ls:List aU) (css:List (List Value)),j<=C.length/\i=.int .i64 j/\Grown 4 TrT Ls css (C.take j)/\
   Inv w [] (.blk b1 (.cells #[.int .i64 k,.int .i64 n,.string s,kv] ac)::.blk b2 (.cells #[.int .i64 0,.int .i64 0,.string ⟨#[]⟩,.slice none 0 0] ac)::.blk b3 (.cells #[.int .i64 k,.int .i64 n,.string s,p] ac)::ax p ac 4 css::aS Ls.flatten) S w',
  fun i _=>C.length - (intOf i).toNat,⟨0,_,[],[],aQ _,rfl,Grown.nil _ _,g⟩,?_⟩
 intro t4 _ _ _ _ _ _ _ _ _ _ _ _ _ _ _ _ _ _ w';rintro ⟨j,p,Ls,css,hj,rfl,hg,g⟩;refine ag g 0 rfl av ar rfl ?_;refine aL a0 ao ?_;refine cq ?_;refine aR (fun a9=>?_) (fun a9=>?_)
 ·have Y:j<C.length:=by omega
  have b5:(C.take j).length=j:=by simp; omega
  have b6:=hg.hc;have hm:=cr Y;have b7:=ji hm;obtain ⟨b,o,cap,c,E,fz,rfl,hS,hR⟩:=a0.at_ Y;refine ⟨fun D sJ U tl sg gu rV uC vg qB mc sG w_=>Fx D 0 [sG=.pointer (some ⟨b3,3,none⟩),mc=p,qB=.pointer (some ⟨b1,3,none⟩),vg=.slice (some ⟨b,o,none⟩) (C).length cap,uC=.int .i64 j,rV=.pointer (some ⟨b,o+j * 4,none⟩),gu=.agg (bd c (o+j * 4) 4).toArray,True,True,True,sJ=.pointer (some ⟨b3,3,none⟩),True]/\∃ M a r,(D 7=true->sg=.agg a.toArray/\TrT M a (C)[j])/\(D 8=true->tl=.slice (some ⟨r,0,none⟩) 1 1)/\(D 8=true->D 7=true)/\(D 9=true->D 8=true)/\(D 11=true->D 9=true)/\(D 11=true->D 1=true)/\Inv w [] (aH (.blk b1 (.cells #[.int .i64 k,.int .i64 n,.string s,.slice (some ⟨b,o,none⟩) C.length cap] ac)) (.blk b2 (.cells #[.int .i64 0,.int .i64 0,.string ⟨#[]⟩,.slice none 0 0] ac)) (.blk b3 (.cells #[.int .i64 k,.int .i64 n,.string s,p] ac)) (.blk b3 (.cells #[.int .i64 k,.int .i64 n,.string s,U] ac)) (ax p ac 4 css) (ax U ac 4 (css++[a])) (aS Ls.flatten) M (.blk r (.cells a.toArray ac)) (D 7) (D 8) (D 9) (D 11)) S w_,⟨Fx.nil _ _,⟨[],[],0,aP,aP,aP,aP,aP,aP,by simpa [aH,aS] using g.draw⟩⟩,⟨?_,?_,?_,?_,?_,?_,?_,?_,?_,?_,?_,?_,trivial⟩,?_⟩;all_goals (intro D Z; intros; rename_i sJ U tl sg gu rV uC vg qB mc sG w_ a2; have q:=a2.1; obtain ⟨⟨c9,cX,cZ,c4,cY,c8,cB,df,dK,eF,cW,dR,_⟩,⟨M,a,r,G,V,N,J,l,O,g⟩⟩:=a2)
  ·refine ay av ?_;exact ⟨q.set 0 rfl,⟨M,a,r,G,V,N,J,l,O,g⟩⟩
  ·obtain rfl:=c9 ‹_›;have B:D 11=false:=bS.2 fun h=>by rw [O h] at Z; cases Z
   refine aJ (b:=b3) g 2 (c:=(#[.int .i64 k,.int .i64 n,.string s,p])) ar (by rw [B]; rfl) rfl ?_;have O:=fun (_:aB D 1 11=true)=>(rfl:aB D 1 1=true)
   exact ⟨q.set 1 rfl,⟨M,a,r,G,V,N,J,l,O,g⟩⟩
  ·refine ay av ?_;exact ⟨q.set 2 rfl,⟨M,a,r,G,V,N,J,l,O,g⟩⟩
  ·obtain rfl:=cZ ‹_›;refine aJ g 0 ar rfl rfl ?_;exact ⟨q.set 3 rfl,⟨M,a,r,G,V,N,J,l,O,g⟩⟩
  ·exact ⟨q.set 4 rfl,⟨M,a,r,G,V,N,J,l,O,g⟩⟩
  ·obtain rfl:=c4 ‹_›;obtain rfl:=cY ‹_›;refine aN ao Y ?_;exact ⟨q.set 5 rfl,⟨M,a,r,G,V,N,J,l,O,g⟩⟩
  ·obtain rfl:=c8 ‹_›;refine dC ad hR.length (fun j v hj=>by rw [g.cellS hS]; exact aX rfl j v hj) ?_;exact ⟨q.set 6 rfl,⟨M,a,r,G,V,N,J,l,O,g⟩⟩
  ·obtain rfl:=cB ‹_›;have f8:D 8=false:=bS.2 fun h=>by rw [N h] at Z; cases Z
   have f9:D 9=false:=bS.2 fun h=>by rw [J h] at f8; cases f8
   have B:D 11=false:=bS.2 fun h=>by rw [l h] at f9; cases f9
   rw [Z,f8,f9,B] at g;refine Run.call0 eQ fa g (ih _ (cr Y) S _ hR (by omega)) fun v' I' S w_=>?_;rintro ⟨rfl,a,M,rfl,rfl,hT⟩ _ g;have G:aB D 7 7=true->Value.agg a.toArray=Value.agg a.toArray/\TrT M a (C)[j]:=fun _=>⟨rfl,hT⟩
   have N:=fun (_:aB D 7 8=true)=>(rfl:aB D 7 7=true)
   have g:Inv w [] (aH (.blk b1 (.cells #[.int .i64 k,.int .i64 n,.string s,.slice (some ⟨b,o,none⟩) C.length cap] ac)) (.blk b2 (.cells #[.int .i64 0,.int .i64 0,.string ⟨#[]⟩,.slice none 0 0] ac)) (.blk b3 (.cells #[.int .i64 k,.int .i64 n,.string s,p] ac)) (.blk b3 (.cells #[.int .i64 k,.int .i64 n,.string s,U] ac)) (ax p ac 4 css) (ax U ac 4 (css++[a])) (aS Ls.flatten) M (.blk r (.cells a.toArray ac)) true (D 8) (D 9) (D 11)) S w_:=by
    rw [f8,f9,B];simpa [aH] using g
   exact ⟨q.set 7 (by first|assumption|trivial),⟨M,a,r,G,V,N,J,l,O,g⟩⟩
  ·have zJ:=df ‹_›;have f9:D 9=false:=bS.2 fun h=>by rw [J h] at Z; cases Z
   have B:D 11=false:=bS.2 fun h=>by rw [l h] at f9; cases f9
   obtain ⟨q7,hT⟩:=G ‹D 7=true›;subst q7;rw [‹D 7=true›,Z,f9,B] at g;refine dI g bw (by simp [Value.cells,hT.length]) (by omega) (by omega) fun r w_ g=>?_;have G:aB D 8 7=true->Value.agg a.toArray=Value.agg a.toArray/\TrT M a (C)[j]:=fun _=>⟨rfl,hT⟩
   have V:=fun (_:aB D 8 8=true)=>(rfl:Value.slice (some ⟨r,0,none⟩) 1 1=_)
   have N:=fun (_:aB D 8 8=true)=>‹D 7=true›;have J:=fun (_:aB D 8 9=true)=>(rfl:aB D 8 8=true)
   have g:Inv w [] (aH (.blk b1 (.cells #[.int .i64 k,.int .i64 n,.string s,.slice (some ⟨b,o,none⟩) C.length cap] ac)) (.blk b2 (.cells #[.int .i64 0,.int .i64 0,.string ⟨#[]⟩,.slice none 0 0] ac)) (.blk b3 (.cells #[.int .i64 k,.int .i64 n,.string s,p] ac)) (.blk b3 (.cells #[.int .i64 k,.int .i64 n,.string s,U] ac)) (ax p ac 4 css) (ax U ac 4 (css++[a])) (aS Ls.flatten) M (.blk r (.cells a.toArray ac)) (D 7) true (D 9) (D 11)) S w_:=by
    rw [‹D 7=true›,f9,B];simpa [aH,Value.cells] using g
   exact ⟨q.set 8 (by first|assumption|trivial),⟨M,a,r,G,V,N,J,l,O,g⟩⟩
  ·obtain rfl:=cX ‹_›;have wZ:=dK ‹_›;have B:D 11=false:=bS.2 fun h=>by rw [l h] at Z; cases Z
   have q8:=V ‹D 8=true›;subst q8;obtain ⟨_,hT⟩:=G ‹D 7=true›;rw [‹D 7=true›,‹D 8=true›,Z,B] at g;have a4:((aH (.blk b1 (.cells #[.int .i64 k,.int .i64 n,.string s,.slice (some ⟨b,o,none⟩) C.length cap] ac)) (.blk b2 (.cells #[.int .i64 0,.int .i64 0,.string ⟨#[]⟩,.slice none 0 0] ac)) (.blk b3 (.cells #[.int .i64 k,.int .i64 n,.string s,mc] ac)) (.blk b3 (.cells #[.int .i64 k,.int .i64 n,.string s,U] ac)) (ax mc ac 4 css) (ax U ac 4 (css++[a])) (aS Ls.flatten) M (.blk r (.cells a.toArray ac)) true true false false))[4+(aS Ls.flatten).length+(aS M).length]?=some (.blk r (.cells a.toArray ac)):=by
    have e4:4+(aS Ls.flatten).length+(aS M).length=((aS Ls.flatten).length+(aS M).length)+1+1+1+1:=by omega
    rw [e4];simp only [aH,iq];rw [fP (by omega),pE,fP (a7 _),dY]; rfl
   refine dH g 3 a bw (by omega) rfl (by rw [hT.length]) (m:=1) (o:=0) ?_ hT.one (by omega) (by omega) fun v' w_ g=>?_
   ·intro i u hi;rw [g.cellL a4,ct];simpa using hi
   rw [dZ] at g;have J:=fun (_:aB D 9 9=true)=>‹D 8=true›;have l:=fun (_:aB D 9 11=true)=>(rfl:aB D 9 9=true)
   have g:Inv w [] (aH (.blk b1 (.cells #[.int .i64 k,.int .i64 n,.string s,.slice (some ⟨b,o,none⟩) C.length cap] ac)) (.blk b2 (.cells #[.int .i64 0,.int .i64 0,.string ⟨#[]⟩,.slice none 0 0] ac)) (.blk b3 (.cells #[.int .i64 k,.int .i64 n,.string s,mc] ac)) (.blk b3 (.cells #[.int .i64 k,.int .i64 n,.string s,v'] ac)) (ax mc ac 4 css) (ax v' ac 4 (css++[a])) (aS Ls.flatten) M (.blk r (.cells a.toArray ac)) (D 7) (D 8) true (D 11)) S w_:=by
    rw [‹D 7=true›,‹D 8=true›,B];exact g
   exact ⟨q.set 9 (by first|assumption|trivial),⟨M,a,r,G,V,N,J,l,O,g⟩⟩
  ·refine ay av ?_;exact ⟨q.set 10 rfl,⟨M,a,r,G,V,N,J,l,O,g⟩⟩
  ·obtain rfl:=cW ‹_›;have xN:=eF ‹_›;rw [‹D 7=true›,‹D 8=true›,‹D 9=true›,Z] at g;obtain ⟨va,vn,vc,a1⟩:=Inv.rowSlice g 3 rfl;refine di g 2 (n:=1) (by rw [a1]; rfl) (by decide +kernel) rfl (by simp) (by rw [a1]; simp [Value.cells,Value.oneCell']) fun w_ g=>?_;have a6:Value.cells U=#[U]:=by rw [a1]; rfl
   rw [a6] at g;have O:=fun (_:aB D 11 11=true)=>‹D 1=true›;have l:=fun (_:aB D 11 11=true)=>‹D 9=true›;have g:Inv w [] (aH (.blk b1 (.cells #[.int .i64 k,.int .i64 n,.string s,.slice (some ⟨b,o,none⟩) C.length cap] ac)) (.blk b2 (.cells #[.int .i64 0,.int .i64 0,.string ⟨#[]⟩,.slice none 0 0] ac)) (.blk b3 (.cells #[.int .i64 k,.int .i64 n,.string s,p] ac)) (.blk b3 (.cells #[.int .i64 k,.int .i64 n,.string s,U] ac)) (ax p ac 4 css) (ax U ac 4 (css++[a])) (aS Ls.flatten) M (.blk r (.cells a.toArray ac)) (D 7) (D 8) (D 9) true) S w_:=by
    rw [‹D 7=true›,‹D 8=true›,‹D 9=true›];exact g
   exact ⟨q.set 11 trivial,⟨M,a,r,G,V,N,J,l,O,g⟩⟩
  obtain ⟨rfl,rfl,rfl,rfl,rfl,rfl,rfl,zJ,wZ,xN,rfl,_,_⟩:=q.all;have sW:D 7=true:=by assumption
  have wl:D 8=true:=by assumption
  have FO:D 9=true:=by assumption
  have vo:D 11=true:=by assumption
  clear q c9 cX cZ c4 cY c8 cB df dK eF cW dR;obtain ⟨_,hT⟩:=G sW;rw [sW,wl,FO,vo] at g;refine bz (by omega) ?_;refine ⟨⟨j+1,U,Ls++[M],css++[a],Y,rfl,?_,?_⟩,by simp [intOf]; omega⟩
  ·rw [mK Y];exact hg.snoc hT hT.length
  ·simp only [oc,eP,kH,cS,cG];refine g.sub ?_;simp only [aH];rw [<- d4];exact (((ii _ _).cons_cons _).cons_cons _).cons_cons _ |>.cons_cons _
 ·have:j=C.length:=by omega
  subst this;rw [mS] at hg;obtain ⟨va,vn,vc,b0⟩:=g.rowSlice 3 rfl;have b4:p.oneCell'=true:=by rw [b0]; rfl
  refine au g 2 ad rfl rfl ?_;refine al g 1 rfl ad rfl rfl ?_ fun w' g=>?_
  ·intro u hu;have a8:u∈([.int .i64 k,.int .i64 n,.string s,p]:List Value):=hu;simp at a8;rcases a8 with rfl|rfl|rfl|rfl <;> first|rfl|exact b4
  refine a5 g 1 ad rfl rfl ?_;have g:Inv w [] ([ax p ac 4 css]++aS Ls.flatten) S w':=g.sub (fF [_,_,_] _);obtain ⟨S1,g,hE,a3⟩:=g.pubExt;exact ⟨_,_,S1,rfl,g,hE,_,css,rfl,rfl,hg.rows a3 fun _ _ _ hi h=>h.rd hi⟩
theorem E3 {c0:C} {S:af} {cs:List Value} (h:RdC S cs c0) (hw:wC c0<=1048576):Tri Tryz.prog vG [.agg cs.toArray] [] S (GA c0):=by
 intro w a;obtain ⟨hd,ks,rfl,h1,h2⟩:=h;have b5:=h1;obtain ⟨kv,rfl,g1,g2,g3,g4⟩:=RdT.iff.1 h1;unfold wC at hw;refine iP.2 ?_;dsimp only[iP,aG];refine bB a fun b1 w' a=>?_;refine aF a bZ fun b2 w' a=>?_;refine ay cn ?_;refine ew a 0 [.int .i64 c0.head.kind,.int .i64 c0.head.n,.string c0.head.name,kv] ad rfl rfl FA ?_;refine Run.call0 eQ fa a (fS _ S _ b5 (by omega)) fun v' I' S w'=>?_;rintro ⟨rfl,b7,N,rfl,rfl,a3⟩ _ a;obtain ⟨t,rfl,_⟩:=TrT.iff.1 a3;refine gF ?_;refine aF a bZ fun b3 w' a=>?_;have a:=a.perm (M:=.blk b1 _::.blk b2 _::.blk b3 _::aS N) (((dy (l₁:=[_])).cons _).cons _);refine al a 2 rfl aC rfl rfl ?_ fun w' a=>?_
 ·intro u hu;have a1:u∈([.int .i64 c0.head.kind,.int .i64 c0.head.n,.string c0.head.name,t,.slice none 0 0]:List Value):=hu;simp at a1;have o1:t.oneCell'=true:=a3.one t (by simp);rcases a1 with rfl|rfl|rfl|rfl|rfl <;> first|rfl|exact o1
 have a:=a.rowNil ac 4;have a:=a.perm (M:=.blk b1 (.cells #[.int .i64 c0.head.kind,.int .i64 c0.head.n,.string c0.head.name,kv,ks] ae)::.blk b2 (.cells #[.int .i64 0,.int .i64 0,.string ⟨#[]⟩,.slice none 0 0,.slice none 0 0] ae)::.blk b3 (.cells #[.int .i64 c0.head.kind,.int .i64 c0.head.n,.string c0.head.name,t,.slice none 0 0] ae)::ax (.slice none 0 0) ac 4 []::aS N) ((((dy (l₁:=[_])).cons _).cons _).cons _);refine ⟨fun i w'=>∃ (j:Nat) (l:Value) (Ls:List aU) (css:List (List Value)),j<=c0.body.length/\i=.int .i64 j/\Grown 4 TrT Ls css (c0.body.take j)/\
   Inv w [] (.blk b1 (.cells #[.int .i64 c0.head.kind,.int .i64 c0.head.n,.string c0.head.name,kv,ks] ae)::.blk b2 (.cells #[.int .i64 0,.int .i64 0,.string ⟨#[]⟩,.slice none 0 0,.slice none 0 0] ae)::.blk b3 (.cells #[.int .i64 c0.head.kind,.int .i64 c0.head.n,.string c0.head.name,t,l] ae)::ax l ac 4 css::aS (N::Ls).flatten) S w',
  fun i _=>c0.body.length - (intOf i).toNat,⟨0,_,[],[],aQ _,rfl,Grown.nil _ _,by simp only [eP,kH,cS]; exact a⟩,?_⟩
 intro t4 _ _ _ _ _ _ _ _ _ _ _ _ _ _ _ _ _ _ w';rintro ⟨j,l,Ls,css,hj,rfl,hg,a⟩;refine ag a 0 rfl aT ar rfl ?_;refine aL h2 ao ?_;refine cq ?_;refine aR (fun b0=>?_) (fun b0=>?_)
 ·have a2:j<c0.body.length:=by omega
  have b9:(c0.body.take j).length=j:=by simp; omega
  have c1:=hg.hc;have hm:=cr a2;have c2:=ji hm;obtain ⟨b,o,cap,c,E,fz,rfl,hS,hR⟩:=h2.at_ a2;refine ⟨fun D sg V rV uC vg qB mc sG D7 te Ds w_=>Fx D 0 [Ds=.pointer (some ⟨b3,4,none⟩),te=l,D7=.pointer (some ⟨b1,4,none⟩),sG=.slice (some ⟨b,o,none⟩) (c0.body).length cap,mc=.int .i64 j,qB=.pointer (some ⟨b,o+j * 4,none⟩),vg=.agg (bd c (o+j * 4) 4).toArray,True,True,True,sg=.pointer (some ⟨b3,4,none⟩),True]/\∃ M g r,(D 7=true->uC=.agg g.toArray/\TrT M g (c0.body)[j])/\(D 8=true->rV=.slice (some ⟨r,0,none⟩) 1 1)/\(D 8=true->D 7=true)/\(D 9=true->D 8=true)/\(D 11=true->D 9=true)/\(D 11=true->D 1=true)/\Inv w [] (aH (.blk b1 (.cells #[.int .i64 c0.head.kind,.int .i64 c0.head.n,.string c0.head.name,kv,.slice (some ⟨b,o,none⟩) c0.body.length cap] ae)) (.blk b2 (.cells #[.int .i64 0,.int .i64 0,.string ⟨#[]⟩,.slice none 0 0,.slice none 0 0] ae)) (.blk b3 (.cells #[.int .i64 c0.head.kind,.int .i64 c0.head.n,.string c0.head.name,t,l] ae)) (.blk b3 (.cells #[.int .i64 c0.head.kind,.int .i64 c0.head.n,.string c0.head.name,t,V] ae)) (ax l ac 4 css) (ax V ac 4 (css++[g])) (aS (N::Ls).flatten) M (.blk r (.cells g.toArray ac)) (D 7) (D 8) (D 9) (D 11)) S w_,⟨Fx.nil _ _,⟨[],[],0,aP,aP,aP,aP,aP,aP,by simpa [aH,aS] using a.draw⟩⟩,⟨?_,?_,?_,?_,?_,?_,?_,?_,?_,?_,?_,?_,trivial⟩,?_⟩;all_goals (intro D Z; intros; rename_i sg V rV uC vg qB mc sG D7 te Ds w_ a6; have q:=a6.1; obtain ⟨⟨c9,cX,cZ,c4,cY,c8,cB,df,dK,eF,cW,dR,_⟩,⟨M,g,r,G,Y,O,J,p,U,a⟩⟩:=a6)
  ·refine ay aT ?_;exact ⟨q.set 0 rfl,⟨M,g,r,G,Y,O,J,p,U,a⟩⟩
  ·obtain rfl:=c9 ‹_›;have B:D 11=false:=bS.2 fun h=>by rw [U h] at Z; cases Z
   refine aJ (b:=b3) a 2 (c:=(#[.int .i64 c0.head.kind,.int .i64 c0.head.n,.string c0.head.name,t,l])) ar (by rw [B]; rfl) rfl ?_;have U:=fun (_:aB D 1 11=true)=>(rfl:aB D 1 1=true)
   exact ⟨q.set 1 rfl,⟨M,g,r,G,Y,O,J,p,U,a⟩⟩
  ·refine ay aT ?_;exact ⟨q.set 2 rfl,⟨M,g,r,G,Y,O,J,p,U,a⟩⟩
  ·obtain rfl:=cZ ‹_›;refine aJ a 0 ar rfl rfl ?_;exact ⟨q.set 3 rfl,⟨M,g,r,G,Y,O,J,p,U,a⟩⟩
  ·exact ⟨q.set 4 rfl,⟨M,g,r,G,Y,O,J,p,U,a⟩⟩
  ·obtain rfl:=c4 ‹_›;obtain rfl:=cY ‹_›;refine aN ao a2 ?_;exact ⟨q.set 5 rfl,⟨M,g,r,G,Y,O,J,p,U,a⟩⟩
  ·obtain rfl:=c8 ‹_›;refine dC ad hR.length (fun j v hj=>by rw [a.cellS hS]; exact aX rfl j v hj) ?_;exact ⟨q.set 6 rfl,⟨M,g,r,G,Y,O,J,p,U,a⟩⟩
  ·obtain rfl:=cB ‹_›;have f8:D 8=false:=bS.2 fun h=>by rw [O h] at Z; cases Z
   have f9:D 9=false:=bS.2 fun h=>by rw [J h] at f8; cases f8
   have B:D 11=false:=bS.2 fun h=>by rw [p h] at f9; cases f9
   rw [Z,f8,f9,B] at a;refine Run.call0 eQ fa a (fS _ S _ hR (by omega)) fun v' I' S w_=>?_;rintro ⟨rfl,g,M,rfl,rfl,hT⟩ _ a;have G:aB D 7 7=true->Value.agg g.toArray=Value.agg g.toArray/\TrT M g (c0.body)[j]:=fun _=>⟨rfl,hT⟩
   have O:=fun (_:aB D 7 8=true)=>(rfl:aB D 7 7=true)
   have a:Inv w [] (aH (.blk b1 (.cells #[.int .i64 c0.head.kind,.int .i64 c0.head.n,.string c0.head.name,kv,.slice (some ⟨b,o,none⟩) c0.body.length cap] ae)) (.blk b2 (.cells #[.int .i64 0,.int .i64 0,.string ⟨#[]⟩,.slice none 0 0,.slice none 0 0] ae)) (.blk b3 (.cells #[.int .i64 c0.head.kind,.int .i64 c0.head.n,.string c0.head.name,t,l] ae)) (.blk b3 (.cells #[.int .i64 c0.head.kind,.int .i64 c0.head.n,.string c0.head.name,t,V] ae)) (ax l ac 4 css) (ax V ac 4 (css++[g])) (aS (N::Ls).flatten) M (.blk r (.cells g.toArray ac)) true (D 8) (D 9) (D 11)) S w_:=by
    rw [f8,f9,B];simpa [aH] using a
   exact ⟨q.set 7 (by first|assumption|trivial),⟨M,g,r,G,Y,O,J,p,U,a⟩⟩
  ·have zJ:=df ‹_›;have f9:D 9=false:=bS.2 fun h=>by rw [J h] at Z; cases Z
   have B:D 11=false:=bS.2 fun h=>by rw [p h] at f9; cases f9
   obtain ⟨q7,hT⟩:=G ‹D 7=true›;subst q7;rw [‹D 7=true›,Z,f9,B] at a;refine dI a bw (by simp [Value.cells,hT.length]) (by omega) (by omega) fun r w_ a=>?_;have G:aB D 8 7=true->Value.agg g.toArray=Value.agg g.toArray/\TrT M g (c0.body)[j]:=fun _=>⟨rfl,hT⟩
   have Y:=fun (_:aB D 8 8=true)=>(rfl:Value.slice (some ⟨r,0,none⟩) 1 1=_)
   have O:=fun (_:aB D 8 8=true)=>‹D 7=true›;have J:=fun (_:aB D 8 9=true)=>(rfl:aB D 8 8=true)
   have a:Inv w [] (aH (.blk b1 (.cells #[.int .i64 c0.head.kind,.int .i64 c0.head.n,.string c0.head.name,kv,.slice (some ⟨b,o,none⟩) c0.body.length cap] ae)) (.blk b2 (.cells #[.int .i64 0,.int .i64 0,.string ⟨#[]⟩,.slice none 0 0,.slice none 0 0] ae)) (.blk b3 (.cells #[.int .i64 c0.head.kind,.int .i64 c0.head.n,.string c0.head.name,t,l] ae)) (.blk b3 (.cells #[.int .i64 c0.head.kind,.int .i64 c0.head.n,.string c0.head.name,t,V] ae)) (ax l ac 4 css) (ax V ac 4 (css++[g])) (aS (N::Ls).flatten) M (.blk r (.cells g.toArray ac)) (D 7) true (D 9) (D 11)) S w_:=by
    rw [‹D 7=true›,f9,B];simpa [aH,Value.cells] using a
   exact ⟨q.set 8 (by first|assumption|trivial),⟨M,g,r,G,Y,O,J,p,U,a⟩⟩
  ·obtain rfl:=cX ‹_›;have wZ:=dK ‹_›;have B:D 11=false:=bS.2 fun h=>by rw [p h] at Z; cases Z
   have q8:=Y ‹D 8=true›;subst q8;obtain ⟨_,hT⟩:=G ‹D 7=true›;rw [‹D 7=true›,‹D 8=true›,Z,B] at a;have a8:((aH (.blk b1 (.cells #[.int .i64 c0.head.kind,.int .i64 c0.head.n,.string c0.head.name,kv,.slice (some ⟨b,o,none⟩) c0.body.length cap] ae)) (.blk b2 (.cells #[.int .i64 0,.int .i64 0,.string ⟨#[]⟩,.slice none 0 0,.slice none 0 0] ae)) (.blk b3 (.cells #[.int .i64 c0.head.kind,.int .i64 c0.head.n,.string c0.head.name,t,te] ae)) (.blk b3 (.cells #[.int .i64 c0.head.kind,.int .i64 c0.head.n,.string c0.head.name,t,V] ae)) (ax te ac 4 css) (ax V ac 4 (css++[g])) (aS (N::Ls).flatten) M (.blk r (.cells g.toArray ac)) true true false false))[4+(aS (N::Ls).flatten).length+(aS M).length]?=some (.blk r (.cells g.toArray ac)):=by
    have e4:4+(aS (N::Ls).flatten).length+(aS M).length=((aS (N::Ls).flatten).length+(aS M).length)+1+1+1+1:=by omega
    rw [e4];simp only [aH,iq];rw [fP (by omega),pE,fP (a7 _),dY]; rfl
   refine dH a 3 g bw (by omega) rfl (by rw [hT.length]) (m:=1) (o:=0) ?_ hT.one (by omega) (by omega) fun v' w_ a=>?_
   ·intro i u hi;rw [a.cellL a8,ct];simpa using hi
   rw [dZ] at a;have J:=fun (_:aB D 9 9=true)=>‹D 8=true›;have p:=fun (_:aB D 9 11=true)=>(rfl:aB D 9 9=true)
   have a:Inv w [] (aH (.blk b1 (.cells #[.int .i64 c0.head.kind,.int .i64 c0.head.n,.string c0.head.name,kv,.slice (some ⟨b,o,none⟩) c0.body.length cap] ae)) (.blk b2 (.cells #[.int .i64 0,.int .i64 0,.string ⟨#[]⟩,.slice none 0 0,.slice none 0 0] ae)) (.blk b3 (.cells #[.int .i64 c0.head.kind,.int .i64 c0.head.n,.string c0.head.name,t,te] ae)) (.blk b3 (.cells #[.int .i64 c0.head.kind,.int .i64 c0.head.n,.string c0.head.name,t,v'] ae)) (ax te ac 4 css) (ax v' ac 4 (css++[g])) (aS (N::Ls).flatten) M (.blk r (.cells g.toArray ac)) (D 7) (D 8) true (D 11)) S w_:=by
    rw [‹D 7=true›,‹D 8=true›,B];exact a
   exact ⟨q.set 9 (by first|assumption|trivial),⟨M,g,r,G,Y,O,J,p,U,a⟩⟩
  ·refine ay aT ?_;exact ⟨q.set 10 rfl,⟨M,g,r,G,Y,O,J,p,U,a⟩⟩
  ·obtain rfl:=cW ‹_›;have xN:=eF ‹_›;rw [‹D 7=true›,‹D 8=true›,‹D 9=true›,Z] at a;obtain ⟨va,vn,vc,a4⟩:=Inv.rowSlice a 3 rfl;refine di a 2 (n:=1) (by rw [a4]; rfl) (by decide +kernel) rfl (by simp) (by rw [a4]; simp [Value.cells,Value.oneCell']) fun w_ a=>?_;have a9:Value.cells V=#[V]:=by rw [a4]; rfl
   rw [a9] at a;have U:=fun (_:aB D 11 11=true)=>‹D 1=true›;have p:=fun (_:aB D 11 11=true)=>‹D 9=true›;have a:Inv w [] (aH (.blk b1 (.cells #[.int .i64 c0.head.kind,.int .i64 c0.head.n,.string c0.head.name,kv,.slice (some ⟨b,o,none⟩) c0.body.length cap] ae)) (.blk b2 (.cells #[.int .i64 0,.int .i64 0,.string ⟨#[]⟩,.slice none 0 0,.slice none 0 0] ae)) (.blk b3 (.cells #[.int .i64 c0.head.kind,.int .i64 c0.head.n,.string c0.head.name,t,l] ae)) (.blk b3 (.cells #[.int .i64 c0.head.kind,.int .i64 c0.head.n,.string c0.head.name,t,V] ae)) (ax l ac 4 css) (ax V ac 4 (css++[g])) (aS (N::Ls).flatten) M (.blk r (.cells g.toArray ac)) (D 7) (D 8) (D 9) true) S w_:=by
    rw [‹D 7=true›,‹D 8=true›,‹D 9=true›];exact a
   exact ⟨q.set 11 trivial,⟨M,g,r,G,Y,O,J,p,U,a⟩⟩
  obtain ⟨rfl,rfl,rfl,rfl,rfl,rfl,rfl,zJ,wZ,xN,rfl,_,_⟩:=q.all;have sW:D 7=true:=by assumption
  have wl:D 8=true:=by assumption
  have FO:D 9=true:=by assumption
  have vo:D 11=true:=by assumption
  clear q c9 cX cZ c4 cY c8 cB df dK eF cW dR;obtain ⟨_,hT⟩:=G sW;rw [sW,wl,FO,vo] at a;refine bz (by omega) ?_;refine ⟨⟨j+1,V,Ls++[M],css++[g],a2,rfl,?_,?_⟩,by simp [intOf]; omega⟩
  ·rw [mK a2];exact hg.snoc hT hT.length
  ·rw [<- gC,oc,cG];simp only [eP,kH,cS];refine a.sub ?_;simp only [aH,eP];rw [<- d4];exact (((ii _ _).cons_cons _).cons_cons _).cons_cons _ |>.cons_cons _
 ·have:j=c0.body.length:=by omega
  subst this;rw [mS] at hg;obtain ⟨va,vn,vc,b4⟩:=a.rowSlice 3 rfl;have b6:l.oneCell'=true:=by rw [b4]; rfl
  have o1:t.oneCell'=true:=a3.one t (by simp);refine au a 2 aC rfl rfl ?_;refine al a 1 rfl aC rfl rfl ?_ fun w' a=>?_
  ·intro u hu;have a1:u∈([.int .i64 c0.head.kind,.int .i64 c0.head.n,.string c0.head.name,t,l]:List Value):=hu;simp at a1;rcases a1 with rfl|rfl|rfl|rfl|rfl <;> first|rfl|exact o1|exact b6
  refine a5 a 1 aC rfl rfl ?_;have a:Inv w [] (ax l ac 4 css::aS (N::Ls).flatten) S w':=a.sub (fF [_,_,_] _);have a:Inv w [] ([ax l ac 4 css]++aS (N::Ls).flatten) S w':=a;obtain ⟨S1,a,hE,a0⟩:=a.pubExt;rw [eP] at a0;exact ⟨_,_,S1,rfl,a,hE,_,l,css,rfl,a3.rd a0.left,rfl,hg.rows a0.right fun _ _ _ hi h=>h.rd hi⟩
end
end
section
open Go Go.RowKit
section
variable {w0 w:World} {X:List Nat} {L:List Item} {S:af} {P:Program} {K:Value->World->Prop}
attribute [local irreducible] Run CondV aw aI
theorem nF (h:Inv w0 X L S w) {T ty e:TypeId} {a:Nat} {z v x:Value} {cs:List Bool} {css:List (List Value)} (i:Nat)
  (t:fY P T=some (e,1,a,z)) (B:L[i]?=some (ax v e 1 css)) (C:x.cells=#[x]) (D:x.oneCell'=true) (g:css.length+1<=4294967296) (q:a<=32768)
  {K:Value->Value->World->Prop} (hk:∀ r w',Inv w0 X (L.set i (ax r e 1 (css++[[x]]))) S w'->K (.slice (some ⟨w.heap.size,0,none⟩) 1 1) r w') :
  Run P (be T 1 [(0,x)]) w fun u w'=>Run P (bn .append #[T,T] ty cs [v,u]) w' (K u):=by
 refine jN h t (by rw [C]; rfl) (by omega) (by omega) fun w' l=>?_;have p:i<L.length:=(gX.1 B).1;refine dH l i [x] t (by omega) (by rw [Hd p]; exact B) (by simp) (m:=1) (o:=0) ?_ (by simpa using D) g q fun r w' l=>?_
 ·intro j u G;rw [l.cellL (i:=L.length) (by rw [fP (a7 _),dY]; rfl)];rw [ct,C];simpa using G
 ·refine hk _ _ ?_;rw [<- dZ];rw [Gy _ _ p] at l;exact l.sub (ii _ _)
end
end
section
open Go Go.RowKit
theorem qH:∀ (f:Nat) (l:List T) (b:Bool) (out x:Bs),rm f l b out=some x->out.length<=x.length
 | _,[],_,out,x,h=>by simp only [rm,a9] at h; subst h; exact a7 _
 | f,t::l,b,out,x,h=>by
  rw [rm] at h;split at h
  ·cases h
  ·have:=qH f _ _ _ _ h;simp only [bv] at this;omega
section
variable {S:af}
attribute [local irreducible] Run CondV aw aI
theorem zD {f:Nat} (hf:f<=100) {c:C} {cs:List Value} {x:Bs} (h:RdC S cs c) (o:Eh f c=some x) (hl:x.length<=1000000):Pure Tryz.prog DJ [.agg cs.toArray] S (.string (st x)):=by
 intro w g;obtain ⟨hd,D,rfl,N,G⟩:=h;have J:=N;obtain ⟨kv,rfl,_⟩:=RdT.iff.1 N;unfold Eh at o;split at o
 ·cases o
 rename_i y O
 split at o
 ·cases o
 rename_i z M
 simp only [a9] at o;have Z:z.length+1=x.length:=by rw [<- o,bv]; rfl
 have a0:=qH _ _ _ _ _ M;have hb:c.body.length<=9223372036854775807:=by have:=G.le; simpa [maxLen] using this
 refine rL.2 ?_;dsimp only[rL,aG];refine bB g fun r w' g=>?_;have g:Inv w [] [.blk r (.cells #[.int .i64 c.head.kind,.int .i64 c.head.n,.string c.head.name,kv,D] ae)] S w':=g;refine ay cn ?_;refine ew g 0 [.int .i64 c.head.kind,.int .i64 c.head.n,.string c.head.name,kv] ad rfl rfl FA ?_;refine Run.callPure eG eT g (xV hf _ y S _ O (by omega) J) fun w' g=>?_;refine ⟨fun a b w'=>∃ (j:Nat) (out:Bs),j<=c.body.length/\a=.int .i64 (j:Int)/\b=.string (st out)/\rm f (c.body.drop j) (decide (j=0)) out=some z/\Inv w [] [.blk r (.cells #[.int .i64 c.head.kind,.int .i64 c.head.n,.string c.head.name,kv,D] ae)] S w',
  fun a _ _=>c.body.length - (intOf a).toNat,⟨0,y,aQ _,rfl,rfl,M,g⟩,?_⟩
 intro t4 _ _ _ _ _ _ _ _ _ _ _ _ U _ _ _ _ _ _ _ _ _ w';rintro ⟨j,out,hj,rfl,rfl,i,g⟩;refine ag g 0 rfl aT ar rfl ?_;refine aL G ao ?_;refine cq ?_;refine aR (fun t=>?_) (fun t=>?_)
 ·have q:j<c.body.length:=by omega
  rw [dr q,rm] at i;split at i
  ·cases i
  rename_i u V
  have p:=qH _ _ _ _ _ i;simp only [bv] at p;obtain ⟨m,l⟩:∃ m:Bs,m=if decide (j=0)=true then [58,45] else [44]:=⟨_,rfl⟩
  rw [<- l] at i p;refine ⟨fun b w'=>b=.string (st (out++m))/\Inv w [] [.blk r (.cells #[.int .i64 c.head.kind,.int .i64 c.head.n,.string c.head.name,kv,D] ae)] S w',?_,?_⟩
  ·refine bo ?_;refine aR (fun Y=>?_) (fun Y=>?_)
   ·rw [ai (bb (by omega))] at l;subst l;refine cT (b:=[58,45]) (by omega) ?_;exact ⟨rfl,g⟩
   ·rw [ah (by rw [bQ]; omega)] at l;subst l;refine cT (b:=[44]) (by omega) ?_;exact ⟨rfl,g⟩
  intro _ _ U _ _ _ _ w';rintro ⟨rfl,g⟩;refine ag g 0 rfl aT ar rfl ?_;refine dx g G ao ad q (fun _ _=>RdT.length) fun es B=>?_;refine Run.callPure eG eT g (xV hf _ u S _ V (by omega) B) fun w' g=>?_;refine cT (by rw [bv]; omega) ?_;refine bz (by omega) ?_;refine ⟨⟨j+1,out++m++u,q,rfl,rfl,?_,g⟩,by simp only [intOf,gS]; omega⟩;rw [bk (by omega)];exact i
 ·have:j=c.body.length:=by omega
  subst this;rw [dV,rm] at i;simp only [a9] at i;subst i;refine cT (b:=[46]) (by simp only [bg,cd]; omega) ?_;exact done g (by rw [<- o])
theorem nf {f:Nat} (hf:f<=100) {c:C} {cs:List Value} {x:Bs} (h:RdC S cs c) (hc:a4 c=true) (i:wC c<=1048576) (j:Eh f c=some x) (l:x.length<=1000000):Pure Tryz.prog qd [.agg cs.toArray] S (.string (st x)):=by
 intro w a;have g:=h;obtain ⟨q,r,rfl,o,t⟩:=h;obtain ⟨kv,rfl,_⟩:=RdT.iff.1 o;refine iU.2 ?_;dsimp only[iU,aG];refine bB a fun p w' a=>?_;refine au a 0 aC rfl rfl ?_;refine Run.callPure jM jk a (ig g i) fun w' a=>?_;refine dD ?_;rw [hc];refine aE (fun m=>by cases m) (fun _=>?_);refine au a 0 aC rfl rfl ?_;refine Run.callPure AX AY a (zD hf g j l) fun w' a=>?_;exact done a rfl
theorem wR {f k:Nat} {s:Bs} {i:Nat} {V:List T} {n:Nat} (h:nC f k s i []=some (V,n)) (hs:s.length<=100000) (hi:i<=s.length):Tri Tryz.prog zR [.string (st s),.int .i64 (i:Int)] [] S (Il V n):=by
 intro w j;refine oB.2 ?_;dsimp only[oB,a6];refine ey j bw fun v0 w' j=>?_;refine ⟨fun a b w'=>∃ (Y N:Nat) (l:List T) (S1:af) (css:List (List Value)),a=.int .i64 (N:Int)/\N<=s.length/\nC f Y s N l=some (V,n)/\Ext w.heap.size [] S S1/\Rows 4 (RdT S1) css l/\(∃ p m,b=.slice p l.length m)/\Inv w [] [ax b ac 4 css] S1 w',
  fun a _ _=>s.length+1 - (intOf a).toNat,⟨k,i,[],S,[],rfl,hi,h,Ext.refl _ _ _,Rows.nil _ _,?_,j⟩,?_⟩
 ·have u:Inv w [] ([]++[ax v0 ac 4 []]) S w':=j;obtain ⟨S1,_,r,_⟩:=Inv.lendExt u;obtain ⟨p,m,e,_⟩:=RowRd.rows (Rows.nil 4 (RdT S)) r;exact ⟨p,m,e⟩
 intro t1 _ _ _ _ _ _ _ _ t6 _ _ _ _ _ _ _ _ _ _ _ _ _ _ _ _ _ _ _ w';rintro ⟨Y,N,l,S1,css,rfl,Z,B,hE,hR,⟨p,m,rfl⟩,j⟩;have a4:=hR.hc;cases Y with
 | zero=>simp [nC] at B
 | succ g=>
 rw [nC] at B;split at B
 ·cases B
 rename_i h6
 split at B
 ·cases B
 rename_i t O hr
 have a5:=(fy f).1 _ _ _ _ _ _ hr;refine gg ao ?_;refine yO (by omega) ?_;refine aE (fun _=>?_) (fun G=>by cases G);refine Run.call0E eI eJ j (xw f s N 30 3 t O S1 hr hs Z (by omega) (by omega)) fun v I' S2 w'=>?_;rintro ⟨rfl,cs,rfl,o⟩ D j;have a1:=hR.monoR fun _ _ h=>RdT.mono D.1 h;obtain ⟨kv,rfl,_,_,_,a,q,rfl,_⟩:=RdT.iff.1 o;refine aA (v:=.agg _) rfl ?_;refine aA (v:=.int .i64 (O:Int)) rfl ?_;refine aF j aZ fun a2 w' j=>?_;refine al j 1 rfl ad rfl rfl (by simp [Value.oneCell']) fun w' j=>?_;refine dO (by omega) ?_;refine aE (fun G=>by cases G) (fun _=>?_);refine au j 1 ad rfl rfl ?_;refine fj (css:=css) j 0 _ bw (by omega) (by omega) rfl o.length o.one (by omega) (by omega) fun v' w' j=>?_;have j:Inv w [] [ax v' ac 4 (css++[[.int .i64 t.kind,.int .i64 t.n,.string t.name,.slice a t.kids.length q]])] S2 w':=j.pick [true,false];have J:=a1.snoc o o.length;have u:Inv w [] ([]++[ax v' ac 4 (css++[[.int .i64 t.kind,.int .i64 t.n,.string t.name,.slice a t.kids.length q]])]) S2 w':=j;obtain ⟨S3,a0,r,a3⟩:=Inv.lendExt u;have M:=RowRd.rows (J.monoR fun _ _ h=>RdT.mono a0.1 h) r;refine Run.callPure cu cz j (bY s O 44 S2) fun w' j=>?_;refine dD ?_;split at B
 ·rename_i C
  rw [C];refine aE (fun G=>by cases G) (fun _=>?_);have:=fR C;refine dN (a:=O) (b:=1) rfl rfl (by omega) ?_;obtain ⟨p',m',e',_⟩:=M;refine ⟨⟨g,O+1,l++[t],S2,_,rfl,by omega,B,hE.trans D,J,⟨p',m',e'⟩,j⟩,?_⟩;simp only [intOf,gS];omega
 ·rename_i C
  rw [bS.2 C];refine aE (fun _=>?_) (fun G=>by cases G);simp only [a9,cO] at B;obtain ⟨rfl,rfl⟩:=B;have u:Inv w [] ([]++[ax v' ac 4 (css++[[.int .i64 t.kind,.int .i64 t.n,.string t.name,.slice a t.kids.length q]])]) S2 w':=j;obtain ⟨S4,U,r,j⟩:=Inv.lendExt u;have M:=RowRd.rows (J.monoR fun _ _ h=>RdT.mono U.1 h) r;exact ⟨_,[],S4,rfl,j,(hE.trans D).trans U,rfl,_,rfl,M⟩
abbrev Kk (c:C) (b:Bool):Value->List Item->af->Prop:=fun v I' S'=>I'=[]/\∃ cs,v=.tuple #[.agg cs.toArray,.bool b]/\RdC S' cs c
theorem oY {f:Nat} (hf:f<=100) {s:Bs} {c:C} (h:o9 f s=some c):Tri Tryz.prog s8 [.string (st s)] [] S (Kk c true):=by
 intro w g;refine jr.2 ?_;dsimp only[jr,aG];unfold o9 at h;split at h
 ·cases h
 rename_i hs
 split at h
 ·cases h
 rename_i i n hr
 have b5:=(fy f).1 _ _ _ _ _ _ hr;have j:∃ b l,c=⟨i,b⟩/\E0 f s c l=some c/\((sgn s n 58=true/\sgn s (n+1) 45=true/\nC f 8 s (n+2) []=some (b,l)) ∨ (¬ (sgn s n 58=true/\sgn s (n+1) 45=true)/\b=[]/\l=n)):=by
  have U:∀ (c':C) (m:Nat),E0 f s c' m=some c->c'=c:=fun c' m h=>by
   unfold E0 at h;split at h
   ·exact Option.some.inj h
   ·cases h
  split at h
  ·rename_i o
   split at h
   ·cases h
   rename_i b l hg
   have e:=U _ _ h;subst e;exact ⟨b,l,rfl,h,.inl ⟨o.1,o.2,hg⟩⟩
  ·rename_i o
   have e:=U _ _ h;subst e;exact ⟨[],n,rfl,h,.inr ⟨o,rfl,rfl⟩⟩
 clear h;obtain ⟨b,l,rfl,j,D⟩:=j;unfold E0 at j;split at j
 case isFalse=>cases j
 rename_i hq
 obtain ⟨b1,a2,a3,b3,a4⟩:=hq;clear j;refine aF g bZ fun b2 w' g=>?_;refine eo aD ?_;refine ja (by omega) ?_;refine aE (fun r=>by cases r) (fun _=>?_);refine Run.call0E eI eJ g (xw f s 0 30 3 i n S hr (by omega) (by omega) (by omega) (by omega)) fun v I' S1 w'=>?_;rintro ⟨rfl,cs,rfl,B⟩ J g;obtain ⟨kv,rfl,_,_,_,a,q,rfl,_⟩:=RdT.iff.1 B;refine aA (v:=.agg _) rfl ?_;refine aA (v:=.int .i64 (n:Int)) rfl ?_;refine aF g aZ fun b4 w' g=>?_;refine al g 1 rfl ad rfl rfl (by simp [Value.oneCell']) fun w' g=>?_;refine dO (by omega) ?_;refine aE (fun r=>by cases r) (fun _=>?_);refine au g 1 ad rfl rfl ?_;refine gF ?_;refine aF g bZ fun Z w' g=>?_;refine al g 2 rfl aC rfl rfl (by simp [Value.oneCell']) fun w' g=>?_;obtain ⟨B2,N⟩:∃ B2,B2=Item.blk b2 (.cells #[.int .i64 0,.int .i64 0,.string ⟨#[]⟩,.slice none 0 0,.slice none 0 0] ae):=⟨_,rfl⟩
 obtain ⟨B4,a6⟩:∃ B4,B4=Item.blk b4 (.cells #[.int .i64 i.kind,.int .i64 i.n,.string i.name,.slice a i.kids.length q] ac):=⟨_,rfl⟩
 have g:Inv w [] [B2,B4,.blk Z (.cells #[.int .i64 i.kind,.int .i64 i.n,.string i.name,.slice a i.kids.length q,.slice none 0 0] ae)] S1 w':=by rw [N,a6]; exact g
 refine ⟨fun v w'=>∃ (G:Value) (S2:af),v=.int .i64 (l:Int)/\Ext w.heap.size [] S S2/\RdT S2 [.int .i64 i.kind,.int .i64 i.n,.string i.name,.slice a i.kids.length q] i/\RdSl S2 4 (RdT S2) G b/\
   Inv w [] [B2,B4,.blk Z (.cells #[.int .i64 i.kind,.int .i64 i.n,.string i.name,.slice a i.kids.length q,G] ae)] S2 w',?_,?_⟩
 ·refine ⟨fun v w'=>v=.bool (sgn s n 58 && sgn s (n+1) 45)/\Inv w [] [B2,B4,.blk Z (.cells #[.int .i64 i.kind,.int .i64 i.n,.string i.name,.slice a i.kids.length q,.slice none 0 0] ae)] S1 w',?_,?_⟩
  ·refine Run.callPure cu cz g (bY s n 58 S1) fun w' g=>?_;cases o:sgn s n 58
   ·refine rpG ?_;exact ⟨by rw [gx],g⟩
   ·refine rpG ?_;refine dN (a:=n) (b:=1) rfl rfl (by omega) ?_;refine Run.callPure cu cz g (bY s (n+1) 45 S1) fun w' g=>?_;refine rpG ?_;exact ⟨by rw [dL],g⟩
  intro a9 _ _ _ _ _ _ _ _ w';rintro ⟨rfl,g⟩;rcases D with ⟨h1,h2,hg⟩|⟨h1,rfl,rfl⟩
  ·rw [h1,h2];refine aE (fun _=>?_) (fun r=>by cases r);have h3:=fR h2;refine dN (a:=n) (b:=2) rfl rfl (by omega) ?_;refine Run.call0E zh yU g (wR hg (by omega) (by omega)) fun v I' S2 w'=>?_;rintro ⟨rfl,u,rfl,hu⟩ t g;obtain ⟨p,m,rfl,_⟩:=id hu;refine aA (v:=.slice p b.length m) rfl ?_;refine aA (v:=.int .i64 (l:Int)) rfl ?_;refine dl g 2 rfl aT ar rfl rfl rfl fun w' g=>?_;exact ⟨_,S2,rfl,J.trans t,RdT.mono t.1 B,hu,g⟩
  ·have e:(sgn s l 58 && sgn s (l+1) 45)=false:=by
    rw [bS,ne_eq,bJ]; exact h1
   rw [e];refine aE (fun r=>by cases r) (fun _=>?_);exact ⟨_,S1,rfl,J,B,kE S1,g⟩
 intro t5 _ _ _ _ _ _ _ _ _ _ _ _ _ _ _ _ _ w';rintro ⟨G,S2,rfl,t,a0,r,g⟩;have hC:RdC S2 [.int .i64 i.kind,.int .i64 i.n,.string i.name,.slice a i.kids.length q,G] ⟨i,b⟩:=⟨[.int .i64 i.kind,.int .i64 i.n,.string i.name,.slice a i.kids.length q],G,rfl,a0,r⟩
 refine ⟨fun v w'=>v=.bool false/\Inv w [] [B2,B4,.blk Z (.cells #[.int .i64 i.kind,.int .i64 i.n,.string i.name,.slice a i.kids.length q,G] ae)] S2 w',?_,?_⟩
 ·refine eo aD ?_;refine ld (by omega) ?_;refine BU ?_;rw [bb (show (l:Int)=(s.length:Int) - 1 by omega)];refine bh (b:=false) ?_;refine Run.callPure cu cz g (bY s l 46 S2) fun w' g=>?_;refine dD ?_;rw [a2];refine mh ?_;refine bh (b:=false) ?_;refine au g 2 aC rfl rfl ?_;refine Run.callPure o8 pT g (nf hf hC a3 (by omega) a4 (by omega)) fun w' g=>?_;refine EM ?_;rw [bb rfl];refine mh ?_;exact ⟨rfl,g⟩
 intro b0 _ _ _ _ _ _ _ _ _ _ _ _ _ _ _ _ w';rintro ⟨rfl,g⟩;refine aE (fun r=>by cases r) (fun _=>?_);refine au g 2 aC rfl rfl ?_;refine Run.call0E rG r4 g (zt hC (by omega)) fun v I' S3 w'=>?_;rintro ⟨rfl,ds,M,rfl,rfl,hT⟩ a1 g;obtain ⟨S4,g,a7,O⟩:=g.pubExt;have V:=hT.rd O;have Y:=V.length;have a8:=hT.one;subst N;refine al g 0 rfl aC (by simpa using Y) rfl (by simpa using a8) fun w' g=>?_;refine a5 g 0 aC rfl (by simpa using Y) ?_;exact ⟨_,[],S4,rfl,g.nil,(t.trans a1).trans a7,rfl,_,rfl,V⟩
def IG (cs:List Value) (l:Bs):Prop:=cs=[.string (st l)]
theorem zc (s:Bs) (c:Nat) (hs:s.length<=100000):Tri Tryz.prog CG [.string (st s),.int .u8 (c:Int)] [] S fun v I' S'=>I'=[]/\RdSl S' 1 IG v (wz s c s.length 0 0 []):=by
 intro w m;refine sc.2 ?_;dsimp only[sc,a6];refine ey m vk fun v0 w' m=>?_;obtain ⟨R,hR⟩:∃ R,R=wz s c s.length 0 0 []:=⟨_,rfl⟩
 rw [<- hR];refine ⟨fun t u v w'=>∃ (i r:Nat) (j:List Bs) (css:List (List Value)),t=.int .i64 (i:Int)/\u=.int .i64 (r:Int)/\j.length<=i/\((i<=s.length/\r<=i/\wz s c (s.length - i) i r j=R) ∨ (i=s.length+1/\j=R))/\Rows 1 IG css j/\Inv w [] [ax v eO 1 css] S w',
  fun t _ _ _=>s.length+2 - (intOf t).toNat,⟨0,0,[],[],rfl,rfl,a7 _,.inl ⟨aQ _,a7 _,hR.symm⟩,Rows.nil _ _,m⟩,?_⟩
 intro t7 _ _ t6 _ _ V _ _ _ _ _ _ _ _ _ _ _ _ _ _ _ _ _ _ _ _ _ _ w';rintro ⟨i,r,j,css,rfl,rfl,a2,hc,B,m⟩;have a4:=B.hc;refine eo aD ?_;refine fI ?_;refine aR (fun hi=>?_) (fun hi=>?_)
 ·have a0:i<=s.length:=by omega
  obtain ⟨_,hfr,hcut⟩:i<=s.length/\r<=i/\wz s c (s.length - i) i r j=R:=by
   rcases hc with h|h
   ·exact h
   ·omega
  obtain ⟨br,C⟩:∃ br,br=(decide (i=s.length) || sgn s i c):=⟨_,rfl⟩
  refine ⟨fun u v w'=>∃ (p:Nat) (l:List Bs) (o:List (List Value)),u=.int .i64 (p:Int)/\l.length<=i+1/\p<=i+1/\l=(if br=true then j++[cut s r i] else j)/\p=(if br=true then i+1 else r)/\Rows 1 IG o l/\Inv w [] [ax v eO 1 o] S w',?_,?_⟩
  ·refine ⟨fun b w'=>b=.bool br/\Inv w [] [ax V eO 1 css] S w',?_,?_⟩
   ·refine eo aD ?_;by_cases D:i=s.length
    ·refine eB (by omega) ?_;refine rpG ?_;exact ⟨by rw [C,bb D,oU],m⟩
    ·refine dz (by omega) ?_;refine rpG ?_;have U:i<s.length:=by omega
     refine dw aD U ?_;refine bo ?_;refine rpG ?_;refine ⟨?_,m⟩;rw [C,bk D,fo,ib U]
     congr 1
     rw [gN];omega
   intro a3 _ _ _ _ _ _ _ _ _ _ w';rintro ⟨rfl,m⟩;refine aE (fun O=>?_) (fun O=>?_)
   ·refine tu aD hfr a0 ?_;refine nF (css:=css) m 0 vk rfl rfl rfl (by omega) (by omega) fun v' w' m=>?_;refine dN (a:=i) (b:=1) rfl rfl (by omega) ?_;refine ⟨i+1,j++[cut s r i],_,rfl,by rw [bv]; simp only [bg,cd]; omega,a7 _,by rw [ai O],by rw [ai O],B.snoc rfl rfl,m⟩
   ·exact ⟨r,j,css,rfl,by omega,by omega,by rw [ah (by rw [O]; decide)],by rw [ah (by rw [O]; decide)],B,m⟩
  intro t6 _ _ V _ _ _ _ _ _ _ _ _ _ _ _ _ _ _ _ _ _ w';rintro ⟨p,l,o,rfl,J,M,g,q,N,m⟩;refine dN (a:=i) (b:=1) rfl rfl (by omega) ?_;refine ⟨⟨i+1,p,l,o,rfl,rfl,J,?_,N,m⟩,by simp only [intOf,gS]; omega⟩;by_cases D:i=s.length
  ·right;refine ⟨by rw [D],?_⟩;rw [D,dY,wz,<- D] at hcut;rw [g,ai (by rw [C,bb D,oU])];exact hcut
  ·left;refine ⟨by omega,M,?_⟩;rw [show s.length - i=(s.length - (i+1))+1 by omega,wz] at hcut;rw [C,bk D,fo] at g q;split at hcut
   ·rename_i G
    rw [ai G] at g q;rw [g,q];exact hcut
   ·rename_i G
    rw [ah G] at g q;rw [g,q];exact hcut
 ·obtain ⟨_,rfl⟩:i=s.length+1/\j=R:=by
   rcases hc with h|h
   ·omega
   ·exact h
  have a1:Inv w [] ([]++[ax V eO 1 css]) S w':=m;obtain ⟨S1,Y,Z,m⟩:=Inv.lendExt a1;exact ⟨_,[],S1,rfl,m,Y,rfl,RowRd.rows B Z⟩
theorem ww {f:Nat} {a:List Bs} {i:Nat} (h:i<a.length) (g:List C):iu f (a.drop i) g=match o9 f a[i] with
  | none=>none
  | some c=>iu f (a.drop (i+1)) (g++[c]):=by
 rw [dr h,iu];cases o9 f a[i] <;> rfl
theorem no {f:Nat} (hf:f<=100) {s:Bs} {p:List C} (h:Er f s=some p) (hs:s.length<=100000):Tri Tryz.prog js [.string (st s)] [] S fun v I' S'=>∃ u css,v=.tuple #[u,.bool true]/\I'=[ax u ae 5 css]/\Rows 5 (RdC S') css p:=by
 intro w g;refine i5.2 ?_;dsimp only[i5,aG];unfold Er Gh at h;refine ey g rr fun v0 w' g=>?_;refine Run.call0E zM AS g (zc s 10 hs) fun v I' S1 w'=>?_;rintro ⟨rfl,q⟩ a0 g;have g:Inv w [] [ax v0 ae 5 []] S1 w':=g;obtain ⟨j,Y⟩:∃ j,j=wz s 10 s.length 0 0 []:=⟨_,rfl⟩
 rw [<- Y] at q h;simp only [] at h;split at h
 ·cases h
 rename_i hc
 simp only [not_or,ne_eq,Classical.not_not] at hc;obtain ⟨a6,M⟩:=hc;have a7:0<j.length:=by
  cases j with
  | nil=>simp at M
  | cons a l=>simp
 have N:j[j.length - 1]=[]:=by
  rw [List.getLast?_eq_getElem?,Br (by omega)] at M;exact Option.some.inj M
 refine ⟨fun b w'=>b=.bool false/\Inv w [] [ax v0 ae 5 []] S1 w',?_,?_⟩
 ·refine aL q ci ?_;refine ja (by omega) ?_;refine rpG ?_;refine aL q ci ?_;refine ux (a:=j.length) (b:=1) rfl rfl (by omega) (by omega) ?_;have J:j.length - 1<j.length:=by omega
  obtain ⟨b,o,cap,c,E,fz,hv,hS,hR⟩:=q.at_ J;subst hv;refine aN ci J ?_;refine dq aO ((g.cellS hS).trans (aX hR 0 _ rfl)) ?_;refine EM (b:=[]) ?_;rw [bb N];refine rpG ?_;exact ⟨rfl,g⟩
 intro a4 _ _ _ _ _ _ _ _ _ _ _ w';rintro ⟨rfl,g⟩;refine aE (fun hb=>by cases hb) (fun _=>?_);refine ⟨fun a b w'=>∃ (i:Nat) (r:List C) (S2:af) (css:List (List Value)),a=.int .i64 (i:Int)/\i+1<=j.length/\r.length=i/\iu f (j.dropLast.drop i) r=some p/\Sle S1 S2/\Ext w.heap.size [] S S2/\Rows 5 (RdC S2) css r/\Inv w [] [ax b ae 5 css] S2 w',
  fun a _ _=>j.length - (intOf a).toNat,⟨0,[],S1,[],rfl,by omega,rfl,h,Sle.refl _,a0,Rows.nil _ _,g⟩,?_⟩
 intro t6 _ _ t4 _ _ _ _ _ _ _ _ _ _ _ _ _ _ _ _ _ _ _ _ _ _ _ _ w';rintro ⟨i,r,S2,css,rfl,hi,a1,m,D,U,hR,g⟩;have a8:=hR.hc;refine dN (a:=i) (b:=1) rfl rfl (by omega) ?_;refine aL q ci ?_;refine cq ?_;have b0:j.dropLast.length=j.length - 1:=List.length_dropLast;refine aR (fun J=>?_) (fun a5=>?_)
 ·have Z:i<j.length:=by omega
  have O:i<j.dropLast.length:=by omega
  rw [ww O] at m;have eg:j.dropLast[i]=j[i]:=List.getElem_dropLast _;rw [eg] at m;obtain ⟨b,o,cap,c,E,fz,hv,hS,a2⟩:=q.at_ Z;subst hv;split at m
  ·cases m
  rename_i cl V
  refine aN ci Z ?_;refine dq aO ((g.cellS (D _ _ hS)).trans (aX a2 0 _ rfl)) ?_;refine Run.call0E qp qE g (oY hf V) fun v I' S3 w'=>?_;rintro ⟨rfl,ds,rfl,t⟩ G g;have B:=t.length;have a3:=hR.monoR fun _ _ h=>RdC.mono G.1 h;refine aA (v:=.agg ds.toArray) rfl ?_;refine aA (v:=.bool true) rfl ?_;refine aF g bZ fun b7 w' g=>?_;refine al g 1 rfl aC (by simpa using B) rfl (by simpa using t.one) fun w' g=>?_;refine dD ?_;refine aE (fun hb=>by cases hb) (fun _=>?_);refine au g 1 aC rfl (by simpa using B) ?_;refine fj (css:=css) g 0 _ rr (by omega) (by omega) rfl B t.one (by omega) (by omega) fun v' w' g=>?_;have g:Inv w [] [ax v' ae 5 (css++[ds])] S3 w':=g.pick [true,false];refine dN (a:=i) (b:=1) rfl rfl (by omega) ?_;exact ⟨⟨i+1,r++[cl],S3,_,rfl,by omega,by rw [bv,a1]; rfl,m,D.trans G.1,U.trans G,a3.snoc t B,g⟩,by simp only [intOf,gS]; omega⟩
 ·have O:j.dropLast.length<=i:=by omega
  rw [tC O,iu] at m;simp only [a9] at m;subst m;exact ⟨_,_,S2,rfl,g,U,_,css,rfl,rfl,hR⟩
end
end
end Go.Proofs.YtjbcdmheajljpaaGreat

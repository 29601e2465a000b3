/- Which clauses can be unfolded: both sides. -/
import Derived.Test.YtgllldjiaglkcaaGreatDoorZUf2
import Derived.Test.YtgllldjiaglkcaaGreatDoorZUf18
import Derived.Test.YtgllldjiaglkcaaGreatDoorZUf3
import Derived.Test.YtgllldjiaglkcaaGreatDoorZUf8
import Derived.Test.YtgllldjiaglkcaaGreatDoorZUf23
import Derived.Test.YtgllldjiaglkcaaGreatDoorZUf19
namespace Go.Proofs.YtgllldjiaglkcaaGreatDoor
section
open Go Go.RowKit
attribute [local irreducible] Run CondV aq aK

def g6 (c:C):Bool:=match c.body with
 | []=>false
 | g::_=>dH g
def lJ (c:C):Bool:=c.body.any eA
def lP (p:List C) (n:Int):Bool:=match p[n.toNat]? with
 | some c=>lJ c
 | none=>false
def jm (p:List C) (g:T):List Int:=dT (fun c=>gP (bN c.head) (bN g)) p 0
def LB (p:List C) (i:Int) (c:C):Bool:=match c.body with
 | []=>false
 | g::_=>dH g && (decide (0<(jm p g).length) && (!lJ c && (jm p g).all fun n=>!(lP p n || decide (n=i))))
def lD (p:List C) (i:Int):Bool:=c8 p && (decide (0<=i) && match p[i.toNat]? with
 | none=>false
 | some c=>LB p i c)
theorem ie {c:C} (h:g6 c=true):∃ g gs,c.body=g::gs/\dH g=true:=by
 unfold g6 at h;split at h
 ·cases h
 ·exact ⟨_,_,‹_›,h⟩
theorem xf {p:List C} {i:Int} {c:C} (h:g6 c=false):LB p i c=false:=by
 unfold g6 at h;unfold LB;split at h
 ·rfl
 ·simp [h]

theorem AX {c:C} {S:ae} {cs:List Value} (h:RdC S cs c):Pure Tryz.prog KB [.agg cs.toArray] S (.bool (g6 c)):=by
 intro w a;obtain ⟨hd,ks,rfl,r,o⟩:=h;obtain ⟨kv,rfl,_⟩:=RdT.iff.1 r;refine vW.2 ?_;dsimp only[vW,aO];refine bJ a fun t w' a=>?_;refine af a 0 rfl aT al rfl ?_;refine aJ o ah ?_;refine eP ?_;cases m:c.body with
 | nil=>
  rw [show decide ((0:Int)<(([]:List T).length:Int))=false from rfl];refine rpG ?_;exact done a (by rw [g6,m])
 | cons g gs=>
  have l:0<c.body.length:=by rw [m]; simp
  rw [show decide ((0:Int)<((g::gs).length:Int))=true from aN (by simp)];refine rpG ?_;refine af a 0 rfl aT al rfl ?_;refine cn (i:=0) a o ah ad l (fun _ _=>RdT.length) fun q f=>?_;refine Run.callPure qp qg a (oA f) fun w' a=>?_;refine rpG ?_;refine done a ?_;rw [g6];simp [m]
theorem wM {c:C} {S:ae} {cs:List Value} (h:RdC S cs c):Pure Tryz.prog Fp [.agg cs.toArray] S (.bool (g6 c)):=by
 intro w a;obtain ⟨hd,ks,rfl,r,o⟩:=h;obtain ⟨kv,rfl,_⟩:=RdT.iff.1 r;refine rO.2 ?_;dsimp only[rO,aO];refine bJ a fun t w' a=>?_;refine af a 0 rfl aT al rfl ?_;refine aJ o ah ?_;refine eP ?_;cases m:c.body with
 | nil=>
  rw [show decide ((0:Int)<(([]:List T).length:Int))=false from rfl];refine rpG ?_;exact done a (by rw [g6,m])
 | cons g gs=>
  have l:0<c.body.length:=by rw [m]; simp
  rw [show decide ((0:Int)<((g::gs).length:Int))=true from aN (by simp)];refine rpG ?_;refine af a 0 rfl aT al rfl ?_;refine cn (i:=0) a o ah ad l (fun _ _=>RdT.length) fun q f=>?_;refine Run.callPure qH qz a (oE f) fun w' a=>?_;refine rpG ?_;refine done a ?_;rw [g6];simp [m]

theorem wk {c:C} {S:ae} {cs:List Value} (h:RdC S cs c):Pure Tryz.prog Np [.agg cs.toArray] S (.bool (lJ c)):=by
 intro w a;obtain ⟨hd,ks,rfl,G,t⟩:=h;obtain ⟨kv,rfl,_⟩:=RdT.iff.1 G;have o:=t.le;simp only [maxLen] at o;refine yT.2 ?_;dsimp only[yT,aO];refine bJ a fun B w' a=>?_;refine ⟨fun i w'=>∃ j:Nat,j<=c.body.length/\i=.int .i64 j/\(c.body.drop j).any eA=lJ c/\Inv w [] [.blk B (.cells #[.int .i64 c.head.kind,.int .i64 c.head.n,.string c.head.name,kv,ks] ac)] S w',
  fun i _=>c.body.length - (intOf i).toNat,⟨0,bk _,rfl,rfl,a⟩,?_⟩
 intro J _ _ _ _ _ _ _ _ _ _ _ _ _ _ w';rintro ⟨j,M,rfl,f,a⟩;refine af a 0 rfl aT al rfl ?_;refine aJ t ah ?_;refine bT ?_;refine aL (fun q=>?_) (fun q=>?_)
 ·have l:j<c.body.length:=by omega
  have g:=EL eA c.body j l;refine af a 0 rfl aT al rfl ?_;refine cn a t ah ad l (fun _ _=>RdT.length) fun D m=>?_;refine Run.callPure Fq F9 a (B7 m) fun w' a=>?_;refine aD (fun r=>done a ?_) (fun r=>?_)
  ·rw [<- f,g,r]; rfl
  ·refine bC (by omega) ?_;exact ⟨⟨j+1,l,rfl,by rw [<- f,g,r]; rfl,a⟩,by simp [intOf]; omega⟩
 ·have:j=c.body.length:=by omega
  subst this;exact done a (by rw [<- f,eD]; rfl)
theorem zV {c:C} {S:ae} {cs:List Value} (h:RdC S cs c):Pure Tryz.prog QM [.agg cs.toArray] S (.bool (lJ c)):=by
 intro w a;obtain ⟨hd,ks,rfl,m,o⟩:=h;obtain ⟨kv,rfl,_⟩:=RdT.iff.1 m;refine C9.2 ?_;dsimp only[C9,aO];refine bJ a fun q w' a=>?_;refine af a 0 rfl aT al rfl ?_;have g:Cb Tryz.prog Js _ [] S (fun _:Unit=>[]) (fun _=>True) (fun _ x=>(eA x,())) (fun v x=>∃ cs,v=.agg cs.toArray/\RdT S cs x) c.body:=
  Cb.pure [] xb xq fun x v _=>by
   rintro ⟨cs,rfl,f⟩ i a;exact (ub f i a).mono fun e w' ⟨l,a⟩=>⟨_,_,_,l,a,Ext.refl _ _ _,rfl,rfl,rfl⟩
 refine Run.call0 eL eJ a (gV g o (st:=()) trivial) fun r I' S' w'=>?_;rintro ⟨rfl,rfl,rfl⟩ _ a;refine done a ?_;rw [jZ eA c.body]; rfl

theorem AZ {p:List C} {S:ae} {v:Value} (i:Int) (h:RdSl S 5 (RdC S) v p) (hw:p.length+wP p<=1048576):Pure Tryz.prog HO [v,.int .i64 i] S (.bool (lD p i)):=by
 intro w a;refine tx.2 ?_;dsimp only[tx,bm];refine ⟨fun t w'=>∃ q,t=.bool q/\(q=true->lD p i=false)/\(q=false->c8 p=true/\∃ (k:Nat) (hk:k<p.length),i=k/\g6 p[k]=true)/\Inv w [] [] S w',?_,?_⟩
 ·refine Run.callPure nt nz a (lg h (by omega)) fun w' a=>?_;refine cw ?_;cases hv:c8 p
  ·refine rpG ?_;exact ⟨true,rfl,fun _=>by rw [lD,hv]; rfl,aI,a⟩
  ·refine rpG ?_;refine bT ?_;by_cases h0:i<0
   ·rw [aN h0];refine rpG ?_;exact ⟨true,rfl,fun _=>by rw [lD,hv,aZ (show ¬ 0<=i by omega)]; rfl,aI,a⟩
   ·rw [aZ h0];refine rpG ?_;refine aJ h bf ?_;refine jM ?_;by_cases h1:(p.length:Int)<=i
    ·rw [aN h1];refine rpG ?_;refine ⟨true,rfl,fun _=>?_,aI,a⟩;rw [lD,hv,NX (by omega)]; simp
    ·rw [aZ h1];refine rpG ?_;obtain ⟨k,rfl⟩:∃ k:Nat,i=k:=⟨i.toNat,by omega⟩
     have hk:k<p.length:=by omega
     refine cn a h bf aH hk (fun _ _=>RdC.length) fun G f=>?_;refine Run.callPure Ig HN a (AX f) fun w' a=>?_;refine cw ?_;refine rpG ?_;refine ⟨_,rfl,fun hq=>?_,fun hq=>⟨rfl,k,hk,rfl,by simpa using hq⟩,a⟩;have a8:g6 p[k]=false:=by simpa using hq
     rw [lD,hv,cu,ez hk];simp [xf a8]
 intro t _ _ _ _ _ _ _ _ _ _ _ _ _ _ _ _ _ _ _ _ w';rintro ⟨q,rfl,a2,a3,a⟩;refine aD (fun N=>done a (by rw [a2 N])) (fun N=>?_);obtain ⟨a5,k,hk,rfl,Y⟩:=a3 N;obtain ⟨g,gs,U,a6⟩:=ie Y;have a9:0<p[k].body.length:=by rw [U]; simp
 have b0:p[k].body[0]=g:=by simp [U]
 have hu:lD p k=(decide (0<(jm p g).length) && (!lJ p[k] && (jm p g).all fun n=>!(lP p n || decide (n=(k:Int))))):=by
  rw [lD,a5,cu,ez hk];simp only [LB,U,a6];rw [aN (show (0:Int)<=k by omega)];simp
 refine Lc a h bf aT al hk fun G f=>?_;obtain ⟨hd,ks,rfl,h1,h2⟩:=f;obtain ⟨kv,rfl,_⟩:=RdT.iff.1 h1;refine ⟨ks,rfl,?_⟩;refine cn (i:=0) a h2 ah ad a9 (fun _ _=>RdT.length) fun G f=>?_;rw [b0] at f;refine Run.call0 He EQ a (CR h f (by omega)) fun v1 I' S w'=>?_;rintro ⟨rfl,rfl⟩ _ a;have a:Inv w [] ([]++[dk v1 (jm p g)]) S w':=a;obtain ⟨S1,J,a7,a,_⟩:=a.lend;have Z:=a7.ints;have h':=h.monoC J;have M:∀ n∈jm p g,∃ (j:Nat) (hj:j<p.length),n=j:=by
  intro n hn;obtain ⟨j,_,h2,h3,_⟩:=mt _ p 0 n hn;exact ⟨j,h3,by omega⟩
 have b1:(jm p g).length<=p.length:=je _ p 0;generalize jm p g=l at Z hu M b1;refine ⟨fun i w'=>∃ j:Nat,j<=l.length/\i=.int .i64 j/\(l.drop j).all (fun n=>!(lP p n || decide (n=(k:Int))))=l.all (fun n=>!(lP p n || decide (n=(k:Int))))/\Inv w [] [] S1 w',
  fun i _=>l.length - (intOf i).toNat,⟨0,bk _,rfl,rfl,a⟩,?_⟩
 intro t6 _ _ _ _ _ _ _ _ _ _ _ _ _ _ _ _ _ _ _ _ _ _ _ w';rintro ⟨j,hj,rfl,o,a⟩;refine aJ Z cz ?_;refine bT ?_;refine aL (fun a4=>?_) (fun a4=>?_)
 ·have B:j<l.length:=by omega
  have D:=zq (fun n=>!(lP p n || decide (n=(k:Int)))) l j B;obtain ⟨m,hm,r⟩:=M _ (bG B);have a0:lP p l[j]=lJ p[m]:=by
   rw [lP,r,cu,ez hm]
  refine ⟨fun t w'=>t=.bool (lJ p[m] || decide ((m:Int)=k))/\Inv w [] [] S1 w',?_,?_⟩
  ·refine ff a Z cz aG B (fun cs O=>O) ?_;rw [r];refine cn a h' bf aH hm (fun _ _=>RdC.length) fun G f=>?_;refine Run.callPure xQ yN a (wk f) fun w' a=>?_;cases hc:lJ p[m]
   ·refine rpG ?_;refine ff a Z cz aG B (fun cs O=>O) ?_;rw [r];refine bw ?_;refine rpG ?_;exact ⟨rfl,a⟩
   ·refine rpG ?_;exact ⟨rfl,a⟩
  intro t _ _ _ _ _ _ _ _ _ _ _ _ _ _ _ w';rintro ⟨rfl,a⟩;refine aD (fun N=>iy a J ?_) (fun N=>?_)
  ·have:l.all (fun n=>!(lP p n || decide (n=(k:Int))))=false:=by
    rw [<- o,D,a0,r,N]; rfl
   rw [hu,this]; simp
  ·refine bC (by omega) ?_;exact ⟨⟨j+1,B,rfl,by rw [<- o,D,a0,r,N]; rfl,a⟩,by simp [intOf]; omega⟩
 ·have:j=l.length:=by omega
  subst this;have V:l.all (fun n=>!(lP p n || decide (n=(k:Int))))=true:=by rw [<- o,eD]; rfl
  refine aJ Z cz ?_;refine eP ?_;rw [hu,V];by_cases a1:0<l.length
  ·rw [aN a1,aN (show (0:Int)<l.length by omega)];refine rpG ?_;refine cn a h' bf aH hk (fun _ _=>RdC.length) fun G f=>?_;refine Run.callPure xQ yN a (wk f) fun w' a=>?_;refine cw ?_;refine rpG ?_;exact iy a J (by simp)
  ·rw [aZ a1,aZ (show ¬ (0:Int)<l.length by omega)];refine rpG ?_;exact iy a J rfl
end
section
open Go Go.RowKit
def VS (c d:C):Bool:=bt c && (bt d && g6 c)
theorem Sd {c d:C} (h:VS c d=true):bt c=true/\bt d=true/\c.body≠[]:=by
 rw [VS,bM,bM] at h;obtain ⟨g,gs,e,_⟩:=ie h.2.2;exact ⟨h.1,h.2.1,by rw [e]; simp⟩
def RB (c d r:C) (b:Bool):Prop:=(VS c d=false/\r=R9/\b=false) ∨ (VS c d=true/\∃ o,RO c d o/\((yC o=true/\r=clO o/\b=true) ∨ (yC o=false/\r=R9/\b=false)))
theorem RB.ex {c d:C} (h:wC c<=1048576) (f:wC d<=1048576):∃ r b,RB c d r b:=by
 cases a:VS c d with
 | false=>exact ⟨_,_,.inl ⟨a,rfl,rfl⟩⟩
 | true=>
  obtain ⟨i,l,m⟩:=Sd a;obtain ⟨o,g⟩:=RO.ex i l h f m;cases hk:yC o with
  | false=>exact ⟨_,_,.inr ⟨a,o,g,.inr ⟨hk,rfl,rfl⟩⟩⟩
  | true=>exact ⟨_,_,.inr ⟨a,o,g,.inl ⟨hk,rfl,rfl⟩⟩⟩
theorem xT:wC R9<=20000:=by decide +kernel
theorem X8 {c d:C} (g:bt c=true) (h:bt d=true) (m:wC c<=1048576) (i:wC d<=1048576) (q:c.body≠[]) {o:Option (Option C)} (t:RO c d o):wC (clO o)<=20000:=by
 obtain ⟨r,st,B,f⟩:=t;rcases f with ⟨_,rfl⟩|⟨_,us,l,⟨_,rfl⟩|⟨G,rfl⟩⟩
 ·exact xT
 ·exact xT
 ·have D:=(B.good jl (pl g h m i q)).1;obtain ⟨e1,e2⟩:=fg D l (sC g h);have hl:=A4 g h;have a:=zR G e1;show wC (vq (bX (ofL us)) (ofL us))<=20000;rw [TT]
  match us,a,e2 with
  | [],_,_=>exact xT
  | u::us,a,e2=>
   rw [wL] at a;rw [bq] at a e2;simp only [wC,ofL];omega
theorem RB.w {c d r:C} {b:Bool} (h:RB c d r b) (f:wC c<=1048576) (a:wC d<=1048576):wC r<=20000:=by
 rcases h with ⟨_,rfl,_⟩|⟨m,o,q,⟨_,rfl,_⟩|⟨_,rfl,_⟩⟩
 ·exact xT
 ·obtain ⟨g,i,l⟩:=Sd m;exact X8 g i f a l q
 ·exact xT
section
attribute [local irreducible] Run CondV aq aK
end
end
section
open Go Go.RowKit
theorem Oo {st:aj} {t v:T} (h:dv st t v):∀ f,dv st t f->f=v:=by
 induction h with
 | stop hl=>
  intro f g;cases g with
  | stop _=>rfl
  | step a _=>rw [hl] at a; cases a
 | step hl _ i=>
  intro f g;cases g with
  | stop a=>rw [hl] at a; cases a
  | step a l=>rw [hl] at a; cases a; exact i _ l
theorem R7 {st:aj} {j:OI} (h:Res st j):match j with
  | .one t u=>∀ g,Res st (.one t g)->g=u
  | .list ts us=>∀ a,Res st (.list ts a)->a=us:=by
 induction h with
 | one q _ r=>
  intro g f;cases f with
  | one i l=>
   obtain rfl:=Oo q _ i;rw [r _ l]
 | nil=>
  intro a f;cases f;rfl
 | cons _ _ m o=>
  intro a f;cases f with
  | cons B D=>rw [m _ B,o _ D]
open Classical in
noncomputable def sgR (st:aj) (n:Int):T:=if h:∃ u,Res st (.one (idS n) u) then h.choose else idS n
theorem UU {st:aj} {n:Int} {u:T} (h:Res st (.one (idS n) u)):sgR st n=u:=by
 have a:∃ u,Res st (.one (idS n) u):=⟨u,h⟩
 rw [sgR,dif_pos a];exact R7 h _ a.choose_spec
theorem Wv {N:Nat} {st:aj} {j:OI} (o:Res st j):match j with
  | .one t u=>okU N t->u=sbT (sgR st) t
  | .list ts us=>bL N ts->us=sbL (sgR st) ts:=by
 induction o with
 | one m hl r=>
  rename_i t v us
  intro a;by_cases hk:t.kind=1
  ·obtain ⟨_,_,h,i⟩:=a.var hk;obtain ⟨k,n,s,ks⟩:=t;simp only [T.kind,T.name,T.kids] at hk h i;subst hk; subst h; subst i;rw [sbT,ai rfl];exact (UU (.one m hl)).symm
  ·have q:v=t:=Oo (.stop (uY.2 fun e=>absurd e hk)) _ m;subst q;have l:=r a.kids;obtain ⟨k,n,s,ks⟩:=v;simp only [T.kind] at hk;rw [sbT,ag hk];simp only [T.kids] at l;rw [l];rfl
 | nil=>exact fun _=>rfl
 | cons _ _ f g=>
  intro a;rw [bL] at a;rw [sbL,f a.1,g a.2]
theorem Xu {N:Nat} {c:C} (g:okU N c.head) (h:bL N c.body):vq (bX c) c=⟨mvT (ou (bX c)) c.head,mvL (ou (bX c)) c.body⟩/\inT (bX c) c.head/\inL (bX c) c.body/\cU (c.head::c.body) []=bX c:=by
 obtain ⟨f,_,_⟩:=Sy g h;have a:=pX (c.head::c.body) [];rw [f,inL] at a;have hd:(bX c).Nodup:=by rw [<- f]; exact nL _ _ xy
 refine ⟨?_,a.1,a.2,f⟩;have hl:∀ n∈bX c,k0 (bX c) n n 0=ou (bX c) n:=fun n hn=>BE _ n n 0 hn hd;rw [vq,NZ,EW,Rp hl _ a.1,KG hl _ a.2]
end
section
open Go Go.RowKit
def jJ (σ:Int->T) (st:aj):Prop:=∀ (n:Nat) (u:T),st[n]?=some (some u)->σ n=sbT σ u
mutual
def tsz:T->Nat
 | .mk _ _ _ ks=>1+Xk ks
def Xk:List T->Nat
 | []=>0
 | t::ts=>tsz t+Xk ts
end
theorem kH (σ:Int->T) {t:T} (h:t.kind=1):sbT σ t=σ t.n:=by
 cases t;rw [sbT];exact ai h
theorem oo (σ:Int->T) {t:T} (h:t.kind≠1):sbT σ t=.mk t.kind t.n t.name (sbL σ t.kids):=by
 cases t;rw [sbT];exact ag h
mutual
theorem XV {N:Nat} (σ:Int->T):∀ t:T,okU N t->∀ m∈vT t,tsz (σ (m:Int))<=tsz (sbT σ t)
 | .mk k n s ks,h,m,hm=>by
  rw [okU] at h;rw [vT] at hm;rw [sbT];split at hm
  ·rename_i hk
   obtain ⟨a,_⟩:=h.2.1 hk;simp only [bK] at hm;subst hm;rw [ai hk,mY a];exact aS _
  ·rename_i hk
   have:=O6 σ ks h.2.2.1 m hm;rw [ag hk,tsz];omega
theorem O6 {N:Nat} (σ:Int->T):∀ ts:List T,bL N ts->∀ m∈vTL ts,tsz (σ (m:Int))<=Xk (sbL σ ts)
 | [],_,m,a=>by simp [vTL] at a
 | t::ts,h,m,a=>by
  rw [bL] at h;rw [vTL,bF] at a;rw [sbL,Xk];rcases a with a|a
  ·have:=XV σ t h.1 m a;omega
  ·have:=O6 σ ts h.2 m a;omega
end
theorem ZR {N:Nat} (σ:Int->T) {t:T} (h:okU N t) (hk:t.kind≠1) {m:Nat} (a:m∈vT t):tsz (σ (m:Int))<tsz (sbT σ t):=by
 rw [yx hk] at a;have:=O6 σ t.kids h.kids m a;rw [oo σ hk,tsz];omega
theorem YH {N:Nat} {st:aj} (f:Good N st) {σ:Int->T} (g:jJ σ st) {m n:Nat} (h:Rch st m n):tsz (σ (n:Int))<=tsz (σ (m:Int)):=by
 induction h with
 | refl=>exact aS _
 | step a i _ l=>
  rw [g _ _ a];exact gy l (XV σ _ (f.ok _ (cA a)) _ i)
theorem UZ {N:Nat} {st:aj} (a:Good N st) {σ:Int->T} (f:jJ σ st) {n:Nat} {t:T} (g:okU N t) (hk:t.kind≠1) (h:fD st n t):σ (n:Int)≠sbT σ t:=by
 obtain ⟨m,i,l⟩:=h;intro e;have o:=YH a f l;have q:=ZR σ g hk i;rw [e] at o;omega
theorem XD {st:aj} {n:Nat} {t:T} (hk:t.kind=1) (hl:look st t=none) (g:fD st n t):t.n.toNat=n:=by
 obtain ⟨m,a,h⟩:=g;rw [js hk,bK] at a;subst a;cases h with
 | refl=>rfl
 | step f _ _=>rcases uY.1 hl hk with e|e <;> rw [e] at f <;> cases f
theorem gA {N:Nat} {st:aj} (f:Good N st) {σ:Int->T} (g:jJ σ st) {t v:T} (h:dv st t v):okU N t->sbT σ v=sbT σ t:=by
 induction h with
 | stop=>exact fun _=>rfl
 | step hl _ m=>
  intro i;obtain ⟨hk,a⟩:=di.1 hl;have l:=(i.var hk).1;rw [m (f.look_ok hl).1,kH σ hk,<- g _ _ a,mY l]
theorem Na {σ:Int->T} {st:aj} {n:Nat} {t:T} (hn:st[n]?=some none):jJ σ (st.set n (some t))↔jJ σ st/\σ (n:Int)=sbT σ t:=by
 have f:n<st.length:=(fa.1 hn).1;constructor
 ·intro h;refine ⟨fun m u a=>h m u ?_,h n t (RN f)⟩;rw [xX (fun e=>by subst e; rw [hn] at a; cases a)];exact a
 ·rintro ⟨h,g⟩ m u a;by_cases e:n=m
  ·subst e;rw [RN f,aY,aY] at a;rw [<- a]; exact g
  ·rw [xX e] at a;exact h m u a
def Jeq (σ:Int->T):Job->Prop
 | .one a b=>sbT σ a=sbT σ b
 | .list xs ys=>sbL σ xs=sbL σ ys
theorem Ss {σ:Int->T} {a b:T} (l:a.kind≠1) (m:b.kind≠1):sbT σ a=sbT σ b↔pV a b=true/\sbL σ a.kids=sbL σ b.kids:=by
 rw [oo σ l,oo σ m,T.mk.injEq,Wk];constructor
 ·rintro ⟨g,h,i,f⟩;have:=congrArg List.length f;rw [lX,lX] at this;exact ⟨⟨g,h,i,this⟩,f⟩
 ·rintro ⟨⟨g,h,i,_⟩,f⟩;exact ⟨g,h,i,f⟩
theorem Uni.sem {N:Nat} {st t:aj} {j:Job} {r:Bool} (hu:Uni st j r t):Good N st->okJ N j->∀ σ,(r=true->(jJ σ t↔jJ σ st/\Jeq σ j))/\(r=false->jJ σ st->¬ Jeq σ j):=by
 induction hu with
 | same m l G U he=>
  intro f g σ;refine ⟨fun _=>⟨fun i=>⟨i,?_⟩,fun h=>h.1⟩,fun h=>by cases h⟩;show sbT σ _=sbT σ _;rw [<- gA f i m g.1.1,<- gA f i l g.2.1,kH σ G,kH σ U,he]
 | bindA m l hk o O=>
  intro f g σ;have B:=(dz f m g.1).1;have M:=(B.var hk).1;rw [Na (pB f hk (gJ m) B),mY M];refine ⟨fun _=>and_congr_right fun i=>?_,fun h=>by cases h⟩;show _↔sbT σ _=sbT σ _;rw [<- gA f i m g.1.1,<- gA f i l g.2.1,kH σ hk]
 | occA m l hk o O=>
  rename_i st a b a' V
  intro f g σ;refine ⟨fun h=>(by cases h),fun _ i=>?_⟩;have B:=(dz f m g.1).1;have Z:=(dz f l g.2).1;have M:=(B.var hk).1;show ¬ sbT σ _=sbT σ _;rw [<- gA f i m g.1.1,<- gA f i l g.2.1,kH σ hk];by_cases D:V.kind=1
  ·have e:=XD D (gJ l) O;have G:=(Z.var D).1;exact absurd ⟨D,by omega⟩ o
  ·have:=UZ f i Z D O
   rwa [mY M] at this
 | bindB m l o hk O=>
  intro f g σ;have B:=(dz f l g.2).1;have M:=(B.var hk).1;rw [Na (pB f hk (gJ l) B),mY M];refine ⟨fun _=>and_congr_right fun i=>?_,fun h=>by cases h⟩;show _↔sbT σ _=sbT σ _;rw [<- gA f i m g.1.1,<- gA f i l g.2.1,kH σ hk];exact wW
 | occB m l o hk O=>
  intro f g σ;refine ⟨fun h=>(by cases h),fun _ i=>?_⟩;have B:=(dz f l g.2).1;have Z:=(dz f m g.1).1;have M:=(B.var hk).1;show ¬ sbT σ _=sbT σ _;rw [<- gA f i m g.1.1,<- gA f i l g.2.1,kH σ hk];have:=UZ f i Z o O;rw [mY M] at this;exact fun e=>this e.symm
 | clash m l G U hd=>
  intro f g σ;refine ⟨fun h=>(by cases h),fun _ i=>?_⟩;show ¬ sbT σ _=sbT σ _;rw [<- gA f i m g.1.1,<- gA f i l g.2.1,Ss G U,hd];exact fun e=>by cases e.1
 | @kids st t a b a' V r m l G U hd _ ih=>
  intro f g σ;obtain ⟨Y,i2⟩:=ih f ⟨jr (dz f m g.1),jr (dz f l g.2),oL hd⟩ σ;have e:jJ σ st->(Jeq σ (.one a b)↔Jeq σ (.list a'.kids V.kids)):=fun i=>by
   show sbT σ a=sbT σ b↔sbL σ a'.kids=sbL σ V.kids;rw [<- gA f i m g.1.1,<- gA f i l g.2.1,Ss G U,hd];simp
  exact ⟨fun J=>(Y J).trans (and_congr_right fun i=>(e i).symm),fun J i q=>i2 J i ((e i).1 q)⟩
 | nil=>
  intro f g σ;exact ⟨fun _=>⟨fun h=>⟨h,rfl⟩,fun h=>h.1⟩,fun h=>by cases h⟩
 | stop _ ih=>
  intro f g σ;obtain ⟨_,i2⟩:=ih f ⟨g.1 _ (aM ..),g.2.1 _ (aM ..)⟩ σ;refine ⟨fun h=>(by cases h),fun _ i q=>i2 rfl i ?_⟩;have q:sbL σ (_::_)=sbL σ (_::_):=q;rw [sbL,sbL,dK] at q;exact q.1
 | @go st a2 t a b xs ys r G _ a0 a1=>
  intro f g σ;have j1:okJ N (.one a b):=⟨g.1 _ (aM ..),g.2.1 _ (aM ..)⟩
  have j2:okJ N (.list xs ys):=⟨fun a m=>g.1 a (aR _ m),fun b l=>g.2.1 b (aR _ l),by have:=g.2.2; simpa using this⟩
  obtain ⟨Y,_⟩:=a0 f j1 σ;obtain ⟨i3,i4⟩:=a1 (G.good f j1).1 j2 σ;have e:Jeq σ (.list (a::xs) (b::ys))↔Jeq σ (.one a b)/\Jeq σ (.list xs ys):=by
   show sbL σ (a::xs)=sbL σ (b::ys)↔_;rw [sbL,sbL,dK];exact Iff.rfl
  refine ⟨fun J=>?_,fun J i q=>?_⟩
  ·rw [i3 J,Y rfl,e,and_assoc]
  ·rw [e] at q;exact i4 J ((Y rfl).2 ⟨i,q.1⟩) q.2
theorem R0 {N:Nat} {st:aj} (f:Good N st) (κ:Int->T):jJ (fun n=>sbT κ (sgR st n)) st:=by
 intro n u hn;have h:=f.ok u (cA hn);obtain ⟨r,g⟩:=K0 f u h;have a:Res st (.one (idS (n:Int)) r):=by
  cases g with
  | one i hl=>exact .one (.step (di.2 ⟨rfl,by rw [idS]; exact hn⟩) i) hl
 show sbT κ (sgR st n)=_;rw [UU a,Wv g h,NL]
theorem RQ {N:Nat} {st:aj} (h:Good N st) {σ:Int->T} (m:jJ σ st) {j:OI} (o:Res st j):match j with
  | .one t u=>okU N t->sbT σ u=sbT σ t
  | .list ts us=>bL N ts->sbL σ us=sbL σ ts:=by
 induction o with
 | one l hl q=>
  rename_i t v us
  intro a;have i:=Ex h l a;rw [<- gA h m l a];by_cases hk:v.kind=1
  ·obtain ⟨_,_,r,B⟩:=i.var hk;rw [kH σ hk,kH σ (t:=.mk v.kind v.n v.name us) hk];rfl
  ·rw [oo σ hk,oo σ (t:=.mk v.kind v.n v.name us) hk];exact congrArg _ (q i.kids)
 | nil=>exact fun _=>rfl
 | cons _ _ f g=>
  intro a;rw [bL] at a;rw [sbL,sbL,f a.1,g a.2]
mutual
theorem pp {N:Nat} {σ τ:Int->T} (h:∀ n:Int,0<=n->n<N->σ n=τ n):∀ t:T,okU N t->sbT σ t=sbT τ t
 | .mk k n s ks,ho=>by
  rw [okU] at ho;rw [sbT,sbT];by_cases hk:k=1
  ·obtain ⟨a,f,_⟩:=ho.2.1 hk;rw [ai hk,ai hk,h n a f]
  ·rw [ag hk,ag hk,jU h ks ho.2.2.1]
theorem jU {N:Nat} {σ τ:Int->T} (h:∀ n:Int,0<=n->n<N->σ n=τ n):∀ ts:List T,bL N ts->sbL σ ts=sbL τ ts
 | [],_=>rfl
 | t::ts,ho=>by
  rw [bL] at ho;rw [sbL,sbL,pp h t ho.1,jU h ts ho.2]
end
theorem QW {N:Nat} {st:aj} (a:Good N st) {σ τ:Int->T} (h:∀ n:Int,0<=n->n<N->σ n=τ n) (f:jJ σ st):jJ τ st:=by
 intro n u hn;have g:=(fa.1 hn).1;have hl:=a.len;rw [<- h n (by omega) (by omega),f n u hn];exact pp h u (a.ok u (cA hn))
mutual
theorem uV (σ:Int->T) (m:Int):∀ t:T,sbT σ (bp m t)=sbT (fun n=>σ (n+m)) t
 | .mk k n s ks=>by
  rw [bp,sbT,sbT];by_cases hk:k=1
  ·rw [ai hk,ai hk,ai hk]
  ·rw [ag hk,ag hk,ag hk,uU σ m ks]
theorem uU (σ:Int->T) (m:Int):∀ ts:List T,sbL σ (dM m ts)=sbL (fun n=>σ (n+m)) ts
 | []=>rfl
 | t::ts=>by rw [dM,sbL,sbL,uV σ m t,uU σ m ts]
end
theorem Bw (σ:Int->T) (st:aj) (k:Nat):jJ σ (st++List.replicate k none)↔jJ σ st:=by
 constructor
 ·intro h n u hn;exact h n u (by rw [vB (fa.1 hn).1]; exact hn)
 ·intro h n u hn;rw [VP] at hn;split at hn
  ·exact h n u hn
  ·rw [OG] at hn;split at hn <;> cases hn
def vu (N:Nat) (σ τ:Int->T):Int->T:=fun n=>if n<N then σ n else τ (n - N)
theorem Lj {N:Nat} (σ τ:Int->T):∀ n:Int,0<=n->n<N->σ n=vu N σ τ n:=fun n _ h=>by rw [vu,ai h]
theorem Q8 {N M:Nat} (σ τ:Int->T) {t:T} (a:okU M t):sbT (vu N σ τ) (bp N t)=sbT τ t:=by
 rw [uV];refine pp (N:=M) (fun n f _=>?_) t a;rw [vu,ag (by omega)]
 congr 1
 omega
end
section
open Go Go.RowKit
structure HdP (R:T->Prop):Prop where
 hd:∀ t u,R t->sameHd t u->R u
 three:∀ t,R t->t.kind=3
structure Nc (R:T->Prop) (s:SI):Prop where
 goals:∀ g∈s.goals,R g.t
 chs:∀ c∈s.chs,∀ g∈c.rest,R g.t
def ncT (t:T):Prop:=t.kind=3/\eA t=false
theorem ncT.hd {t u:T} (h:ncT t) (a:sameHd t u):ncT u:=⟨by rw [a.1]; exact h.1,by rw [kz a]; exact h.2⟩
theorem ncT_hd:HdP ncT:=⟨fun _ _ h a=>h.hd a,fun _ h=>h.1⟩
section
variable {R:T->Prop} (hR:HdP R)
include hR
theorem HdP.shift {t:T} (h:R t) (m:Int):R (bp m t):=hR.hd t _ h (sameHd.shift m t (by have:=hR.three t h; omega))
theorem R4 {p:List C} (m:∀ cl∈p,∀ b∈cl.body,R b) {cs:List CI} {ns:List NI} {g:T} {a:Int} {rest:List GI} {b:aj} {r:HI} (o:r.cl∈p) (q:∀ c∈cs,∀ g∈c.rest,R g.t) (i:∀ g∈rest,R g.t):Nc R (gD cs ns g a rest b r):=by
 refine ⟨fun x B=>?_,fun c hc=>?_⟩
 ·have h:x∈fC r.cl r.by_ cs.length a rest:=B;unfold fC at h;rcases bF.1 h with h|h
  ·obtain ⟨t,D,rfl⟩:=dp.1 h;exact hR.shift (m _ o t D) _
  ·exact i x h
 ·have f:c∈cs++(if r.l=[] then [] else [(⟨g,a,rest,r.l,b,ns.length⟩:CI)]):=hc;rcases bF.1 f with f|f
  ·exact q c f
  ·split at f
   ·cases f
   ·rw [bK.1 f]; exact i
omit hR in
theorem TryI.mem {p:List C} {g:T} {l:List Int} {st:aj} {o:Option HI} {n:Nat} (h:TryI p g l st o n):∀ r,o=some r->r.cl∈p:=by
 induction h with
 | nil=>intro r h; cases h
 | hit a _=>intro r h; cases h; exact cA a
 | miss _ _ _ f=>exact f
theorem BackI.nc {p:List C} (i:∀ cl∈p,∀ b∈cl.body,R b) {cs:List CI} {n:Nat} {ns:List NI} {o:Option SI} (h:BackI p cs n ns o):(∀ c∈cs,∀ g∈c.rest,R g.t)->∀ s,o=some s->Nc R s:=by
 induction h with
 | nil=>intro _ s h; cases h
 | hit f=>
  intro a s h;cases h;exact R4 hR i (f.mem _ rfl) (fun c hc=>a c (cZ _ hc)) (a _ (by simp))
 | miss f _ l=>intro a; exact l fun c hc=>a c (cZ _ hc)
theorem StepI.nc {p:List C} (l:∀ cl∈p,∀ b∈cl.body,R b) {s:SI} {o:Option SI} {e:Int} {nc:Bool} (h:StepI p nc s o e) (i:Nc R s):∀ a,o=some a->Nc R a:=by
 have tl:∀ {g:GI} {gs:List GI},s.goals=g::gs->∀ x∈gs,R x.t:=fun f x q=>i.goals x (by rw [f]; exact aR _ q);cases h with
 | large=>intro a h; cases h
 | noCut=>intro a h; cases h
 | err=>intro a h; cases h
 | unknown=>intro a h; cases h
 | cut f=>intro a h; cases h; exact ⟨tl f,fun c hc=>i.chs c (lp hc)⟩
 | solved f=>intro a h; cases h; exact ⟨tl f,i.chs⟩
 | fail f _ _ _ _ _ m=>exact m.nc hR l i.chs
 | took f _ _ _ _ _ r=>intro a h; cases h; exact R4 hR l (r.mem _ rfl) i.chs (tl f)
 | back f _ _ _ _ _ _ m=>exact m.nc hR l i.chs
end
theorem RunI.keeps {p:List C} {vars:List Int} {most n:Nat} {s:SI} {out:List (List T)} {r:List (List T) × Int} (h:RunI p vars most n s out r):∀ x∈out,x∈r.1:=by
 induction h with
 | fuel=>exact fun x a=>a
 | stop=>exact fun x a=>a
 | more=>exact fun x a=>a
 | large=>exact fun x a=>a
 | step _ _ _ f=>exact f
 | last=>exact fun x a=>cZ _ a
 | next _ _ _ _ _ f=>exact fun x a=>f x (cZ _ a)
end
section
open Go Go.RowKit
section
attribute [local irreducible] Run CondV aq aK
noncomputable def checkB (p:List C) (x:PF):Bool:=c8 p && (YR x && chkF p x)
end
end
section
open Go Go.RowKit
abbrev Zs:List ByteArray:=[nEq,jE,lN]
def jv (t:T):Bool:=dH t || dh t.name Zs
def Yd (p:List C):Bool:=c8 p && p.all fun c=>c.body.all jv
theorem JJ (σ:Int->T) {t:T} (h:t.kind≠1):sameHd t (sbT σ t):=by
 rw [oo σ h];exact ⟨rfl,rfl,by simp [T.kids,lX]⟩
theorem lb {t u:T} (h:sameHd t u):jv u=jv t:=by
 unfold jv dH;rw [h.1,h.2.1,h.2.2]
theorem XE {t:T} (h:bV t=true):eU t.name t.kids.length=true:=by
 rw [bV,bM] at h;exact h.2
theorem W6 {t:T} (a:eN t=true) (h:jv t=true):ncT t:=by
 refine ⟨mS a,?_⟩;rw [jv,jd] at h;rcases h with h|h
 ·exact (uT h rfl).1
 ·cases hc:eA t with
  | false=>rfl
  | true=>
   rw [eA,bM,bM,bD,bD] at hc;rw [hc.2.1] at h;exact absurd h (by decide +kernel)
theorem nO (σ:Int->T) {t:T} (h:t.kind≠1) {i:Nat} (a:i<t.kids.length):kd (sbT σ t) i=sbT σ (kd t i):=by
 have f:∀ (ts:List T) (i:Nat),i<ts.length->(sbL σ ts).getD i zT=sbT σ (ts.getD i zT):=by
  intro ts;induction ts with
  | nil=>intro i a; simp at a
  | cons t ts g=>
   intro i a;rw [sbL];cases i with
   | zero=>rfl
   | succ i=>simpa using g i (by simpa using a)
 rw [oo σ h];exact f t.kids i a
theorem Y2 {t:T} (hn:t.name=nEq) (a:bV t=true):t.kids.length=2:=by
 have:=XE a;rw [hn] at this;have:=il (by decide +kernel) this;omega
theorem blt_eq {t:T} (hn:t.name=nEq):gj t=.uni (kd t 0) (kd t 1):=by
 unfold gj;rw [hn,ag (by decide +kernel),ag (by decide +kernel),ai rfl]
theorem XR {t:T} (hn:t.name=jE):gj t=.done 0:=by
 unfold gj;rw [ai hn]
theorem Uu {t:T} (hn:t.name=lN):gj t=.done 1:=by
 unfold gj;rw [hn,ag (by decide +kernel),ai rfl]
theorem Wa {R:T->Prop} {q:List T} (h:∀ t∈q,R t):Nc R (ft q):=by
 refine ⟨fun g a=>?_,fun c hc=>by cases hc⟩;obtain ⟨t,f,rfl⟩:=dp.1 a;exact h t f
end
end Go.Proofs.YtgllldjiaglkcaaGreatDoor

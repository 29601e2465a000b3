/- Which clauses can be unfolded: both sides. -/
import Derived.Test.YtgllldjiaglkcaaGreatDoorZUf23
namespace Go.Proofs.YtgllldjiaglkcaaGreatDoor
section
open Go Go.RowKit
attribute [local irreducible] Run CondV aq aK

def ia (c:C):Bool:=match c.body with
 | []=>false
 | g::_=>dI g
def lL (c:C):Bool:=c.body.any ez
def lI (p:List C) (n:Int):Bool:=match p[n.toNat]? with
 | some c=>lL c
 | none=>false
def jF (p:List C) (g:T):List Int:=dT (fun c=>gQ (bN c.head) (bN g)) p 0
def Lk (p:List C) (i:Int) (c:C):Bool:=match c.body with
 | []=>false
 | g::_=>dI g && (decide (0<(jF p g).length) && (!lL c && (jF p g).all fun n=>!(lI p n || decide (n=i))))
def lC (p:List C) (i:Int):Bool:=dc p && (decide (0<=i) && match p[i.toNat]? with
 | none=>false
 | some c=>Lk p i c)
theorem im {c:C} (h:ia c=true):∃ g gs,c.body=g::gs/\dI g=true:=by
 unfold ia at h;split at h
 ·cases h
 ·exact ⟨_,_,‹_›,h⟩
theorem xd {p:List C} {i:Int} {c:C} (h:ia c=false):Lk p i c=false:=by
 unfold ia at h;unfold Lk;split at h
 ·rfl
 ·simp [h]

theorem Br {c:C} {S:ae} {cs:List Value} (h:RdC S cs c):Pure Tryz.prog La [.agg cs.toArray] S (.bool (ia c)):=by
 intro w a;obtain ⟨hd,ks,rfl,r,o⟩:=h;obtain ⟨kv,rfl,_⟩:=RdT.iff.1 r;refine vC.2 ?_;dsimp only[vC,aO];refine bJ a fun t w' a=>?_;refine af a 0 rfl aU al rfl ?_;refine aJ o ah ?_;refine eP ?_;cases m:c.body with
 | nil=>
  rw [show decide ((0:Int)<(([]:List T).length:Int))=false from rfl];refine rpG ?_;exact done a (by rw [ia,m])
 | cons g gs=>
  have l:0<c.body.length:=by rw [m]; simp
  rw [show decide ((0:Int)<((g::gs).length:Int))=true from aN (by simp)];refine rpG ?_;refine af a 0 rfl aU al rfl ?_;refine co (i:=0) a o ah ad l (fun _ _=>RdT.length) fun q f=>?_;refine Run.callPure qz rj a (ou f) fun w' a=>?_;refine rpG ?_;refine done a ?_;rw [ia];simp [m]
theorem wW {c:C} {S:ae} {cs:List Value} (h:RdC S cs c):Pure Tryz.prog EX [.agg cs.toArray] S (.bool (ia c)):=by
 intro w a;obtain ⟨hd,ks,rfl,r,o⟩:=h;obtain ⟨kv,rfl,_⟩:=RdT.iff.1 r;refine ry.2 ?_;dsimp only[ry,aO];refine bJ a fun t w' a=>?_;refine af a 0 rfl aU al rfl ?_;refine aJ o ah ?_;refine eP ?_;cases m:c.body with
 | nil=>
  rw [show decide ((0:Int)<(([]:List T).length:Int))=false from rfl];refine rpG ?_;exact done a (by rw [ia,m])
 | cons g gs=>
  have l:0<c.body.length:=by rw [m]; simp
  rw [show decide ((0:Int)<((g::gs).length:Int))=true from aN (by simp)];refine rpG ?_;refine af a 0 rfl aU al rfl ?_;refine co (i:=0) a o ah ad l (fun _ _=>RdT.length) fun q f=>?_;refine Run.callPure qn qD a (oH f) fun w' a=>?_;refine rpG ?_;refine done a ?_;rw [ia];simp [m]

theorem vP {c:C} {S:ae} {cs:List Value} (h:RdC S cs c):Pure Tryz.prog MO [.agg cs.toArray] S (.bool (lL c)):=by
 intro w a;obtain ⟨hd,ks,rfl,G,t⟩:=h;obtain ⟨kv,rfl,_⟩:=RdT.iff.1 G;have o:=t.le;simp only [maxLen] at o;refine y4.2 ?_;dsimp only[y4,aO];refine bJ a fun B w' a=>?_;refine ⟨fun i w'=>∃ j:Nat,j<=c.body.length/\i=.int .i64 j/\(c.body.drop j).any ez=lL c/\Inv w [] [.blk B (.cells #[.int .i64 c.head.kind,.int .i64 c.head.n,.string c.head.name,kv,ks] ac)] S w',
  fun i _=>c.body.length - (intOf i).toNat,⟨0,bk _,rfl,rfl,a⟩,?_⟩
 intro J _ _ _ _ _ _ _ _ _ _ _ _ _ _ w';rintro ⟨j,M,rfl,f,a⟩;refine af a 0 rfl aU al rfl ?_;refine aJ t ah ?_;refine bS ?_;refine aL (fun q=>?_) (fun q=>?_)
 ·have l:j<c.body.length:=by omega
  have g:=EY ez c.body j l;refine af a 0 rfl aU al rfl ?_;refine co a t ah ad l (fun _ _=>RdT.length) fun D m=>?_;refine Run.callPure G6 Hh a (CY m) fun w' a=>?_;refine aD (fun r=>done a ?_) (fun r=>?_)
  ·rw [<- f,g,r]; rfl
  ·refine bC (by omega) ?_;exact ⟨⟨j+1,l,rfl,by rw [<- f,g,r]; rfl,a⟩,by simp [intOf]; omega⟩
 ·have:j=c.body.length:=by omega
  subst this;exact done a (by rw [<- f,eC]; rfl)
theorem yH {c:C} {S:ae} {cs:List Value} (h:RdC S cs c):Pure Tryz.prog PV [.agg cs.toArray] S (.bool (lL c)):=by
 intro w a;obtain ⟨hd,ks,rfl,m,o⟩:=h;obtain ⟨kv,rfl,_⟩:=RdT.iff.1 m;refine BZ.2 ?_;dsimp only[BZ,aO];refine bJ a fun q w' a=>?_;refine af a 0 rfl aU al rfl ?_;have g:Cb Tryz.prog JI _ [] S (fun _:Unit=>[]) (fun _=>True) (fun _ x=>(ez x,())) (fun v x=>∃ cs,v=.agg cs.toArray/\RdT S cs x) c.body:=
  Cb.pure [] wX xl fun x v _=>by
   rintro ⟨cs,rfl,f⟩ i a;exact (uA f i a).mono fun e w' ⟨l,a⟩=>⟨_,_,_,l,a,Ext.refl _ _ _,rfl,rfl,rfl⟩
 refine Run.call0 eJ eL a (gY g o (st:=()) trivial) fun r I' S' w'=>?_;rintro ⟨rfl,rfl,rfl⟩ _ a;refine done a ?_;rw [jW ez c.body]; rfl

theorem BI {p:List C} {S:ae} {v:Value} (i:Int) (h:RdSl S 5 (RdC S) v p) (hw:p.length+wP p<=1048576):Pure Tryz.prog HK [v,.int .i64 i] S (.bool (lC p i)):=by
 intro w a;refine tj.2 ?_;dsimp only[tj,bm];refine ⟨fun t w'=>∃ q,t=.bool q/\(q=true->lC p i=false)/\(q=false->dc p=true/\∃ (k:Nat) (hk:k<p.length),i=k/\ia p[k]=true)/\Inv w [] [] S w',?_,?_⟩
 ·refine Run.callPure oe nD a (lb h (by omega)) fun w' a=>?_;refine cw ?_;cases hv:dc p
  ·refine rpG ?_;exact ⟨true,rfl,fun _=>by rw [lC,hv]; rfl,(fun h=>nomatch h),a⟩
  ·refine rpG ?_;refine bS ?_;by_cases h0:i<0
   ·rw [aN h0];refine rpG ?_;exact ⟨true,rfl,fun _=>by rw [lC,hv,ba (show ¬ 0<=i by omega)]; rfl,(fun h=>nomatch h),a⟩
   ·rw [ba h0];refine rpG ?_;refine aJ h bf ?_;refine jM ?_;by_cases h1:(p.length:Int)<=i
    ·rw [aN h1];refine rpG ?_;refine ⟨true,rfl,fun _=>?_,(fun h=>nomatch h),a⟩;rw [lC,hv,Mi (by omega)]; simp
    ·rw [ba h1];refine rpG ?_;obtain ⟨k,rfl⟩:∃ k:Nat,i=k:=⟨i.toNat,by omega⟩
     have hk:k<p.length:=by omega
     refine co a h bf aH hk (fun _ _=>RdC.length) fun G f=>?_;refine Run.callPure Im Ia a (Br f) fun w' a=>?_;refine cw ?_;refine rpG ?_;refine ⟨_,rfl,fun hq=>?_,fun hq=>⟨rfl,k,hk,rfl,by simpa using hq⟩,a⟩;have a8:ia p[k]=false:=by simpa using hq
     rw [lC,hv,cu,ew hk];simp [xd a8]
 intro t _ _ _ _ _ _ _ _ _ _ _ _ _ _ _ _ _ _ _ _ w';rintro ⟨q,rfl,a2,a3,a⟩;refine aD (fun N=>done a (by rw [a2 N])) (fun N=>?_);obtain ⟨a5,k,hk,rfl,Y⟩:=a3 N;obtain ⟨g,gs,U,a6⟩:=im Y;have a9:0<p[k].body.length:=by rw [U]; simp
 have b0:p[k].body[0]=g:=by simp [U]
 have hu:lC p k=(decide (0<(jF p g).length) && (!lL p[k] && (jF p g).all fun n=>!(lI p n || decide (n=(k:Int))))):=by
  rw [lC,a5,cu,ew hk];simp only [Lk,U,a6];rw [aN (show (0:Int)<=k by omega)];simp
 refine Lf a h bf aU al hk fun G f=>?_;obtain ⟨hd,ks,rfl,h1,h2⟩:=f;obtain ⟨kv,rfl,_⟩:=RdT.iff.1 h1;refine ⟨ks,rfl,?_⟩;refine co (i:=0) a h2 ah ad a9 (fun _ _=>RdT.length) fun G f=>?_;rw [b0] at f;refine Run.call0 Hc FS a (Dj h f (by omega)) fun v1 I' S w'=>?_;rintro ⟨rfl,rfl⟩ _ a;have a:Inv w [] ([]++[dk v1 (jF p g)]) S w':=a;obtain ⟨S1,J,a7,a,_⟩:=a.lend;have Z:=a7.ints;have h':=h.monoC J;have M:∀ n∈jF p g,∃ (j:Nat) (hj:j<p.length),n=j:=by
  intro n hn;obtain ⟨j,_,h2,h3,_⟩:=mM _ p 0 n hn;exact ⟨j,h3,by omega⟩
 have b1:(jF p g).length<=p.length:=ja _ p 0;generalize jF p g=l at Z hu M b1;refine ⟨fun i w'=>∃ j:Nat,j<=l.length/\i=.int .i64 j/\(l.drop j).all (fun n=>!(lI p n || decide (n=(k:Int))))=l.all (fun n=>!(lI p n || decide (n=(k:Int))))/\Inv w [] [] S1 w',
  fun i _=>l.length - (intOf i).toNat,⟨0,bk _,rfl,rfl,a⟩,?_⟩
 intro t6 _ _ _ _ _ _ _ _ _ _ _ _ _ _ _ _ _ _ _ _ _ _ _ w';rintro ⟨j,hj,rfl,o,a⟩;refine aJ Z cA ?_;refine bS ?_;refine aL (fun a4=>?_) (fun a4=>?_)
 ·have B:j<l.length:=by omega
  have D:=y6 (fun n=>!(lI p n || decide (n=(k:Int)))) l j B;obtain ⟨m,hm,r⟩:=M _ (bG B);have a0:lI p l[j]=lL p[m]:=by
   rw [lI,r,cu,ew hm]
  refine ⟨fun t w'=>t=.bool (lL p[m] || decide ((m:Int)=k))/\Inv w [] [] S1 w',?_,?_⟩
  ·refine fg a Z cA aG B (fun cs O=>O) ?_;rw [r];refine co a h' bf aH hm (fun _ _=>RdC.length) fun G f=>?_;refine Run.callPure yl xS a (vP f) fun w' a=>?_;cases hc:lL p[m]
   ·refine rpG ?_;refine fg a Z cA aG B (fun cs O=>O) ?_;rw [r];refine bw ?_;refine rpG ?_;exact ⟨rfl,a⟩
   ·refine rpG ?_;exact ⟨rfl,a⟩
  intro t _ _ _ _ _ _ _ _ _ _ _ _ _ _ _ w';rintro ⟨rfl,a⟩;refine aD (fun N=>iw a J ?_) (fun N=>?_)
  ·have:l.all (fun n=>!(lI p n || decide (n=(k:Int))))=false:=by
    rw [<- o,D,a0,r,N]; rfl
   rw [hu,this]; simp
  ·refine bC (by omega) ?_;exact ⟨⟨j+1,B,rfl,by rw [<- o,D,a0,r,N]; rfl,a⟩,by simp [intOf]; omega⟩
 ·have:j=l.length:=by omega
  subst this;have V:l.all (fun n=>!(lI p n || decide (n=(k:Int))))=true:=by rw [<- o,eC]; rfl
  refine aJ Z cA ?_;refine eP ?_;rw [hu,V];by_cases a1:0<l.length
  ·rw [aN a1,aN (show (0:Int)<l.length by omega)];refine rpG ?_;refine co a h' bf aH hk (fun _ _=>RdC.length) fun G f=>?_;refine Run.callPure yl xS a (vP f) fun w' a=>?_;refine cw ?_;refine rpG ?_;exact iw a J (by simp)
  ·rw [ba a1,ba (show ¬ (0:Int)<l.length by omega)];refine rpG ?_;exact iw a J rfl
end
section
open Go Go.RowKit
def Wb (c d:C):Bool:=bt c && (bt d && ia c)
theorem Rt {c d:C} (h:Wb c d=true):bt c=true/\bt d=true/\c.body≠[]:=by
 rw [Wb,bM,bM] at h;obtain ⟨g,gs,e,_⟩:=im h.2.2;exact ⟨h.1,h.2.1,by rw [e]; simp⟩
def RB (c d r:C) (b:Bool):Prop:=(Wb c d=false/\r=RS/\b=false) ∨ (Wb c d=true/\∃ o,RO c d o/\((xI o=true/\r=clO o/\b=true) ∨ (xI o=false/\r=RS/\b=false)))
theorem RB.ex {c d:C} (h:wC c<=1048576) (f:wC d<=1048576):∃ r b,RB c d r b:=by
 cases a:Wb c d with
 | false=>exact ⟨_,_,.inl ⟨a,rfl,rfl⟩⟩
 | true=>
  obtain ⟨i,l,m⟩:=Rt a;obtain ⟨o,g⟩:=RO.ex i l h f m;cases hk:xI o with
  | false=>exact ⟨_,_,.inr ⟨a,o,g,.inr ⟨hk,rfl,rfl⟩⟩⟩
  | true=>exact ⟨_,_,.inr ⟨a,o,g,.inl ⟨hk,rfl,rfl⟩⟩⟩
theorem zb:wC RS<=20000:=by decide +kernel
theorem X4 {c d:C} (g:bt c=true) (h:bt d=true) (m:wC c<=1048576) (i:wC d<=1048576) (q:c.body≠[]) {o:Option (Option C)} (t:RO c d o):wC (clO o)<=20000:=by
 obtain ⟨r,st,B,f⟩:=t;rcases f with ⟨_,rfl⟩|⟨_,us,l,⟨_,rfl⟩|⟨G,rfl⟩⟩
 ·exact zb
 ·exact zb
 ·have D:=(B.good js (pe g h m i q)).1;obtain ⟨e1,e2⟩:=fj D l (sD g h);have hl:=Bn g h;have a:=yW G e1;show wC (vd (bX (ofL us)) (ofL us))<=20000;rw [Wp]
  match us,a,e2 with
  | [],_,_=>exact zb
  | u::us,a,e2=>
   rw [wL] at a;rw [bq] at a e2;simp only [wC,ofL];omega
theorem RB.w {c d r:C} {b:Bool} (h:RB c d r b) (f:wC c<=1048576) (a:wC d<=1048576):wC r<=20000:=by
 rcases h with ⟨_,rfl,_⟩|⟨m,o,q,⟨_,rfl,_⟩|⟨_,rfl,_⟩⟩
 ·exact zb
 ·obtain ⟨g,i,l⟩:=Rt m;exact X4 g i f a l q
 ·exact zb
section
attribute [local irreducible] Run CondV aq aK
end
end
section
open Go Go.RowKit
theorem NY {st:aj} {t v:T} (h:dr st t v):∀ f,dr st t f->f=v:=by
 induction h with
 | stop hl=>
  intro f g;cases g with
  | stop _=>rfl
  | step a _=>rw [hl] at a; cases a
 | step hl _ i=>
  intro f g;cases g with
  | stop a=>rw [hl] at a; cases a
  | step a l=>rw [hl] at a; cases a; exact i _ l
theorem RM {st:aj} {j:M8} (h:Res st j):match j with
  | .one t u=>∀ g,Res st (.one t g)->g=u
  | .list ts us=>∀ a,Res st (.list ts a)->a=us:=by
 induction h with
 | one q _ r=>
  intro g f;cases f with
  | one i l=>
   obtain rfl:=NY q _ i;rw [r _ l]
 | nil=>
  intro a f;cases f;rfl
 | cons _ _ m o=>
  intro a f;cases f with
  | cons B D=>rw [m _ B,o _ D]
open Classical in
noncomputable def sgR (st:aj) (n:Int):T:=if h:∃ u,Res st (.one (idS n) u) then h.choose else idS n
theorem U5 {st:aj} {n:Int} {u:T} (h:Res st (.one (idS n) u)):sgR st n=u:=by
 have a:∃ u,Res st (.one (idS n) u):=⟨u,h⟩
 rw [sgR,dif_pos a];exact RM h _ a.choose_spec
theorem T5 {N:Nat} {st:aj} {j:M8} (o:Res st j):match j with
  | .one t u=>okU N t->u=sbT (sgR st) t
  | .list ts us=>bL N ts->us=sbL (sgR st) ts:=by
 induction o with
 | one m hl r=>
  rename_i t v us
  intro a;by_cases hk:t.kind=1
  ·obtain ⟨_,_,h,i⟩:=a.var hk;obtain ⟨k,n,s,ks⟩:=t;simp only [T.kind,T.name,T.kids] at hk h i;subst hk; subst h; subst i;rw [sbT,ai rfl];exact (U5 (.one m hl)).symm
  ·have q:v=t:=NY (.stop (u7.2 fun e=>absurd e hk)) _ m;subst q;have l:=r a.kids;obtain ⟨k,n,s,ks⟩:=v;simp only [T.kind] at hk;rw [sbT,ag hk];simp only [T.kids] at l;rw [l];rfl
 | nil=>exact fun _=>rfl
 | cons _ _ f g=>
  intro a;rw [bL] at a;rw [sbL,f a.1,g a.2]
theorem Xa {N:Nat} {c:C} (g:okU N c.head) (h:bL N c.body):vd (bX c) c=⟨mvT (ot (bX c)) c.head,mvL (ot (bX c)) c.body⟩/\inT (bX c) c.head/\inL (bX c) c.body/\cU (c.head::c.body) []=bX c:=by
 obtain ⟨f,_,_⟩:=Sc g h;have a:=oR (c.head::c.body) [];rw [f,inL] at a;have hd:(bX c).Nodup:=by rw [<- f]; exact n8 _ _ xr
 refine ⟨?_,a.1,a.2,f⟩;have hl:∀ n∈bX c,kU (bX c) n n 0=ot (bX c) n:=fun n hn=>BB _ n n 0 hn hd;rw [vd,MH,Fb,Rb hl _ a.1,LJ hl _ a.2]
end
section
open Go Go.RowKit
def jK (σ:Int->T) (st:aj):Prop:=∀ (n:Nat) (u:T),st[n]?=some (some u)->σ n=sbT σ u
mutual
def tsz:T->Nat
 | .mk _ _ _ ks=>1+WY ks
def WY:List T->Nat
 | []=>0
 | t::ts=>tsz t+WY ts
end
theorem kC (σ:Int->T) {t:T} (h:t.kind=1):sbT σ t=σ t.n:=by
 cases t;rw [sbT];exact ai h
theorem nO (σ:Int->T) {t:T} (h:t.kind≠1):sbT σ t=.mk t.kind t.n t.name (sbL σ t.kids):=by
 cases t;rw [sbT];exact ag h
mutual
theorem X6 {N:Nat} (σ:Int->T):∀ t:T,okU N t->∀ m∈vT t,tsz (σ (m:Int))<=tsz (sbT σ t)
 | .mk k n s ks,h,m,hm=>by
  rw [okU] at h;rw [vT] at hm;rw [sbT];split at hm
  ·rename_i hk
   obtain ⟨a,_⟩:=h.2.1 hk;simp only [bK] at hm;subst hm;rw [ai hk,nR a];exact aS _
  ·rename_i hk
   have:=QX σ ks h.2.2.1 m hm;rw [ag hk,tsz];omega
theorem QX {N:Nat} (σ:Int->T):∀ ts:List T,bL N ts->∀ m∈vTL ts,tsz (σ (m:Int))<=WY (sbL σ ts)
 | [],_,m,a=>by simp [vTL] at a
 | t::ts,h,m,a=>by
  rw [bL] at h;rw [vTL,bF] at a;rw [sbL,WY];rcases a with a|a
  ·have:=X6 σ t h.1 m a;omega
  ·have:=QX σ ts h.2 m a;omega
end
theorem aaM {N:Nat} (σ:Int->T) {t:T} (h:okU N t) (hk:t.kind≠1) {m:Nat} (a:m∈vT t):tsz (σ (m:Int))<tsz (sbT σ t):=by
 rw [xE hk] at a;have:=QX σ t.kids h.kids m a;rw [nO σ hk,tsz];omega
theorem Y5 {N:Nat} {st:aj} (f:Good N st) {σ:Int->T} (g:jK σ st) {m n:Nat} (h:Rch st m n):tsz (σ (n:Int))<=tsz (σ (m:Int)):=by
 induction h with
 | refl=>exact aS _
 | step a i _ l=>
  rw [g _ _ a];exact gz l (X6 σ _ (f.ok _ (cz a)) _ i)
theorem UL {N:Nat} {st:aj} (a:Good N st) {σ:Int->T} (f:jK σ st) {n:Nat} {t:T} (g:okU N t) (hk:t.kind≠1) (h:fD st n t):σ (n:Int)≠sbT σ t:=by
 obtain ⟨m,i,l⟩:=h;intro e;have o:=Y5 a f l;have q:=aaM σ g hk i;rw [e] at o;omega
theorem WP {st:aj} {n:Nat} {t:T} (hk:t.kind=1) (hl:look st t=none) (g:fD st n t):t.n.toNat=n:=by
 obtain ⟨m,a,h⟩:=g;rw [jB hk,bK] at a;subst a;cases h with
 | refl=>rfl
 | step f _ _=>rcases u7.1 hl hk with e|e <;> rw [e] at f <;> cases f
theorem gj {N:Nat} {st:aj} (f:Good N st) {σ:Int->T} (g:jK σ st) {t v:T} (h:dr st t v):okU N t->sbT σ v=sbT σ t:=by
 induction h with
 | stop=>exact fun _=>rfl
 | step hl _ m=>
  intro i;obtain ⟨hk,a⟩:=dh.1 hl;have l:=(i.var hk).1;rw [m (f.look_ok hl).1,kC σ hk,<- g _ _ a,nR l]
theorem Nu {σ:Int->T} {st:aj} {n:Nat} {t:T} (hn:st[n]?=some none):jK σ (st.set n (some t))↔jK σ st/\σ (n:Int)=sbT σ t:=by
 have f:n<st.length:=(fa.1 hn).1;constructor
 ·intro h;refine ⟨fun m u a=>h m u ?_,h n t (Rv f)⟩;rw [yb (fun e=>by subst e; rw [hn] at a; cases a)];exact a
 ·rintro ⟨h,g⟩ m u a;by_cases e:n=m
  ·subst e;rw [Rv f,aY,aY] at a;rw [<- a]; exact g
  ·rw [yb e] at a;exact h m u a
def Jeq (σ:Int->T):Job->Prop
 | .one a b=>sbT σ a=sbT σ b
 | .list xs ys=>sbL σ xs=sbL σ ys
theorem RN {σ:Int->T} {a b:T} (l:a.kind≠1) (m:b.kind≠1):sbT σ a=sbT σ b↔py a b=true/\sbL σ a.kids=sbL σ b.kids:=by
 rw [nO σ l,nO σ m,T.mk.injEq,TZ];constructor
 ·rintro ⟨g,h,i,f⟩;have:=congrArg List.length f;rw [lZ,lZ] at this;exact ⟨⟨g,h,i,this⟩,f⟩
 ·rintro ⟨⟨g,h,i,_⟩,f⟩;exact ⟨g,h,i,f⟩
theorem Uni.sem {N:Nat} {st t:aj} {j:Job} {r:Bool} (hu:Uni st j r t):Good N st->okJ N j->∀ σ,(r=true->(jK σ t↔jK σ st/\Jeq σ j))/\(r=false->jK σ st->¬ Jeq σ j):=by
 induction hu with
 | same m l G U he=>
  intro f g σ;refine ⟨fun _=>⟨fun i=>⟨i,?_⟩,fun h=>h.1⟩,fun h=>by cases h⟩;show sbT σ _=sbT σ _;rw [<- gj f i m g.1.1,<- gj f i l g.2.1,kC σ G,kC σ U,he]
 | bindA m l hk o O=>
  intro f g σ;have B:=(dz f m g.1).1;have M:=(B.var hk).1;rw [Nu (p7 f hk (gI m) B),nR M];refine ⟨fun _=>and_congr_right fun i=>?_,fun h=>by cases h⟩;show _↔sbT σ _=sbT σ _;rw [<- gj f i m g.1.1,<- gj f i l g.2.1,kC σ hk]
 | occA m l hk o O=>
  rename_i st a b a' V
  intro f g σ;refine ⟨fun h=>(by cases h),fun _ i=>?_⟩;have B:=(dz f m g.1).1;have Z:=(dz f l g.2).1;have M:=(B.var hk).1;show ¬ sbT σ _=sbT σ _;rw [<- gj f i m g.1.1,<- gj f i l g.2.1,kC σ hk];by_cases D:V.kind=1
  ·have e:=WP D (gI l) O;have G:=(Z.var D).1;exact absurd ⟨D,by omega⟩ o
  ·have:=UL f i Z D O
   rwa [nR M] at this
 | bindB m l o hk O=>
  intro f g σ;have B:=(dz f l g.2).1;have M:=(B.var hk).1;rw [Nu (p7 f hk (gI l) B),nR M];refine ⟨fun _=>and_congr_right fun i=>?_,fun h=>by cases h⟩;show _↔sbT σ _=sbT σ _;rw [<- gj f i m g.1.1,<- gj f i l g.2.1,kC σ hk];exact xt
 | occB m l o hk O=>
  intro f g σ;refine ⟨fun h=>(by cases h),fun _ i=>?_⟩;have B:=(dz f l g.2).1;have Z:=(dz f m g.1).1;have M:=(B.var hk).1;show ¬ sbT σ _=sbT σ _;rw [<- gj f i m g.1.1,<- gj f i l g.2.1,kC σ hk];have:=UL f i Z o O;rw [nR M] at this;exact fun e=>this e.symm
 | clash m l G U hd=>
  intro f g σ;refine ⟨fun h=>(by cases h),fun _ i=>?_⟩;show ¬ sbT σ _=sbT σ _;rw [<- gj f i m g.1.1,<- gj f i l g.2.1,RN G U,hd];exact fun e=>by cases e.1
 | @kids st t a b a' V r m l G U hd _ ih=>
  intro f g σ;obtain ⟨Y,i2⟩:=ih f ⟨jn (dz f m g.1),jn (dz f l g.2),pM hd⟩ σ;have e:jK σ st->(Jeq σ (.one a b)↔Jeq σ (.list a'.kids V.kids)):=fun i=>by
   show sbT σ a=sbT σ b↔sbL σ a'.kids=sbL σ V.kids;rw [<- gj f i m g.1.1,<- gj f i l g.2.1,RN G U,hd];simp
  exact ⟨fun J=>(Y J).trans (and_congr_right fun i=>(e i).symm),fun J i q=>i2 J i ((e i).1 q)⟩
 | nil=>
  intro f g σ;exact ⟨fun _=>⟨fun h=>⟨h,rfl⟩,fun h=>h.1⟩,fun h=>by cases h⟩
 | stop _ ih=>
  intro f g σ;obtain ⟨_,i2⟩:=ih f ⟨g.1 _ (aM ..),g.2.1 _ (aM ..)⟩ σ;refine ⟨fun h=>(by cases h),fun _ i q=>i2 rfl i ?_⟩;have q:sbL σ (_::_)=sbL σ (_::_):=q;rw [sbL,sbL,dK] at q;exact q.1
 | @go st a2 t a b xs ys r G _ a0 a1=>
  intro f g σ;have j1:okJ N (.one a b):=⟨g.1 _ (aM ..),g.2.1 _ (aM ..)⟩
  have j2:okJ N (.list xs ys):=⟨fun a m=>g.1 a (aR _ m),fun b l=>g.2.1 b (aR _ l),by have:=g.2.2; simpa using this⟩
  obtain ⟨Y,_⟩:=a0 f j1 σ;obtain ⟨i3,i4⟩:=a1 (G.good f j1).1 j2 σ;have e:Jeq σ (.list (a::xs) (b::ys))↔Jeq σ (.one a b)/\Jeq σ (.list xs ys):=by
   show sbL σ (a::xs)=sbL σ (b::ys)↔_;rw [sbL,sbL,dK];exact Iff.rfl
  refine ⟨fun J=>?_,fun J i q=>?_⟩
  ·rw [i3 J,Y rfl,e,and_assoc]
  ·rw [e] at q;exact i4 J ((Y rfl).2 ⟨i,q.1⟩) q.2
theorem R1 {N:Nat} {st:aj} (f:Good N st) (κ:Int->T):jK (fun n=>sbT κ (sgR st n)) st:=by
 intro n u hn;have h:=f.ok u (cz hn);obtain ⟨r,g⟩:=Kj f u h;have a:Res st (.one (idS (n:Int)) r):=by
  cases g with
  | one i hl=>exact .one (.step (dh.2 ⟨rfl,by rw [idS]; exact hn⟩) i) hl
 show sbT κ (sgR st n)=_;rw [U5 a,T5 g h,Mo]
theorem Sd {N:Nat} {st:aj} (h:Good N st) {σ:Int->T} (m:jK σ st) {j:M8} (o:Res st j):match j with
  | .one t u=>okU N t->sbT σ u=sbT σ t
  | .list ts us=>bL N ts->sbL σ us=sbL σ ts:=by
 induction o with
 | one l hl q=>
  rename_i t v us
  intro a;have i:=Fg h l a;rw [<- gj h m l a];by_cases hk:v.kind=1
  ·obtain ⟨_,_,r,B⟩:=i.var hk;rw [kC σ hk,kC σ (t:=.mk v.kind v.n v.name us) hk];rfl
  ·rw [nO σ hk,nO σ (t:=.mk v.kind v.n v.name us) hk];exact congrArg _ (q i.kids)
 | nil=>exact fun _=>rfl
 | cons _ _ f g=>
  intro a;rw [bL] at a;rw [sbL,sbL,f a.1,g a.2]
mutual
theorem pg {N:Nat} {σ τ:Int->T} (h:∀ n:Int,0<=n->n<N->σ n=τ n):∀ t:T,okU N t->sbT σ t=sbT τ t
 | .mk k n s ks,ho=>by
  rw [okU] at ho;rw [sbT,sbT];by_cases hk:k=1
  ·obtain ⟨a,f,_⟩:=ho.2.1 hk;rw [ai hk,ai hk,h n a f]
  ·rw [ag hk,ag hk,ki h ks ho.2.2.1]
theorem ki {N:Nat} {σ τ:Int->T} (h:∀ n:Int,0<=n->n<N->σ n=τ n):∀ ts:List T,bL N ts->sbL σ ts=sbL τ ts
 | [],_=>rfl
 | t::ts,ho=>by
  rw [bL] at ho;rw [sbL,sbL,pg h t ho.1,ki h ts ho.2]
end
theorem O0 {N:Nat} {st:aj} (a:Good N st) {σ τ:Int->T} (h:∀ n:Int,0<=n->n<N->σ n=τ n) (f:jK σ st):jK τ st:=by
 intro n u hn;have g:=(fa.1 hn).1;have hl:=a.len;rw [<- h n (by omega) (by omega),f n u hn];exact pg h u (a.ok u (cz hn))
mutual
theorem uK (σ:Int->T) (m:Int):∀ t:T,sbT σ (bp m t)=sbT (fun n=>σ (n+m)) t
 | .mk k n s ks=>by
  rw [bp,sbT,sbT];by_cases hk:k=1
  ·rw [ai hk,ai hk,ai hk]
  ·rw [ag hk,ag hk,ag hk,uJ σ m ks]
theorem uJ (σ:Int->T) (m:Int):∀ ts:List T,sbL σ (dM m ts)=sbL (fun n=>σ (n+m)) ts
 | []=>rfl
 | t::ts=>by rw [dM,sbL,sbL,uK σ m t,uJ σ m ts]
end
theorem Bi (σ:Int->T) (st:aj) (k:Nat):jK σ (st++List.replicate k none)↔jK σ st:=by
 constructor
 ·intro h n u hn;exact h n u (by rw [wo (fa.1 hn).1]; exact hn)
 ·intro h n u hn;rw [Wh] at hn;split at hn
  ·exact h n u hn
  ·rw [MN] at hn;split at hn <;> cases hn
def vp (N:Nat) (σ τ:Int->T):Int->T:=fun n=>if n<N then σ n else τ (n - N)
theorem Lo {N:Nat} (σ τ:Int->T):∀ n:Int,0<=n->n<N->σ n=vp N σ τ n:=fun n _ h=>by rw [vp,ai h]
theorem Su {N M:Nat} (σ τ:Int->T) {t:T} (a:okU M t):sbT (vp N σ τ) (bp N t)=sbT τ t:=by
 rw [uK];refine pg (N:=M) (fun n f _=>?_) t a;rw [vp,ag (by omega)]
 congr 1
 omega
end
section
open Go Go.RowKit
structure HdP (R:T->Prop):Prop where
 hd:∀ t u,R t->sameHd t u->R u
 three:∀ t,R t->t.kind=3
structure Nc (R:T->Prop) (s:SI):Prop where
 goals:∀ g∈s.goals,R g.t
 chs:∀ c∈s.chs,∀ g∈c.rest,R g.t
def ncT (t:T):Prop:=t.kind=3/\ez t=false
theorem ncT.hd {t u:T} (h:ncT t) (a:sameHd t u):ncT u:=⟨by rw [a.1]; exact h.1,by rw [j8 a]; exact h.2⟩
theorem ncT_hd:HdP ncT:=⟨fun _ _ h a=>h.hd a,fun _ h=>h.1⟩
section
variable {R:T->Prop} (hR:HdP R)
include hR
theorem HdP.shift {t:T} (h:R t) (m:Int):R (bp m t):=hR.hd t _ h (sameHd.shift m t (by have:=hR.three t h; omega))
theorem SC {p:List C} (m:∀ cl∈p,∀ b∈cl.body,R b) {cs:List CI} {ns:List NI} {g:T} {a:Int} {rest:List GI} {b:aj} {r:HI} (o:r.cl∈p) (q:∀ c∈cs,∀ g∈c.rest,R g.t) (i:∀ g∈rest,R g.t):Nc R (gC cs ns g a rest b r):=by
 refine ⟨fun x B=>?_,fun c hc=>?_⟩
 ·have h:x∈fy r.cl r.by_ cs.length a rest:=B;unfold fy at h;rcases bF.1 h with h|h
  ·obtain ⟨t,D,rfl⟩:=dp.1 h;exact hR.shift (m _ o t D) _
  ·exact i x h
 ·have f:c∈cs++(if r.l=[] then [] else [(⟨g,a,rest,r.l,b,ns.length⟩:CI)]):=hc;rcases bF.1 f with f|f
  ·exact q c f
  ·split at f
   ·cases f
   ·rw [bK.1 f]; exact i
omit hR in
theorem TryI.mem {p:List C} {g:T} {l:List Int} {st:aj} {o:Option HI} {n:Nat} (h:TryI p g l st o n):∀ r,o=some r->r.cl∈p:=by
 induction h with
 | nil=>intro r h; cases h
 | hit a _=>intro r h; cases h; exact cz a
 | miss _ _ _ f=>exact f
theorem BackI.nc {p:List C} (i:∀ cl∈p,∀ b∈cl.body,R b) {cs:List CI} {n:Nat} {ns:List NI} {o:Option SI} (h:BackI p cs n ns o):(∀ c∈cs,∀ g∈c.rest,R g.t)->∀ s,o=some s->Nc R s:=by
 induction h with
 | nil=>intro _ s h; cases h
 | hit f=>
  intro a s h;cases h;exact SC hR i (f.mem _ rfl) (fun c hc=>a c (cZ _ hc)) (a _ (by simp))
 | miss f _ l=>intro a; exact l fun c hc=>a c (cZ _ hc)
theorem StepI.nc {p:List C} (l:∀ cl∈p,∀ b∈cl.body,R b) {s:SI} {o:Option SI} {e:Int} {nc:Bool} (h:StepI p nc s o e) (i:Nc R s):∀ a,o=some a->Nc R a:=by
 have tl:∀ {g:GI} {gs:List GI},s.goals=g::gs->∀ x∈gs,R x.t:=fun f x q=>i.goals x (by rw [f]; exact aR _ q);cases h with
 | large=>intro a h; cases h
 | noCut=>intro a h; cases h
 | err=>intro a h; cases h
 | unknown=>intro a h; cases h
 | cut f=>intro a h; cases h; exact ⟨tl f,fun c hc=>i.chs c (lB hc)⟩
 | solved f=>intro a h; cases h; exact ⟨tl f,i.chs⟩
 | fail f _ _ _ _ _ m=>exact m.nc hR l i.chs
 | took f _ _ _ _ _ r=>intro a h; cases h; exact SC hR l (r.mem _ rfl) i.chs (tl f)
 | back f _ _ _ _ _ _ m=>exact m.nc hR l i.chs
end
theorem RunI.keeps {p:List C} {vars:List Int} {most n:Nat} {s:SI} {out:List (List T)} {r:List (List T) × Int} (h:RunI p vars most n s out r):∀ x∈out,x∈r.1:=by
 induction h with
 | fuel=>exact fun x a=>a
 | stop=>exact fun x a=>a
 | more=>exact fun x a=>a
 | large=>exact fun x a=>a
 | step _ _ _ f=>exact f
 | last=>exact fun x a=>cZ _ a
 | next _ _ _ _ _ f=>exact fun x a=>f x (cZ _ a)
end
section
open Go Go.RowKit
section
attribute [local irreducible] Run CondV aq aK
noncomputable def checkB (p:List C) (x:PF):Bool:=dc p && (YH x && chkF p x)
end
end
section
open Go Go.RowKit
abbrev aax:List ByteArray:=[nEq,jH,lN]
def jz (t:T):Bool:=dI t || di t.name aax
def Yd (p:List C):Bool:=dc p && p.all fun c=>c.body.all jz
theorem IB (σ:Int->T) {t:T} (h:t.kind≠1):sameHd t (sbT σ t):=by
 rw [nO σ h];exact ⟨rfl,rfl,by simp [T.kids,lZ]⟩
theorem kX {t u:T} (h:sameHd t u):jz u=jz t:=by
 unfold jz dI;rw [h.1,h.2.1,h.2.2]
theorem XG {t:T} (h:bU t=true):eT t.name t.kids.length=true:=by
 rw [bU,bM] at h;exact h.2
theorem W5 {t:T} (a:eN t=true) (h:jz t=true):ncT t:=by
 refine ⟨mS a,?_⟩;rw [jz,jc] at h;rcases h with h|h
 ·exact (uV h rfl).1
 ·cases hc:ez t with
  | false=>rfl
  | true=>
   rw [ez,bM,bM,bD,bD] at hc;rw [hc.2.1] at h;exact absurd h (by decide +kernel)
theorem nH (σ:Int->T) {t:T} (h:t.kind≠1) {i:Nat} (a:i<t.kids.length):kd (sbT σ t) i=sbT σ (kd t i):=by
 have f:∀ (ts:List T) (i:Nat),i<ts.length->(sbL σ ts).getD i zT=sbT σ (ts.getD i zT):=by
  intro ts;induction ts with
  | nil=>intro i a; simp at a
  | cons t ts g=>
   intro i a;rw [sbL];cases i with
   | zero=>rfl
   | succ i=>simpa using g i (by simpa using a)
 rw [nO σ h];exact f t.kids i a
theorem YW {t:T} (hn:t.name=nEq) (a:bU t=true):t.kids.length=2:=by
 have:=XG a;rw [hn] at this;have:=iv (by decide +kernel) this;omega
theorem blt_eq {t:T} (hn:t.name=nEq):gA t=.uni (kd t 0) (kd t 1):=by
 unfold gA;rw [hn,ag (by decide +kernel),ag (by decide +kernel),ai rfl]
theorem WQ {t:T} (hn:t.name=jH):gA t=.done 0:=by
 unfold gA;rw [ai hn]
theorem VE {t:T} (hn:t.name=lN):gA t=.done 1:=by
 unfold gA;rw [hn,ag (by decide +kernel),ai rfl]
theorem VP {R:T->Prop} {q:List T} (h:∀ t∈q,R t):Nc R (fx q):=by
 refine ⟨fun g a=>?_,fun c hc=>by cases hc⟩;obtain ⟨t,f,rfl⟩:=dp.1 a;exact h t f
end
end Go.Proofs.YtgllldjiaglkcaaGreatDoor

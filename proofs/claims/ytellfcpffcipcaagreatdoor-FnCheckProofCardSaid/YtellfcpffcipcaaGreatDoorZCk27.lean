/- How many answers a search that comes to its end has: the tree of the search, counted; a program with fewer clauses has no more answers. No program in sight. -/
import Derived.Test.YtellfcpffcipcaaGreatDoorZCkA
import Derived.Test.YtellfcpffcipcaaGreatDoorZCk26
namespace Go.Proofs.YtellfcpffcipcaaGreatDoor
attribute [local irreducible] Run CondV aF aT
section
open Go Go.RowKit
inductive AJ where
 | node (gs:List T)
 | alts (t:T) (gs:List T) (cs:List C)
def okT (st:au) (t:T):Prop:=(okU st.length t/\wT t<=1048576)/\t.kind=3
structure okNd (st:au) (gs:List T):Prop where
 good:Good st.length st
 gs:∀ g∈gs,okU st.length g/\g.kind=3
abbrev aaZ (p:List C) (t:T):List C:=p.filter fun c=>kX (cW c.head) (cW t)
inductive Ans (p:List C):au->AJ->Nat->Prop
 | done {st:au}:okNd st []->Ans p st (.node []) 1
 | solved {st st':au} {g t:T} {gs:List T} {n:Nat}:okNd st (g::gs)->okT st t->Res st (.one g t)->bW t=true->Blt st t 0 st'->Ans p st' (.node gs) n->Ans p st (.node (g::gs)) n
 | fail {st st':au} {g t:T} {gs:List T}:okNd st (g::gs)->okT st t->Res st (.one g t)->bW t=true->Blt st t 1 st'->Ans p st (.node (g::gs)) 0
 | plain {st:au} {g t:T} {gs:List T} {n:Nat}:okNd st (g::gs)->okT st t->Res st (.one g t)->bW t=false->Ans p st (.alts t gs (aaZ p t)) n->Ans p st (.node (g::gs)) n
 | nil {st:au} {t:T} {gs:List T}:Ans p st (.alts t gs []) 0
 | hit {st st':au} {t:T} {gs:List T} {c:C} {cs:List C} {m k n:Nat}:okNd st (t::gs)->okT st t->kB c->st.length<=m->Uni (g26 (ct st m)) (.one t (bD m c.head)) true st'->Ans p st' (.node (c.body.map (bD m)++gs)) k->
   Ans p st (.alts t gs cs) n->Ans p st (.alts t gs (c::cs)) (k+n)
 | miss {st st':au} {t:T} {gs:List T} {c:C} {cs:List C} {m n:Nat}:okNd st (t::gs)->okT st t->kB c->st.length<=m->Uni (g26 (ct st m)) (.one t (bD m c.head)) false st'->Ans p st (.alts t gs cs) n->Ans p st (.alts t gs (c::cs)) n
def Ko (st:au) (os gs:List T) (v w:List T):Prop:=∃ σ,kW σ st/\sbL σ os=v/\sbL σ gs=w
def SimN (st:au) (os gs:List T) (st':au) (os' gs':List T):Prop:=∀ v w,Ko st os gs v w↔Ko st' os' gs' v w
theorem SimN.refl (st:au) (os gs:List T):SimN st os gs st os gs:=fun _ _=>Iff.rfl
theorem SimN.symm {st a:au} {os gs os' f:List T} (h:SimN st os gs a os' f):SimN a os' f st os gs:=fun v w=>(h v w).symm
theorem SimN.trans {a b c:au} {f g i j l m:List T} (h:SimN a f g b i j) (o:SimN b i j c l m):SimN a f g c l m:=fun v w=>(h v w).trans (o v w)
theorem We (σ:Int->T):∀ a b:List T,sbL σ (a++b)=sbL σ a++sbL σ b
 | [],b=>rfl
 | x::a,b=>by rw [i8,sbL,sbL,We σ a b,i8]
theorem ki {st:au} (i:Good st.length st) {g t:T} (j:okU st.length g) (l:Res st (.one g t)) (os gs:List T):SimN st os (g::gs) st os (t::gs):=by
 intro v w;have e:∀ σ,kW σ st->sbL σ (g::gs)=sbL σ (t::gs):=fun σ m=>by rw [sbL,sbL,OJ i m l j]
 exact ⟨fun ⟨σ,a,f,h⟩=>⟨σ,a,f,by rw [<- e σ a];exact h⟩,fun ⟨σ,a,f,h⟩=>⟨σ,a,f,by rw [e σ a];exact h⟩⟩
theorem Hx {st:au} (a:Good st.length st) (os gs:List T):∃ v w,Ko st os gs v w:=⟨_,_,_,abu a idS,rfl,rfl⟩
theorem Wr {st j:au} {t:T} {c:C} {m:Nat} {r:Bool} (U:Good st.length st) (D:okT st t) (hc:kB c) (l:st.length<=m) (V:Uni (g26 (ct st m)) (.one t (bD m c.head)) r j) {os gs:List T} (ho:du st.length os) (G:du st.length gs) :
  (∀ v x,(r=true/\Ko j os (c.body.map (bD m)++gs) v x)↔∃ w0 w τ,Ko st os (t::gs) v (w0::w)/\sbT τ c.head=w0/\x=sbL τ c.body++w):=by
 have Z:(g26 (ct st m)).length=m+26:=by rw [mw,dj l]
 have q:Good (m+26) (g26 (ct st m)):=by
  have:=(U.to l).grow 26;exact this
 have hj:okJ (m+26) (.one t (bD m c.head)):=by
  have:=MW (st:=ct st m) (g:=t) (cl:=c) (by rw [dj l];exact ⟨iK l _ D.1.1,D.1.2⟩) hc;rw [dj l] at this;exact this
 have a:∀ σ,kW σ (g26 (ct st m))↔kW σ st:=fun σ=>(ou σ (ct st m) 26).trans (ou σ st _);have f:∀ σ:Int->T,sbL σ (c.body.map (bD m)++gs)=sbL (fun n=>σ (n+m)) c.body++sbL σ gs:=fun σ=>by rw [We,<- jk,Dt]
 intro v x;constructor
 ·rintro ⟨hr,σ,J,M,o⟩;obtain ⟨k1,O⟩:=((V.sem q hj σ).1 hr).1 J;have O:sbT σ t=sbT σ (bD m c.head):=O;refine ⟨sbT σ t,sbL σ gs,fun n=>σ (n+m),⟨σ,(a σ).1 k1,M,by rw [sbL]⟩,?_,?_⟩
  ·rw [O,Eh]
  ·rw [<- o,f]
 ·rintro ⟨w0,w,τ,⟨σ,J,M,o⟩,h4,rfl⟩;rw [sbL,gV] at o;have h:∀ n:Int,0<=n->n<(st.length:Int)->σ n=Cl m σ τ n:=fun n Y hn=>xl σ τ n Y (by omega);have hs:kW (Cl m σ τ) st:=zN U h J;have B:Jeq (Cl m σ τ) (.one t (bD m c.head)):=by
   show sbT _ t=sbT _ (bD _ c.head);rw [Hn σ τ hc.head.1.1,h4,<- o.1];exact (mg h t D.1.1).symm
  have i:=V.sem q hj (Cl m σ τ);cases r with
  | false=>exact absurd B (i.2 rfl ((a _).2 hs))
  | true=>
   refine ⟨rfl,_,(i.1 rfl).2 ⟨(a _).2 hs,B⟩,?_,?_⟩
   ·rw [<- sn h os ho];exact M
   ·rw [f,<- sn h gs G,o.2]
    congr 1
    refine sn (N:=26) (fun n Y _=>?_) c.body (oe fun b hb=>(hc.body b hb).1.1);show Cl m σ τ (n+m)=τ n;rw [Cl,af (by omega)]
    congr 1
    omega
theorem V4 {st a i f:au} {t u:T} {c:C} {m n:Nat} {r j:Bool} (U:Good st.length st) (V:okT st t) (hc:kB c) (Y:st.length<=m) (Z:Uni (g26 (ct st m)) (.one t (bD m c.head)) r a)
  (q:Good i.length i) (B:okT i u) (hn:i.length<=n) (D:Uni (g26 (ct i n)) (.one u (bD n c.head)) j f) {os gs os' g:List T} (ho:du st.length os) (G:du st.length gs) (J:du i.length os') (l:du i.length g)
  (M:r=true->Good a.length a) (o:j=true->Good f.length f)
  (O:SimN st os (t::gs) i os' (u::g)):r=j/\(r=true->SimN a os (c.body.map (bD m)++gs) f os' (c.body.map (bD n)++g)):=by
 have k1:=Wr U V hc Y Z ho G;have k2:=Wr q B hc hn D J l;have k3:∀ v x,(r=true/\Ko a os (c.body.map (bD m)++gs) v x)↔(j=true/\Ko f os' (c.body.map (bD n)++g) v x):=by
  intro v x;rw [k1,k2];exact ⟨fun ⟨w0,w,τ,h,N⟩=>⟨w0,w,τ,(O _ _).1 h,N⟩,fun ⟨w0,w,τ,h,N⟩=>⟨w0,w,τ,(O _ _).2 h,N⟩⟩
 have e:r=j:=by
  cases r with
  | true=>
   obtain ⟨v,x,h⟩:=Hx (M rfl) os (c.body.map (bD m)++gs);exact ((k3 v x).1 ⟨rfl,h⟩).1.symm
  | false=>
   cases j with
   | false=>rfl
   | true=>
    obtain ⟨v,x,h⟩:=Hx (o rfl) os' (c.body.map (bD n)++g);exact ((k3 v x).2 ⟨rfl,h⟩).1
 refine ⟨e,fun hr v x=>?_⟩;have:=k3 v x;rw [<- e,hr] at this;simpa using this
theorem r5 {st a:au} {t u:T} {os gs os' f:List T} (i:Good st.length st) (m:t.kind=3) (o:u.kind=3) (j:SimN st os (t::gs) a os' (u::f)):sameHd t u:=by
 obtain ⟨v,w,h⟩:=Hx i os (t::gs);obtain ⟨σ,_,_,l⟩:=id h;obtain ⟨τ,_,_,g⟩:=(j v w).1 h;rw [<- l,sbL,sbL,gV] at g;have e1:=Rb σ (t:=t) (by omega);have e2:=Rb τ (t:=u) (by omega);rw [g.1] at e2;exact ⟨e2.1.symm.trans e1.1,e2.2.1.symm.trans e1.2.1,e2.2.2.symm.trans e1.2.2⟩
theorem Hs {st f:au} {os gs os' a:List T} (g:Good st.length st) (i:SimN st os gs f os' a):a.length=gs.length:=by
 obtain ⟨v,w,h⟩:=Hx g os gs;obtain ⟨σ,_,_,j⟩:=id h;obtain ⟨τ,_,_,l⟩:=(i v w).1 h;rw [<- p8 σ gs,<- p8 τ a,j,l]
theorem Wy {st m:au} {t:T} {code:Int} (G:Good st.length st) (B:okT st t) (J:bW t=true) (o:fK t=true) (g:Blt st t code m) (os gs:List T) :
  ∃ F:T->Prop,(∀ v w,(code=0/\Ko m os gs v w)↔∃ w0,F w0/\Ko st os (t::gs) v (w0::w))/\F=(fun w0=>if t.name=nEq then kd w0 0=kd w0 1 else t.name=io):=by
 refine ⟨_,fun v w=>?_,rfl⟩;rw [fK,jI] at o;rcases o with o|o
 ·have:=(sw o rfl).2;rw [J] at this;cases this
 rw [dy,ET] at o;obtain ⟨x,N,f⟩:=o;have f:=of_decide_eq_true f;have g:BltJ st (fx t) code m:=g;simp only [cw,ic,g9] at N;have hk:t.kind≠1:=by have:=B.2;omega
 rcases N with rfl|rfl|rfl
 ·simp only [ai f];rw [blt_eq f] at g;obtain ⟨r,O,rfl⟩:=g;have j:=UM f J;have U:okJ st.length (.one (kd t 0) (kd t 1)):=⟨qi B.1 (by omega),qi B.1 (by omega)⟩
  have e:∀ σ:Int->T,Jeq σ (.one (kd t 0) (kd t 1))↔kd (sbT σ t) 0=kd (sbT σ t) 1:=fun σ=>by
   rw [Wv σ hk (by omega),Wv σ hk (by omega)];exact Iff.rfl
  constructor
  ·rintro ⟨hc,σ,i,j,a⟩;have Z:r=true:=by
    cases r with
    | true=>rfl
    | false=>cases hc
   obtain ⟨V,Y⟩:=((O.sem G U σ).1 Z).1 i;exact ⟨sbT σ t,(e σ).1 Y,σ,V,j,by rw [sbL,a]⟩
  ·rintro ⟨w0,M,σ,i,j,a⟩;rw [sbL,gV] at a;obtain ⟨rfl,a⟩:=a;have l:=O.sem G U σ;cases r with
   | false=>exact absurd ((e σ).2 M) (l.2 rfl i)
   | true=>exact ⟨rfl,σ,(l.1 rfl).2 ⟨i,(e σ).2 M⟩,j,a⟩
 ·have q:t.name≠nEq:=by rw [f];decide +kernel
  simp only [af q];rw [V0 f] at g;obtain ⟨rfl,rfl⟩:=g;constructor
  ·rintro ⟨_,σ,i,j,a⟩;exact ⟨_,f,σ,i,j,by rw [sbL,a]⟩
  ·rintro ⟨w0,_,σ,i,j,a⟩;rw [sbL,gV] at a;exact ⟨rfl,σ,i,j,a.2⟩
 ·have q:t.name≠nEq:=by rw [f];decide +kernel
  have D:t.name≠io:=by rw [f];decide +kernel
  simp only [af q];rw [R2 f] at g;obtain ⟨rfl,rfl⟩:=g;exact ⟨fun h=>absurd h.1 (by decide),fun ⟨_,h,_⟩=>absurd h D⟩
theorem Wk {st f j i:au} {t u:T} {code a:Int} (l:Good st.length st) (m:okT st t) (o:bW t=true) (J:fK t=true) (M:Blt st t code f) (q:Good j.length j) (N:okT j u) (r:Blt j u a i)
  {os gs os' g:List T} (B:SimN st os (t::gs) j os' (u::g)):(code=0->a=0)/\(code=0->SimN f os gs i os' g):=by
 have hd:=r5 l m.2 N.2 B;obtain ⟨F,U,e1⟩:=Wy l m o J M os gs;obtain ⟨F',O,e2⟩:=Wy q N (by rw [gz hd];exact o) (by rw [kP hd];exact J) r os' g;have Y:F'=F:=by rw [e1,e2,hd.2.1]
 rw [Y] at O;have k3:∀ v w,(code=0/\Ko f os gs v w)↔(a=0/\Ko i os' g v w):=by
  intro v w;rw [U,O];exact ⟨fun ⟨w0,h,D⟩=>⟨w0,h,(B _ _).1 D⟩,fun ⟨w0,h,D⟩=>⟨w0,h,(B _ _).2 D⟩⟩
 have G:Good f.length f:=by
  have:=M.good l o m.1;have hl:=this.len;rw [hl];exact this
 have hc:code=0->a=0:=fun h=>by
  obtain ⟨v,w,V⟩:=Hx G os gs;exact ((k3 v w).1 ⟨h,V⟩).1
 refine ⟨hc,fun h v w=>?_⟩;have:=k3 v w;rw [h,hc h] at this;simpa using this
theorem Ans.node_ok {p:List C} {st:au} {gs:List T} {n:Nat} (h:Ans p st (.node gs) n):okNd st gs:=by
 cases h with
 | done h=>exact h
 | solved h=>exact h
 | fail h=>exact h
 | plain h=>exact h
def Q6:AJ->Prop
 | .node gs=>∀ g∈gs,fK g=true
 | .alts _ gs cs=>(∀ g∈gs,fK g=true)/\∀ c∈cs,∀ b∈c.body,fK b=true/\b.kind=3
theorem Hk {st:au} {gs:List T} (h:okNd st gs):du st.length gs:=oe fun t a=>(h.gs t a).1
theorem okNd.tl {st:au} {g:T} {gs:List T} (h:okNd st (g::gs)):okNd st gs:=⟨h.good,fun x a=>h.gs x (bk _ a)⟩
theorem Ans.mono {p d:List C} (hd:d.Sublist p) (b0:∀ c∈p,∀ b∈c.body,fK b=true/\b.kind=3) {st:au} {j:AJ} {n:Nat} (h:Ans p st j n):Q6 j->match j with
  | .node gs=>∀ Z B n',Ans d Z (.node B) n'->SimN st [] gs Z [] B->n'<=n
  | .alts t gs cs=>∀ Z u B a0 n',Ans d Z (.alts u B a0) n'->a0.Sublist cs->SimN st [] (t::gs) Z [] (u::B)->n'<=n:=by
 induction h with
 | done o=>
  intro _ Z B n' U J;have:=Hs o.good J;obtain rfl:=iy this;cases U with
  | done _=>exact be _
 | @solved st a2 g t gs n o r hr hb hB _ ih=>
  intro l Z B n' U J;have hg:=o.gs g (bi ..);have hl:=Hs o.good J;cases U with
  | done _=>simp at hl
  | fail=>exact bf _
  | @solved _ O g' t' i _ a f G N a3 ha=>
   have D:=a.gs g' (bi ..);have q:=((ki o.good hg.1 hr [] gs).symm.trans J).trans (ki a.good D.1 G [] i);have a5:fK t=true:=by rw [kP (vD hr (by omega))];exact l g (bi ..)
   exact ih (fun x hx=>l x (bk _ hx)) _ _ _ ha ((Wk o.good r hb a5 hB a.good f a3 q).2 rfl)
  | @plain _ g' t' i _ a f G N ha=>
   have D:=a.gs g' (bi ..);have q:=((ki o.good hg.1 hr [] gs).symm.trans J).trans (ki a.good D.1 G [] i);have:=gz (r5 o.good r.2 f.2 q);rw [hb,N] at this;cases this
 | @fail st a2 g t gs o r hr hb hB=>
  intro l Z B n' U J;have hg:=o.gs g (bi ..);have hl:=Hs o.good J;cases U with
  | done _=>simp at hl
  | fail=>exact be _
  | @solved _ O g' t' i _ a f G N a3 ha=>
   have D:=a.gs g' (bi ..);have q:=((ki o.good hg.1 hr [] gs).symm.trans J).trans (ki a.good D.1 G [] i);have a5:fK t=true:=by rw [kP (vD hr (by omega))];exact l g (bi ..)
   have a9:fK t'=true:=by rw [kP (r5 o.good r.2 f.2 q)];exact a5
   have:=(Wk a.good f N a9 a3 o.good r hB q.symm).1 rfl;cases this
  | @plain _ g' t' i _ a f G N ha=>
   have D:=a.gs g' (bi ..);have q:=((ki o.good hg.1 hr [] gs).symm.trans J).trans (ki a.good D.1 G [] i);have:=gz (r5 o.good r.2 f.2 q);rw [hb,N] at this;cases this
 | @plain st g t gs n o r hr hb _ ih=>
  intro l Z B n' U J;have hg:=o.gs g (bi ..);have hl:=Hs o.good J;cases U with
  | done _=>simp at hl
  | fail=>exact bf _
  | @solved _ O g' t' i _ a f G N a3 ha=>
   have D:=a.gs g' (bi ..);have q:=((ki o.good hg.1 hr [] gs).symm.trans J).trans (ki a.good D.1 G [] i);have:=gz (r5 o.good r.2 f.2 q);rw [hb,N] at this;cases this
  | @plain _ g' t' i _ a f G N ha=>
   have D:=a.gs g' (bi ..);have q:=((ki o.good hg.1 hr [] gs).symm.trans J).trans (ki a.good D.1 G [] i);have hh:=r5 o.good r.2 f.2 q;refine ih ⟨fun x hx=>l x (bk _ hx),fun c hc=>b0 c (OR.1 hc).1⟩ _ _ _ _ _ ha ?_ q;unfold aaZ;rw [kQ hh];exact hd.filter _
 | nil=>
  intro _ Z u B a0 n' U V _;obtain rfl:=List.sublist_nil.1 V;cases U with
  | nil=>exact be _
 | @hit st a2 t gs c cs m k n o r hc hm hu ha _ b3 a6=>
  intro l Z u B a0 n' U V J;have M:Q6 (.alts t gs cs):=⟨l.1,fun c hc=>l.2 c (bk _ hc)⟩
  cases V with
  | cons _ V=>exact gM (a6 M _ _ _ _ _ U V J) (Nat.le_add_left ..)
  | cons_cons _ V=>
   have b1:Q6 (.node (c.body.map (bD m)++gs)):=fun x hx=>by
    rcases ci.1 hx with hx|hx
    ·obtain ⟨b,hb,rfl⟩:=eV.1 hx;have h3:=l.2 c (bi ..) b hb;rw [kP (sameHd.shift _ b (by have:=h3.2;omega))];exact h3.1
    ·exact l.1 x hx
   cases U with
   | @hit _ O _ _ _ _ m' k' b4 a f _ a7 a8 a4 Y=>
    have hn:=a6 M _ _ _ _ _ Y V J;have b2:Good a2.length a2:=ha.node_ok.good;have a1:Good O.length O:=a4.node_ok.good;have:=(V4 o.good r hc hm hu a.good f a7 a8 (os:=[]) (os':=[]) (by rw [du];trivial) (Hk o.tl) (by rw [du];trivial) (Hk a.tl) (fun _=>b2) (fun _=>a1) J).2 rfl;have hk:=b3 b1 _ _ _ a4 this;omega
   | miss _ _ _ _ _ Y=>exact gM (a6 M _ _ _ _ _ Y V J) (Nat.le_add_left ..)
 | @miss st a2 t gs c cs m n o r hc hm hu _ ih=>
  intro l Z u B a0 n' U V J;have M:Q6 (.alts t gs cs):=⟨l.1,fun c hc=>l.2 c (bk _ hc)⟩
  cases V with
  | cons _ V=>exact ih M _ _ _ _ _ U V J
  | cons_cons _ V=>
   cases U with
   | @hit _ O _ _ _ _ m' k' b4 a f _ a7 a8 a4 Y=>
    have a1:Good O.length O:=a4.node_ok.good;have:=(V4 o.good r hc hm hu a.good f a7 a8 (os:=[]) (os':=[]) (by rw [du];trivial) (Hk o.tl) (by rw [du];trivial) (Hk a.tl) (fun h=>by cases h) (fun _=>a1) J).1;cases this
   | miss _ _ _ _ _ Y=>exact ih M _ _ _ _ _ Y V J
def pk (p:List C) (l:List Int):List C:=l.filterMap fun i=>p[i.toNat]?
def gt (gs:List GI):List T:=gs.map GI.t
inductive AnsC (p:List C):List CI->Nat->Prop
 | nil:AnsC p [] 0
 | cons {c:CI} {cs:List CI} {k n:Nat}:Ans p c.binds (.alts c.goal (gt c.rest) (pk p c.left)) k->AnsC p cs n->AnsC p (c::cs) (k+n)
theorem AnsC.app {p:List C} {a b:List CI} {n:Nat}:AnsC p (a++b) n->∃ i j,AnsC p a i/\AnsC p b j/\n=i+j:=by
 induction a generalizing n with
 | nil=>exact fun h=>⟨0,n,.nil,h,by omega⟩
 | cons c a l=>
  intro h;cases h with
  | @cons _ _ k m o q=>
   obtain ⟨i,j,f,g,rfl⟩:=l q;exact ⟨k+i,j,.cons o f,g,by omega⟩
theorem AnsC.join {p:List C} {a b:List CI} {i j:Nat} (h:AnsC p a i) (f:AnsC p b j):AnsC p (a++b) (i+j):=by
 induction h with
 | nil=>simpa using f
 | cons g _ l=>rw [NB];exact .cons g l
theorem CZ {st:au} {a b:Nat} (h:st.length<=a) (f:a<=b):ct (ct st a) b=ct st b:=by
 unfold ct;rw [eY,Vg]
 congr 2
 rw [bK,E0];omega
theorem Ans.shrink {p:List C} {st:au} {a:Nat} (j:st.length<=a) {t:T} {gs:List T} (q:okNd st (t::gs)) (r:okT st t):∀ {cs:List C} {k:Nat},Ans p (ct st a) (.alts t gs cs) k->Ans p st (.alts t gs cs) k:=by
 intro cs;induction cs with
 | nil=>intro k h;cases h;exact .nil
 | cons c cs B=>
  intro k h;cases h with
  | @hit _ l _ _ _ _ m i n _ _ hc f g D o=>
   rw [dj j] at f;rw [CZ j f] at g;exact .hit q r hc (by omega) g D (B o)
  | @miss _ l _ _ _ _ m n _ _ hc f g o=>
   rw [dj j] at f;rw [CZ j f] at g;exact .miss q r hc (by omega) g (B o)
theorem TryI.ans {p:List C} (G:∀ cl∈p,kB cl) {g:T} {l:List Int} {st:au} {o:Option HI} {n:Nat} (h:TryI p g l st o n):∀ (b:au) (gs:List T),b.length<=st.length->st=ct b st.length->okNd b (g::gs)->okT b g->
  (o=none->Ans p b (.alts g gs (pk p l)) 0)/\∀ r,o=some r->∀ i j,Ans p r.st (.node (r.cl.body.map (bD r.by_)++gs)) i->Ans p b (.alts g gs (pk p r.l)) j->Ans p b (.alts g gs (pk p l)) (i+j):=by
 induction h with
 | nil=>intro b gs _ _ _ _;exact ⟨fun _=>.nil,fun r h=>by cases h⟩
 | @hit i l cl st O m a=>
  intro b gs f D q t;refine ⟨fun h=>(by cases h),fun r h U j J M=>?_⟩;cases h;rw [D] at a;have e:pk p ((i:Int)::l)=cl::pk p l:=by rw [pk,List.filterMap_cons,dq,m];rfl
  rw [e];rw [dj f] at a;exact .hit q t (G _ (cJ m)) f a J M
 | @miss i l cl st O o n m a _ Z=>
  intro b gs f D q t;have B:=mw st;have N:g26 st=ct b (g26 st).length:=by
   rw [B,<- zC f,<- D]
  obtain ⟨V,Y⟩:=Z b gs (by omega) N q t;rw [D] at a;have e:pk p ((i:Int)::l)=cl::pk p l:=by rw [pk,List.filterMap_cons,dq,m];rfl
  rw [e];rw [dj f] at a;exact ⟨fun h=>.miss q t (G _ (cJ m)) f a (V h),fun r h U j J M=>.miss q t (G _ (cJ m)) f a (Y r h U j J M)⟩
theorem aah (cl:C) (b:Nat) (k u:Int) (rest:List GI):gt (nf cl b k u rest)=cl.body.map (bD b)++gt rest:=by
 unfold gt nf;rw [IY,List.map_map];rfl
theorem Q3 {p:List C} {cs:List CI} {ns:List NI} {g:T} {a:Int} {rest:List GI} {b:au} {r:HI} {k m:Nat} (h:Ans p (jj cs ns g a rest b r).st (.node (gt (jj cs ns g a rest b r).goals)) k) (o:AnsC p (jj cs ns g a rest b r).chs m) :
  ∃ i j,Ans p r.st (.node (r.cl.body.map (bD r.by_)++gt rest)) k/\Ans p b (.alts g (gt rest) (pk p r.l)) i/\AnsC p cs j/\m=j+i:=by
 have h:Ans p r.st (.node (gt (nf r.cl r.by_ cs.length a rest))) k:=h;rw [aah] at h;have o:AnsC p (cs++(if r.l=[] then [] else [(⟨g,a,rest,r.l,b,ns.length⟩:CI)])) m:=o;obtain ⟨i,j,q,f,rfl⟩:=o.app;by_cases hl:r.l=[]
 ·rw [ai hl] at f;cases f;exact ⟨0,i,h,by rw [hl];exact .nil,q,rfl⟩
 ·rw [af hl] at f;cases f with
  | @cons _ _ k' n' f t=>
   cases t;exact ⟨k',i,h,f,q,rfl⟩
theorem BackI.ans {p:List C} (M:∀ cl∈p,kB cl) {cs:List CI} {n:Nat} {ns:List NI} {o:Option SI} (h:BackI p cs n ns o):okCs p.length n ns.length cs->(∀ c∈cs,c.goal.kind=3/\∀ g∈c.rest,ncT g.t)->
  (o=none->AnsC p cs 0)/\∀ s,o=some s->∀ i j,Ans p s.st (.node (gt s.goals)) i->AnsC p s.chs j->AnsC p cs (i+j):=by
 have q:∀ {k:Nat} {c:CI},okCI p.length k c->c.goal.kind=3->(∀ g∈c.rest,ncT g.t)->okNd c.binds (c.goal::gt c.rest)/\okT c.binds c.goal:=by
  intro k c hc a hr;refine ⟨⟨hc.good,fun g N=>?_⟩,hc.goal.1,a⟩;rcases cw.1 N with rfl|N
  ·exact ⟨hc.goal.1.1,a⟩
  ·obtain ⟨x,hx,rfl⟩:=eV.1 N;exact ⟨(hc.rest x hx).1.1.1.1,(hr x hx).1⟩
 induction h with
 | nil=>intro _ _;exact ⟨fun _=>.nil,fun s h=>by cases h⟩
 | @hit cs c n m ns r J=>
  intro f hk;refine ⟨fun h=>(by cases h),fun s h i j l O=>?_⟩;cases h;obtain ⟨h1,B,a,h4⟩:=f.last;obtain ⟨D,G⟩:=q B (hk c (by simp)).1 (hk c (by simp)).2;obtain ⟨U,j',V,Y,q3,rfl⟩:=Q3 l O;have hl:=dj a;have:=(J.ans M c.binds (gt c.rest) (by omega) (by rw [hl]) D G).2 r rfl i U V (Ans.shrink a D G Y);have h5:=q3.join (.cons this .nil);rw [show i+(j'+U)=j'+(i+U+0) by omega];exact h5
 | @miss cs c n m ns o J _ ih=>
  intro f hk;obtain ⟨h1,B,a,h4⟩:=f.last;obtain ⟨g1,g2,g3,g4⟩:=B.grow a;obtain ⟨l,_,_⟩:=J.ok M g1 g2 g3;have hl:=dj a;rw [hl] at l;have Z:(ns.take c.taken).length=c.taken:=by rw [ey];omega
  obtain ⟨D,G⟩:=q B (hk c (by simp)).1 (hk c (by simp)).2;have h0:=(J.ans M c.binds (gt c.rest) (by omega) (by rw [hl]) D G).1 rfl;obtain ⟨V,Y⟩:=ih (by rw [Z];exact h1.mono l (be _)) fun c hc=>hk c (dO _ hc);refine ⟨fun h=>?_,fun s h i j l O=>?_⟩
  ·exact (V h).join (.cons h0 .nil)
  ·have:=(Y s h i j l O).join (.cons h0 .nil);simpa using this
structure Nk (s:SI):Prop where
 nc:Nc ncT s
 k3:∀ c∈s.chs,c.goal.kind=3
theorem V1 {cs:List CI} {ns:List NI} {g:T} {a:Int} {rest:List GI} {b:au} {r:HI} (h:∀ c∈cs,c.goal.kind=3) (i:g.kind=3):∀ c∈(jj cs ns g a rest b r).chs,c.goal.kind=3:=by
 intro c hc;have f:c∈cs++(if r.l=[] then [] else [(⟨g,a,rest,r.l,b,ns.length⟩:CI)]):=hc;rcases ci.1 f with f|f
 ·exact h c f
 ·split at f
  ·cases f
  ·rw [cE.1 f];exact i
theorem BackI.k3 {p:List C} {cs:List CI} {n:Nat} {ns:List NI} {o:Option SI} (h:BackI p cs n ns o):(∀ c∈cs,c.goal.kind=3)->∀ s,o=some s->∀ c∈s.chs,c.goal.kind=3:=by
 induction h with
 | nil=>intro _ s h;cases h
 | hit f=>
  intro a s h;cases h;exact V1 (fun c hc=>a c (dO _ hc)) (a _ (by simp))
 | miss f _ g=>intro a;exact g fun c hc=>a c (dO _ hc)
theorem StepI.k3 {p:List C} {s:SI} {o:Option SI} {e:Int} {nc:Bool} (h:StepI p nc s o e) (hn:Nc ncT s) (f:∀ c∈s.chs,c.goal.kind=3):∀ a,o=some a->∀ c∈a.chs,c.goal.kind=3:=by
 cases h with
 | large=>intro a h;cases h
 | noCut=>intro a h;cases h
 | err=>intro a h;cases h
 | unknown=>intro a h;cases h
 | cut g=>intro a h;cases h;exact fun c hc=>f c (zO hc)
 | solved g=>intro a h;cases h;exact f
 | fail g _ _ _ _ _ i=>exact i.k3 f
 | took g l _ _ _ _ m=>
  intro a h;cases h;have j:=(hn.goals _ (by rw [g];exact bi ..)).1;exact V1 f ((vD l (by omega)).1.trans j)
 | back g _ _ _ _ _ _ i=>exact i.k3 f
theorem StepI.ans {p:List C} (hp:∀ cl∈p,kB cl) {s:SI} {o:Option SI} {e:Int} (h:StepI p false s o e) (G:tz p.length s) (hk:Nk s) :
  (o=none->e=0->∃ j,AnsC p s.chs j/\j=0/\Ans p s.st (.node (gt s.goals)) 0)/\∀ q,o=some q->∀ i j,Ans p q.st (.node (gt q.goals)) i->AnsC p q.chs j->∃ i' j',Ans p s.st (.node (gt s.goals)) i'/\AnsC p s.chs j'/\i+j=i'+j':=by
 have cc:∀ c∈s.chs,c.goal.kind=3/\∀ g∈c.rest,ncT g.t:=fun c hc=>⟨hk.k3 c hc,hk.nc.chs c hc⟩
 have first:∀ {g:GI} {gs:List GI} {t:T},s.goals=g::gs->Res s.st (.one g.t t)->bL t=true->okNd s.st (g.t::gt gs)/\okNd s.st (t::gt gs)/\okT s.st t/\((okU s.st.length t/\wT t<=1048576)/\okM t)/\fC t=false:=by
  intro g gs t f l a;have a0:=G.goals g (by rw [f];simp);obtain ⟨M,a2⟩:=sI G.good a0.1.1 G.tab l;have hw:=gG a M;have h3:=hk.nc.goals g (by rw [f];simp);have Z:=h3.hd (vD l (by have:=h3.1;omega));have a1:∀ x∈gt gs,okU s.st.length x/\x.kind=3:=fun x J=>by
   obtain ⟨y,hy,rfl⟩:=eV.1 J;exact ⟨(G.goals y (by rw [f];exact bk _ hy)).1.1.1.1,(hk.nc.goals y (by rw [f];exact bk _ hy)).1⟩
  refine ⟨⟨G.good,fun x J=>?_⟩,⟨G.good,fun x J=>?_⟩,⟨⟨M,by omega⟩,Z.1⟩,⟨⟨M,by omega⟩,a2⟩,Z.2⟩
  ·rcases cw.1 J with rfl|J
   ·exact ⟨a0.1.1.1.1,h3.1⟩
   ·exact a1 x J
  ·rcases cw.1 J with rfl|J
   ·exact ⟨M,Z.1⟩
   ·exact a1 x J
 have U:∀ t:T,pk p (hH p t)=aaZ p t:=fun t=>by
  have h1:=congrArg (List.filterMap id) (vg p t);unfold cls at h1;rw [List.filterMap_map,List.filterMap_map] at h1;unfold pk aaZ;simpa [Function.comp_def] using h1
 have eg:∀ {g:GI} {gs:List GI},s.goals=g::gs->gt s.goals=g.t::gt gs:=fun h=>by rw [h];rfl
 cases h with
 | large=>exact ⟨fun _ h=>absurd h (by decide),fun q h=>by cases h⟩
 | noCut _ _ _ _ h=>cases h
 | err _ _ _ _ _ _ h0 _=>
  refine ⟨fun _ h=>absurd h ?_,fun q h=>by cases h⟩;unfold Q0;split
  ·decide
  split
  ·decide
  split <;> decide
 | unknown=>exact ⟨fun _ h=>absurd h (by decide),fun q h=>by cases h⟩
 | cut f l a D _=>
  have:=(first f l a).2.2.2.2;rw [D] at this;cases this
 | @solved g gs t st f l a D O hB=>
  obtain ⟨N,o2,B,o4,_⟩:=first f l a
  refine ⟨fun h=>(by cases h),fun q h i j V Y=>?_⟩;cases h;rw [eg f];exact ⟨i,j,.solved N B l O hB V,Y,rfl⟩
 | @fail g gs t st o f l a D O hB ho=>
  obtain ⟨N,o2,B,o4,_⟩:=first f l a
  obtain ⟨q1,q2⟩:=ho.ans hp (g8 G.chs ⟨t,g.up,-1⟩) cc;rw [eg f];exact ⟨fun h _=>⟨0,q1 h,rfl,.fail N B l O hB⟩,fun q h i j V Y=>⟨0,i+j,.fail N B l O hB,q2 q h i j V Y,by omega⟩⟩
 | @took g gs t r m f l a D O hf hT=>
  obtain ⟨N,o2,B,o4,_⟩:=first f l a
  refine ⟨fun h=>(by cases h),fun q h i j V Y=>?_⟩;cases h;obtain ⟨i',j',q1,q2,q3,rfl⟩:=Q3 V Y;have:=(hT.ans hp s.st (gt gs) (be _) (kR _).symm o2 B).2 r rfl i i' q1 q2;rw [U] at this;rw [eg f];exact ⟨i+i',j',.plain N B l O this,q3,by omega⟩
 | @back g gs t m o f l a D O hf hT ho=>
  obtain ⟨N,o2,B,o4,_⟩:=first f l a
  have h0:=(hT.ans hp s.st (gt gs) (be _) (kR _).symm o2 B).1 rfl;rw [U] at h0;obtain ⟨q1,q2⟩:=ho.ans hp ((g8 G.chs _).mono (hT.ok hp G.good G.tab o4).1 (be _)) cc;rw [eg f];exact ⟨fun h _=>⟨0,q1 h,rfl,.plain N B l O h0⟩,fun q h i j V Y=>⟨0,i+j,.plain N B l O h0,q2 q h i j V Y,by omega⟩⟩
theorem RunI.ans {p:List C} (l:∀ cl∈p,kB cl) (G:∀ cl∈p,∀ b∈cl.body,ncT b) {vars:List Int} {most n:Nat} {s:SI} {out:List (List T)} {r:List (List T) × Int} (h:RunI p vars most n s out r) :
  tz p.length s->Nk s->r.2=0->∃ i j,Ans p s.st (.node (gt s.goals)) i/\AnsC p s.chs j/\r.1.length=out.length+(i+j):=by
 have nil:∀ {s:SI},tz p.length s->s.goals=[]->Ans p s.st (.node (gt s.goals)) 1:=fun a h=>by
  rw [h];exact .done ⟨a.good,fun x J=>by cases J⟩
 induction h with
 | fuel=>intro _ _ h;cases h
 | more=>intro _ _ h;cases h
 | large=>intro _ _ h;cases h
 | stop _ f=>
  intro a hk h;obtain ⟨j,m,rfl,o⟩:=(f.ans l a hk).1 rfl h;exact ⟨0,0,o,m,rfl⟩
 | step _ f _ B=>
  intro a hk h;obtain ⟨i,j,q,t,k3⟩:=B (f.ok l a _ rfl).1 ⟨f.nc Oy G hk.nc _ rfl,f.k3 hk.nc hk.k3 _ rfl⟩ h;obtain ⟨M,N,m,o,O⟩:=(f.ans l a hk).2 _ rfl i j q t;exact ⟨M,N,m,o,by omega⟩
 | last D _ _ g=>
  intro a hk _;have:=(g.ans l a.chs fun c hc=>⟨hk.k3 c hc,hk.nc.chs c hc⟩).1 rfl;exact ⟨1,0,nil a D,this,by simp⟩
 | next D _ _ g _ B=>
  intro a hk h;obtain ⟨i,j,q,t,k3⟩:=B (g.ok l a.chs _ rfl).1 ⟨g.nc Oy G hk.nc.chs _ rfl,g.k3 hk.k3 _ rfl⟩ h;have:=(g.ans l a.chs fun c hc=>⟨hk.k3 c hc,hk.nc.chs c hc⟩).2 _ rfl i j q t;refine ⟨1,_,nil a D,this,?_⟩;rw [k3,bK,bI,cB];omega
theorem Zd {q:List T} (h:∀ t∈q,ncT t):Nk (jb q):=⟨P6 h,fun c hc=>by cases hc⟩
theorem SolR.fewer {p d:List C} (Z:CD p=true) (hd:d.Sublist p) {q:List T} (hq:∀ t∈q,fK t=true/\ncT t) {most f fuel l:Nat} {r G:List (List T) × Int} (h:SolR p q most fuel r) (J:SolR d q f l G) (e:r.2=0) (e':G.2=0):G.1.length<=r.1.length:=by
 rcases h with ⟨a,h⟩|⟨_,rfl⟩
 ·rcases J with ⟨o,J⟩|⟨_,rfl⟩
  ·rw [aZ] at a o;rw [CD,aZ,eX] at Z;have D:∀ c∈p,∀ b∈c.body,fK b=true:=fun c hc b a=>eX.1 (Z.2 c hc) b a;have m:∀ cl∈p,∀ b∈cl.body,ncT b:=fun cl hc b B=>WG (rY a.1 hc B) (D cl hc b B);have V:∀ c∈p,∀ b∈c.body,fK b=true/\b.kind=3:=fun c hc b a=>⟨D c hc b a,(m c hc b a).1⟩
   have hk:=Zd fun t M=>(hq t M).2;obtain ⟨i,j,q1,q2,q3⟩:=h.ans (kM a.1).1 m (pl a.2 _) hk e;obtain ⟨i',j',N,O,U⟩:=J.ans (kM o.1).1 (fun cl hc=>m cl (hd.subset hc)) (pl o.2 _) hk e';cases q2;cases O;have Y:Q6 (.node (gt (jb q).goals)):=fun g hg=>by
    obtain ⟨x,hx,rfl⟩:=eV.1 hg;obtain ⟨t,M,rfl⟩:=eV.1 hx;exact (hq t M).1
   have:=Ans.mono hd V q1 Y _ _ _ N (.refl _ _ _);simp only [cB] at q3 U;omega
  ·cases e'
 ·cases e
end
section
open Go Go.RowKit
theorem TV {q:List T} (h:eJ q=true):q.length<=6:=by
 rw [eJ,aZ] at h;have:=h.1;simp at this;omega
def LightT (n m:Nat) (q:List T):Prop:=q.length<=n/\∀ t∈q,wT t<=m
theorem LightT.le {n m:Nat} {q:List T} (h:LightT n m q):q.length+wL q<=n+n * m:=by
 have:∀ q:List T,(∀ c∈q,wT c<=m)->wL q<=q.length * m:=by
  intro q;induction q with
  | nil=>intro _;simp [wL]
  | cons c q g=>
   intro h;have a:=h c (bi ..);have f:=g fun d hd=>h d (bk _ hd);simp only [wL,bI,mi];omega
 have a:=this q h.2;have f:q.length * m<=n * m:=jw _ h.1;have:=h.1;omega
section
variable {w0 w:World} {X:List Nat} {L A:List Item} {S:ae}
theorem X8 {v:Value} {css:List (hZ)} {q:List T} (a:Inv w0 X (aK v ab 4 css::A) S w) (hR:Rows 4 (RdT S) css q) :
  ∃ S',Ext w0.heap.size X S S'/\Inv w0 X A S' w/\RdSl S' 4 (RdT S') v q:=by
 have a:Inv w0 X (A++[aK v ab 4 css]) S w:=a.last 0 rfl;obtain ⟨S',g,f,a⟩:=Inv.lendExt a;exact ⟨S',g,a,RowRd.rows (hR.monoR fun _ _ h=>RdT.mono g.1 h) f⟩
end
section
variable {br:Nat} {sl:Value} {ys:List Nat} {S:ae}
end
end
section
open Go Go.RowKit
def Vq (q:List T):Prop:=eJ q=true/\0<q.length
def Zw (s:ByteArray):Bool:=match sR 60 8 (bs s) 0 [] with
 | some (q,n)=>decide (n=s.size) && (eJ q && (decide (wL q<=300) && (decide (s.size<=1000) && decide (0<q.length))))
 | none=>false
theorem XJ {s:ByteArray} (h:Zw s=true):∃ q,sR 60 8 (bs s) 0 []=some (q,s.size)/\eJ q=true/\wL q<=300/\s.size<=1000/\0<q.length:=by
 unfold Zw at h;split at h
 ·rename_i q n a
  simp only [aZ,bt] at h;obtain ⟨rfl,f,g,i,j⟩:=h;exact ⟨q,a,f,g,i,j⟩
 ·cases h
abbrev abI (br:Nat) (sl:Value) (p k n m:Nat):Value->List Item->ae->Prop:=fun v I' S'=>∃ p',p'<=p+k/\I'=[rdI br sl p']/\∃ q,RdSl S' 4 (RdT S') v q/\LightT n m q/\Vq q
section
variable {br:Nat} {sl:Value} {ys:List Nat} {S:ae}
theorem p9 {s:ByteArray} (h:Zw s=true):kt Jj [.string s] [] S fun v I' S'=>I'=[]/\∃ u q,v=.tuple #[u,.bool true]/\RdSl S' 4 (RdT S') u q/\LightT 6 300 q/\Vq q:=by
 intro w f;obtain ⟨q,hq,o,a1,hs,V⟩:=XJ h;have Y:=TV o;have Z:(bs s).length=s.size:=(n3 (bs s)).symm;apply tM.2;dsimp only[tM,aR];refine jy bg (nD (by omega) (aE (fun N=>by cases N) (fun _=>?_)));refine Run.call0E AN Bt f (zh (i:=0) hq (gM (Dh Z) (by omega)) (bf _)) fun v I' S1 w'=>?_;rintro ⟨rfl,u,rfl,r⟩ J f;have f:Inv w [] [] S1 w':=f;refine al (v:=u) rfl (al (v:=ax (s.size:Int)) rfl ?_);refine ⟨fun t w'=>t=.bool false/\Inv w [] [] S1 w',?_,?_⟩
 ·refine jy bg (dw ?_);rw [aL rfl];refine rpG ?_;refine Run.callPure GO GP f (zx r (by omega)) fun w' f=>?_;rw [o];apply cq;refine rpG ?_;exact ⟨rfl,f⟩
 intro a0 _ _ _ _ _ _ _ _ w';rintro ⟨rfl,f⟩;refine aE (fun N=>by cases N) (fun _=>?_);refine fg f bx fun v0 w' f=>?_;refine ⟨fun a b w'=>∃ (j:Nat) (S2:ae) (css:List (hZ)),a=ax (j:Int)/\j<=q.length/\Ext w.heap.size [] S S2/\Sle S1 S2/\Rows 4 (RdT S2) css (q.take j)/\Inv w [] [aK b ab 4 css] S2 w',
  fun a _ _=>q.length - (intOf a).toNat,⟨0,S1,[],rfl,bf _,J,Sle.refl _,Rows.nil _ _,f⟩,?_⟩
 intro t7 _ _ t6 _ _ _ _ _ _ _ _ _ _ _ _ w';rintro ⟨j,S2,css,rfl,hj,B,D,hR,f⟩;have r:=r.monoT D;have a2:=hR.hc;refine aI r ag (bM (aJ (fun O=>?_) (fun O=>?_)))
 ·have l:j<q.length:=by omega
  have hm:=lf (bJ l);have a3:(q.take j).length=j:=by rw [ey];omega
  refine cL f r ag ac l (fun _ _=>RdT.length) fun cs U=>?_;refine Run.call0E fR fQ f (gL _ S2 cs U (by omega)) fun v' I' S3 w'=>?_;rintro ⟨rfl,ds,M,rfl,rfl,hT⟩ g f;obtain ⟨S3,f,g,G⟩:=f.pubExt;have m:=hT.rd G;refine ei (css:=css) f 0 ds bx (by omega) (by omega) rfl m.length m.one (by omega) (by omega) fun v' w' f=>?_;refine bA (by omega) ?_;exact ⟨⟨j+1,S3,_,rfl,l,B.trans g,D.trans g.1,by rw [gh l];exact (hR.monoR fun _ _ h=>RdT.mono g.1 h).snoc m m.length,f⟩,by simp [intOf];omega⟩
 ·have:j=q.length:=by omega
  subst this;rw [fM] at hR;obtain ⟨S3,g,f,hr⟩:=X8 f hR;exact ⟨_,[],S3,rfl,f,B.trans g,rfl,_,q,rfl,hr,⟨Y,fun t ht=>by have:=lf ht;omega⟩,o,V⟩
theorem DT (S:ae):kt Ly [] [] S fun v I' S'=>I'=[]/\∃ l,RdSl S' 1 rp v l/\0<l.length/\l.all Zw=true:=by
 intro w a;apply uO.2;dsimp only[uO,ub];refine gT a (by kernel_rfl) rfl (by omega) fun v S1 w' f g a=>?_;exact ⟨_,[],S1,rfl,a,f,rfl,_,g,by decide,by decide +kernel⟩
theorem Jk {p:Nat} (h:RdSl S 1 nZ sl ys) (B:p<=100000000):kt R0 [rdP br] [rdI br sl p] S (abI br sl p 1 6 300):=by
 intro w a;apply A9.2;dsimp only[A9,aR];refine Run.call0E Jm IL a (DT S) fun t I' S1 w'=>?_;rintro ⟨rfl,l,hl,i,f⟩ g a;have a:Inv w [br] [rdI br sl p] S1 w':=a;refine aI hl cZ (Run.callL cG cH a (dU (n:=l.length) (h.monoU g.1) (by omega) i) rfl fun t I' S1 w'=>?_);rintro ⟨rfl,rfl,k,hk,rfl⟩ _ a;have a:Inv w [br] [rdI br sl (p+1)] S1 w':=a;refine gj a hl cZ aP hk (fun cs m=>m) ?_;rw [eX] at f;refine Run.call0E tF tD a (p9 (f _ (bJ hk))) fun v I' S2 w'=>?_;rintro ⟨rfl,u,q,rfl,o,r⟩ j a;refine al (v:=u) rfl (al (v:=.bool true) rfl ?_);exact ⟨_,_,S2,rfl,a,g.trans j,p+1,be _,rfl,q,o,r⟩
abbrev aaH (br:Nat) (sl:Value) (p k:Nat):Value->List Item->ae->Prop:=fun v I' S'=>∃ p',p'<=p+k/\I'=[rdI br sl p']/\∃ u g ps q,v=.tuple #[u,g]/\RdSl S' 5 (RdC S') u ps/\Light 8 200 ps/\0<ps.length/\(∀ c∈ps,cz c=true)/\RdSl S' 4 (RdT S') g q/\LightT 6 300 q/\Vq q
theorem KP {p:Nat} (h:RdSl S 1 nZ sl ys) (hp:p<=10000000):kt UK [rdP br] [rdI br sl p] S (aaH br sl p 5):=by
 intro w a;apply Fk.2;dsimp only[Fk,aR];refine Run.call0E BL Bz a (y7 S) fun v' I' S1 w'=>?_;rintro ⟨rfl,l,hl,b1,D⟩ G a;have a:Inv w [br] [rdI br sl p] S1 w':=a;refine aI hl cZ (Run.callL cG cH a (dU (n:=l.length) (h.monoU G.1) (by omega) (by omega)) rfl fun v' I' S1 w'=>?_);rintro ⟨rfl,rfl,k,hk,rfl⟩ _ a;have a:Inv w [br] [rdI br sl (p+1)] S1 w':=a;refine gj a hl cZ aP hk (fun cs m=>m) ?_;rw [eX] at D;refine Run.call0E qu pZ a (Nb (D _ (bJ hk))) fun v I' S2 w'=>?_;rintro ⟨u,css,ps,rfl,rfl,hR,h0,J,M⟩ a0 a;have a:Inv w [br] [aK u aB 5 css,rdI br sl (p+1)] S2 w':=a.last 0 rfl;obtain ⟨T0,b0,a,hr⟩:=vJ a hR;refine al (v:=u) rfl (al (v:=.bool true) rfl ?_);have F0:Ext w.heap.size [br] S T0:=(G.trans a0).trans b0;refine gT a (by kernel_rfl) rfl (by omega) fun v1 T1 w' G1 h1 a=>?_;have F1:=F0.trans G1;refine gT a (by kernel_rfl) rfl (by omega) fun v2 T2 w' G2 h2 a=>?_;have F2:=F1.trans G2;refine gT a (by kernel_rfl) rfl (by omega) fun v3 T3 w' G3 h3 a=>?_;have F3:=F2.trans G3;refine gT a (by kernel_rfl) rfl (by omega) fun v4 T4 w' G4 h4 a=>?_;have F4:=F3.trans G4;refine gT a (by kernel_rfl) rfl (by omega) fun v5 T5 w' G5 h5 a=>?_;have F5:=F4.trans G5;refine gT a (by kernel_rfl) rfl (by omega) fun v6 T6 w' G6 h6 a=>?_;have F6:=F5.trans G6;refine gT a (by kernel_rfl) rfl (by omega) fun v7 T7 w' G7 h7 a=>?_;have F7:=F6.trans G7;refine gT a (by kernel_rfl) rfl (by omega) fun v8 T8 w' G8 h8 a=>?_;have F8:=F7.trans G8;refine gT a (by kernel_rfl) rfl (by omega) fun v9 T9 w' G9 h9 a=>?_;have F9:=F8.trans G9;refine gT a (by kernel_rfl) rfl (by omega) fun r T10 w' G10 O a=>?_;have F10:=F9.trans G10;refine gT a (by kernel_rfl) rfl (by omega) fun t T11 w' G11 U a=>?_;have F11:=F10.trans G11;refine vu (v:=fun b=>.slice (some ⟨b,0,none⟩) 11 11) (o:=.cells #[v1,v2,v3,v4,v5,v6,v7,v8,v9,r,t] Dv) a ?_ fun b w' a=>?_
 ·obtain ⟨a1,c1,rfl,_⟩:=id h1;obtain ⟨a2,c2,rfl,_⟩:=id h2;obtain ⟨a3,c3,rfl,_⟩:=id h3;obtain ⟨a4,c4,rfl,_⟩:=id h4;obtain ⟨a5,c5,rfl,_⟩:=id h5;obtain ⟨a6,c6,rfl,_⟩:=id h6;obtain ⟨a7,c7,rfl,_⟩:=id h7;obtain ⟨a8,c8,rfl,_⟩:=id h8;obtain ⟨a9,c9,rfl,_⟩:=id h9;obtain ⟨b4,b5,rfl,_⟩:=id O;obtain ⟨b6,b7,rfl,_⟩:=id U;kernel_rfl
 obtain ⟨T12,a,G12,hS⟩:=Inv.pub1 (A:=[rdI br sl (p+1)]) a;have F12:=F11.trans G12;have L11:=G12.1;have L10:=G11.1.trans L11;have L9:=G10.1.trans L10;have L8:=G9.1.trans L9;have L7:=G8.1.trans L8;have L6:=G7.1.trans L7;have L5:=G6.1.trans L6;have L4:=G5.1.trans L5;have L3:=G4.1.trans L4;have L2:=G3.1.trans L3;have L1:=G2.1.trans L2;have Z:∃ v l,(#[v1,v2,v3,v4,v5,v6,v7,v8,v9,r,t]:Array Value)[0+k * 1]?=some v/\RdSl T12 1 rp v l/\0<l.length/\l.all Zw=true:=by
  have hk:k<11:=by omega
  match k,hk with
  | 0,_=>exact ⟨v1,_,rfl,h1.monoS L1,by decide,by decide +kernel⟩
  | 1,_=>exact ⟨v2,_,rfl,h2.monoS L2,by decide,by decide +kernel⟩
  | 2,_=>exact ⟨v3,_,rfl,h3.monoS L3,by decide,by decide +kernel⟩
  | 3,_=>exact ⟨v4,_,rfl,h4.monoS L4,by decide,by decide +kernel⟩
  | 4,_=>exact ⟨v5,_,rfl,h5.monoS L5,by decide,by decide +kernel⟩
  | 5,_=>exact ⟨v6,_,rfl,h6.monoS L6,by decide,by decide +kernel⟩
  | 6,_=>exact ⟨v7,_,rfl,h7.monoS L7,by decide,by decide +kernel⟩
  | 7,_=>exact ⟨v8,_,rfl,h8.monoS L8,by decide,by decide +kernel⟩
  | 8,_=>exact ⟨v9,_,rfl,h9.monoS L9,by decide,by decide +kernel⟩
  | 9,_=>exact ⟨r,_,rfl,O.monoS L10,by decide,by decide +kernel⟩
  | 10,_=>exact ⟨t,_,rfl,U.monoS L11,by decide,by decide +kernel⟩
 obtain ⟨vk,lk,B,V,Y,i⟩:=Z;refine az (k:=1) Qw (by omega) (cS TX ((a.cellS hS).trans B) (Run.callL cG cH a (dU (n:=5) (h.monoU F12.1) (by omega) (by omega)) rfl fun v' I' S3 w'=>?_));rintro ⟨rfl,rfl,k5,b2,rfl⟩ _ a;have a:Inv w [br] [rdI br sl (p+2)] S3 w':=a;have hr:=hr.monoC (G1.1.trans L1);refine bn (aJ (fun _=>?_) (fun _=>?_))
 ·refine Run.callL NJ O1 a (Jk (h.monoU F12.1) (by omega)) rfl fun v' I' S4 w'=>?_;rintro ⟨p3,b3,rfl,q,hq,j⟩ f a;exact ⟨_,_,S4,rfl,a,F12.trans f,p3,by omega,rfl,_,_,ps,q,rfl,hr.monoC f.1,J,h0,M,hq,j⟩
 ·refine aI V cZ (Run.callL cG cH a (dU (n:=lk.length) (h.monoU F12.1) (by omega) Y) rfl fun v' I' S3 w'=>?_);rintro ⟨rfl,rfl,k6,N,rfl⟩ _ a;have a:Inv w [br] [rdI br sl (p+3)] S3 w':=a;refine gj a V cZ aP N (fun cs m=>m) ?_;rw [eX] at i;refine Run.call0E tF tD a (p9 (i _ (bJ N))) fun v I' S4 w'=>?_;rintro ⟨rfl,g,q,rfl,hg,j⟩ f a;refine al (v:=g) rfl (al (v:=.bool true) rfl ?_);exact ⟨_,_,S4,rfl,a,F12.trans f,p+3,by omega,rfl,u,g,ps,q,rfl,hr.monoC f.1,J,h0,M,hg,j⟩
end
end
section
open Go Go.RowKit
mutual
def pvT:PF->List Int->List Int
 | .mk g _ ks,l=>pvL ks (hY g l)
def pvL:List PF->List Int->List Int
 | [],l=>l
 | p::ps,l=>pvL ps (pvT p l)
end
mutual
def pcT:PF->Int
 | .mk g _ ks=>ez g+pcL ks
def pcL:List PF->Int
 | []=>0
 | p::ps=>pcT p+pcL ps
end
mutual
theorem V7:∀ p:PF,0<=pcT p
 | .mk g _ ks=>by
  have:=m7 g;have:=Hp ks;rw [pcT]; omega
theorem Hp:∀ a:List PF,0<=pcL a
 | []=>by rw [pcL]; omega
 | p::a=>by
  have:=V7 p;have:=Hp a;rw [pcL]; omega
end
mutual
theorem TF:∀ (p:PF) (l:List Int),((pvT p l).length:Int)<=l.length+pcT p
 | .mk g _ ks,l=>by
  have a:=rA g l;have f:=ZL ks (hY g l);rw [pvT,pcT]; omega
theorem ZL:∀ (a:List PF) (l:List Int),((pvL a l).length:Int)<=l.length+pcL a
 | [],l=>by rw [pvL,pcL]; omega
 | p::a,l=>by
  have f:=TF p l;have g:=ZL a (pvT p l);rw [pvL,pcL]; omega
end
theorem XS (a:List PF) (j:Nat) (h:j<a.length) (l:List Int):pvL (a.drop j) l=pvL (a.drop (j+1)) (pvT a[j] l):=by
 rw [dB h,pvL]
theorem XO (a:List PF) (j:Nat) (h:j<a.length):pcL (a.drop j)=pcT a[j]+pcL (a.drop (j+1)):=by
 rw [dB h,pcL]
section
theorem Lv:∀ (p:PF) (S:ae) (cs:hZ) (v:Value) (l:List Int),RdF S cs p->l.length+pcT p<=1000000000->kt Ss [v,.agg cs.toArray] [dI v l] S (Fj S (pvT p l)):=by
 refine PF.ind fun g c f V S cs v l h hl=>?_;intro w a;obtain ⟨kv,kp,rfl,N,_,q⟩:=RdF.iff.1 h;simp only [PF.goal,PF.clause,PF.kids] at N q ⊢;have D:=q.le;simp only [maxLen] at D;rw [pcT] at hl;have Z:=Hp f;refine AY.2 ?_;dsimp only[AY,bl];refine bq a fun M w' a=>?_;have a:Inv w (bS [dI v l]) [ay M #[ax g.kind,ax g.n,.string g.name,kv,ax c,kp] ar,dI v l] S w':=a.perm (List.Perm.swap _ _ _);refine ah dE ?_;refine cP a 0 (hJ g kv) ac rfl rfl wg ?_;refine Run.call (A:=[_]) mT mW a (nT g S _ v l N (by omega)) fun Y I' S' w'=>?_;rintro ⟨rfl,rfl⟩ _ a;have a0:=rA g l;refine ⟨fun i t w'=>∃ (j:Nat) (r:List Int),j<=f.length/\i=ax j/\pvL (f.drop j) r=pvT (.mk g c f) l/\r.length+pcL (f.drop j)<=1000000000/\
   Inv w (bS [dI v l]) [ay M #[ax g.kind,ax g.n,.string g.name,kv,ax c,kp] ar,dI t r] S' w',
  fun i _ _=>f.length - (intOf i).toNat,⟨0,_,bf _,rfl,by rw [yE,pvT],by rw [yE];omega,a⟩,?_⟩
 intro t5 _ _ O _ _ _ _ _ _ _ _ _ _ _ _ w';rintro ⟨j,r,hj,rfl,o,U,a⟩;refine ad a 0 rfl bH bT rfl (aI q cK (bM (aJ (fun G=>?_) (fun G=>?_))))
 ·have m:j<f.length:=by omega
  rw [XS f j m] at o;rw [XO f j m] at U;have a1:=Hp (f.drop (j+1));have a2:=TF f[j] r;refine ad a 0 rfl bH bT rfl (cL a q cK bp m (fun _ _=>RdF.length) fun J B=>?_);refine Run.call (A:=[_]) Bx BT a (V _ (bJ m) S' J O r B (by omega)) fun Y I' S2 w'=>?_;rintro ⟨rfl,rfl⟩ _ a;refine bA (by omega) ?_;exact ⟨⟨j+1,_,m,rfl,o,by omega,a⟩,by simp [intOf];omega⟩
 have:j=f.length:=by omega
 subst this;rw [dY,pvL] at o;subst o;exact ⟨_,_,_,rfl,a.pick [false,true],Ext.refl _ _ _,rfl,rfl⟩
end
end
section
open Go Go.RowKit
inductive BKd where
 | one
 | many (n:Nat)
inductive BldR (st:au):BKd->List Sp->Option (List PF × List Sp)->Prop
 | big {x:Sp} {l:List Sp} {u:T}:Res st (.one x.goal u)->bL u=false->BldR st .one (x::l) none
 | bad {x:Sp} {l:List Sp} {u:T}:Res st (.one x.goal u)->bL u=true->BldR st (.many x.body.toNat) l none->BldR st .one (x::l) none
 | node {x:Sp} {l l1:List Sp} {u:T} {ks:List PF}:Res st (.one x.goal u)->bL u=true->BldR st (.many x.body.toNat) l (some (ks,l1))->BldR st .one (x::l) (some ([.mk u x.clause ks],l1))
 | nil {l:List Sp}:BldR st (.many 0) l (some ([],l))
 | stop {n:Nat} {l:List Sp}:BldR st .one l none->BldR st (.many (n+1)) l none
 | next {n:Nat} {l l1:List Sp} {k:PF}:BldR st .one l (some ([k],l1))->BldR st (.many n) l1 none->BldR st (.many (n+1)) l none
 | cons {n:Nat} {l l1 l2:List Sp} {k:PF} {ks:List PF}:BldR st .one l (some ([k],l1))->BldR st (.many n) l1 (some (ks,l2))->BldR st (.many (n+1)) l (some (k::ks,l2))
theorem BldR.suf {st:au} {j:BKd} {l:List Sp} {o:Option (List PF × List Sp)} (h:BldR st j l o):∀ g f,o=some (g,f)->∃ a,l=a++f:=by
 induction h with
 | big=>intro g f h;cases h
 | bad=>intro g f h;cases h
 | stop=>intro g f h;cases h
 | next=>intro g f h;cases h
 | nil=>
  intro g f h;simp only [aY,cV] at h;obtain ⟨rfl,rfl⟩:=h;exact ⟨[],rfl⟩
 | @node x _ _ _ _ _ _ _ q=>
  intro g f h;simp only [aY,cV] at h;obtain ⟨rfl,rfl⟩:=h;obtain ⟨a,rfl⟩:=q _ _ rfl;exact ⟨x::a,rfl⟩
 | cons _ _ i m=>
  intro g f h;simp only [aY,cV] at h;obtain ⟨rfl,rfl⟩:=h;obtain ⟨a,rfl⟩:=i _ _ rfl;obtain ⟨b,rfl⟩:=m _ _ rfl;exact ⟨a++b,by rw [eY]⟩
def wl:Nat->List Sp->Prop
 | 0,_=>True
 | _+1,[]=>False
 | k+1,x::l=>wl (k+x.body.toNat) l
theorem Wq:∀ (b a:List Sp) (k:Nat),openP (a++b)->rM (a++b)=0->rM a=k->(∀ x∈b,0<=x.body)->wl k b
 | [],a,k,_,h0,hk,_=>by
  rw [dc] at h0;have:k=0:=by omega
  subst this;trivial
 | x::b,a,k,ho,h0,hk,hb=>by
  have g:=ho a (x::b) rfl (by simp);obtain ⟨m,rfl⟩:∃ m:Nat,k=m+1:=⟨k - 1,by omega⟩
  have h:=hb x (bi ..);rw [wl];refine Wq b (a++[x]) _ ?_ ?_ ?_ fun y f=>hb y (bk _ f)
  ·rw [eY];exact ho
  ·rw [eY];exact h0
  ·rw [Ef];omega
theorem aaK {N:Nat} {st:au} (Y:Good N st):∀ (L:Nat) (l:List Sp),l.length<=L->okLp N l->
  (∀ m,wl (m+1) l->∃ o,BldR st .one l o/\∀ g j,o=some (g,j)->∃ k,g=[k]/\wl m j)/\
  (∀ n m,wl (m+n) l->∃ o,BldR st (.many n) l o/\∀ g j,o=some (g,j)->g.length=n/\wl m j):=by
 intro L;induction L with
 | zero=>
  intro l hl _;have:=iy (Nat.le_zero.1 hl);subst this;refine ⟨fun m h=>h.elim,fun n m h=>?_⟩;cases n with
  | zero=>
   refine ⟨_,.nil,fun g j e=>?_⟩;simp only [aY,cV] at e;obtain ⟨rfl,rfl⟩:=e;exact ⟨rfl,h⟩
  | succ n=>exact h.elim
 | succ L ih=>
  intro l hl f;have q:∀ (l:List Sp),l.length<=L+1->okLp N l->∀ m,wl (m+1) l->∃ o,BldR st .one l o/\∀ g j,o=some (g,j)->∃ k,g=[k]/\wl m j:=by
   intro l hl f m r;cases l with
   | nil=>exact r.elim
   | cons x l=>
    obtain ⟨⟨ho,_⟩,_⟩:=f x (bi ..);obtain ⟨u,O⟩:=Di Y x.goal ho;cases B:bL u with
    | false=>exact ⟨_,.big O B,fun _ _ e=>by cases e⟩
    | true=>
     rw [wl] at r;obtain ⟨o,i,t⟩:=(ih l (by simpa using hl) fun y J=>f y (bk _ J)).2 x.body.toNat m r
     match o,i,t with
     | none,i,_=>exact ⟨_,.bad O B i,fun _ _ e=>by cases e⟩
     | some (g,l1),i,t=>
      refine ⟨_,.node O B i,fun M j e=>?_⟩;simp only [aY,cV] at e;obtain ⟨rfl,rfl⟩:=e;exact ⟨_,rfl,(t _ _ rfl).2⟩
  refine ⟨q l hl f,?_⟩;intro n;induction n generalizing l with
  | zero=>
   intro m r;refine ⟨_,.nil,fun g j e=>?_⟩;simp only [aY,cV] at e;obtain ⟨rfl,rfl⟩:=e;exact ⟨rfl,r⟩
  | succ n V=>
   intro m r;obtain ⟨o,i,t⟩:=q l hl f (m+n) r
   match o,i,t with
   | none,i,_=>exact ⟨_,.stop i,fun _ _ e=>by cases e⟩
   | some (g,l1),i,t=>
    obtain ⟨k,rfl,hk⟩:=t _ _ rfl;obtain ⟨a,rfl⟩:=i.suf _ _ rfl;have U:l1.length<=L+1:=by rw [bK] at hl;omega
    obtain ⟨o,D,G⟩:=V l1 U (fun y J=>f y (im _ J)) m hk
    match o,D,G with
    | none,D,_=>exact ⟨_,.next i D,fun _ _ e=>by cases e⟩
    | some (g,j),D,G=>
     refine ⟨_,.cons i D,fun M Z e=>?_⟩;simp only [aY,cV] at e;obtain ⟨rfl,rfl⟩:=e;exact ⟨by rw [bI,(G _ _ rfl).1],(G _ _ rfl).2⟩
theorem acy {n k:Nat} {s:Se} (l:qC n s) (i:okP s) (m:s.st.goals=[]) (j:okXk k s):∃ o,BldR s.st.binds .one s.steps o/\∀ a g,o=some (a,g)->∃ x,a=[x]:=by
 have hn:wl 1 s.steps:=by
  refine Wq s.steps [] 1 i.openP ?_ rfl fun x f=>(j.steps x f).2.1;have:=i.goals;rw [m] at this;simpa using this.symm
 obtain ⟨o,q,r⟩:=(aaK l.st.good _ s.steps (be _) j.steps).1 0 hn;exact ⟨o,q,fun a g e=>(r a g e).imp fun _ h=>h.1⟩
mutual
def pwT:PF->Prop
 | .mk g _ ks=>wT g<=840/\pwL ks
def pwL:List PF->Prop
 | []=>True
 | p::ps=>pwT p/\pwL ps
end
theorem VZ:∀ {a:List PF},pwL a->∀ p∈a,pwT p
 | p::a,h,x,f=>by
  rw [pwL] at h;rcases cw.1 f with rfl|f
  ·exact h.1
  ·exact VZ h.2 x f
theorem BldR.size {N:Nat} {st:au} (J:Good N st) {j:BKd} {l:List Sp} {o:Option (List PF × List Sp)} (h:BldR st j l o):okLp N l->∀ f g,o=some (f,g)->pcL f+120 * (g.length:Int)<=120 * (l.length:Int)/\pwL f:=by
 induction h with
 | big=>intro _ f g h;cases h
 | bad=>intro _ f g h;cases h
 | stop=>intro _ f g h;cases h
 | next=>intro _ f g h;cases h
 | nil=>
  intro _ f g h;simp only [aY,cV] at h;obtain ⟨rfl,rfl⟩:=h;exact ⟨by rw [pcL];omega,trivial⟩
 | @node x l _ u _ Y i _ Z=>
  intro m f g h;simp only [aY,cV] at h;obtain ⟨rfl,rfl⟩:=h;obtain ⟨D,M⟩:=Z (fun y q=>m y (bk _ q)) _ _ rfl;have r:okU N u:=kz J Y (m x (bi ..)).1.1;have V:=gG i r;rw [bL,aZ] at i;have hc:=of_decide_eq_true i.1;refine ⟨?_,?_⟩
  ·rw [pcL,pcL,pcT,bI];omega
  ·rw [pwL,pwT,pwL];exact ⟨⟨V,M⟩,trivial⟩
 | @cons _ l l1 g k a0 D _ t B=>
  intro m f l3 h;simp only [aY,cV] at h;obtain ⟨rfl,rfl⟩:=h;obtain ⟨a,e⟩:=D.suf _ _ rfl;obtain ⟨O,G⟩:=t m _ _ rfl;obtain ⟨q3,U⟩:=B (fun y q=>m y (by rw [e];exact im _ q)) _ _ rfl;rw [pcL,pcL] at O;rw [pwL] at G;refine ⟨?_,?_⟩
  ·rw [pcL];omega
  ·rw [pwL];exact ⟨G.1,U⟩
end
end Go.Proofs.YtellfcpffcipcaaGreatDoor

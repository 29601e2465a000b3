/- How many answers a search that comes to its end has: the tree of the search, counted; a program with fewer clauses has no more answers. No program in sight. -/
import Derived.Test.YtgllldjiaglkcaaGreatDoorZUf24
namespace Go.Proofs.YtgllldjiaglkcaaGreatDoor
section
open Go Go.RowKit
inductive AJ where
 | node (gs:List T)
 | alts (t:T) (gs:List T) (cs:List C)
def okT (st:aj) (t:T):Prop:=(okU st.length t/\wT t<=1048576)/\t.kind=3
structure okNd (st:aj) (gs:List T):Prop where
 good:Good st.length st
 gs:∀ g∈gs,okU st.length g/\g.kind=3
abbrev XN (p:List C) (t:T):List C:=p.filter fun c=>gQ (bN c.head) (bN t)
inductive Ans (p:List C):aj->AJ->Nat->Prop
 | done {st:aj}:okNd st []->Ans p st (.node []) 1
 | solved {st st':aj} {g t:T} {gs:List T} {n:Nat}:okNd st (g::gs)->okT st t->Res st (.one g t)->bU t=true->Blt st t 0 st'->Ans p st' (.node gs) n->Ans p st (.node (g::gs)) n
 | fail {st st':aj} {g t:T} {gs:List T}:okNd st (g::gs)->okT st t->Res st (.one g t)->bU t=true->Blt st t 1 st'->Ans p st (.node (g::gs)) 0
 | plain {st:aj} {g t:T} {gs:List T} {n:Nat}:okNd st (g::gs)->okT st t->Res st (.one g t)->bU t=false->Ans p st (.alts t gs (XN p t)) n->Ans p st (.node (g::gs)) n
 | nil {st:aj} {t:T} {gs:List T}:Ans p st (.alts t gs []) 0
 | hit {st st':aj} {t:T} {gs:List T} {c:C} {cs:List C} {m k n:Nat}:okNd st (t::gs)->okT st t->ie c->st.length<=m->Uni (g26 (bI st m)) (.one t (bp m c.head)) true st'->Ans p st' (.node (c.body.map (bp m)++gs)) k->
   Ans p st (.alts t gs cs) n->Ans p st (.alts t gs (c::cs)) (k+n)
 | miss {st st':aj} {t:T} {gs:List T} {c:C} {cs:List C} {m n:Nat}:okNd st (t::gs)->okT st t->ie c->st.length<=m->Uni (g26 (bI st m)) (.one t (bp m c.head)) false st'->Ans p st (.alts t gs cs) n->Ans p st (.alts t gs (c::cs)) n
def mU (st:aj) (os gs:List T) (v w:List T):Prop:=∃ σ,jK σ st/\sbL σ os=v/\sbL σ gs=w
def SimN (st:aj) (os gs:List T) (st':aj) (os' gs':List T):Prop:=∀ v w,mU st os gs v w↔mU st' os' gs' v w
theorem SimN.refl (st:aj) (os gs:List T):SimN st os gs st os gs:=fun _ _=>Iff.rfl
theorem SimN.symm {st a:aj} {os gs os' gs':List T} (h:SimN st os gs a os' gs'):SimN a os' gs' st os gs:=fun v w=>(h v w).symm
theorem SimN.trans {a b c:aj} {f g i l m o:List T} (h:SimN a f g b i l) (q:SimN b i l c m o):SimN a f g c m o:=fun v w=>(h v w).trans (q v w)
theorem qP (σ:Int->T):∀ a b:List T,sbL σ (a++b)=sbL σ a++sbL σ b
 | [],b=>rfl
 | x::a,b=>by rw [dS,sbL,sbL,qP σ a b,dS]
theorem iq {st:aj} (i:Good st.length st) {g t:T} (l:okU st.length g) (m:Res st (.one g t)) (os gs:List T):SimN st os (g::gs) st os (t::gs):=by
 intro v w;have e:∀ σ,jK σ st->sbL σ (g::gs)=sbL σ (t::gs):=fun σ o=>by rw [sbL,sbL,Sd i o m l]
 exact ⟨fun ⟨σ,a,f,h⟩=>⟨σ,a,f,by rw [<- e σ a]; exact h⟩,fun ⟨σ,a,f,h⟩=>⟨σ,a,f,by rw [e σ a]; exact h⟩⟩
theorem un {st:aj} (a:Good st.length st) (os gs:List T):∃ v w,mU st os gs v w:=⟨_,_,_,R1 a idS,rfl,rfl⟩
theorem Kh {st l:aj} {t:T} {c:C} {m:Nat} {r:Bool} (V:Good st.length st) (G:okT st t) (hc:ie c) (o:st.length<=m) (Y:Uni (g26 (bI st m)) (.one t (bp m c.head)) r l) {os gs:List T} (ho:bL st.length os) (J:bL st.length gs) :
  (∀ v x,(r=true/\mU l os (c.body.map (bp m)++gs) v x)↔∃ w0 w τ,mU st os (t::gs) v (w0::w)/\sbT τ c.head=w0/\x=sbL τ c.body++w):=by
 have a0:(g26 (bI st m)).length=m+26:=by rw [kD,ce o]
 have B:Good (m+26) (g26 (bI st m)):=by
  have:=(V.to o).grow 26;exact this
 have hj:okJ (m+26) (.one t (bp m c.head)):=by
  have:=Nh (st:=bI st m) (g:=t) (cl:=c) (by rw [ce o]; exact ⟨gN o _ G.1.1,G.1.2⟩) hc;rw [ce o] at this;exact this
 have a:∀ σ,jK σ (g26 (bI st m))↔jK σ st:=fun σ=>(Bi σ (bI st m) 26).trans (Bi σ st _);have f:∀ σ:Int->T,sbL σ (c.body.map (bp m)++gs)=sbL (fun n=>σ (n+m)) c.body++sbL σ gs:=fun σ=>by rw [qP,<- eU,uJ]
 intro v x;constructor
 ·rintro ⟨hr,σ,M,O,q⟩;obtain ⟨k1,U⟩:=((Y.sem B hj σ).1 hr).1 M;have U:sbT σ t=sbT σ (bp m c.head):=U;refine ⟨sbT σ t,sbL σ gs,fun n=>σ (n+m),⟨σ,(a σ).1 k1,O,by rw [sbL]⟩,?_,?_⟩
  ·rw [U,uK]
  ·rw [<- q,f]
 ·rintro ⟨w0,w,τ,⟨σ,M,O,q⟩,h4,rfl⟩;rw [sbL,dK] at q;have h:∀ n:Int,0<=n->n<(st.length:Int)->σ n=vp m σ τ n:=fun n Z hn=>Lo σ τ n Z (by omega);have hs:jK (vp m σ τ) st:=O0 V h M;have D:Jeq (vp m σ τ) (.one t (bp m c.head)):=by
   show sbT _ t=sbT _ (bp _ c.head);rw [Su σ τ hc.head.1.1,h4,<- q.1];exact (pg h t G.1.1).symm
  have i:=Y.sem B hj (vp m σ τ);cases r with
  | false=>exact absurd D (i.2 rfl ((a _).2 hs))
  | true=>
   refine ⟨rfl,_,(i.1 rfl).2 ⟨(a _).2 hs,D⟩,?_,?_⟩
   ·rw [<- ki h os ho]; exact O
   ·rw [f,<- ki h gs J,q.2]
    congr 1
    refine ki (N:=26) (fun n Z _=>?_) c.body (gw fun b hb=>(hc.body b hb).1.1);show vp m σ τ (n+m)=τ n;rw [vp,ag (by omega)]
    congr 1
    omega
theorem Sh {st a g f:aj} {t u:T} {c:C} {m n:Nat} {r i:Bool} (U:Good st.length st) (V:okT st t) (hc:ie c) (Y:st.length<=m) (Z:Uni (g26 (bI st m)) (.one t (bp m c.head)) r a)
  (q:Good g.length g) (B:okT g u) (hn:g.length<=n) (D:Uni (g26 (bI g n)) (.one u (bp n c.head)) i f) {os gs os' gs':List T} (ho:bL st.length os) (G:bL st.length gs) (J:bL g.length os') (l:bL g.length gs')
  (M:r=true->Good a.length a) (o:i=true->Good f.length f)
  (O:SimN st os (t::gs) g os' (u::gs')):r=i/\(r=true->SimN a os (c.body.map (bp m)++gs) f os' (c.body.map (bp n)++gs')):=by
 have k1:=Kh U V hc Y Z ho G;have k2:=Kh q B hc hn D J l;have k3:∀ v x,(r=true/\mU a os (c.body.map (bp m)++gs) v x)↔(i=true/\mU f os' (c.body.map (bp n)++gs') v x):=by
  intro v x;rw [k1,k2];exact ⟨fun ⟨w0,w,τ,h,N⟩=>⟨w0,w,τ,(O _ _).1 h,N⟩,fun ⟨w0,w,τ,h,N⟩=>⟨w0,w,τ,(O _ _).2 h,N⟩⟩
 have e:r=i:=by
  cases r with
  | true=>
   obtain ⟨v,x,h⟩:=un (M rfl) os (c.body.map (bp m)++gs);exact ((k3 v x).1 ⟨rfl,h⟩).1.symm
  | false=>
   cases i with
   | false=>rfl
   | true=>
    obtain ⟨v,x,h⟩:=un (o rfl) os' (c.body.map (bp n)++gs');exact ((k3 v x).2 ⟨rfl,h⟩).1
 refine ⟨e,fun hr v x=>?_⟩;have:=k3 v x;rw [<- e,hr] at this;simpa using this
theorem oM {st a:aj} {t u:T} {os gs os' gs':List T} (g:Good st.length st) (m:t.kind=3) (o:u.kind=3) (i:SimN st os (t::gs) a os' (u::gs')):sameHd t u:=by
 obtain ⟨v,w,h⟩:=un g os (t::gs);obtain ⟨σ,_,_,l⟩:=id h;obtain ⟨τ,_,_,f⟩:=(i v w).1 h;rw [<- l,sbL,sbL,dK] at f;have e1:=IB σ (t:=t) (by omega);have e2:=IB τ (t:=u) (by omega);rw [f.1] at e2;exact ⟨e2.1.symm.trans e1.1,e2.2.1.symm.trans e1.2.1,e2.2.2.symm.trans e1.2.2⟩
theorem D3 {st a:aj} {os gs os' gs':List T} (f:Good st.length st) (g:SimN st os gs a os' gs'):gs'.length=gs.length:=by
 obtain ⟨v,w,h⟩:=un f os gs;obtain ⟨σ,_,_,i⟩:=id h;obtain ⟨τ,_,_,l⟩:=(g v w).1 h;rw [<- lZ σ gs,<- lZ τ gs',i,l]
theorem Sq {st o:aj} {t:T} {code:Int} (J:Good st.length st) (D:okT st t) (M:bU t=true) (q:jz t=true) (g:Blt st t code o) (os gs:List T) :
  ∃ F:T->Prop,(∀ v w,(code=0/\mU o os gs v w)↔∃ w0,F w0/\mU st os (t::gs) v (w0::w))/\F=(fun w0=>if t.name=nEq then kd w0 0=kd w0 1 else t.name=jH):=by
 refine ⟨_,fun v w=>?_,rfl⟩;rw [jz,jc] at q;rcases q with q|q
 ·have:=(uV q rfl).2;rw [M] at this;cases this
 rw [di,Gd] at q;obtain ⟨x,O,f⟩:=q;have f:=of_decide_eq_true f;have g:BltJ st (gA t) code o:=g;simp only [bY,i6,i9] at O;have hk:t.kind≠1:=by have:=D.2; omega
 rcases O with rfl|rfl|rfl
 ·simp only [ai f];rw [blt_eq f] at g;obtain ⟨r,U,rfl⟩:=g;have l:=YW f M;have V:okJ st.length (.one (kd t 0) (kd t 1)):=⟨vW D.1 (by omega),vW D.1 (by omega)⟩
  have e:∀ σ:Int->T,Jeq σ (.one (kd t 0) (kd t 1))↔kd (sbT σ t) 0=kd (sbT σ t) 1:=fun σ=>by
   rw [nH σ hk (by omega),nH σ hk (by omega)];exact Iff.rfl
  constructor
  ·rintro ⟨hc,σ,i,l,a⟩;have hr:r=true:=by
    cases r with
    | true=>rfl
    | false=>cases hc
   obtain ⟨Y,Z⟩:=((U.sem J V σ).1 hr).1 i;exact ⟨sbT σ t,(e σ).1 Z,σ,Y,l,by rw [sbL,a]⟩
  ·rintro ⟨w0,N,σ,i,l,a⟩;rw [sbL,dK] at a;obtain ⟨rfl,a⟩:=a;have m:=U.sem J V σ;cases r with
   | false=>exact absurd ((e σ).2 N) (m.2 rfl i)
   | true=>exact ⟨rfl,σ,(m.1 rfl).2 ⟨i,(e σ).2 N⟩,l,a⟩
 ·have B:t.name≠nEq:=by rw [f]; decide +kernel
  simp only [ag B];rw [WQ f] at g;obtain ⟨rfl,rfl⟩:=g;constructor
  ·rintro ⟨_,σ,i,l,a⟩;exact ⟨_,f,σ,i,l,by rw [sbL,a]⟩
  ·rintro ⟨w0,_,σ,i,l,a⟩;rw [sbL,dK] at a;exact ⟨rfl,σ,i,l,a.2⟩
 ·have B:t.name≠nEq:=by rw [f]; decide +kernel
  have G:t.name≠jH:=by rw [f]; decide +kernel
  simp only [ag B];rw [VE f] at g;obtain ⟨rfl,rfl⟩:=g;exact ⟨fun h=>absurd h.1 (by decide),fun ⟨_,h,_⟩=>absurd h G⟩
theorem Sa {st f i g:aj} {t u:T} {code a:Int} (l:Good st.length st) (m:okT st t) (o:bU t=true) (J:jz t=true) (M:Blt st t code f) (q:Good i.length i) (N:okT i u) (r:Blt i u a g)
  {os gs os' gs':List T} (B:SimN st os (t::gs) i os' (u::gs')):(code=0->a=0)/\(code=0->SimN f os gs g os' gs'):=by
 have hd:=oM l m.2 N.2 B;obtain ⟨F,U,e1⟩:=Sq l m o J M os gs;obtain ⟨F',O,e2⟩:=Sq q N (by rw [eI hd]; exact o) (by rw [kX hd]; exact J) r os' gs';have Y:F'=F:=by rw [e1,e2,hd.2.1]
 rw [Y] at O;have k3:∀ v w,(code=0/\mU f os gs v w)↔(a=0/\mU g os' gs' v w):=by
  intro v w;rw [U,O];exact ⟨fun ⟨w0,h,D⟩=>⟨w0,h,(B _ _).1 D⟩,fun ⟨w0,h,D⟩=>⟨w0,h,(B _ _).2 D⟩⟩
 have G:Good f.length f:=by
  have:=M.good l o m.1;have hl:=this.len;rw [hl]; exact this
 have hc:code=0->a=0:=fun h=>by
  obtain ⟨v,w,V⟩:=un G os gs;exact ((k3 v w).1 ⟨h,V⟩).1
 refine ⟨hc,fun h v w=>?_⟩;have:=k3 v w;rw [h,hc h] at this;simpa using this
theorem Ans.node_ok {p:List C} {st:aj} {gs:List T} {n:Nat} (h:Ans p st (.node gs) n):okNd st gs:=by
 cases h with
 | done h=>exact h
 | solved h=>exact h
 | fail h=>exact h
 | plain h=>exact h
def MJ:AJ->Prop
 | .node gs=>∀ g∈gs,jz g=true
 | .alts _ gs cs=>(∀ g∈gs,jz g=true)/\∀ c∈cs,∀ b∈c.body,jz b=true/\b.kind=3
theorem DZ {st:aj} {gs:List T} (h:okNd st gs):bL st.length gs:=gw fun t a=>(h.gs t a).1
theorem okNd.tl {st:aj} {g:T} {gs:List T} (h:okNd st (g::gs)):okNd st gs:=⟨h.good,fun x a=>h.gs x (aR _ a)⟩
theorem Ans.mono {p d:List C} (hd:d.Sublist p) (a9:∀ c∈p,∀ b∈c.body,jz b=true/\b.kind=3) {st:aj} {j:AJ} {n:Nat} (h:Ans p st j n):MJ j->match j with
  | .node gs=>∀ Y gs' n',Ans d Y (.node gs') n'->SimN st [] gs Y [] gs'->n'<=n
  | .alts t gs cs=>∀ Y u gs' Z n',Ans d Y (.alts u gs' Z) n'->Z.Sublist cs->SimN st [] (t::gs) Y [] (u::gs')->n'<=n:=by
 induction h with
 | done o=>
  intro _ Y gs' n' O G;have:=D3 o.good G;obtain rfl:=gF this;cases O with
  | done _=>exact aS _
 | @solved st a1 g t gs n o r hr hb hB _ ih=>
  intro l Y gs' n' O G;have hg:=o.gs g (aM ..);have hl:=D3 o.good G;cases O with
  | done _=>simp at hl
  | fail=>exact bk _
  | @solved _ N g' t' i _ a f D M a2 ha=>
   have B:=a.gs g' (aM ..);have q:=((iq o.good hg.1 hr [] gs).symm.trans G).trans (iq a.good B.1 D [] i);have a4:jz t=true:=by rw [kX (xq hr (by omega))]; exact l g (aM ..)
   exact ih (fun x hx=>l x (aR _ hx)) _ _ _ ha ((Sa o.good r hb a4 hB a.good f a2 q).2 rfl)
  | @plain _ g' t' i _ a f D M ha=>
   have B:=a.gs g' (aM ..);have q:=((iq o.good hg.1 hr [] gs).symm.trans G).trans (iq a.good B.1 D [] i);have:=eI (oM o.good r.2 f.2 q);rw [hb,M] at this;cases this
 | @fail st a1 g t gs o r hr hb hB=>
  intro l Y gs' n' O G;have hg:=o.gs g (aM ..);have hl:=D3 o.good G;cases O with
  | done _=>simp at hl
  | fail=>exact aS _
  | @solved _ N g' t' i _ a f D M a2 ha=>
   have B:=a.gs g' (aM ..);have q:=((iq o.good hg.1 hr [] gs).symm.trans G).trans (iq a.good B.1 D [] i);have a4:jz t=true:=by rw [kX (xq hr (by omega))]; exact l g (aM ..)
   have a8:jz t'=true:=by rw [kX (oM o.good r.2 f.2 q)]; exact a4
   have:=(Sa a.good f M a8 a2 o.good r hB q.symm).1 rfl;cases this
  | @plain _ g' t' i _ a f D M ha=>
   have B:=a.gs g' (aM ..);have q:=((iq o.good hg.1 hr [] gs).symm.trans G).trans (iq a.good B.1 D [] i);have:=eI (oM o.good r.2 f.2 q);rw [hb,M] at this;cases this
 | @plain st g t gs n o r hr hb _ ih=>
  intro l Y gs' n' O G;have hg:=o.gs g (aM ..);have hl:=D3 o.good G;cases O with
  | done _=>simp at hl
  | fail=>exact bk _
  | @solved _ N g' t' i _ a f D M a2 ha=>
   have B:=a.gs g' (aM ..);have q:=((iq o.good hg.1 hr [] gs).symm.trans G).trans (iq a.good B.1 D [] i);have:=eI (oM o.good r.2 f.2 q);rw [hb,M] at this;cases this
  | @plain _ g' t' i _ a f D M ha=>
   have B:=a.gs g' (aM ..);have q:=((iq o.good hg.1 hr [] gs).symm.trans G).trans (iq a.good B.1 D [] i);have hh:=oM o.good r.2 f.2 q;refine ih ⟨fun x hx=>l x (aR _ hx),fun c hc=>a9 c (LE.1 hc).1⟩ _ _ _ _ _ ha ?_ q;unfold XN;rw [je hh];exact hd.filter _
 | nil=>
  intro _ Y u gs' Z n' O U _;obtain rfl:=List.sublist_nil.1 U;cases O with
  | nil=>exact aS _
 | @hit st a1 t gs c cs m k n o r hc hm hu ha _ b2 a5=>
  intro l Y u gs' Z n' O U G;have J:MJ (.alts t gs cs):=⟨l.1,fun c hc=>l.2 c (aR _ hc)⟩
  cases U with
  | cons _ U=>exact gz (a5 J _ _ _ _ _ O U G) (Nat.le_add_left ..)
  | cons_cons _ U=>
   have b0:MJ (.node (c.body.map (bp m)++gs)):=fun x hx=>by
    rcases bF.1 hx with hx|hx
    ·obtain ⟨b,hb,rfl⟩:=dp.1 hx;have h3:=l.2 c (aM ..) b hb;rw [kX (sameHd.shift _ b (by have:=h3.2; omega))];exact h3.1
    ·exact l.1 x hx
   cases O with
   | @hit _ N _ _ _ _ m' k' b3 a f _ a6 a7 a3 V=>
    have hn:=a5 J _ _ _ _ _ V U G;have b1:Good a1.length a1:=ha.node_ok.good;have a0:Good N.length N:=a3.node_ok.good;have:=(Sh o.good r hc hm hu a.good f a6 a7 (os:=[]) (os':=[]) (by rw [bL]; trivial) (DZ o.tl) (by rw [bL]; trivial) (DZ a.tl) (fun _=>b1) (fun _=>a0) G).2 rfl;have hk:=b2 b0 _ _ _ a3 this;omega
   | miss _ _ _ _ _ V=>exact gz (a5 J _ _ _ _ _ V U G) (Nat.le_add_left ..)
 | @miss st a1 t gs c cs m n o r hc hm hu _ ih=>
  intro l Y u gs' Z n' O U G;have J:MJ (.alts t gs cs):=⟨l.1,fun c hc=>l.2 c (aR _ hc)⟩
  cases U with
  | cons _ U=>exact ih J _ _ _ _ _ O U G
  | cons_cons _ U=>
   cases O with
   | @hit _ N _ _ _ _ m' k' b3 a f _ a6 a7 a3 V=>
    have a0:Good N.length N:=a3.node_ok.good;have:=(Sh o.good r hc hm hu a.good f a6 a7 (os:=[]) (os':=[]) (by rw [bL]; trivial) (DZ o.tl) (by rw [bL]; trivial) (DZ a.tl) (fun h=>by cases h) (fun _=>a0) G).1;cases this
   | miss _ _ _ _ _ V=>exact ih J _ _ _ _ _ V U G
def pk (p:List C) (l:List Int):List C:=l.filterMap fun i=>p[i.toNat]?
def gt (gs:List GI):List T:=gs.map GI.t
inductive AnsC (p:List C):List CI->Nat->Prop
 | nil:AnsC p [] 0
 | cons {c:CI} {cs:List CI} {k n:Nat}:Ans p c.binds (.alts c.goal (gt c.rest) (pk p c.left)) k->AnsC p cs n->AnsC p (c::cs) (k+n)
theorem AnsC.app {p:List C} {a b:List CI} {n:Nat}:AnsC p (a++b) n->∃ i j,AnsC p a i/\AnsC p b j/\n=i+j:=by
 induction a generalizing n with
 | nil=>exact fun h=>⟨0,n,.nil,h,by omega⟩
 | cons c a l=>
  intro h;cases h with
  | @cons _ _ k m o q=>
   obtain ⟨i,j,f,g,rfl⟩:=l q;exact ⟨k+i,j,.cons o f,g,by omega⟩
theorem AnsC.join {p:List C} {a b:List CI} {i j:Nat} (h:AnsC p a i) (f:AnsC p b j):AnsC p (a++b) (i+j):=by
 induction h with
 | nil=>simpa using f
 | cons g _ l=>rw [J0]; exact .cons g l
theorem yK {st:aj} {a b:Nat} (h:st.length<=a) (f:a<=b):bI (bI st a) b=bI st b:=by
 unfold bI;rw [dx,Qz]
 congr 2
 rw [bA,Ju];omega
theorem Ans.shrink {p:List C} {st:aj} {a:Nat} (l:st.length<=a) {t:T} {gs:List T} (r:okNd st (t::gs)) (B:okT st t):∀ {cs:List C} {k:Nat},Ans p (bI st a) (.alts t gs cs) k->Ans p st (.alts t gs cs) k:=by
 intro cs;induction cs with
 | nil=>intro k h; cases h; exact .nil
 | cons c cs D=>
  intro k h;cases h with
  | @hit _ o _ _ _ _ m i n _ _ hc f g G q=>
   rw [ce l] at f;rw [yK l f] at g;exact .hit r B hc (by omega) g G (D q)
  | @miss _ o _ _ _ _ m n _ _ hc f g q=>
   rw [ce l] at f;rw [yK l f] at g;exact .miss r B hc (by omega) g (D q)
theorem TryI.ans {p:List C} (G:∀ cl∈p,ie cl) {g:T} {l:List Int} {st:aj} {o:Option HI} {n:Nat} (h:TryI p g l st o n):∀ (b:aj) (gs:List T),b.length<=st.length->st=bI b st.length->okNd b (g::gs)->okT b g->
  (o=none->Ans p b (.alts g gs (pk p l)) 0)/\∀ r,o=some r->∀ i j,Ans p r.st (.node (r.cl.body.map (bp r.by_)++gs)) i->Ans p b (.alts g gs (pk p r.l)) j->Ans p b (.alts g gs (pk p l)) (i+j):=by
 induction h with
 | nil=>intro b gs _ _ _ _; exact ⟨fun _=>.nil,fun r h=>by cases h⟩
 | @hit i l cl st O m a=>
  intro b gs f D q t;refine ⟨fun h=>(by cases h),fun r h U j J M=>?_⟩;cases h;rw [D] at a;have e:pk p ((i:Int)::l)=cl::pk p l:=by rw [pk,UA,cu,m]; rfl
  rw [e];rw [ce f] at a;exact .hit q t (G _ (cz m)) f a J M
 | @miss i l cl st O o n m a _ Z=>
  intro b gs f D q t;have B:=kD st;have N:g26 st=bI b (g26 st).length:=by
   rw [B,<- qJ f,<- D]
  obtain ⟨V,Y⟩:=Z b gs (by omega) N q t;rw [D] at a;have e:pk p ((i:Int)::l)=cl::pk p l:=by rw [pk,UA,cu,m]; rfl
  rw [e];rw [ce f] at a;exact ⟨fun h=>.miss q t (G _ (cz m)) f a (V h),fun r h U j J M=>.miss q t (G _ (cz m)) f a (Y r h U j J M)⟩
theorem uR (cl:C) (b:Nat) (k u:Int) (rest:List GI):gt (fy cl b k u rest)=cl.body.map (bp b)++gt rest:=by
 unfold gt fy;rw [BD,List.map_map];rfl
theorem Nw {p:List C} {cs:List CI} {ns:List NI} {g:T} {a:Int} {rest:List GI} {b:aj} {r:HI} {k m:Nat} (h:Ans p (gC cs ns g a rest b r).st (.node (gt (gC cs ns g a rest b r).goals)) k) (o:AnsC p (gC cs ns g a rest b r).chs m) :
  ∃ i j,Ans p r.st (.node (r.cl.body.map (bp r.by_)++gt rest)) k/\Ans p b (.alts g (gt rest) (pk p r.l)) i/\AnsC p cs j/\m=j+i:=by
 have h:Ans p r.st (.node (gt (fy r.cl r.by_ cs.length a rest))) k:=h;rw [uR] at h;have o:AnsC p (cs++(if r.l=[] then [] else [(⟨g,a,rest,r.l,b,ns.length⟩:CI)])) m:=o;obtain ⟨i,j,q,f,rfl⟩:=o.app;by_cases hl:r.l=[]
 ·rw [ai hl] at f;cases f;exact ⟨0,i,h,by rw [hl]; exact .nil,q,rfl⟩
 ·rw [ag hl] at f;cases f with
  | @cons _ _ k' n' f t=>
   cases t;exact ⟨k',i,h,f,q,rfl⟩
theorem BackI.ans {p:List C} (M:∀ cl∈p,ie cl) {cs:List CI} {n:Nat} {ns:List NI} {o:Option SI} (h:BackI p cs n ns o):okCs p.length n ns.length cs->(∀ c∈cs,c.goal.kind=3/\∀ g∈c.rest,ncT g.t)->
  (o=none->AnsC p cs 0)/\∀ s,o=some s->∀ i j,Ans p s.st (.node (gt s.goals)) i->AnsC p s.chs j->AnsC p cs (i+j):=by
 have q:∀ {k:Nat} {c:CI},okCI p.length k c->c.goal.kind=3->(∀ g∈c.rest,ncT g.t)->okNd c.binds (c.goal::gt c.rest)/\okT c.binds c.goal:=by
  intro k c hc a hr;refine ⟨⟨hc.good,fun g N=>?_⟩,hc.goal.1,a⟩;rcases bY.1 N with rfl|N
  ·exact ⟨hc.goal.1.1,a⟩
  ·obtain ⟨x,hx,rfl⟩:=dp.1 N;exact ⟨(hc.rest x hx).1.1.1.1,(hr x hx).1⟩
 induction h with
 | nil=>intro _ _; exact ⟨fun _=>.nil,fun s h=>by cases h⟩
 | @hit cs c n m ns r J=>
  intro f hk;refine ⟨fun h=>(by cases h),fun s h i j l O=>?_⟩;cases h;obtain ⟨h1,B,a,h4⟩:=f.last;obtain ⟨D,G⟩:=q B (hk c (by simp)).1 (hk c (by simp)).2;obtain ⟨U,j',V,Y,q3,rfl⟩:=Nw l O;have hl:=ce a;have:=(J.ans M c.binds (gt c.rest) (by omega) (by rw [hl]) D G).2 r rfl i U V (Ans.shrink a D G Y);have h5:=q3.join (.cons this .nil);rw [show i+(j'+U)=j'+(i+U+0) by omega];exact h5
 | @miss cs c n m ns o J _ ih=>
  intro f hk;obtain ⟨h1,B,a,h4⟩:=f.last;obtain ⟨g1,g2,g3,g4⟩:=B.grow a;obtain ⟨l,_,_⟩:=J.ok M g1 g2 g3;have hl:=ce a;rw [hl] at l;have Z:(ns.take c.taken).length=c.taken:=by rw [cM]; omega
  obtain ⟨D,G⟩:=q B (hk c (by simp)).1 (hk c (by simp)).2;have h0:=(J.ans M c.binds (gt c.rest) (by omega) (by rw [hl]) D G).1 rfl;obtain ⟨V,Y⟩:=ih (by rw [Z]; exact h1.mono l (aS _)) fun c hc=>hk c (cZ _ hc);refine ⟨fun h=>?_,fun s h i j l O=>?_⟩
  ·exact (V h).join (.cons h0 .nil)
  ·have:=(Y s h i j l O).join (.cons h0 .nil);simpa using this
structure Nk (s:SI):Prop where
 nc:Nc ncT s
 k3:∀ c∈s.chs,c.goal.kind=3
theorem Mb {cs:List CI} {ns:List NI} {g:T} {a:Int} {rest:List GI} {b:aj} {r:HI} (h:∀ c∈cs,c.goal.kind=3) (i:g.kind=3):∀ c∈(gC cs ns g a rest b r).chs,c.goal.kind=3:=by
 intro c hc;have f:c∈cs++(if r.l=[] then [] else [(⟨g,a,rest,r.l,b,ns.length⟩:CI)]):=hc;rcases bF.1 f with f|f
 ·exact h c f
 ·split at f
  ·cases f
  ·rw [bK.1 f]; exact i
theorem BackI.k3 {p:List C} {cs:List CI} {n:Nat} {ns:List NI} {o:Option SI} (h:BackI p cs n ns o):(∀ c∈cs,c.goal.kind=3)->∀ s,o=some s->∀ c∈s.chs,c.goal.kind=3:=by
 induction h with
 | nil=>intro _ s h; cases h
 | hit f=>
  intro a s h;cases h;exact Mb (fun c hc=>a c (cZ _ hc)) (a _ (by simp))
 | miss f _ g=>intro a; exact g fun c hc=>a c (cZ _ hc)
theorem StepI.k3 {p:List C} {s:SI} {o:Option SI} {e:Int} {nc:Bool} (h:StepI p nc s o e) (hn:Nc ncT s) (f:∀ c∈s.chs,c.goal.kind=3):∀ a,o=some a->∀ c∈a.chs,c.goal.kind=3:=by
 cases h with
 | large=>intro a h; cases h
 | noCut=>intro a h; cases h
 | err=>intro a h; cases h
 | unknown=>intro a h; cases h
 | cut g=>intro a h; cases h; exact fun c hc=>f c (lB hc)
 | solved g=>intro a h; cases h; exact f
 | fail g _ _ _ _ _ i=>exact i.k3 f
 | took g m _ _ _ _ q=>
  intro a h; cases h;have l:=(hn.goals _ (by rw [g]; exact aM ..)).1;exact Mb f ((xq m (by omega)).1.trans l)
 | back g _ _ _ _ _ _ i=>exact i.k3 f
theorem StepI.ans {p:List C} (hp:∀ cl∈p,ie cl) {s:SI} {o:Option SI} {e:Int} (h:StepI p false s o e) (G:uB p.length s) (hk:Nk s) :
  (o=none->e=0->∃ j,AnsC p s.chs j/\j=0/\Ans p s.st (.node (gt s.goals)) 0)/\∀ q,o=some q->∀ i j,Ans p q.st (.node (gt q.goals)) i->AnsC p q.chs j->∃ i' j',Ans p s.st (.node (gt s.goals)) i'/\AnsC p s.chs j'/\i+j=i'+j':=by
 have cc:∀ c∈s.chs,c.goal.kind=3/\∀ g∈c.rest,ncT g.t:=fun c hc=>⟨hk.k3 c hc,hk.nc.chs c hc⟩
 have first:∀ {g:GI} {gs:List GI} {t:T},s.goals=g::gs->Res s.st (.one g.t t)->bv t=true->okNd s.st (g.t::gt gs)/\okNd s.st (t::gt gs)/\okT s.st t/\((okU s.st.length t/\wT t<=1048576)/\okM t)/\ez t=false:=by
  intro g gs t f l a;have a0:=G.goals g (by rw [f]; simp);obtain ⟨M,a2⟩:=oh G.good a0.1.1 G.tab l;have hw:=fF a M;have h3:=hk.nc.goals g (by rw [f]; simp);have Z:=h3.hd (xq l (by have:=h3.1; omega));have a1:∀ x∈gt gs,okU s.st.length x/\x.kind=3:=fun x J=>by
   obtain ⟨y,hy,rfl⟩:=dp.1 J;exact ⟨(G.goals y (by rw [f]; exact aR _ hy)).1.1.1.1,(hk.nc.goals y (by rw [f]; exact aR _ hy)).1⟩
  refine ⟨⟨G.good,fun x J=>?_⟩,⟨G.good,fun x J=>?_⟩,⟨⟨M,by omega⟩,Z.1⟩,⟨⟨M,by omega⟩,a2⟩,Z.2⟩
  ·rcases bY.1 J with rfl|J
   ·exact ⟨a0.1.1.1.1,h3.1⟩
   ·exact a1 x J
  ·rcases bY.1 J with rfl|J
   ·exact ⟨M,Z.1⟩
   ·exact a1 x J
 have U:∀ t:T,pk p (eY p t)=XN p t:=fun t=>by
  have h1:=congrArg (List.filterMap id) (pH p t);unfold cls at h1;rw [RU,RU] at h1;unfold pk XN;simpa [Function.comp_def] using h1
 have eg:∀ {g:GI} {gs:List GI},s.goals=g::gs->gt s.goals=g.t::gt gs:=fun h=>by rw [h]; rfl
 cases h with
 | large=>exact ⟨fun _ h=>absurd h (by decide),fun q h=>by cases h⟩
 | noCut _ _ _ _ h=>cases h
 | err _ _ _ _ _ _ h0 _=>
  refine ⟨fun _ h=>absurd h ?_,fun q h=>by cases h⟩;unfold Ni;split
  ·decide
  split
  ·decide
  split <;> decide
 | unknown=>exact ⟨fun _ h=>absurd h (by decide),fun q h=>by cases h⟩
 | cut f l a D _=>
  have:=(first f l a).2.2.2.2;rw [D] at this;cases this
 | @solved g gs t st f l a D O hB=>
  obtain ⟨N,o2,B,o4,_⟩:=first f l a
  refine ⟨fun h=>(by cases h),fun q h i j V Y=>?_⟩;cases h;rw [eg f];exact ⟨i,j,.solved N B l O hB V,Y,rfl⟩
 | @fail g gs t st o f l a D O hB ho=>
  obtain ⟨N,o2,B,o4,_⟩:=first f l a
  obtain ⟨q1,q2⟩:=ho.ans hp (fJ G.chs ⟨t,g.up,-1⟩) cc;rw [eg f];exact ⟨fun h _=>⟨0,q1 h,rfl,.fail N B l O hB⟩,fun q h i j V Y=>⟨0,i+j,.fail N B l O hB,q2 q h i j V Y,by omega⟩⟩
 | @took g gs t r m f l a D O hf hT=>
  obtain ⟨N,o2,B,o4,_⟩:=first f l a
  refine ⟨fun h=>(by cases h),fun q h i j V Y=>?_⟩;cases h;obtain ⟨i',j',q1,q2,q3,rfl⟩:=Nw V Y;have:=(hT.ans hp s.st (gt gs) (aS _) (g7 _).symm o2 B).2 r rfl i i' q1 q2;rw [U] at this;rw [eg f];exact ⟨i+i',j',.plain N B l O this,q3,by omega⟩
 | @back g gs t m o f l a D O hf hT ho=>
  obtain ⟨N,o2,B,o4,_⟩:=first f l a
  have h0:=(hT.ans hp s.st (gt gs) (aS _) (g7 _).symm o2 B).1 rfl;rw [U] at h0;obtain ⟨q1,q2⟩:=ho.ans hp ((fJ G.chs _).mono (hT.ok hp G.good G.tab o4).1 (aS _)) cc;rw [eg f];exact ⟨fun h _=>⟨0,q1 h,rfl,.plain N B l O h0⟩,fun q h i j V Y=>⟨0,i+j,.plain N B l O h0,q2 q h i j V Y,by omega⟩⟩
theorem RunI.ans {p:List C} (l:∀ cl∈p,ie cl) (G:∀ cl∈p,∀ b∈cl.body,ncT b) {vars:List Int} {most n:Nat} {s:SI} {out:List (List T)} {r:List (List T) × Int} (h:RunI p vars most n s out r) :
  uB p.length s->Nk s->r.2=0->∃ i j,Ans p s.st (.node (gt s.goals)) i/\AnsC p s.chs j/\r.1.length=out.length+(i+j):=by
 have nil:∀ {s:SI},uB p.length s->s.goals=[]->Ans p s.st (.node (gt s.goals)) 1:=fun a h=>by
  rw [h];exact .done ⟨a.good,fun x J=>by cases J⟩
 induction h with
 | fuel=>intro _ _ h; cases h
 | more=>intro _ _ h; cases h
 | large=>intro _ _ h; cases h
 | stop _ f=>
  intro a hk h;obtain ⟨j,m,rfl,o⟩:=(f.ans l a hk).1 rfl h;exact ⟨0,0,o,m,rfl⟩
 | step _ f _ B=>
  intro a hk h;obtain ⟨i,j,q,t,k3⟩:=B (f.ok l a _ rfl).1 ⟨f.nc ncT_hd G hk.nc _ rfl,f.k3 hk.nc hk.k3 _ rfl⟩ h;obtain ⟨M,N,m,o,O⟩:=(f.ans l a hk).2 _ rfl i j q t;exact ⟨M,N,m,o,by omega⟩
 | last D _ _ g=>
  intro a hk _;have:=(g.ans l a.chs fun c hc=>⟨hk.k3 c hc,hk.nc.chs c hc⟩).1 rfl;exact ⟨1,0,nil a D,this,by simp⟩
 | next D _ _ g _ B=>
  intro a hk h;obtain ⟨i,j,q,t,k3⟩:=B (g.ok l a.chs _ rfl).1 ⟨g.nc ncT_hd G hk.nc.chs _ rfl,g.k3 hk.k3 _ rfl⟩ h;have:=(g.ans l a.chs fun c hc=>⟨hk.k3 c hc,hk.nc.chs c hc⟩).2 _ rfl i j q t;refine ⟨1,_,nil a D,this,?_⟩;rw [k3,bA,bq,bW];omega
theorem Ub {q:List T} (h:∀ t∈q,ncT t):Nk (fx q):=⟨VP h,fun c hc=>by cases hc⟩
theorem SolR.fewer {p d:List C} (Z:Yd p=true) (hd:d.Sublist p) {q:List T} (hq:∀ t∈q,jz t=true/\ncT t) {most f fuel l:Nat} {r G:List (List T) × Int} (h:SolR p q most fuel r) (J:SolR d q f l G) (e:r.2=0) (e':G.2=0):G.1.length<=r.1.length:=by
 rcases h with ⟨a,h⟩|⟨_,rfl⟩
 ·rcases J with ⟨o,J⟩|⟨_,rfl⟩
  ·rw [bM] at a o;rw [Yd,bM,dD] at Z;have D:∀ c∈p,∀ b∈c.body,jz b=true:=fun c hc b a=>dD.1 (Z.2 c hc) b a;have m:∀ cl∈p,∀ b∈cl.body,ncT b:=fun cl hc b B=>W5 (uN a.1 hc B) (D cl hc b B);have V:∀ c∈p,∀ b∈c.body,jz b=true/\b.kind=3:=fun c hc b a=>⟨D c hc b a,(m c hc b a).1⟩
   have hk:=Ub fun t M=>(hq t M).2;obtain ⟨i,j,q1,q2,q3⟩:=h.ans (gT a.1).1 m (mx a.2 _) hk e;obtain ⟨i',j',N,O,U⟩:=J.ans (gT o.1).1 (fun cl hc=>m cl (hd.subset hc)) (mx o.2 _) hk e';cases q2;cases O;have Y:MJ (.node (gt (fx q).goals)):=fun g hg=>by
    obtain ⟨x,hx,rfl⟩:=dp.1 hg;obtain ⟨t,M,rfl⟩:=dp.1 hx;exact (hq t M).1
   have:=Ans.mono hd V q1 Y _ _ _ N (.refl _ _ _);simp only [bW] at q3 U;omega
  ·cases e'
 ·cases e
end
section
open Go Go.RowKit
mutual
theorem Xc {N:Nat} {ρ:Int->T}:∀ t:T,okU N t->sbT ρ t=t->∀ m∈vT t,ρ (m:Int)=idS (m:Int)
 | .mk k n s ks,ho,he,m,hm=>by
  rw [okU] at ho;rw [vT] at hm;rw [sbT] at he;by_cases hk:k=1
  ·rw [ai hk,bK] at hm;rw [ai hk] at he;obtain ⟨a,_,rfl,rfl⟩:=ho.2.1 hk;rw [hm,nR a,he,idS,hk]
  ·rw [ag hk] at hm he;rw [T.mk.injEq] at he;exact FU ks ho.2.2.1 he.2.2.2 m hm
theorem FU {N:Nat} {ρ:Int->T}:∀ ts:List T,bL N ts->sbL ρ ts=ts->∀ m∈vTL ts,ρ (m:Int)=idS (m:Int)
 | [],_,_,m,a=>by simp [vTL] at a
 | t::ts,ho,he,m,a=>by
  rw [bL] at ho;rw [sbL,dK] at he;rw [vTL,bF] at a;rcases a with a|a
  ·exact Xc t ho.1 he.1 m a
  ·exact FU ts ho.2 he.2 m a
end
mutual
theorem aaU {N:Nat} {σ:Int->T} {f:Int->Int}:∀ t:T,okU N t->(∀ m∈vT t,σ (m:Int)=idS (f (m:Int)))->sbT σ t=mvT f t
 | .mk k n s ks,ho,h=>by
  rw [okU] at ho;rw [vT] at h;rw [sbT,mvT];by_cases hk:k=1
  ·obtain ⟨a,_,rfl,rfl⟩:=ho.2.1 hk;rw [ai hk] at h;have:=h n.toNat (bK.2 rfl);rw [nR a] at this;rw [ai hk,ai hk,this,idS,hk];rfl
  ·rw [ag hk] at h;rw [ag hk,ag hk,OR ks ho.2.2.1 h]
theorem OR {N:Nat} {σ:Int->T} {f:Int->Int}:∀ ts:List T,bL N ts->(∀ m∈vTL ts,σ (m:Int)=idS (f (m:Int)))->sbL σ ts=mvL f ts
 | [],_,_=>rfl
 | t::ts,ho,h=>by
  rw [bL] at ho;rw [sbL,mvL,aaU t ho.1 fun m a=>h m (by rw [vTL]; exact cZ _ a),OR ts ho.2 fun m a=>h m (by rw [vTL]; exact fb _ a)]
end
mutual
theorem Yq {N M:Nat} {σ:Int->T}:∀ t:T,okU N t->okU M (sbT σ t)->∀ m∈vT t,okU M (σ (m:Int))
 | .mk k n s ks,ho,h,m,hm=>by
  rw [okU] at ho;rw [vT] at hm;rw [sbT] at h;by_cases hk:k=1
  ·obtain ⟨a,_⟩:=ho.2.1 hk;rw [ai hk,bK] at hm;rw [ai hk] at h;rw [hm,nR a];exact h
  ·rw [ag hk] at hm h;rw [okU] at h;exact LV ks ho.2.2.1 h.2.2.1 m hm
theorem LV {N M:Nat} {σ:Int->T}:∀ ts:List T,bL N ts->bL M (sbL σ ts)->∀ m∈vTL ts,okU M (σ (m:Int))
 | [],_,_,m,a=>by simp [vTL] at a
 | t::ts,ho,h,m,a=>by
  rw [bL] at ho;rw [sbL,bL] at h;rw [vTL,bF] at a;rcases a with a|a
  ·exact Yq t ho.1 h.1 m a
  ·exact LV ts ho.2 h.2 m a
end
def TI (f:Int->Int) (us:List T):Prop:=∀ a∈vTL us,∀ b∈vTL us,f (a:Int)=f (b:Int)->a=b
theorem WS {N M:Nat} {us vs:List T} (o:bL N us) (G:bL M vs) (i:∃ σ,sbL σ us=vs) (q:∃ σ,sbL σ vs=us):∃ f,vs=mvL f us/\TI f us:=by
 obtain ⟨σ,i⟩:=i;obtain ⟨τ,q⟩:=q;have U:sbL (fun n=>sbT τ (σ n)) us=us:=by rw [<- zD,i,q]
 have g:=FU us o U;have B:=LV us o (by rw [i]; exact G);have hk:∀ m∈vTL us,σ (m:Int)=idS (σ (m:Int)).n/\τ (σ (m:Int)).n=idS (m:Int):=by
  intro m l;have e:sbT τ (σ (m:Int))=idS (m:Int):=g m l;by_cases h:(σ (m:Int)).kind=1
  ·obtain ⟨_,_,r,t⟩:=(B m l).var h;rw [kC τ h] at e;refine ⟨?_,e⟩;generalize V:σ (m:Int)=x at h r t;cases x;simp only [T.kind,T.name,T.kids] at h r t;subst h r t;rfl
  ·rw [nO τ h] at e;have:(T.kind (.mk (σ (m:Int)).kind (σ (m:Int)).n (σ (m:Int)).name (sbL τ (σ (m:Int)).kids)))=1:=by rw [e]; rfl
   exact absurd this h
 refine ⟨fun n=>(σ n).n,?_,fun a J b O e=>?_⟩
 ·rw [<- i];exact OR us o fun m l=>(hk m l).1
 ·have D:=(hk a J).2;have e:(σ (a:Int)).n=(σ (b:Int)).n:=e;rw [e,(hk b O).2] at D;simp only [idS,T.mk.injEq,i7,gL] at D;omega
theorem Fr {st:aj} (a:Good st.length st) {ts us:List T} (f:bL st.length ts) (g:Res st (.list ts us)) (w:List T):(∃ σ,jK σ st/\sbL σ ts=w)↔∃ κ,sbL κ us=w:=by
 constructor
 ·rintro ⟨σ,i,l⟩;exact ⟨σ,by rw [<- l]; exact Sd a i g f⟩
 ·rintro ⟨κ,h⟩;refine ⟨_,R1 a κ,?_⟩;rw [<- zD,<- T5 g f];exact h
theorem Ck {st a:aj} (o:Good st.length st) (h:Good a.length a) {os gs os' gs' us g:List T} (q:bL st.length (os++gs)) (i:bL a.length (os'++gs')) (r:Res st (.list (os++gs) us)) (l:Res a (.list (os'++gs') g))
  (J:SimN st os gs a os' gs'):∃ f,g=mvL f us/\TI f us:=by
 have key:∀ w,(∃ σ,jK σ st/\sbL σ (os++gs)=w)->∃ σ,jK σ a/\sbL σ (os'++gs')=w:=by
  rintro w ⟨σ,t,rfl⟩;obtain ⟨τ,B,D,G⟩:=(J _ _).1 ⟨σ,t,rfl,rfl⟩;exact ⟨τ,B,by rw [qP,qP,D,G]⟩
 have m:∀ w,(∃ σ,jK σ a/\sbL σ (os'++gs')=w)->∃ σ,jK σ st/\sbL σ (os++gs)=w:=by
  rintro w ⟨σ,t,rfl⟩;obtain ⟨τ,B,D,G⟩:=(J _ _).2 ⟨σ,t,rfl,rfl⟩;exact ⟨τ,B,by rw [qP,qP,D,G]⟩
 have e1:bL st.length us:=(fj o r q).1;have e2:bL a.length g:=(fj h l i).1;refine WS e1 e2 ?_ ?_
 ·refine (Fr o q r g).1 (m g ((Fr h i l g).2 ⟨idS,Ka g e2⟩))
 ·refine (Fr h i l us).1 (key us ((Fr o q r us).2 ⟨idS,Ka us e1⟩))
end
section
open Go Go.RowKit
attribute [local irreducible] Run CondV aq aK

theorem Sx (a:Int->Bool) (k:Int):∀ l:List Int,(l.all fun n=>!(a n || decide (n=k)))=(!vw l k && l.all fun n=>!a n)
 | []=>rfl
 | x::xs=>by
  have:=Sx a k xs;simp only [vw,IU,fB] at this ⊢;rw [this];by_cases h:x=k
  ·subst h; simp
  ·rw [ba h,ba (fun e=>h e.symm)];cases a x <;> simp
theorem xe {p:List C} {S:ae} {v:Value} {b:Nat} {m:Nat} (h:RdSl S 5 (RdC S) v p) (g:m<p.length) :
  Tri Tryz.prog rU [.int .i64 m,.pointer (some ⟨b,0,none⟩)] [.blk b (.cells #[v] gr)] S fun r I' S'=>r=.bool (lL p[m])/\I'=[.blk b (.cells #[v] gr)]/\S'=S:=by
 intro w a;refine pt.2 ?_;dsimp only[pt,bm];refine aT a 0 eO rfl rfl ?_;refine co a h bf aH g (fun _ _=>RdC.length) fun i f=>?_;refine Run.callPure CX Ca a (yH f) fun w' a=>?_;exact ⟨_,_,_,rfl,a,Ext.refl _ _ _,rfl,rfl,rfl⟩

theorem Bl {p:List C} {S:ae} {v:Value} (i:Int) (h:RdSl S 5 (RdC S) v p) (hw:p.length+wP p<=1048576):Pure Tryz.prog H3 [v,.int .i64 i] S (.bool (lC p i)):=by
 intro w f;have h0:=h;obtain ⟨a,cap,rfl,_⟩:=h0;refine ud.2 ?_;dsimp only[ud,bm];refine bJ f fun V w' f=>?_;have f:Inv w [] [.blk V (.cells #[.slice a p.length cap] gr)] S w':=f;refine ⟨fun t w'=>∃ q,t=.bool q/\(q=true->lC p i=false)/\(q=false->dc p=true/\∃ (k:Nat) (hk:k<p.length),i=k/\ia p[k]=true/\lL p[k]=false)/\Inv w [] [.blk V (.cells #[.slice a p.length cap] gr)] S w',?_,?_⟩
 ·refine aT f 0 eO rfl rfl ?_;refine Run.callPure jj jI f (iF h) fun w' f=>?_;refine cw ?_;cases hv:dc p
  ·refine rpG ?_;exact ⟨true,rfl,fun _=>by rw [lC,hv]; rfl,(fun h=>nomatch h),f⟩
  ·refine rpG ?_;refine aT f 0 eO rfl rfl ?_;refine aJ h bf ?_;refine kT (by omega) ?_;refine Run.callPure fS fT f (fi _ _ _ S) fun w' f=>?_;refine cw ?_;cases hq:(decide (0<=i) && decide (i<=(p.length:Int) - 1))
   ·refine rpG ?_;refine ⟨true,rfl,fun _=>?_,(fun h=>nomatch h),f⟩;rw [lC,hv];by_cases h1:0<=i
    ·rw [aN h1,eH] at hq;have:=of_decide_eq_false hq;rw [Mi (by omega)]; simp
    ·rw [ba h1]; rfl
   ·refine rpG ?_;simp only [bM,bD] at hq;obtain ⟨k,rfl⟩:∃ k:Nat,i=k:=⟨i.toNat,by omega⟩
    have hk:k<p.length:=by omega
    have hu:lC p k=Lk p k p[k]:=by
     rw [lC,hv,cu,ew hk,aN (show (0:Int)<=k by omega)]; rfl
    refine aT f 0 eO rfl rfl ?_;refine co f h bf aH hk (fun _ _=>RdC.length) fun b0 M=>?_;refine Run.callPure Dn DO f (wW M) fun w' f=>?_;refine cw ?_;cases hf:ia p[k]
    ·refine rpG ?_;exact ⟨true,rfl,fun _=>by rw [hu,xd hf],(fun h=>nomatch h),f⟩
    ·refine rpG ?_;refine aT f 0 eO rfl rfl ?_;refine co f h bf aH hk (fun _ _=>RdC.length) fun b0 M=>?_;refine Run.callPure CX Ca f (yH M) fun w' f=>?_;refine rpG ?_;refine ⟨_,rfl,fun hc=>?_,fun hc=>⟨rfl,k,hk,rfl,hf,hc⟩,f⟩;obtain ⟨g,gs,N,a1⟩:=im hf;rw [hu,Lk,N];simp [hc]
 intro t _ _ _ _ _ _ _ _ _ _ _ _ _ _ _ _ _ _ _ _ _ _ _ _ _ w';rintro ⟨q,rfl,a8,a9,f⟩;refine aD (fun hb=>done f (by rw [a8 hb])) (fun hb=>?_);obtain ⟨b1,k,hk,rfl,a2,Y⟩:=a9 hb;obtain ⟨g,gs,N,a1⟩:=im a2;have a5:0<p[k].body.length:=by rw [N]; simp
 have b6:p[k].body[0]=g:=by simp [N]
 have hu:lC p k=(decide (0<(jF p g).length) && (!vw (jF p g) k && (jF p g).all fun n=>!lI p n)):=by
  rw [lC,b1,cu,ew hk];simp only [Lk,N,a1,Y];rw [aN (show (0:Int)<=k by omega),Sx];simp
 obtain ⟨b,o,b8,c,E,fz,a3,hS,hR⟩:=h.at_ hk;obtain ⟨hd,ks,b3,h1,h2⟩:=hR;obtain ⟨kv,rfl,_⟩:=RdT.iff.1 h1;obtain ⟨bb,bo,a4,bc,bE,b9,rfl,b4,Z⟩:=h2.at_ a5;rw [b6] at Z;simp only [Value.slice.injEq,i7] at a3;obtain ⟨rfl,rfl⟩:=a3;refine ⟨fun D x5 tU xC oJ qd vj sy sr Ab AE CS w_=>Fx D 0 [CS=.slice (some ⟨b,o,none⟩) p.length cap,AE=.slice (some ⟨b,o,none⟩) p.length cap,Ab=.int .i64 k,sr=.pointer (some ⟨b,o+k * 5,none⟩),sy=.pointer (some ⟨b,o+k * 5+4,none⟩),vj=.slice (some ⟨bb,bo,none⟩) p[k].body.length a4,qd=.pointer (some ⟨bb,bo,none⟩),oJ=.agg (aX bc bo 4).toArray,xC=.agg (bN g).cells.toArray,True,True]/\∃ S1,Sle S S1/\(D 9=true->RdSl S1 1 jD tU (jF p g))/\(D 10=true->RdSl S1 1 jD x5 (jF p g))/\Inv w [] [.blk V (.cells #[.slice (some ⟨b,o,none⟩) p.length cap] gr)] S1 w_,⟨Fx.nil _ _,⟨S,Sle.refl S,aI,aI,f.draw⟩⟩,⟨?_,?_,?_,?_,?_,?_,?_,?_,?_,?_,?_,trivial⟩,?_⟩;all_goals (intro D bH; intros; rename_i x5 tU xC oJ qd vj sy sr Ab AE CS w_ a0; have J:=a0.1; obtain ⟨⟨cI,cJ,cH,cD,cL,cN,cq,dg,dG,dL,cT,_⟩,⟨S1,r,G,B,f⟩⟩:=a0)
 ·refine aT f 0 eO rfl rfl ?_;exact ⟨J.set 0 rfl,⟨S1,r,G,B,f⟩⟩
 ·refine aT f 0 eO rfl rfl ?_;exact ⟨J.set 1 rfl,⟨S1,r,G,B,f⟩⟩
 ·exact ⟨J.set 2 rfl,⟨S1,r,G,B,f⟩⟩
 ·obtain rfl:=cJ ‹_›;obtain rfl:=cH ‹_›;refine az bf hk ?_;exact ⟨J.set 3 rfl,⟨S1,r,G,B,f⟩⟩
 ·obtain rfl:=cD ‹_›;refine aw aU ?_;exact ⟨J.set 4 rfl,⟨S1,r,G,B,f⟩⟩
 ·obtain rfl:=cL ‹_›;refine cQ al (by rw [f.cellS (r _ _ hS)]; exact aF b3 4 _ rfl) ?_;exact ⟨J.set 5 rfl,⟨S1,r,G,B,f⟩⟩
 ·obtain rfl:=cN ‹_›;refine az (i:=0) ah a5 ?_;exact ⟨J.set 6 rfl,⟨S1,r,G,B,f⟩⟩
 ·obtain rfl:=cq ‹_›;refine ci ad (by simpa using Z.length) (fun j v hj=>by rw [f.cellS (r _ _ b4)]; exact aF rfl j v hj) ?_;exact ⟨J.set 7 rfl,⟨S1,r,G,B,f⟩⟩
 ·obtain rfl:=dg ‹_›;refine Run.callPure uW uO f (l7 (by simpa using Z.mono r)) fun w_ f=>?_;exact ⟨J.set 8 rfl,⟨S1,r,G,B,f⟩⟩
 ·obtain rfl:=cI ‹_›;obtain rfl:=dG ‹_›;refine Run.call0 ll lq f (kl (bN g) (h.monoC r) (by omega)) fun v1 I' S2 w_=>?_;rintro ⟨rfl,rfl⟩ _ f;have f:Inv w [] ([.blk V (.cells #[.slice (some ⟨b,o,none⟩) p.length cap] gr)]++[dk v1 (jF p g)]) S2 w_:=f;obtain ⟨S1,O,b5,f,_⟩:=f.lend;have r:=r.trans O;have G:=fun (_:ao D 9 9=true)=>b5.ints;have B:=fun (h:ao D 9 10=true)=>(B h).mono O fun _ _ h=>h;exact ⟨J.set 9 (by first|assumption|trivial),⟨S1,r,G,B,f⟩⟩
 ·have Eb:=dL ‹_›;have B:=fun (_:ao D 10 10=true)=>G ‹D 9=true›;exact ⟨J.set 10 (by first|assumption|trivial),⟨S1,r,G,B,f⟩⟩
 obtain ⟨rfl,rfl,rfl,rfl,rfl,rfl,rfl,rfl,rfl,Eb,AB,_⟩:=J.all;have Dy:D 10=true:=by assumption
 clear J cI cJ cH cD cL cN cq dg dG dL cT;have hr:=B Dy;have h':=h.monoC r;have U:∀ n∈jF p g,∃ (j:Nat) (hj:j<p.length),n=j:=by
  intro n hn;obtain ⟨j,_,h2,h3,_⟩:=mM _ p 0 n hn;exact ⟨j,h3,by omega⟩
 generalize jF p g=l at hr hu U;refine aJ hr cA ?_;refine eP ?_;rw [hu];by_cases a7:0<l.length
 ·rw [aN a7,aN (show (0:Int)<l.length by omega)];refine rpG ?_;refine Run.callPure nK nN f (mq k hr) fun w' f=>?_;refine cw ?_;cases hh:vw l k
  ·refine rpG ?_;refine mP ?_;have a6:Cb Tryz.prog rU _ [.pointer (some ⟨V,0,none⟩)] S1 (fun _:Unit=>[.blk V (.cells #[.slice (some ⟨b,o,none⟩) p.length cap] gr)]) (fun _=>True) (fun _ x=>(lI p x,())) (fun v x=>v=.int .i64 x) l:=
    Cb.pure [.blk V (.cells #[.slice (some ⟨b,o,none⟩) p.length cap] gr)] Bc Bb fun x v hx=>by
     rintro rfl;obtain ⟨m,hm,rfl⟩:=U x hx;have b7:lI p m=lL p[m]:=by rw [lI,cu,ew hm]
     rw [b7];exact xe h' hm
   refine Run.call (A:=[]) sm su f (vx a6 hr (st:=()) trivial) fun v' I' S' w'=>?_;rintro ⟨rfl,rfl,rfl⟩ _ f;refine cw ?_;refine rpG ?_;refine iw f r ?_;rw [jW (fun x=>lI p x) l];have:=Ee (fun n=>!lI p n) l;simp only [Bool.not_not] at this;rw [this]; simp
  ·refine rpG ?_;exact iw f r rfl
 ·rw [ba a7,ba (show ¬ (0:Int)<l.length by omega)];refine rpG ?_;exact iw f r rfl
end
section
open Go Go.RowKit
def clK:Option (Option C)->List C
 | some (some r)=>[r]
 | _=>[]
theorem Mm {o:Option (Option C)} (hf:iB o=true) (hk:jp o=true):clK o=[clO o]:=by
 match o with
 | none=>cases hf
 | some none=>cases hk
 | some (some r)=>rfl
theorem OI {o:Option (Option C)} (hf:iB o=false):clK o=[]:=by
 match o with
 | none=>rfl
 | some none=>cases hf
 | some (some r)=>cases hf
theorem TN (o:Option (Option C)):(iB o && !xI o)=!jp o:=by
 match o with
 | none=>rfl
 | some none=>rfl
 | some (some r)=>show (true && !bt r)=!bt r; simp
def jh:List (Option (Option C))->List C
 | []=>[]
 | o::os=>clK o++jh os
theorem JC:∀ (os:List (Option (Option C))) (o:Option (Option C)),jh (os++[o])=jh os++clK o
 | [],o=>by simp [jh]
 | x::os,o=>by rw [dS,jh,jh,JC os o,dx]
theorem IM {os:List (Option (Option C))} {m:Nat} (h:m<os.length):jh (os.take (m+1))=jh (os.take m)++clK os[m]:=by
 rw [eV h,JC]
theorem JW {α:Type} {f:α->Bool} {l:List α} {m:Nat} (h:m<l.length) (a:(l.take m).all f=true) (g:f l[m]=true):(l.take (m+1)).all f=true:=by
 rw [eV h,List.all_append,a];simp [g]
def RK (p:List C) (j:Nat) (k:Int) (o:Option (Option C)):Prop:=∃ (hj:j<p.length) (hk:k.toNat<p.length),RO p[j] p[k.toNat] o
def UO (p:List C) (j:Nat) (ks:List Int) (os:List (Option (Option C))):Prop:=os.length=ks.length/\∀ m (h:m<ks.length) (h':m<os.length),RK p j ks[m] os[m]
theorem UO.ex {p:List C} {j:Nat} (g:j<p.length) (l:p[j].body≠[]) (a:∀ c∈p,bt c=true/\wC c<=1048576):∀ ks:List Int,(∀ k∈ks,k.toNat<p.length)->∃ os,UO p j ks os
 | [],_=>⟨[],rfl,fun m h=>by simp at h⟩
 | k::ks,hk=>by
  obtain ⟨os,hl,i⟩:=UO.ex g l a ks fun x t=>hk x (aR _ t);have f:=hk k (aM ..);have q:=a _ (bG g);have r:=a _ (bG f);obtain ⟨o,D⟩:=RO.ex q.1 r.1 q.2 r.2 l;refine ⟨o::os,by simp [hl],fun m h B=>?_⟩
  match m with
  | 0=>exact ⟨g,f,D⟩
  | m+1=>exact i m (by simpa using h) (by simpa using B)
theorem V7 {t:T} (h:d6 t=true):wT t<=840:=by
 have a:=KI t (jY h);rw [d6,bM,bD] at h;omega
theorem RT:∀ {ts:List T},(∀ t∈ts,d6 t=true)->wL ts<=ts.length * 840
 | [],_=>by simp [wL]
 | t::ts,h=>by
  have f:=V7 (h t (aM ..));have g:=RT (ts:=ts) fun x a=>h x (aR _ a);rw [wL,bq,iX];omega
theorem yE {c:C} (h:bt c=true):wC c<=6000:=by
 rw [bt] at h;simp only [bM,dD,bD] at h;have g:=V7 h.2.2.1;have i:=RT (ts:=c.body) fun t a=>by
  have:=h.2.1 t a;rw [eN,bM] at this;exact this.1
 have f:=h.1;have l:c.body.length * 840<=6 * 840:=gM _ f;unfold wC;omega
theorem Rj {b:Nat}:∀ {p:List C},(∀ c∈p,wC c<=b)->wP p<=p.length * b
 | [],_=>by simp [wP]
 | c::p,h=>by
  have f:=h c (aM ..);have g:=Rj (p:=p) fun x a=>h x (aR _ a);rw [wP,bq,iX];omega
theorem pw {p:List C} (h:dc p=true):p.length<=20/\∀ c∈p,bt c=true/\wC c<=6000:=by
 rw [dc,bM,bD,dD] at h;exact ⟨h.1,fun c hc=>⟨h.2 c hc,yE (h.2 c hc)⟩⟩
theorem KE:∀ {os:List (Option (Option C))},(∀ o∈os,wC (clO o)<=20000)->(jh os).length<=os.length/\∀ c∈jh os,wC c<=20000
 | [],_=>by simp [jh]
 | o::os,h=>by
  have f:=h o (aM ..);obtain ⟨i,a⟩:=KE (os:=os) fun x g=>h x (aR _ g);rw [jh]
  match o,f with
  | none,_=>exact ⟨by simp only [clK,fZ,bq]; omega,by simpa only [clK,fZ] using a⟩
  | some none,_=>exact ⟨by simp only [clK,fZ,bq]; omega,by simpa only [clK,fZ] using a⟩
  | some (some r),f=>
   refine ⟨by simp only [clK,dS,fZ,bq]; omega,fun c hc=>?_⟩;simp only [clK,dS,fZ] at hc;rcases bY.1 hc with rfl|hc
   ·exact f
   ·exact a c hc
def mR (p:List C) (i:Int):List Int:=match p[i.toNat]? with
 | some c=>jF p (c.body.headD ⟨0,0,⟨#[]⟩,[]⟩)
 | none=>[]
def qh (p:List C) (i:Int) (os:List (Option (Option C))):List C:=(p.take i.toNat++jh os)++p.drop (i.toNat+1)
def UB (p:List C) (i:Int) (r:List C) (b:Bool):Prop:=(lC p i=false/\r=[]/\b=false) ∨ (lC p i=true/\∃ os,UO p i.toNat (mR p i) os/\
 ((os.all jp=false/\r=[]/\b=false) ∨ (os.all jp=true/\((dc (qh p i os)=true/\r=qh p i os/\b=true) ∨ (dc (qh p i os)=false/\r=[]/\b=false)))))
theorem mt {p:List C} {i:Int} (h:lC p i=true):dc p=true/\∃ (j:Nat) (m:j<p.length),i=j/\ia p[j]=true:=by
 rw [lC,bM,bM,bD] at h;obtain ⟨l,o,a⟩:=h;refine ⟨l,i.toNat,?_⟩;cases g:p[i.toNat]? with
 | none=>rw [g] at a; cases a
 | some c=>
  rw [g] at a;obtain ⟨f,e⟩:=fa.1 g;refine ⟨f,by omega,?_⟩;rw [e];cases hf:ia c with
  | true=>rfl
  | false=>
   simp only [xd hf] at a;cases a
theorem EO {p:List C} {g:T} {k:Int} (h:k∈jF p g):∃ n:Nat,k=n/\n<p.length:=by
 obtain ⟨n,_,f,a,_⟩:=mM _ p 0 k h;exact ⟨n,by omega,a⟩
theorem yJ {p:List C} {j:Nat} (a:j<p.length) {g:T} {gs:List T} (f:p[j].body=g::gs):mR p j=jF p g:=by
 rw [mR,cu,ew a];simp [f]
theorem UB.ex (p:List C) (i:Int):∃ r b,UB p i r b:=by
 cases h:lC p i with
 | false=>exact ⟨_,_,.inl ⟨h,rfl,rfl⟩⟩
 | true=>
  obtain ⟨t,j,m,rfl,hf⟩:=mt h;obtain ⟨g,gs,o,_⟩:=im hf;obtain ⟨hl,a⟩:=pw t;obtain ⟨os,f⟩:=UO.ex m (by rw [o]; simp) (fun c hc=>⟨(a c hc).1,by have:=(a c hc).2; omega⟩) (mR p j) (fun k hk=>by
   rw [yJ m o] at hk;obtain ⟨n,rfl,hn⟩:=EO hk;simpa using hn)
  cases l:os.all jp with
  | false=>exact ⟨_,_,.inr ⟨h,os,f,.inl ⟨l,rfl,rfl⟩⟩⟩
  | true=>
   cases q:dc (qh p j os) with
   | true=>exact ⟨_,_,.inr ⟨h,os,f,.inr ⟨l,.inl ⟨q,rfl,rfl⟩⟩⟩⟩
   | false=>exact ⟨_,_,.inr ⟨h,os,f,.inr ⟨l,.inr ⟨q,rfl,rfl⟩⟩⟩⟩
theorem UO.w {p:List C} {j:Nat} {ks:List Int} {os:List (Option (Option C))} (h:UO p j ks os) (i:∀ f:j<p.length,p[j].body≠[]) (l:dc p=true):∀ o∈os,wC (clO o)<=20000:=by
 obtain ⟨hl,a⟩:=pw l;intro o q;obtain ⟨m,g,rfl⟩:=mT.1 q;obtain ⟨f,hk,r⟩:=h.2 m (by rw [<- h.1]; exact g) g;have t:=a _ (bG f);have B:=a _ (bG hk);exact X4 t.1 B.1 (by omega) (by omega) (i f) r
theorem OY {p:List C} {i:Int} (t:lC p i=true) {os:List (Option (Option C))} (h:UO p i.toNat (mR p i) os) :
  (∀ o∈os,wC (clO o)<=20000)/\os.length<=20/\(qh p i os).length+wP (qh p i os)<=1048576:=by
 obtain ⟨m,j,D,rfl,hf⟩:=mt t;obtain ⟨g,gs,q,_⟩:=im hf;obtain ⟨hl,a⟩:=pw m;have r:=h.w (fun B=>by
  have:p[(j:Int).toNat]=p[j]:=by simp
  rw [this,q]; simp) m
 have l:os.length<=20:=by
  rw [h.1,yJ D q];have:=ja (fun c=>gQ (bN c.head) (bN g)) p 0;rw [jF];omega
 refine ⟨r,l,?_⟩;obtain ⟨M,G⟩:=KE r;have f:(qh p j os).length<=40:=by
  rw [qh];simp only [bA,cM,mi];omega
 have J:=Rj (b:=20000) (p:=qh p j os) fun c hc=>by
  rw [qh] at hc;rcases bF.1 hc with hc|hc
  ·rcases bF.1 hc with hc|hc
   ·have:=(a c (lB hc)).2; omega
   ·exact G c hc
  ·have:=(a c (xz hc)).2; omega
 have:(qh p j os).length * 20000<=40 * 20000:=gM _ f;omega
theorem UB.w {p r:List C} {i:Int} {b:Bool} (h:UB p i r b):r.length+wP r<=1048576:=by
 rcases h with ⟨_,rfl,_⟩|⟨f,os,a,⟨_,rfl,_⟩|⟨_,⟨_,rfl,_⟩|⟨_,rfl,_⟩⟩⟩
 ·simp [wP]
 ·simp [wP]
 ·exact (OY f a).2.2
 ·simp [wP]
abbrev QR (ys:List C) (b:Bool):Value->List Item->ae->Prop:=fun q I' _=>∃ (u:Value) (L:bh),q=.tuple #[u,.bool b]/\I'=aV L/\TrSl 5 TrC L u ys
theorem Inv.lendExtR {w0 w:World} {X:List Nat} {A:List Item} {S:ae} {v:Value} {e:TypeId} {k n:Nat} {xs:List Value} (h:Inv w0 X (A++[.row v e k n xs]) S w) :
  ∃ S',Ext w0.heap.size X S S'/\RowRd S' v e k n xs/\Inv w0 X A S' w:=by
 obtain ⟨hl,m⟩:=h.openRow;rcases m with ⟨rfl,t⟩|⟨g,cap,a,rfl,f,i,l,B,D⟩
 ·exact ⟨S,Ext.refl _ _ _,⟨hl,.inl ⟨rfl,t⟩⟩,h.sub (dt _ _)⟩
 ·obtain ⟨S',o,q,r⟩:=Inv.pub1 (A:=A) D;exact ⟨S',q,⟨hl,.inr ⟨g,cap,a,rfl,r,f,i,l,B⟩⟩,o⟩
def IsCv (S:ae) (c:C) (v:Value):Prop:=∃ cs:List Value,v=.agg cs.toArray/\RdC S cs c
def IsTO (S:ae) (o:Option (Option C)) (v:Value):Prop:=∃ es:List Value,v=.tuple #[.agg es.toArray,.bool (iB o),.bool (jp o)]/\RdC S es (clO o)
theorem IsCv.mono {S S':ae} {c:C} {v:Value} (h:IsCv S c v) (a:Sle S S'):IsCv S' c v:=by
 obtain ⟨cs,e,h⟩:=h;exact ⟨cs,e,h.mono a⟩
theorem IsTO.mono {S S':ae} {o:Option (Option C)} {v:Value} (h:IsTO S o v) (a:Sle S S'):IsTO S' o v:=by
 obtain ⟨cs,e,h⟩:=h;exact ⟨cs,e,h.mono a⟩
theorem RdSl.clauseAt {S:ae} {b o len cap:Nat} {p:List C} (h:RdSl S 5 (RdC S) (.slice (some ⟨b,o,none⟩) len cap) p) {i:Nat} (g:i<p.length) :
  ∃ c E a cs,S b=some (.cells c E a)/\aX c (o+i * 5) 5=cs/\RdC S cs p[i]:=by
 obtain ⟨m,q,f,c,E,a,e,l,hR⟩:=h.at_ g;cases e;exact ⟨c,E,a,_,l,rfl,hR⟩
theorem RdSl.intAt {S:ae} {b o len cap:Nat} {p:List Int} (h:RdSl S 1 jD (.slice (some ⟨b,o,none⟩) len cap) p) {i:Nat} (g:i<p.length) :
  ∃ c E a,S b=some (.cells c E a)/\c[o+i * 1]?=some (.int .i64 p[i]):=by
 obtain ⟨m,q,f,c,E,a,e,l,hR⟩:=h.at_ g;cases e;exact ⟨c,E,a,l,aF hR 0 _ rfl⟩
theorem RdSl.some {α:Type} {S:ae} {k:Nat} {R:List Value->α->Prop} {v:Value} {xs:List α} (h:RdSl S k R v xs) (a:0<xs.length):∃ b o cap,v=.slice (some ⟨b,o,none⟩) xs.length cap:=by
 obtain ⟨b,o,cap,c,E,f,e,_,_⟩:=h.at_ a;exact ⟨b,o,cap,e⟩
end
end Go.Proofs.YtgllldjiaglkcaaGreatDoor

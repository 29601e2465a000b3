/- Unfolding keeps answers: steps and runs, side by side. No program in sight. -/
import Derived.Test.YtgllldjiaglkcaaGreatDoorZUf26
namespace Go.Proofs.YtgllldjiaglkcaaGreatDoor
section
open Go Go.RowKit
theorem Rep.sim {os:List T} {st a:aj} {ts f:List T} {I:Ist} (h:Rep os st ts I) (g:Rep os a f I):SimN st os ts a os f:=fun v w=>(h.2 v w).trans (g.2 v w).symm
theorem Rep.self {os:List T} {st:aj} (h:bL st.length os) (ts:List T):Rep os st ts (mU st os ts):=⟨h,fun _ _=>Iff.rfl⟩
theorem Tl {st f:aj} {os os' gs gs':List T} {t u:T} (h:SimN st os (t::gs) f os' (u::gs')):SimN st [] [t] f [] [u]:=by
 have key:∀ {st:aj} {os gs:List T} {t:T} v w,mU st [] [t] v w↔v=[]/\∃ w0 a w',w=[w0]/\mU st os (t::gs) a (w0::w'):=by
  intro st os gs t v w;constructor
  ·rintro ⟨σ,i,l,g⟩;exact ⟨by rw [<- l]; rfl,sbT σ t,sbL σ os,sbL σ gs,by rw [<- g]; rfl,σ,i,rfl,rfl⟩
  ·rintro ⟨rfl,w0,a,w',rfl,σ,i,l,g⟩;rw [sbL,dK] at g;exact ⟨σ,i,rfl,by rw [sbL,g.1]; rfl⟩
 intro v w;rw [key (os:=os) (gs:=gs),key (os:=os') (gs:=gs')];exact ⟨fun ⟨e,w0,a,w',e2,k⟩=>⟨e,w0,a,w',e2,(h _ _).1 k⟩,fun ⟨e,w0,a,w',e2,k⟩=>⟨e,w0,a,w',e2,(h _ _).2 k⟩⟩
section
variable {p u:List C} {j:Int} {c:C} {b:T} {cs:List T} {ks:List Int} {ex exm:Int->List C} {os:List T}
theorem Tv (H:H5 p u j c b cs ks ex exm) {s s':SI} (O:W3 p s) (l:W3 u s') (hR:B5 u c cs ks ex exm os s s') {o o':Option SI} {e e':Int} (hP:StepI p false s o e) (hU:StepI u false s' o' e') (x:o=none->e≠3/\e≠8) (y:o'=none->e'≠3/\e'≠8) :
  (QN u c b cs ks ex exm os o o'/\(o=none->e=0)/\(o'=none->e'=0)) ∨ (o=none/\o'=none/\e'=e):=by
 obtain ⟨g,gs,t,hg,ht⟩:=FL hP;obtain ⟨g',gs',t',D,G⟩:=FL hU;obtain ⟨lv,J,hS,B,h1,h2⟩:=hR;rw [hg,D] at B;cases B with
 | cons hG B=>
 obtain ⟨k1,k2,k3,k4⟩:=qu O hg ht;obtain ⟨l1,l2,l3,l4⟩:=qu l D G;have Y:=h1;have Z:=h2;rw [hg] at Y;rw [D] at Z;have hv:∃ f,[t']=mvL f [t]/\TI f [t]:=by
  refine Ck (os:=[]) (os':=[]) (gs:=[g.t]) (gs':=[g'.t]) O.ok.good l.ok.good (gw fun z hz=>?_) (gw fun z hz=>?_) (.cons ht .nil) (.cons G .nil) (Tl (Y.sim Z))
  ·rw [bK.1 hz]; exact k1
  ·rw [bK.1 hz]; exact l1
 obtain ⟨f,hf,a9⟩:=hv;have hf:t'=mvT f t:=by
  rw [mvL,mvL,dK] at hf;exact hf.1
 subst hf;have hh:=YQ f t;obtain ⟨p1,p2,p3,p4⟩:=Fw hP hg ht;obtain ⟨u1,u2,u3,u4⟩:=Fw hU D G;rw [AN] at u1 u2 u3 u4 l4;rw [j8 hh] at u2 u3 u4;rw [eI hh] at u3 u4;cases i:bv t with
 | false=>
  obtain ⟨e1,e2⟩:=p1 i;exact absurd e2 (x e1).1
 | true=>
 have a4:=k4 i;have M:=l4 i;have r1:Rep os s.st (t::gt gs) J:=Rep.res Y O.ok.good k1 ht;have r2:Rep os s'.st (mvT f t::gt gs') J:=Rep.res Z l.ok.good l1 G;have U:SimN s.st os (t::gt gs) s'.st os (mvT f t::gt gs'):=r1.sim r2;cases m:ez t with
 | true=>
  have e1:=p2 i m;have e2:=u2 i m;subst e1 e2;left;refine ⟨.inr (.inl ⟨_,_,rfl,rfl,?_⟩),(fun h=>by cases h),fun h=>by cases h⟩;have a5:(g.cut.toNat,g'.cut.toNat)∈lv:=by
   rcases hG with ⟨h,_⟩|h
   ·have:=(h.hd k3).2;rw [m] at this;cases this
   ·exact h
  obtain ⟨b0,q1,q2⟩:=hS.take _ _ a5;have N:=O.ok.cuts;rw [hg] at N;have N:=(F7.1 N).1;refine ⟨b0,_,q1,B.mono fun a ha z hz=>q2 _ hz ?_,Rep.self r1.1 _,?_⟩
  ·have:=N a ha;show a.cut.toNat<=g.cut.toNat;omega
  ·refine ⟨r2.1,fun v w=>?_⟩;exact (U.tl v w).symm
 | false=>
 cases r:bU t with
 | true=>
  obtain ⟨code,st,hB,q⟩:=p3 i m r;obtain ⟨b3,b4,a3,q'⟩:=u3 i m r;obtain ⟨ec,b5⟩:=VM O.ok.good a4 r hB l.ok.good M a9 a3 U;subst ec;rcases q with ⟨V,rfl⟩|⟨V,hb,he⟩|⟨V,e1,rfl,rfl⟩
  ·rcases q' with ⟨_,rfl⟩|⟨e1,_⟩|⟨e1,_⟩
   ·left;refine ⟨.inr (.inl ⟨_,_,rfl,rfl,lv,_,hS,B,Rep.self ?_ _,?_⟩),(fun h=>by cases h),fun h=>by cases h⟩
    ·have a0:=hB.good O.ok.good r a4.1;show bL st.length os;rw [a0.len]; exact r1.1
    ·have a0:=a3.good l.ok.good (by rw [eI hh]; exact r) M.1;refine ⟨by show bL b4.length os; rw [a0.len]; exact r2.1,fun v w=>(b5 V v w).symm⟩
   ·rw [V] at e1; cases e1
   ·exact absurd V e1
  ·rcases q' with ⟨e1,_⟩|⟨_,b6,b7⟩|⟨_,e1,_⟩
   ·rw [V] at e1; cases e1
   ·exact .inl ⟨pF H hS (QW O (aS _) hb) (QW l (aS _) b6),he,b7⟩
   ·exact absurd V e1
  ·rcases q' with ⟨e2,_⟩|⟨e2,_⟩|⟨_,_,rfl,rfl⟩
   ·exact absurd e2 V
   ·exact absurd e2 e1
   ·exact .inr ⟨rfl,rfl,rfl⟩
 | false=>
  obtain ⟨p5,p6⟩:=p4 i m r;obtain ⟨u5,u6⟩:=u4 i m r;by_cases a7:eY p t=[]
  ·obtain ⟨e1,e2⟩:=p5 a7;exact absurd e2 (x e1).2
  by_cases a8:eY u (mvT f t)=[]
  ·obtain ⟨e1,e2⟩:=u5 a8;exact absurd e2 (y e1).2
  obtain ⟨a1,a2⟩:=Al H.okp O hg ht i h1 (p6 a7);obtain ⟨b1,b2⟩:=Al H.oku l D G (by rw [AN]; exact i) h2 (u6 a8);have b1:=b1.pend (lT u (mvT f t));have a6:eY p (mvT f t)=eY p t:=by unfold eY; rw [je hh]
  rw [H.forU _ M.2,a6] at b1;rcases NT H (lT p t) a1 b1 hS (fun _=>B) with h|⟨h3,h4⟩
  ·exact .inl ⟨h,a2,b2⟩
  ·exact .inl ⟨pF H hS h3 h4,a2,b2⟩
theorem Vh (H:H5 p u j c b cs ks ex exm) {s:SI} (J:W3 p s) {o M:Option SI} {e:Int} (U:Yz u c b cs ks ex exm os s M) (N:StepI p false s o e) (x:o=none->e≠3/\e≠8):QN u c b cs ks ex exm os o M/\(o=none->e=0):=by
 obtain ⟨a,gx,a',lx,I,t',rest,D,lv,bg,Y,f⟩:=U;obtain ⟨g,gs,t,B,G⟩:=FL N;have r:=B;rw [f.goals,dK] at r;obtain ⟨rfl,rfl⟩:=r;obtain ⟨k1,k2,k3,k4⟩:=qu J B G;have m:sameHd b t:=⟨k3.1.trans f.hd.1,k3.2.1.trans f.hd.2.1,k3.2.2.trans f.hd.2.2⟩
 obtain ⟨Z,p2,p3,p4⟩:=Fw N B G;cases q:bv t with
 | false=>
  obtain ⟨e1,e2⟩:=Z q;exact absurd e2 (x e1).1
 | true=>
 obtain ⟨p5,p6⟩:=p4 q (by rw [j8 m]; exact H.bc) (by rw [eI m]; exact H.bb);have i:=H.kf t m;have l:eY p t≠[]:=by rw [i]; exact H.ne
 obtain ⟨O,a2⟩:=Al H.okp J B G q f.rep (p6 l);rw [i,f.chs] at O;refine ⟨?_,a2⟩;rcases M6 H (fun k hk=>hk) f.len f.nc O f.pend f.stk f.gs f.gx with h|⟨h1,h2⟩
 ·exact .inr (.inl h)
 ·exact Qx H (fun h V=>pF H f.stk h V) f.gx h1 h2 f.stk fun l=>f.gs fun e=>l (List.append_eq_nil_iff.1 e).2
theorem pK {vars:List Int} {s a:SI} (r:W3 p s) (l:W3 u a) (hR:B5 u c cs ks ex exm (vars.map ul) s a) (t:s.goals=[]) {o B:Option (List T)} (h:ValsI s.st vars o) (G:ValsI a.st vars B):a.goals=[]/\B=o:=by
 obtain ⟨Y,J,Z,m,i,q⟩:=hR;have hl:=m.len;rw [t] at hl;have g:a.goals=[]:=gF hl;refine ⟨g,?_⟩;rw [t] at i;rw [g] at q;obtain ⟨us,D,rfl⟩:=h;obtain ⟨M,N,rfl⟩:=G;have O:bL s.st.length (vars.map ul++[]):=by rw [bV]; exact i.1
 have U:bL a.st.length (vars.map ul++[]):=by rw [bV]; exact q.1
 obtain ⟨f,rfl,hf⟩:=Ck r.ok.good l.ok.good O U (by rw [bV]; exact D) (by rw [bV]; exact N) (i.sim q);have V:bL s.st.length us:=(fj r.ok.good D i.1).1;obtain ⟨e1,e2⟩:=To V hf;rw [R0,e1,e2]
def Ya (p:List C) (vars:List Int) (most n:Nat) (o:Option SI) (out:List (List T)) (r:List (List T) × Int):Prop:=(o=none/\r=(out,0)) ∨ ∃ s,o=some s/\RunI p vars most n s out r
theorem T4 {vars:List Int} {most n:Nat} {s:SI} {out:List (List T)} {r:List (List T) × Int} (h:RunI p vars most n s out r) (a:s.goals≠[]) (g:n≠0) :
  ∃ m o e,n=m+1/\StepI p false s o e/\((o=none/\r=(out,e)) ∨ ∃ f,o=some f/\RunI p vars most m f out r):=by
 cases h with
 | fuel=>exact absurd rfl g
 | stop _ h=>exact ⟨_,_,_,rfl,h,.inl ⟨rfl,rfl⟩⟩
 | step _ h i=>exact ⟨_,_,_,rfl,h,.inr ⟨_,rfl,i⟩⟩
 | more h=>exact absurd h a
 | large h=>exact absurd h a
 | last h=>exact absurd h a
 | next h=>exact absurd h a
def UT (u:List C) (c:C) (b:T) (cs:List T) (ks:List Int) (ex exm:Int->List C) (vars:List Int) (most n:Nat) (s:SI) (out:List (List T)) (r:List (List T) × Int):Prop:=
 (∀ s',B5 u c cs ks ex exm (vars.map ul) s s'->W3 u s'->∀ n' r',n<=n'->RunI u vars most n' s' out r'->r'.2≠3->r'.2≠8->r'=r)/\
 ∀ o',Yz u c b cs ks ex exm (vars.map ul) s o'->(∀ s',o'=some s'->W3 u s')->∀ n' r',n<=n'->Ya u vars most n' o' out r'->r'.2≠3->r'.2≠8->r'=r
theorem D9 {vars:List Int} {most n n':Nat} {o g:Option SI} {out:List (List T)} {r a:List (List T) × Int} (B:QN u c b cs ks ex exm (vars.map ul) o g) (D:o=none->r=(out,0)) (l:∀ s,o=some s->UT u c b cs ks ex exm vars most n s out r)
  (m:∀ f,g=some f->W3 u f) (hn:n<=n') (i:Ya u vars most n' g out a) (q:a.2≠3) (t:a.2≠8):a=r:=by
 rcases B with ⟨e,G⟩|⟨s,f,rfl,rfl,hR⟩|⟨s,rfl,J⟩
 ·rcases i with ⟨_,h⟩|⟨f,h,_⟩
  ·rw [h,D e]
  ·rw [G] at h; cases h
 ·rcases i with ⟨h,_⟩|⟨N,h,M⟩
  ·cases h
  ·cases h;exact (l s rfl).1 f hR (m f rfl) n' a hn M q t
 ·exact (l s rfl).2 g J m n' a hn i q t
theorem W8 (H:H5 p u j c b cs ks ex exm) {vars:List Int} {most n:Nat} {s:SI} {out:List (List T)} {r:List (List T) × Int} (h:RunI p vars most n s out r):W3 p s->r.2≠2->r.2≠3->r.2≠8->UT u c b cs ks ex exm vars most n s out r:=by
 have a0:∀ {n:Nat} {s:SI} {out:List (List T)} {r:List (List T) × Int} {o:Option SI} {e:Int},s.goals≠[]->StepI p false s o e->W3 p s->r.2≠3->r.2≠8->(o=none->r=(out,e))->(∀ s1,o=some s1->UT u c b cs ks ex exm vars most n s1 out r)->UT u c b cs ks ex exm vars most (n+1) s out r:=by
  intro n s out r o e M hP i U V hN hI;have x:o=none->e≠3/\e≠8:=fun h=>by
   rw [hN h] at U V;exact ⟨U,V⟩
  constructor
  ·intro D hR a n' Y hn Z y3 y8;have a4:D.goals≠[]:=by
    obtain ⟨_,_,_,a1,_⟩:=id hR;intro h;have hl:=a1.len;rw [h] at hl;exact M (gF hl.symm)
   obtain ⟨m,o',e',rfl,a3,a2⟩:=T4 Z a4 (by omega);have y:o'=none->e'≠3/\e'≠8:=fun h=>by
    rcases a2 with ⟨_,B⟩|⟨s1,B,_⟩
    ·rw [B] at y3 y8;exact ⟨y3,y8⟩
    ·rw [h] at B; cases B
   rcases Tv H i a hR hP a3 x y with ⟨hO,e0,a6⟩|⟨e1,e2,e3⟩
   ·refine D9 (n':=m) hO (fun h=>by rw [hN h,e0 h]) hI (So H.oku H.u3 a3 a) (by omega) ?_ y3 y8;rcases a2 with ⟨h1,B⟩|h
    ·exact .inl ⟨h1,by rw [B,a6 h1]⟩
    ·exact .inr h
   ·rcases a2 with ⟨_,B⟩|⟨s1,B,_⟩
    ·rw [B,hN e1,e3]
    ·rw [e2] at B; cases B
  ·intro o' hM hw n' Y hn Z y3 y8;obtain ⟨hO,e0⟩:=Vh H i hM hP x;exact D9 hO (fun h=>by rw [hN h,e0 h]) hI hw (by omega) Z y3 y8
 have N:∀ {n:Nat} {s:SI} {out:List (List T)} {r:List (List T) × Int},s.goals=[]->(∀ D,B5 u c cs ks ex exm (vars.map ul) s D->W3 u D->∀ n' Y,n<=n'->RunI u vars most n' D out Y->Y.2≠3->Y.2≠8->Y=r)->UT u c b cs ks ex exm vars most n s out r:=by
  intro n s out r q h;refine ⟨h,fun o' hM=>?_⟩;obtain ⟨_,_,_,_,_,_,_,_,_,_,_,hW⟩:=hM;have:=hW.goals;rw [q] at this;cases this
 have l:∀ {s D:SI},B5 u c cs ks ex exm (vars.map ul) s D->s.goals=[]->D.goals=[]:=by
  intro s D hR q;obtain ⟨_,_,_,a1,_⟩:=hR;have hl:=a1.len;rw [q] at hl;exact gF hl
 induction h with
 | fuel=>intro _ h; exact absurd rfl h
 | @stop n s out e M hP=>exact fun i _ U V=>a0 M hP i U V (fun _=>rfl) fun s1 h=>by cases h
 | @step n s s1 out e r M hP _ ih=>
  intro i B U V;refine a0 M hP i U V (fun h=>by cases h) fun s2 h=>?_;cases h;exact ih (So H.okp H.p3 hP i _ rfl) B U V
 | @more n s out q hm=>
  intro i _ _ _;refine N q fun D hR a n' Y hn Z _ _=>?_;have f:=l hR q;cases Z with
  | fuel h=>exact absurd f h
  | stop h=>exact absurd f h
  | step h=>exact absurd f h
  | more _ _=>rfl
  | large _ h=>exact absurd hm h
  | last _ h=>exact absurd hm h
  | next _ h=>exact absurd hm h
 | large=>intro _ _ h; exact absurd rfl h
 | @last n s out vs q hm hv hb=>
  intro i _ _ _;refine N q fun D hR a n' Y hn Z y3 y8=>?_;have f:=l hR q;have O:lj p s.chs none:=⟨_,_,hb,i.ok.chs,i.K⟩
  obtain ⟨lv,J,hS,_⟩:=id hR;cases Z with
  | fuel h=>exact absurd f h
  | stop h=>exact absurd f h
  | step h=>exact absurd f h
  | more _ h=>exact absurd h hm
  | large _ _ g=>exact absurd (pK i a hR q hv g).2 (by simp)
  | last _ _ g G=>
   have:=(pK i a hR q hv g).2;cases this;rfl
  | next _ _ g G a5=>
   exfalso;rcases pF H hS O ⟨_,_,G,a.ok.chs,a.K⟩ with ⟨_,h⟩|⟨_,_,h,_⟩|⟨_,h,_⟩
   ·cases h
   ·cases h
   ·cases h
 | @next n s s1 out vs r q hm hv hb hr ih=>
  intro i B U V;have O:lj p s.chs (some s1):=⟨_,_,hb,i.ok.chs,i.K⟩
  have ih:=ih (Kg H.okp H.p3 O _ rfl) B U V;refine N q fun D hR a n' Y hn Z y3 y8=>?_;have f:=l hR q;obtain ⟨lv,J,hS,_⟩:=id hR;cases Z with
  | fuel h=>exact absurd f h
  | stop h=>exact absurd f h
  | step h=>exact absurd f h
  | more _ h=>exact absurd h hm
  | large _ _ g=>exact absurd (pK i a hR q hv g).2 (by simp)
  | last _ _ g G=>
   have he:=(pK i a hR q hv g).2;cases he;have t:lj u D.chs none:=⟨_,_,G,a.ok.chs,a.K⟩
   exact D9 (n:=n) (n':=n') (pF H hS O t) (fun h=>by cases h) (fun s2 h=>by cases h; exact ih) (Kg H.oku H.u3 t) hn (.inl ⟨rfl,rfl⟩) y3 y8
  | next _ _ g G a5=>
   have he:=(pK i a hR q hv g).2;cases he;have t:lj u D.chs (some _):=⟨_,_,G,a.ok.chs,a.K⟩
   exact D9 (n:=n) (n':=n') (pF H hS O t) (fun h=>by cases h) (fun s2 h=>by cases h; exact ih) (Kg H.oku H.u3 t) hn (.inr ⟨_,rfl,a5⟩) y3 y8
end
end
section
open Go Go.RowKit
theorem F8 (f:C->Bool):∀ (p:List C) (k:Nat),(dT f p k).Pairwise (·<·)
 | [],k=>.nil
 | c::cs,k=>by
  rw [dT];split
  ·refine F7.2 ⟨fun n hn=>?_,F8 f cs (k+1)⟩;obtain ⟨_,h,_⟩:=mM f cs (k+1) n hn;omega
  ·exact F8 f cs (k+1)
theorem AW (f:C->Bool):∀ (a b:List C) (k:Nat),dT f (a++b) k=dT f a k++dT f b (k+a.length)
 | [],b,k=>rfl
 | c::a,b,k=>by
  rw [dS,dT,dT,AW f a b (k+1),bq,show k+1+a.length=k+(a.length+1) by omega];split <;> rfl
theorem wN {ex:Int->List C} (f:C->Bool):∀ (a:List C) (k:Nat),(∀ m (h:m<a.length),ex ((k+m:Nat):Int)=[a[m]])->(dT f a k).flatMap ex=a.filter f
 | [],k,_=>rfl
 | c::a,k,h=>by
  have g:=h 0 (by simp);rw [tg] at g;have i:=wN f a (k+1) fun m l=>by
   have:=h (m+1) (by simpa using l);rw [show k+(m+1)=k+1+m by omega] at this;exact this
  rw [dT,rN];split
  ·rw [rQ,i,g]; rfl
  ·exact i
theorem Tp {ks:List Int} (h:ks.Pairwise (·<·)) {m:Nat} (a:m<ks.length):ot ks ks[m]=(m:Int):=by
 obtain ⟨i,e1,e2,f⟩:=Bk (bG a);rw [e2];have e:=(fa.1 e1).2;have g:=List.pairwise_iff_getElem.1 h;by_cases l:i<m
 ·have:=g i m f a l;omega
 ·by_cases o:m<i
  ·have:=g m i a f o;omega
  ·omega
def OZ (ks:List Int) (os:List (Option (Option C))) (k:Int):List C:=clK (os.getD (ot ks k).toNat none)
def exU (p:List C) (i:Int) (ks:List Int) (os:List (Option (Option C))) (k:Int):List C:=if k=i then ks.flatMap (OZ ks os) else (p[k.toNat]?).toList
theorem IF:∀ os:List (Option (Option C)),jh os=os.flatMap clK
 | []=>rfl
 | o::os=>by rw [jh,IF os,rQ]
theorem Sf {ks:List Int} {os:List (Option (Option C))} (h:ks.Pairwise (·<·)) (hl:os.length=ks.length):ks.flatMap (OZ ks os)=jh os:=by
 have e:ks.map (fun k=>os.getD (ot ks k).toNat none)=os:=by
  refine List.ext_getElem (by simp [hl]) fun m a f=>?_;rw [EP,Tp h (by simpa using a),cu,x0,ew f];rfl
 rw [IF,<- e,List.flatMap_map,e];rfl
theorem X3 {g:T} (h:eN g=true):g.kind=3:=of_decide_eq_true (JF h)
theorem TX {p:List C} (h:dc p=true):∀ cl∈p,∀ t∈cl.body,t.kind=3:=fun _ hc _ a=>X3 (uN h hc a)
theorem XH {c d:C} (hc:bt c=true) (hd:bt d=true) {b:T} {cs:List T} (J:c.body=b::cs) {r:C} (hR:RO c d (some (some r))) (D:bt r=true) (V:∀ t∈d.body,ncT t) (Y:∀ t∈cs,ncT t) :
  (∀ t∈r.body,ncT t)/\r.body.length=d.body.length+cs.length/\bN r.head=bN c.head/\∀ I v x,jJ r I v x↔jJ d (jJ c I) v x:=by
 have f:=(Rl hc hd J hR).2 r rfl;obtain ⟨τ,Z,e1,e2,U⟩:=(f (sbT idS r.head) (sbL idS r.body)).1 ⟨idS,rfl,rfl⟩;have hk:∀ {x:C},bt x=true->x.head.kind=3:=fun {x} g=>by
  rw [bt] at g;simp only [bM] at g;have:=g.2.2.2;rw [dI,bM] at this;exact of_decide_eq_true this.1
 have B:∀ t∈r.body,t.kind=3:=fun t a=>by
  rw [bt] at D;simp only [bM,dD] at D;exact X3 (D.2.1 t a)
 have h:∀ (σ:Int->T) (ts:List T) (y:T),y∈sbL σ ts->∃ t∈ts,y=sbT σ t:=by
  intro σ ts y M;rw [show sbL σ ts=ts.map (sbT σ) from by
   clear M;induction ts with
   | nil=>rfl
   | cons t ts O=>rw [sbL,O]; rfl] at M
  obtain ⟨t,a,rfl⟩:=dp.1 M;exact ⟨t,a,rfl⟩
 have l:∀ (σ:Int->T) (ts:List T) (t:T),t∈ts->sbT σ t∈sbL σ ts:=by
  intro σ ts t a;induction ts with
  | nil=>cases a
  | cons x ts O=>
   rw [sbL];rcases bY.1 a with rfl|a
   ·exact aM ..
   ·exact aR _ (O a)
 refine ⟨fun t a=>?_,?_,?_,fun I v x=>?_⟩
 ·have m:=l idS r.body t a;rw [U] at m;have key:∃ σ x,ncT x/\sbT idS t=sbT σ x:=by
   rcases bF.1 m with m|m
   ·obtain ⟨x,g,e⟩:=h _ _ _ m;exact ⟨Z,x,V x g,e⟩
   ·obtain ⟨x,g,e⟩:=h _ _ _ m;exact ⟨τ,x,Y x g,e⟩
  obtain ⟨σ,x,g,e⟩:=key;have i:=IB idS (t:=t) (by rw [B t a]; decide);have q:=IB σ (t:=x) (by rw [g.1]; decide);rw [e] at i;refine ⟨B t a,?_⟩;rw [<- j8 i,j8 q];exact g.2
 ·rw [<- lZ idS r.body,U,bA,lZ,lZ]
 ·have i:=IB idS (t:=r.head) (by rw [hk D]; decide);have q:=IB τ (t:=c.head) (by rw [hk hc]; decide);rw [<- e1] at i;rw [<- je i,je q]
 ·constructor
  ·rintro ⟨w0,w,κ,N,rfl,rfl⟩;obtain ⟨ρ,G,o,q2,q3⟩:=(f _ _).1 ⟨κ,rfl,rfl⟩;refine ⟨sbT ρ b,sbL ρ cs++w,G,⟨_,w,ρ,N,o,?_⟩,q2,?_⟩
   ·rw [J,sbL,dS]
   ·rw [q3,dx]
  ·rintro ⟨w0,w,G,⟨z0,z,ρ,N,rfl,o⟩,rfl,rfl⟩;rw [J,sbL,dS,dK] at o;obtain ⟨κ,i,q⟩:=(f (sbT ρ c.head) (sbL G d.body++sbL ρ cs)).2 ⟨ρ,G,rfl,o.1,rfl⟩;exact ⟨_,z,κ,N,i,by rw [q,o.2,dx]⟩
theorem VH {p:List C} {i:Int} (h:lC p i=true) {os:List (Option (Option C))} (hU:UO p i.toNat (mR p i) os) (b6:os.all jp=true) (hu:dc (qh p i os)=true) :
  ∃ c b cs,H5 p (qh p i os) i c b cs (mR p i) (exU p i (mR p i) os) (OZ (mR p i) os):=by
 obtain ⟨hp,j,hj,rfl,hf⟩:=mt h;obtain ⟨b,cs,V,b7⟩:=im hf;have G:=yJ hj V;have a8:(mR p (j:Int)).Pairwise (·<·):=by rw [G]; exact F8 _ _ _
 have hC:Lk p j p[j]=true:=by
  rw [lC,bM,bM,cu,ew hj] at h;exact h.2.2
 unfold Lk at hC;rw [V] at hC;simp only [bM,bD,dD] at hC;obtain ⟨_,a4,a5,a6⟩:=hC;have l:∀ {cl:C},cl∈p->lL cl=false->∀ t∈cl.body,ncT t:=fun {cl} hc a2 t ht=>⟨TX hp cl hc t ht,by
  rw [lL,List.any_eq_false] at a2;simpa using a2 t ht⟩
 have b8:lL p[j]=false:=by simpa using a5
 have Y:=bG hj;have B:=l Y b8;rw [V] at B;have a9:=B b (aM ..);have J:∀ t∈cs,ncT t:=fun t ht=>B t (aR _ ht);have hv:=(pw hp).2;have b9:∀ k∈mR p (j:Int),∃ (hk:k.toNat<p.length),RO p[j] p[k.toNat] (os.getD (ot (mR p (j:Int)) k).toNat none)/\os.getD (ot (mR p (j:Int)) k).toNat none∈os:=by
  intro k hk;obtain ⟨m,e1,e2,f⟩:=Bk hk;have e3:=(fa.1 e1).2;have Z:m<os.length:=by rw [hU.1]; exact f
  obtain ⟨_,a,hR⟩:=hU.2 m f Z;rw [e2,cu,x0,ew Z];simp only [cu] at hR;simp only [e3] at a hR;exact ⟨a,hR,bG Z⟩
 have a0:∀ k∈mR p (j:Int),∀ (hk:k.toNat<p.length),lL p[k.toNat]=false:=by
  intro k hk a;have:=a6 k (by rw [<- G]; exact hk);simp only [o6,IQ] at this;have g:=this.1;rw [lI,ew a] at g;exact g
 have M:∀ k∈mR p (j:Int),∃ d,p[k.toNat]?=some d/\(∀ t∈d.body,ncT t)/\((OZ (mR p (j:Int)) os k=[]/\∀ I v x,¬ jJ d (jJ p[j] I) v x) ∨
   ∃ r,OZ (mR p (j:Int)) os k=[r]/\(∀ t∈r.body,ncT t)/\r.body.length=d.body.length+cs.length/\bN r.head=bN p[j].head/\∀ I v x,jJ r I v x↔jJ d (jJ p[j] I) v x):=by
  intro k hk;obtain ⟨a,hR,a7⟩:=b9 k hk;have a1:=bG a;have b0:=l a1 (a0 k hk a);refine ⟨p[k.toNat],ew a,b0,?_⟩;have N:=dD.1 b6 _ a7;unfold OZ;generalize os.getD (ot (mR p (j:Int)) k).toNat none=o at hR N
  match o,hR,N with
  | none,hR,_=>
   refine .inl ⟨rfl,fun I v x ⟨w0,w,ρ',⟨z0,z,ρ,_,_,q1⟩,q2,_⟩=>?_⟩;rw [V,sbL,dS,dK] at q1;exact (Rl (hv _ Y).1 (hv _ a1).1 V hR).1 rfl ⟨ρ,ρ',q2.trans q1.1⟩
  | some none,_,h=>cases h
  | some (some r),hR,h=>
   obtain ⟨k1,k2,k3,k4⟩:=XH (hv _ Y).1 (hv _ a1).1 V hR h b0 J;exact .inr ⟨r,rfl,k1,k2,k3,k4⟩
 have b1:exU p (j:Int) (mR p (j:Int)) os (j:Int)=jh os:=by rw [exU,ai rfl,Sf a8 hU.1]
 have O:∀ m (f:m<p.length),m≠j->exU p (j:Int) (mR p (j:Int)) os (m:Int)=[p[m]]:=fun m f a3=>by
  rw [exU,ag (by omega),cu,ew f]; rfl
 have D:∀ r∈jh os,bN r.head=bN p[j].head:=by
  rw [<- Sf a8 hU.1];intro r hr;obtain ⟨k,hk,f⟩:=Eo.1 hr;obtain ⟨d,_,_,g|⟨r',g,_,_,h2,_⟩⟩:=M k hk
  ·rw [g.1] at f; cases f
  ·rw [g] at f;rw [bK.1 f]; exact h2
 have b2:∀ (q:List C) (t:T),pk q (eY q t)=q.filter fun c=>gQ (bN c.head) (bN t):=fun q t=>by
  have g:=congrArg (List.filterMap id) (pH q t);unfold cls at g;rw [RU,RU] at g;unfold pk;simpa [Function.comp_def] using g
 have b4:bU b=false:=(uV b7 rfl).2;refine ⟨p[j],b,cs,?_⟩;exact {
  pj:=by rw [cu,ew hj]
  j0:=by omega
  body:=V
  ncs:=J
  b3:=a9.1
  bc:=a9.2
  bb:=b4
  kf:=fun t ht=>by rw [G]; unfold eY jF; rw [je ht]
  ne:=by rw [G]; exact List.ne_nil_of_length_pos a4
  exo:=fun m cl h0 a3 he=>by
   rw [exU,ag a3,he]; rfl
  exj:=by rw [exU,ai rfl]
  exk:=fun k hk=>by
   obtain ⟨d,g,h2,h3|⟨r,h4,h5,h6,_,h8⟩⟩:=M k hk
   ·exact ⟨d,g,h2,.inl h3⟩
   ·exact ⟨d,g,h2,.inr ⟨r,h4,h5,h6,h8⟩⟩
  forU:=fun t _=>by
   rw [b2,qh,cu,Ra,Ra];have c0:p=p.take j++([p[j]]++p.drop (j+1)):=by
    rw [List.singleton_append,<- dY hj,GA]
   have U:(p.take j).length=j:=by rw [cM]; omega
   have e:(eY p t)=dT (fun c=>gQ (bN c.head) (bN t)) (p.take j) 0++(dT (fun c=>gQ (bN c.head) (bN t)) [p[j]] j++dT (fun c=>gQ (bN c.head) (bN t)) (p.drop (j+1)) (j+1)):=by
    unfold eY
    conv=>lhs; rw [c0]
    rw [AW,AW,U,cP];rfl
   rw [e,Q4,Q4,wN _ (p.take j) 0 (fun m f=>by
    rw [U] at f;rw [cP,O m (by omega) (by omega),C3]),wN _ (p.drop (j+1)) (j+1) (fun m f=>by
    rw [mi] at f;rw [O (j+1+m) (by omega) (by omega),RW])]
   rw [dx]
   congr 2
   rw [dT,dT];cases b5:gQ (bN p[j].head) (bN t) with
   | true=>
    rw [ai rfl,rQ,T2,bV,b1];exact List.filter_eq_self.2 fun r hr=>by rw [D r hr]; exact b5
   | false=>
    rw [ag (by decide),T2];exact Oj.2 fun r hr=>by rw [D r hr,b5]; decide
  okp:=(gT hp).1
  oku:=(gT hu).1
  p3:=TX hp
  u3:=TX hu }
theorem SolR.unf {p u:List C} {i:Int} (V:UB p i u true) {q:List T} (Y:∀ t∈q,t.kind=3) {most fuel:Nat} {r D:List (List T) × Int} (h:SolR p q most fuel r) (G:SolR u q most fuel D) (Z:r.2≠2) (h3:r.2≠3) (h8:r.2≠8) (y3:D.2≠3) (y8:D.2≠8):D=r:=by
 rcases V with ⟨_,_,m⟩|⟨o,os,hU,⟨_,_,m⟩|⟨O,⟨B,rfl,_⟩|⟨_,_,m⟩⟩⟩
 ·cases m
 ·cases m
 ·have hp:=(mt o).1;obtain ⟨c,b,cs,H⟩:=VH o hU O B;rcases h with ⟨a,h⟩|⟨a,rfl⟩
  ·rcases G with ⟨f,G⟩|⟨f,_⟩
   ·rw [bM] at a f;have U:∀ x:List C,W3 x (fx q):=fun x=>⟨mx a.2 _,⟨fun g M=>by
     obtain ⟨t,J,rfl⟩:=dp.1 M;exact Y t J,fun c hc=>by cases hc⟩,fun c hc=>by cases hc⟩
    have l:bL (fx q).st.length ((cU q []).map ul):=gw fun t J=>by
     obtain ⟨n,hn,rfl⟩:=dp.1 J;have:=(wM a.2).1 n hn;have hl:(fx q).st.length=26:=by show (List.replicate 26 (none:Option T)).length=26; simp
     rw [hl,ul,okU,bL];exact ⟨by decide,fun _=>⟨this.1,by omega,rfl,rfl⟩,trivial,by decide +kernel⟩
    have hR:B5 (qh p i os) c cs (mR p i) (exU p i (mR p i) os) (OZ (mR p i) os) ((cU q []).map ul) (fx q) (fx q):=
     ⟨_,_,.nil,.lev rfl fun g M g' N=>by
      obtain ⟨t,J,rfl⟩:=dp.1 M;obtain ⟨t',a0,rfl⟩:=dp.1 N;exact bK.2 rfl,Rep.self l _,Rep.self l _⟩
    exact (W8 H h (U p) Z h3 h8).1 _ hR (U _) _ _ (aS _) G y3 y8
   ·rw [bM] at a;rw [B,a.2] at f;cases f
  ·rcases G with ⟨f,_⟩|⟨_,rfl⟩
   ·rw [bM] at f;rw [hp,f.2] at a;cases a
   ·rfl
 ·cases m
end
section
open Go Go.RowKit
attribute [local irreducible] Run CondV aq aK
set_option maxHeartbeats 2000000 in
theorem uw {p r:List C} {S:ae} {v:Value} {i:Int} {b:Bool} (hr:UB p i r b) (h:RdSl S 5 (RdC S) v p) (hw:p.length+wP p<=1048576):Tri Tryz.prog Ac [v,.int .i64 i] [] S (QR r b):=by
 intro w a;refine nw.2 ?_;dsimp only[nw,bm];refine Run.callPure Em Fi a (BI i h hw) fun w' a=>?_;refine cw ?_;rcases hr with ⟨hu,rfl,rfl⟩|⟨hu,os,b3,a1⟩
 ·rw [hu];refine aD (fun _=>?_) (fun hb=>by cases hb);refine ei a dd fun v0 w' a=>?_;have a:Inv w [] ([]++(aA v0 ac 5 []::aV ([]:List bh).flatten)) S w':=a;obtain ⟨L,hT,a⟩:=Inv.rowTree (R:=TrC) a (Grown.nil 5 TrC);exact ⟨_,_,_,rfl,a,Ext.refl _ _ _,_,L,rfl,rfl,hT⟩
 rw [hu];refine aD (fun hb=>by cases hb) (fun _=>?_);obtain ⟨g0,j,hj,rfl,d3⟩:=mt hu;obtain ⟨g,gs,b8,k7⟩:=im d3;obtain ⟨i3,b0⟩:=pw g0;obtain ⟨d6,i4,d7⟩:=OY hu b3;rw [yJ hj b8] at b3;rw [cu] at b3;have e7:∀ os,qh p j os=(p.take j++jh os)++p.drop (j+1):=fun os=>by rw [qh,cu]
 rw [e7] at a1 d7;have e9:p[j].body≠[]:=by rw [b8]; simp
 have g9:0<p[j].body.length:=by rw [b8]; simp
 have h3:p[j].body[0]=g:=by simp [b8]
 obtain ⟨vb,vo,c6,rfl⟩:=h.some (by omega);obtain ⟨c1,E1,k8,d9,g1,g2,e0⟩:=h.clauseAt hj;have f0:=e0.length;refine ei a dd fun v0 w' a=>?_;refine IV bf h (by omega) fun v3 e3=>?_;refine i5 (css:=[]) a 0 dd (by omega) rfl e3 (fun _ _=>RdC.length) (fun _ _=>RdC.one) (by simp; omega) (by omega) fun v4 w' c0 f7 a=>?_;have a:Inv w [] [aA v4 ac 5 c0] S w':=a;refine Lf a h bf aU al hj fun f8 a7=>?_;obtain ⟨hd,g3,rfl,h1,h2⟩:=a7;obtain ⟨kv,rfl,_⟩:=RdT.iff.1 h1;refine ⟨g3,rfl,?_⟩;refine co (i:=0) a h2 ah ad g9 (fun _ _=>RdT.length) fun f8 a7=>?_;rw [h3] at a7;refine Run.call0 Hc FS a (Dj h a7 (by omega)) fun v1 I' S' w'=>?_;rintro ⟨rfl,eS⟩ _ a;rw [eS] at a;have a:Inv w [] ([aA v4 ac 5 c0]++[dk v1 (jF p g)]) S w':=a;obtain ⟨S1,c3,g4,a⟩:=a.lendExtR;have c4:=g4.ints;have c7:∀ n∈jF p g,∃ m:Nat,n=m/\m<p.length:=fun n hn=>EO hn;have h4:(jF p g).length<=p.length:=ja _ p 0;generalize jF p g=ks at c4 c7 h4 b3;obtain ⟨k9,g5⟩:=b3;refine ⟨fun i t w'=>∃ (m:Nat) (css:List (List Value)) (Sm:ae),m<=ks.length/\i=.int .i64 m/\(os.take m).all jp=true/\Rows 5 (RdC Sm) css (p.take j++jh (os.take m))/\Ext w.heap.size [] S1 Sm/\Inv w [] [aA t ac 5 css] Sm w',
  fun i _ _=>ks.length - (intOf i).toNat,⟨0,c0,S1,bk _,rfl,by rw [sS]; rfl,by rw [sS,jh,bV]; exact f7.monoR fun _ _ h=>h.mono c3.1,Ext.refl _ _ _,a⟩,?_⟩
 intro t8 _ _ t6 _ _ _ _ _ _ _ _ _ _ i7 i8 t9 i9 j0 j1 j2 j3 j4 j5 j6 j7 j8 j9 k0 k1 k2 k3 k4 _ _ _ _ w';rintro ⟨m,css,Sm,hm,rfl,c8,b4,a9,a⟩;refine aJ c4 cA ?_;refine bS ?_;have h5:=b4.hc;have i6:=KE (os:=os.take m) fun o ho=>d6 o (lB ho);have l3:(os.take m).length<=20:=by simp only [cM]; omega
 have h6:css.length<=40:=by
  rw [h5,bA,cM];omega
 refine aL (fun f9=>?_) (fun f9=>?_)
 ·have b2:m<ks.length:=by omega
  have c5:m<os.length:=by omega
  obtain ⟨n,hn,c9⟩:=c7 _ (bG b2);obtain ⟨_,l0,b1⟩:=g5 m b2 c5;have h7:p[ks[m].toNat]=p[n]:=by congr 1; omega
  rw [h7] at b1;have a3:=IM c5;have f1:=b0 _ (bG hj);have f2:=b0 _ (bG c9);have a8:jp os[m]=false->r=[]/\b=false:=fun hk=>by
   have:os.all jp=false:=by
    cases ha:os.all jp with
    | false=>rfl
    | true=>
     rw [dD] at ha;rw [ha _ (bG c5)] at hk;cases hk
   rcases a1 with ⟨_,h1,h2⟩|⟨h1,_⟩
   ·exact ⟨h1,h2⟩
   ·rw [this] at h1; cases h1
  have a4:jp os[m]=true->(os.take (m+1)).all jp=true:=fun hk=>JW c5 c8 hk;generalize os[m]=o at b1 a3 a8 a4;have h8:=a;obtain ⟨kb,ko,e1,rfl⟩:=c4.some (by omega);have a:=h8;obtain ⟨kc,kE,l1,g6,e2⟩:=c4.intAt b2;rw [hn] at e2;obtain ⟨c2,E2,l2,e4,g7,g8,b7⟩:=h.clauseAt c9;have f3:=b7.length;have a5:=c3.trans a9;refine ⟨fun t w'=>∃ a6 SN,Rows 5 (RdC SN) a6 (p.take j++jh (os.take (m+1)))/\(os.take (m+1)).all jp=true/\Ext w.heap.size [] S1 SN/\Inv w [] [aA t ac 5 a6] SN w',?_,?_⟩
  ·skip
   refine ⟨fun D Io Mh x9 r8 Cu Cw vj zl yZ sx F0 Aa Ea Ah FB tU xC oJ qd w_=>Fx D 0 [qd=.slice (some ⟨vb,vo,none⟩) p.length c6,oJ=.int .i64 j,xC=.pointer (some ⟨vb,vo+j * 5,none⟩),tU=.agg (List.toArray d9),FB=.slice (some ⟨vb,vo,none⟩) p.length c6,Ah=.slice (some ⟨kb,ko,none⟩) ks.length e1,Ea=.int .i64 m,Aa=.pointer (some ⟨kb,ko+m * 1,none⟩),F0=.int .i64 n,sx=.pointer (some ⟨vb,vo+n * 5,none⟩),yZ=.agg (List.toArray e4),True,True,True,Cu=.bool (iB o),r8=.bool (jp o),True,True,Mh=.bool (iB o),Io=.bool (jp o)]/\∃ SN Z V,Ext w.heap.size [] Sm SN/\(D 11=true->IsTO SN o zl)/\(D 12=true->IsTO SN o vj)/\(D 13=true->IsCv SN (clO o) Cw)/\(D 16=true->x9=.pointer (some ⟨Z,0,none⟩))/\(D 17=true->IsCv SN (clO o) (.agg V))/\(D 17=true->D 16=true)/\V.size=5/\Inv w [] (aA t6 ac 5 css::cond (D 16) [.blk Z (.cells V ac)] []) SN w_,⟨Fx.nil _ _,⟨Sm,0,#[.int .i64 0,.int .i64 0,.string ⟨#[]⟩,.slice none 0 0,.slice none 0 0],Ext.refl _ _ _,aI,aI,aI,aI,aI,aI,rfl,a.draw⟩⟩,⟨?_,?_,?_,?_,?_,?_,?_,?_,?_,?_,?_,?_,?_,?_,?_,?_,?_,?_,?_,?_,trivial⟩,?_⟩;all_goals (intro D bH; intros; rename_i Io Mh x9 r8 Cu Cw vj zl yZ sx F0 Aa Ea Ah FB tU xC oJ qd w_ d1; have U:=d1.1; obtain ⟨⟨cI,cJ,cH,cD,cL,cN,cq,dg,dG,dL,cT,dn,dN,fE,gy,gP,iH,kw,lQ,ip,_⟩,⟨SN,Z,V,Y,O,f,B,G,l,J,N,a⟩⟩:=d1)
   ·exact ⟨U.set 0 rfl,⟨SN,Z,V,Y,O,f,B,G,l,J,N,a⟩⟩
   ·exact ⟨U.set 1 rfl,⟨SN,Z,V,Y,O,f,B,G,l,J,N,a⟩⟩
   ·obtain rfl:=cI ‹_›;obtain rfl:=cJ ‹_›;refine az (i:=j) bf hj ?_;exact ⟨U.set 2 rfl,⟨SN,Z,V,Y,O,f,B,G,l,J,N,a⟩⟩
   ·obtain rfl:=cH ‹_›;refine ci (cs:=d9) aH f0 (fun j v hj=>by rw [a.cellS ((a5.trans Y).1 _ _ g1)]; exact aF g2 j v hj) ?_;exact ⟨U.set 3 rfl,⟨SN,Z,V,Y,O,f,B,G,l,J,N,a⟩⟩
   ·exact ⟨U.set 4 rfl,⟨SN,Z,V,Y,O,f,B,G,l,J,N,a⟩⟩
   ·exact ⟨U.set 5 rfl,⟨SN,Z,V,Y,O,f,B,G,l,J,N,a⟩⟩
   ·exact ⟨U.set 6 rfl,⟨SN,Z,V,Y,O,f,B,G,l,J,N,a⟩⟩
   ·obtain rfl:=cN ‹_›;obtain rfl:=cq ‹_›;refine az (i:=m) cA b2 ?_;exact ⟨U.set 7 rfl,⟨SN,Z,V,Y,O,f,B,G,l,J,N,a⟩⟩
   ·obtain rfl:=dg ‹_›;refine cQ aG (by rw [a.cellS ((a9.trans Y).1 _ _ g6)]; exact e2) ?_;exact ⟨U.set 8 rfl,⟨SN,Z,V,Y,O,f,B,G,l,J,N,a⟩⟩
   ·obtain rfl:=cL ‹_›;obtain rfl:=dG ‹_›;refine az (i:=n) bf c9 ?_;exact ⟨U.set 9 rfl,⟨SN,Z,V,Y,O,f,B,G,l,J,N,a⟩⟩
   ·obtain rfl:=dL ‹_›;refine ci (cs:=e4) aH f3 (fun j v hj=>by rw [a.cellS ((a5.trans Y).1 _ _ g7)]; exact aF g8 j v hj) ?_;exact ⟨U.set 10 rfl,⟨SN,Z,V,Y,O,f,B,G,l,J,N,a⟩⟩
   ·obtain rfl:=cD ‹_›;obtain rfl:=cT ‹_›;refine Run.call0E zf ze a (wO f1.1 f2.1 (by omega) (by omega) e9 b1 (e0.mono (a5.trans Y).1) (b7.mono (a5.trans Y).1)) fun v' I' SN w_=>?_;rintro ⟨rfl,es,rfl,f5⟩ b5 a;have Y:=Y.trans b5;have f:=fun h=>(f h).mono b5.1;have B:=fun h=>(B h).mono b5.1;have l:=fun h=>(l h).mono b5.1;have O:=fun (_:ao D 11 11=true)=>(⟨es,rfl,f5⟩:IsTO SN o (.tuple #[.agg es.toArray,.bool (iB o),.bool (jp o)]))
    rw [bV] at a;exact ⟨U.set 11 (by first|assumption|trivial),⟨SN,Z,V,Y,O,f,B,G,l,J,N,a⟩⟩
   ·have YF:=dn ‹_›;have f:=fun (_:ao D 12 12=true)=>O ‹D 11=true›;exact ⟨U.set 12 (by first|assumption|trivial),⟨SN,Z,V,Y,O,f,B,G,l,J,N,a⟩⟩
   ·have Qd:=dN ‹_›;obtain ⟨us,q5,a0⟩:=f ‹D 12=true›;subst q5;refine av rfl ?_;have B:=fun (_:ao D 13 13=true)=>(⟨us,rfl,a0⟩:IsCv SN (clO o) (.agg us.toArray))
    exact ⟨U.set 13 (by first|assumption|trivial),⟨SN,Z,V,Y,O,f,B,G,l,J,N,a⟩⟩
   ·have Qd:=dN ‹_›;obtain ⟨us,q5,a0⟩:=f ‹D 12=true›;subst q5;refine av rfl ?_;exact ⟨U.set 14 rfl,⟨SN,Z,V,Y,O,f,B,G,l,J,N,a⟩⟩
   ·have Qd:=dN ‹_›;obtain ⟨us,q5,a0⟩:=f ‹D 12=true›;subst q5;refine av rfl ?_;exact ⟨U.set 15 rfl,⟨SN,Z,V,Y,O,f,B,G,l,J,N,a⟩⟩
   ·rw [bH] at a;refine aQ a cX fun Z w_ a=>?_;have h9:D 17=false:=bx.2 fun h=>by rw [J h] at bH; cases bH
    have G:=fun (_:ao D 16 16=true)=>(rfl:Value.pointer (some ⟨Z,0,none⟩)=.pointer (some ⟨Z,0,none⟩))
    obtain ⟨V,a2⟩:∃ q:Array Value,q=#[.int .i64 0,.int .i64 0,.string ⟨#[]⟩,.slice none 0 0,.slice none 0 0]:=⟨_,rfl⟩
    have N:V.size=5:=by rw [a2]; rfl
    have l:=fun (h:ao D 16 17=true)=>(False.elim (by rw [show ao D 16 17=D 17 from rfl,h9] at h; cases h):IsCv SN (clO o) (.agg V))
    have J:=fun (_:ao D 16 17=true)=>(rfl:ao D 16 16=true)
    have a:Inv w [] (aA t6 ac 5 css::cond true [.blk Z (.cells V ac)] []) SN w_:=by rw [a2]; exact a
    exact ⟨U.set 16 (by first|assumption|trivial),⟨SN,Z,V,Y,O,f,B,G,l,J,N,a⟩⟩
   ·have Xh:=iH ‹_›;have Yy:=fE ‹_›;have q8:=G ‹D 16=true›;obtain ⟨us,q7,a0⟩:=B ‹D 13=true›;subst q8;subst q7;rw [‹D 16=true›] at a;refine au a 1 rfl aH (by simpa using a0.length) N (by simpa using a0.one) fun w_ a=>?_;have J:=fun (_:ao D 17 17=true)=>‹D 16=true›;have l:=fun (_:ao D 17 17=true)=>(⟨us,rfl,a0⟩:IsCv SN (clO o) (.agg us.toArray))
    have N:us.toArray.size=5:=by simpa using a0.length
    obtain ⟨V,a2⟩:∃ q:Array Value,q=us.toArray:=⟨_,rfl⟩
    have a:Inv w [] (aA t6 ac 5 css::cond (ao D 17 16) [.blk Z (.cells V ac)] []) SN w_:=by rw [show ao D 17 16=D 16 from rfl,‹D 16=true›,a2]; exact a
    rw [<- a2] at l N;exact ⟨U.set 17 trivial,⟨SN,Z,V,Y,O,f,B,G,l,J,N,a⟩⟩
   ·obtain rfl:=gy ‹_›;exact ⟨U.set 18 rfl,⟨SN,Z,V,Y,O,f,B,G,l,J,N,a⟩⟩
   ·obtain rfl:=gP ‹_›;exact ⟨U.set 19 rfl,⟨SN,Z,V,Y,O,f,B,G,l,J,N,a⟩⟩
   obtain ⟨rfl,rfl,rfl,rfl,rfl,rfl,rfl,rfl,rfl,rfl,rfl,YF,Qd,Yy,rfl,rfl,Xh,_,rfl,rfl,_⟩:=U.all;have ZL:D 16=true:=by assumption
   have i0:D 17=true:=by assumption
   clear U cI cJ cH cD cL cN cq dg dG dL cT dn dN fE gy gP iH kw lQ ip;have q8:=G ZL;subst q8;obtain ⟨us,qe,a0⟩:=l i0;obtain rfl:V=us.toArray:=by injection qe
   rw [ZL] at a;clear O f B G l J;have a:Inv w [] [aA t6 ac 5 css,.blk Z (.cells us.toArray ac)] SN w_:=a;have b6:=b4.monoR fun _ _ h=>RdC.mono Y.1 h;refine cw ?_;cases hk:jp o
   ·refine aD (fun _=>?_) (fun hb=>by cases hb);obtain ⟨rfl,rfl⟩:=a8 hk;refine ei a dd fun v0 w' a=>?_;have a:Inv w [] ([]++(aA v0 ac 5 []::aV ([]:List bh).flatten)) SN w':=a.pick [false,false,true];obtain ⟨L,hT,a⟩:=Inv.rowTree (R:=TrC) a (Grown.nil 5 TrC);exact ⟨_,_,_,rfl,a,c3.trans (a9.trans Y),_,L,rfl,rfl,hT⟩
   refine aD (fun hb=>by cases hb) (fun _=>?_);cases hf:iB o
   ·refine aD (fun hb=>by cases hb) (fun _=>?_);refine ⟨css,SN,?_,a4 hk,a9.trans Y,a.pick [true,false]⟩;rw [a3,OI hf,bV];exact b6
   ·refine aD (fun _=>?_) (fun hb=>by cases hb);refine aC a 1 aH rfl (by simpa using a0.length) ?_;refine de a 0 us dd (by omega) (by omega) rfl a0.length a0.one (by omega) (by omega) fun v' w' a=>?_;refine ⟨css++[us],SN,?_,a4 hk,a9.trans Y,a.pick [true,false]⟩;rw [a3,Mm hf hk,<- dx];exact b6.snoc a0 a0.length
  intro k5 _ _ _ _ _ _ _ _ _ _ _ _ _ _ _ _ _ _ _ _ _ _ _ _ _ _ _ _ _ w';rintro ⟨a6,SN,b6,d2,f6,a⟩;refine bC (by omega) ?_;exact ⟨⟨m+1,a6,SN,b2,rfl,d2,b6,f6,a⟩,by simp [intOf]; omega⟩
 ·have i1:m=os.length:=by omega
  subst i1;rw [d4] at c8 b4;refine bC (by omega) ?_;rw [show ((j:Int)+1)=((j+1:Nat):Int) by omega];refine fk bf h (by omega) fun v8 e8=>?_;have a5:=c3.trans a9;refine i5 a 0 dd (by omega) rfl (e8.monoC a5.1) (fun _ _=>RdC.length) (fun _ _=>RdC.one) (by rw [mi]; omega) (by omega) fun v9 w' c2 b7 a=>?_;have i2:=b4.append b7;have a:Inv w [] ([]++[aA v9 ac 5 (css++c2)]) Sm w':=a;obtain ⟨S2,e5,e6,a⟩:=a.lendExt;have d0:RdSl S2 5 (RdC S2) v9 ((p.take j++jh os)++p.drop (j+1)):=(RowRd.rows i2 e6).mono (Sle.refl _) fun _ _ h=>h.mono e5.1;generalize hq:(p.take j++jh os)++p.drop (j+1)=q at d0 d7 a1;rw [c8] at a1;have f4:=a5.trans e5;refine Run.callPure oe nD a (lb d0 (by omega)) fun w' a=>?_;refine cw ?_;rcases a1 with ⟨h0,_⟩|⟨_,⟨hv,rfl,rfl⟩|⟨hv,rfl,rfl⟩⟩
  ·cases h0
  ·rw [hv];refine aD (fun hb=>by cases hb) (fun _=>?_);refine Run.call0 Ld Kw a (HV d0 (by omega)) fun k6 I' S' w'=>?_;rintro ⟨rfl,M,rfl,hT⟩ _ a;exact ⟨_,_,_,rfl,a,f4,_,M,rfl,rfl,hT⟩
  ·rw [hv];refine aD (fun _=>?_) (fun hb=>by cases hb);refine ei a dd fun v0 w' a=>?_;have a:Inv w [] ([]++(aA v0 ac 5 []::aV ([]:List bh).flatten)) S2 w':=a;obtain ⟨L,hT,a⟩:=Inv.rowTree (R:=TrC) a (Grown.nil 5 TrC);exact ⟨_,_,_,rfl,a,f4,_,L,rfl,rfl,hT⟩
end
end Go.Proofs.YtgllldjiaglkcaaGreatDoor

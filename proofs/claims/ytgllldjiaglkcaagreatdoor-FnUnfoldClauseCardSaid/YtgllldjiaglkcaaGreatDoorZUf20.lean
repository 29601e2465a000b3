/- impl's search in plain Lean: going back, steps and runs exist, and stay good and small. -/
import Derived.Test.YtgllldjiaglkcaaGreatDoorZUf19
namespace Go.Proofs.YtgllldjiaglkcaaGreatDoor
section
open Go Go.RowKit
theorem yV (ns:List NI) (a:Nat) (i:Int):(LQ ns a i).length=ns.length:=by simp [LQ]
theorem cutsG.body {cl:C} {b:Nat} {k u:Int} {rest:List GI} (h:cutsG rest) (f:∀ g∈rest,g.cut<=k):cutsG (fy cl b k u rest):=by
 unfold fy cutsG;rw [PZ];refine ⟨?_,h,fun a i b l=>?_⟩
 ·rw [List.pairwise_map];exact Wx.2 fun _=>Jq _
 ·obtain ⟨t,_,rfl⟩:=dp.1 i;exact f b l
theorem okGI.mono {N M:Nat} (h:N<=M) {g:GI} (a:okGI N g):okGI M g:=⟨⟨⟨gN h _ a.1.1.1,a.1.1.2⟩,a.1.2⟩,a.2⟩
theorem Q7 {p:List C} (U:∀ cl∈p,ie cl) {m:Nat} (hm:m=p.length) {g:T} {l:List Int} {b:aj} {r:HI} {n:Nat} (h:TryI p g l b (some r) n) (B:Good b.length b) (V:tabM b) (Y:(okU b.length g/\wT g<=1048576)/\okM g)
  {cs:List CI} {ns:List NI} {at_:Int} {rest:List GI} (hl:∀ i∈l,0<=i/\i<p.length) (D:0<=at_/\at_<ns.length) (G:∀ g∈rest,okGI b.length g/\g.cut<=cs.length) (o:cutsG rest) (J:okCs m b.length ns.length cs) :
  uB m (gC cs ns g at_ rest b r)/\(gC cs ns g at_ rest b r).st.length+26 * io (gC cs ns g at_ rest b r).chs<=b.length+26 * l.length+26 * io cs/\(gC cs ns g at_ rest b r).nodes.length=ns.length/\b.length<=(gC cs ns g at_ rest b r).st.length:=by
 subst hm;obtain ⟨Z,_,h3⟩:=h.ok U B V Y;obtain ⟨a1,a2,a3,a4,a5,a6,a7,a8,a9⟩:=h3 r rfl;have O:=U _ a1;have f:r.st.length=n:=by omega
 have q:okCs p.length n ns.length (cs++(if r.l=[] then [] else [⟨g,at_,rest,r.l,b,ns.length⟩])):=by
  have h0:=J.mono (n':=n) (k':=ns.length) Z (aS _);split
  ·rwa [bV]
  ·exact h0.snoc ⟨⟨B,V,Y,G,o,fun i hi=>hl i (a9 i hi),D⟩,Z,rfl⟩
 have a0:cs.length<=(cs++(if r.l=[] then [] else [(⟨g,at_,rest,r.l,b,ns.length⟩:CI)])).length:=by rw [bA]; omega
 refine ⟨⟨?_,a7,?_,o.body fun g B=>(G g B).2,?_⟩,?_,yV _ _ _,by show b.length<=r.st.length; omega⟩
 ·show Good r.st.length r.st;rw [f]; exact a6
 ·intro x hx;have a:x∈fy r.cl r.by_ cs.length at_ rest:=hx;show okGI r.st.length x/\x.cut<=((cs++(if r.l=[] then [] else [(⟨g,at_,rest,r.l,b,ns.length⟩:CI)])).length:Int);unfold fy at a;rcases bF.1 a with a|a
  ·obtain ⟨t,M,rfl⟩:=dp.1 a;obtain ⟨⟨N,q2⟩,q3⟩:=O.body t M;refine ⟨⟨⟨⟨?_,?_⟩,pr _ _ q3⟩,by simp only; omega⟩,by simp only; omega⟩
   ·have:=mh r.by_ t N;rw [sG] at this;rw [a4]; exact this
   ·simp only [pO]; exact q2
  ·obtain ⟨N,q2⟩:=G x a;exact ⟨N.mono (by omega),by omega⟩
 ·show okCs p.length r.st.length (LQ ns at_.toNat r.i).length (cs++(if r.l=[] then [] else [⟨g,at_,rest,r.l,b,ns.length⟩]));rw [f,yV]; exact q
 ·show r.st.length+26 * io (cs++(if r.l=[] then [] else [(⟨g,at_,rest,r.l,b,ns.length⟩:CI)]))<=_;rw [uz];split
  ·simp only [io]; omega
  ·simp only [io]; omega
theorem okCI.grow {m k n:Nat} {c:CI} (h:okCI m k c) (hn:c.binds.length<=n):Good (bI c.binds n).length (bI c.binds n)/\tabM (bI c.binds n)/\((okU (bI c.binds n).length c.goal/\wT c.goal<=1048576)/\okM c.goal)/\
  ∀ g∈c.rest,okGI (bI c.binds n).length g/\g.cut<=k:=by
 rw [ce hn];exact ⟨h.good.to hn,h.tab.to n,⟨⟨gN hn _ h.goal.1.1,h.goal.1.2⟩,h.goal.2⟩,fun g a=>⟨(h.rest g a).1.mono hn,(h.rest g a).2⟩⟩
theorem BackI.ex {p:List C} (f:∀ cl∈p,ie cl):∀ (L:Nat) (cs:List CI) (n:Nat) (ns:List NI),cs.length=L->okCs p.length n ns.length cs->∃ o,BackI p cs n ns o
 | 0,cs,n,ns,hL,_=>by
  obtain rfl:=gF hL;exact ⟨none,.nil⟩
 | L+1,cs,n,ns,hL,hcs=>by
  obtain ⟨a,c,rfl⟩:∃ a c,cs=a++[c]:=⟨cs.dropLast,cs.getLast (by intro e; rw [e] at hL; simp at hL),(Sr _).symm⟩
  rw [bA,bq,bW] at hL;obtain ⟨B,h,i,J⟩:=hcs.last;obtain ⟨l,D,q,M⟩:=h.grow i;obtain ⟨o,m,g⟩:=TryI.ex f c.left (bI c.binds n) l q.1 h.left;cases o with
  | some r=>exact ⟨_,.hit g⟩
  | none=>
   obtain ⟨t,_,_⟩:=g.ok f l D q;rw [ce i] at t;obtain ⟨o,G⟩:=BackI.ex f L a m (ns.take c.taken) (by omega) (B.mono t (by rw [cM]; omega));exact ⟨o,.miss g G⟩
theorem BackI.ok {p:List C} (U:∀ cl∈p,ie cl) {cs:List CI} {n:Nat} {ns:List NI} {o:Option SI} (h:BackI p cs n ns o):okCs p.length n ns.length cs->∀ s,o=some s->uB p.length s/\s.st.length+26 * io s.chs<=n+26 * io cs/\s.nodes.length<=ns.length/\n<=s.st.length:=by
 induction h with
 | nil=>intro _ s g; cases g
 | @hit cs c n m ns r O=>
  intro f s g;simp only [aY] at g;subst g;obtain ⟨q,i,l,h4⟩:=f.last;obtain ⟨t,B,D,V⟩:=i.grow l;have a:(ns.take c.taken).length=c.taken:=by rw [cM]; omega
  have hl:=ce l;obtain ⟨G,Y,J,M⟩:=Q7 U rfl O t B D (cs:=cs) (ns:=ns.take c.taken) (at_:=c.node) (rest:=c.rest) i.left (by rw [a]; exact i.node) V i.cuts (by rw [a,hl]; exact q);rw [hl] at Y M;refine ⟨G,?_,by rw [J,cM]; omega,M⟩;rw [uz,io,io];omega
 | @miss cs c n m ns o O _ ih=>
  intro f s g;obtain ⟨q,i,l,h4⟩:=f.last;obtain ⟨t,B,D,V⟩:=i.grow l;obtain ⟨Z,N,_⟩:=O.ok U t B D;have hl:=ce l;have N:=N rfl;rw [hl] at Z N;have a:(ns.take c.taken).length=c.taken:=by rw [cM]; omega
  obtain ⟨G,Y,J,M⟩:=ih (by rw [a]; exact q.mono Z (aS _)) s g;refine ⟨G,?_,by rw [cM] at J; omega,by omega⟩;rw [uz,io,io];omega
theorem oh {N:Nat} {st:aj} (g:Good N st) {t u:T} (a:(okU N t/\wT t<=1048576)/\okM t) (h:tabM st) (f:Res st (.one t u)):okU N u/\okM u:=⟨fj g f a.1.1,f.okM h a.2⟩
theorem fJ {m n:Nat} {ns:List NI} {cs:List CI} (h:okCs m n ns.length cs) (x:NI):okCs m n (ns++[x]).length cs:=h.mono (aS _) (by simp)
theorem StepI.ex {p:List C} (M:∀ cl∈p,ie cl) (nc:Bool) {s:SI} (l:uB p.length s) (hg:s.goals≠[]):∃ o e,StepI p nc s o e:=by
 obtain ⟨g,gs,a⟩:∃ g gs,s.goals=g::gs:=by
  cases h:s.goals with
  | nil=>exact absurd h hg
  | cons g gs=>exact ⟨g,gs,rfl⟩
 have D:=l.goals;rw [a] at D;have G:=D g (aM ..);obtain ⟨t,i⟩:=Kj l.good g.t G.1.1.1.1;obtain ⟨q,N⟩:=oh l.good G.1.1 l.tab i;cases f:bv t with
 | false=>exact ⟨_,_,.large a i f⟩
 | true=>
  have hw:=fF f q;cases hc:ez t with
  | true=>
   cases nc with
   | true=>exact ⟨_,_,.noCut a i f hc rfl⟩
   | false=>exact ⟨_,_,.cut a i f hc rfl⟩
  | false=>
   have J:=fJ l.chs ⟨t,g.up,-1⟩;cases B:bU t with
   | true=>
    obtain ⟨c,st,O⟩:=Blt.ex l.good B ⟨q,by omega⟩;by_cases Y:c=0
    ·subst Y; exact ⟨_,_,.solved a i f hc B O⟩
    by_cases Z:c=1
    ·subst Z;obtain ⟨o,U⟩:=BackI.ex M _ s.chs s.st.length (s.nodes++[(⟨t,g.up,-1⟩:NI)]) rfl J;exact ⟨_,_,.fail a i f hc B O U⟩
    ·exact ⟨_,_,.err a i f hc B O Y Z⟩
   | false=>
    by_cases hf:eY p t=[]
    ·exact ⟨_,_,.unknown a i f hc B hf⟩
    obtain ⟨o,m,V⟩:=TryI.ex M (eY p t) s.st l.good ⟨q,by omega⟩ (lT p t);cases o with
    | some r=>exact ⟨_,_,.took a i f hc B hf V⟩
    | none=>
     obtain ⟨k1,_,_⟩:=V.ok M l.good l.tab ⟨⟨q,by omega⟩,N⟩;obtain ⟨o,U⟩:=BackI.ex M _ s.chs m (s.nodes++[(⟨t,g.up,-1⟩:NI)]) rfl (J.mono k1 (aS _));exact ⟨_,_,.back a i f hc B hf V U⟩
theorem StepI.ok {p:List C} (Z:∀ cl∈p,ie cl) {nc:Bool} {s:SI} {o:Option SI} {e:Int} (h:StepI p nc s o e) (f:uB p.length s):∀ l,o=some l->uB p.length l/\l.st.length+26 * io l.chs<=s.st.length+26 * io s.chs+26 * p.length/\l.nodes.length<=s.nodes.length+1/\e=-1/\s.st.length<=l.st.length:=by
 have a0:=f.good;cases h with
 | large=>intro l h; cases h
 | noCut=>intro l h; cases h
 | err=>intro l h; cases h
 | unknown=>intro l h; cases h
 | @cut g gs t D O G hc a5=>
  intro l h;simp only [aY] at h;subst h;have a:=f.goals;have i:=f.cuts;rw [D] at a i;have B:=a g (aM ..);have a3:=B.1.2;have a4:=B.2;rw [cutsG,F7] at i;have a1:(s.chs.take g.cut.toNat).length=g.cut.toNat:=by rw [cM]; omega
  refine ⟨⟨f.good,f.tab,fun x U=>⟨(a x (aR _ U)).1,?_⟩,i.2,(fJ f.chs _).take _⟩,?_,by simp,rfl,aS _⟩
  ·have:=i.1 x U;show x.cut<=((s.chs.take g.cut.toNat).length:Int);rw [a1]; omega
  ·have:=JL s.chs g.cut.toNat;show s.st.length+26 * io (s.chs.take g.cut.toNat)<=_;omega
 | @solved g gs t st D O G hc hb hB=>
  intro l h;simp only [aY] at h;subst h;have a:=f.goals;have i:=f.cuts;rw [D] at a i;have B:=a g (aM ..);obtain ⟨q,M⟩:=oh f.good B.1.1 f.tab O;have hw:=fF G q;have Y:=hB.good f.good hb ⟨q,by omega⟩;have a2:=hB.okM f.tab M;have J:=Y.len;rw [cutsG,F7] at i;refine ⟨⟨by show Good st.length st; rw [J]; exact Y,a2,fun x U=>?_,i.2,?_⟩,?_,by simp,rfl,LT J.symm⟩
  ·show okGI st.length x/\_;rw [J];exact a x (aR _ U)
  ·show okCs p.length st.length (s.nodes++[(⟨t,g.up,-1⟩:NI)]).length s.chs;rw [J]; exact fJ f.chs _
  ·show st.length+26 * io s.chs<=_;omega
 | @fail g gs t st o D O G hc hb hB ho=>
  intro l h;subst h;obtain ⟨V,q2,N,q4⟩:=ho.ok Z (fJ f.chs _) l rfl;rw [bA] at N;exact ⟨V,by omega,by simpa using N,rfl,q4⟩
 | @took g gs t r m D O G hc hb hf hT=>
  intro l h;simp only [aY] at h;subst h;have a:=f.goals;have i:=f.cuts;rw [D] at a i;have B:=a g (aM ..);obtain ⟨q,M⟩:=oh f.good B.1.1 f.tab O;have hw:=fF G q;rw [cutsG,F7] at i;obtain ⟨V,q2,N,q4⟩:=Q7 Z rfl hT f.good f.tab ⟨⟨q,by omega⟩,M⟩ (cs:=s.chs) (ns:=s.nodes++[(⟨t,g.up,-1⟩:NI)]) (at_:=s.nodes.length) (rest:=gs) (lT p t) (by simp; omega) (fun x U=>a x (aR _ U)) i.2 (fJ f.chs _);have hl:(eY p t).length<=p.length:=ja _ _ _;exact ⟨V,by omega,by rw [N]; simp,rfl,q4⟩
 | @back g gs t m o D O G hc hb hf hT ho=>
  intro l h;subst h;have a:=f.goals;rw [D] at a;have B:=a g (aM ..);obtain ⟨q,M⟩:=oh f.good B.1.1 f.tab O;have hw:=fF G q;obtain ⟨k1,k2,_⟩:=hT.ok Z f.good f.tab ⟨⟨q,by omega⟩,M⟩;have k2:=k2 rfl;have hl:(eY p t).length<=p.length:=ja _ _ _;obtain ⟨V,q2,N,q4⟩:=ho.ok Z ((fJ f.chs _).mono k1 (aS _)) l rfl;rw [bA] at N;exact ⟨V,by omega,by simpa using N,rfl,by omega⟩
theorem WX {N:Nat} {st:aj} (h:Good N st) {vars:List Int} (f:∀ n∈vars,0<=n/\n<N):∃ o,ValsI st vars o:=by
 obtain ⟨us,a⟩:=yX h (vars.map ul) (gw fun t g=>by
  obtain ⟨n,hn,rfl⟩:=dp.1 g;obtain ⟨i,l⟩:=f n hn;show okU N (.mk 1 n emptyB []);rw [okU,bL];exact ⟨by decide,fun _=>⟨i,by omega,rfl,rfl⟩,trivial,Da⟩)
 exact ⟨_,us,a,rfl⟩
theorem RunI.ex {p:List C} (h:∀ cl∈p,ie cl) {vars:List Int} (l:∀ n∈vars,0<=n/\n<26) (most:Nat):∀ (M n:Nat) (s:SI) (out:List (List T)),n+(most - out.length)<=M->out.length<=most->uB p.length s->26<=s.st.length->∃ r,RunI p vars most n s out r
 | 0,n,s,out,hM,ho,hs,h26=>by
  obtain rfl:n=0:=by omega
  by_cases a:s.goals=[]
  ·exact ⟨_,.more a (by omega)⟩
  ·exact ⟨_,.fuel a⟩
 | M+1,n,s,out,hM,ho,hs,h26=>by
  by_cases a:s.goals=[]
  ·by_cases m:out.length=most
   ·exact ⟨_,.more a m⟩
   obtain ⟨v,f⟩:=WX hs.good (vars:=vars) fun n hn=>⟨(l n hn).1,by have:=(l n hn).2; omega⟩
   cases v with
   | none=>exact ⟨_,.large a m f⟩
   | some vs=>
    obtain ⟨b,q⟩:=BackI.ex h _ s.chs s.st.length s.nodes rfl hs.chs;cases b with
    | none=>exact ⟨_,.last a m f q⟩
    | some i=>
     obtain ⟨t,_,_,D⟩:=q.ok h hs.chs i rfl;have hl:(out++[vs]).length=out.length+1:=by simp
     obtain ⟨r,B⟩:=RunI.ex h l most M n i (out++[vs]) (by omega) (by omega) t (by omega);exact ⟨r,.next a m f q B⟩
  ·cases n with
   | zero=>exact ⟨_,.fuel a⟩
   | succ n=>
    obtain ⟨o,e,g⟩:=StepI.ex h false hs a;cases o with
    | none=>exact ⟨_,.stop a g⟩
    | some i=>
     obtain ⟨t,_,_,_,D⟩:=g.ok h hs i rfl;obtain ⟨r,B⟩:=RunI.ex h l most M n i out (by omega) ho t (by omega);exact ⟨r,.step a g B⟩
def fx (q:List T):SI:=⟨List.replicate 26 none,q.map fun t=>⟨t,0,-1⟩,[],[]⟩
theorem SV (m:Nat) {q:List T} (h:∀ t∈q,(okU 26 t/\wT t<=1048576)/\okM t):uB m (fx q):=by
 have hl:(List.replicate 26 (none:Option T)).length=26:=by simp
 refine ⟨by show Good (List.replicate 26 (none:Option T)).length _; rw [hl]; exact Jp 26,tabM.none 26,fun g a=>?_,?_,okCs.nil _ _ _⟩
 ·obtain ⟨t,f,rfl⟩:=dp.1 a;show okGI (List.replicate 26 (none:Option T)).length _/\_;rw [hl];exact ⟨⟨h t f,Jq _⟩,Jq _⟩
 ·show List.Pairwise _ (q.map _);rw [List.pairwise_map];exact Wx.2 fun _=>Jq _
theorem N3 {cl:C} (h:bt cl=true):ie cl:=by
 obtain ⟨m,o,r⟩:=dU h;have l:=OB h;have i:=h;rw [bt] at i;simp only [bM,bD,dD] at i;obtain ⟨hl,f,g,_⟩:=i;have q:=uL g;exact ⟨⟨⟨m,by omega⟩,l.hd⟩,fun t a=>⟨⟨o t a,by have:=uL (nf (f t a)); omega⟩,l.bd t a⟩⟩
end
section
open Go Go.RowKit
theorem pz (st:aj):∀ ns:List Int,(eX st ns).length=st.length:=by
 intro ns;induction ns generalizing st with
 | nil=>rfl
 | cons n ns a=>
  have h:=a st;have e:eX st (n::ns)=eX (eX st ns) [n]:=tC st [n] ns;rw [e,show eX (eX st ns) [n]=(eX st ns).set n.toNat none from BC _ [] n,ly,h]
theorem SK (st:aj) (k:Nat):∀ ns:List Int,eX (st++List.replicate k none) ns=eX st ns++List.replicate k none:=by
 intro ns;apply vO;intro i;rw [pI];by_cases a:i<st.length
 ·rw [wo a,wo (by rw [pz]; exact a),pI]
 ·rw [gG (by omega),gG (by rw [pz]; omega),pz,MN];split
  ·split <;> rfl
  ·rfl
theorem N4 (st:aj) {n m:Nat} (h:st.length<=n) (a:n<=m):bI (bI st n) m=bI st m:=by
 unfold bI;rw [dx,Qz]
 congr 2
 simp;omega
theorem NG (st:aj) (n:Nat) (ns:List Int):eX (bI st n) ns=bI (eX st ns) n:=by
 unfold bI;rw [SK,pz]
def TrG (st st':aj) (tr tr':List Int):Prop:=st.length<=st'.length/\∃ ns,tr'=tr++ns/\eX st' ns=bI st st'.length/\∀ n∈ns,0<=n
theorem TrG.refl (st:aj) (tr:List Int):TrG st st tr tr:=⟨aS _,[],(bV _).symm,by rw [g7]; rfl,by simp⟩
theorem TrG.grow (st:aj) (tr:List Int) {n:Nat} (h:st.length<=n):TrG st (bI st n) tr tr:=⟨by rw [ce h]; exact h,[],(bV _).symm,by rw [ce h]; rfl,by simp⟩
theorem TrG.of {st a:aj} {tr f:List Int} (h:Tr st a tr f):TrG st a tr f:=by
 obtain ⟨ns,i,g,l,_⟩:=h;have hl:a.length=st.length:=by rw [<- g,pz]
 refine ⟨by omega,ns,i,by rw [g,hl,g7],fun n hn=>?_⟩;obtain ⟨j,rfl,_⟩:=l n hn;omega
theorem TrG.trans {a b c:aj} {x y z:List Int} (h:TrG a b x y) (f:TrG b c y z):TrG a c x z:=by
 obtain ⟨g,i,e1,l,m⟩:=h;obtain ⟨o,q,e2,r,t⟩:=f;refine ⟨by omega,i++q,by rw [e2,e1,dx],?_,fun n hn=>(bF.1 hn).elim (m n) (t n)⟩;rw [tC,r,NG,l,N4 _ g o]
theorem Tr.short {st a:aj} {tr f:List Int} (h:Tr st a tr f):f.length+unb a<=tr.length+unb st:=by
 obtain ⟨ns,rfl,_,_,g⟩:=h;rw [bA];omega
theorem qM:∀ (st:aj) (k:Nat),unb (st++List.replicate k none)=unb st+k
 | [],k=>by rw [fZ,Ev]; simp [unb]
 | none::st,k=>by simp only [dS,unb,qM st k]; omega
 | some t::st,k=>by simp only [dS,unb,qM st k]
inductive MkI:List CI->List Nat->aj->List Int->Prop
 | nil {st:aj} {tr:List Int}:MkI [] [] st tr
 | snoc {cs:List CI} {c:CI} {ms:List Nat} {st:aj} {tr0 tr:List Int}:MkI cs ms c.binds tr0->TrG c.binds st tr0 tr->MkI (cs++[c]) (ms++[tr0.length]) st tr
theorem MkI.len {cs:List CI} {a:List Nat} {st:aj} {tr:List Int} (h:MkI cs a st tr):a.length=cs.length:=by
 induction h with
 | nil=>rfl
 | snoc _ _ f=>rw [bA,bA,f]; rfl
theorem MkI.go {cs:List CI} {g:List Nat} {st a:aj} {tr f:List Int} (h:MkI cs g st tr) (i:TrG st a tr f):MkI cs g a f:=by
 cases h with
 | nil=>exact .nil
 | snoc l m=>exact .snoc l (m.trans i)
theorem MkI.push {cs:List CI} {c:CI} {a:List Nat} {tr:List Int} (h:MkI cs a c.binds tr):MkI (cs++[c]) (a++[tr.length]) c.binds tr:=.snoc h (TrG.refl _ _)
theorem MkI.pop {cs:List CI} {c:CI} {g:List Nat} {st:aj} {tr:List Int} (h:MkI (cs++[c]) g st tr):∃ (a:List Nat) (m:Nat),g=a++[m]/\m<=tr.length/\(∀ n∈tr.drop m,0<=n)/\eX st (tr.drop m)=bI c.binds st.length/\
  MkI cs a (bI c.binds st.length) (tr.take m)/\MkI cs a st tr:=by
 generalize hl:cs++[c]=l at h;cases h with
 | nil=>simp at hl
 | @snoc t D a _ f _ r B=>
  obtain ⟨rfl,hc⟩:=Om hl rfl;simp only [dK,gL] at hc;subst hc;obtain ⟨i,ns,rfl,o,q⟩:=B;refine ⟨a,f.length,rfl,by simp,by simpa using q,by simpa using o,?_,r.go ⟨i,ns,rfl,o,q⟩⟩;have:=r.go (TrG.grow c.binds f i);simpa using this
theorem MkI.take {cs:List CI} {f:List Nat} {st:aj} {tr:List Int}:∀ (k:Nat) (_:MkI cs f st tr),MkI (cs.take (cs.length - k)) (f.take (cs.length - k)) st tr
 | 0,h=>by
  have:=h.len;rw [Nat.sub_zero,d4,<- this,d4]; exact h
 | k+1,h=>by
  have hk:=MkI.take k h;by_cases r:cs.length - k=0
  ·rw [show cs.length - (k+1)=0 by omega,sS,sS]; exact .nil
  have hl:=h.len;obtain ⟨j,q⟩:∃ j,cs.length - k=j+1:=⟨cs.length - k - 1,by omega⟩
  have g:j<cs.length:=by omega
  rw [q,eV g] at hk;obtain ⟨a,m,e,_,_,_,_,l⟩:=hk.pop;have i:a.length=j:=by have:=l.len; rw [cM] at this; omega
  have e2:a=f.take j:=by
   have o:=congrArg (List.take j) e;rw [lD,lw (by omega),List.take_left' i] at o;exact o.symm
  rw [show cs.length - (k+1)=j by omega,<- e2];exact l
theorem MkI.cut {cs:List CI} {a:List Nat} {st:aj} {tr:List Int} (h:MkI cs a st tr) {k:Nat} (hk:k<=cs.length):MkI (cs.take k) (a.take k) st tr:=by
 have:=MkI.take (cs.length - k) h
 rwa [show cs.length - (cs.length - k)=k by omega] at this
end
section
open Go Go.RowKit
inductive GL (S:ae):Value->List GI->Prop
 | nil:GL S (.pointer none) []
 | cons {b:Nat} {a0 a1 a2 a3 nv:Value} {E:TypeId} {fz:Nat × Nat} {g:GI} {gs:List GI}:S b=some (.cells #[a0,a1,a2,a3,.int .i64 g.cut,.int .i64 g.up,nv] E fz)->RdT S [a0,a1,a2,a3] g.t->GL S nv gs->GL S (.pointer (some ⟨b,0,none⟩)) (g::gs)
theorem GL.mono {S S':ae} (a:Sle S S') {v:Value} {gs:List GI} (h:GL S v gs):GL S' v gs:=by
 induction h with
 | nil=>exact .nil
 | cons f g _ i=>exact .cons (a _ _ f) (g.mono a) i
theorem GL.ptr {S:ae} {v:Value} {gs:List GI} (h:GL S v gs):∃ p,v=.pointer p:=by
 cases h with
 | nil=>exact ⟨_,rfl⟩
 | cons=>exact ⟨_,rfl⟩
theorem RdT.four {S:ae} {cs:List Value} {t:T} (h:RdT S cs t):∃ a f g i,cs=[a,f,g,i]:=by
 obtain ⟨kv,rfl,_⟩:=RdT.iff.1 h;exact ⟨_,_,_,_,rfl⟩
section
variable {w:World} {K:Value->World->Prop}
attribute [local irreducible] Run
theorem TL {a b c d:Value} {i j:Int} {p:Option Addr} (hk:K (.agg #[a,b,c,d,.int .i64 i,.int .i64 j,.pointer p]) w):Run Tryz.prog (cR nT [(0,.agg #[a,b,c,d]),(1,.int .i64 i),(2,.int .i64 j),(3,.pointer p)]) w K:=by
 refine Run.of (v:=.agg #[a,b,c,d,.int .i64 i,.int .i64 j,.pointer p]) (w':=w) ?_ hk;unfold cR;rw [Sem.run_bind,run_build w nT _ #[a,b,c,d,.int .i64 i,.int .i64 j,.pointer p] (by kernel_rfl),Result.andThen_ok];rfl
theorem M7 {a b c d:Value} {i j:Int} (hk:K (.agg #[a,b,c,d,.int .i64 i,.int .i64 j]) w):Run Tryz.prog (cR lX [(0,.agg #[a,b,c,d]),(1,.int .i64 i),(2,.int .i64 j)]) w K:=by
 refine Run.of (v:=.agg #[a,b,c,d,.int .i64 i,.int .i64 j]) (w':=w) ?_ hk;unfold cR;rw [Sem.run_bind,run_build w lX _ #[a,b,c,d,.int .i64 i,.int .i64 j] (by kernel_rfl),Result.andThen_ok];rfl
theorem HO {a b c d:Value} {i j k:Int} {p:Option Addr} {q:Option Addr} {n m:Nat} (hk:K (.agg #[a,b,c,d,.int .i64 i,.pointer p,.slice q n m,.int .i64 j,.int .i64 k]) w) :
  Run Tryz.prog (cR ek [(0,.agg #[a,b,c,d]),(1,.int .i64 i),(2,.pointer p),(3,.slice q n m),(4,.int .i64 j),(5,.int .i64 k)]) w K:=by
 refine Run.of (v:=.agg #[a,b,c,d,.int .i64 i,.pointer p,.slice q n m,.int .i64 j,.int .i64 k]) (w':=w) ?_ hk;unfold cR;rw [Sem.run_bind,run_build w ek _ #[a,b,c,d,.int .i64 i,.pointer p,.slice q n m,.int .i64 j,.int .i64 k] (by kernel_rfl),Result.andThen_ok];rfl
end
section
attribute [local irreducible] Run CondV aq aK
theorem Jt {ts:List T} {S:ae} {v B:Value} {gs:List GI} {cut up:Int} (h:RdSl S 4 (RdT S) v ts) (D:GL S B gs):Tri Tryz.prog WT [v,.int .i64 cut,.int .i64 up,B] [] S fun q I' S'=>I'=[]/\GL S' q (ts.map (fun t=>⟨t,cut,up⟩)++gs):=by
 intro w a;have m:=h.le;simp only [maxLen] at m;refine Ou.2 ?_;dsimp only[Ou,lK];refine aJ h ah ?_;refine kT (by omega) ?_;refine ⟨fun i q w'=>∃ (j:Nat) (S1:ae),j<=ts.length/\i=.int .i64 ((j:Int) - 1)/\Ext w.heap.size [] S S1/\GL S1 q ((ts.drop j).map (fun t=>⟨t,cut,up⟩)++gs)/\Inv w [] [] S1 w',fun i _ _=>((intOf i)+1).toNat,
  ⟨ts.length,S,aS _,rfl,Ext.refl _ _ _,by rw [eC]; exact D,a⟩,?_⟩
 intro U _ _ V _ _ _ _ _ _ _ _ _ _ _ w';rintro ⟨j,S1,Y,rfl,o,f,a⟩;refine jM ?_;refine aL (fun G=>?_) (fun G=>?_)
 ·obtain ⟨k,rfl⟩:∃ k,j=k+1:=⟨j - 1,by omega⟩
  have hk:k<ts.length:=by omega
  rw [show (((k+1:Nat):Int) - 1)=(k:Int) by omega];refine co a (h.monoT o.1) ah ad hk (fun _ _=>RdT.length) fun cs l=>?_;obtain ⟨J,M,N,O,rfl⟩:=l.four;obtain ⟨p,rfl⟩:=f.ptr;refine TL ?_;refine bJ a fun b w' a=>?_;have a:Inv w [] ([]++[.blk b (.cells #[J,M,N,O,.int .i64 cut,.int .i64 up,.pointer p] nT)]) S1 w':=a;obtain ⟨S2,a,g,r⟩:=Inv.pub1 a;refine kT (by omega) ?_;refine ⟨⟨k,S2,by omega,rfl,o.trans g,?_,a⟩,by simp only [intOf]; omega⟩;rw [dY hk,lr,dS];exact GL.cons r (l.mono g.1) (f.mono g.1)
 ·have:j=0:=by omega
  subst this;exact ⟨_,_,S1,rfl,a,o,rfl,by simpa using f⟩
theorem Ts {S:ae} {b:Nat} {by_:Int} {E:TypeId} {i:Nat × Nat} (l:S b=some (.cells #[.int .i64 by_] E i)) (o:0<=by_/\by_<=10000000):Fun p8 [.pointer (some ⟨b,0,none⟩)] S fun n=>.mk 1 (n+by_) ⟨#[]⟩ []:=by
 intro S' f n m h;have g:=f _ _ l;refine ⟨[.int .i64 1,.int .i64 (n+by_),.string ⟨#[]⟩,.slice none 0 0],RdT.nil (by simp [inI]) (by simp only [inI]; omega) (show 0<=maxLen from bk _) (by simp [maxLen]),fun w a=>?_⟩;refine nJ.2 ?_;dsimp only[nJ,bm];refine aQ a bj fun q w' a=>?_;refine cQ aG (by rw [a.cellS g]; rfl) ?_;refine bC (by omega) ?_;refine Run.callPure kI kM a (jm _ S') fun w' a=>?_;refine au a 0 rfl ad rfl rfl (by simp [Value.oneCell']) fun w' a=>?_;refine bB a 0 ad rfl rfl ?_;exact done a rfl
end
mutual
theorem tf {N:Nat} (b:Nat):∀ t:T,okU N t->Ds (fun n=>.mk 1 (n+(b:Int)) ⟨#[]⟩ []) t=bp b t
 | .mk k n s ks,h=>by
  rw [okU] at h;rw [Ds,bp];by_cases hk:k=1
  ·have a:=h.2.1 hk;rw [ai hk,ai hk,a.2.2.2,dM,a.2.2.1,hk];rfl
  ·rw [ag hk,ag hk,yu b ks h.2.2.1]
theorem yu {N:Nat} (b:Nat):∀ ts:List T,bL N ts->ti (fun n=>.mk 1 (n+(b:Int)) ⟨#[]⟩ []) ts=dM b ts
 | [],_=>rfl
 | t::ts,h=>by
  rw [bL] at h;rw [ti,dM,tf b t h.1,yu b ts h.2]
end
end
section
open Go Go.RowKit
theorem BT {k f:Nat} {x:Value}:∀ (css:List (List Value)) (j:Nat) (_:∀ cs∈css,cs.length=k) (h:j<css.length) (_:f<k),css.flatten.set (j * k+f) x=(css.set j (css[j].set f x)).flatten
 | [],j,_,h,_=>by simp at h
 | c::css,0,hk,_,hf=>by
  have:=hk c (aM ..);rw [fh,AZ,cP,Pi _ _ (by omega)];rfl
 | c::css,j+1,hk,h,hf=>by
  have hc:=hk c (aM ..);have g:=BT (x:=x) css j (fun cs a=>hk cs (aR _ a)) (by simpa using h) hf;have e:(j+1) * k+f=c.length+(j * k+f):=by rw [iX,hc]; omega
  rw [fh,e,List.set_append_right _ _ (by omega),mO,g];rfl
theorem Ke (c:Array Value) (p:Nat) (x:Value) (h:p<c.size):(cB c p [x]).toList=c.toList.set p x:=by
 unfold cB;rw [FG,ai (by simpa using h)];simp
theorem Rows.set {α:Type} {k:Nat} {R:List Value->α->Prop} {css:List (List Value)} {ys:List α} (h:Rows k R css ys) {cs:List Value} {y:α} (j:Nat) (hR:R cs y) (hl:cs.length=k):Rows k R (css.set j cs) (ys.set j y):=by
 refine ⟨by rw [ly,ly,h.hc],fun c hc=>?_,fun i a f=>?_⟩
 ·rcases E6 hc with hc|rfl
  ·exact h.hk c hc
  ·exact hl
 ·rw [List.getElem_set,List.getElem_set];split
  ·exact hR
  ·exact h.hR i (by simpa using a) (by simpa using f)
theorem Rows.take {α:Type} {k:Nat} {R:List Value->α->Prop} {css:List (List Value)} {ys:List α} (h:Rows k R css ys) (n:Nat):Rows k R (css.take n) (ys.take n):=by
 have:=h.hc;refine ⟨by rw [cM,cM,h.hc],fun c hc=>h.hk c (lB hc),fun i a f=>?_⟩;rw [cM] at a;simp only [C3];exact h.hR i (by omega) (by omega)
theorem yN {k:Nat}:∀ (css:List (List Value)) (n:Nat) (_:∀ cs∈css,cs.length=k),css.flatten.take (n * k)=(css.take n).flatten
 | [],n,_=>by simp
 | c::css,0,_=>by simp
 | c::css,n+1,hk=>by
  have hc:=hk c (aM ..);have f:=yN css n fun cs a=>hk cs (aR _ a);rw [fh,iX,sG,List.take_append,Lj (by omega),hc,mO,f];rfl
def XM (v:Value) (h:Nat):Value:=match v with
 | .slice a _ cap=>.slice a h cap
 | v=>v
section
variable {P:Program} {w w0:World} {X:List Nat} {L:List Item} {S:ae} {K:Value->World->Prop}
attribute [local irreducible] Run CondV aq aK
theorem Inv.swapItem (h:Inv w0 X L S w) {i:Nat} {a b:Item} (g:L[i]?=some a) (hf:b.foot=a.foot) (l:b.holds w):Inv w0 X (L.set i b) S w:=by
 have hl:=(fa.1 g).1;have f:bP (L.set i b)=bP L:=by
  have e:L.map Item.foot=(L.set i b).map Item.foot:=by
   rw [List.map_set,hf];apply vO;intro j;rw [Dk];split
   ·rename_i e
    subst e;rw [ai (by simpa using hl),Vw,g];rfl
   ·rfl
  unfold bP;rw [List.flatMap_def,List.flatMap_def]
  congr 1
  rw [List.map_set];apply vO;intro j;rw [Dk];split
  ·rename_i e
   subst e;rw [ai (by simpa using hl),Vw,g];simp [hf]
  ·rfl
 refine ⟨h.size,h.os,h.tape,h.output,h.old,fun it hit=>?_,by rw [f]; exact h.nd,by rw [f]; exact h.new,by rw [f]; exact h.pub⟩;rcases E6 hit with hit|rfl
 ·exact h.its it hit
 ·exact l
theorem Inv.rowSlice' (h:Inv w0 X L S w) {i k n:Nat} {e:TypeId} {v:Value} {xs:List Value} (f:L[i]?=some (.row v e k n xs)):∃ a cap,v=.slice a n cap/\n<=cap:=by
 have l:w.ownsRow 0 e k v n xs:=h.its (.row v e k n xs) (cz f);rcases l.2 with ⟨rfl,hn⟩|⟨g,cap,m,rfl,_,_,hn,_⟩
 ·exact ⟨_,_,by rw [hn],by omega⟩
 ·exact ⟨_,_,rfl,hn⟩
theorem Inv.cutRow (h:Inv w0 X L S w) {i k:Nat} {e:TypeId} {v:Value} {css:List (List Value)} (f:L[i]?=some (aA v e k css)) {n:Nat} (hn:n<=css.length) (hk:∀ cs∈css,cs.length=k):Inv w0 X (L.set i (aA (XM v n) e k (css.take n))) S w:=by
 have m:w.ownsRow 0 e k v css.length css.flatten:=h.its _ (cz f);refine h.swapItem f ?_ ?_
 ·obtain ⟨a,cap,rfl,_⟩:=h.rowSlice' f;cases a <;> rfl
 ·show w.ownsRow 0 e k (XM v n) (css.take n).length (css.take n).flatten;have hl:(css.take n).length=n:=by rw [cM]; omega
  refine ⟨n9 fun cs hc=>hk cs (lB hc),?_⟩;rcases m.2 with ⟨rfl,D⟩|⟨g,cap,l,rfl,o,q,G,r,t,B⟩
  ·left;have:n=0:=by omega
   subst this;exact ⟨rfl,by simp⟩
  ·right;refine ⟨g,cap,l,by rw [hl]; rfl,o,q,by omega,r,t,?_⟩;rw [hl,<- yN css n hk,<- B,lD,lw (gM k hn)]
theorem PS (h:Inv w0 X L S w) (i:Nat) {T ty e:TypeId} {k n m:Nat} {v:Value} {xs:List Value} (l:L[i]?=some (.row v e k m xs)) (r:dl P T=some (e,k)) (hn:n<=m) (hk:K (XM v n) w) :
  Run P (sOp (.slice T (.const v) none (some (.const (.int .i64 n))) none) ty) w K:=by
 obtain ⟨a,cap,rfl,hc⟩:=h.rowSlice' l;refine FP r (by omega) ?_;cases a with
 | none=>split <;> exact hk
 | some a=>
  split
  ·exact hk
  ·obtain ⟨b,o,p⟩:=a;have t:w.ownsRow 0 e k (.slice (some ⟨b,o,p⟩) m cap) m xs:=h.its _ (cz l);rcases t.2 with ⟨f,_⟩|⟨g,q,B,f,_⟩
   ·cases f
   ·cases f;simpa [om,XM] using hk
theorem Inv.rowPtr (h:Inv w0 X L S w) {i k:Nat} {e:TypeId} {v:Value} {css:List (List Value)} (q:L[i]?=some (aA v e k css)) {j:Nat} (o:j<css.length) (hk:∀ cs∈css,cs.length=k) :
  ∃ g cap,v=.slice (some ⟨g,0,none⟩) css.length cap/\(∀ f u,css[j][f]?=some u->w.cell? ⟨g,j * k+f,none⟩=some u):=by
 have r:w.ownsRow 0 e k v css.length css.flatten:=h.its _ (cz q);rcases r.2 with ⟨_,D⟩|⟨g,cap,m,rfl,G,t,J,M,N,B⟩
 ·omega
 ·refine ⟨g,cap,rfl,fun f u hf=>?_⟩;rw [cell_of_row w g (j * k+f) m e (0,0) t];have a:=i8 k css j hk o;have l:f<k:=by have:=(fa.1 hf).1; have:=hk _ (bG o); omega
  rw [<- a,wh,ai l,z6,<- B,wh] at hf;split at hf
  ·simpa using hf
  ·cases hf
theorem EK (h:Inv w0 X L S w) {T ty e:TypeId} (i:Nat) {g cap k j f a:Nat} {css:List (List Value)} {x:Value} (M:L[i]?=some (aA (.slice (some ⟨g,0,none⟩) css.length cap) e k css)) (V:j7 P T=true) (N:j<css.length) (hf:f<k) (Y:a=j * k+f)
  (q:∀ cs∈css,cs.length=k) (r:x.cells=#[x]) (Z:x.oneCell'=true)
  (hk:∀ w',Inv w0 X (L.set i (aA (.slice (some ⟨g,0,none⟩) css.length cap) e k (css.set j (css[j].set f x)))) S w'->K undef w') :
  Run P (sOp (.store T (.const (.pointer (some ⟨g,a,none⟩))) (.const x)) ty) w K:=by
 subst Y;have m:=(fa.1 M).1;have t:=(fa.1 M).2;have hp:List.Perm L ((L.take i++L.drop (i+1))++[aA (.slice (some ⟨g,0,none⟩) css.length cap) e k css]):=by
  conv=>lhs; rw [<- GA i L,dY m,t]
  rw [dx];exact zL _ (cj (l₁:=[_]))
 have l:=h.perm hp.symm;obtain ⟨_,ho⟩:=Inv.openRow l;rcases ho with ⟨B,_⟩|⟨g',U,D,B,o,G,J,ht,l⟩
 ·cases B
 cases B;have a0:j * k+f<css.length * k:=by
  have:(j+1) * k<=css.length * k:=gM k N;rw [iX] at this;omega
 have O:css.length * k<=cap * k:=gM k o;refine dy l (L.take i++L.drop (i+1)).length (n:=1) (by rw [r]; rfl) (by rw [V]; rfl) (by rw [gG (aS _),ey]; rfl) (by omega) (by rw [r]; simpa using Z) fun w' l=>hk w' ?_;rw [List.set_append_right _ _ (aS _),ey] at l;have l:Inv w0 X ((L.take i++L.drop (i+1))++[.blk g (.cells (cB D (j * k+f) x.cells.toList) e)]) S w':=l;rw [show x.cells.toList=[x] by rw [r]] at l;have l:=Inv.closeRow (n:=css.length) (cap:=cap) (k:=k) l o G (by rw [kK _ _ _ (by simp; omega)]; exact J);rw [Ke _ _ _ (by omega),List.take_set,ht,BT css j q N hf] at l;refine l.perm ?_;rw [FG,ai m,dx];refine zL _ ?_;rw [show Item.row (.slice (some ⟨g,0,none⟩) css.length cap) e k css.length (css.set j (css[j].set f x)).flatten=aA (.slice (some ⟨g,0,none⟩) css.length cap) e k (css.set j (css[j].set f x)) by simp [aA]];exact (cj (l₁:=[_]))
end
end
end Go.Proofs.YtgllldjiaglkcaaGreatDoor

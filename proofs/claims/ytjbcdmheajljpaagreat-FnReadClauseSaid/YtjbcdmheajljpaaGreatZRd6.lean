/- spec: walks, occurrence, unification. -/
import Derived.Test.YtjbcdmheajljpaaGreatZRdA
import Derived.Test.YtjbcdmheajljpaaGreatZRd5
namespace Go.Proofs.YtjbcdmheajljpaaGreat
attribute [local irreducible] Run CondV aI bg
section
open Go Go.RowKit
def KnU (S:ai) (c:Array Value) (st:bb):Prop:=st.length * 4<=c.size/\∀ i (h:i<st.length),(st[i]=none->bJ c (i * 4) 4=QP)/\(∀ t,st[i]=some t->RdT S (bJ c (i * 4) 4) t)
abbrev kvU (kb N kp:Nat):Value:=kt kb 0 N kp
theorem KnU.set {S:ai} {c:Array Value} {st:bb} (h:KnU S c st) {n:Nat} (hn:n<st.length) {cs:nA} {u:T} (g:RdT S cs u):KnU S (cu c (n * 4) cs) (st.set n (some u)):=by
 have a:=g.length;have m:=h.1;have p:st.length * 4<=(cu c (n * 4) cs).size:=by rw [gw _ _ _ (by omega)];exact m
 refine ⟨by rw [jj];exact p,fun i j=>?_⟩;rw [jj] at j;by_cases e:n=i
 ·subst e;rw [LF];refine ⟨fun h=>(by cases h),fun t l=>?_⟩;simp only [bj] at l;subst l;have:=gE (c:=c) (o:=n * 4) (vs:=cs) (by omega);rw [a] at this;rw [this];exact g
 ·rw [Rj e,iF (by omega) (by omega)];exact h.2 i j
theorem KnU.mono {S S':ai} {c:Array Value} {st:bb} (h:KnU S c st) (g:Sle S S'):KnU S' c st:=⟨h.1,fun i a=>⟨(h.2 i a).1,fun t j=>((h.2 i a).2 t j).mono g⟩⟩
def Br (b:Nat) (r:Nat->Nat) (st:bb) (w:World):Nat:=
 match w.heap[b]? with
 | some (Obj.cells c _ _)=>(match c[0]?,c[1]? with
  | some (Value.int _ k),some (Value.int _ n)=>if (look st (.mk k n emptyB [])).isSome=true then r n.toNat+1 else 0
  | _,_=>0)
 | _=>0
theorem xe {w0 w:World} {X:List Nat} {L:List Item} {S S0:ai} {cs:nA} {t:T} {E:TypeId} {b i:Nat} (a:Inv w0 X L S w) (g:L[i]?=some (ei b cs.toArray E)) (h:RdT S0 cs t) (r:Nat->Nat) (st:bb) :
  Br b r st w=if (look st t).isSome=true then r t.n.toNat+1 else 0:=by
 obtain ⟨kv,rfl,_⟩:=RdT.iff.1 h;have j:w.heap[b]?=_:=a.its _ (f0 g);unfold Br;rw [j];obtain ⟨k,n,s,ks⟩:=t;rfl
section
theorem pX {N:Nat} {st:bb} (hg:Good N st) {t v:T} (hw:eq st t v) (ht:okU N t) {S:ai} {cs:List Value} {J kp:Nat} {D:Array Value} (h:RdT S cs t) (hk:KnU S D st) :
  Tri Tryz.prog vz [.agg cs.toArray,kvU J N kp] [.blk J (.cells D ac)] S fun r I' S'=>S'=S/\I'=[.blk J (.cells D ac)]/\∃ p,r=.agg p.toArray/\RdT S p v:=by
 intro w a;obtain ⟨X,hX⟩:∃ X,X=cg [Item.blk J (.cells D ac)]:=⟨_,rfl⟩
 rw [<- hX] at a ⊢;have b1:=hg.len;obtain ⟨r,hr⟩:=hg.rk;refine nV.2 ?_;dsimp only[nV,bv];refine bH a fun U w' a=>?_;refine aE a aQ fun b4 w' a=>?_;have a:Inv w X [.blk J (.cells D ac),.blk U (.cells cs.toArray ac),.blk b4 (.cells #[.int .i64 0,.int .i64 0,.string ⟨#[]⟩,.slice none 0 0] ac)] S w':=a;refine ⟨fun w'=>∃ (l:T) (p:List Value),eq st l v/\okU N l/\RdT S p l/\Inv w X [.blk J (.cells D ac),.blk U (.cells p.toArray ac),.blk b4 (.cells #[.int .i64 0,.int .i64 0,.string ⟨#[]⟩,.slice none 0 0] ac)] S w',
  fun w'=>Br U r st w',⟨t,cs,hw,ht,h,a⟩,?_⟩
 intro _ _ _ _ _ _ _ _ _ _ _ _ _ _ _ _ _ _ _ _ _ _ _ _ w';rintro ⟨l,p,a0,a1,C,a⟩;have Y:=xe a (i:=1) rfl C r st;have M:=C;obtain ⟨kv,rfl,_⟩:=RdT.iff.1 C;refine ⟨fun q w'=>q=.bool (look st l).isSome/\Inv w X [.blk J (.cells D ac),.blk U (.cells #[.int .i64 l.kind,.int .i64 l.n,.string l.name,kv] ac),.blk b4 (.cells #[.int .i64 0,.int .i64 0,.string ⟨#[]⟩,.slice none 0 0] ac)] S w',?_,?_⟩
 ·refine ah a 1 rfl aW au rfl ?_;refine a9 ?_;by_cases o:l.kind=1
  ·rw [aD o];obtain ⟨a3,a2,_⟩:=a1.var o;obtain ⟨j,V⟩:∃ j:Nat,l.n=j:=⟨l.n.toNat,by omega⟩
   have Z:j<N:=by omega
   have B:j<st.length:=by omega
   refine rpG ?_;refine ah a 1 rfl aR au rfl ?_;refine iP ao ?_;refine cd ?_;rw [aD a2];refine rpG ?_;refine ah a 1 rfl aR au rfl ?_;rw [V];refine aN ao Z ?_;refine ax aW ?_;rw [cS,s4];obtain ⟨a4,a5⟩:=hk.2 j B;rw [V] at a;have a6:look st l=st[j]:=by
    rw [look,ag o,V,dH,me B]; rfl
   rw [a6];cases g:st[j] with
   | none=>
    have m:=a4 g;refine aG a 0 au rfl (by have:=bf m 0 _ rfl; exact this) ?_;refine jN ?_;refine rpG ?_;refine ⟨by simp,a⟩
   | some t0=>
    have hR:=a5 t0 g;have a7:t0.kind≠0:=(hg.ok t0 (by rw [<- g]; exact cO B)).kind;obtain ⟨b0,m,_,_,_,_⟩:=RdT.iff.1 hR;refine aG a 0 au rfl (by have:=bf m 0 _ rfl; exact this) ?_;refine jN ?_;rw [aM a7];refine rpG ?_;refine ⟨rfl,a⟩
  ·rw [aM o];refine rpG ?_;refine ⟨?_,a⟩;rw [look,ae o]; rfl
 intro q _ _ _ _ _ _ _ _ _ _ _ _ _ _ _ _ _ _ w';rintro ⟨rfl,a⟩;refine aL (fun hb=>?_) (fun hb=>?_)
 ·obtain ⟨u,hl⟩:=Gy.1 hb;obtain ⟨o,hs⟩:=dU.1 hl;obtain ⟨a3,a2,_⟩:=a1.var o;obtain ⟨j,V⟩:∃ j:Nat,l.n=j:=⟨l.n.toNat,by omega⟩
  have Z:j<N:=by omega
  have B:j<st.length:=by omega
  rw [V,dH] at hs;have g:st[j]=some u:=by rw [me B,bj] at hs; exact hs
  have hR:=(hk.2 j B).2 u g;have a8:eq st u v:=by
   cases a0 with
   | stop h0=>rw [hl] at h0; cases h0
   | step h1 h2=>rw [hl,bj] at h1; rw [h1]; exact h2
  have hu:=(hg.look_ok hl).1;refine ah a 1 rfl aR au rfl ?_;rw [V];refine aN ao Z ?_;rw [cS];refine gd a 0 (bJ D (j * 4) 4) af rfl hR.length (fun i v hi=>bf rfl i v hi) ?_;refine aj a 1 rfl af (by simpa using hR.length) rfl (by simpa using hR.one) fun w' a=>?_;have a:Inv w X [.blk J (.cells D ac),.blk U (.cells (bJ D (j * 4) 4).toArray ac),.blk b4 (.cells #[.int .i64 0,.int .i64 0,.string ⟨#[]⟩,.slice none 0 0] ac)] S w':=a;refine ⟨⟨u,_,a8,hu,hR,a⟩,?_⟩;have G:=xe a (i:=1) rfl hR r st;show Br U r st w'<Br U r st _;rw [Y,G,ag hb,V,dH];split
  ·rename_i O
   obtain ⟨u2,O⟩:=Gy.1 O;have:=hr j u hs u.n.toNat (by rw [kw (dU.1 O).1]; exact bM.2 rfl);omega
  ·omega
 ·have hv:v=l:=by
   cases a0 with
   | stop _=>rfl
   | step h1 _=>rw [h1] at hb; cases hb
  subst hv;refine aq a 1 af rfl rfl ?_;refine aj a 2 rfl af rfl rfl (by simpa using M.one) fun w' a=>?_;refine be a 2 af rfl rfl ?_;exact ⟨_,_,_,rfl,a.pick [true,false,false],Ext.refl _ _ _,rfl,rfl,_,rfl,M⟩
end
theorem Sb (l:List Int) (n x:Int):x∈jw l n↔x∈l ∨ x=n:=by
 unfold jw;split
 ·rename_i h
  rw [sJ] at h;constructor
  ·exact .inl
  ·rintro (a|rfl)
   ·exact a
   ·exact h
 ·simp
mutual
theorem kS {N:Nat}:∀ (t:T) (l:List Int),okU N t->∀ x,x∈fh t l↔x∈l ∨ ∃ m∈vT t,x=(m:Int)
 | .mk k n s ks,l,h,x=>by
  rw [okU] at h;rw [fh,vT];by_cases hk:k=1
  ·rw [ag hk,ag hk,Sb];have:=(h.2.1 hk).1;constructor
   ·rintro (a|a)
    ·exact .inl a
    ·exact .inr ⟨n.toNat,bM.2 rfl,by omega⟩
   ·rintro (a|⟨m,hm,e⟩)
    ·exact .inl a
    ·rw [bM] at hm;exact .inr (by omega)
  ·rw [ae hk,ae hk];exact vZ ks l h.2.2.1 x
theorem vZ {N:Nat}:∀ (ts:List T) (l:List Int),cM N ts->∀ x,x∈cE ts l↔x∈l ∨ ∃ m∈vTL ts,x=(m:Int)
 | [],l,_,x=>by simp [cE,vTL]
 | t::ts,l,h,x=>by
  rw [cM] at h;rw [cE,vTL,vZ ts _ h.2,kS t l h.1];simp only [cU];constructor
  ·rintro ((h|⟨m,h,e⟩)|⟨m,h,e⟩)
   ·exact .inl h
   ·exact .inr ⟨m,.inl h,e⟩
   ·exact .inr ⟨m,.inr h,e⟩
  ·rintro (h|⟨m,h|h,e⟩)
   ·exact .inl (.inl h)
   ·exact .inl (.inr ⟨m,h,e⟩)
   ·exact .inr ⟨m,h,e⟩
end
mutual
theorem pU:∀ (t:T) (l:List Int),l.Nodup->(fh t l).Nodup
 | .mk k n s ks,l,h=>by
  rw [fh];split
  ·exact EE n h
  ·exact HR ks l h
theorem HR:∀ (ts:List T) (l:List Int),l.Nodup->(cE ts l).Nodup
 | [],l,h=>by rw [cE]; exact h
 | t::ts,l,h=>by rw [cE]; exact HR ts _ (pU t l h)
end
theorem U3 (l:List Int) (n:Int):l <+: jw l n:=by
 unfold jw;split
 ·exact Pr _
 ·exact List.prefix_append _ _
mutual
theorem D8:∀ (t:T) (l:List Int),l <+: fh t l
 | .mk k n s ks,l=>by
  rw [fh];split
  ·exact U3 l n
  ·exact DU ks l
theorem DU:∀ (ts:List T) (l:List Int),l <+: cE ts l
 | [],l=>by rw [cE]; exact Pr _
 | t::ts,l=>by
  rw [cE];exact (D8 t l).trans (DU ts _)
end
theorem Dy:∀ (N:Nat) (l:List Int),l.Nodup->(∀ x∈l,0<=x/\x<N)->l.length<=N:=by
 intro N l g h;have a:∀ x∈l,x∈(List.range N).map (fun i:Nat=>(i:Int)):=fun x j=>by
  obtain ⟨m,o⟩:=h x j;exact ob.2 ⟨x.toNat,List.mem_range.2 (by omega),by omega⟩
 have:=List.Nodup.length_le_of_subset g a;simpa using this
theorem Iw {N:Nat} {t:T} {l:List Int} (h:okU N t) (g:∀ x∈l,0<=x/\x<N):∀ x∈fh t l,0<=x/\x<N:=fun x a=>by
 rcases (kS t l h x).1 a with a|⟨m,i,rfl⟩
 ·exact g x a
 ·have:=Rh t h m i;omega
section
open Classical in
theorem FG {N:Nat} (hN:N<=1000000) {st:bb} (hg:Good N st) {t:T} (ht:okU N t) (_:wB t) (n:Int) (d1:0<=n) {S:ai} {cs:nA} {kb kp:Nat} {kc:Array Value} (h:RdT S cs t) (hk:KnU S kc st) :
  nB JL [ee n,.agg cs.toArray,kvU kb N kp] [ei kb kc ac] S fun r I' S'=>S'=S/\I'=[ei kb kc ac]/\r=.bool (decide (gA st n.toNat t)):=by
 intro w g;obtain ⟨X,hX⟩:∃ X,X=cg [Item.blk kb (.cells kc ac)]:=⟨_,rfl⟩
 rw [<- hX] at g ⊢;have d7:=hg.len;have c8:=h.length;refine uT.2 ?_;dsimp only[uT,eX];refine bH g fun b4 w' g=>?_;have g:Inv w X [ei kb kc ac,ei b4 cs.toArray ac] S w':=g;refine aq g 1 af rfl (by simpa using c8) ?_;have g:Inv w X [ei kb kc ac] S w':=g.pick [true,false];have g:=g.rowNil bV 1;refine Run.call (A:=[_]) oe nT g (ox t S cs (nx) [] h (by have:=Dy N _ (pU t [] Az) (Iw ht (fun x O=>by cases O));omega)) fun v' I' S' w'=>?_;rintro ⟨rfl,eS⟩ _ g;rw [eS] at g;clear eS;refine ⟨fun i t7 w'=>∃ (j:Nat) (ws:List Int),i=ee j/\j<=ws.length/\ws.Nodup/\(∀ x∈ws,0<=x/\x<N)/\(∀ x∈ws,∃ m∈vT t,Rch st m x.toNat)/\(∀ m∈vT t,(m:Int)∈ws)/\
   (∀ k (hk:k<ws.length),k<j->ws[k]≠n/\∀ u,st[ws[k].toNat]?=some (some u)->∀ m∈vT u,(m:Int)∈ws)/\Inv w X [ei kb kc ac,cA t7 ws] S w',
  fun i _ _=>N - (intOf i).toNat,⟨0,_,rfl,aT _,pU t [] Az,fun x O=>?_,fun x O=>?_,fun m C=>?_,fun k _ a8=>absurd a8 (by omega),g⟩,?_⟩
 ·rcases (kS t [] ht x).1 O with O|⟨m,C,rfl⟩
  ·cases O
  ·have:=Rh t ht m C;omega
 ·rcases (kS t [] ht x).1 O with O|⟨m,C,rfl⟩
  ·cases O
  ·exact ⟨m,C,by rw [dH];exact .refl m⟩
 ·exact (kS t [] ht _).2 (.inr ⟨m,C,rfl⟩)
 intro t8 _ _ t7 _ _ _ _ _ _ _ _ _ _ _ _ _ _ _ _ _ _ _ _ _ _ _ _ _ _ _ _ _ _ _ _ _ _ _ _ _ _ w';rintro ⟨j,ws,rfl,hj,a4,G,o,a2,M,g⟩;have d9:=Dy N ws a4 G;obtain ⟨S1,d4,Y,l,D⟩:=Inv.lend (A:=[_]) g;have Y:=Y.ints;refine aO Y ff ?_;refine cd ?_;refine aJ (fun c4=>?_) (fun c4=>?_)
 ·have J:j<ws.length:=by omega
  obtain ⟨d6,c5⟩:=G _ (cO J);obtain ⟨x,O⟩:∃ x:Nat,ws[j]=x:=⟨ws[j].toNat,by omega⟩
  have a1:x<st.length:=by omega
  refine ⟨fun b2 w'=>∃ B:List Int,B.Nodup/\(∀ x∈B,0<=x/\x<N)/\(∀ x∈B,∃ m∈vT t,Rch st m x.toNat)/\(∀ y∈ws,y∈B)/\ws <+: B/\
   ws[j]≠n/\(∀ u,st[x]?=some (some u)->∀ m∈vT u,(m:Int)∈B)/\Inv w X [ei kb kc ac,cA b2 B] S w',?_,?_⟩
  ·refine jq l Y ff au J (fun cs U=>U) ?_;refine a9 ?_;refine aJ (fun he=>?_) (fun he=>?_)
   ·have b8:gA st n.toNat t:=by
     obtain ⟨m,C,hr⟩:=o _ (cO J);rw [he] at hr;exact ⟨m,C,hr⟩
    have g:=D _ _ l;refine ⟨_,_,_,rfl,g.pick [true,false],Ext.refl _ _ _,rfl,rfl,?_⟩;rw [aD b8]
   ·refine ⟨fun q w'=>q=.bool (decide (∃ u,st[x]?=some (some u)))/\Inv w X [ei kb kc ac] S1 w',?_,?_⟩
    ·refine jq l Y ff au J (fun cs U=>U) ?_;refine iP ao ?_;refine cd ?_;rw [aD c5];refine rpG ?_;refine jq l Y ff au J (fun cs U=>U) ?_;rw [O];refine aN ao (by omega) ?_;refine ax aW ?_;rw [cS,s4];obtain ⟨b0,c6⟩:=hk.2 x a1;cases p:st[x] with
     | none=>
      have Z:=b0 p;refine aG l 0 au rfl (by have:=bf Z 0 _ rfl;exact this) ?_;refine jN ?_;refine rpG ?_;refine ⟨?_,l⟩;rw [aM (show ¬ ∃ u,st[x]?=some (some u) from fun ⟨u,V⟩=>by rw [me a1,p] at V;cases V)];simp
     | some t0=>
      have hR:=c6 t0 p;have a8:t0.kind≠0:=(hg.ok t0 (by rw [<- p];exact cO a1)).kind;obtain ⟨d0,Z,_,_,_,_⟩:=RdT.iff.1 hR;refine aG l 0 au rfl (by have:=bf Z 0 _ rfl;exact this) ?_;refine jN ?_;rw [aM a8];refine rpG ?_;refine ⟨?_,l⟩;rw [aD (show ∃ u,st[x]?=some (some u) from ⟨t0,by rw [me a1,p]⟩)];rfl
    intro q _ _ _ _ _ _ _ _ _ _ _ _ _ _ _ _ _ w';rintro ⟨rfl,l⟩;refine aJ (fun hq=>?_) (fun hq=>?_)
    ·obtain ⟨u,V⟩:=hq;have p:st[x]=some u:=by rw [me a1,bj] at V;exact V
     have hR:=(hk.2 x a1).2 u p;have c9:=f0 V;have b1:=hg.ok u c9;refine jq l Y ff au J (fun cs U=>U) ?_;rw [O];refine aN ao (by omega) ?_;rw [cS];refine gd l 0 (bJ kc (x * 4) 4) af rfl hR.length (fun i v hi=>bf rfl i v hi) ?_;have g:=D _ _ l;refine Run.call (A:=[_]) oe nT g (ox u S _ t7 ws hR (by have:=Dy N _ (pU u ws a4) (Iw b1 G);omega)) fun v' I' S' w'=>?_;rintro ⟨rfl,eS⟩ _ g;rw [eS] at g;clear eS;have a0:=kS u ws b1;refine ⟨_,pU u ws a4,fun y hy=>?_,fun y hy=>?_,fun y hy=>(a0 y).2 (.inl hy),D8 u ws,by rw [<- O];exact he,fun u' b6 m C=>?_,g⟩
     ·rcases (a0 y).1 hy with hy|⟨m,C,rfl⟩
      ·exact G y hy
      ·have:=Rh u b1 m C;omega
     ·rcases (a0 y).1 hy with hy|⟨m,C,rfl⟩
      ·exact o y hy
      ·obtain ⟨m0,c7,b7⟩:=o _ (cO J);rw [O,dH] at b7;exact ⟨m0,c7,b7.trans (.step V C (by rw [dH];exact .refl m))⟩
     ·rw [V,bj,bj] at b6;subst b6;exact (a0 _).2 (.inr ⟨m,C,rfl⟩)
    ·have g:=D _ _ l;exact ⟨ws,a4,G,o,fun y hy=>hy,Pr _,he,fun u V=>absurd ⟨u,V⟩ hq,g⟩
  intro b2 _ _ _ _ _ _ _ _ _ _ _ _ _ _ _ _ _ _ _ _ _ _ _ _ _ _ _ _ _ _ _ _ _ _ w';rintro ⟨B,b3,a7,a3,a5,b5,c1,c2,g⟩;have e0:=b5.length_le;have a6:∀ k (hk:k<ws.length),B[k]'(by omega)=ws[k]:=fun k hk=>(b5.getElem hk).symm;refine bL (by omega) ?_;refine ⟨⟨j+1,B,rfl,by omega,b3,a7,a3,fun m C=>a5 _ (a2 m C),fun k d2 d3=>?_,g⟩,by simp [intOf];omega⟩;by_cases e:k=j
  ·subst e;have e1:=a6 k J;rw [e1];refine ⟨c1,fun u V=>?_⟩;rw [O,dH] at V;exact c2 u V
  ·have b9:k<ws.length:=by omega
   rw [a6 k b9];obtain ⟨h1,h2⟩:=M k b9 (by omega);exact ⟨h1,fun u V m C=>a5 _ (h2 u V m C)⟩
 ·have e2:j=ws.length:=by omega
  have b0:¬ gA st n.toNat t:=by
   rintro ⟨m,C,hr⟩;have key:∀ a c,Rch st a c->(a:Int)∈ws->(c:Int)∈ws:=by
    intro a c c3;induction c3 with
    | refl=>exact id
    | step h1 h2 _ ih=>
     intro ha;obtain ⟨k,hk,e⟩:=HE.1 ha;refine ih ((M k hk (by omega)).2 _ ?_ _ h2);rw [e,dH];exact h1
   have h1:=key m _ hr (a2 m C);obtain ⟨k,hk,e⟩:=HE.1 h1;exact (M k hk (by omega)).1 (by rw [e];omega)
  have g:=D _ _ l;refine ⟨_,_,_,rfl,g.pick [true,false],Ext.refl _ _ _,rfl,rfl,?_⟩;rw [aM b0]
end
end
section
open Go Go.RowKit
inductive Chain (Call:bb->T->T->Bool->bb->Prop):bb->List T->List T->Bool->bb->Prop
 | nil {st:bb}:Chain Call st [] [] true st
 | stop {st st':bb} {a b:T} {xs ys:List T}:Call st a b false st'->Chain Call st (a::xs) (b::ys) false st'
 | go {st st1 st':bb} {a b:T} {xs ys:List T} {r:Bool}:Call st a b true st1->Chain Call st1 xs ys r st'->Chain Call st (a::xs) (b::ys) r st'
theorem Chain.head {Call:bb->T->T->Bool->bb->Prop} {st g:bb} {a b:T} {xs ys:List T} {r:Bool} (h:Chain Call st (a::xs) (b::ys) r g) :
  ∃ j i,Call st a b j i/\(j=false->r=false/\g=i)/\(j=true->Chain Call i xs ys r g):=by
 cases h with
 | stop h=>exact ⟨false,_,h,fun _=>⟨rfl,rfl⟩,fun e=>(by cases e)⟩
 | go h l=>exact ⟨true,_,h,fun e=>(by cases e),fun _=>l⟩
theorem Chain.done {Call:bb->T->T->Bool->bb->Prop} {st a:bb} {r:Bool} (h:Chain Call st [] [] r a):r=true/\a=st:=by
 cases h;exact ⟨rfl,rfl⟩
def Uw (Call:bb->T->T->Bool->bb->Prop) (st:bb) (a' b':T) (r:Bool) (st':bb):Prop:=
 (a'.kind=1/\b'.kind=1/\a'.n=b'.n/\r=true/\st'=st) ∨
 (a'.kind=1/\¬ (b'.kind=1/\a'.n=b'.n)/\((¬ gA st a'.n.toNat b'/\r=true/\st'=st.set a'.n.toNat (some b')) ∨ (gA st a'.n.toNat b'/\r=false/\st'=st))) ∨
 (a'.kind≠1/\b'.kind=1/\((¬ gA st b'.n.toNat a'/\r=true/\st'=st.set b'.n.toNat (some a')) ∨ (gA st b'.n.toNat a'/\r=false/\st'=st))) ∨
 (a'.kind≠1/\b'.kind≠1/\((qz a' b'=false/\r=false/\st'=st) ∨ (qz a' b'=true/\Chain Call st a'.kids b'.kids r st')))
theorem Uni.calls {N:Nat} {Call:bb->T->T->Bool->bb->Prop} (g:∀ st a b J M r p,Good N st->okJ N (.one a b)->eq st a J->eq st b M->Uw Call st J M r p->Call st a b r p) {st p:bb} {j:Job} {r:Bool} (O:Uni st j r p) :
  Good N st->okJ N j->match j with
   | .one a b=>Call st a b r p
   | .list xs ys=>Chain Call st xs ys r p:=by
 induction O with
 | same l m q t o=>exact fun i h=>g _ _ _ _ _ _ _ i h l m (.inl ⟨q,t,o,rfl,rfl⟩)
 | bindA l m q t o=>exact fun i h=>g _ _ _ _ _ _ _ i h l m (.inr (.inl ⟨q,t,.inl ⟨o,rfl,rfl⟩⟩))
 | occA l m q t o=>exact fun i h=>g _ _ _ _ _ _ _ i h l m (.inr (.inl ⟨q,t,.inr ⟨o,rfl,rfl⟩⟩))
 | bindB l m q t o=>exact fun i h=>g _ _ _ _ _ _ _ i h l m (.inr (.inr (.inl ⟨q,t,.inl ⟨o,rfl,rfl⟩⟩)))
 | occB l m q t o=>exact fun i h=>g _ _ _ _ _ _ _ i h l m (.inr (.inr (.inl ⟨q,t,.inr ⟨o,rfl,rfl⟩⟩)))
 | clash l m q t o=>exact fun i h=>g _ _ _ _ _ _ _ i h l m (.inr (.inr (.inr ⟨q,t,.inl ⟨o,rfl,rfl⟩⟩)))
 | kids l m q t o _ C=>
  exact fun i h=>g _ _ _ _ _ _ _ i h l m (.inr (.inr (.inr ⟨q,t,.inr ⟨o,C i ⟨lk (eB i l h.1),lk (eB i m h.2),oP o⟩⟩⟩)))
 | nil=>exact fun _ _=>.nil
 | stop _ C=>exact fun i h=>.stop (C i ⟨h.1 _ (bF ..),h.2.1 _ (bF ..)⟩)
 | go l _ D G=>
  intro i h;have B:okJ N (.one _ _):=⟨h.1 _ (bF ..),h.2.1 _ (bF ..)⟩
  exact .go (D i B) (G (l.good i B).1 ⟨fun a U=>h.1 a (bI _ U),fun b V=>h.2.1 b (bI _ V),by have:=h.2.2;simpa using this⟩)
def UC (N kp:Nat) (st:bb) (a b:T) (r:Bool) (st':bb):Prop:=∀ (S:ai) (cs ds:List Value) (kb:Nat) (kc:Array Value),RdT S cs a->RdT S ds b->KnU S kc st->
 Tri Tryz.prog NR [.agg cs.toArray,.agg ds.toArray,kvU kb N kp] [ei kb kc ac] S fun q I' S'=>S'=S/\q=.bool r/\∃ kc',I'=[ei kb kc' ac]/\KnU S kc' st'
section
set_option maxHeartbeats 1000000 in
theorem wX {N kp:Nat} (hN:N<=1000000) {st C:bb} {a b a' b':T} {r:Bool} (hg:Good N st) (hj:okJ N (.one a b)) (c6:eq st a a') (c7:eq st b b')
  (c9:a'.kind≠1->b'.kind=1->UC N kp st b' a' r C) (he:Uw (UC N kp) st a' b' r C):UC N kp st a b r C:=by
 intro S cs ds Z kc h h' V w g;have e0:=h.length;have e4:=h'.length;have f4:=eB hg c6 hj.1;have e5:=eB hg c7 hj.2;have h7:=hg.len;obtain ⟨X,hX⟩:∃ X,X=cg [Item.blk Z (.cells kc ac)]:=⟨_,rfl⟩
 rw [<- hX] at g ⊢;refine xm.2 ?_;dsimp only[xm,eX];refine bH g fun b1 w' g=>?_;refine bH g fun b2 w' g=>?_;have g:Inv w X ([ei b1 cs.toArray ac,ei b2 ds.toArray ac]++[ei Z kc ac]) S w':=g.perm (bD (l₁:=[_,_]) (l₂:=[_]));refine aq g 0 af rfl (by simpa using e0) ?_;refine Run.call om n5 g (pX hg c6 hj.1.1 h V) fun v' I' S' w'=>?_;rintro ⟨eS,rfl,d0,rfl,a7⟩ _ g;rw [eS] at g;clear eS;refine aj g 0 rfl af (by simpa using a7.length) (by simpa using e0) (by simpa using a7.one) fun w' g=>?_;have g:Inv w X ([ei b1 d0.toArray ac,ei b2 ds.toArray ac]++[ei Z kc ac]) S w':=g;refine aq g 1 af rfl (by simpa using e4) ?_;refine Run.call om n5 g (pX hg c7 hj.2.1 h' V) fun v' I' S' w'=>?_;rintro ⟨eS,rfl,e7,rfl,a8⟩ _ g;rw [eS] at g;clear eS;refine aj g 1 rfl af (by simpa using a8.length) (by simpa using e4) (by simpa using a8.one) fun w' g=>?_;have g:Inv w X [ei b1 d0.toArray ac,ei b2 e7.toArray ac,ei Z kc ac] S w':=g;have f5:=a7;have b7:=a8;obtain ⟨kv,rfl,_,_,_,b3⟩:=RdT.iff.1 a7;obtain ⟨b6,rfl,_,_,_,b4⟩:=RdT.iff.1 a8;obtain ⟨k,n,s,ks⟩:=a';obtain ⟨J,U,s',l⟩:=b';unfold Uw at he;simp only [T.name,T.kids,T.kind,T.n] at b3 b4 g he c9 ⊢;have e6:=b3.le;simp only [maxLen] at e6;refine ⟨fun q w'=>q=.bool (decide (k=1/\J=1/\n=U))/\Inv w X [ei b1 #[ee k,ee n,.string s,kv] ac,ei b2 #[ee J,ee U,.string s',b6] ac,ei Z kc ac] S w',?_,?_⟩
 ·refine ah g 0 rfl aW au rfl ?_;refine a9 ?_;by_cases e1:k=1
  ·rw [aD e1];refine rpG ?_;refine ah g 1 rfl aW au rfl ?_;refine a9 ?_;by_cases e2:J=1
   ·rw [aD e2];refine rpG ?_;refine ah g 0 rfl aR au rfl ?_;refine ah g 1 rfl aR au rfl ?_;refine a9 ?_;refine rpG ?_;exact ⟨by simp [e1,e2],g⟩
   ·rw [aM e2];refine rpG ?_;exact ⟨by simp [e2],g⟩
  ·rw [aM e1];refine rpG ?_;exact ⟨by simp [e1],g⟩
 intro q _ _ _ _ _ _ _ _ _ _ _ _ _ _ w';rintro ⟨rfl,g⟩;refine aJ (fun G=>?_) (fun G=>?_)
 ·have:r=true/\C=st:=by
   rcases he with ⟨_,_,_,m,h2⟩|⟨_,m,_⟩|⟨m,_,_⟩|⟨m,_,_⟩
   ·exact ⟨m,h2⟩
   ·exact absurd G.2 m
   ·exact absurd G.1 m
   ·exact absurd G.1 m
  obtain ⟨rfl,rfl⟩:=this;exact ⟨_,_,_,rfl,g.pick [false,false,true],Ext.refl _ _ _,rfl,rfl,_,rfl,V⟩
 refine ah g 0 rfl aW au rfl ?_;refine a9 ?_;refine aJ (fun a5=>?_) (fun a5=>?_)
 ·have a3:(¬ gA st n.toNat (.mk J U s' l)/\r=true/\C=st.set n.toNat (some (.mk J U s' l))) ∨ (gA st n.toNat (.mk J U s' l)/\r=false/\C=st):=by
   rcases he with ⟨m,h2,h3,_⟩|⟨_,_,m⟩|⟨m,_,_⟩|⟨m,_,_⟩
   ·exact absurd ⟨m,h2,h3⟩ G
   ·exact m
   ·exact absurd a5 m
   ·exact absurd a5 m
  obtain ⟨e9,f0,_⟩:=f4.1.var a5;simp only [T.n] at e9 f0;obtain ⟨j,rfl⟩:∃ j:Nat,n=j:=⟨n.toNat,by omega⟩
  refine ah g 0 rfl aR au rfl ?_;refine aq g 1 af rfl rfl ?_;refine Run.call (A:=[_,_]) G9 Hq g (FG hN hg e5.1 e5.2 j (by omega) b7 V) fun v' I' S' w'=>?_;rintro ⟨eS,rfl,rfl⟩ _ g;rw [eS] at g;clear eS;have g:Inv w X [ei b1 #[ee k,ee j,.string s,kv] ac,ei b2 #[ee J,ee U,.string s',b6] ac,ei Z kc ac] S w':=g;refine aL (fun hb=>?_) (fun hb=>?_)
  ·have b5:gA st (Int.toNat j) (.mk J U s' l):=@of_decide_eq_true _ (Classical.propDecidable _) hb;have:r=false/\C=st:=by
    rcases a3 with ⟨m,_⟩|⟨_,m⟩
    ·exact absurd b5 m
    ·exact m
   obtain ⟨rfl,rfl⟩:=this;exact ⟨_,_,_,rfl,g.pick [false,false,true],Ext.refl _ _ _,rfl,rfl,_,rfl,V⟩
  ·have b5:¬ gA st (Int.toNat j) (.mk J U s' l):=@of_decide_eq_false _ (Classical.propDecidable _) hb;have:r=true/\C=st.set (Int.toNat j) (some (.mk J U s' l)):=by
    rcases a3 with ⟨_,m⟩|⟨m,_⟩
    ·exact m
    ·exact absurd m b5
   obtain ⟨rfl,rfl⟩:=this;rw [dH];refine ah g 0 rfl aR au rfl ?_;refine aq g 1 af rfl rfl ?_;refine aN ao (by omega) ?_;rw [cS];refine LR g 2 rfl af rfl (by have:=V.1;exact Nat.ble_eq_true_of_le (by omega)) b7.one fun w' g=>?_;exact ⟨_,_,_,rfl,g.pick [false,false,true],Ext.refl _ _ _,rfl,rfl,_,rfl,V.set (by omega) b7⟩
 refine ah g 1 rfl aW au rfl ?_;refine a9 ?_;refine aJ (fun a0=>?_) (fun a0=>?_)
 ·refine aq g 1 af rfl rfl ?_;refine aq g 0 af rfl rfl ?_;refine Run.call (A:=[_,_]) qi qd g (c9 a5 a0 S _ _ Z kc b7 f5 V) fun v' I' S' w'=>?_;rintro ⟨eS,rfl,f8,rfl,d1⟩ _ g;rw [eS] at g;clear eS;exact ⟨_,_,_,rfl,g.pick [false,false,true],Ext.refl _ _ _,rfl,rfl,_,rfl,d1⟩
 have a3:(qz (.mk k n s ks) (.mk J U s' l)=false/\r=false/\C=st) ∨ (qz (.mk k n s ks) (.mk J U s' l)=true/\Chain (UC N kp) st ks l r C):=by
  rcases he with ⟨m,_⟩|⟨m,_,_⟩|⟨_,m,_⟩|⟨_,_,m⟩
  ·exact absurd m a5
  ·exact absurd m a5
  ·exact absurd m a0
  ·exact m
 refine ⟨fun q w'=>q=.bool (!qz (.mk k n s ks) (.mk J U s' l))/\Inv w X [ei b1 #[ee k,ee n,.string s,kv] ac,ei b2 #[ee J,ee U,.string s',b6] ac,ei Z kc ac] S w',?_,?_⟩
 ·refine ah g 0 rfl aW au rfl ?_;refine ah g 1 rfl aW au rfl ?_;refine jN ?_;by_cases e1:k=J
  ·rw [aD e1];refine rpG ?_;refine ah g 0 rfl aR au rfl ?_;refine ah g 1 rfl aR au rfl ?_;refine jN ?_;by_cases e2:n=U
   ·rw [aD e2];refine rpG ?_;refine ah g 0 rfl bu aV rfl ?_;refine ah g 1 rfl bu aV rfl ?_;refine Ji ?_;by_cases e3:s=s'
    ·rw [aD e3];refine rpG ?_;refine ah g 0 rfl az aw rfl ?_;refine aO b3 ao ?_;refine ah g 1 rfl az aw rfl ?_;refine aO b4 ao ?_;refine jN ?_;refine rpG ?_;exact ⟨by rw [ot,aD e1,aD e2,aD e3,W5];rfl,g⟩
    ·rw [aM e3];refine rpG ?_;exact ⟨by rw [ot,aD e1,aD e2,aM e3];rfl,g⟩
   ·rw [aM e2];refine rpG ?_;exact ⟨by rw [ot,aD e1,aM e2];rfl,g⟩
  ·rw [aM e1];refine rpG ?_;exact ⟨by rw [ot,aM e1];rfl,g⟩
 intro q _ _ _ _ _ _ _ _ _ _ _ _ _ _ _ _ _ _ _ _ _ _ _ _ _ _ _ w';rintro ⟨rfl,g⟩;cases hd:qz (.mk k n s ks) (.mk J U s' l)
 ·refine aL (fun _=>?_) (fun hb=>by cases hb);have:r=false/\C=st:=by
   rcases a3 with ⟨_,m⟩|⟨m,_⟩
   ·exact m
   ·rw [hd] at m;cases m
  obtain ⟨rfl,rfl⟩:=this;exact ⟨_,_,_,rfl,g.pick [false,false,true],Ext.refl _ _ _,rfl,rfl,_,rfl,V⟩
 refine aL (fun hb=>by cases hb) (fun _=>?_);have f6:ks.length=l.length:=oP hd;have f7:Chain (UC N kp) st ks l r C:=by
  rcases a3 with ⟨m,_⟩|⟨_,m⟩
  ·rw [hd] at m;cases m
  ·exact m
 refine ⟨fun i w'=>∃ (j:Nat) (c3:bb) (a4:Array Value),j<=ks.length/\i=ee j/\Chain (UC N kp) c3 (ks.drop j) (l.drop j) r C/\KnU S a4 c3/\Inv w X [ei b1 #[ee k,ee n,.string s,kv] ac,ei b2 #[ee J,ee U,.string s',b6] ac,ei Z a4 ac] S w',fun i _=>ks.length - (intOf i).toNat,⟨0,st,kc,aT _,rfl,f7,V,g⟩,?_⟩;intro t7 _ _ _ f9 g0 g1 g2 g3 g4 g5 g6 g7 g8 g9 h0 h4 _ _ _ _ _ w';rintro ⟨j,c3,a4,hj,rfl,b0,b9,g⟩;refine ah g 0 rfl az aw rfl ?_;refine aO b3 ao ?_;refine cd ?_;refine aJ (fun e8=>?_) (fun e8=>?_)
 ·have b8:j<ks.length:=by omega
  have c5:j<l.length:=by omega
  obtain ⟨c1,o1,M,a1,E1,h5,rfl,f1,d6⟩:=b3.at_ b8;obtain ⟨c2,o2,O,a2,E2,h6,rfl,f2,d7⟩:=b4.at_ c5;rw [ef b8,ef c5] at b0;obtain ⟨r1,c4,a6,f3,d9⟩:=b0.head;have a6:=a6 S _ _ Z a4 d6 d7 b9;refine ⟨fun D Z1 YH Za Ym Xi Ir Ij Fo DH DK Eh GH DL w_=>Fx D 0 [DL=kh b1 3,GH=kt c1 o1 ks.length M,Eh=ee j,DK=kh c1 (o1+j * 4),DH=.agg (bJ a1 (o1+j * 4) 4).toArray,Fo=kh b2 3,Ij=kt c2 o2 l.length O,Ir=ee j,Xi=kh c2 (o2+j * 4),Ym=.agg (bJ a2 (o2+j * 4) 4).toArray,Za=kvU Z N kp,YH=.bool r1,Z1=.bool (!r1)]/\(D 11=false->Inv w X [ei b1 #[ee k,ee n,.string s,kt c1 o1 ks.length M] ac,ei b2 #[ee J,ee U,.string s',kt c2 o2 l.length O] ac,ei Z a4 ac] S w_)/\(D 11=true->∃ Y,KnU S Y c4/\Inv w X [ei b1 #[ee k,ee n,.string s,kt c1 o1 ks.length M] ac,ei b2 #[ee J,ee U,.string s',kt c2 o2 l.length O] ac,ei Z Y ac] S w_)/\∃ o,Inv w X [ei b1 #[ee k,ee n,.string s,kt c1 o1 ks.length M] ac,ei b2 #[ee J,ee U,.string s',kt c2 o2 l.length O] ac,ei Z o ac] S w_,⟨Fx.nil _ _,⟨fun _=>g.draw,aU,a4,g.draw⟩⟩,⟨?_,?_,?_,?_,?_,?_,?_,?_,?_,?_,?_,?_,?_,trivial⟩,?_⟩;all_goals (intro D bp;intros;rename_i Z1 YH Za Ym Xi Ir Ij Fo DH DK Eh GH DL w_ d2;have B:=d2.1;obtain ⟨⟨cF,ci,cG,cD,bU,cH,cj,cR,dJ,dQ,cJ,dv,eG,_⟩,⟨p,t,o,g⟩⟩:=d2)
  ·refine ax az ?_;exact ⟨B.set 0 rfl,⟨p,t,o,g⟩⟩
  ·obtain rfl:=cF ‹_›;refine aG g 0 aw rfl rfl ?_;exact ⟨B.set 1 rfl,⟨p,t,o,g⟩⟩
  ·exact ⟨B.set 2 rfl,⟨p,t,o,g⟩⟩
  ·obtain rfl:=ci ‹_›;obtain rfl:=cG ‹_›;refine aN ao b8 ?_;exact ⟨B.set 3 rfl,⟨p,t,o,g⟩⟩
  ·obtain rfl:=cD ‹_›;refine eE af d6.length (fun j v hj=>by rw [g.cellS f1];exact bf rfl j v hj) ?_;exact ⟨B.set 4 rfl,⟨p,t,o,g⟩⟩
  ·refine ax az ?_;exact ⟨B.set 5 rfl,⟨p,t,o,g⟩⟩
  ·obtain rfl:=cH ‹_›;refine aG g 1 aw rfl rfl ?_;exact ⟨B.set 6 rfl,⟨p,t,o,g⟩⟩
  ·exact ⟨B.set 7 rfl,⟨p,t,o,g⟩⟩
  ·obtain rfl:=cj ‹_›;obtain rfl:=cR ‹_›;refine aN ao c5 ?_;exact ⟨B.set 8 rfl,⟨p,t,o,g⟩⟩
  ·obtain rfl:=dJ ‹_›;refine eE af d7.length (fun j v hj=>by rw [g.cellS f2];exact bf rfl j v hj) ?_;exact ⟨B.set 9 rfl,⟨p,t,o,g⟩⟩
  ·exact ⟨B.set 10 rfl,⟨p,t,o,g⟩⟩
  ·obtain rfl:=bU ‹_›;obtain rfl:=dQ ‹_›;obtain rfl:=cJ ‹_›;refine Run.call (A:=[_,_]) qi qd (p bp) a6 fun v' I' S' w_=>?_;rintro ⟨eS,rfl,Y,rfl,a0⟩ _ g;rw [eS] at g;have p:=fun (h:aF D 11 11=false)=>(Bool.noConfusion h:Inv w X [ei b1 #[ee k,ee n,.string s,kt c1 o1 ks.length M] ac,ei b2 #[ee J,ee U,.string s',kt c2 o2 l.length O] ac,ei Z a4 ac] S w_)
   have t:=fun (_:aF D 11 11=true)=>(⟨Y,a0,g⟩:∃ Y,KnU S Y c4/\Inv w X [ei b1 #[ee k,ee n,.string s,kt c1 o1 ks.length M] ac,ei b2 #[ee J,ee U,.string s',kt c2 o2 l.length O] ac,ei Z Y ac] S w_)
   obtain ⟨o,g⟩:∃ o,Inv w X [ei b1 #[ee k,ee n,.string s,kt c1 o1 ks.length M] ac,ei b2 #[ee J,ee U,.string s',kt c2 o2 l.length O] ac,ei Z o ac] S w_:=⟨Y,g⟩
   exact ⟨B.set 11 rfl,⟨p,t,o,g⟩⟩
  ·obtain rfl:=dv ‹_›;refine c8 ?_;exact ⟨B.set 12 rfl,⟨p,t,o,g⟩⟩
  obtain ⟨rfl,rfl,rfl,rfl,rfl,rfl,rfl,rfl,rfl,rfl,rfl,rfl,rfl,_⟩:=B.all;have qb:D 11=true:=by assumption
  clear B cF ci cG cD bU cH cj cR dJ dQ cJ dv eG;obtain ⟨Y,a0,g⟩:=t qb;clear p t;refine aL (fun d3=>?_) (fun d4=>?_)
  ·simp only [ry] at d3;obtain ⟨rfl,rfl⟩:=f3 d3;exact ⟨_,_,_,rfl,g.pick [false,false,true],Ext.refl _ _ _,rfl,rfl,_,rfl,a0⟩
  ·simp only [RT] at d4;refine bL (by omega) ?_;exact ⟨⟨j+1,c4,Y,b8,rfl,d9 d4,a0,g⟩,by simp [intOf];omega⟩
 ·have:j=ks.length:=by omega
  subst this;rw [eL,f6,eL] at b0;obtain ⟨rfl,rfl⟩:=b0.done;exact ⟨_,_,_,rfl,g.pick [false,false,true],Ext.refl _ _ _,rfl,rfl,_,rfl,b9⟩
theorem Hr {N kp:Nat} (G:N<=1000000) {st g:bb} {a b:T} {r:Bool} (l:Good N st) (m:okJ N (.one a b)) (M:Uni st (.one a b) r g):UC N kp st a b r g:=by
 refine Uni.calls (N:=N) (Call:=UC N kp) (fun st a b p q r g l m i j J=>?_) M l m;refine wX G l m i j (fun t B=>?_) J;have C:=eB l i m.1;have D:=eB l j m.2;have o:(¬ gA st q.n.toNat p/\r=true/\g=st.set q.n.toNat (some p)) ∨ (gA st q.n.toNat p/\r=false/\g=st):=by
  rcases J with ⟨h,_⟩|⟨h,_,_⟩|⟨_,_,h⟩|⟨_,h,_⟩
  ·exact absurd h t
  ·exact absurd h t
  ·exact h
  ·exact absurd B h
 refine wX G l ⟨D,C⟩ (.stop (ij j)) (.stop (ij i)) (fun h _=>absurd B h) (.inr (.inl ⟨B,fun h=>t h.1,o⟩))
end
end
section
open Go Go.RowKit
section
variable {P:Program} {w w0:World} {X:List Nat} {L:List Item} {S:ai} {K:Value->World->Prop}
end
end
section
open Go Go.RowKit
end
section
open Go Go.RowKit
end
section
open Go Go.RowKit
section
theorem Vj {vs:List Int} {n:Int} (hn:inI n) (a:vs.length<=1000000000):inI (ly vs n n 0):=by
 rcases IL vs n n 0 with h|h
 ·rw [h];exact hn
 ·simp only [inI] at hn ⊢;omega
theorem EL (vs:List Int) (a8:vs.length<=1000000000):∀ (t:T) (S:ai) (cs:nA) (v:Value),RdT S cs t->RdSl S 1 kH v vs->wT t<=1048576->nB JP [.agg cs.toArray,v] [] S (Fv S (dE vs t)):=by
 refine T.ind fun k n s ks ih S cs v h hv hw=>?_;intro w a;obtain ⟨kv,rfl,h1,h2,hs,a2⟩:=RdT.iff.1 h;simp only [T.name,T.kids,T.kind,T.n] at h1 h2 hs a2 ⊢;simp only [wT] at hw;obtain ⟨N,hN⟩:∃ N,N=if k=1 then ly vs n n 0 else n:=⟨_,rfl⟩
 have b4:inI N:=by
  rw [hN];split
  ·exact Vj h2 a8
  ·exact h2
 refine uG.2 ?_;dsimp only[uG,bv];refine bH a fun b1 w' a=>?_;refine aE a aQ fun b2 w' a=>?_;refine ah a 0 rfl aW au rfl ?_;refine ah a 0 rfl aR au rfl ?_;refine ah a 0 rfl bu aV rfl ?_;refine jO ?_;refine aE a aQ fun b3 w' a=>?_;refine aj a 2 rfl af rfl rfl (by simp [Value.oneCell']) fun w' a=>?_;refine ⟨fun i w'=>∃ (j:Nat) (p:Int),j<=vs.length/\i=ee j/\(if k=1 then ly (vs.drop j) n p j else p)=N/\
   Inv w [] [ei b1 #[ee k,ee n,.string s,kv] ac,ei b2 et ac,ei b3 #[ee k,ee p,.string s,nx] ac] S w',
  fun i _=>vs.length - (intOf i).toNat,⟨0,n,aT _,rfl,hN.symm,a⟩,?_⟩
 intro t6 _ _ _ _ _ _ _ _ _ _ _ _ _ _ _ _ _ _ _ _ w';rintro ⟨j,p,hj,rfl,B,a⟩;refine ⟨fun t w'=>t=.bool (decide (j<vs.length) && decide (k=1))/\Inv w [] [ei b1 #[ee k,ee n,.string s,kv] ac,ei b2 et ac,ei b3 #[ee k,ee p,.string s,nx] ac] S w',?_,?_⟩
 ·refine aO hv ff ?_;refine cd ?_;by_cases J:j<vs.length
  ·rw [aD (show (j:Int)<(vs.length:Int) by omega)];refine rpG ?_;refine ah a 0 rfl aW au rfl ?_;refine a9 ?_;refine rpG ?_;exact ⟨by rw [aD J];rfl,a⟩
  ·rw [aM (show ¬ (j:Int)<(vs.length:Int) by omega)];refine rpG ?_;exact ⟨by rw [aM J];rfl,a⟩
 intro t _ _ _ _ _ _ _ _ w';rintro ⟨rfl,a⟩;refine aL (fun hb=>?_) (fun hb=>?_)
 ·simp only [bQ,bK] at hb;obtain ⟨J,hk⟩:=hb;rw [ag hk,ef J,ly] at B;refine ⟨fun w'=>Inv w [] [ei b1 #[ee k,ee n,.string s,kv] ac,ei b2 et ac,ei b3 #[ee k,ee (if vs[j]=n then (j:Int) else p),.string s,nx] ac] S w',?_,?_⟩
  ·obtain ⟨b,o,cap,c,E,fz,rfl,hS,hR⟩:=hv.at_ J;refine ⟨fun D zb uQ sM wz lW BJ rP w_=>Fx D 0 [rP=kt b o vs.length cap,BJ=ee j,lW=kh b (o+j * 1),wz=ee vs[j],sM=kh b1 1,uQ=ee n,zb=.bool (decide (vs[j]=n))]/\Inv w [] [ei b1 #[ee k,ee n,.string s,kv] ac,ei b2 et ac,ei b3 #[ee k,ee p,.string s,nx] ac] S w_,⟨Fx.nil _ _,a.draw⟩,⟨?_,?_,?_,?_,?_,?_,?_,trivial⟩,?_⟩;all_goals (intro D bp;intros;rename_i zb uQ sM wz lW BJ rP w_ a1;have l:=a1.1;obtain ⟨⟨cF,ci,cG,cD,bU,cH,cj,_⟩,a⟩:=a1)
   ·exact ⟨l.set 0 rfl,a⟩
   ·exact ⟨l.set 1 rfl,a⟩
   ·obtain rfl:=cF ‹_›;obtain rfl:=ci ‹_›;refine aN ff J ?_;exact ⟨l.set 2 rfl,a⟩
   ·obtain rfl:=cG ‹_›;refine eD au (by rw [a.cellS hS];exact bf hR 0 _ rfl) ?_;exact ⟨l.set 3 rfl,a⟩
   ·refine ax aR ?_;exact ⟨l.set 4 rfl,a⟩
   ·obtain rfl:=bU ‹_›;refine aG a 0 au rfl rfl ?_;exact ⟨l.set 5 rfl,a⟩
   ·obtain rfl:=cD ‹_›;obtain rfl:=cH ‹_›;refine a9 ?_;exact ⟨l.set 6 rfl,a⟩
   obtain ⟨rfl,rfl,rfl,rfl,rfl,rfl,rfl,_⟩:=l.all;clear l cF ci cG cD bU cH cj;refine aJ (fun he=>?_) (fun he=>?_)
   ·rw [ag he];exact cq a 2 rfl aR au rfl rfl rfl fun w' a=>a
   ·rw [ae he];exact a
  intro _ _ _ _ _ _ _ _ _ w' a;refine bL (by omega) ?_;exact ⟨⟨j+1,_,J,rfl,by rw [ag hk];exact B,a⟩,by simp [intOf];omega⟩
 have a4:p=N:=by
  by_cases hk:k=1
  ·rw [ag hk] at B;have:j=vs.length:=by
    have:decide (j<vs.length)=false:=by
     rw [aD hk,OS] at hb;exact hb
    have:=of_decide_eq_false this;omega
   rw [this,eL] at B;exact B
  ·rw [ae hk] at B;exact B
 clear B hb;subst a4;have a:=a.rowNil ac 4;refine ⟨fun i w'=>∃ (j:Nat) (r:Value) (Ls:List bN) (css:List (nA)),j<=ks.length/\i=ee j/\Grown 4 TrT Ls css (dP vs (ks.take j))/\
   Inv w [] (ei b1 #[ee k,ee n,.string s,kv] ac::.blk b2 (.cells et ac)::.blk b3 (.cells #[ee k,ee p,.string s,r] ac)::aB r ac 4 css::bO Ls.flatten) S w',
  fun i _=>ks.length - (intOf i).toNat,⟨0,_,[],[],aT _,rfl,Grown.nil _ _,a⟩,?_⟩
 intro t7 _ _ _ _ _ _ _ _ _ _ _ _ _ _ _ _ _ _ _ w';rintro ⟨j,r,Ls,css,hj,rfl,hg,a⟩;refine ah a 0 rfl az aw rfl ?_;refine aO a2 ao ?_;refine cd ?_;refine aJ (fun J=>?_) (fun J=>?_)
 ·have a0:j<ks.length:=by omega
  have b7:(ks.take j).length=j:=by simp;omega
  have b5:=hg.hc;rw [kP] at b5;have hm:=cO a0;have b9:=ni hm;obtain ⟨b,o,cap,c,E,fz,rfl,hS,hR⟩:=a2.at_ a0;refine ⟨fun D rp lM rB pN pq oV nL ov ny m8 kI mx w_=>Fx D 0 [mx=kh b3 3,kI=r,m8=kh b1 3,ny=kt b o ks.length cap,ov=ee j,nL=kh b (o+j * 4),oV=.agg (bJ c (o+j * 4) 4).toArray,pq=v,True,True,True,rp=kh b3 3,True]/\∃ M g C,(D 8=true->pN=.agg g.toArray/\TrT M g (dE vs ks[j]))/\(D 9=true->rB=kt C 0 1 1)/\(D 9=true->D 8=true)/\(D 10=true->D 9=true)/\(D 12=true->D 10=true)/\(D 12=true->D 1=true)/\Inv w [] (bC (ei b1 #[ee k,ee n,.string s,kt b o ks.length cap] ac) (ei b2 et ac) (ei b3 #[ee k,ee p,.string s,r] ac) (ei b3 #[ee k,ee p,.string s,lM] ac) (aB r ac 4 css) (aB lM ac 4 (css++[g])) (bO Ls.flatten) M (ei C g.toArray ac) (D 8) (D 9) (D 10) (D 12)) S w_,⟨Fx.nil _ _,⟨[],[],0,aU,aU,aU,aU,aU,aU,by simpa [bC,bO] using a.draw⟩⟩,⟨?_,?_,?_,?_,?_,?_,?_,?_,?_,?_,?_,?_,?_,trivial⟩,?_⟩;all_goals (intro D bp;intros;rename_i rp lM rB pN pq oV nL ov ny m8 kI mx w_ a1;have l:=a1.1;obtain ⟨⟨cF,ci,cG,cD,bU,cH,cj,cR,dJ,dQ,cJ,dv,eG,_⟩,⟨M,g,C,O,Z,V,U,q,Y,a⟩⟩:=a1)
  ·refine ax az ?_;exact ⟨l.set 0 rfl,⟨M,g,C,O,Z,V,U,q,Y,a⟩⟩
  ·obtain rfl:=cF ‹_›;have G:D 12=false:=bA.2 fun h=>by rw [Y h] at bp;cases bp
   refine aG (b:=b3) a 2 (c:=(#[ee k,ee p,.string s,r])) aw (by rw [G];rfl) rfl ?_;have Y:=fun (_:aF D 1 12=true)=>(rfl:aF D 1 1=true)
   exact ⟨l.set 1 rfl,⟨M,g,C,O,Z,V,U,q,Y,a⟩⟩
  ·refine ax az ?_;exact ⟨l.set 2 rfl,⟨M,g,C,O,Z,V,U,q,Y,a⟩⟩
  ·obtain rfl:=cG ‹_›;refine aG a 0 aw rfl rfl ?_;exact ⟨l.set 3 rfl,⟨M,g,C,O,Z,V,U,q,Y,a⟩⟩
  ·exact ⟨l.set 4 rfl,⟨M,g,C,O,Z,V,U,q,Y,a⟩⟩
  ·obtain rfl:=cD ‹_›;obtain rfl:=bU ‹_›;refine aN ao a0 ?_;exact ⟨l.set 5 rfl,⟨M,g,C,O,Z,V,U,q,Y,a⟩⟩
  ·obtain rfl:=cH ‹_›;refine eE af hR.length (fun j v hj=>by rw [a.cellS hS];exact bf rfl j v hj) ?_;exact ⟨l.set 6 rfl,⟨M,g,C,O,Z,V,U,q,Y,a⟩⟩
  ·exact ⟨l.set 7 rfl,⟨M,g,C,O,Z,V,U,q,Y,a⟩⟩
  ·obtain rfl:=cj ‹_›;obtain rfl:=cR ‹_›;have f8:D 9=false:=bA.2 fun h=>by rw [V h] at bp;cases bp
   have f9:D 10=false:=bA.2 fun h=>by rw [U h] at f8;cases f8
   have G:D 12=false:=bA.2 fun h=>by rw [q h] at f9;cases f9
   rw [bp,f8,f9,G] at a;refine Run.call0 vj u5 a (ih _ (cO a0) S _ _ hR hv (by omega)) fun v' I' S w_=>?_;rintro ⟨rfl,g,M,rfl,rfl,hT⟩ _ a;have O:aF D 8 8=true->Value.agg g.toArray=Value.agg g.toArray/\TrT M g (dE vs ks[j]):=fun _=>⟨rfl,hT⟩
   have V:=fun (_:aF D 8 9=true)=>(rfl:aF D 8 8=true)
   have a:Inv w [] (bC (ei b1 #[ee k,ee n,.string s,kt b o ks.length cap] ac) (ei b2 et ac) (ei b3 #[ee k,ee p,.string s,r] ac) (ei b3 #[ee k,ee p,.string s,lM] ac) (aB r ac 4 css) (aB lM ac 4 (css++[g])) (bO Ls.flatten) M (ei C g.toArray ac) true (D 9) (D 10) (D 12)) S w_:=by
    rw [f8,f9,G];simpa [bC] using a
   exact ⟨l.set 8 (by first|assumption|trivial),⟨M,g,C,O,Z,V,U,q,Y,a⟩⟩
  ·have z4:=dJ ‹_›;have f9:D 10=false:=bA.2 fun h=>by rw [U h] at bp;cases bp
   have G:D 12=false:=bA.2 fun h=>by rw [q h] at f9;cases f9
   obtain ⟨q7,hT⟩:=O ‹D 8=true›;subst q7;rw [‹D 8=true›,bp,f9,G] at a;refine eO a bi (by simp [Value.cells,hT.length]) (by omega) (by omega) fun C w_ a=>?_;have O:aF D 9 8=true->Value.agg g.toArray=Value.agg g.toArray/\TrT M g (dE vs ks[j]):=fun _=>⟨rfl,hT⟩
   have Z:=fun (_:aF D 9 9=true)=>(rfl:Value.slice (some ⟨C,0,none⟩) 1 1=_)
   have V:=fun (_:aF D 9 9=true)=>‹D 8=true›;have U:=fun (_:aF D 9 10=true)=>(rfl:aF D 9 9=true)
   have a:Inv w [] (bC (ei b1 #[ee k,ee n,.string s,kt b o ks.length cap] ac) (ei b2 et ac) (ei b3 #[ee k,ee p,.string s,r] ac) (ei b3 #[ee k,ee p,.string s,lM] ac) (aB r ac 4 css) (aB lM ac 4 (css++[g])) (bO Ls.flatten) M (ei C g.toArray ac) (D 8) true (D 10) (D 12)) S w_:=by
    rw [‹D 8=true›,f9,G];simpa [bC,Value.cells] using a
   exact ⟨l.set 9 (by first|assumption|trivial),⟨M,g,C,O,Z,V,U,q,Y,a⟩⟩
  ·obtain rfl:=ci ‹_›;have Ds:=dQ ‹_›;have G:D 12=false:=bA.2 fun h=>by rw [q h] at bp;cases bp
   have q8:=Z ‹D 9=true›;subst q8;obtain ⟨_,hT⟩:=O ‹D 8=true›;rw [‹D 8=true›,‹D 9=true›,bp,G] at a;have a5:((bC (ei b1 #[ee k,ee n,.string s,kt b o ks.length cap] ac) (ei b2 et ac) (ei b3 #[ee k,ee p,.string s,kI] ac) (ei b3 #[ee k,ee p,.string s,lM] ac) (aB kI ac 4 css) (aB lM ac 4 (css++[g])) (bO Ls.flatten) M (ei C g.toArray ac) true true false false))[4+(bO Ls.flatten).length+(bO M).length]?=some (ei C g.toArray ac):=by
    have e4:4+(bO Ls.flatten).length+(bO M).length=((bO Ls.flatten).length+(bO M).length)+1+1+1+1:=by omega
    rw [e4];simp only [bC,mG];rw [jV (by omega),qx,jV (aY _),fB];rfl
   refine fl a 3 g bi (by omega) rfl (by rw [hT.length]) (m:=1) (o:=0) ?_ hT.one (by omega) (by omega) fun v' w_ a=>?_
   ·intro i u hi;rw [a.cellL a5,cS];simpa using hi
   rw [fO] at a;have U:=fun (_:aF D 10 10=true)=>‹D 9=true›;have q:=fun (_:aF D 10 12=true)=>(rfl:aF D 10 10=true)
   have a:Inv w [] (bC (ei b1 #[ee k,ee n,.string s,kt b o ks.length cap] ac) (ei b2 et ac) (ei b3 #[ee k,ee p,.string s,kI] ac) (ei b3 #[ee k,ee p,.string s,v'] ac) (aB kI ac 4 css) (aB v' ac 4 (css++[g])) (bO Ls.flatten) M (ei C g.toArray ac) (D 8) (D 9) true (D 12)) S w_:=by
    rw [‹D 8=true›,‹D 9=true›,G];exact a
   exact ⟨l.set 10 (by first|assumption|trivial),⟨M,g,C,O,Z,V,U,q,Y,a⟩⟩
  ·refine ax az ?_;exact ⟨l.set 11 rfl,⟨M,g,C,O,Z,V,U,q,Y,a⟩⟩
  ·obtain rfl:=dv ‹_›;have xg:=cJ ‹_›;rw [‹D 8=true›,‹D 9=true›,‹D 10=true›,bp] at a;obtain ⟨va,vn,vc,a3⟩:=Inv.rowSlice a 3 rfl;refine eV a 2 (n:=1) (by rw [a3];rfl) (by decide +kernel) rfl (by simp) (by rw [a3];simp [Value.cells,Value.oneCell']) fun w_ a=>?_;have a6:Value.cells lM=#[lM]:=by rw [a3];rfl
   rw [a6] at a;have Y:=fun (_:aF D 12 12=true)=>‹D 1=true›;have q:=fun (_:aF D 12 12=true)=>‹D 10=true›;have a:Inv w [] (bC (ei b1 #[ee k,ee n,.string s,kt b o ks.length cap] ac) (ei b2 et ac) (ei b3 #[ee k,ee p,.string s,r] ac) (ei b3 #[ee k,ee p,.string s,lM] ac) (aB r ac 4 css) (aB lM ac 4 (css++[g])) (bO Ls.flatten) M (ei C g.toArray ac) (D 8) (D 9) (D 10) true) S w_:=by
    rw [‹D 8=true›,‹D 9=true›,‹D 10=true›];exact a
   exact ⟨l.set 12 trivial,⟨M,g,C,O,Z,V,U,q,Y,a⟩⟩
  obtain ⟨rfl,rfl,rfl,rfl,rfl,rfl,rfl,rfl,z4,Ds,xg,rfl,_,_⟩:=l.all;have H7:D 8=true:=by assumption
  have Jw:D 9=true:=by assumption
  have C3:D 10=true:=by assumption
  have r4:D 12=true:=by assumption
  clear l cF ci cG cD bU cH cj cR dJ dQ cJ dv eG;obtain ⟨_,hT⟩:=O H7;rw [H7,Jw,C3,r4] at a;refine bL (by omega) ?_;refine ⟨⟨j+1,lM,Ls++[M],css++[g],a0,rfl,?_,?_⟩,by simp [intOf];omega⟩
  ·rw [Er vs ks j a0];exact hg.snoc hT hT.length
  ·simp only [y5,gR,sU,dk,ft];refine a.sub ?_;simp only [bC];rw [<- cN];exact (((gV _ _).cons_cons _).cons_cons _).cons_cons _ |>.cons_cons _
 ·have:j=ks.length:=by omega
  subst this;rw [g7] at hg;obtain ⟨va,vn,vc,b0⟩:=a.rowSlice 3 rfl;have b6:r.oneCell'=true:=by rw [b0];rfl
  refine aq a 2 af rfl rfl ?_;refine aj a 1 rfl af rfl rfl ?_ fun w' a=>?_
  ·intro u hu;have a7:u∈([ee k,ee p,.string s,r]:nA):=hu;simp at a7;rcases a7 with rfl|rfl|rfl|rfl <;> first|rfl|exact b6
  refine be a 1 af rfl rfl ?_;have a:Inv w [] ([]++(aB r ac 4 css::bO Ls.flatten)) S w':=a.sub (fj [_,_,_] _);obtain ⟨L,hT,a⟩:=Inv.rowTree a hg;exact ⟨_,_,_,rfl,a,Ext.refl _ _ _,rfl,_,L,rfl,rfl,TrT.iff.2 ⟨r,by rw [dE,<- hN];rfl,by rw [dE];exact h1,by rw [dE,<- hN];exact b4,by rw [dE];exact hs,by rw [dE];exact hT⟩⟩
end
end
section
open Go Go.RowKit
section
variable {w:World} {K:Value->World->Prop}
theorem Gh (hk:K (.agg eu) w):Run Tryz.prog (cr ad []) w K:=by
 refine Run.of (v:=.agg eu) (w':=w) ?_ hk;unfold cr;rw [Sem.run_bind,run_build w ad _ eu (by kernel_rfl),Result.andThen_ok];rfl
end
theorem M9 (ts:List T) (j:Nat) (h:j<ts.length) (l:List Int):cE (ts.drop j) l=cE (ts.drop (j+1)) (fh ts[j] l):=by
 rw [ef h,cE]
section
theorem AM {ts:List T} {S:ai} {v:Value} (h:RdSl S 4 (RdT S) v ts) (hw:ts.length+wL ts<=1048577):nB Fa [v] [] S (RN 4 TrT S (dP (cE ts []) ts)):=by
 intro w a;have D:=h.le;simp only [maxLen] at D;have G:=Ej ts;refine rq.2 ?_;dsimp only[rq,bd];refine eZ a iX fun v0 w' a=>?_;refine ⟨fun i t w'=>∃ (j:Nat) (l:List Int),j<=ts.length/\i=ee j/\cE (ts.drop j) l=cE ts []/\l.length+bo (ts.drop j)<=3000000/\Inv w [] [cA t l] S w',
  fun i _ _=>ts.length - (intOf i).toNat,⟨0,[],aT _,rfl,rfl,by simp only [fe,ce];omega,a⟩,?_⟩
 intro t4 _ _ Y _ _ _ _ _ _ _ _ _ _ w';rintro ⟨j,l,hj,rfl,m,N,a⟩;refine aO h ao ?_;refine cd ?_;refine aJ (fun O=>?_) (fun O=>?_)
 ·have p:j<ts.length:=by omega
  rw [p7 ts j p] at N;rw [M9 ts j p] at m;have Z:=ch (ts.drop (j+1));have a0:=Bc ts[j] l;refine dj a h ao af p (fun _ _=>RdT.length) fun o C=>?_;refine Run.call (A:=[]) oe nT a (Km _ S o Y l C (by omega)) fun v' I' S' w'=>?_;rintro ⟨rfl,rfl⟩ _ a;refine bL (by omega) ?_;exact ⟨⟨j+1,_,p,rfl,m,by omega,a⟩,by simp [intOf];omega⟩
 have:j=ts.length:=by omega
 subst this;rw [eL,cE] at m;rw [eL] at N;subst m;have J:(cE ts []).length<=1000000000:=by
  have:bo ([]:List T)=0:=rfl;omega
 clear N;generalize cE ts []=vs at a J ⊢;obtain ⟨S1,g,r,a,_⟩:=Inv.lend (A:=[]) a;have r:=r.ints;have h:=h.mono g fun _ _ h=>h.mono g;refine eZ a bi fun v1 w' a=>?_;refine ⟨fun i t w'=>∃ (k:Nat) (Ls:List bN) (css:List (nA)),k<=ts.length/\i=ee k/\Grown 4 TrT Ls css (dP vs (ts.take k))/\Inv w [] (aB t ac 4 css::bO Ls.flatten) S1 w',
  fun i _ _=>ts.length - (intOf i).toNat,⟨0,[],[],aT _,rfl,Grown.nil _ _,a⟩,?_⟩
 intro t6 _ _ t5 _ _ _ _ _ _ _ _ _ _ _ _ _ w';rintro ⟨k,Ls,css,hk,rfl,M,a⟩;refine aO h ao ?_;refine cd ?_;refine aJ (fun U=>?_) (fun U=>?_)
 ·have q:k<ts.length:=by omega
  have a1:(ts.take k).length=k:=by simp;omega
  have G:=M.hc;rw [kP] at G;have hm:=cO q;have a2:=ni hm;refine dj a h ao af q (fun _ _=>RdT.length) fun cs V=>?_;refine Run.call0 vj u5 a (EL vs J _ S1 cs _ V r (by omega)) fun v' I' S' w'=>?_;rintro ⟨rfl,o,L,rfl,rfl,B⟩ _ a;refine dB a 0 o bi (by omega) (by omega) rfl B.length B.one (by omega) (by omega) fun v' w' a=>?_;refine bL (by omega) ?_;refine ⟨⟨k+1,Ls++[L],css++[o],q,rfl,?_,?_⟩,by simp [intOf];omega⟩
  ·rw [Er vs ts k q];exact M.snoc B B.length
  ·simp only [y5,gR,sU,dk,ft];exact a
 ·have:k=ts.length:=by omega
  subst this;rw [g7] at M;obtain ⟨L,B,a⟩:=Inv.rowTree (A:=[]) a M;exact ⟨_,_,_,rfl,a.less g,Ext.refl _ _ _,rfl,_,rfl,B⟩
abbrev W6 (c:C):Value->List Item->ai->Prop:=fun v I' S'=>I'=[]/\∃ cs,v=.agg cs.toArray/\RdC S' cs c
def Wp (c:C):C:=if aZ c=true then vD (cC c) c else ⟨⟨0,0,⟨#[]⟩,[]⟩,[]⟩
theorem RdC.zero (S:ai):RdC S [ee 0,ee 0,.string ⟨#[]⟩,nx,nx] ⟨⟨0,0,⟨#[]⟩,[]⟩,[]⟩:=
 ⟨[ee 0,ee 0,.string ⟨#[]⟩,nx],nx,rfl,RdT.iff.2 ⟨_,rfl,by simp [inI,T.kind],by simp [inI,T.n],by rw [T.name];decide +kernel,⟨none,0,rfl,aY _,aT _,.inl rfl⟩⟩,⟨none,0,rfl,aY _,aT _,.inl rfl⟩⟩
end
end
section
open Go Go.RowKit
mutual
def nc:T->Int->Bool
 | .mk _ _ _ ks,d=>if d<1 then false else De ks (d - 1)
def De:List T->Int->Bool
 | [],_=>true
 | t::ts,d=>nc t d && De ts d
end
theorem zc:∀ (ts:List T) (d:Int),De ts d=ts.all fun t=>nc t d
 | [],_=>rfl
 | t::ts,d=>by rw [De,zc ts d];rfl
def dt (u:T):Bool:=decide (bR u<=120) && nc u 30
theorem Ay (us:List T) (j:Nat) (h:j<us.length):bo (us.take (j+1))=bo (us.take j)+bR us[j]:=by
 induction us generalizing j with
 | nil=>simp at h
 | cons u us a=>
  cases j with
  | zero=>simp only [En,JG,pQ,bo];omega
  | succ j=>
   have:=a j (by simpa using h);simp only [En,UZ,bo] at *;omega
theorem qG (us:List T) (j:Nat):bo (us.take j)<=bo us:=by
 induction us generalizing j with
 | nil=>simp
 | cons u us a=>
  cases j with
  | zero=>simp only [JG];exact ch _
  | succ j=>
   have:=a j;simp only [En,bo];omega
theorem iV (k n:Int) (s:ByteArray) (ks:List T):bR (.mk k n s ks)=1+bo ks:=rfl
theorem fP {w:World} {v:Value} {e:TypeId} {k n:Nat} {xs:nA} (h:(Item.row v e k n xs).holds w):v.cells=#[v]/\v.oneCell'=true:=by
 have h:w.ownsRow 0 e k v n xs:=h;rcases h.2 with ⟨rfl,_⟩|⟨g,cap,a,rfl,_⟩ <;> exact ⟨rfl,rfl⟩
section
theorem j5 {K:Value->World->Prop} {w:World} (hk:K (.agg et) w):Run Tryz.prog (cr ac []) w K:=by
 refine Run.of ?_ hk
 kernel_rfl
theorem KP:∀ (t:T) (d:Int) (S:ai) (cs:nA),RdT S cs t->-1000000<=d->d<=1000000->ru OV [.agg cs.toArray,ee d] S (.bool (nc t d)):=by
 refine T.ind fun k n s ks J d S cs h M N=>?_;intro w a;obtain ⟨kv,rfl,_,_,_,m⟩:=RdT.iff.1 h;simp only [T.name,T.kids,T.kind,T.n] at m ⊢;have p:=m.le;simp only [maxLen] at p;refine CK.2 ?_;dsimp only[CK,bv];refine bH a fun O w' a=>?_;rw [nc];refine cd ?_;refine aJ (fun r=>?_) (fun r=>?_)
 ·rw [ag r];exact done a rfl
 rw [ae r,zc];refine ⟨fun i w'=>∃ j:Nat,j<=ks.length/\i=ee j/\((ks.drop j).all fun t=>nc t (d - 1))=(ks.all fun t=>nc t (d - 1))/\Inv w [] [ei O #[ee k,ee n,.string s,kv] ac] S w',
  fun i _=>ks.length - (intOf i).toNat,⟨0,aT _,rfl,rfl,a⟩,?_⟩
 intro V _ _ _ _ _ _ _ _ _ _ _ _ _ _ _ _ _ w';rintro ⟨j,Y,rfl,g,a⟩;refine ah a 0 rfl az aw rfl ?_;refine aO m ao ?_;refine cd ?_;refine aJ (fun B=>?_) (fun B=>?_)
 ·have o:j<ks.length:=by omega
  have l:=zF (fun t=>nc t (d - 1)) ks j o;refine ah a 0 rfl az aw rfl ?_;refine dj a m ao af o (fun _ _=>RdT.length) fun cs C=>?_;refine jl (by omega) ?_;refine Run.callPure CD C2 a (J _ (cO o) (d - 1) S cs C (by omega) (by omega)) fun w' a=>?_;refine c8 ?_;refine aL (fun D=>done a ?_) (fun U=>?_)
  ·have q:nc ks[j] (d - 1)=false:=by simpa using D
   rw [<- g,l,q];rfl
  ·have G:nc ks[j] (d - 1)=true:=by simpa using U
   refine bL (by omega) ?_;exact ⟨⟨j+1,o,rfl,by rw [<- g,l,G];rfl,a⟩,by simp [intOf];omega⟩
 ·have:j=ks.length:=by omega
  subst this;exact done a (by rw [<- g,eL];rfl)
def Yx (kb:Nat) (kc:Array Value) (u:T) (room:Int):Value->List Item->ai->Prop:=fun q I' S'=>I'=[ei kb kc ac]/\
 ∃ cs':List Value,cs'.length=4/\(∀ x∈cs',x.oneCell'=true)/\q=.tuple #[.agg cs'.toArray,ee (if bR u<=room then room - bR u else -1)]/\(bR u<=room->RdT S' cs' u)
def FC (N kp:Nat) (st:bb) (t u:T):Prop:=∀ (S:ai) (cs:List Value) (kb:Nat) (kc:Array Value) (room:Int),RdT S cs t->KnU S kc st->-1<=room->room<=1000000->
 Tri Tryz.prog Pf [.agg cs.toArray,kvU kb N kp,ee room] [ei kb kc ac] S (Yx kb kc u room)
theorem jh:∀ x∈([ee 0,ee 0,.string ⟨#[]⟩,nx]:nA),x.oneCell'=true:=by simp [Value.oneCell']
theorem LZ {N kp:Nat} {st:bb} {t v:T} {us:List T} (hg:Good N st) (a1:eq st t v) (a2:okU N t/\wB t) (c8:us.length=v.kids.length)
  (hk:∀ i (h:i<us.length) (h':i<v.kids.length),FC N kp st v.kids[i] us[i]):FC N kp st t (.mk v.kind v.n v.name us):=by
 intro S cs r B m h a3 c9 d0 w a;have b0:=h.length;have c2:=eB hg a1 a2;obtain ⟨X,hX⟩:∃ X,X=cg [Item.blk r (.cells B ac)]:=⟨_,rfl⟩
 rw [<- hX] at a ⊢;have d4:=ch us;refine nX.2 ?_;dsimp only[nX,eX];refine bH a fun b3 w' a=>?_;refine aE a aQ fun V w' a=>?_;have a:Inv w X ([ei b3 cs.toArray ac,ei V et ac]++[ei r B ac]) S w':=a.perm (bD (l₁:=[_,_]) (l₂:=[_]));refine cd ?_;refine aJ (fun b4=>?_) (fun b4=>?_)
 ·refine j5 ?_;refine aj a 1 rfl af rfl rfl jh fun w' a=>?_;refine be a 1 af rfl rfl ?_;refine ⟨_,_,_,rfl,a.pick [false,false,true],Ext.refl _ _ _,rfl,_,rfl,jh,?_,fun h=>?_⟩
  ·rw [iV,ae (by omega)]
  ·rw [iV] at h;omega
 refine aq a 0 af rfl (by simpa using b0) ?_;refine Run.call om n5 a (pX hg a1 a2.1 h a3) fun v' I' S' w'=>?_;rintro ⟨eS,rfl,d1,rfl,C⟩ _ a;rw [eS] at a;clear eS;refine aj a 0 rfl af (by simpa using C.length) (by simpa using b0) (by simpa using C.one) fun w' a=>?_;obtain ⟨kv,rfl,b9,c1,hs,a0⟩:=RdT.iff.1 C;have a:Inv w X [ei b3 (ku v kv) ac,ei V et ac,ei r B ac] S w':=a;have c5:=a0.le;have d6:v.kids.length<=1048576:=((PF v).1 c2.2).1;refine ah a 0 rfl aW au rfl ?_;refine ah a 0 rfl aR au rfl ?_;refine ah a 0 rfl bu aV rfl ?_;refine jO ?_;refine aE a aQ fun J w' a=>?_;have a:Inv w X [ei b3 (ku v kv) ac,ei V et ac,.blk J _,ei r B ac] S w':=a.perm (((bD (l₁:=[_]) (l₂:=[_])).cons _).cons _);refine aj a 2 rfl af rfl rfl (by simp [Value.oneCell']) fun w' a=>?_;refine jl (by omega) ?_;have a:=a.rowNil ac 4;have a:Inv w X [ei b3 (ku v kv) ac,ei V et ac,ei J (ku v (nx)) ac,aB (nx) ac 4 [],ei r B ac] S w':=a.perm ((((bD (l₁:=[_]) (l₂:=[_])).cons _).cons _).cons _);refine ⟨fun i l w'=>∃ (j:Nat) (left:Int) (g:Value) (css:List (nA)) (S1:ai),j<=us.length/\i=ee j/\l=ee left/\Ext w.heap.size X S S1/\css.length=j/\
   ((left=m - 1 - bo (us.take j)/\0<=left/\Rows 4 (RdT S1) css (us.take j)) ∨ (left=-1/\m - 1<bo us))/\
   Inv w X [ei b3 (ku v kv) ac,ei V et ac,ei J (ku v g) ac,aB g ac 4 css,ei r B ac] S1 w',
  fun i _ _=>us.length - (intOf i).toNat,⟨0,m - 1,_,[],S,aT _,rfl,rfl,Ext.refl _ _ _,rfl,.inl ⟨by simp [bo],by omega,Rows.nil _ _⟩,a⟩,?_⟩
 intro d2 _ _ t9 _ _ _ _ _ _ _ _ _ _ _ _ _ _ _ _ _ _ _ _ _ _ _ _ _ _ _ _ _ w';rintro ⟨j,left,g,css,S1,hj,rfl,rfl,hE,b2,a4,a⟩;refine ⟨fun q w'=>q=.bool (decide (j<us.length/\0<=left))/\Inv w X [ei b3 (ku v kv) ac,ei V et ac,ei J (ku v g) ac,aB g ac 4 css,ei r B ac] S1 w',?_,?_⟩
 ·refine ah a 0 rfl az aw rfl ?_;refine aO a0 ao ?_;refine cd ?_;by_cases e1:(j:Int)<(v.kids.length:Nat)
  ·rw [aD e1];refine rpG ?_;refine iK ?_;refine rpG ?_;refine ⟨?_,a⟩
   congr 1
   rw [sD,bK,bK];omega
  ·rw [aM e1];refine rpG ?_;refine ⟨?_,a⟩;rw [aM (by omega)]
 intro q _ _ _ _ _ _ _ _ w';rintro ⟨rfl,a⟩;refine aJ (fun a7=>?_) (fun a7=>?_)
 ·obtain ⟨Y,d3⟩:=a7;have b1:j<v.kids.length:=by omega
  obtain ⟨hleft,_,hR⟩:left=m - 1 - bo (us.take j)/\0<=left/\Rows 4 (RdT S1) css (us.take j):=by
   rcases a4 with h1|⟨h1,_⟩
   ·exact h1
   ·omega
  have c6:=ch (us.take j);refine ah a 0 rfl az aw rfl ?_;refine dj a (a0.monoT hE.1) ao af b1 (fun _ _=>RdT.length) fun b5 a8=>?_;have a:Inv w X ([ei b3 (ku v kv) ac,ei V et ac,ei J (ku v g) ac,aB g ac 4 css]++[ei r B ac]) S1 _:=a;refine Run.callE tA rS a (hk j Y b1 S1 b5 r B left a8 (a3.mono hE.1) (by omega) (by omega)) fun v' I' S2 w'=>?_;rintro ⟨rfl,O,U,a5,rfl,Z⟩ a6 a;refine aA rfl ?_;refine aA rfl ?_;refine aE a aQ fun b7 w' a=>?_;have a:=a.perm (M:=.blk b7 _::[ei b3 (ku v kv) ac,ei V et ac,ei J (ku v g) ac,aB g ac 4 css,ei r B ac]) (bD (l₁:=[_]));refine aj a 0 rfl af (by simpa using U) rfl (by simpa using a5) fun w' a=>?_;refine ah (b:=J) (c:=(ku v g)) a 3 rfl az aw rfl ?_;refine aq a 0 af rfl (by simpa using U) ?_;refine dB a 4 O bi (by omega) (by omega) rfl U a5 (by omega) (by omega) fun o w' a=>?_;have p:=fP (a.its (aB o ac 4 (css++[O])) (by simp));refine cq (b:=J) (c:=(ku v g)) a 3 rfl az aw rfl p.1 p.2 fun w' a=>?_;have a:Inv w X [ei b3 (ku v kv) ac,ei V et ac,ei J (ku v o) ac,aB o ac 4 (css++[O]),ei r B ac] S2 w':=a.pick [false,true,true,true,true,true];refine bL (by omega) ?_;have d7:=Ay us j Y;have c7:=qG us (j+1);have d9:=dw us[j];refine ⟨⟨j+1,_,o,css++[O],S2,Y,rfl,rfl,hE.trans a6,by simp [b2],?_,a⟩,by simp [intOf];omega⟩;by_cases G:bR us[j]<=left
  ·left;rw [ag G];refine ⟨by omega,by omega,?_⟩;rw [gt Y];exact (hR.monoR fun _ _ h=>RdT.mono a6.1 h).snoc (Z G) U
  ·right;rw [ae G];exact ⟨rfl,by omega⟩
 ·refine aq (b:=J) (c:=(ku v g)) a 2 af rfl rfl ?_;have p:=fP (a.its (aB g ac 4 css) (by simp));have D:∀ x∈((kB v g):nA),x.oneCell'=true:=by
   intro x hx;simp at hx;rcases hx with rfl|rfl|rfl|rfl <;> first|rfl|exact p.2
  refine aj a 1 rfl af rfl rfl D fun w' a=>?_;refine be (c:=(ku v g)) a 1 af rfl rfl ?_;have a:Inv w X ([ei r B ac]++[aB g ac 4 css]) S1 w':=(a.pick [false,false,false,true,true]).perm (List.Perm.swap ..);rcases a4 with ⟨h1,h2,hR⟩|⟨h1,h2⟩
  ·have c3:j=us.length:=by omega
   rw [c3,g7] at h1 hR;obtain ⟨S3,a9,Z,a⟩:=a.lendExt;have c4:=RowRd.rows (hR.monoR fun _ _ h=>RdT.mono a9.1 h) Z;refine ⟨_,_,_,rfl,a,hE.trans a9,rfl,(kB v g),rfl,D,?_,fun _=>RdT.iff.2 ⟨g,rfl,b9,c1,hs,c4⟩⟩;rw [iV,ag (by omega),show left=m - (1+bo us) by omega]
  ·refine ⟨_,_,_,rfl,a.sub (gV _ _),hE,rfl,(kB v g),rfl,D,?_,fun h=>?_⟩
   ·rw [iV,ae (by omega),h1]
   ·rw [iV] at h;omega
theorem zz {N kp:Nat} {st:bb} (o:Good N st) {j:P5} (r:Res st j):match j with
  | .one t u=>(okU N t/\wB t)->FC N kp st t u
  | .list ts us=>(∀ t∈ts,okU N t/\wB t)->us.length=ts.length/\∀ i (h:i<us.length) (p:i<ts.length),FC N kp st ts[i] us[i]:=by
 induction r with
 | one q _ D=>
  intro a;have g:=D (lk (eB o q a));exact LZ o q a g.1 g.2
 | nil=>exact fun _=>⟨rfl,fun i h _=>by simp at h⟩
 | cons _ _ l m=>
  intro a;obtain ⟨g,C⟩:=m fun t B=>a t (bI _ B);refine ⟨by simp [g],fun i h p=>?_⟩;cases i with
  | zero=>exact l (a _ (bF ..))
  | succ i=>exact C i (by simpa using h) (by simpa using p)
def Xn (kb:Nat) (kc:Array Value) (u:T):Value->List Item->ai->Prop:=fun q I' S'=>I'=[ei kb kc ac]/\
 ∃ cs':List Value,cs'.length=4/\(∀ x∈cs',x.oneCell'=true)/\q=.tuple #[.agg cs'.toArray,.bool (dt u)]/\(dt u=true->RdT S' cs' u)
end
end
section
open Go Go.RowKit
end
section
open Go Go.RowKit
theorem iO {s:ByteArray} (h:fw s=true):s.size<=6:=by
 rw [fw,na] at h;rcases h with h|h
 ·rw [mf] at h;simp only [bQ,bK] at h;exact h.2.2
 ·simp only [List.any_eq_true,bK] at h;obtain ⟨x,a,rfl⟩:=h;have:∀ y∈signs,y.size<=6:=by decide +kernel
  exact this x a
theorem P1 {t:T} (h:fR t=true):t.name.size<=6:=by
 unfold fR at h;have j:emptyB.size=0:=by decide +kernel
 by_cases a:t.kind=1
 ·rw [ag a] at h;simp only [bQ,bK] at h;rw [h.2.2.1];omega
 ·rw [ae a] at h;by_cases g:t.kind=2
  ·rw [ag g] at h;simp only [bQ,bK] at h;rw [h.2.2.1];omega
  ·rw [ae g] at h;by_cases i:t.kind=3
   ·rw [ag i] at h;simp only [bQ,bK] at h;exact iO h.2.1
   ·rw [ae i] at h;cases h
theorem PD {t:T} (h:fR t=true):t.kind=1 ∨ t.kind=2 ∨ t.kind=3:=by
 by_cases a:t.kind=1
 ·exact .inl a
 ·by_cases g:t.kind=2
  ·exact .inr (.inl g)
  ·by_cases i:t.kind=3
   ·exact .inr (.inr i)
   ·exfalso;unfold fR at h;rw [ae a,ae g,ae i] at h;cases h
mutual
theorem IE:∀ (t:T) (d:Int),dC t d=true->okU 26 t
 | .mk k n s ks,d,h=>by
  rw [dC] at h;split at h
  ·cases h
  ·rw [bQ] at h;have i:=VN h.1;have j:=fun hk=>MZ h.1 hk;have l:=P1 h.1;rw [okU];refine ⟨PD h.1,fun hk=>?_,Fr ks _ h.2,l⟩;have g:=i.1 hk;have a:=j hk;simp only [T.n] at g;simp only [T.name,T.kids] at a;exact ⟨g.1,by omega,a.1,jM a.2⟩
theorem Fr:∀ (ts:List T) (d:Int),de ts d=true->cM 26 ts
 | [],_,_=>by rw [cM]; trivial
 | t::ts,d,h=>by
  rw [de,bQ] at h;rw [cM];exact ⟨IE t d h.1,Fr ts d h.2⟩
end
theorem AJ {t:T} (h:bY t=true):okU 26 t:=IE t 30 (sG h)
theorem jx {c:C} (h:aZ c=true):okU 26 c.head/\(∀ t∈c.body,okU 26 t)/\c.body.length<=6:=by
 rw [aZ] at h;simp only [bQ,fF,bK] at h;refine ⟨AJ h.2.2.1,fun t a=>?_,h.1⟩;have:=h.2.1 t a;rw [fa,bQ] at this;exact AJ this.1
mutual
theorem cP {N M:Nat} (h:N<=M):∀ t:T,okU N t->okU M t
 | .mk k n s ks,ht=>by
  rw [okU] at ht ⊢;refine ⟨ht.1,fun hk=>?_,Ry h ks ht.2.2.1,ht.2.2.2⟩;have:=ht.2.1 hk;exact ⟨this.1,by omega,this.2.2⟩
theorem Ry {N M:Nat} (h:N<=M):∀ ts:List T,cM N ts->cM M ts
 | [],_=>by rw [cM]; trivial
 | t::ts,ht=>by
  rw [cM] at ht ⊢;exact ⟨cP h t ht.1,Ry h ts ht.2⟩
end
mutual
theorem Fy {N:Nat}:∀ t:T,okU N t->(wT t:Int)+1<=7 * bR t
 | .mk k n s ks,h=>by
  rw [okU] at h;have a:=Ux ks h.2.2.1;rw [wT,iV];omega
theorem Ux {N:Nat}:∀ ts:List T,cM N ts->(wL ts:Int)+ts.length<=7 * bo ts
 | [],_=>by simp [wL,bo]
 | t::ts,h=>by
  rw [cM] at h;have a:=Fy t h.1;have g:=Ux ts h.2;rw [wL,bo,aP];omega
end
theorem Ed {N:Nat} {st:bb} {t v:T} (h:Good N st) (a:eq st t v) (g:okU N t):okU N v:=by
 induction a with
 | stop=>exact g
 | step i _ j=>exact j (h.look_ok i).1
theorem Dz {N:Nat} {st:bb} (r:Good N st) {j:P5} (B:Res st j):match j with
  | .one t u=>okU N t->okU N u
  | .list ts us=>cM N ts->cM N us/\us.length=ts.length:=by
 induction B with
 | one C G D=>
  rename_i t v us
  intro g;have q:=Ed r C g;obtain ⟨m,i⟩:=D q.kids;obtain ⟨k,n,s,ks⟩:=v;have a:=q;rw [okU] at a;show okU N (.mk k n s us);rw [okU];refine ⟨a.1,fun hk=>?_,m,a.2.2.2⟩;have l:=a.2.1 hk;refine ⟨l.1,l.2.1,l.2.2.1,?_⟩;simp only [T.kids] at i;exact jM (by rw [i,l.2.2.2];rfl)
 | nil=>exact fun h=>⟨h,rfl⟩
 | cons _ _ o p=>
  intro g;rw [cM] at g;obtain ⟨m,i⟩:=p g.2;rw [cM];exact ⟨⟨o g.1,m⟩,by simp [i]⟩
theorem MA {N:Nat} {st:bb} (h:Good N st):∀ ts:List T,cM N ts->∃ us,Res st (.list ts us)
 | [],_=>⟨[],.nil⟩
 | t::ts,ho=>by
  rw [cM] at ho;obtain ⟨u,g⟩:=OK h t ho.1;obtain ⟨us,a⟩:=MA h ts ho.2;exact ⟨u::us,.cons g a⟩
theorem UO {st:bb}:∀ {ts us:List T},Res st (.list ts us)->∀ i (h:i<ts.length) (a:i<us.length),Res st (.one ts[i] us[i])
 | _,_,.cons hu _,0,_,_=>hu
 | _,_,.cons _ hus,i+1,h,a=>UO hus i (by simpa using h) (by simpa using a)
mutual
theorem Sz {N:Nat}:∀ (t:T) (l:List Int),okU N t->fh t l=ii t l
 | .mk k n s ks,l,h=>by
  rw [okU] at h;rw [fh,ii];split
  ·rename_i hk
   rw [(h.2.1 hk).2.2.2,ek]
  ·exact qp ks l h.2.2.1
theorem qp {N:Nat}:∀ (ts:List T) (l:List Int),cM N ts->cE ts l=ek ts l
 | [],l,_=>by rw [cE,ek]
 | t::ts,l,h=>by
  rw [cM] at h;rw [cE,ek,Sz t l h.1,qp ts _ h.2]
end
mutual
theorem WB {N:Nat} (vs:List Int) (a:vs.Nodup):∀ t:T,okU N t->inT vs t->jR vs t=dE vs t
 | .mk k n s ks,h,hi=>by
  rw [okU] at h;rw [inT] at hi;rw [jR,dE];by_cases hk:k=1
  ·have g:=h.2.1 hk;rw [ag hk,ag hk,tE vs n n 0 (hi.1 hk) a,g.2.2.2,dP,g.2.2.1,hk];rfl
  ·rw [ae hk,ae hk,D2 vs a ks h.2.2.1 hi.2]
theorem D2 {N:Nat} (vs:List Int) (a:vs.Nodup):∀ ts:List T,cM N ts->inL vs ts->iu vs ts=dP vs ts
 | [],_,_=>rfl
 | t::ts,h,hi=>by
  rw [cM] at h;rw [inL] at hi;rw [iu,dP,WB vs a t h.1 hi.1,D2 vs a ts h.2 hi.2]
end
def ofL:List T->C
 | []=>⟨⟨0,0,⟨#[]⟩,[]⟩,[]⟩
 | t::ts=>⟨t,ts⟩
end
section
open Go Go.RowKit
section
variable {br:Nat} {sl:Value} {ys:List Nat}
theorem AP:dW 2=54:=rfl
end
end
end Go.Proofs.YtjbcdmheajljpaaGreat

/- spec: walks, occurrence, unification. -/
import Derived.Test.YtgllldjiaglkcaaGreatDoorZUf4
namespace Go.Proofs.YtgllldjiaglkcaaGreatDoor
section
open Go Go.RowKit
def KnU (S:ae) (c:Array Value) (st:aj):Prop:=st.length * 4<=c.size/\∀ i (h:i<st.length),(st[i]=none->aX c (i * 4) 4=qm)/\(∀ t,st[i]=some t->RdT S (aX c (i * 4) 4) t)
abbrev kvU (kb N kp:Nat):Value:=.slice (some ⟨kb,0,none⟩) N kp
theorem KnU.set {S:ae} {c:Array Value} {st:aj} (h:KnU S c st) {n:Nat} (hn:n<st.length) {cs:List Value} {u:T} (f:RdT S cs u):KnU S (cB c (n * 4) cs) (st.set n (some u)):=by
 have a:=f.length;have m:=h.1;have q:st.length * 4<=(cB c (n * 4) cs).size:=by rw [kK _ _ _ (by omega)]; exact m
 refine ⟨by rw [ly]; exact q,fun i g=>?_⟩;rw [ly] at g;by_cases e:n=i
 ·subst e;rw [Oi];refine ⟨fun h=>(by cases h),fun t l=>?_⟩;simp only [aY] at l;subst l;have:=iu (c:=c) (o:=n * 4) (vs:=cs) (by omega);rw [a] at this;rw [this];exact f
 ·rw [R6 e,hY (by omega) (by omega)];exact h.2 i g
theorem KnU.mono {S S':ae} {c:Array Value} {st:aj} (h:KnU S c st) (f:Sle S S'):KnU S' c st:=⟨h.1,fun i a=>⟨(h.2 i a).1,fun t g=>((h.2 i a).2 t g).mono f⟩⟩
def CB (b:Nat) (r:Nat->Nat) (st:aj) (w:World):Nat:=
 match w.heap[b]? with
 | some (Obj.cells c _ _)=>(match c[0]?,c[1]? with
  | some (Value.int _ k),some (Value.int _ n)=>if (look st (.mk k n emptyB [])).isSome=true then r n.toNat+1 else 0
  | _,_=>0)
 | _=>0
theorem y7 {w0 w:World} {X:List Nat} {L:List Item} {S S0:ae} {cs:List Value} {t:T} {E:TypeId} {b i:Nat} (a:Inv w0 X L S w) (f:L[i]?=some (.blk b (.cells cs.toArray E))) (h:RdT S0 cs t) (r:Nat->Nat) (st:aj) :
  CB b r st w=if (look st t).isSome=true then r t.n.toNat+1 else 0:=by
 obtain ⟨kv,rfl,_⟩:=RdT.iff.1 h;have g:w.heap[b]?=_:=a.its _ (cz f);unfold CB;rw [g];obtain ⟨k,n,s,ks⟩:=t;rfl
section
attribute [local irreducible] Run CondV aq aK
theorem qN {N:Nat} {st:aj} (hg:Good N st) {t v:T} (hw:dr st t v) (ht:okU N t) {S:ae} {cs:List Value} {M kp:Nat} {G:Array Value} (h:RdT S cs t) (hk:KnU S G st) :
  Tri Tryz.prog PT [.agg cs.toArray,kvU M N kp] [.blk M (.cells G ab)] S fun r I' S'=>S'=S/\I'=[.blk M (.cells G ab)]/\∃ o,r=.agg o.toArray/\RdT S o v:=by
 intro w a;obtain ⟨X,hX⟩:∃ X,X=bP [Item.blk M (.cells G ab)]:=⟨_,rfl⟩
 rw [<- hX] at a ⊢;have b1:=hg.len;obtain ⟨r,hr⟩:=hg.rk;refine Dh.2 ?_;dsimp only[Dh,bm];refine bJ a fun V w' a=>?_;refine aQ a bj fun b4 w' a=>?_;have a:Inv w X [.blk M (.cells G ab),.blk V (.cells cs.toArray ab),.blk b4 (.cells #[.int .i64 0,.int .i64 0,.string ⟨#[]⟩,.slice none 0 0] ab)] S w':=a;refine ⟨fun w'=>∃ (g:T) (o:List Value),dr st g v/\okU N g/\RdT S o g/\Inv w X [.blk M (.cells G ab),.blk V (.cells o.toArray ab),.blk b4 (.cells #[.int .i64 0,.int .i64 0,.string ⟨#[]⟩,.slice none 0 0] ab)] S w',
  fun w'=>CB V r st w',⟨t,cs,hw,ht,h,a⟩,?_⟩
 intro _ _ _ _ _ _ _ _ _ _ _ _ _ _ _ _ _ _ _ _ _ _ _ _ w';rintro ⟨g,o,a1,a2,D,a⟩;have Z:=y7 a (i:=1) rfl D r st;have O:=D;obtain ⟨kv,rfl,_⟩:=RdT.iff.1 D;refine ⟨fun q w'=>q=.bool (look st g).isSome/\Inv w X [.blk M (.cells G ab),.blk V (.cells #[.int .i64 g.kind,.int .i64 g.n,.string g.name,kv] ab),.blk b4 (.cells #[.int .i64 0,.int .i64 0,.string ⟨#[]⟩,.slice none 0 0] ab)] S w',?_,?_⟩
 ·refine af a 1 rfl aW aG rfl ?_;refine bw ?_;by_cases m:g.kind=1
  ·rw [aN m];obtain ⟨a4,a3,_⟩:=a2.var m;obtain ⟨j,Y⟩:∃ j:Nat,g.n=j:=⟨g.n.toNat,by omega⟩
   have a0:j<N:=by omega
   have B:j<st.length:=by omega
   refine rpG ?_;refine af a 1 rfl bi aG rfl ?_;refine iA ah ?_;refine bS ?_;rw [aN a3];refine rpG ?_;refine af a 1 rfl bi aG rfl ?_;rw [Y];refine az ah a0 ?_;refine aw aW ?_;rw [cP,tg];obtain ⟨a5,a6⟩:=hk.2 j B;rw [Y] at a;have a7:look st g=st[j]:=by
    rw [look,ai m,Y,cu,ew B]; rfl
   rw [a7];cases f:st[j] with
   | none=>
    have l:=a5 f;refine aT a 0 aG rfl (by have:=aF l 0 _ rfl; exact this) ?_;refine fW ?_;refine rpG ?_;refine ⟨by simp,a⟩
   | some t0=>
    have hR:=a6 t0 f;have a8:t0.kind≠0:=(hg.ok t0 (by rw [<- f]; exact bG B)).kind;obtain ⟨b0,l,_,_,_,_⟩:=RdT.iff.1 hR;refine aT a 0 aG rfl (by have:=aF l 0 _ rfl; exact this) ?_;refine fW ?_;rw [ba a8];refine rpG ?_;refine ⟨rfl,a⟩
  ·rw [ba m];refine rpG ?_;refine ⟨?_,a⟩;rw [look,ag m]; rfl
 intro q _ _ _ _ _ _ _ _ _ _ _ _ _ _ _ _ _ _ w';rintro ⟨rfl,a⟩;refine aD (fun hb=>?_) (fun hb=>?_)
 ·obtain ⟨u,hl⟩:=Pp.1 hb;obtain ⟨m,hs⟩:=dh.1 hl;obtain ⟨a4,a3,_⟩:=a2.var m;obtain ⟨j,Y⟩:∃ j:Nat,g.n=j:=⟨g.n.toNat,by omega⟩
  have a0:j<N:=by omega
  have B:j<st.length:=by omega
  rw [Y,cu] at hs;have f:st[j]=some u:=by rw [ew B,aY] at hs; exact hs
  have hR:=(hk.2 j B).2 u f;have a9:dr st u v:=by
   cases a1 with
   | stop h0=>rw [hl] at h0; cases h0
   | step h1 h2=>rw [hl,aY] at h1; rw [h1]; exact h2
  have hu:=(hg.look_ok hl).1;refine af a 1 rfl bi aG rfl ?_;rw [Y];refine az ah a0 ?_;rw [cP];refine dC a 0 (aX G (j * 4) 4) ad rfl hR.length (fun i v hi=>aF rfl i v hi) ?_;refine au a 1 rfl ad (by simpa using hR.length) rfl (by simpa using hR.one) fun w' a=>?_;have a:Inv w X [.blk M (.cells G ab),.blk V (.cells (aX G (j * 4) 4).toArray ab),.blk b4 (.cells #[.int .i64 0,.int .i64 0,.string ⟨#[]⟩,.slice none 0 0] ab)] S w':=a;refine ⟨⟨u,_,a9,hu,hR,a⟩,?_⟩;have J:=y7 a (i:=1) rfl hR r st;show CB V r st w'<CB V r st _;rw [Z,J,ai hb,Y,cu];split
  ·rename_i U
   obtain ⟨u2,U⟩:=Pp.1 U;have:=hr j u hs u.n.toNat (by rw [jB (dh.1 U).1]; exact bK.2 rfl);omega
  ·omega
 ·have hv:v=g:=by
   cases a1 with
   | stop _=>rfl
   | step h1 _=>rw [h1] at hb; cases hb
  subst hv;refine aC a 1 ad rfl rfl ?_;refine au a 2 rfl ad rfl rfl (by simpa using O.one) fun w' a=>?_;refine bB a 2 ad rfl rfl ?_;exact ⟨_,_,_,rfl,a.pick [true,false,false],Ext.refl _ _ _,rfl,rfl,_,rfl,O⟩
end
theorem Tk (l:List Int) (n x:Int):x∈jr l n↔x∈l ∨ x=n:=by
 unfold jr;split
 ·rename_i h
  rw [sH] at h;constructor
  ·exact .inl
  ·rintro (a|rfl)
   ·exact a
   ·exact h
 ·simp
mutual
theorem mu {N:Nat}:∀ (t:T) (l:List Int),okU N t->∀ x,x∈fp t l↔x∈l ∨ ∃ m∈vT t,x=(m:Int)
 | .mk k n s ks,l,h,x=>by
  rw [okU] at h;rw [fp,vT];by_cases hk:k=1
  ·rw [ai hk,ai hk,Tk];have:=(h.2.1 hk).1;constructor
   ·rintro (a|a)
    ·exact .inl a
    ·exact .inr ⟨n.toNat,bK.2 rfl,by omega⟩
   ·rintro (a|⟨m,hm,e⟩)
    ·exact .inl a
    ·rw [bK] at hm;exact .inr (by omega)
  ·rw [ag hk,ag hk];exact qt ks l h.2.2.1 x
theorem qt {N:Nat}:∀ (ts:List T) (l:List Int),bL N ts->∀ x,x∈c7 ts l↔x∈l ∨ ∃ m∈vTL ts,x=(m:Int)
 | [],l,_,x=>by simp [c7,vTL]
 | t::ts,l,h,x=>by
  rw [bL] at h;rw [c7,vTL,qt ts _ h.2,mu t l h.1];simp only [bF];constructor
  ·rintro ((h|⟨m,h,e⟩)|⟨m,h,e⟩)
   ·exact .inl h
   ·exact .inr ⟨m,.inl h,e⟩
   ·exact .inr ⟨m,.inr h,e⟩
  ·rintro (h|⟨m,h|h,e⟩)
   ·exact .inl (.inl h)
   ·exact .inl (.inr ⟨m,h,e⟩)
   ·exact .inr ⟨m,h,e⟩
end
mutual
theorem Bq:∀ (t:T) (l:List Int),l.Nodup->(fp t l).Nodup
 | .mk k n s ks,l,h=>by
  rw [fp];split
  ·exact GE n h
  ·exact JK ks l h
theorem JK:∀ (ts:List T) (l:List Int),l.Nodup->(c7 ts l).Nodup
 | [],l,h=>by rw [c7]; exact h
 | t::ts,l,h=>by rw [c7]; exact JK ts _ (Bq t l h)
end
theorem VK (l:List Int) (n:Int):l <+: jr l n:=by
 unfold jr;split
 ·exact QP _
 ·exact List.prefix_append _ _
mutual
theorem He:∀ (t:T) (l:List Int),l <+: fp t l
 | .mk k n s ks,l=>by
  rw [fp];split
  ·exact VK l n
  ·exact G4 ks l
theorem G4:∀ (ts:List T) (l:List Int),l <+: c7 ts l
 | [],l=>by rw [c7]; exact QP _
 | t::ts,l=>by
  rw [c7];exact (He t l).trans (G4 ts _)
end
theorem MQ (t:T):dF t<=1+(wT t:Int):=by
 have:=AM [t];simp only [cY,wL,bq,bW] at this;omega
theorem Xp:∀ (N:Nat) (l:List Int),l.Nodup->(∀ x∈l,0<=x/\x<N)->l.length<=N:=by
 intro N l hd h;have a:∀ x∈l,x∈(List.range N).map (fun i:Nat=>(i:Int)):=fun x f=>by
  obtain ⟨g,m⟩:=h x f;exact dp.2 ⟨x.toNat,List.mem_range.2 (by omega),by omega⟩
 have:=List.Nodup.length_le_of_subset hd a;simpa using this
section
attribute [local irreducible] Run CondV aq aK
open Classical in
theorem FQ {N:Nat} (hN:N<=1000000) {st:aj} (hg:Good N st) {t:T} (ht:okU N t) (d0:wT t<=1048576) (n:Int) (d1:0<=n) {S:ae} {cs:List Value} {kb kp:Nat} {kc:Array Value} (h:RdT S cs t) (hk:KnU S kc st) :
  Tri Tryz.prog LU [.int .i64 n,.agg cs.toArray,kvU kb N kp] [.blk kb (.cells kc ab)] S fun r I' S'=>S'=S/\I'=[.blk kb (.cells kc ab)]/\r=.bool (decide (fD st n.toNat t)):=by
 intro w g;obtain ⟨X,hX⟩:∃ X,X=bP [Item.blk kb (.cells kc ab)]:=⟨_,rfl⟩
 rw [<- hX] at g ⊢;have d7:=hg.len;have c8:=h.length;have d9:=MQ t;refine v6.2 ?_;dsimp only[v6,fQ];refine bJ g fun b4 w' g=>?_;have g:Inv w X [.blk kb (.cells kc ab),.blk b4 (.cells cs.toArray ab)] S w':=g;refine aC g 1 ad rfl (by simpa using c8) ?_;have g:Inv w X [.blk kb (.cells kc ab)] S w':=g.pick [true,false];have g:=g.rowNil cO 1;refine Run.call (A:=[_]) og nM g (qB t S cs (.slice none 0 0) [] h (by simp only [bW]; omega)) fun v' I' S' w'=>?_;rintro ⟨rfl,eS⟩ _ g;rw [eS] at g;clear eS;refine ⟨fun i t7 w'=>∃ (j:Nat) (f:List Int),i=.int .i64 j/\j<=f.length/\f.Nodup/\(∀ x∈f,0<=x/\x<N)/\(∀ x∈f,∃ m∈vT t,Rch st m x.toNat)/\(∀ m∈vT t,(m:Int)∈f)/\
   (∀ k (hk:k<f.length),k<j->f[k]≠n/\∀ u,st[f[k].toNat]?=some (some u)->∀ m∈vT u,(m:Int)∈f)/\Inv w X [.blk kb (.cells kc ab),dk t7 f] S w',
  fun i _ _=>N - (intOf i).toNat,⟨0,_,rfl,bk _,Bq t [] xr,fun x hx=>?_,fun x hx=>?_,fun m G=>?_,fun k _ a9=>absurd a9 (by omega),g⟩,?_⟩
 ·rcases (mu t [] ht x).1 hx with hx|⟨m,G,rfl⟩
  ·cases hx
  ·have:=Vk t ht m G;omega
 ·rcases (mu t [] ht x).1 hx with hx|⟨m,G,rfl⟩
  ·cases hx
  ·exact ⟨m,G,by rw [cu]; exact .refl m⟩
 ·exact (mu t [] ht _).2 (.inr ⟨m,G,rfl⟩)
 intro t8 _ _ t7 _ _ _ _ _ _ _ _ _ _ _ _ _ _ _ _ _ _ _ _ _ _ _ _ _ _ _ _ _ _ _ _ _ _ _ _ _ _ w';rintro ⟨j,f,rfl,hj,a7,a0,o,a3,O,g⟩;have e0:=Xp N f a7 a0;obtain ⟨S1,d4,Y,l,J⟩:=Inv.lend (A:=[_]) g;have Y:=Y.ints;refine aJ Y cA ?_;refine bS ?_;refine aL (fun c4=>?_) (fun c4=>?_)
 ·have M:j<f.length:=by omega
  obtain ⟨d6,c5⟩:=a0 _ (bG M);obtain ⟨x,hx⟩:∃ x:Nat,f[j]=x:=⟨f[j].toNat,by omega⟩
  have a2:x<st.length:=by omega
  refine ⟨fun b1 w'=>∃ D:List Int,D.Nodup/\(∀ x∈D,0<=x/\x<N)/\(∀ x∈D,∃ m∈vT t,Rch st m x.toNat)/\(∀ y∈f,y∈D)/\f <+: D/\
   f[j]≠n/\(∀ u,st[x]?=some (some u)->∀ m∈vT u,(m:Int)∈D)/\Inv w X [.blk kb (.cells kc ab),dk b1 D] S w',?_,?_⟩
  ·refine fg l Y cA aG M (fun cs U=>U) ?_;refine bw ?_;refine aL (fun he=>?_) (fun he=>?_)
   ·have b7:fD st n.toNat t:=by
     obtain ⟨m,G,hr⟩:=o _ (bG M);rw [he] at hr;exact ⟨m,G,hr⟩
    have g:=J _ _ l;refine ⟨_,_,_,rfl,g.pick [true,false],Ext.refl _ _ _,rfl,rfl,?_⟩;rw [aN b7]
   ·refine ⟨fun q w'=>q=.bool (decide (∃ u,st[x]?=some (some u)))/\Inv w X [.blk kb (.cells kc ab)] S1 w',?_,?_⟩
    ·refine fg l Y cA aG M (fun cs U=>U) ?_;refine iA ah ?_;refine bS ?_;rw [aN c5];refine rpG ?_;refine fg l Y cA aG M (fun cs U=>U) ?_;rw [hx];refine az ah (by omega) ?_;refine aw aW ?_;rw [cP,tg];obtain ⟨b0,c6⟩:=hk.2 x a2;cases B:st[x] with
     | none=>
      have Z:=b0 B;refine aT l 0 aG rfl (by have:=aF Z 0 _ rfl; exact this) ?_;refine fW ?_;refine rpG ?_;refine ⟨?_,l⟩;rw [ba (show ¬ ∃ u,st[x]?=some (some u) from fun ⟨u,V⟩=>by rw [ew a2,B] at V; cases V)];simp
     | some t0=>
      have hR:=c6 t0 B;have a9:t0.kind≠0:=(hg.ok t0 (by rw [<- B]; exact bG a2)).kind;obtain ⟨c9,Z,_,_,_,_⟩:=RdT.iff.1 hR;refine aT l 0 aG rfl (by have:=aF Z 0 _ rfl; exact this) ?_;refine fW ?_;rw [ba a9];refine rpG ?_;refine ⟨?_,l⟩;rw [aN (show ∃ u,st[x]?=some (some u) from ⟨t0,by rw [ew a2,B]⟩)];rfl
    intro q _ _ _ _ _ _ _ _ _ _ _ _ _ _ _ _ _ w';rintro ⟨rfl,l⟩;refine aL (fun hq=>?_) (fun hq=>?_)
    ·obtain ⟨u,V⟩:=hq;have B:st[x]=some u:=by rw [ew a2,aY] at V; exact V
     have hR:=(hk.2 x a2).2 u B;have b8:=cz V;have b9:=hg.ok u b8;have e2:=hg.w u b8;have e3:=MQ u;refine fg l Y cA aG M (fun cs U=>U) ?_;rw [hx];refine az ah (by omega) ?_;rw [cP];refine dC l 0 (aX kc (x * 4) 4) ad rfl hR.length (fun i v hi=>aF rfl i v hi) ?_;have g:=J _ _ l;refine Run.call (A:=[_]) og nM g (qB u S _ t7 f hR (by omega)) fun v' I' S' w'=>?_;rintro ⟨rfl,eS⟩ _ g;rw [eS] at g;clear eS;have a1:=mu u f b9;refine ⟨_,Bq u f a7,fun y hy=>?_,fun y hy=>?_,fun y hy=>(a1 y).2 (.inl hy),He u f,by rw [<- hx]; exact he,fun u' b5 m G=>?_,g⟩
     ·rcases (a1 y).1 hy with hy|⟨m,G,rfl⟩
      ·exact a0 y hy
      ·have:=Vk u b9 m G;omega
     ·rcases (a1 y).1 hy with hy|⟨m,G,rfl⟩
      ·exact o y hy
      ·obtain ⟨m0,c7,b6⟩:=o _ (bG M);rw [hx,cu] at b6;exact ⟨m0,c7,b6.trans (.step V G (by rw [cu]; exact .refl m))⟩
     ·rw [V,aY,aY] at b5;subst b5;exact (a1 _).2 (.inr ⟨m,G,rfl⟩)
    ·have g:=J _ _ l;exact ⟨f,a7,a0,o,fun y hy=>hy,QP _,he,fun u V=>absurd ⟨u,V⟩ hq,g⟩
  intro b1 _ _ _ _ _ _ _ _ _ _ _ _ _ _ _ _ _ _ _ _ _ _ _ _ _ _ _ _ _ _ _ _ _ _ w';rintro ⟨D,b2,a8,a4,a5,b3,c1,c2,g⟩;have e4:=b3.length_le;have a6:∀ k (hk:k<f.length),D[k]'(by omega)=f[k]:=fun k hk=>(b3.getElem hk).symm;refine bC (by omega) ?_;refine ⟨⟨j+1,D,rfl,by omega,b2,a8,a4,fun m G=>a5 _ (a3 m G),fun k d2 d3=>?_,g⟩,by simp [intOf]; omega⟩;by_cases e:k=j
  ·subst e;have e1:=a6 k M;rw [e1];refine ⟨c1,fun u V=>?_⟩;rw [hx,cu] at V;exact c2 u V
  ·have c0:k<f.length:=by omega
   rw [a6 k c0];obtain ⟨h1,h2⟩:=O k c0 (by omega);exact ⟨h1,fun u V m G=>a5 _ (h2 u V m G)⟩
 ·have e5:j=f.length:=by omega
  have b0:¬ fD st n.toNat t:=by
   rintro ⟨m,G,hr⟩;have key:∀ a c,Rch st a c->(a:Int)∈f->(c:Int)∈f:=by
    intro a c c3;induction c3 with
    | refl=>exact id
    | step h1 h2 _ ih=>
     intro ha;obtain ⟨k,hk,e⟩:=mT.1 ha;refine ih ((O k hk (by omega)).2 _ ?_ _ h2);rw [e,cu];exact h1
   have h1:=key m _ hr (a3 m G);obtain ⟨k,hk,e⟩:=mT.1 h1;exact (O k hk (by omega)).1 (by rw [e]; omega)
  have g:=J _ _ l;refine ⟨_,_,_,rfl,g.pick [true,false],Ext.refl _ _ _,rfl,rfl,?_⟩;rw [ba b0]
end
end
section
open Go Go.RowKit
def RdO (S:ae) (cs:List Value):Option T->Prop
 | none=>cs=qm
 | some t=>RdT S cs t
theorem RdO.length {S:ae} {cs:List Value}:∀ {x:Option T},RdO S cs x->cs.length=4
 | none,h=>by rw [h]; rfl
 | some _,h=>RdT.length h
theorem RdO.one {S:ae} {cs:List Value}:∀ {x:Option T},RdO S cs x->∀ u∈cs,u.oneCell'=true
 | none,h=>by rw [h]; simp [qm,Value.oneCell']
 | some _,h=>RdT.one h
theorem RdO.mono {S S':ae} {cs:List Value} (a:Sle S S'):∀ {x:Option T},RdO S cs x->RdO S' cs x
 | none,h=>h
 | some _,h=>RdT.mono a h
theorem KnU.rdO {S:ae} {c:Array Value} {st:aj} (h:KnU S c st) (i:Nat) (a:i<st.length):RdO S (aX c (i * 4) 4) st[i]:=by
 cases f:st[i] with
 | none=>exact (h.2 i a).1 f
 | some t=>exact (h.2 i a).2 t f
theorem KnU.of {S:ae} {c:Array Value} {st:aj} (f:st.length * 4<=c.size) (h:∀ i (a:i<st.length),RdO S (aX c (i * 4) 4) st[i]):KnU S c st:=
 ⟨f,fun i a=>⟨fun e=>by have:=h i a; rw [e] at this; exact this,fun t e=>by have:=h i a; rw [e] at this; exact this⟩⟩
theorem KnU.rd {S S':ae} {c:Array Value} {st:aj} {b cap:Nat} {E:TypeId} {a:Nat × Nat} (h:KnU S c st) (f:S' b=some (.cells c E a)) (g:st.length<=cap) (l:cap<=maxLen):RdSl S' 4 (RdO S) (.slice (some ⟨b,0,none⟩) st.length cap) st:=
 ⟨_,cap,rfl,g,l,.inr ⟨b,0,c,E,a,rfl,f,fun i m=>by rw [cP]; exact h.rdO i m⟩⟩
theorem Rows.knu {S:ae} {css:List (List Value)} {st:aj} {c:Array Value} (h:Rows 4 (RdO S) css st) (a:st.length * 4<=c.size) (hc:c.toList.take (css.length * 4)=css.flatten):KnU S c st:=by
 refine KnU.of a fun i f=>?_;have g:=h.hc;have:=i8 4 css i h.hk (by omega);rw [<- hc,GU,lD,lw (by omega)] at this;rw [aX,this];exact h.hR i f (by omega)
section
variable {w w0:World} {X:List Nat} {A:List Item} {S:ae}
theorem Inv.tab {v:Value} {e:TypeId} {css:List (List Value)} {S1:ae} {st:aj} (h:Inv w0 X (A++[aA v e 4 css]) S w) (hR:Rows 4 (RdO S1) css st) (t:0<st.length) :
  ∃ g cap a,v=kvU g st.length cap/\st.length<=cap/\cap<=maxLen/\KnU S1 a st/\Inv w0 X (A++[.blk g (.cells a e)]) S w:=by
 have i:=hR.hc;obtain ⟨hl,o⟩:=Inv.openRow h;rcases o with ⟨rfl,B⟩|⟨g,cap,a,rfl,f,l,m,q,r⟩
 ·omega
 ·rw [i] at f;exact ⟨g,cap,a,by rw [i],f,l,hR.knu (by rw [m]; exact gM 4 f) q,r⟩
end
end
section
open Go Go.RowKit
def xj:List Int->Int->Int
 | [],m=>m
 | x::xs,m=>xj xs (if m<=x then x+1 else m)
def tY (c:C):Int:=xj (c7 (c.head::c.body) []) 0
theorem Iy:∀ (l:List Int) (m:Int),m<=xj l m/\∀ x∈l,x<xj l m
 | [],m=>⟨Jq _,fun _ h=>by cases h⟩
 | y::l,m=>by
  have g:m<=(if m<=y then y+1 else m)/\y<(if m<=y then y+1 else m):=by split <;> omega
  rw [xj];generalize (if m<=y then y+1 else m)=m' at g ⊢;obtain ⟨i,f⟩:=Iy l m';refine ⟨by omega,fun x a=>?_⟩;rcases bY.1 a with rfl|a
  ·omega
  ·exact f x a
theorem Js (N:Int):∀ (l:List Int) (m:Int),m<=N->(∀ x∈l,x<N)->xj l m<=N
 | [],m,h,_=>h
 | y::l,m,h,hx=>by
  rw [xj];refine Js N l _ ?_ fun x h=>hx x (aR _ h);have:=hx y (aM ..);split <;> omega
section
attribute [local irreducible] Run CondV aq aK
end
end
section
open Go Go.RowKit
inductive Chain (Call:aj->T->T->Bool->aj->Prop):aj->List T->List T->Bool->aj->Prop
 | nil {st:aj}:Chain Call st [] [] true st
 | stop {st st':aj} {a b:T} {xs ys:List T}:Call st a b false st'->Chain Call st (a::xs) (b::ys) false st'
 | go {st st1 st':aj} {a b:T} {xs ys:List T} {r:Bool}:Call st a b true st1->Chain Call st1 xs ys r st'->Chain Call st (a::xs) (b::ys) r st'
theorem Chain.head {Call:aj->T->T->Bool->aj->Prop} {st f:aj} {a b:T} {xs ys:List T} {r:Bool} (h:Chain Call st (a::xs) (b::ys) r f) :
  ∃ i g,Call st a b i g/\(i=false->r=false/\f=g)/\(i=true->Chain Call g xs ys r f):=by
 cases h with
 | stop h=>exact ⟨false,_,h,fun _=>⟨rfl,rfl⟩,fun e=>(by cases e)⟩
 | go h l=>exact ⟨true,_,h,fun e=>(by cases e),fun _=>l⟩
theorem Chain.done {Call:aj->T->T->Bool->aj->Prop} {st a:aj} {r:Bool} (h:Chain Call st [] [] r a):r=true/\a=st:=by
 cases h;exact ⟨rfl,rfl⟩
def VT (Call:aj->T->T->Bool->aj->Prop) (st:aj) (a' b':T) (r:Bool) (st':aj):Prop:=
 (a'.kind=1/\b'.kind=1/\a'.n=b'.n/\r=true/\st'=st) ∨
 (a'.kind=1/\¬ (b'.kind=1/\a'.n=b'.n)/\((¬ fD st a'.n.toNat b'/\r=true/\st'=st.set a'.n.toNat (some b')) ∨ (fD st a'.n.toNat b'/\r=false/\st'=st))) ∨
 (a'.kind≠1/\b'.kind=1/\((¬ fD st b'.n.toNat a'/\r=true/\st'=st.set b'.n.toNat (some a')) ∨ (fD st b'.n.toNat a'/\r=false/\st'=st))) ∨
 (a'.kind≠1/\b'.kind≠1/\((py a' b'=false/\r=false/\st'=st) ∨ (py a' b'=true/\Chain Call st a'.kids b'.kids r st')))
theorem Uni.calls {N:Nat} {Call:aj->T->T->Bool->aj->Prop} (f:∀ st a b M O r o,Good N st->okJ N (.one a b)->dr st a M->dr st b O->VT Call st M O r o->Call st a b r o) {st o:aj} {j:Job} {r:Bool} (U:Uni st j r o) :
  Good N st->okJ N j->match j with
   | .one a b=>Call st a b r o
   | .list xs ys=>Chain Call st xs ys r o:=by
 induction U with
 | same i l q t m=>exact fun h g=>f _ _ _ _ _ _ _ h g i l (.inl ⟨q,t,m,rfl,rfl⟩)
 | bindA i l q t m=>exact fun h g=>f _ _ _ _ _ _ _ h g i l (.inr (.inl ⟨q,t,.inl ⟨m,rfl,rfl⟩⟩))
 | occA i l q t m=>exact fun h g=>f _ _ _ _ _ _ _ h g i l (.inr (.inl ⟨q,t,.inr ⟨m,rfl,rfl⟩⟩))
 | bindB i l q t m=>exact fun h g=>f _ _ _ _ _ _ _ h g i l (.inr (.inr (.inl ⟨q,t,.inl ⟨m,rfl,rfl⟩⟩)))
 | occB i l q t m=>exact fun h g=>f _ _ _ _ _ _ _ h g i l (.inr (.inr (.inl ⟨q,t,.inr ⟨m,rfl,rfl⟩⟩)))
 | clash i l q t m=>exact fun h g=>f _ _ _ _ _ _ _ h g i l (.inr (.inr (.inr ⟨q,t,.inl ⟨m,rfl,rfl⟩⟩)))
 | kids i l q t m _ D=>
  exact fun h g=>f _ _ _ _ _ _ _ h g i l (.inr (.inr (.inr ⟨q,t,.inr ⟨m,D h ⟨jn (dz h i g.1),jn (dz h l g.2),pM m⟩⟩⟩)))
 | nil=>exact fun _ _=>.nil
 | stop _ D=>exact fun h g=>.stop (D h ⟨g.1 _ (aM ..),g.2.1 _ (aM ..)⟩)
 | go i _ G J=>
  intro h g;have B:okJ N (.one _ _):=⟨g.1 _ (aM ..),g.2.1 _ (aM ..)⟩
  exact .go (G h B) (J (i.good h B).1 ⟨fun a V=>g.1 a (aR _ V),fun b Y=>g.2.1 b (aR _ Y),by have:=g.2.2; simpa using this⟩)
def UC (N kp:Nat) (st:aj) (a b:T) (r:Bool) (st':aj):Prop:=∀ (S:ae) (cs ds:List Value) (kb:Nat) (kc:Array Value),RdT S cs a->RdT S ds b->KnU S kc st->
 Tri Tryz.prog Ow [.agg cs.toArray,.agg ds.toArray,kvU kb N kp] [.blk kb (.cells kc ab)] S fun q I' S'=>S'=S/\q=.bool r/\∃ kc',I'=[.blk kb (.cells kc' ab)]/\KnU S kc' st'
section
attribute [local irreducible] Run CondV aq aK
set_option maxHeartbeats 1000000 in
theorem xW {N kp:Nat} (hN:N<=1000000) {st G:aj} {a b a' b':T} {r:Bool} (hg:Good N st) (hj:okJ N (.one a b)) (c4:dr st a a') (c5:dr st b b')
  (c6:a'.kind≠1->b'.kind=1->UC N kp st b' a' r G) (he:VT (UC N kp) st a' b' r G):UC N kp st a b r G:=by
 intro S cs ds Z kc h h' U w f;have d6:=h.length;have d7:=h'.length;have f1:=dz hg c4 hj.1;have d9:=dz hg c5 hj.2;have h4:=hg.len;obtain ⟨X,hX⟩:∃ X,X=bP [Item.blk Z (.cells kc ab)]:=⟨_,rfl⟩
 rw [<- hX] at f ⊢;refine zi.2 ?_;dsimp only[zi,fQ];refine bJ f fun b1 w' f=>?_;refine bJ f fun b2 w' f=>?_;have f:Inv w X ([.blk b1 (.cells cs.toArray ab),.blk b2 (.cells ds.toArray ab)]++[.blk Z (.cells kc ab)]) S w':=f.perm (cj (l₁:=[_,_]) (l₂:=[_]));refine aC f 0 ad rfl (by simpa using d6) ?_;refine Run.call tW tO f (qN hg c4 hj.1.1 h U) fun v' I' S' w'=>?_;rintro ⟨eS,rfl,c7,rfl,a7⟩ _ f;rw [eS] at f;clear eS;refine au f 0 rfl ad (by simpa using a7.length) (by simpa using d6) (by simpa using a7.one) fun w' f=>?_;have f:Inv w X ([.blk b1 (.cells c7.toArray ab),.blk b2 (.cells ds.toArray ab)]++[.blk Z (.cells kc ab)]) S w':=f;refine aC f 1 ad rfl (by simpa using d7) ?_;refine Run.call tW tO f (qN hg c5 hj.2.1 h' U) fun v' I' S' w'=>?_;rintro ⟨eS,rfl,e4,rfl,a8⟩ _ f;rw [eS] at f;clear eS;refine au f 1 rfl ad (by simpa using a8.length) (by simpa using d7) (by simpa using a8.one) fun w' f=>?_;have f:Inv w X [.blk b1 (.cells c7.toArray ab),.blk b2 (.cells e4.toArray ab),.blk Z (.cells kc ab)] S w':=f;have f2:=a7;have b6:=a8;obtain ⟨kv,rfl,_,_,_,b0⟩:=RdT.iff.1 a7;obtain ⟨b5,rfl,_,_,_,b3⟩:=RdT.iff.1 a8;obtain ⟨k,n,s,ks⟩:=a';obtain ⟨k',n',Y,g⟩:=b';unfold VT at he;simp only [T.name,T.kids,T.kind,T.n] at b0 b3 f he c6 ⊢;have e0:=b0.le;simp only [maxLen] at e0;refine ⟨fun q w'=>q=.bool (decide (k=1/\k'=1/\n=n'))/\Inv w X [.blk b1 (.cells #[.int .i64 k,.int .i64 n,.string s,kv] ab),.blk b2 (.cells #[.int .i64 k',.int .i64 n',.string Y,b5] ab),.blk Z (.cells kc ab)] S w',?_,?_⟩
 ·refine af f 0 rfl aW aG rfl ?_;refine bw ?_;by_cases e1:k=1
  ·rw [aN e1];refine rpG ?_;refine af f 1 rfl aW aG rfl ?_;refine bw ?_;by_cases e2:k'=1
   ·rw [aN e2];refine rpG ?_;refine af f 0 rfl bi aG rfl ?_;refine af f 1 rfl bi aG rfl ?_;refine bw ?_;refine rpG ?_;exact ⟨by simp [e1,e2],f⟩
   ·rw [ba e2];refine rpG ?_;exact ⟨by simp [e2],f⟩
  ·rw [ba e1];refine rpG ?_;exact ⟨by simp [e1],f⟩
 intro q _ _ _ _ _ _ _ _ _ _ _ _ _ _ w';rintro ⟨rfl,f⟩;refine aL (fun J=>?_) (fun J=>?_)
 ·have:r=true/\G=st:=by
   rcases he with ⟨_,_,_,l,h2⟩|⟨_,l,_⟩|⟨l,_,_⟩|⟨l,_,_⟩
   ·exact ⟨l,h2⟩
   ·exact absurd J.2 l
   ·exact absurd J.1 l
   ·exact absurd J.1 l
  obtain ⟨rfl,rfl⟩:=this;exact ⟨_,_,_,rfl,f.pick [false,false,true],Ext.refl _ _ _,rfl,rfl,_,rfl,U⟩
 refine af f 0 rfl aW aG rfl ?_;refine bw ?_;refine aL (fun a5=>?_) (fun a5=>?_)
 ·have a3:(¬ fD st n.toNat (.mk k' n' Y g)/\r=true/\G=st.set n.toNat (some (.mk k' n' Y g))) ∨ (fD st n.toNat (.mk k' n' Y g)/\r=false/\G=st):=by
   rcases he with ⟨l,h2,h3,_⟩|⟨_,_,l⟩|⟨l,_,_⟩|⟨l,_,_⟩
   ·exact absurd ⟨l,h2,h3⟩ J
   ·exact l
   ·exact absurd a5 l
   ·exact absurd a5 l
  obtain ⟨e6,e7,_⟩:=f1.1.var a5;simp only [T.n] at e6 e7;obtain ⟨j,rfl⟩:∃ j:Nat,n=j:=⟨n.toNat,by omega⟩
  refine af f 0 rfl bi aG rfl ?_;refine aC f 1 ad rfl rfl ?_;refine Run.call (A:=[_,_]) HX HH f (FQ hN hg d9.1 d9.2 j (by omega) b6 U) fun v' I' S' w'=>?_;rintro ⟨eS,rfl,rfl⟩ _ f;rw [eS] at f;clear eS;have f:Inv w X [.blk b1 (.cells #[.int .i64 k,.int .i64 j,.string s,kv] ab),.blk b2 (.cells #[.int .i64 k',.int .i64 n',.string Y,b5] ab),.blk Z (.cells kc ab)] S w':=f;refine aD (fun hb=>?_) (fun hb=>?_)
  ·have b4:fD st (Int.toNat j) (.mk k' n' Y g):=@of_decide_eq_true _ (Classical.propDecidable _) hb;have:r=false/\G=st:=by
    rcases a3 with ⟨l,_⟩|⟨_,l⟩
    ·exact absurd b4 l
    ·exact l
   obtain ⟨rfl,rfl⟩:=this;exact ⟨_,_,_,rfl,f.pick [false,false,true],Ext.refl _ _ _,rfl,rfl,_,rfl,U⟩
  ·have b4:¬ fD st (Int.toNat j) (.mk k' n' Y g):=@of_decide_eq_false _ (Classical.propDecidable _) hb;have:r=true/\G=st.set (Int.toNat j) (some (.mk k' n' Y g)):=by
    rcases a3 with ⟨_,l⟩|⟨l,_⟩
    ·exact l
    ·exact absurd l b4
   obtain ⟨rfl,rfl⟩:=this;rw [cu];refine af f 0 rfl bi aG rfl ?_;refine aC f 1 ad rfl rfl ?_;refine az ah (by omega) ?_;rw [cP];refine EL f 2 rfl ad rfl (by have:=U.1; exact Nat.ble_eq_true_of_le (by omega)) b6.one fun w' f=>?_;exact ⟨_,_,_,rfl,f.pick [false,false,true],Ext.refl _ _ _,rfl,rfl,_,rfl,U.set (by omega) b6⟩
 refine af f 1 rfl aW aG rfl ?_;refine bw ?_;refine aL (fun a0=>?_) (fun a0=>?_)
 ·refine aC f 1 ad rfl rfl ?_;refine aC f 0 ad rfl rfl ?_;refine Run.call (A:=[_,_]) qQ qC f (c6 a5 a0 S _ _ Z kc b6 f2 U) fun v' I' S' w'=>?_;rintro ⟨eS,rfl,f5,rfl,c8⟩ _ f;rw [eS] at f;clear eS;exact ⟨_,_,_,rfl,f.pick [false,false,true],Ext.refl _ _ _,rfl,rfl,_,rfl,c8⟩
 have a3:(py (.mk k n s ks) (.mk k' n' Y g)=false/\r=false/\G=st) ∨ (py (.mk k n s ks) (.mk k' n' Y g)=true/\Chain (UC N kp) st ks g r G):=by
  rcases he with ⟨l,_⟩|⟨l,_,_⟩|⟨_,l,_⟩|⟨_,_,l⟩
  ·exact absurd l a5
  ·exact absurd l a5
  ·exact absurd l a0
  ·exact l
 refine ⟨fun q w'=>q=.bool (!py (.mk k n s ks) (.mk k' n' Y g))/\Inv w X [.blk b1 (.cells #[.int .i64 k,.int .i64 n,.string s,kv] ab),.blk b2 (.cells #[.int .i64 k',.int .i64 n',.string Y,b5] ab),.blk Z (.cells kc ab)] S w',?_,?_⟩
 ·refine af f 0 rfl aW aG rfl ?_;refine af f 1 rfl aW aG rfl ?_;refine fW ?_;by_cases e1:k=k'
  ·rw [aN e1];refine rpG ?_;refine af f 0 rfl bi aG rfl ?_;refine af f 1 rfl bi aG rfl ?_;refine fW ?_;by_cases e2:n=n'
   ·rw [aN e2];refine rpG ?_;refine af f 0 rfl bl be rfl ?_;refine af f 1 rfl bl be rfl ?_;refine Ql ?_;by_cases e3:s=Y
    ·rw [aN e3];refine rpG ?_;refine af f 0 rfl ar al rfl ?_;refine aJ b0 ah ?_;refine af f 1 rfl ar al rfl ?_;refine aJ b3 ah ?_;refine fW ?_;refine rpG ?_;exact ⟨by rw [od,aN e1,aN e2,aN e3,X9]; rfl,f⟩
    ·rw [ba e3];refine rpG ?_;exact ⟨by rw [od,aN e1,aN e2,ba e3]; rfl,f⟩
   ·rw [ba e2];refine rpG ?_;exact ⟨by rw [od,aN e1,ba e2]; rfl,f⟩
  ·rw [ba e1];refine rpG ?_;exact ⟨by rw [od,ba e1]; rfl,f⟩
 intro q _ _ _ _ _ _ _ _ _ _ _ _ _ _ _ _ _ _ _ _ _ _ _ _ _ _ _ w';rintro ⟨rfl,f⟩;cases hd:py (.mk k n s ks) (.mk k' n' Y g)
 ·refine aD (fun _=>?_) (fun hb=>by cases hb);have:r=false/\G=st:=by
   rcases a3 with ⟨_,l⟩|⟨l,_⟩
   ·exact l
   ·rw [hd] at l; cases l
  obtain ⟨rfl,rfl⟩:=this;exact ⟨_,_,_,rfl,f.pick [false,false,true],Ext.refl _ _ _,rfl,rfl,_,rfl,U⟩
 refine aD (fun hb=>by cases hb) (fun _=>?_);have f3:ks.length=g.length:=pM hd;have f4:Chain (UC N kp) st ks g r G:=by
  rcases a3 with ⟨l,_⟩|⟨_,l⟩
  ·rw [hd] at l; cases l
  ·exact l
 refine ⟨fun i w'=>∃ (j:Nat) (b9:aj) (a4:Array Value),j<=ks.length/\i=.int .i64 j/\Chain (UC N kp) b9 (ks.drop j) (g.drop j) r G/\KnU S a4 b9/\Inv w X [.blk b1 (.cells #[.int .i64 k,.int .i64 n,.string s,kv] ab),.blk b2 (.cells #[.int .i64 k',.int .i64 n',.string Y,b5] ab),.blk Z (.cells a4 ab)] S w',fun i _=>ks.length - (intOf i).toNat,⟨0,st,kc,bk _,rfl,f4,U,f⟩,?_⟩;intro t7 _ _ _ f6 f7 f8 f9 g0 g1 g2 g3 g4 g5 g6 g7 g8 _ _ _ _ _ w';rintro ⟨j,b9,a4,hj,rfl,a9,b8,f⟩;refine af f 0 rfl ar al rfl ?_;refine aJ b0 ah ?_;refine bS ?_;refine aL (fun e5=>?_) (fun e5=>?_)
 ·have b7:j<ks.length:=by omega
  have c3:j<g.length:=by omega
  obtain ⟨c1,o1,M,a1,E1,g9,rfl,e8,d2⟩:=b0.at_ b7;obtain ⟨c2,o2,O,a2,E2,h0,rfl,e9,d3⟩:=b3.at_ c3;rw [dY b7,dY c3] at a9;obtain ⟨r1,c0,a6,f0,d4⟩:=a9.head;have a6:=a6 S _ _ Z a4 d2 d3 b8;refine ⟨fun D XT V3 TQ U3 TW T6 U4 Vu VJ Vb T7 Uj UW w_=>Fx D 0 [UW=.pointer (some ⟨b1,3,none⟩),Uj=.slice (some ⟨c1,o1,none⟩) ks.length M,T7=.int .i64 j,Vb=.pointer (some ⟨c1,o1+j * 4,none⟩),VJ=.agg (aX a1 (o1+j * 4) 4).toArray,Vu=.pointer (some ⟨b2,3,none⟩),U4=.slice (some ⟨c2,o2,none⟩) g.length O,T6=.int .i64 j,TW=.pointer (some ⟨c2,o2+j * 4,none⟩),U3=.agg (aX a2 (o2+j * 4) 4).toArray,TQ=kvU Z N kp,V3=.bool r1,XT=.bool (!r1)]/\(D 11=false->Inv w X [.blk b1 (.cells #[.int .i64 k,.int .i64 n,.string s,.slice (some ⟨c1,o1,none⟩) ks.length M] ab),.blk b2 (.cells #[.int .i64 k',.int .i64 n',.string Y,.slice (some ⟨c2,o2,none⟩) g.length O] ab),.blk Z (.cells a4 ab)] S w_)/\(D 11=true->∃ V,KnU S V c0/\Inv w X [.blk b1 (.cells #[.int .i64 k,.int .i64 n,.string s,.slice (some ⟨c1,o1,none⟩) ks.length M] ab),.blk b2 (.cells #[.int .i64 k',.int .i64 n',.string Y,.slice (some ⟨c2,o2,none⟩) g.length O] ab),.blk Z (.cells V ab)] S w_)/\∃ m,Inv w X [.blk b1 (.cells #[.int .i64 k,.int .i64 n,.string s,.slice (some ⟨c1,o1,none⟩) ks.length M] ab),.blk b2 (.cells #[.int .i64 k',.int .i64 n',.string Y,.slice (some ⟨c2,o2,none⟩) g.length O] ab),.blk Z (.cells m ab)] S w_,⟨Fx.nil _ _,⟨fun _=>f.draw,aI,a4,f.draw⟩⟩,⟨?_,?_,?_,?_,?_,?_,?_,?_,?_,?_,?_,?_,?_,trivial⟩,?_⟩;all_goals (intro D bH; intros; rename_i XT V3 TQ U3 TW T6 U4 Vu VJ Vb T7 Uj UW w_ c9; have B:=c9.1; obtain ⟨⟨cI,cJ,cH,cD,cL,cN,cq,dg,dG,dL,cT,dn,dN,_⟩,⟨o,t,m,f⟩⟩:=c9)
  ·refine aw ar ?_;exact ⟨B.set 0 rfl,⟨o,t,m,f⟩⟩
  ·obtain rfl:=cI ‹_›;refine aT f 0 al rfl rfl ?_;exact ⟨B.set 1 rfl,⟨o,t,m,f⟩⟩
  ·exact ⟨B.set 2 rfl,⟨o,t,m,f⟩⟩
  ·obtain rfl:=cJ ‹_›;obtain rfl:=cH ‹_›;refine az ah b7 ?_;exact ⟨B.set 3 rfl,⟨o,t,m,f⟩⟩
  ·obtain rfl:=cD ‹_›;refine ci ad d2.length (fun j v hj=>by rw [f.cellS e8]; exact aF rfl j v hj) ?_;exact ⟨B.set 4 rfl,⟨o,t,m,f⟩⟩
  ·refine aw ar ?_;exact ⟨B.set 5 rfl,⟨o,t,m,f⟩⟩
  ·obtain rfl:=cN ‹_›;refine aT f 1 al rfl rfl ?_;exact ⟨B.set 6 rfl,⟨o,t,m,f⟩⟩
  ·exact ⟨B.set 7 rfl,⟨o,t,m,f⟩⟩
  ·obtain rfl:=cq ‹_›;obtain rfl:=dg ‹_›;refine az ah c3 ?_;exact ⟨B.set 8 rfl,⟨o,t,m,f⟩⟩
  ·obtain rfl:=dG ‹_›;refine ci ad d3.length (fun j v hj=>by rw [f.cellS e9]; exact aF rfl j v hj) ?_;exact ⟨B.set 9 rfl,⟨o,t,m,f⟩⟩
  ·exact ⟨B.set 10 rfl,⟨o,t,m,f⟩⟩
  ·obtain rfl:=cL ‹_›;obtain rfl:=dL ‹_›;obtain rfl:=cT ‹_›;refine Run.call (A:=[_,_]) qQ qC (o bH) a6 fun v' I' S' w_=>?_;rintro ⟨eS,rfl,V,rfl,a0⟩ _ f;rw [eS] at f;have o:=fun (h:ao D 11 11=false)=>(Bool.noConfusion h:Inv w X [.blk b1 (.cells #[.int .i64 k,.int .i64 n,.string s,.slice (some ⟨c1,o1,none⟩) ks.length M] ab),.blk b2 (.cells #[.int .i64 k',.int .i64 n',.string Y,.slice (some ⟨c2,o2,none⟩) g.length O] ab),.blk Z (.cells a4 ab)] S w_)
   have t:=fun (_:ao D 11 11=true)=>(⟨V,a0,f⟩:∃ V,KnU S V c0/\Inv w X [.blk b1 (.cells #[.int .i64 k,.int .i64 n,.string s,.slice (some ⟨c1,o1,none⟩) ks.length M] ab),.blk b2 (.cells #[.int .i64 k',.int .i64 n',.string Y,.slice (some ⟨c2,o2,none⟩) g.length O] ab),.blk Z (.cells V ab)] S w_)
   obtain ⟨m,f⟩:∃ m,Inv w X [.blk b1 (.cells #[.int .i64 k,.int .i64 n,.string s,.slice (some ⟨c1,o1,none⟩) ks.length M] ab),.blk b2 (.cells #[.int .i64 k',.int .i64 n',.string Y,.slice (some ⟨c2,o2,none⟩) g.length O] ab),.blk Z (.cells m ab)] S w_:=⟨V,f⟩
   exact ⟨B.set 11 rfl,⟨o,t,m,f⟩⟩
  ·obtain rfl:=dn ‹_›;refine cw ?_;exact ⟨B.set 12 rfl,⟨o,t,m,f⟩⟩
  obtain ⟨rfl,rfl,rfl,rfl,rfl,rfl,rfl,rfl,rfl,rfl,rfl,rfl,rfl,_⟩:=B.all;have Ai:D 11=true:=by assumption
  clear B cI cJ cH cD cL cN cq dg dG dL cT dn dN;obtain ⟨V,a0,f⟩:=t Ai;clear o t;refine aD (fun d0=>?_) (fun d1=>?_)
  ·simp only [o6] at d0;obtain ⟨rfl,rfl⟩:=f0 d0;exact ⟨_,_,_,rfl,f.pick [false,false,true],Ext.refl _ _ _,rfl,rfl,_,rfl,a0⟩
  ·simp only [Ru] at d1;refine bC (by omega) ?_;exact ⟨⟨j+1,c0,V,b7,rfl,d4 d1,a0,f⟩,by simp [intOf]; omega⟩
 ·have:j=ks.length:=by omega
  subst this;rw [eC,f3,eC] at a9;obtain ⟨rfl,rfl⟩:=a9.done;exact ⟨_,_,_,rfl,f.pick [false,false,true],Ext.refl _ _ _,rfl,rfl,_,rfl,b8⟩
theorem Hz {N kp:Nat} (M:N<=1000000) {st f:aj} {a b:T} {r:Bool} (l:Good N st) (m:okJ N (.one a b)) (U:Uni st (.one a b) r f):UC N kp st a b r f:=by
 refine Uni.calls (N:=N) (Call:=UC N kp) (fun st a b q t r f l m h i O=>?_) U l m;refine xW M l m h i (fun B D=>?_) O;have G:=dz l h m.1;have J:=dz l i m.2;have o:(¬ fD st t.n.toNat q/\r=true/\f=st.set t.n.toNat (some q)) ∨ (fD st t.n.toNat q/\r=false/\f=st):=by
  rcases O with ⟨g,_⟩|⟨g,_,_⟩|⟨_,_,g⟩|⟨_,g,_⟩
  ·exact absurd g B
  ·exact absurd g B
  ·exact g
  ·exact absurd D g
 refine xW M l ⟨J,G⟩ (.stop (gI i)) (.stop (gI h)) (fun g _=>absurd D g) (.inr (.inl ⟨D,fun g=>B g.1,o⟩))
end
end
section
open Go Go.RowKit
mutual
def ox:T->Int->Bool
 | .mk _ _ _ ks,d=>if d<1 then false else Hv ks (d - 1)
def Hv:List T->Int->Bool
 | [],_=>true
 | t::ts,d=>ox t d && Hv ts d
end
theorem yS:∀ (ts:List T) (d:Int),Hv ts d=ts.all fun t=>ox t d
 | [],_=>rfl
 | t::ts,d=>by rw [Hv,yS ts d]; rfl
def bv (u:T):Bool:=decide (dF u<=120) && ox u 30
theorem Jm (us:List T) (j:Nat) (h:j<us.length):cY (us.take (j+1))=cY (us.take j)+dF us[j]:=by
 induction us generalizing j with
 | nil=>simp at h
 | cons u us a=>
  cases j with
  | zero=>simp only [tT,sS,lc,cY]; omega
  | succ j=>
   have:=a j (by simpa using h);simp only [tT,Uz,cY] at *;omega
theorem yw (us:List T) (j:Nat):cY (us.take j)<=cY us:=by
 induction us generalizing j with
 | nil=>simp
 | cons u us a=>
  cases j with
  | zero=>simp only [sS]; exact ef _
  | succ j=>
   have:=a j;simp only [tT,cY];omega
theorem oo (k n:Int) (s:ByteArray) (ks:List T):dF (.mk k n s ks)=1+cY ks:=rfl
theorem qx {w:World} {v:Value} {e:TypeId} {k n:Nat} {xs:List Value} (h:(Item.row v e k n xs).holds w):v.cells=#[v]/\v.oneCell'=true:=by
 have h:w.ownsRow 0 e k v n xs:=h;rcases h.2 with ⟨rfl,_⟩|⟨g,cap,a,rfl,_⟩ <;> exact ⟨rfl,rfl⟩
section
attribute [local irreducible] Run CondV aq aK
theorem qX {K:Value->World->Prop} {w:World} (hk:K (.agg #[.int .i64 0,.int .i64 0,.string ⟨#[]⟩,.slice none 0 0]) w):Run Tryz.prog (cR ab []) w K:=by
 refine Run.of ?_ hk
 kernel_rfl
theorem Km:∀ (t:T) (d:Int) (S:ae) (cs:List Value),RdT S cs t->-1000000<=d->d<=1000000->Pure Tryz.prog QF [.agg cs.toArray,.int .i64 d] S (.bool (ox t d)):=by
 refine T.ind fun k n s ks J d S cs h M N=>?_;intro w a;obtain ⟨kv,rfl,_,_,_,l⟩:=RdT.iff.1 h;simp only [T.name,T.kids,T.kind,T.n] at l ⊢;have o:=l.le;simp only [maxLen] at o;refine CO.2 ?_;dsimp only[CO,bm];refine bJ a fun O w' a=>?_;rw [ox];refine bS ?_;refine aL (fun hd=>?_) (fun hd=>?_)
 ·rw [ai hd];exact done a rfl
 rw [ag hd,yS];refine ⟨fun i w'=>∃ j:Nat,j<=ks.length/\i=.int .i64 j/\((ks.drop j).all fun t=>ox t (d - 1))=(ks.all fun t=>ox t (d - 1))/\Inv w [] [.blk O (.cells #[.int .i64 k,.int .i64 n,.string s,kv] ab)] S w',
  fun i _=>ks.length - (intOf i).toNat,⟨0,bk _,rfl,rfl,a⟩,?_⟩
 intro V _ _ _ _ _ _ _ _ _ _ _ _ _ _ _ _ _ w';rintro ⟨j,Y,rfl,f,a⟩;refine af a 0 rfl ar al rfl ?_;refine aJ l ah ?_;refine bS ?_;refine aL (fun r=>?_) (fun r=>?_)
 ·have m:j<ks.length:=by omega
  have g:=y6 (fun t=>ox t (d - 1)) ks j m;refine af a 0 rfl ar al rfl ?_;refine co a l ah ad m (fun _ _=>RdT.length) fun cs B=>?_;refine kT (by omega) ?_;refine Run.callPure C8 Cj a (J _ (bG m) (d - 1) S cs B (by omega) (by omega)) fun w' a=>?_;refine cw ?_;refine aD (fun D=>done a ?_) (fun U=>?_)
  ·have q:ox ks[j] (d - 1)=false:=by simpa using D
   rw [<- f,g,q]; rfl
  ·have G:ox ks[j] (d - 1)=true:=by simpa using U
   refine bC (by omega) ?_;exact ⟨⟨j+1,m,rfl,by rw [<- f,g,G]; rfl,a⟩,by simp [intOf]; omega⟩
 ·have:j=ks.length:=by omega
  subst this;exact done a (by rw [<- f,eC]; rfl)
def aaq (kb:Nat) (kc:Array Value) (u:T) (room:Int):Value->List Item->ae->Prop:=fun q I' S'=>I'=[.blk kb (.cells kc ab)]/\
 ∃ cs':List Value,cs'.length=4/\(∀ x∈cs',x.oneCell'=true)/\q=.tuple #[.agg cs'.toArray,.int .i64 (if dF u<=room then room - dF u else -1)]/\(dF u<=room->RdT S' cs' u)
def FC (N kp:Nat) (st:aj) (t u:T):Prop:=∀ (S:ae) (cs:List Value) (kb:Nat) (kc:Array Value) (room:Int),RdT S cs t->KnU S kc st->-1<=room->room<=1000000->
 Tri Tryz.prog P1 [.agg cs.toArray,kvU kb N kp,.int .i64 room] [.blk kb (.cells kc ab)] S (aaq kb kc u room)
theorem oY:∀ x∈([.int .i64 0,.int .i64 0,.string ⟨#[]⟩,.slice none 0 0]:List Value),x.oneCell'=true:=by simp [Value.oneCell']
theorem OO {N kp:Nat} {st:aj} {t v:T} {us:List T} (hg:Good N st) (a2:dr st t v) (a3:okU N t/\wT t<=1048576) (c8:us.length=v.kids.length)
  (hk:∀ i (h:i<us.length) (h':i<v.kids.length),FC N kp st v.kids[i] us[i]):FC N kp st t (.mk v.kind v.n v.name us):=by
 intro S cs r B g h a4 c9 d0 w a;have b1:=h.length;have c2:=dz hg a2 a3;obtain ⟨X,hX⟩:∃ X,X=bP [Item.blk r (.cells B ab)]:=⟨_,rfl⟩
 rw [<- hX] at a ⊢;have d6:=ef us;refine CR.2 ?_;dsimp only[CR,fQ];refine bJ a fun b3 w' a=>?_;refine aQ a bj fun Y w' a=>?_;have a:Inv w X ([.blk b3 (.cells cs.toArray ab),.blk Y (.cells #[.int .i64 0,.int .i64 0,.string ⟨#[]⟩,.slice none 0 0] ab)]++[.blk r (.cells B ab)]) S w':=a.perm (cj (l₁:=[_,_]) (l₂:=[_]));refine bS ?_;refine aL (fun b5=>?_) (fun b5=>?_)
 ·refine qX ?_;refine au a 1 rfl ad rfl rfl oY fun w' a=>?_;refine bB a 1 ad rfl rfl ?_;refine ⟨_,_,_,rfl,a.pick [false,false,true],Ext.refl _ _ _,rfl,_,rfl,oY,?_,fun h=>?_⟩
  ·rw [oo,ag (by omega)]
  ·rw [oo] at h; omega
 refine aC a 0 ad rfl (by simpa using b1) ?_;refine Run.call tW tO a (qN hg a2 a3.1 h a4) fun v' I' S' w'=>?_;rintro ⟨eS,rfl,d1,rfl,D⟩ _ a;rw [eS] at a;clear eS;refine au a 0 rfl ad (by simpa using D.length) (by simpa using b1) (by simpa using D.one) fun w' a=>?_;obtain ⟨kv,rfl,c0,c1,hs,a1⟩:=RdT.iff.1 D;have a:Inv w X [.blk b3 (.cells #[.int .i64 v.kind,.int .i64 v.n,.string v.name,kv] ab),.blk Y (.cells #[.int .i64 0,.int .i64 0,.string ⟨#[]⟩,.slice none 0 0] ab),.blk r (.cells B ab)] S w':=a;have c5:=a1.le;have d7:v.kids.length<=1048576:=by
  have:=c2.2;cases v;simp only [wT] at this;simp only [T.kids];omega
 refine af a 0 rfl aW aG rfl ?_;refine af a 0 rfl bi aG rfl ?_;refine af a 0 rfl bl be rfl ?_;refine jd ?_;refine aQ a bj fun O w' a=>?_;have a:Inv w X [.blk b3 (.cells #[.int .i64 v.kind,.int .i64 v.n,.string v.name,kv] ab),.blk Y (.cells #[.int .i64 0,.int .i64 0,.string ⟨#[]⟩,.slice none 0 0] ab),.blk O _,.blk r (.cells B ab)] S w':=a.perm (((cj (l₁:=[_]) (l₂:=[_])).cons _).cons _);refine au a 2 rfl ad rfl rfl (by simp [Value.oneCell']) fun w' a=>?_;refine kT (by omega) ?_;have a:=a.rowNil ab 4;have a:Inv w X [.blk b3 (.cells #[.int .i64 v.kind,.int .i64 v.n,.string v.name,kv] ab),.blk Y (.cells #[.int .i64 0,.int .i64 0,.string ⟨#[]⟩,.slice none 0 0] ab),.blk O (.cells #[.int .i64 v.kind,.int .i64 v.n,.string v.name,.slice none 0 0] ab),aA (.slice none 0 0) ab 4 [],.blk r (.cells B ab)] S w':=a.perm ((((cj (l₁:=[_]) (l₂:=[_])).cons _).cons _).cons _);refine ⟨fun i l w'=>∃ (j:Nat) (left:Int) (f:Value) (css:List (List Value)) (S1:ae),j<=us.length/\i=.int .i64 j/\l=.int .i64 left/\Ext w.heap.size X S S1/\css.length=j/\
   ((left=g - 1 - cY (us.take j)/\0<=left/\Rows 4 (RdT S1) css (us.take j)) ∨ (left=-1/\g - 1<cY us))/\
   Inv w X [.blk b3 (.cells #[.int .i64 v.kind,.int .i64 v.n,.string v.name,kv] ab),.blk Y (.cells #[.int .i64 0,.int .i64 0,.string ⟨#[]⟩,.slice none 0 0] ab),.blk O (.cells #[.int .i64 v.kind,.int .i64 v.n,.string v.name,f] ab),aA f ab 4 css,.blk r (.cells B ab)] S1 w',
  fun i _ _=>us.length - (intOf i).toNat,⟨0,g - 1,_,[],S,bk _,rfl,rfl,Ext.refl _ _ _,rfl,.inl ⟨by simp [cY],by omega,Rows.nil _ _⟩,a⟩,?_⟩
 intro d2 _ _ t9 _ _ _ _ _ _ _ _ _ _ _ _ _ _ _ _ _ _ _ _ _ _ _ _ _ _ _ _ _ w';rintro ⟨j,left,f,css,S1,hj,rfl,rfl,hE,b4,a5,a⟩;refine ⟨fun q w'=>q=.bool (decide (j<us.length/\0<=left))/\Inv w X [.blk b3 (.cells #[.int .i64 v.kind,.int .i64 v.n,.string v.name,kv] ab),.blk Y (.cells #[.int .i64 0,.int .i64 0,.string ⟨#[]⟩,.slice none 0 0] ab),.blk O (.cells #[.int .i64 v.kind,.int .i64 v.n,.string v.name,f] ab),aA f ab 4 css,.blk r (.cells B ab)] S1 w',?_,?_⟩
 ·refine af a 0 rfl ar al rfl ?_;refine aJ a1 ah ?_;refine bS ?_;by_cases e1:(j:Int)<(v.kids.length:Nat)
  ·rw [aN e1];refine rpG ?_;refine jM ?_;refine rpG ?_;refine ⟨?_,a⟩
   congr 1
   rw [nZ,bD,bD];omega
  ·rw [ba e1];refine rpG ?_;refine ⟨?_,a⟩;rw [ba (by omega)]
 intro q _ _ _ _ _ _ _ _ w';rintro ⟨rfl,a⟩;refine aL (fun a8=>?_) (fun a8=>?_)
 ·obtain ⟨Z,d3⟩:=a8;have b2:j<v.kids.length:=by omega
  obtain ⟨hleft,_,hR⟩:left=g - 1 - cY (us.take j)/\0<=left/\Rows 4 (RdT S1) css (us.take j):=by
   rcases a5 with h1|⟨h1,_⟩
   ·exact h1
   ·omega
  have c6:=ef (us.take j);refine af a 0 rfl ar al rfl ?_;refine co a (a1.monoT hE.1) ah ad b2 (fun _ _=>RdT.length) fun b7 a9=>?_;have a:Inv w X ([.blk b3 (.cells #[.int .i64 v.kind,.int .i64 v.n,.string v.name,kv] ab),.blk Y (.cells #[.int .i64 0,.int .i64 0,.string ⟨#[]⟩,.slice none 0 0] ab),.blk O (.cells #[.int .i64 v.kind,.int .i64 v.n,.string v.name,f] ab),aA f ab 4 css]++[.blk r (.cells B ab)]) S1 _:=a;refine Run.callE C7 Cy a (hk j Z b2 S1 b7 r B left a9 (a4.mono hE.1) (by omega) (by omega)) fun v' I' S2 w'=>?_;rintro ⟨rfl,U,V,a6,rfl,a0⟩ a7 a;refine av rfl ?_;refine av rfl ?_;refine aQ a bj fun b9 w' a=>?_;have a:=a.perm (M:=.blk b9 _::[.blk b3 (.cells #[.int .i64 v.kind,.int .i64 v.n,.string v.name,kv] ab),.blk Y (.cells #[.int .i64 0,.int .i64 0,.string ⟨#[]⟩,.slice none 0 0] ab),.blk O (.cells #[.int .i64 v.kind,.int .i64 v.n,.string v.name,f] ab),aA f ab 4 css,.blk r (.cells B ab)]) (cj (l₁:=[_]));refine au a 0 rfl ad (by simpa using V) rfl (by simpa using a6) fun w' a=>?_;refine af (b:=O) (c:=#[.int .i64 v.kind,.int .i64 v.n,.string v.name,f]) a 3 rfl ar al rfl ?_;refine aC a 0 ad rfl (by simpa using V) ?_;refine de a 4 U bn (by omega) (by omega) rfl V a6 (by omega) (by omega) fun m w' a=>?_;have o:=qx (a.its (aA m ab 4 (css++[U])) (by simp));refine dj (b:=O) (c:=#[.int .i64 v.kind,.int .i64 v.n,.string v.name,f]) a 3 rfl ar al rfl o.1 o.2 fun w' a=>?_;have a:Inv w X [.blk b3 (.cells #[.int .i64 v.kind,.int .i64 v.n,.string v.name,kv] ab),.blk Y (.cells #[.int .i64 0,.int .i64 0,.string ⟨#[]⟩,.slice none 0 0] ab),.blk O (.cells #[.int .i64 v.kind,.int .i64 v.n,.string v.name,m] ab),aA m ab 4 (css++[U]),.blk r (.cells B ab)] S2 w':=a.pick [false,true,true,true,true,true];refine bC (by omega) ?_;have d9:=Jm us j Z;have c7:=yw us (j+1);have e0:=pU us[j];refine ⟨⟨j+1,_,m,css++[U],S2,Z,rfl,rfl,hE.trans a7,by simp [b4],?_,a⟩,by simp [intOf]; omega⟩;by_cases J:dF us[j]<=left
  ·left;rw [ai J];refine ⟨by omega,by omega,?_⟩;rw [eV Z];exact (hR.monoR fun _ _ h=>RdT.mono a7.1 h).snoc (a0 J) V
  ·right;rw [ag J];exact ⟨rfl,by omega⟩
 ·refine aC (b:=O) (c:=#[.int .i64 v.kind,.int .i64 v.n,.string v.name,f]) a 2 ad rfl rfl ?_;have o:=qx (a.its (aA f ab 4 css) (by simp));have G:∀ x∈([.int .i64 v.kind,.int .i64 v.n,.string v.name,f]:List Value),x.oneCell'=true:=by
   intro x hx;simp at hx;rcases hx with rfl|rfl|rfl|rfl <;> first|rfl|exact o.2
  refine au a 1 rfl ad rfl rfl G fun w' a=>?_;refine bB (c:=#[.int .i64 v.kind,.int .i64 v.n,.string v.name,f]) a 1 ad rfl rfl ?_;have a:Inv w X ([.blk r (.cells B ab)]++[aA f ab 4 css]) S1 w':=(a.pick [false,false,false,true,true]).perm (List.Perm.swap ..);rcases a5 with ⟨h1,h2,hR⟩|⟨h1,h2⟩
  ·have c3:j=us.length:=by omega
   rw [c3,d4] at h1 hR;obtain ⟨S3,b0,a0,a⟩:=a.lendExt;have c4:=RowRd.rows (hR.monoR fun _ _ h=>RdT.mono b0.1 h) a0;refine ⟨_,_,_,rfl,a,hE.trans b0,rfl,[.int .i64 v.kind,.int .i64 v.n,.string v.name,f],rfl,G,?_,fun _=>RdT.iff.2 ⟨f,rfl,c0,c1,hs,c4⟩⟩;rw [oo,ai (by omega),show left=g - (1+cY us) by omega]
  ·refine ⟨_,_,_,rfl,a.sub (dt _ _),hE,rfl,[.int .i64 v.kind,.int .i64 v.n,.string v.name,f],rfl,G,?_,fun h=>?_⟩
   ·rw [oo,ag (by omega),h1]
   ·rw [oo] at h; omega
theorem Le {N kp:Nat} {st:aj} (m:Good N st) {j:M8} (r:Res st j):match j with
  | .one t u=>(okU N t/\wT t<=1048576)->FC N kp st t u
  | .list ts us=>(∀ t∈ts,okU N t/\wT t<=1048576)->us.length=ts.length/\∀ i (h:i<us.length) (o:i<ts.length),FC N kp st ts[i] us[i]:=by
 induction r with
 | one q _ G=>
  intro a;have f:=G (jn (dz m q a));exact OO m q a f.1 f.2
 | nil=>exact fun _=>⟨rfl,fun i h _=>by simp at h⟩
 | cons _ _ g l=>
  intro a;obtain ⟨f,D⟩:=l fun t B=>a t (aR _ B);refine ⟨by simp [f],fun i h o=>?_⟩;cases i with
  | zero=>exact g (a _ (aM ..))
  | succ i=>exact D i (by simpa using h) (by simpa using o)
def YT (kb:Nat) (kc:Array Value) (u:T):Value->List Item->ae->Prop:=fun q I' S'=>I'=[.blk kb (.cells kc ab)]/\
 ∃ cs':List Value,cs'.length=4/\(∀ x∈cs',x.oneCell'=true)/\q=.tuple #[.agg cs'.toArray,.bool (bv u)]/\(bv u=true->RdT S' cs' u)
theorem HZ {N kp:Nat} {st:aj} (hg:Good N st) {t u:T} (hr:Res st (.one t u)) (ho:okU N t/\wT t<=1048576) {S:ae} {cs:List Value} {o:Nat} {q:Array Value} (h:RdT S cs t) (a1:KnU S q st) :
  Tri Tryz.prog Ot [.agg cs.toArray,kvU o N kp] [.blk o (.cells q ab)] S (YT o q u):=by
 intro w a;have a3:=h.length;obtain ⟨X,hX⟩:∃ X,X=bP [Item.blk o (.cells q ab)]:=⟨_,rfl⟩
 rw [<- hX] at a ⊢;have G:FC N kp st t u:=Le hg hr ho;refine yQ.2 ?_;dsimp only[yQ,bm];refine bJ a fun b2 w' a=>?_;refine aQ a bj fun b4 w' a=>?_;have a:Inv w X ([.blk b2 (.cells cs.toArray ab),.blk b4 (.cells #[.int .i64 0,.int .i64 0,.string ⟨#[]⟩,.slice none 0 0] ab)]++[.blk o (.cells q ab)]) S w':=a.perm (cj (l₁:=[_,_]) (l₂:=[_]));refine aC a 0 ad rfl (by simpa using a3) ?_;refine Run.callE C7 Cy a (G S cs o q 120 h a1 (by omega) (by omega)) fun v' I' S1 w'=>?_;rintro ⟨rfl,g,i,l,rfl,a2⟩ hE a;refine av rfl ?_;refine av rfl ?_;refine aQ a bj fun b6 w' a=>?_;have a:Inv w X [.blk b2 (.cells cs.toArray ab),.blk b4 (.cells #[.int .i64 0,.int .i64 0,.string ⟨#[]⟩,.slice none 0 0] ab),.blk o (.cells q ab),.blk b6 _] S1 w':=a;refine au a 3 rfl ad (by simpa using i) rfl (by simpa using l) fun w' a=>?_;have a:Inv w X [.blk b2 (.cells cs.toArray ab),.blk b4 (.cells #[.int .i64 0,.int .i64 0,.string ⟨#[]⟩,.slice none 0 0] ab),.blk o (.cells q ab),.blk b6 (.cells g.toArray ab)] S1 w':=a;by_cases hc:dF u<=120
 ·rw [ai hc];have a4:=pU u;have a0:=a2 hc;refine ⟨fun D J M O U V Y Z Hi B=>Fx D 0 [Hi=.agg g.toArray,Z=.int .i64 (120 - dF u),Y=.bool true,V=.bool true,U=.agg g.toArray,O=.bool (ox u 30),M=.bool (ox u 30),True,J=.bool (ox u 30)]/\Inv w X [.blk b2 (.cells cs.toArray ab),.blk b4 (.cells (cond (D 7) g.toArray #[.int .i64 0,.int .i64 0,.string ⟨#[]⟩,.slice none 0 0]) ab),.blk o (.cells q ab),.blk b6 (.cells g.toArray ab)] S1 B,⟨Fx.nil _ _,a.draw⟩,⟨?_,?_,?_,?_,?_,?_,?_,?_,?_,trivial⟩,?_⟩;all_goals (intro D bH; intros; rename_i J M O U V Y Z Hi B m; have f:=m.1; obtain ⟨⟨cI,cJ,cH,r,cL,cN,cq,dg,dG,_⟩,a⟩:=m)
  ·refine aC a 3 ad rfl (by simpa using i) ?_;exact ⟨f.set 0 rfl,a⟩
  ·exact ⟨f.set 1 rfl,a⟩
  ·obtain rfl:=cJ ‹_›;refine jM ?_;rw [aN (by omega)];exact ⟨f.set 2 rfl,a⟩
  ·obtain rfl:=cH ‹_›;exact ⟨f.set 3 rfl,a⟩
  ·obtain rfl:=r ‹_›;refine rpG ?_;refine aC a 3 ad rfl (by simpa using i) ?_;exact ⟨f.set 4 rfl,a⟩
  ·obtain rfl:=cL ‹_›;obtain rfl:=r ‹_›;refine rpG ?_;refine Run.callPure C8 Cj a (Km u 30 S1 g a0 (by omega) (by omega)) fun B a=>?_;exact ⟨f.set 5 rfl,a⟩
  ·obtain rfl:=r ‹_›;obtain rfl:=cN ‹_›;refine rpG ?_;exact ⟨f.set 6 rfl,a⟩
  ·obtain rfl:=cI ‹_›;rw [bH] at a;refine au a 1 rfl ad (by simpa using i) rfl (by simpa using l) fun B a=>?_;exact ⟨f.set 7 trivial,a⟩
  ·obtain rfl:=cq ‹_›;exact ⟨f.set 8 rfl,a⟩
  obtain ⟨rfl,rfl,rfl,rfl,rfl,rfl,rfl,_,rfl,_⟩:=f.all;have vm:D 7=true:=by assumption
  clear f cI cJ cH r cL cN cq dg dG;rw [vm] at a;refine bB a 1 ad rfl (by simpa using i) ?_;have e:bv u=ox u 30:=by rw [bv,aN hc,eH]
  exact ⟨_,_,_,rfl,a.pick [false,false,true,false],hE,rfl,g,i,l,by rw [e]; rfl,fun _=>a0⟩
 ·rw [ag hc];refine ⟨fun D J M O U V Y Z Hi B=>Fx D 0 [Hi=.agg g.toArray,Z=.int .i64 (-1),Y=.bool false,V=.bool false,U=undef,O=undef,M=.bool false,True,J=.bool false]/\Inv w X [.blk b2 (.cells cs.toArray ab),.blk b4 (.cells (cond (D 7) g.toArray #[.int .i64 0,.int .i64 0,.string ⟨#[]⟩,.slice none 0 0]) ab),.blk o (.cells q ab),.blk b6 (.cells g.toArray ab)] S1 B,⟨Fx.nil _ _,a.draw⟩,⟨?_,?_,?_,?_,?_,?_,?_,?_,?_,trivial⟩,?_⟩;all_goals (intro D bH; intros; rename_i J M O U V Y Z Hi B m; have f:=m.1; obtain ⟨⟨cI,cJ,cH,r,cL,cN,cq,dg,dG,_⟩,a⟩:=m)
  ·refine aC a 3 ad rfl (by simpa using i) ?_;exact ⟨f.set 0 rfl,a⟩
  ·exact ⟨f.set 1 rfl,a⟩
  ·obtain rfl:=cJ ‹_›;refine jM ?_;rw [ba (by omega)];exact ⟨f.set 2 rfl,a⟩
  ·obtain rfl:=cH ‹_›;exact ⟨f.set 3 rfl,a⟩
  ·obtain rfl:=r ‹_›;refine rpG ?_;exact ⟨f.set 4 rfl,a⟩
  ·obtain rfl:=cL ‹_›;obtain rfl:=r ‹_›;refine rpG ?_;exact ⟨f.set 5 rfl,a⟩
  ·obtain rfl:=r ‹_›;obtain rfl:=cN ‹_›;refine rpG ?_;exact ⟨f.set 6 rfl,a⟩
  ·obtain rfl:=cI ‹_›;rw [bH] at a;refine au a 1 rfl ad (by simpa using i) rfl (by simpa using l) fun B a=>?_;exact ⟨f.set 7 trivial,a⟩
  ·obtain rfl:=cq ‹_›;exact ⟨f.set 8 rfl,a⟩
  obtain ⟨rfl,rfl,rfl,rfl,rfl,rfl,rfl,_,rfl,_⟩:=f.all;have vm:D 7=true:=by assumption
  clear f cI cJ cH r cL cN cq dg dG;rw [vm] at a;refine bB a 1 ad rfl (by simpa using i) ?_;have e:bv u=false:=by rw [bv,ba hc,iP]
  exact ⟨_,_,_,rfl,a.pick [false,false,true,false],hE,rfl,g,i,l,by rw [e]; rfl,fun h=>by rw [e] at h; cases h⟩
end
end
end Go.Proofs.YtgllldjiaglkcaaGreatDoor

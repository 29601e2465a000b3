/- Clauses and programs read: spec.l4Text, FormatClause, l4Goals, ParseClause, l18Cut, ParseProgram. -/
import Derived.Test.YtjbcdmheajljpaaGreatZLp6
namespace Go.Proofs.YtjbcdmheajljpaaGreat
section
open Go Go.RowKit
theorem wl:∀ (f:Nat) (l:List T) (b:Bool) (out x:Bs),yK f l b out=some x->out.length<=x.length
 | _,[],_,out,x,h=>by simp only [yK,bh] at h; subst h; exact be _
 | f,t::l,b,out,x,h=>by
  rw [yK] at h;split at h
  ·cases h
  ·have:=wl f _ _ _ _ h;simp only [bv] at this;omega
section
variable {S:ag}
attribute [local irreducible] Run CondV aC aU
theorem FV {f:Nat} (hf:f<=100) {c:C} {cs:List Value} {x:Bs} (h:RdC S cs c) (o:Mk f c=some x) (hl:x.length<=1000000):Pure Tryz.prog KA [.agg cs.toArray] S (.string (st x)):=by
 intro w g;obtain ⟨hd,ks,rfl,M,D⟩:=h;have G:=M;obtain ⟨kv,rfl,_⟩:=RdT.iff.1 M;unfold Mk at o;split at o
 ·cases o
 rename_i y N
 split at o
 ·cases o
 rename_i z J
 simp only [bh] at o;have Y:z.length+1=x.length:=by rw [<- o,bv]; rfl
 have Z:=wl _ _ _ _ _ J;have hb:c.body.length<=9223372036854775807:=by have:=D.le; simpa [maxLen] using this
 refine xV.2 ?_;dsimp only[xV,aQ];refine bH g fun r w' g=>?_;have g:Inv w [] [.blk r (.cells #[.int .i64 c.head.kind,.int .i64 c.head.n,.string c.head.name,kv,ks] ai)] S w':=g;refine au cC ?_;refine fo g 0 [.int .i64 c.head.kind,.int .i64 c.head.n,.string c.head.name,kv] ad rfl rfl Kl ?_;refine Run.callPure f0 gu g (El hf _ y S _ N (by omega) G) fun w' g=>?_;refine ⟨fun a b w'=>∃ (j:Nat) (out:Bs),j<=c.body.length/\a=.int .i64 (j:Int)/\b=.string (st out)/\yK f (c.body.drop j) (decide (j=0)) out=some z/\Inv w [] [.blk r (.cells #[.int .i64 c.head.kind,.int .i64 c.head.n,.string c.head.name,kv,ks] ai)] S w',
  fun a _ _=>c.body.length - (intOf a).toNat,⟨0,y,aK _,rfl,rfl,J,g⟩,?_⟩
 intro t4 _ _ _ _ _ _ _ _ _ _ _ _ O _ _ _ _ _ _ _ _ _ w';rintro ⟨j,out,hj,rfl,rfl,i,g⟩;refine ah g 0 rfl bC ax rfl ?_;refine aG D ao ?_;refine cu ?_;refine aS (fun t=>?_) (fun t=>?_)
 ·have q:j<c.body.length:=by omega
  rw [dR q,yK] at i;split at i
  ·cases i
  rename_i u U
  have p:=wl _ _ _ _ _ i;simp only [bv] at p;obtain ⟨m,l⟩:∃ m:Bs,m=if decide (j=0)=true then [58,45] else [44]:=⟨_,rfl⟩
  rw [<- l] at i p;refine ⟨fun b w'=>b=.string (st (out++m))/\Inv w [] [.blk r (.cells #[.int .i64 c.head.kind,.int .i64 c.head.n,.string c.head.name,kv,ks] ai)] S w',?_,?_⟩
  ·refine bn ?_;refine aS (fun V=>?_) (fun V=>?_)
   ·rw [af (aP (by omega))] at l;subst l;refine dV (b:=[58,45]) (by omega) ?_;exact ⟨rfl,g⟩
   ·rw [ae (by rw [bE]; omega)] at l;subst l;refine dV (b:=[44]) (by omega) ?_;exact ⟨rfl,g⟩
  intro _ _ O _ _ _ _ w';rintro ⟨rfl,g⟩;refine ah g 0 rfl bC ax rfl ?_;refine dy g D ao ad q (fun _ _=>RdT.length) fun es B=>?_;refine Run.callPure f0 gu g (El hf _ u S _ U (by omega) B) fun w' g=>?_;refine dV (by rw [bv]; omega) ?_;refine bF (by omega) ?_;refine ⟨⟨j+1,out++m++u,q,rfl,rfl,?_,g⟩,by simp only [intOf,eB]; omega⟩;rw [bf (by omega)];exact i
 ·have:j=c.body.length:=by omega
  subst this;rw [ew,yK] at i;simp only [bh] at i;subst i;refine dV (b:=[46]) (by simp only [aO,cq]; omega) ?_;exact done g (by rw [<- o])
theorem sV {f:Nat} (hf:f<=100) {c:C} {cs:List Value} {x:Bs} (h:RdC S cs c) (hc:a9 c=true) (i:wC c<=1048576) (j:Mk f c=some x) (l:x.length<=1000000):Pure Tryz.prog xb [.agg cs.toArray] S (.string (st x)):=by
 intro w a;have g:=h;obtain ⟨q,ks,rfl,o,r⟩:=h;obtain ⟨kv,rfl,_⟩:=RdT.iff.1 o;refine lU.2 ?_;dsimp only[lU,aQ];refine bH a fun p w' a=>?_;refine aq a 0 aN rfl rfl ?_;refine Run.callPure mo mH a (k0 g i) fun w' a=>?_;refine cU ?_;rw [hc];refine aI (fun m=>by cases m) (fun _=>?_);refine aq a 0 aN rfl rfl ?_;refine Run.callPure Iq H7 a (FV hf g j l) fun w' a=>?_;exact done a rfl
theorem Dl {f k:Nat} {s:Bs} {i:Nat} {ts:List T} {n:Nat} (h:r3 f k s i []=some (ts,n)) (hs:s.length<=100000) (hi:i<=s.length):Tri Tryz.prog GS [.string (st s),.int .i64 (i:Int)] [] S (QO ts n):=by
 intro w j;refine vw.2 ?_;dsimp only[vw,bm];refine fc j bA fun v0 w' j=>?_;refine ⟨fun a b w'=>∃ (V N:Nat) (l:List T) (S1:ag) (css:List (List Value)),a=.int .i64 (N:Int)/\N<=s.length/\r3 f V s N l=some (ts,n)/\Ext w.heap.size [] S S1/\Rows 4 (RdT S1) css l/\(∃ p m,b=.slice p l.length m)/\Inv w [] [aB b ac 4 css] S1 w',
  fun a _ _=>s.length+1 - (intOf a).toNat,⟨k,i,[],S,[],rfl,hi,h,Ext.refl _ _ _,Rows.nil _ _,?_,j⟩,?_⟩
 ·have u:Inv w [] ([]++[aB v0 ac 4 []]) S w':=j;obtain ⟨S1,_,r,_⟩:=Inv.lendExt u;obtain ⟨p,m,e,_⟩:=RowRd.rows (Rows.nil 4 (RdT S)) r;exact ⟨p,m,e⟩
 intro t1 _ _ _ _ _ _ _ _ t6 _ _ _ _ _ _ _ _ _ _ _ _ _ _ _ _ _ _ _ w';rintro ⟨V,N,l,S1,css,rfl,Y,B,hE,hR,⟨p,m,rfl⟩,j⟩;have a3:=hR.hc;cases V with
 | zero=>simp [r3] at B
 | succ g=>
 rw [r3] at B;split at B
 ·cases B
 rename_i h6
 split at B
 ·cases B
 rename_i t O hr
 have a4:=(g6 f).1 _ _ _ _ _ _ hr;refine iN ao ?_;refine Gx (by omega) ?_;refine aI (fun _=>?_) (fun G=>by cases G);refine Run.call0E gh gk j (DS f s N 30 3 t O S1 hr hs Y (by omega) (by omega)) fun v I' S2 w'=>?_;rintro ⟨rfl,cs,rfl,o⟩ D j;have a0:=hR.monoR fun _ _ h=>RdT.mono D.1 h;obtain ⟨kv,rfl,_,_,_,a,q,rfl,_⟩:=RdT.iff.1 o;refine aA (v:=.agg _) rfl ?_;refine aA (v:=.int .i64 (O:Int)) rfl ?_;refine aH j aM fun a1 w' j=>?_;refine al j 1 rfl ad rfl rfl (by simp [Value.oneCell']) fun w' j=>?_;refine fh (by omega) ?_;refine aI (fun G=>by cases G) (fun _=>?_);refine aq j 1 ad rfl rfl ?_;refine dC (css:=css) j 0 _ bA (by omega) (by omega) rfl o.length o.one (by omega) (by omega) fun v' w' j=>?_;have j:Inv w [] [aB v' ac 4 (css++[[.int .i64 t.kind,.int .i64 t.n,.string t.name,.slice a t.kids.length q]])] S2 w':=j.pick [true,false];have J:=a0.snoc o o.length;have u:Inv w [] ([]++[aB v' ac 4 (css++[[.int .i64 t.kind,.int .i64 t.n,.string t.name,.slice a t.kids.length q]])]) S2 w':=j;obtain ⟨S3,Z,r,a2⟩:=Inv.lendExt u;have M:=RowRd.rows (J.monoR fun _ _ h=>RdT.mono Z.1 h) r;refine Run.callPure dq dp j (cV s O 44 S2) fun w' j=>?_;refine cU ?_;split at B
 ·rename_i C
  rw [C];refine aI (fun G=>by cases G) (fun _=>?_);have:=iK C;refine ff (a:=O) (b:=1) rfl rfl (by omega) ?_;obtain ⟨p',m',e',_⟩:=M;refine ⟨⟨g,O+1,l++[t],S2,_,rfl,by omega,B,hE.trans D,J,⟨p',m',e'⟩,j⟩,?_⟩;simp only [intOf,eB];omega
 ·rename_i C
  rw [cS.2 C];refine aI (fun _=>?_) (fun G=>by cases G);simp only [bh,di] at B;obtain ⟨rfl,rfl⟩:=B;have u:Inv w [] ([]++[aB v' ac 4 (css++[[.int .i64 t.kind,.int .i64 t.n,.string t.name,.slice a t.kids.length q]])]) S2 w':=j;obtain ⟨S4,U,r,j⟩:=Inv.lendExt u;have M:=RowRd.rows (J.monoR fun _ _ h=>RdT.mono U.1 h) r;exact ⟨_,[],S4,rfl,j,(hE.trans D).trans U,rfl,_,rfl,M⟩
abbrev SQ (c:C) (b:Bool):Value->List Item->ag->Prop:=fun v I' S'=>I'=[]/\∃ cs,v=.tuple #[.agg cs.toArray,.bool b]/\RdC S' cs c
theorem uS {f:Nat} (hf:f<=100) {s:Bs} {c:C} (h:vf f s=some c):Tri Tryz.prog ze [.string (st s)] [] S (SQ c true):=by
 intro w g;refine mE.2 ?_;dsimp only[mE,aQ];unfold vf at h;split at h
 ·cases h
 rename_i hs
 split at h
 ·cases h
 rename_i i n hr
 have b3:=(g6 f).1 _ _ _ _ _ _ hr;have j:∃ b l,c=⟨i,b⟩/\M9 f s c l=some c/\((sgn s n 58=true/\sgn s (n+1) 45=true/\r3 f 8 s (n+2) []=some (b,l)) ∨ (¬ (sgn s n 58=true/\sgn s (n+1) 45=true)/\b=[]/\l=n)):=by
  have U:∀ (c':C) (m:Nat),M9 f s c' m=some c->c'=c:=fun c' m h=>by
   unfold M9 at h;split at h
   ·exact Option.some.inj h
   ·cases h
  split at h
  ·rename_i o
   split at h
   ·cases h
   rename_i b l hg
   have e:=U _ _ h;subst e;exact ⟨b,l,rfl,h,.inl ⟨o.1,o.2,hg⟩⟩
  ·rename_i o
   have e:=U _ _ h;subst e;exact ⟨[],n,rfl,h,.inr ⟨o,rfl,rfl⟩⟩
 clear h;obtain ⟨b,l,rfl,j,D⟩:=j;unfold M9 at j;split at j
 case isFalse=>cases j
 rename_i hq
 obtain ⟨b0,a2,a3,b1,a4⟩:=hq;clear j;refine aH g dn fun b2 w' g=>?_;refine fP aR ?_;refine mi (by omega) ?_;refine aI (fun r=>by cases r) (fun _=>?_);refine Run.call0E gh gk g (DS f s 0 30 3 i n S hr (by omega) (by omega) (by omega) (by omega)) fun v I' S1 w'=>?_;rintro ⟨rfl,cs,rfl,B⟩ J g;obtain ⟨kv,rfl,_,_,_,a,q,rfl,_⟩:=RdT.iff.1 B;refine aA (v:=.agg _) rfl ?_;refine aA (v:=.int .i64 (n:Int)) rfl ?_;refine aH g aM fun b4 w' g=>?_;refine al g 1 rfl ad rfl rfl (by simp [Value.oneCell']) fun w' g=>?_;refine fh (by omega) ?_;refine aI (fun r=>by cases r) (fun _=>?_);refine aq g 1 ad rfl rfl ?_;refine lA ?_;refine aH g dn fun Z w' g=>?_;refine al g 2 rfl aN rfl rfl (by simp [Value.oneCell']) fun w' g=>?_;obtain ⟨B2,N⟩:∃ B2,B2=Item.blk b2 (.cells #[.int .i64 0,.int .i64 0,.string ⟨#[]⟩,.slice none 0 0,.slice none 0 0] ai):=⟨_,rfl⟩
 obtain ⟨B4,a5⟩:∃ B4,B4=Item.blk b4 (.cells #[.int .i64 i.kind,.int .i64 i.n,.string i.name,.slice a i.kids.length q] ac):=⟨_,rfl⟩
 have g:Inv w [] [B2,B4,.blk Z (.cells #[.int .i64 i.kind,.int .i64 i.n,.string i.name,.slice a i.kids.length q,.slice none 0 0] ai)] S1 w':=by rw [N,a5]; exact g
 refine ⟨fun v w'=>∃ (G:Value) (S2:ag),v=.int .i64 (l:Int)/\Ext w.heap.size [] S S2/\RdT S2 [.int .i64 i.kind,.int .i64 i.n,.string i.name,.slice a i.kids.length q] i/\RdSl S2 4 (RdT S2) G b/\
   Inv w [] [B2,B4,.blk Z (.cells #[.int .i64 i.kind,.int .i64 i.n,.string i.name,.slice a i.kids.length q,G] ai)] S2 w',?_,?_⟩
 ·refine ⟨fun v w'=>v=.bool (sgn s n 58 && sgn s (n+1) 45)/\Inv w [] [B2,B4,.blk Z (.cells #[.int .i64 i.kind,.int .i64 i.n,.string i.name,.slice a i.kids.length q,.slice none 0 0] ai)] S1 w',?_,?_⟩
  ·refine Run.callPure dq dp g (cV s n 58 S1) fun w' g=>?_;cases o:sgn s n 58
   ·refine rpG ?_;exact ⟨by rw [ig],g⟩
   ·refine rpG ?_;refine ff (a:=n) (b:=1) rfl rfl (by omega) ?_;refine Run.callPure dq dp g (cV s (n+1) 45 S1) fun w' g=>?_;refine rpG ?_;exact ⟨by rw [eL],g⟩
  intro a8 _ _ _ _ _ _ _ _ w';rintro ⟨rfl,g⟩;rcases D with ⟨h1,h2,hg⟩|⟨h1,rfl,rfl⟩
  ·rw [h1,h2];refine aI (fun _=>?_) (fun r=>by cases r);have h3:=iK h2;refine ff (a:=n) (b:=2) rfl rfl (by omega) ?_;refine Run.call0E Fu Gw g (Dl hg (by omega) (by omega)) fun v I' S2 w'=>?_;rintro ⟨rfl,u,rfl,hu⟩ t g;obtain ⟨p,m,rfl,_⟩:=id hu;refine aA (v:=.slice p b.length m) rfl ?_;refine aA (v:=.int .i64 (l:Int)) rfl ?_;refine dG g 2 rfl bC ax rfl rfl rfl fun w' g=>?_;exact ⟨_,S2,rfl,J.trans t,RdT.mono t.1 B,hu,g⟩
  ·have e:(sgn s l 58 && sgn s (l+1) 45)=false:=by
    rw [cS,ne_eq,bJ]; exact h1
   rw [e];refine aI (fun r=>by cases r) (fun _=>?_);exact ⟨_,S1,rfl,J,B,kq S1,g⟩
 intro t5 _ _ _ _ _ _ _ _ _ _ _ _ _ _ _ _ _ w';rintro ⟨G,S2,rfl,t,a0,r,g⟩;have hC:RdC S2 [.int .i64 i.kind,.int .i64 i.n,.string i.name,.slice a i.kids.length q,G] ⟨i,b⟩:=⟨[.int .i64 i.kind,.int .i64 i.n,.string i.name,.slice a i.kids.length q],G,rfl,a0,r⟩
 refine ⟨fun v w'=>v=.bool false/\Inv w [] [B2,B4,.blk Z (.cells #[.int .i64 i.kind,.int .i64 i.n,.string i.name,.slice a i.kids.length q,G] ai)] S2 w',?_,?_⟩
 ·refine fP aR ?_;refine jx (by omega) ?_;refine pu ?_;rw [aP (show (l:Int)=(s.length:Int) - 1 by omega)];refine bN (b:=false) ?_;refine Run.callPure dq dp g (cV s l 46 S2) fun w' g=>?_;refine cU ?_;rw [a2];refine qI ?_;refine bN (b:=false) ?_;refine aq g 2 aN rfl rfl ?_;refine Run.callPure tC uo g (sV hf hC a3 (by omega) a4 (by omega)) fun w' g=>?_;refine LH ?_;rw [aP rfl];refine qI ?_;exact ⟨rfl,g⟩
 intro a9 _ _ _ _ _ _ _ _ _ _ _ _ _ _ _ _ w';rintro ⟨rfl,g⟩;refine aI (fun r=>by cases r) (fun _=>?_);refine aq g 2 aN rfl rfl ?_;refine Run.call0E xF yv g (Fc hC (by omega)) fun v I' S3 w'=>?_;rintro ⟨rfl,ds,M,rfl,rfl,hT⟩ a1 g;obtain ⟨S4,g,a6,O⟩:=g.pubExt;have V:=hT.rd O;have Y:=V.length;have a7:=hT.one;subst N;refine al g 0 rfl aN (by simpa using Y) rfl (by simpa using a7) fun w' g=>?_;refine bp g 0 aN rfl (by simpa using Y) ?_;exact ⟨_,[],S4,rfl,g.nil,(t.trans a1).trans a6,rfl,_,rfl,V⟩
def Rc (cs:List Value) (l:Bs):Prop:=cs=[.string (st l)]
theorem Gr (s:Bs) (c:Nat) (hs:s.length<=100000):Tri Tryz.prog JX [.string (st s),.int .u8 (c:Int)] [] S fun v I' S'=>I'=[]/\RdSl S' 1 Rc v (CN s c s.length 0 0 []):=by
 intro w m;refine xN.2 ?_;dsimp only[xN,bm];refine fc m As fun v0 w' m=>?_;obtain ⟨R,hR⟩:∃ R,R=CN s c s.length 0 0 []:=⟨_,rfl⟩
 rw [<- hR];refine ⟨fun t u v w'=>∃ (i fr:Nat) (j:List Bs) (css:List (List Value)),t=.int .i64 (i:Int)/\u=.int .i64 (fr:Int)/\j.length<=i/\((i<=s.length/\fr<=i/\CN s c (s.length - i) i fr j=R) ∨ (i=s.length+1/\j=R))/\Rows 1 Rc css j/\Inv w [] [aB v fb 1 css] S w',
  fun t _ _ _=>s.length+2 - (intOf t).toNat,⟨0,0,[],[],rfl,rfl,be _,.inl ⟨aK _,be _,hR.symm⟩,Rows.nil _ _,m⟩,?_⟩
 intro t7 _ _ t6 _ _ U _ _ _ _ _ _ _ _ _ _ _ _ _ _ _ _ _ _ _ _ _ _ w';rintro ⟨i,fr,j,css,rfl,rfl,a1,hc,r,m⟩;have a3:=r.hc;refine fP aR ?_;refine fY ?_;refine aS (fun hi=>?_) (fun hi=>?_)
 ·have Z:i<=s.length:=by omega
  obtain ⟨_,hfr,hcut⟩:i<=s.length/\fr<=i/\CN s c (s.length - i) i fr j=R:=by
   rcases hc with h|h
   ·exact h
   ·omega
  obtain ⟨br,B⟩:∃ br,br=(decide (i=s.length) || sgn s i c):=⟨_,rfl⟩
  refine ⟨fun u v w'=>∃ (p:Nat) (l:List Bs) (o:List (List Value)),u=.int .i64 (p:Int)/\l.length<=i+1/\p<=i+1/\l=(if br=true then j++[cut s fr i] else j)/\p=(if br=true then i+1 else fr)/\Rows 1 Rc o l/\Inv w [] [aB v fb 1 o] S w',?_,?_⟩
  ·refine ⟨fun b w'=>b=.bool br/\Inv w [] [aB U fb 1 css] S w',?_,?_⟩
   ·refine fP aR ?_;by_cases C:i=s.length
    ·refine fX (by omega) ?_;refine rpG ?_;exact ⟨by rw [B,aP C,uF],m⟩
    ·refine eW (by omega) ?_;refine rpG ?_;have O:i<s.length:=by omega
     refine eO aR O ?_;refine bn ?_;refine rpG ?_;refine ⟨?_,m⟩;rw [B,bf C,gI,kS O]
     congr 1
     rw [iq];omega
   intro a2 _ _ _ _ _ _ _ _ _ _ w';rintro ⟨rfl,m⟩;refine aI (fun N=>?_) (fun N=>?_)
   ·refine AC aR hfr Z ?_;refine lf (css:=css) m 0 As rfl rfl rfl (by omega) (by omega) fun v' w' m=>?_;refine ff (a:=i) (b:=1) rfl rfl (by omega) ?_;refine ⟨i+1,j++[cut s fr i],_,rfl,by rw [bv]; simp only [aO,cq]; omega,be _,by rw [af N],by rw [af N],r.snoc rfl rfl,m⟩
   ·exact ⟨fr,j,css,rfl,by omega,by omega,by rw [ae (by rw [N]; decide)],by rw [ae (by rw [N]; decide)],r,m⟩
  intro t6 _ _ U _ _ _ _ _ _ _ _ _ _ _ _ _ _ _ _ _ _ w';rintro ⟨p,l,o,rfl,G,J,g,q,M,m⟩;refine ff (a:=i) (b:=1) rfl rfl (by omega) ?_;refine ⟨⟨i+1,p,l,o,rfl,rfl,G,?_,M,m⟩,by simp only [intOf,eB]; omega⟩;by_cases C:i=s.length
  ·right;refine ⟨by rw [C],?_⟩;rw [C,fg,CN,<- C] at hcut;rw [g,af (by rw [B,aP C,uF])];exact hcut
  ·left;refine ⟨by omega,J,?_⟩;rw [show s.length - i=(s.length - (i+1))+1 by omega,CN] at hcut;rw [B,bf C,gI] at g q;split at hcut
   ·rename_i D
    rw [af D] at g q;rw [g,q];exact hcut
   ·rename_i D
    rw [ae D] at g q;rw [g,q];exact hcut
 ·obtain ⟨_,rfl⟩:i=s.length+1/\j=R:=by
   rcases hc with h|h
   ·omega
   ·exact h
  have a0:Inv w [] ([]++[aB U fb 1 css]) S w':=m;obtain ⟨S1,V,Y,m⟩:=Inv.lendExt a0;exact ⟨_,[],S1,rfl,m,V,rfl,RowRd.rows r Y⟩
theorem CC {f:Nat} {a:List Bs} {i:Nat} (h:i<a.length) (g:List C):kH f (a.drop i) g=match vf f a[i] with
  | none=>none
  | some c=>kH f (a.drop (i+1)) (g++[c]):=by
 rw [dR h,kH];cases vf f a[i] <;> rfl
theorem sc {f:Nat} (hf:f<=100) {s:Bs} {p:List C} (h:L6 f s=some p) (hs:s.length<=100000):Tri Tryz.prog mr [.string (st s)] [] S fun v I' S'=>∃ u css,v=.tuple #[u,.bool true]/\I'=[aB u ai 5 css]/\Rows 5 (RdC S') css p:=by
 intro w g;refine lI.2 ?_;dsimp only[lI,aQ];unfold L6 N4 at h;refine fc g jw fun v0 w' g=>?_;refine Run.call0E ID Hu g (Gr s 10 hs) fun v I' S1 w'=>?_;rintro ⟨rfl,q⟩ a0 g;have g:Inv w [] [aB v0 ai 5 []] S1 w':=g;obtain ⟨j,Y⟩:∃ j,j=CN s 10 s.length 0 0 []:=⟨_,rfl⟩
 rw [<- Y] at q h;simp only [] at h;split at h
 ·cases h
 rename_i hc
 simp only [not_or,ne_eq,Classical.not_not] at hc;obtain ⟨a6,M⟩:=hc;have a7:0<j.length:=by
  cases j with
  | nil=>simp at M
  | cons a l=>simp
 have N:j[j.length - 1]=[]:=by
  rw [List.getLast?_eq_getElem?,z9 (by omega)] at M;exact Option.some.inj M
 refine ⟨fun b w'=>b=.bool false/\Inv w [] [aB v0 ai 5 []] S1 w',?_,?_⟩
 ·refine aG q de ?_;refine mi (by omega) ?_;refine rpG ?_;refine aG q de ?_;refine Bp (a:=j.length) (b:=1) rfl rfl (by omega) (by omega) ?_;have J:j.length - 1<j.length:=by omega
  obtain ⟨b,o,cap,c,E,fz,hv,hS,hR⟩:=q.at_ J;subst hv;refine aT de J ?_;refine dE aZ ((g.cellS hS).trans (bd hR 0 _ rfl)) ?_;refine LH (b:=[]) ?_;rw [aP N];refine rpG ?_;exact ⟨rfl,g⟩
 intro a4 _ _ _ _ _ _ _ _ _ _ _ w';rintro ⟨rfl,g⟩;refine aI (fun hb=>by cases hb) (fun _=>?_);refine ⟨fun a b w'=>∃ (i:Nat) (r:List C) (S2:ag) (css:List (List Value)),a=.int .i64 (i:Int)/\i+1<=j.length/\r.length=i/\kH f (j.dropLast.drop i) r=some p/\Sle S1 S2/\Ext w.heap.size [] S S2/\Rows 5 (RdC S2) css r/\Inv w [] [aB b ai 5 css] S2 w',
  fun a _ _=>j.length - (intOf a).toNat,⟨0,[],S1,[],rfl,by omega,rfl,h,Sle.refl _,a0,Rows.nil _ _,g⟩,?_⟩
 intro t6 _ _ t4 _ _ _ _ _ _ _ _ _ _ _ _ _ _ _ _ _ _ _ _ _ _ _ _ w';rintro ⟨i,r,S2,css,rfl,hi,a1,m,D,U,hR,g⟩;have a8:=hR.hc;refine ff (a:=i) (b:=1) rfl rfl (by omega) ?_;refine aG q de ?_;refine cu ?_;have a9:j.dropLast.length=j.length - 1:=List.length_dropLast;refine aS (fun J=>?_) (fun a5=>?_)
 ·have Z:i<j.length:=by omega
  have O:i<j.dropLast.length:=by omega
  rw [CC O] at m;have eg:j.dropLast[i]=j[i]:=List.getElem_dropLast _;rw [eg] at m;obtain ⟨b,o,cap,c,E,fz,hv,hS,a2⟩:=q.at_ Z;subst hv;split at m
  ·cases m
  rename_i cl V
  refine aT de Z ?_;refine dE aZ ((g.cellS (D _ _ hS)).trans (bd a2 0 _ rfl)) ?_;refine Run.call0E wZ wq g (uS hf V) fun v I' S3 w'=>?_;rintro ⟨rfl,ds,rfl,t⟩ G g;have B:=t.length;have a3:=hR.monoR fun _ _ h=>RdC.mono G.1 h;refine aA (v:=.agg ds.toArray) rfl ?_;refine aA (v:=.bool true) rfl ?_;refine aH g dn fun b7 w' g=>?_;refine al g 1 rfl aN (by simpa using B) rfl (by simpa using t.one) fun w' g=>?_;refine cU ?_;refine aI (fun hb=>by cases hb) (fun _=>?_);refine aq g 1 aN rfl (by simpa using B) ?_;refine dC (css:=css) g 0 _ jw (by omega) (by omega) rfl B t.one (by omega) (by omega) fun v' w' g=>?_;have g:Inv w [] [aB v' ai 5 (css++[ds])] S3 w':=g.pick [true,false];refine ff (a:=i) (b:=1) rfl rfl (by omega) ?_;exact ⟨⟨i+1,r++[cl],S3,_,rfl,by omega,by rw [bv,a1]; rfl,m,D.trans G.1,U.trans G,a3.snoc t B,g⟩,by simp only [intOf,eB]; omega⟩
 ·have O:j.dropLast.length<=i:=by omega
  rw [Cj O,kH] at m;simp only [bh] at m;subst m;exact ⟨_,_,S2,rfl,g,U,_,css,rfl,rfl,hR⟩
end
end
section
open Go Go.RowKit
theorem iI {b:Bool} {n:Nat} (h:b=decide (1<=n)) (a:b=false):n=0:=by
 rw [a,eq_comm,ml] at h; omega
theorem gF {a b:Bool} {k n:Nat} (h:a=decide (k<=n)) (g:a=true) (i:b=decide (k+1<=n)) (j:b=false):n=k:=by
 rw [g,eq_comm,decide_eq_true_iff] at h;rw [j,eq_comm,ml] at i;omega
theorem iH {b:Bool} {n m:Nat} (g:n<=m) (h:b=decide (m<=n)) (a:b=true):n=m:=by
 rw [a,eq_comm,decide_eq_true_iff] at h; omega
theorem Nx {b l:Bool} {n m:Nat} (h:b=decide (m<=n)) (k:b=true->l=true) (a:l=false):n<m:=by
 cases b
 ·rw [eq_comm,ml] at h; omega
 ·rw [k rfl] at a; cases a
def N6:List (Nat × Value)->List ByteArray
 | (_,.string s)::l=>s::N6 l
 | _=>[]
def Om:List (Nat × Value)->List Int
 | (_,.int _ n)::l=>n::Om l
 | _=>[]
theorem PB {α:Type} {f:α->Value} (l:List α) {i:Nat} (a:i<l.length):bB (l.map f).toArray i 1=[f l[i]]:=by
 rw [bB,dR (by simpa using a)];simp
theorem RdSl.monoU {S S':ag} {v:Value} {ys:List Nat} (a:Sle S S') (h:RdSl S 1 mc v ys):RdSl S' 1 mc v ys:=h.mono a fun _ _ h=>h
theorem RB {S:ag} {b:Nat} {E:TypeId} {cs:List Value} {t:T} (a:S b=some (.cells cs.toArray E)) (h:RdT S cs t):RdSl S 4 (RdT S) (.slice (some ⟨b,0,none⟩) 1 1) [t]:=by
 refine ⟨_,1,rfl,be _,by simp [maxLen],.inr ⟨b,0,_,E,(0,0),rfl,a,fun i g=>?_⟩⟩
 match i,g with
 | 0,_=>
  have e:bB cs.toArray (0+0 * 4) 4=cs:=by
   rw [bB];simpa using AQ (Nat.le_of_eq h.length)
  rw [e];exact h
section
variable {w0 w:World} {X:List Nat} {L A:List Item} {S:ag} {K:Value->World->Prop}
attribute [local irreducible] Run CondV aC aU
theorem Inv.last (h:Inv w0 X L S w) (i:Nat) {it:Item} (a:L[i]?=some it):Inv w0 X (L.eraseIdx i++[it]) S w:=by
 refine h.perm ?_;obtain ⟨g,_⟩:=wK a it;rw [Q3]
 conv=>rhs; rw [g]
 rw [cN];exact Bx _ bK
theorem AZ {n:Nat} {a:List (Nat × Value)} (h:Inv w0 X L S w)
  (j:(bI DW n a).run Tryz.prog w=.ok (.value (.slice (some ⟨w.heap.size,0,none⟩) n n)) { w with heap:=w.heap.push (.cells ((N6 a).map Value.string).toArray fb) })
  (hn:(N6 a).length=n) (q:n<=1000) (hk:∀ v S1 w',Ext w0.heap.size X S S1->RdSl S1 1 y0 v (N6 a)->Inv w0 X L S1 w'->K v w'):Run Tryz.prog (bI DW n a) w K:=by
 refine sW (v:=fun b=>.slice (some ⟨b,0,none⟩) n n) (o:=.cells ((N6 a).map Value.string).toArray fb) h j fun b w' g=>?_;obtain ⟨S1,g,m,p⟩:=g.pub1;refine hk _ S1 w' m ?_ g;exact RdSl.ofCells p hn (by simp only [maxLen]; omega) fun i l=>PB _ l
theorem Al {n:Nat} {a:List (Nat × Value)} (h:Inv w0 X L S w)
  (j:(bI pC n a).run Tryz.prog w=.ok (.value (.slice (some ⟨w.heap.size,0,none⟩) n n)) { w with heap:=w.heap.push (.cells ((Om a).map (Value.int .i64)).toArray bD) })
  (hn:(Om a).length=n) (q:n<=1000) (hk:∀ v S1 w',Ext w0.heap.size X S S1->RdSl S1 1 jG v (Om a)->Inv w0 X L S1 w'->K v w'):Run Tryz.prog (bI pC n a) w K:=by
 refine sW (v:=fun b=>.slice (some ⟨b,0,none⟩) n n) (o:=.cells ((Om a).map (Value.int .i64)).toArray bD) h j fun b w' g=>?_;obtain ⟨S1,g,m,p⟩:=g.pub1;refine hk _ S1 w' m ?_ g;exact RdSl.ofCells p hn (by simp only [maxLen]; omega) fun i l=>PB _ l
def ph (Q:Prop) (R:Nat->Prop):Nat->Prop
 | 0=>Q
 | n+1=>R n
def y8 (w0:World) (X:List Nat) (b:Nat) (c:Array Value) (d:Nat) (E:TypeId) (kv:Value) (css:List (List Value)) (A:Nat->List Item) (Q:List Value->Nat->ag->Prop) (xv xs xa:Value) (w':World):Nat->Prop
 | 0=>∃ p1 S1 cs,Q cs p1 S1/\(cs.length=4/\∀ u∈cs,u.oneCell'=true)/\xv=.agg cs.toArray/\Inv w0 X (.blk b (.cells c E)::aB kv ac 4 css::A p1) S1 w'
 | 1=>∃ p1 S1 cs b8,Q cs p1 S1/\(cs.length=4/\∀ u∈cs,u.oneCell'=true)/\xs=.slice (some ⟨b8,0,none⟩) 1 1/\Inv w0 X (.blk b (.cells c E)::aB kv ac 4 css::(A p1++[.blk b8 (.cells cs.toArray ac)])) S1 w'
 | 2=>∃ p1 S1 cs,Q cs p1 S1/\(cs.length=4/\∀ u∈cs,u.oneCell'=true)/\Inv w0 X (.blk b (.cells c E)::aB xa ac 4 (css++[cs])::A p1) S1 w'
 | 3=>∃ p1 S1 cs,Q cs p1 S1/\(cs.length=4/\∀ u∈cs,u.oneCell'=true)/\Inv w0 X (.blk b (.cells (c.setIfInBounds d xa) E)::aB xa ac 4 (css++[cs])::A p1) S1 w'
 | _=>False
variable {b d:Nat} {c:Array Value} {E:TypeId} {kv:Value} {css:List (List Value)} {F:Nat->List Item} {Q:List Value->Nat->ag->Prop} {xv xs xa:Value}
theorem F9 {n:Nat} (h:y8 w0 X b c d E kv css F Q xv xs xa w n) (hn:n<3):w.cell? ⟨b,d,none⟩=c[d]?:=by
 rcases n with _|_|_|n
 ·obtain ⟨g,S1,cs,_,_,_,a⟩:=h;exact a.cellL (i:=0) rfl
 ·obtain ⟨g,S1,cs,j,_,_,_,a⟩:=h;exact a.cellL (i:=0) rfl
 ·obtain ⟨g,S1,cs,_,_,a⟩:=h;exact a.cellL (i:=0) rfl
 ·omega
theorem ap1 {B:Prop} (h:ph B (y8 w0 X b c d E kv css F Q xv xs xa w) 1) (hk:∀ u w',ph B (y8 w0 X b c d E kv css F Q xv u xa w') 2->K u w'):Run Tryz.prog (bI s7 1 [(0,xv)]) w K:=by
 obtain ⟨j,S1,cs,l,g,rfl,a⟩:=h;refine eQ a bA (by simp [Value.cells,g.1]) (by omega) (by omega) fun i w' a=>?_;exact hk _ _ ⟨j,S1,cs,i,l,g,rfl,a⟩
theorem ap2 {B:Prop} {ty:TypeId} {bs:List Bool} (h:ph B (y8 w0 X b c d E kv css F Q xv xs xa w) 2) (p:css.length<=1000000) (hk:∀ u w',ph B (y8 w0 X b c d E kv css F Q xv xs u w') 3->K u w'):Run Tryz.prog (bO .append #[s7,s7] ty bs [kv,xs]) w K:=by
 obtain ⟨j,S1,cs,q,t,l,rfl,a⟩:=h;have g:(Item.blk b (.cells c E)::aB kv ac 4 css::(F j++[.blk q (.cells cs.toArray ac)]))[(F j).length+1+1]?=some (.blk q (.cells cs.toArray ac)):=by
  rw [lY,lY,kV (be _),fg]; rfl
 refine eU a 1 cs bA (by omega) rfl (by rw [l.1]) (m:=1) (o:=0) ?_ l.2 (by omega) (by omega) fun v' C a=>?_
 ·intro i u r;rw [a.cellL g,df];simpa using r
 rw [fq] at a;refine hk _ _ ⟨j,S1,cs,t,l,?_⟩;exact a.sub (((gR _ _).cons_cons _).cons_cons _)
theorem ap3 {B:Prop} {ty:TypeId} (h:ph B (y8 w0 X b c d E kv css F Q xv xs xa w) 3) (l:d<c.size) {K:Value->World->Prop} (hk:∀ w',ph B (y8 w0 X b c d E kv css F Q xv xs xa w') 4->K undef w'):Run Tryz.prog (sOp (.store s7 (.const (.pointer (some ⟨b,d,none⟩))) (.const xa)) ty) w K:=by
 obtain ⟨m,S1,cs,o,j,g⟩:=h;obtain ⟨q,r,vc,a⟩:=Inv.rowSlice g 1 rfl;refine ef g 0 (n:=1) (by rw [a]; rfl) (by decide +kernel) rfl (by omega) (by rw [a]; simp [Value.cells,Value.oneCell']) fun p g=>?_;have i:Value.cells xa=#[xa]:=by rw [a]; rfl
 have e:bY c d (Value.cells xa).toList=c.setIfInBounds d xa:=by
  rw [i];apply zo.1;simp only [bY,QN];have j:d<c.toList.length:=by simpa using l
  rw [wJ,af j];simp
 rw [e] at g;exact hk _ ⟨m,S1,cs,o,j,g⟩
end
abbrev dW (d:Nat):Nat:=6 * 3 ^ d
theorem Pt (d:Nat):6<=dW d:=by
 have:0<3 ^ d:=Nat.pow_pos (by omega);simp only [dW]; omega
theorem Qq (d:Nat):dW (d+1)=3 * dW d:=by simp only [dW,Nat.pow_succ]; omega
abbrev RS (br:Nat) (sl:Value) (p d:Nat):Value->List Item->ag->Prop:=fun v I' S'=>∃ p',p'+2<=p+dW d/\I'=[rdI br sl p']/\∃ cs t,v=.agg cs.toArray/\RdT S' cs t/\wT t+3<=dW d/\okU 26 t
end
section
open Go Go.RowKit
section
attribute [local irreducible] Run CondV aC aU
def SlM (es:Array MapEntry) (s:CS):Prop:=(∀ e∈es.toList,∃ n:Int,e.key=.int .i64 n/\e.val=.int .i64 (s.at_ n)/\0<=n/\n<26/\0<=s.at_ n)/\∀ n,0<=n->n<26->0<=s.at_ n->∃ e∈es.toList,e.key=.int .i64 n
theorem SlM.find {l:Array MapEntry} {s:CS} (h:SlM l s) {n:Int} (p:0<=n) (q:n<26):(0<=s.at_ n/\∃ j,Instr.findNow (.int .i64) (.int .i64 n) l.toList 0=some (some (j,.int .i64 (s.at_ n)))) ∨ (¬ 0<=s.at_ n/\Instr.findNow (.int .i64) (.int .i64 n) l.toList 0=some none):=by
 rcases lM (n:=n) l.toList 0 (fun e i=>by obtain ⟨m,o,_⟩:=h.1 e i; exact ⟨m,o⟩) with ⟨j,e,i,g,hf⟩|⟨hk,hf⟩
 ·obtain ⟨m,a,r,_,_,t⟩:=h.1 e i;rw [g,Value.int.injEq] at a;rw [r,<- a.2] at hf;exact .inl ⟨by rw [a.2]; exact t,j,hf⟩
 ·refine .inr ⟨fun o=>?_,hf⟩;obtain ⟨e,i,g⟩:=h.2 n p q o;exact hk e i g
theorem SlM.push {q:Array MapEntry} {s:CS} (h:SlM q s) (l:s.sl.length=26) {n v:Int} (a:0<=n/\n<26) (hn:¬ 0<=s.at_ n) (r:0<=v) (t:Nat):SlM (q.push { key:=.int .i64 n,val:=.int .i64 v,born:=t }) (s.put n v):=by
 refine ⟨fun e o=>?_,fun m g i j=>?_⟩
 ·rw [FK,cI,cO] at o;rcases o with o|rfl
  ·obtain ⟨m,hk,p,g,i,j⟩:=h.1 e o;have:m≠n:=fun e=>by subst e; exact hn j
   exact ⟨m,hk,by rw [gn l a ⟨g,i⟩,ae this]; exact p,g,i,by rw [gn l a ⟨g,i⟩,ae this]; exact j⟩
  ·exact ⟨n,rfl,by rw [gn l a a,af rfl],a.1,a.2,by rw [gn l a a,af rfl]; exact r⟩
 ·rw [gn l a ⟨g,i⟩] at j;rw [FK];by_cases e:m=n
  ·exact ⟨_,iW _ (cO.2 rfl),by rw [e]⟩
  ·rw [ae e] at j;obtain ⟨x,u,hk⟩:=h.2 m g i j;exact ⟨x,ic _ u,hk⟩
def l5 (s:CS):List (List Value):=s.code.map Ist.cells
abbrev dd (cb mb:Nat) (es:Array MapEntry) (ck:Nat) (s:CS) (cv:Value):List Item:=[.blk cb (.cells #[.map (some mb),.int .i64 s.next,cv] gz),.blk mb (.map es ck),aB cv aF 4 (l5 s)]
def AE (cb mb:Nat) (S:ag) (s:CS) (I':List Item) (S':ag):Prop:=S'=S/\∃ es ck cv,I'=dd cb mb es ck s cv/\SlM es s
theorem M3 (s:CS) (x:Ist):l5 (s.emit x)=l5 s++[x.cells]:=by unfold l5 CS.emit; rw [th]; rfl
theorem vG (s:CS):(l5 s).length=s.code.length:=by unfold l5; rw [ut]
def adS (w:World) (X:List Nat) (S:ag) (b3 cb mb:Nat) (es:Array MapEntry) (ck:Nat) (s:CS) (cv:Value) (x:Ist) (sX np:Value) (w':World):Nat->Prop
 | 0=>Inv w X (dd cb mb es ck s cv++[.blk b3 (.cells x.cells.toArray aF)]) S w'
 | 1=>∃ g,sX=.slice (some ⟨g,0,none⟩) 1 1/\Inv w X (dd cb mb es ck s cv++[.blk b3 (.cells x.cells.toArray aF),.blk g (.cells x.cells.toArray aF)]) S w'
 | 2=>Inv w X [.blk cb (.cells #[.map (some mb),.int .i64 s.next,cv] gz),.blk mb (.map es ck),aB np aF 4 (l5 (s.emit x)),.blk b3 (.cells x.cells.toArray aF)] S w'
 | _=>Inv w X (dd cb mb es ck (s.emit x) np++[.blk b3 (.cells x.cells.toArray aF)]) S w'
theorem adS.cv {w:World} {X:List Nat} {S:ag} {b3 a g:Nat} {i:Array MapEntry} {j:Nat} {s:CS} {cv:Value} {x:Ist} {l m:Value} {w':World}:∀ {n:Nat},n<3->adS w X S b3 a g i j s cv x l m w' n->∃ R,Inv w X (.blk a (.cells #[.map (some g),.int .i64 s.next,cv] gz)::R) S w'
 | 0,_,h=>⟨_,h⟩
 | 1,_,⟨_,_,h⟩=>⟨_,h⟩
 | 2,_,h=>⟨_,h⟩
 | _+3,hn,_=>absurd hn (by omega)
theorem adS.b3 {w:World} {X:List Nat} {S:ag} {b3 a g:Nat} {i:Array MapEntry} {j:Nat} {s:CS} {cv:Value} {x:Ist} {l m:Value} {w':World}:∀ {n:Nat},adS w X S b3 a g i j s cv x l m w' n->∃ A1 A2 A3 R,Inv w X (A1::A2::A3::.blk b3 (.cells x.cells.toArray aF)::R) S w'
 | 0,h=>⟨_,_,_,_,h⟩
 | 1,⟨_,_,h⟩=>⟨_,_,_,_,h⟩
 | 2,h=>⟨_,_,_,_,h⟩
 | _+3,h=>⟨_,_,_,_,h⟩
theorem Ist.one (x:Ist):∀ u∈x.cells,u.oneCell'=true:=by
 intro u a;simp only [Ist.cells,ek,Ln,or_false] at a;rcases a with rfl|rfl|rfl|rfl <;> rfl
theorem dS {G M U:Nat} {N:Array MapEntry} {s:CS} {cv:Value} (x:Ist) {S:ag} (hm:SlM N s) (hl:s.code.length<=1000000000) :
  Tri Tryz.prog A6 [.pointer (some ⟨G,0,none⟩),.agg x.cells.toArray] (dd G M N U s cv) S fun _ I' S'=>AE G M S (s.emit x) I' S':=by
 intro w p;obtain ⟨X,hX⟩:∃ X,X=bT (dd G M N U s cv):=⟨_,rfl⟩
 rw [<- hX] at p ⊢;refine nZ.2 ?_;dsimp only[nZ,bm];refine bH p fun b3 w' p=>?_;refine ⟨fun D LI Cq V sX x9 x8 x7 x6 x5 x4 J=>Fx D 0 [x4=.pointer (some ⟨G,0,none⟩),x5=.pointer (some ⟨G,0,none⟩),x6=.pointer (some ⟨G,0,none⟩),x7=.pointer (some ⟨G,2,none⟩),x8=cv,x9=.agg x.cells.toArray,True,True,Cq=.pointer (some ⟨G,0,none⟩),LI=.pointer (some ⟨G,2,none⟩),True]/\∃ C:Nat,C<=3/\D 6=decide (1<=C)/\D 7=decide (2<=C)/\D 10=decide (3<=C)/\(D 10=true->D 4=true)/\(adS w X S b3 G M N U s cv x sX V J C),⟨Fx.nil _ _,⟨0,aK _,rfl,rfl,rfl,(aY),p.draw⟩⟩,⟨?_,?_,?_,?_,?_,?_,?_,?_,?_,?_,?_,trivial⟩,?_⟩;all_goals (intro D bw; intros; rename_i LI Cq V sX x9 x8 x7 x6 x5 x4 J Y; have q:=Y.1; obtain ⟨⟨cG,cf,cD,cF,bQ,cE,bZ,cL,dw,dl,ci,_⟩,⟨C,B,h,l,a,r,t⟩⟩:=Y)
 ·exact ⟨q.set 0 rfl,⟨C,B,h,l,a,r,t⟩⟩
 ·exact ⟨q.set 1 rfl,⟨C,B,h,l,a,r,t⟩⟩
 ·obtain rfl:=cf ‹_›;refine aL ?_;exact ⟨q.set 2 rfl,⟨C,B,h,l,a,r,t⟩⟩
 ·obtain rfl:=cD ‹_›;refine au nN ?_;exact ⟨q.set 3 rfl,⟨C,B,h,l,a,r,t⟩⟩
 ·obtain rfl:=cF ‹_›;have Z:=Nx a r bw;obtain ⟨R,p⟩:=t.cv Z; refine aD p 0 g8 rfl rfl ?_;exact ⟨q.set 4 (by first|assumption|trivial),⟨C,B,h,l,a,(fun _=>rfl),t⟩⟩
 ·obtain ⟨_,_,_,R,p⟩:=t.b3; refine aq p 3 fw rfl rfl ?_;exact ⟨q.set 5 rfl,⟨C,B,h,l,a,r,t⟩⟩
 ·obtain rfl:=cE ‹_›;obtain rfl:C=0:=iI h bw;refine eQ t i5 rfl (by omega) (by omega) fun g J p=>?_;have t:adS w X S b3 G M N U s cv x (.slice (some ⟨g,0,none⟩) 1 1) V J 1:=⟨g,rfl,p⟩
  exact ⟨q.set 6 (by first|assumption|trivial),⟨1,by decide,rfl,(by first|exact l|rfl),(by first|exact a|rfl),r,t⟩⟩
 ·have GE:=bQ ‹_›;have BB:=bZ ‹_›;obtain rfl:C=1:=gF h ‹D 6=true› l bw;obtain ⟨g,rfl,p⟩:=t;refine eU p 2 (k:=4) (o:=0) (m:=1) (n:=(l5 s).length) (xs:=(l5 s).flatten) x.cells i5 (by omega) (by rw [GE]; rfl) rfl (fun j u hj=>by rw [p.cellL (i:=4) rfl,df]; simpa using hj) x.one (by rw [vG]; omega) (by omega) fun v' J p=>?_;have e:Item.row v' aF 4 ((l5 s).length+1) ((l5 s).flatten++x.cells)=aB v' aF 4 (l5 (s.emit x)):=by rw [M3]; exact fq ..
  have p:Inv w X [.blk G (.cells #[.map (some M),.int .i64 s.next,cv] gz),.blk M (.map N U),Item.row v' aF 4 ((l5 s).length+1) ((l5 s).flatten++x.cells),.blk b3 (.cells x.cells.toArray aF)] S J:=p.pick [true,true,true,true,false];rw [e] at p;have t:adS w X S b3 G M N U s cv x (.slice (some ⟨g,0,none⟩) 1 1) v' J 2:=p;exact ⟨q.set 7 (by first|assumption|trivial),⟨2,by decide,(by first|exact h|rfl),rfl,(by first|exact a|rfl),r,t⟩⟩
 ·obtain rfl:=cG ‹_›;refine aL ?_;exact ⟨q.set 8 rfl,⟨C,B,h,l,a,r,t⟩⟩
 ·obtain rfl:=dw ‹_›;refine au nN ?_;exact ⟨q.set 9 rfl,⟨C,B,h,l,a,r,t⟩⟩
 ·obtain rfl:=dl ‹_›;have Cs:=cL ‹_›;obtain rfl:C=2:=gF l ‹D 7=true› a bw;have p:Inv w X _ S J:=t;have O:=gc (p.its (aB V aF 4 (l5 (s.emit x))) (by simp));refine ef p 0 (n:=1) (by rw [O.1]; rfl) (by decide +kernel) rfl (by simp) (by rw [O.1]; simpa using O.2) fun J p=>?_;rw [O.1] at p;have t:adS w X S b3 G M N U s cv x sX V J 3:=p;exact ⟨q.set 10 trivial,⟨3,by decide,(by first|exact h|rfl),(by first|exact l|rfl),rfl,(fun _=>‹D 4=true›),t⟩⟩
 obtain rfl:C=3:=iH B a ‹D 10=true›;clear h l a;exact ⟨_,_,_,rfl,t.pick [true,true,true,false],Ext.refl _ _ _,rfl,N,U,V,rfl,hm⟩
end
end
section
open Go Go.RowKit
section
variable {P:Program} {w w0:World} {X:List Nat} {L:List Item} {S:ag} {K:Value->World->Prop}
attribute [local irreducible] Run CondV aC aU
theorem d4 {T r m ty:TypeId} {b a:Nat} {q:Array MapEntry} {n:Int} {z v:Value} {ok c:Bool} (G:w.heap[b]?=some (.map q a)) (C:P.underlying T=some (.map r m)) (i:P.underlying r=some (.int .i64))
  (o:fW P m=some z) (hf:(∃ j,Instr.findNow (.int .i64) (.int .i64 n) q.toList 0=some (some (j,v))/\ok=true) ∨ (Instr.findNow (.int .i64) (.int .i64 n) q.toList 0=some none/\v=z/\ok=false))
  (hk:K (cond c (.tuple #[v,.bool ok]) v) w):Run P (sOp (.lookup T (.const (.map (some b))) (.const (.int .i64 n)) c) ty) w K:=by
 have p:∀ e,(Instr.checkKey e 10000 r (.int .i64 n)).run P w=.ok () w:=fun e=>by
  rw [show (10000:Nat)=9999+1 from rfl,Instr.checkKey];simp [run_underlying i]
 obtain ⟨g,t,u⟩:∃ g,P.info? m=some g/\g.zero=some z:=by
  unfold fW at o;cases h:P.info? m with
  | none=>rw [h] at o; simp at o
  | some g=>rw [h] at o; exact ⟨g,rfl,by simpa using o⟩
 have B:(zeroValue m).run P w=.ok z w:=by simp [zeroValue,typeInfo,t,u]
 refine Run.of ?_ hk;have D:(getObj b).run P w=.ok (.map q a) w:=by simp [getObj,Sem.run,G]
 rcases hf with ⟨j,hf,rfl⟩|⟨hf,rfl,rfl⟩
 ·have l:=gC (P:=P) (w:=w) i hf;cases c <;> simp [sOp,execOp,ev0,evE,Instr.lookup,run_underlying C,D,p,l]
 ·have l:=gC (P:=P) (w:=w) i hf;cases c <;> simp [sOp,execOp,ev0,evE,Instr.lookup,run_underlying C,D,p,l,B]
end
section
attribute [local irreducible] Run CondV aC aU
theorem CX {f:FuncId} {fn:Func} {cap:List Value} {S0 S:ag} {v:Value} {xs:List T} (hf:Tryz.prog.funcs[f]?=some fn) (hn:(fn.name == "runtime.NumGoroutine" || fn.body.isNone)=false) (p:Sle S0 S)
  (h:RdSl S0 4 (RdT S0) v xs) {J:Nat->List Item->Prop} {Fin:List Item->Prop}
  (g:∀ i (_:i<xs.length) (cs:List Value) (I:List Item),RdT S0 cs xs[i]->J i I->Tri Tryz.prog f (.agg cs.toArray::cap) I S fun r I' S'=>S'=S/\∃ b,r=.bool b/\(b=true->Fin I')/\(b=false->J (i+1) I'))
  {I:List Item} (G:J 0 I):Tri Tryz.prog ld [v,fv f cap] I S fun r I' S'=>S'=S/\∃ k:Int,r=.int .i64 k/\(0<=k->Fin I')/\(k<0->J xs.length I'):=by
 intro w a;have h:RdSl S 4 (RdT S0) v xs:=h.mono p fun _ _ h=>h;have o:=h.le;simp only [maxLen] at o;obtain ⟨X,M⟩:∃ X,X=bT I:=⟨_,rfl⟩
 rw [<- M] at a ⊢;refine fl.2 ?_;dsimp only[fl,bm];refine aG h ao ?_;refine ⟨fun i w'=>∃ (j:Nat) (I':List Item),j<=xs.length/\i=.int .i64 j/\J j I'/\Inv w X I' S w',fun i _=>xs.length - (intOf i).toNat,⟨0,I,aK _,rfl,G,a⟩,?_⟩;intro N _ _ _ _ _ _ _ _ _ _ _ _ w';rintro ⟨j,I',O,rfl,m,a⟩;refine cu ?_;refine aS (fun u=>?_) (fun u=>?_)
 ·have l:j<xs.length:=by omega
  refine dy a h ao ad l (fun _ _=>RdT.length) fun cs B=>?_;have a:Inv w X ([]++I') S w':=a;refine Run.callVE (A:=[]) hf hn a (g j l cs I' B m) fun v' I2 S2 w'=>?_;rintro ⟨D,b,rfl,q,t⟩ _ a;rw [D] at a;clear D;have a:Inv w X I2 S w':=a;refine aI (fun C=>?_) (fun C=>?_)
  ·exact ⟨_,_,_,rfl,a,Ext.refl _ _ _,rfl,j,rfl,fun _=>q C,fun h=>by omega⟩
  ·refine bF (by omega) ?_;exact ⟨⟨j+1,I2,l,rfl,t C,a⟩,by simp [intOf]; omega⟩
 ·have:j=xs.length:=by omega
  subst this;exact ⟨_,_,_,rfl,a,Ext.refl _ _ _,rfl,-1,rfl,fun h=>by omega,fun _=>m⟩
theorem ww {f:FuncId} {fn:Func} {cap:List Value} {S0 S:ag} {v:Value} {xs:List T} (hf:Tryz.prog.funcs[f]?=some fn) (hn:(fn.name == "runtime.NumGoroutine" || fn.body.isNone)=false) (j:Sle S0 S)
  (h:RdSl S0 4 (RdT S0) v xs) {J:Nat->List Item->Prop} {Fin:List Item->Prop}
  (a:∀ i (_:i<xs.length) (cs:List Value) (I:List Item),RdT S0 cs xs[i]->J i I->Tri Tryz.prog f (.agg cs.toArray::cap) I S fun r I' S'=>S'=S/\∃ b,r=.bool b/\(b=true->Fin I')/\(b=false->J (i+1) I'))
  {I:List Item} (m:J 0 I):Tri Tryz.prog iU [v,fv f cap] I S fun r I' S'=>S'=S/\∃ b,r=.bool b/\(b=true->Fin I')/\(b=false->J xs.length I'):=by
 intro w g;obtain ⟨X,t⟩:∃ X,X=bT I:=⟨_,rfl⟩
 rw [<- t] at g ⊢;refine eF.2 ?_;dsimp only[eF,bm];have g:Inv w X ([]++I) S w:=g;refine Run.callE (A:=[]) jT jQ g (CX hf hn j h a m) fun v' I2 S2 w'=>?_;rintro ⟨o,k,rfl,p,q⟩ _ g;rw [o] at g;refine lj ?_;exact ⟨_,_,_,rfl,g,Ext.refl _ _ _,rfl,_,rfl,fun l=>p (of_decide_eq_true l),fun l=>q (by have:=of_decide_eq_false l; omega)⟩
def StS (S0 S:ag) (sb:Nat) (st:aX):Prop:=∃ mb tv es ck E,S sb=some (.cells #[.map (some mb),tv] E)/\S mb=some (.map es ck)/\KnownM S0 es st
theorem StS.mono {S0 S S':ag} {a:Nat} {st:aX} (h:StS S0 S a st) (g:Sle S S'):StS S0 S' a st:=by
 obtain ⟨i,j,l,m,E,o,p,q⟩:=h;exact ⟨i,j,l,m,E,g _ _ o,g _ _ p,q⟩
theorem StS.find {S0 S:ag} {C:Nat} {N:Nat} {st:aX} (h:StS S0 S C st) {t:T} (hk:t.kind=1) (M:okU N t):∃ g l a m E i ok,S C=some (.cells #[.map (some g),l] E)/\S g=some (.map a m)/\
  ((∃ j,Instr.findNow (.int .i64) (.int .i64 t.n) a.toList 0=some (some (j,.agg (List.toArray i)))/\ok=true) ∨ (Instr.findNow (.int .i64) (.int .i64 t.n) a.toList 0=some none/\(Value.agg (List.toArray i))=.agg #[.int .i64 0,.int .i64 0,.string ⟨#[]⟩,.slice none 0 0]/\ok=false))/\
  i.length=4/\(∀ x∈i,x.oneCell'=true)/\(ok=true->∃ u,look st t=some u/\RdT S0 i u)/\(ok=false->look st t=none):=by
 obtain ⟨g,l,a,m,E,D,G,O⟩:=h;obtain ⟨U,_⟩:=M.var hk;obtain ⟨j,J⟩:∃ j:Nat,t.n=j:=⟨t.n.toNat,by omega⟩
 have p:look st t=(st[j]?).join:=by rw [look,af hk,J,eB]
 rw [J,p];rcases O.find j with ⟨q,v,u,cs,hf,rfl,hR,r⟩|⟨B,hf⟩
 ·exact ⟨g,l,a,m,E,cs,true,D,G,.inl ⟨q,hf,rfl⟩,hR.length,hR.one,fun _=>⟨u,by rw [r]; rfl,hR⟩,fun h=>by cases h⟩
 ·refine ⟨g,l,a,m,E,[.int .i64 0,.int .i64 0,.string ⟨#[]⟩,.slice none 0 0],false,D,G,.inr ⟨hf,rfl,rfl⟩,rfl,by simp [Value.oneCell'],fun h=>(by cases h),fun _=>?_⟩;cases r:st[j]? with
  | none=>rfl
  | some o=>
   cases o with
   | none=>rfl
   | some u=>exact absurd r (B u)
theorem kf {N:Nat} {st:aX} (hg:Good N st) {t v:T} (hw:dI st t v) (ht:okU N t) {S0 S:ag} {cs:List Value} {sb:Nat} (a8:StS S0 S sb st) (h:RdT S0 cs t) :
  Tri Tryz.prog AP [.pointer (some ⟨sb,0,none⟩),.agg cs.toArray] [] S fun r I' S'=>S'=S/\I'=[]/\∃ m,r=.agg m.toArray/\RdT S0 m v:=by
 intro w a;have a:Inv w [] [] S w:=a;obtain ⟨r,hr⟩:=hg.rk;refine oh.2 ?_;dsimp only[oh,bm];refine bH a fun b3 w' a=>?_;refine aH a aM fun G w' a=>?_;have a:Inv w [] [.blk b3 (.cells cs.toArray ac),.blk G (.cells #[.int .i64 0,.int .i64 0,.string ⟨#[]⟩,.slice none 0 0] ac)] S w':=a;refine ⟨fun w'=>∃ m,RdT S0 m v/\Inv w [] [.blk b3 (.cells m.toArray ac),.blk G (.cells #[.int .i64 0,.int .i64 0,.string ⟨#[]⟩,.slice none 0 0] ac)] S w',?_,?_⟩
 ·refine ⟨fun w'=>∃ (p:T) (m:List Value),dI st p v/\okU N p/\RdT S0 m p/\Inv w [] [.blk b3 (.cells m.toArray ac),.blk G (.cells #[.int .i64 0,.int .i64 0,.string ⟨#[]⟩,.slice none 0 0] ac)] S w',
   fun w'=>GW b3 r st w',⟨t,cs,hw,ht,h,a⟩,?_⟩
  intro _ _ _ t6 t5 b9 c1 c2 c3 c4 c5 c6 c9 d0 d1 _ _ _ w';rintro ⟨p,m,O,a9,l,a⟩;have a1:=G4 a (i:=0) rfl l r st;have M:=l;obtain ⟨kv,rfl,_⟩:=RdT.iff.1 l;refine ah a 0 rfl bb aw rfl ?_;refine bn ?_;refine aS (fun Y=>?_) (fun Y=>?_)
  ·obtain ⟨mb,tv,es,ck,E,B,ok,b0,b1,Z,a0,a5,a6,b2⟩:=a8.find Y a9;refine ⟨fun D x6 x5 pX xy sX nr sY HL Ol LI Cq np U=>Fx D 0 [np=.pointer (some ⟨sb,0,none⟩),Cq=.pointer (some ⟨sb,0,none⟩),LI=.pointer (some ⟨sb,0,none⟩),Ol=.map (some mb),HL=.pointer (some ⟨b3,1,none⟩),sY=.int .i64 p.n,nr=.tuple #[.agg B.toArray,.bool ok],sX=.tuple #[.agg B.toArray,.bool ok],xy=.agg B.toArray,pX=.bool ok,True,True,x6=.bool ok]/\∃ o,(D 10=true->x5=.pointer (some ⟨o,0,none⟩))/\(D 11=true->D 10=true)/\Inv w [] ([.blk b3 (.cells #[.int .i64 p.kind,.int .i64 p.n,.string p.name,kv] ac),.blk G (.cells #[.int .i64 0,.int .i64 0,.string ⟨#[]⟩,.slice none 0 0] ac)]++cond (D 10) [.blk o (.cells (cond (D 11) B.toArray #[.int .i64 0,.int .i64 0,.string ⟨#[]⟩,.slice none 0 0]) ac)] []) S U,⟨Fx.nil _ _,⟨0,aY,aY,a.draw⟩⟩,⟨?_,?_,?_,?_,?_,?_,?_,?_,?_,?_,?_,?_,?_,trivial⟩,?_⟩;all_goals (intro D bw; intros; rename_i x6 x5 pX xy sX nr sY HL Ol LI Cq np U a4; have j:=a4.1; obtain ⟨⟨cG,cf,cD,cF,bQ,cE,bZ,cL,dw,dl,ci,c8,dN,_⟩,⟨o,q,g,a⟩⟩:=a4)
   ·exact ⟨j.set 0 rfl,⟨o,q,g,a⟩⟩
   ·obtain rfl:=cG ‹_›;refine aL ?_;exact ⟨j.set 1 rfl,⟨o,q,g,a⟩⟩
   ·obtain rfl:=cf ‹_›;refine au yQ ?_;exact ⟨j.set 2 rfl,⟨o,q,g,a⟩⟩
   ·obtain rfl:=cD ‹_›;refine dE (by decide +kernel) (by rw [a.cellS b0]; rfl) ?_;exact ⟨j.set 3 rfl,⟨o,q,g,a⟩⟩
   ·refine au aV ?_;exact ⟨j.set 4 rfl,⟨o,q,g,a⟩⟩
   ·obtain rfl:=bQ ‹_›;refine aD a 0 aw rfl rfl ?_;exact ⟨j.set 5 rfl,⟨o,q,g,a⟩⟩
   ·obtain rfl:=cF ‹_›;obtain rfl:=cE ‹_›;refine d4 (ok:=ok) (v:=.agg B.toArray) (a.pub _ _ b1).1 cj c7 aM Z ?_;exact ⟨j.set 6 rfl,⟨o,q,g,a⟩⟩
   ·obtain rfl:=bZ ‹_›;exact ⟨j.set 7 rfl,⟨o,q,g,a⟩⟩
   ·obtain rfl:=cL ‹_›;refine aA rfl ?_;exact ⟨j.set 8 rfl,⟨o,q,g,a⟩⟩
   ·obtain rfl:=cL ‹_›;refine aA rfl ?_;exact ⟨j.set 9 rfl,⟨o,q,g,a⟩⟩
   ·have b6:D 11=false:=cS.2 fun h=>by rw [g h] at bw; cases bw
    rw [bw] at a;refine aH a aM fun o U a=>?_;have q:=fun (_:aE D 10 10=true)=>(rfl:Value.pointer (some ⟨o,0,none⟩)=_)
    have g:=fun (_:aE D 10 11=true)=>(rfl:aE D 10 10=true)
    have a:Inv w [] ([.blk b3 (.cells #[.int .i64 p.kind,.int .i64 p.n,.string p.name,kv] ac),.blk G (.cells #[.int .i64 0,.int .i64 0,.string ⟨#[]⟩,.slice none 0 0] ac)]++cond true [.blk o (.cells (cond (D 11) B.toArray #[.int .i64 0,.int .i64 0,.string ⟨#[]⟩,.slice none 0 0]) ac)] []) S U:=by rw [b6]; exact a
    exact ⟨j.set 10 (by first|assumption|trivial),⟨o,q,g,a⟩⟩
   ·have Gj:=ci ‹_›;obtain rfl:=dw ‹_›;have q5:=q ‹D 10=true›;subst q5;rw [bw,‹D 10=true›] at a;refine al a 2 rfl ad (by simpa using a0) rfl (by simpa using a5) fun U a=>?_;have g:=fun (_:aE D 11 11=true)=>‹D 10=true›;have a:Inv w [] ([.blk b3 (.cells #[.int .i64 p.kind,.int .i64 p.n,.string p.name,kv] ac),.blk G (.cells #[.int .i64 0,.int .i64 0,.string ⟨#[]⟩,.slice none 0 0] ac)]++cond (D 10) [.blk o (.cells (cond true B.toArray #[.int .i64 0,.int .i64 0,.string ⟨#[]⟩,.slice none 0 0]) ac)] []) S U:=by rw [‹D 10=true›]; exact a
    exact ⟨j.set 11 trivial,⟨o,q,g,a⟩⟩
   ·obtain rfl:=dl ‹_›;exact ⟨j.set 12 rfl,⟨o,q,g,a⟩⟩
   obtain ⟨rfl,rfl,rfl,rfl,rfl,rfl,rfl,rfl,rfl,rfl,Gj,_,rfl,_⟩:=j.all;have CK:D 10=true:=by assumption
   have r6:D 11=true:=by assumption
   clear j cG cf cD cF bQ cE bZ cL dw dl ci c8 dN;have q5:=q CK;subst q5;rw [CK,r6] at a;have a:Inv w [] [.blk b3 (.cells #[.int .i64 p.kind,.int .i64 p.n,.string p.name,kv] ac),.blk G (.cells #[.int .i64 0,.int .i64 0,.string ⟨#[]⟩,.slice none 0 0] ac),.blk o (.cells B.toArray ac)] S U:=a;refine cU ?_;refine aI (fun hb=>?_) (fun hb=>?_)
   ·have a2:ok=false:=by simpa using hb
    have J:=b2 a2;have hv:v=p:=by
     cases O with
     | stop _=>rfl
     | step h1 _=>rw [h1] at J; cases J
    subst hv;exact ⟨_,M,a.pick [true,true,false]⟩
   ·have a2:ok=true:=by simpa using hb
    obtain ⟨u,J,a7⟩:=a6 a2;have b7:dI st u v:=by
     cases O with
     | stop h0=>rw [J] at h0; cases h0
     | step h1 h2=>rw [J,bh] at h1; rw [h1]; exact h2
    refine aq a 2 ad rfl (by simpa using a0) ?_;refine al a 0 rfl ad (by simpa using a0) rfl (by simpa using a5) fun w' a=>?_;have a:Inv w [] [.blk b3 (.cells B.toArray ac),.blk G (.cells #[.int .i64 0,.int .i64 0,.string ⟨#[]⟩,.slice none 0 0] ac)] S w':=a.pick [true,true,false];refine ⟨⟨u,B,b7,(hg.look_ok J).1,a7,a⟩,?_⟩;have C:=G4 a (i:=0) rfl a7 r st;show GW b3 r st w'<GW b3 r st _;have b8:(look st p).isSome=true:=by rw [J]; rfl
    rw [a1,C,af b8];split
    ·rename_i V
     obtain ⟨u2,V⟩:=Option.isSome_iff_exists.1 V;have:=hr _ u (dB.1 J).2 u.n.toNat (by rw [i9 (dB.1 V).1]; exact cO.2 rfl);omega
    ·omega
  ·have hv:v=p:=by
    cases O with
    | stop _=>rfl
    | step h1 _=>exact absurd (dB.1 h1).1 Y
   subst hv;exact ⟨_,M,a⟩
 ·intro _ _ _ _ _ _ _ _ _ _ _ _ _ _ _ _ _ _ w';rintro ⟨m,l,a⟩;have a3:=l.length;refine aq a 0 ad rfl (by simpa using a3) ?_;refine al a 1 rfl ad (by simpa using a3) rfl (by simpa using l.one) fun w' a=>?_;refine bp a 1 ad rfl (by simpa using a3) ?_;exact ⟨_,_,_,rfl,a.nil,Ext.refl _ _ _,rfl,rfl,_,rfl,l⟩
def MetM (es:Array MapEntry) (met:Nat->Prop):Prop:=(∀ e∈es.toList,∃ n:Nat,e.key=.int .i64 n/\e.val=.bool true/\met n)/\∀ n,met n->∃ e∈es.toList,e.key=.int .i64 (n:Nat)
theorem MetM.find {l:Array MapEntry} {g:Nat->Prop} (h:MetM l g) (n:Nat):(g n/\∃ j,Instr.findNow (.int .i64) (.int .i64 n) l.toList 0=some (some (j,.bool true))) ∨ (¬ g n/\Instr.findNow (.int .i64) (.int .i64 n) l.toList 0=some none):=by
 rcases lM (n:=n) l.toList 0 (fun e i=>by obtain ⟨m,hk,_⟩:=h.1 e i; exact ⟨m,hk⟩) with ⟨j,e,i,hk,hf⟩|⟨hk,hf⟩
 ·obtain ⟨m,a,p,o⟩:=h.1 e i;rw [hk] at a;simp only [Value.int.injEq,sa] at a;have:n=m:=by omega
  subst this;rw [p] at hf;exact .inl ⟨o,j,hf⟩
 ·refine .inr ⟨fun o=>?_,hf⟩;obtain ⟨e,i,a⟩:=h.2 n o;exact hk e i a
theorem MetM.push {j:Array MapEntry} {g:Nat->Prop} (h:MetM j g) (n:Nat) (l:Nat):MetM (j.push { key:=.int .i64 n,val:=.bool true,born:=l }) (fun m=>g m ∨ m=n):=by
 refine ⟨fun e a=>?_,fun m i=>?_⟩
 ·rw [FK] at a;rcases cI.1 a with a|a
  ·obtain ⟨m,hk,o,i⟩:=h.1 e a;exact ⟨m,hk,o,.inl i⟩
  ·simp at a;subst a;exact ⟨n,rfl,rfl,.inr rfl⟩
 ·rw [FK];rcases i with i|rfl
  ·obtain ⟨x,p,hk⟩:=h.2 m i;exact ⟨x,ic _ p,hk⟩
  ·exact ⟨_,iW _ (cO.2 rfl),rfl⟩
theorem MetM.empty:MetM #[] (fun _=>False):=⟨fun e a=>by simp at a,fun n h=>h.elim⟩
theorem Ex {st:aX} {r:Nat->Nat} (p:∀ (n:Nat) (u:T),st[n]?=some (some u)->∀ m∈vT u,r m<r n) {t v:T} (q:dI st t v):∀ u,look st t=some u->∀ y∈vT v,r y<r t.n.toNat:=by
 induction q with
 | stop h=>intro u i; rw [h] at i; cases i
 | step B g C=>
  rename_i t u v
  intro G _ y j;have l:=p _ u (dB.1 B).2;cases a:look st u with
  | none=>
   have:v=u:=by
    cases g with
    | stop _=>rfl
    | step o _=>rw [o] at a; cases a
   subst this;exact l y j
  | some D=>
   have J:=C D a y j;have o:=l u.n.toNat (by rw [i9 (dB.1 a).1]; exact cO.2 rfl);omega
theorem Jl {N:Nat} {st:aX} {t v:T} (h:Good N st) (a:dI st t v) (g:okU N t):okU N v:=by
 induction a with
 | stop=>exact g
 | step i _ j=>exact j (h.look_ok i).1
theorem OL {st:aX} {r:Nat->Nat} (g:∀ (n:Nat) (u:T),st[n]?=some (some u)->∀ m∈vT u,r m<r n) {a c:Nat} (h:Rch st a c):r c<=r a:=by
 induction h with
 | refl=>exact be _
 | step i j _ l=>have:=g _ _ i _ j; omega
theorem Ka {st:aX} {t v:T} (m:dI st t v):∀ u,look st t=some u->∀ y∈vT v,Rch st t.n.toNat y:=by
 induction m with
 | stop h=>intro u i; rw [h] at i; cases i
 | step l g o=>
  rename_i t u v
  intro r _ y j;cases a:look st u with
  | none=>
   have:v=u:=by
    cases g with
    | stop _=>rfl
    | step p _=>rw [p] at a; cases a
   subst this;exact .step (dB.1 l).2 j (.refl y)
  | some q=>exact .step (dB.1 l).2 (by rw [i9 (dB.1 a).1]; exact cO.2 rfl) (o q a y j)
def OC (st:aX) (sb n:Nat) (t:T):Prop:=∀ (S0 S:ag) (cs:List Value) (mm ck:Nat) (es:Array MapEntry) (met:Nat->Prop),Sle S0 S->StS S0 S sb st->RdT S0 cs t->MetM es met->(∀ m,met m->(∃ x∈vT t,Rch st x m)->¬ Rch st m n)->
 Tri Tryz.prog wA [.pointer (some ⟨sb,0,none⟩),.int .i64 n,.agg cs.toArray,.map (some mm)] [.blk mm (.map es ck)] S fun r I' S'=>S'=S/\∃ es' ck',I'=[.blk mm (.map es' ck')]/\
  ((gO st n t/\r=.bool true) ∨ (¬ gO st n t/\r=.bool false/\∃ met',MetM es' met'/\(∀ m,met m->met' m)/\∀ m,met' m->met m ∨ ¬ Rch st m n))
theorem zS {st:aX} {C n:Nat} {t:T} (D:OC st C n t) {S0 S:ag} {cs:List Value} {o B N O U:Nat} {E4 E5 E7:TypeId} {p:Array MapEntry} {g:Nat->Prop} (G:Sle S0 S) (J:StS S0 S C st) (h:RdT S0 cs t) (V:MetM p g)
  (q:∀ m,g m->(∃ x∈vT t,Rch st x m)->¬ Rch st m n) (Y:S N=some (.cells #[.pointer (some ⟨C,0,none⟩)] E4)) (Z:S O=some (.cells #[.int .i64 n] E5)) (h7:S U=some (.cells #[.map (some o)] E7)) :
  Tri Tryz.prog r7 [.agg cs.toArray,.pointer (some ⟨N,0,none⟩),.pointer (some ⟨O,0,none⟩),.pointer (some ⟨U,0,none⟩)] [.blk o (.map p B)] S fun r I' S'=>S'=S/\∃ j l,I'=[.blk o (.map j l)]/\
  ((gO st n t/\r=.bool true) ∨ (¬ gO st n t/\r=.bool false/\∃ i,MetM j i/\(∀ m,g m->i m)/\∀ m,i m->g m ∨ ¬ Rch st m n)):=by
 intro w a;have M:=h.length;obtain ⟨X,hX⟩:∃ X,X=bT [Item.blk o (.map p B)]:=⟨_,rfl⟩
 rw [<- hX] at a ⊢;refine jU.2 ?_;dsimp only[jU,xU];refine bH a fun b1 w' a=>?_;have a:Inv w X ([.blk b1 (.cells cs.toArray ac)]++[.blk o (.map p B)]) S w':=a.perm (List.Perm.swap ..);refine dE hZ (by rw [a.cellS Y]; rfl) ?_;refine dE aw (by rw [a.cellS Z]; rfl) ?_;refine aq a 0 ad rfl (by simpa using M) ?_;refine dE (by decide +kernel) (by rw [a.cellS h7]; rfl) ?_;refine Run.callE ir iO a (D S0 S cs o B p g G J h V q) fun v' I' S' w'=>?_;rintro ⟨eS,j,l,rfl,u⟩ _ a;rw [eS] at a;exact ⟨_,_,_,rfl,a.pick [false,true],Ext.refl _ _ _,rfl,j,l,rfl,u⟩
theorem IF {N:Nat} {st:aX} (hg:Good N st) {sb n:Nat} (hn:∀ u,st[n]?≠some (some u)) (f1:n<1000000000) {t v:T} (ho:okU N t) (V:dI st t v)
  (hv:t.kind=1->v.kind≠1->OC st sb n v) (hk:t.kind≠1->∀ x∈t.kids,OC st sb n x):OC st sb n t:=by
 intro S0 S cs B U es Y c4 c5 h a4 a7 w a;have f5:=h.length;obtain ⟨X,hX⟩:∃ X,X=bT [Item.blk B (.map es U)]:=⟨_,rfl⟩
 rw [<- hX] at a ⊢;have h0:=h;obtain ⟨kv,rfl,_,_,_,e6⟩:=RdT.iff.1 h;refine lV.2 ?_;dsimp only[lV,xU];refine bH a fun b4 w' a=>?_;refine bH a fun b5 w' a=>?_;refine bH a fun b6 w' a=>?_;refine bH a fun b7 w' a=>?_;have a:Inv w X [.blk B (.map es U),.blk b4 (.cells #[.pointer (some ⟨sb,0,none⟩)] kA),.blk b5 (.cells #[.int .i64 n] bD),.blk b6 (.cells #[.int .i64 t.kind,.int .i64 t.n,.string t.name,kv] ac),.blk b7 (.cells #[.map (some B)] ie)] S w':=a;refine ah a 3 rfl bb aw rfl ?_;refine bn ?_;refine aS (fun a0=>?_) (fun a0=>?_)
 ·obtain ⟨f4,_⟩:=ho.var a0;obtain ⟨j,hj⟩:∃ j:Nat,t.n=j:=⟨t.n.toNat,by omega⟩
  have a1:vT t=[j]:=by rw [i9 a0,hj,eB]
  have d3:fW Tryz.prog JC=some (.bool false):=by kernel_rfl
  have c9:Tryz.prog.underlying ie=some (.map bD JC):=by kernel_rfl
  refine aD a 4 (by decide +kernel) rfl rfl ?_;refine ah a 3 rfl aV aw rfl ?_;rw [hj] at a ⊢;rcases a4.find j with ⟨e0,q,hf⟩|⟨e0,hf⟩
  ·refine d4 (c:=false) (ok:=true) (v:=.bool true) (a.its (.blk B (.map es U)) (by simp)) c9 c7 d3 (.inl ⟨q,hf,rfl⟩) ?_;refine aI (fun _=>?_) (fun hb=>by cases hb);have l:¬ gO st n t:=by
    rintro ⟨x,C,hr⟩;have d6:=C;rw [a1,cO] at d6;subst d6;exact a7 x e0 ⟨x,C,.refl x⟩ hr
   exact ⟨_,_,_,rfl,a.pick [true,false,false,false,false],Ext.refl _ _ _,rfl,es,U,rfl,.inr ⟨l,rfl,Y,a4,fun _ h=>h,fun _ h=>.inl h⟩⟩
  refine d4 (c:=false) (ok:=false) (v:=.bool false) (a.its (.blk B (.map es U)) (by simp)) c9 c7 d3 (.inr ⟨hf,rfl,rfl⟩) ?_;refine aI (fun hb=>by cases hb) (fun _=>?_);refine aD a 4 (by decide +kernel) rfl rfl ?_;refine ah a 3 rfl aV aw rfl ?_;refine nb a 0 c9 c7 rfl hf fun w' a=>?_;have a2:=a4.push j U;generalize e1:es.push { key:=.int .i64 (j:Int),val:=.bool true,born:=U }=es2 at a2;rw [e1] at a;have a:Inv w X [.blk B (.map es2 (U+1)),.blk b4 (.cells #[.pointer (some ⟨sb,0,none⟩)] kA),.blk b5 (.cells #[.int .i64 n] bD),.blk b6 (.cells #[.int .i64 t.kind,.int .i64 j,.string t.name,kv] ac),.blk b7 (.cells #[.map (some B)] ie)] S w':=a;refine aD a 1 hZ rfl rfl ?_;refine aq a 3 ad rfl rfl ?_;rw [hj] at h0;refine Run.call0 gY gX a (kf hg V ho c5 h0) fun v' I' S' w'=>?_;rintro ⟨eS,rfl,f2,rfl,a5⟩ _ a;rw [eS] at a;clear eS;have d7:=a5.length;refine aH a aM fun b9 w' a=>?_;have a:Inv w X [.blk B (.map es2 (U+1)),.blk b4 (.cells #[.pointer (some ⟨sb,0,none⟩)] kA),.blk b5 (.cells #[.int .i64 n] bD),.blk b6 (.cells #[.int .i64 t.kind,.int .i64 j,.string t.name,kv] ac),.blk b7 (.cells #[.map (some B)] ie),.blk b9 _] S w':=a;refine al a 5 rfl ad (by simpa using d7) rfl (by simpa using a5.one) fun w' a=>?_;have d9:=a5;obtain ⟨e7,rfl,_⟩:=RdT.iff.1 a5;have a:Inv w X [.blk B (.map es2 (U+1)),.blk b4 (.cells #[.pointer (some ⟨sb,0,none⟩)] kA),.blk b5 (.cells #[.int .i64 n] bD),.blk b6 (.cells #[.int .i64 t.kind,.int .i64 j,.string t.name,kv] ac),.blk b7 (.cells #[.map (some B)] ie),.blk b9 (.cells #[.int .i64 v.kind,.int .i64 v.n,.string v.name,e7] ac)] S w':=a;have p:=O6 V hn;have c2:∀ m,(Y m ∨ m=j)->¬ gO st n t->Y m ∨ ¬ Rch st m n:=by
   rintro m (D|rfl) l
   ·exact .inl D
   ·exact .inr fun hr=>l ⟨m,by rw [a1]; exact cO.2 rfl,hr⟩
  refine ah a 5 rfl bb aw rfl ?_;refine bn ?_;refine aS (fun O=>?_) (fun O=>?_)
  ·refine ah a 5 rfl aV aw rfl ?_;refine aD a 2 aw rfl rfl ?_;refine bn ?_;have c3:gO st n v↔v.n.toNat=n:=by
    have d0:=qQ.1 (ii V) O;constructor
    ·rintro ⟨x,C,hr⟩;rw [i9 O,cO] at C;subst C;cases hr with
     | refl=>rfl
     | step o _ _=>
      rcases d0 with e|e
      ·rw [e] at o; cases o
      ·rw [e] at o; cases o
    ·intro e;exact ⟨n,by rw [i9 O,e]; exact cO.2 rfl,.refl n⟩
   have f0:0<=v.n:=by
    exact ((Jl hg V ho).var O).1
   have G:decide (v.n=(n:Int))=decide (v.n.toNat=n):=by
    rw [rZ,bE,bE];omega
   rw [G];refine ⟨_,_,_,rfl,a.pick [true,false,false,false,false,false],Ext.refl _ _ _,rfl,es2,U+1,rfl,?_⟩;by_cases e:v.n.toNat=n
   ·left;exact ⟨p.2 (c3.2 e),by rw [aP e]⟩
   ·right;have l:¬ gO st n t:=fun h=>e (c3.1 (p.1 h));exact ⟨l,by rw [bf e],_,a2,fun m D=>.inl D,fun m D=>c2 m D l⟩
  ·refine aD a 1 hZ rfl rfl ?_;refine aD a 2 aw rfl rfl ?_;refine aq a 5 ad rfl rfl ?_;refine aD a 4 (by decide +kernel) rfl rfl ?_;have a:Inv w X ([.blk b4 (.cells #[.pointer (some ⟨sb,0,none⟩)] kA)]++[.blk B (.map es2 (U+1))]) S w':=(a.pick [true,true,false,false,false,false]).perm (List.Perm.swap ..);have e8:∃ u,look st t=some u:=by
    cases hl:look st t with
    | some u=>exact ⟨u,rfl⟩
    | none=>
     have:v=t:=by
      cases V with
      | stop _=>rfl
      | step o _=>rw [o] at hl; cases hl
     rw [this] at O;exact absurd a0 O
   obtain ⟨u,hl⟩:=e8;obtain ⟨rk,d2⟩:=hg.rk;have e9:=Ex d2 V u hl;have a3:∀ m,(Y m ∨ m=j)->(∃ x∈vT v,Rch st x m)->¬ Rch st m n:=by
    rintro m (D|rfl) ⟨x,C,hr⟩
    ·refine a7 m D ⟨j,by rw [a1]; exact cO.2 rfl,?_⟩;have o:=Ka V u hl x C;rw [hj,eB] at o;exact o.trans hr
    ·exfalso;have o:=e9 x C;have h2:=OL d2 hr;rw [hj,eB] at o;omega
   refine Run.callE ir iO a (hv a0 O S0 S _ B (U+1) es2 _ c4 c5 d9 a2 a3) fun v' I' S' w'=>?_;rintro ⟨eS,b3,b8,rfl,G⟩ _ a;rw [eS] at a;refine ⟨_,_,_,rfl,a.pick [false,true],Ext.refl _ _ _,rfl,b3,b8,rfl,?_⟩;rcases G with ⟨o,rfl⟩|⟨o,rfl,b2,d1,h2,h3⟩
   ·exact .inl ⟨p.2 o,rfl⟩
   ·have l:¬ gO st n t:=fun h=>o (p.1 h);refine .inr ⟨l,rfl,b2,d1,fun m D=>h2 m (.inl D),fun m D=>?_⟩;rcases h3 m D with h4|h4
    ·exact c2 m h4 l
    ·exact .inr h4
 ·refine ah a 3 rfl ay ax rfl ?_;refine r8 ?_;have a1:vT t=vTL t.kids:=uE a0;have a:Inv w X ([.blk B (.map es U)]++bG [(b4,.cells #[.pointer (some ⟨sb,0,none⟩)] kA),(b5,.cells #[.int .i64 n] bD),(b7,.cells #[.map (some B)] ie)]) S w':=a.pick [true,true,true,false,true];obtain ⟨S1,b0,b1,a9,c8⟩:=Inv.lendAll _ a;have h4:=b1 _ (bL ..);have h5:=b1 _ (bV _ (bL ..));have h7:=b1 _ (bV _ (bV _ (bL ..)));have a9:Inv w X ([]++[.blk B (.map es U)]) S1 w':=a9;refine Run.callE (A:=[]) fN fM a9 (ww qZ qV (c4.trans b0) e6
   (J:=fun i I=>∃ r M g,I=[.blk B (.map r M)]/\MetM r g/\(∀ m,Y m->g m)/\(∀ m,g m->Y m ∨ ¬ Rch st m n)/\∀ k (_:k<t.kids.length),k<i->¬ gO st n t.kids[k])
   (Fin:=fun I=>∃ r M,I=[.blk B (.map r M)]/\gO st n t) ?_ ⟨es,U,Y,rfl,a4,fun _ h=>h,fun _ h=>.inl h,fun k _ h=>by omega⟩) fun v' I2 S2 w'=>?_
  ·rintro i hi cs I e2 ⟨r,M,g,rfl,c6,a8,a6,Z⟩;have a3:∀ m,g m->(∃ x∈vT t.kids[i],Rch st x m)->¬ Rch st m n:=by
    rintro m D ⟨x,C,hr⟩;rcases a6 m D with o|o
    ·exact a7 m o ⟨x,by rw [a1]; exact nW.2 ⟨_,cH hi,C⟩,hr⟩
    ·exact o
   intro w1 a9;refine (zS (hk a0 _ (cH hi)) (c4.trans b0) (c5.mono b0) e2 c6 a3 h4 h5 h7 w1 a9).mono ?_;rintro e w2 ⟨v',I',S',rfl,e3,hE,hS,b3,b8,rfl,G⟩;refine ⟨_,_,_,rfl,e3,hE,hS,?_⟩;rcases G with ⟨o,rfl⟩|⟨o,rfl,b2,d1,h2,h3⟩
   ·obtain ⟨x,C,hr⟩:=o;exact ⟨true,rfl,fun _=>⟨b3,b8,rfl,x,by rw [a1]; exact nW.2 ⟨_,cH hi,C⟩,hr⟩,fun e=>by cases e⟩
   ·refine ⟨false,rfl,fun e=>(by cases e),fun _=>⟨b3,b8,b2,rfl,d1,fun m D=>h2 m (a8 m D),fun m D=>?_,fun k c1 f3=>?_⟩⟩
    ·rcases h3 m D with h4|h4
     ·exact a6 m h4
     ·exact .inr h4
    ·by_cases e:k=i
     ·subst e; exact o
     ·exact Z k c1 (by omega)
  rintro ⟨eS,b,rfl,e4,e5⟩ _ a;rw [eS] at a;have a:Inv w X I2 S1 w':=a;have a:=c8 _ _ a;cases b with
  | true=>
   obtain ⟨r,M,rfl,p⟩:=e4 rfl;exact ⟨_,_,_,rfl,a.sub (gR _ _),Ext.refl _ _ _,rfl,r,M,rfl,.inl ⟨p,rfl⟩⟩
  | false=>
   obtain ⟨r,M,g,rfl,c6,a8,a6,Z⟩:=e5 rfl;have l:¬ gO st n t:=by
    rintro ⟨x,C,hr⟩;rw [a1] at C;obtain ⟨y,hy,C⟩:=nW.1 C;obtain ⟨k,c1,rfl⟩:=Lx.1 hy;exact Z k c1 c1 ⟨x,C,hr⟩
   exact ⟨_,_,_,rfl,a.sub (gR _ _),Ext.refl _ _ _,rfl,r,M,rfl,.inr ⟨l,rfl,g,c6,a8,a6⟩⟩
theorem EM {N:Nat} {st:aX} (r:Good N st) {Z n:Nat} (hn:∀ u,st[n]?≠some (some u)) (C:n<1000000000):∀ t:T,okU N t->OC st Z n t:=by
 obtain ⟨rk,U⟩:=r.rk;have q:∀ (m:Nat) (a:T),(∀ x∈vT a,∀ u,st[x]?=some (some u)->rk x<m)->okU N a->OC st Z n a:=by
  intro m;induction m using Nat.strongRecOn with
  | _ m Y=>
   refine T.ind fun k D s ks G hr j=>?_;obtain ⟨v,h⟩:=LG r (.mk k D s ks);refine IF r hn C j h (fun g o=>?_) (fun g x i=>?_)
   ·cases B:look st (.mk k D s ks) with
    | none=>
     have:v=.mk k D s ks:=by
      cases h with
      | stop _=>rfl
      | step h1 _=>rw [h1] at B; cases B
     rw [this] at o;exact absurd g o
    | some u=>
     have J:=(dB.1 B).2;have V:=hr _ (by rw [i9 g]; exact cO.2 rfl) u J;exact Y _ V v (fun x i _ _=>Ex U h u B x i) (Jl r h j)
   ·exact G x i (fun y hy u J=>hr y (by rw [uE g]; exact nW.2 ⟨x,i,hy⟩) u J) (iv j.kids x i)
 have p:∀ l:List Nat,∃ M,∀ m∈l,rk m<M:=by
  intro l;induction l with
  | nil=>exact ⟨0,by simp⟩
  | cons x l G=>
   obtain ⟨M,p⟩:=G;refine ⟨M+rk x+1,fun m O=>?_⟩;rcases ek.1 O with rfl|O
   ·omega
   ·have:=p m O; omega
 intro t j;obtain ⟨M,p⟩:=p (vT t);exact q M t (fun x i _ _=>p x i) j
end
end
section
open Go Go.RowKit
section
attribute [local irreducible] Run CondV aC aU
theorem Fa {w:World} {K:Value->World->Prop} {o:Int} (hk:K (.agg (Ist.cells ⟨o,0,0,emptyB⟩).toArray) w):Run Tryz.prog (bR aF [(0,.int .i64 o)]) w K:=by
 refine Run.of (v:=.agg (Ist.cells ⟨o,0,0,emptyB⟩).toArray) (w':=w) ?_ hk;unfold bR;rw [Sem.run_bind,run_build w aF _ #[.int .i64 o,.int .i64 0,.int .i64 0,.string ⟨#[]⟩] (by kernel_rfl),Result.andThen_ok];rfl
theorem l4 {w:World} {K:Value->World->Prop} {o a:Int} (hk:K (.agg (Ist.cells ⟨o,a,0,emptyB⟩).toArray) w):Run Tryz.prog (bR aF [(0,.int .i64 o),(1,.int .i64 a)]) w K:=by
 refine Run.of (v:=.agg (Ist.cells ⟨o,a,0,emptyB⟩).toArray) (w':=w) ?_ hk;unfold bR;rw [Sem.run_bind,run_build w aF _ #[.int .i64 o,.int .i64 a,.int .i64 0,.string ⟨#[]⟩] (by kernel_rfl),Result.andThen_ok];rfl
theorem jL {w:World} {K:Value->World->Prop} {o a b:Int} (hk:K (.agg (Ist.cells ⟨o,a,b,emptyB⟩).toArray) w):Run Tryz.prog (bR aF [(0,.int .i64 o),(1,.int .i64 a),(2,.int .i64 b)]) w K:=by
 refine Run.of (v:=.agg (Ist.cells ⟨o,a,b,emptyB⟩).toArray) (w':=w) ?_ hk;unfold bR;rw [Sem.run_bind,run_build w aF _ #[.int .i64 o,.int .i64 a,.int .i64 b,.string ⟨#[]⟩] (by kernel_rfl),Result.andThen_ok];rfl
theorem ES {w:World} {K:Value->World->Prop} {o a b:Int} {nm:ByteArray} (hk:K (.agg (Ist.cells ⟨o,a,b,nm⟩).toArray) w):Run Tryz.prog (bR aF [(0,.int .i64 o),(1,.int .i64 a),(2,.int .i64 b),(3,.string nm)]) w K:=by
 refine Run.of (v:=.agg (Ist.cells ⟨o,a,b,nm⟩).toArray) (w':=w) ?_ hk;unfold bR;rw [Sem.run_bind,run_build w aF _ #[.int .i64 o,.int .i64 a,.int .i64 b,.string nm] (by kernel_rfl),Result.andThen_ok];rfl
theorem OK {w:World} {K:Value->World->Prop} {o a:Int} {nm:ByteArray} (hk:K (.agg (Ist.cells ⟨o,a,0,nm⟩).toArray) w):Run Tryz.prog (bR aF [(0,.int .i64 o),(1,.int .i64 a),(3,.string nm)]) w K:=by
 refine Run.of (v:=.agg (Ist.cells ⟨o,a,0,nm⟩).toArray) (w':=w) ?_ hk;unfold bR;rw [Sem.run_bind,run_build w aF _ #[.int .i64 o,.int .i64 a,.int .i64 0,.string nm] (by kernel_rfl),Result.andThen_ok];rfl
theorem nv {g h i:Nat} {j:Array MapEntry} {s:CS} {cv:Value} {S:ag} (m:0<=s.next/\s.next<=1000000000) :
  Tri Tryz.prog za [.pointer (some ⟨g,0,none⟩)] (dd g h j i s cv) S fun r I' S'=>S'=S/\r=.int .i64 s.next/\I'=dd g h j i s.inc cv:=by
 intro w a;obtain ⟨X,l⟩:∃ X,X=bT (dd g h j i s cv):=⟨_,rfl⟩
 rw [<- l] at a ⊢;refine mP.2 ?_;dsimp only[mP,aQ];refine aL ?_;refine ah a 0 rfl nY aw rfl ?_;refine bF (by omega) ?_;refine aL ?_;refine dG a 0 rfl nY aw rfl rfl rfl fun w' a=>?_;have a:Inv w X (dd g h j i s.inc cv) S w':=a;refine aL ?_;refine ah a 0 rfl nY aw rfl ?_;refine jx (by show -9223372036854775808<=s.next+1 - 1/\_; show _/\s.next+1 - 1<=_; omega) ?_;have e:s.inc.next - 1=s.next:=by show s.next+1 - 1=s.next; omega
 rw [e];exact ⟨_,_,_,rfl,a,Ext.refl _ _ _,rfl,rfl,rfl⟩
def atV (s:CS) (n:Int):Int:=if 0<=s.at_ n then s.at_ n else 0
theorem SlM.look {g:Array MapEntry} {s:CS} (h:SlM g s) {n:Int} (i:0<=n) (l:n<26):(∃ j,Instr.findNow (.int .i64) (.int .i64 n) g.toList 0=some (some (j,.int .i64 (atV s n)))/\decide (0<=s.at_ n)=true) ∨ (Instr.findNow (.int .i64) (.int .i64 n) g.toList 0=some none/\Value.int .i64 (atV s n)=.int .i64 0/\decide (0<=s.at_ n)=false):=by
 rcases h.find i l with ⟨a,j,hf⟩|⟨a,hf⟩
 ·exact .inl ⟨j,by rw [atV,af a]; exact hf,aP a⟩
 ·exact .inr ⟨hf,by rw [atV,ae a],bf a⟩
theorem n7 {B G J:Nat} {O:Array MapEntry} {s:CS} {cv:Value} {t:T} {S:ag} {cs:List Value} (h:RdT S cs t) (hw:Wf s) (hm:SlM O s) (ht:okG t) (h3:t.kind≠3) (hl:s.sz<=900000000) :
  Tri Tryz.prog qf [.pointer (some ⟨B,0,none⟩),.agg cs.toArray] (dd B G O J s cv) S fun _ I' S'=>AE B G S (eq s t) I' S':=by
 intro w a;obtain ⟨X,hX⟩:∃ X,X=bT (dd B G O J s cv):=⟨_,rfl⟩
 rw [<- hX] at a ⊢;have b2:=hw.four;have b6:s.code.length<=900000000/\s.next<=900000000:=by unfold CS.sz at hl; omega
 obtain ⟨kv,rfl,_,_,_,b5⟩:=RdT.iff.1 h;refine iY.2 ?_;dsimp only[iY,bm];refine bH a fun b3 w' a=>?_;have a:Inv w X ([.blk b3 (.cells #[.int .i64 t.kind,.int .i64 t.n,.string t.name,kv] ac)]++dd B G O J s cv) S w':=a.perm (bK (l₁:=[_]));refine ah a 0 rfl bb aw rfl ?_;refine bn ?_;refine aS (fun h2=>?_) (fun h2=>?_)
 ·refine ah a 0 rfl aV aw rfl ?_;refine l4 ?_;refine Run.call bX bW a (dS ⟨6,t.n,0,emptyB⟩ hm (by omega)) fun v' I' S' w'=>?_;rintro ⟨eS,i,j,l,rfl,a1⟩ _ a;rw [eS] at a;exact ⟨_,_,_,rfl,a.sub (dU _ _),Ext.refl _ _ _,rfl,i,j,l,by rw [eq,af h2],by rw [eq,af h2]; exact a1⟩
 have r:t.kind=1/\0<=t.n/\t.n<26:=by
  rcases ht.kind with e|e|e
  ·exact e
  ·exact absurd e.1 h2
  ·exact absurd e.1 h3
 have b4:=hm.look r.2.1 r.2.2;refine ⟨fun D x5 x4 rU ry Ol oQ nq pX xy nr sY HL M=>Fx D 0 [HL=.pointer (some ⟨B,0,none⟩),sY=.pointer (some ⟨B,0,none⟩),nr=.pointer (some ⟨B,0,none⟩),xy=.map (some G),pX=.pointer (some ⟨b3,1,none⟩),nq=.int .i64 t.n,oQ=.tuple #[.int .i64 (atV s t.n),.bool (decide (0<=s.at_ t.n))],Ol=.tuple #[.int .i64 (atV s t.n),.bool (decide (0<=s.at_ t.n))],ry=.int .i64 (atV s t.n),rU=.bool (decide (0<=s.at_ t.n)),x4=.int .i64 (atV s t.n),x5=.bool (decide (0<=s.at_ t.n))]/\Inv w X ([.blk b3 (.cells #[.int .i64 t.kind,.int .i64 t.n,.string t.name,kv] ac)]++dd B G O J s cv) S M,⟨Fx.nil _ _,a.draw⟩,⟨?_,?_,?_,?_,?_,?_,?_,?_,?_,?_,?_,?_,trivial⟩,?_⟩;all_goals (intro D bw; intros; rename_i x5 x4 rU ry Ol oQ nq pX xy nr sY HL M C; have g:=C.1; obtain ⟨⟨U,V,Y,Z,bQ,cE,bZ,N,dw,dl,ci,c8,_⟩,a⟩:=C)
 ·exact ⟨g.set 0 rfl,a⟩
 ·obtain rfl:=U ‹_›;refine aL ?_;exact ⟨g.set 1 rfl,a⟩
 ·obtain rfl:=V ‹_›;refine au eZ ?_;exact ⟨g.set 2 rfl,a⟩
 ·obtain rfl:=Y ‹_›;refine aD a 1 fy rfl rfl ?_;exact ⟨g.set 3 rfl,a⟩
 ·refine au aV ?_;exact ⟨g.set 4 rfl,a⟩
 ·obtain rfl:=bQ ‹_›;refine aD a 0 aw rfl rfl ?_;exact ⟨g.set 5 rfl,a⟩
 ·obtain rfl:=Z ‹_›;obtain rfl:=cE ‹_›;refine Co a 2 fx c7 wS rfl b4 ?_;exact ⟨g.set 6 rfl,a⟩
 ·obtain rfl:=bZ ‹_›;exact ⟨g.set 7 rfl,a⟩
 ·obtain rfl:=N ‹_›;refine aA rfl ?_;exact ⟨g.set 8 rfl,a⟩
 ·obtain rfl:=N ‹_›;refine aA rfl ?_;exact ⟨g.set 9 rfl,a⟩
 ·obtain rfl:=dw ‹_›;exact ⟨g.set 10 rfl,a⟩
 ·obtain rfl:=dl ‹_›;exact ⟨g.set 11 rfl,a⟩
 obtain ⟨rfl,rfl,rfl,rfl,rfl,rfl,rfl,rfl,rfl,rfl,rfl,rfl,_⟩:=g.all;clear g U V Y Z bQ cE bZ N dw dl ci c8;refine aS (fun h0=>?_) (fun h0=>?_)
 ·have e:eq s t=s.emit ⟨5,s.at_ t.n,0,emptyB⟩:=by rw [eq,ae h2,af h0]
  rw [show atV s t.n=s.at_ t.n from af h0];refine l4 ?_;refine Run.call bX bW a (dS ⟨5,s.at_ t.n,0,emptyB⟩ hm (by omega)) fun v' I' S' w'=>?_;rintro ⟨eS,i,j,l,rfl,a1⟩ _ a;rw [eS] at a;exact ⟨_,_,_,rfl,a.sub (dU _ _),Ext.refl _ _ _,rfl,i,j,l,by rw [e],by rw [e]; exact a1⟩
 have e:eq s t=((s.put t.n s.next).emit ⟨4,s.next,0,emptyB⟩).inc:=by rw [eq,ae h2,ae h0]
 have hf:Instr.findNow (.int .i64) (.int .i64 t.n) O.toList 0=some none:=by
  rcases hm.find r.2.1 r.2.2 with ⟨q,_⟩|⟨_,q⟩
  ·exact absurd q h0
  ·exact q
 have a4:=hm.push hw.len r.2 h0 (v:=s.next) (by omega) J;generalize a9:O.push { key:=.int .i64 t.n,val:=.int .i64 s.next,born:=J }=es2 at a4;refine ⟨fun D ra xp z4 DZ Du yy tF AV M=>Fx D 0 [AV=.pointer (some ⟨B,0,none⟩),tF=.pointer (some ⟨B,0,none⟩),yy=.pointer (some ⟨B,0,none⟩),Du=.map (some G),DZ=.pointer (some ⟨b3,1,none⟩),z4=.int .i64 t.n,xp=.pointer (some ⟨B,0,none⟩),ra=.int .i64 s.next,True]/\Inv w X ([.blk b3 (.cells #[.int .i64 t.kind,.int .i64 t.n,.string t.name,kv] ac)]++dd B G (cond (D 8) es2 O) (cond (D 8) (J+1) J) (cond (D 7) s.inc s) cv) S M,⟨Fx.nil _ _,a.draw⟩,⟨?_,?_,?_,?_,?_,?_,?_,?_,?_,trivial⟩,?_⟩;all_goals (intro D bw; intros; rename_i ra xp z4 DZ Du yy tF AV M C; have g:=C.1; obtain ⟨⟨U,V,Y,Z,bQ,cE,bZ,N,dw,_⟩,a⟩:=C)
 ·exact ⟨g.set 0 rfl,a⟩
 ·obtain rfl:=U ‹_›;refine aL ?_;exact ⟨g.set 1 rfl,a⟩
 ·obtain rfl:=V ‹_›;refine au eZ ?_;exact ⟨g.set 2 rfl,a⟩
 ·obtain rfl:=Y ‹_›;refine aD a 1 fy rfl rfl ?_;exact ⟨g.set 3 rfl,a⟩
 ·refine au aV ?_;exact ⟨g.set 4 rfl,a⟩
 ·obtain rfl:=bQ ‹_›;refine aD a 0 aw rfl rfl ?_;exact ⟨g.set 5 rfl,a⟩
 ·exact ⟨g.set 6 rfl,a⟩
 ·obtain rfl:=bZ ‹_›;rw [bw] at a;refine Run.call gH gy a (nv (s:=s) (by omega)) fun v' I' S' M=>?_;rintro ⟨eS,rfl,rfl⟩ _ a;rw [eS] at a;exact ⟨g.set 7 rfl,a⟩
 ·obtain rfl:=Z ‹_›;obtain rfl:=cE ‹_›;obtain rfl:=N ‹_›;rw [bw] at a;refine nb a 2 fx c7 rfl hf fun M a=>?_;dsimp only [cond_false] at a;rw [a9] at a;exact ⟨g.set 8 trivial,a⟩
 obtain ⟨rfl,rfl,rfl,rfl,rfl,rfl,rfl,rfl,_,_⟩:=g.all;have sZ:D 7=true:=by assumption
 have Lh:D 8=true:=by assumption
 clear g U V Y Z bQ cE bZ N dw;rw [sZ,Lh] at a;have a:Inv w X ([.blk b3 (.cells #[.int .i64 t.kind,.int .i64 t.n,.string t.name,kv] ac)]++dd B G es2 (J+1) (s.put t.n s.next).inc cv) S M:=a;have a5:SlM es2 (s.put t.n s.next).inc:=a4;have a6:=a5.look r.2.1 r.2.2;have a7:(s.put t.n s.next).inc.at_ t.n=s.next:=by show (s.put t.n s.next).at_ t.n=_; rw [gn hw.len r.2 r.2,af rfl]
 rw [atV,a7,af (by omega),aP (show 0<=s.next by omega)] at a6;refine ⟨fun D oH oE oe oa pd py Aq xZ qe s0 M=>Fx D 0 [s0=.pointer (some ⟨B,0,none⟩),qe=.pointer (some ⟨B,0,none⟩),xZ=.pointer (some ⟨B,0,none⟩),Aq=.pointer (some ⟨B,0,none⟩),py=.map (some G),pd=.pointer (some ⟨b3,1,none⟩),oa=.int .i64 t.n,oe=.int .i64 s.next,oE=.agg (Ist.cells ⟨4,s.next,0,emptyB⟩).toArray,True]/\∃ u i j l,u=(cond (D 9) ((s.put t.n s.next).inc.emit ⟨4,s.next,0,emptyB⟩) (s.put t.n s.next).inc)/\SlM i u/\(D 9=false->i=es2/\j=J+1/\l=cv)/\Inv w X ([.blk b3 (.cells #[.int .i64 t.kind,.int .i64 t.n,.string t.name,kv] ac)]++dd B G i j u l) S M,⟨Fx.nil _ _,⟨_,es2,J+1,cv,rfl,a5,fun _=>⟨rfl,rfl,rfl⟩,a.draw⟩⟩,⟨?_,?_,?_,?_,?_,?_,?_,?_,?_,?_,trivial⟩,?_⟩;all_goals (intro D bw; intros; rename_i oH oE oe oa pd py Aq xZ qe s0 M C; have g:=C.1; obtain ⟨⟨U,V,Y,Z,bQ,cE,bZ,N,dw,dl,_⟩,⟨u,i,j,l,m,o,p,a⟩⟩:=C)
 ·exact ⟨g.set 0 rfl,⟨u,i,j,l,m,o,p,a⟩⟩
 ·exact ⟨g.set 1 rfl,⟨u,i,j,l,m,o,p,a⟩⟩
 ·obtain rfl:=V ‹_›;refine aL ?_;exact ⟨g.set 2 rfl,⟨u,i,j,l,m,o,p,a⟩⟩
 ·obtain rfl:=Y ‹_›;refine au eZ ?_;exact ⟨g.set 3 rfl,⟨u,i,j,l,m,o,p,a⟩⟩
 ·obtain rfl:=Z ‹_›;refine aD a 1 fy rfl rfl ?_;exact ⟨g.set 4 rfl,⟨u,i,j,l,m,o,p,a⟩⟩
 ·refine au aV ?_;exact ⟨g.set 5 rfl,⟨u,i,j,l,m,o,p,a⟩⟩
 ·obtain rfl:=cE ‹_›;refine aD a 0 aw rfl rfl ?_;exact ⟨g.set 6 rfl,⟨u,i,j,l,m,o,p,a⟩⟩
 ·obtain rfl:=bQ ‹_›;obtain rfl:=bZ ‹_›;have a0:=o.look r.2.1 r.2.2;have a8:u.at_ t.n=s.next:=by rw [m]; cases D 9 <;> exact a7
  rw [atV,a8,af (by omega),aP (show 0<=s.next by omega)] at a0;refine d4 (c:=false) (ok:=true) (v:=.int .i64 s.next) (a.its (.blk G (.map i j)) (by simp)) fx c7 wS a0 ?_;exact ⟨g.set 7 rfl,⟨u,i,j,l,m,o,p,a⟩⟩
 ·obtain rfl:=N ‹_›;refine l4 ?_;exact ⟨g.set 8 rfl,⟨u,i,j,l,m,o,p,a⟩⟩
 ·obtain rfl:=U ‹_›;obtain rfl:=dw ‹_›;obtain ⟨a2,b0,b1⟩:=p bw;rw [a2,b0,b1] at a;rw [a2] at o;rw [bw] at m;have m:u=(s.put t.n s.next).inc:=m;rw [m] at a o;refine Run.call bX bW a (dS ⟨4,s.next,0,emptyB⟩ o (by show s.code.length<=_; omega)) fun v' I' S' M=>?_;rintro ⟨eS,i,j,l,rfl,o⟩ _ a;rw [eS] at a;obtain ⟨u,a3⟩:∃ u,u=(s.put t.n s.next).inc.emit ⟨4,s.next,0,emptyB⟩:=⟨_,rfl⟩
  rw [<- a3] at a o;have m:u=cond (aE D 9 9) ((s.put t.n s.next).inc.emit ⟨4,s.next,0,emptyB⟩) (s.put t.n s.next).inc:=a3;have p:aE D 9 9=false->i=es2/\j=J+1/\l=cv:=fun h=>by cases h
  exact ⟨g.set 9 (by first|assumption|trivial),⟨u,i,j,l,m,o,p,a⟩⟩
 obtain ⟨rfl,rfl,rfl,rfl,rfl,rfl,rfl,rfl,rfl,DC,_⟩:=g.all;have NF:D 9=true:=by assumption
 clear g U V Y Z bQ cE bZ N dw dl;rw [NF] at m;have m:u=eq s t:=by rw [m,e]; rfl
 subst m;exact ⟨_,_,_,rfl,a.sub (dU _ _),Ext.refl _ _ _,rfl,i,j,l,rfl,o⟩
end
end
end Go.Proofs.YtjbcdmheajljpaaGreat

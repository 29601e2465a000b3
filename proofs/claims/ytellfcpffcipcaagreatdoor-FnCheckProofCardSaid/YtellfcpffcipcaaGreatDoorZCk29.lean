/- spec.l6Try. -/
import Derived.Test.YtellfcpffcipcaaGreatDoorZCkA
import Derived.Test.YtellfcpffcipcaaGreatDoorZCk28
namespace Go.Proofs.YtellfcpffcipcaaGreatDoor
attribute [local irreducible] Run CondV aF aT
section
open Go Go.RowKit
def tmC (w0:World) (X:List Nat) (A:List Item) (S:ae) (N m:Nat) (b st:au) (og lK jt j7 zY:Value) (w':World):Nat->Prop
 | 0=>Inv w0 X A S w'
 | 1=>Inv w0 X (A++[aK og ab 4 []]) S w'
 | 2=>∃ css,Rows 4 (RdO S) css b/\Inv w0 X (A++[aK lK ab 4 css]) S w'
 | 3=>jt=.int .i64 (m:Int)/\∃ css,Rows 4 (RdO S) css b/\Inv w0 X (A++[aK lK ab 4 css]) S w'
 | 4=>∃ g cap cur,j7=kvU g N cap/\N<=cap/\cap<=maxLen/\KnU S cur st/\Inv w0 X (A++[.blk g (.cells cur ab)]) S w'
 | _=>∃ g cap cur,zY=kvU g N cap/\N<=cap/\cap<=maxLen/\KnU S cur st/\Inv w0 X (A++[.blk g (.cells cur ab)]) S w'
theorem tmC.inv {w0 w':World} {X:List Nat} {A:List Item} {S:ae} {N m:Nat} {b st:au} {a f g i j:Value}:∀ {n:Nat},tmC w0 X A S N m b st a f g i j w' n->∃ R,Inv w0 X (A++R) S w'
 | 0,h=>⟨[],by rw [dc];exact h⟩
 | 1,h=>⟨_,h⟩
 | 2,⟨_,_,h⟩=>⟨_,h⟩
 | 3,⟨_,_,_,h⟩=>⟨_,h⟩
 | 4,⟨_,_,_,_,_,_,_,h⟩=>⟨_,h⟩
 | _+5,⟨_,_,_,_,_,_,_,h⟩=>⟨_,h⟩
def unC (w0:World) (X:List Nat) (A:List Item) (S:ae) (g:Nat) (cur:Array Value) (st:au) (t:T) (r:Bool) (nz lL:Value) (w':World):Nat->Prop
 | 0=>Inv w0 X (A++[.blk g (.cells cur ab)]) S w'
 | 1=>∃ S1 cs,nz=.agg cs.toArray/\Ext w0.heap.size X S S1/\RdT S1 cs t/\Inv w0 X (A++[.blk g (.cells cur ab)]) S1 w'
 | _=>lL=.bool r/\∃ S1 cur',Ext w0.heap.size X S S1/\KnU S1 cur' st/\Inv w0 X (A++[.blk g (.cells cur' ab)]) S1 w'
theorem unC.inv {w0 w':World} {X:List Nat} {A:List Item} {S:ae} {g:Nat} {a:Array Value} {st:au} {t:T} {r:Bool} {f i:Value}:∀ {n:Nat},unC w0 X A S g a st t r f i w' n->∃ R S1,Inv w0 X (A++R) S1 w'
 | 0,h=>⟨_,_,h⟩
 | 1,⟨_,_,_,_,_,h⟩=>⟨_,_,h⟩
 | _+2,⟨_,_,_,_,_,h⟩=>⟨_,_,h⟩
abbrev zSt:Array Value:=#[hV,hV,hV]
abbrev zCh:Array Value:=#[ax 0,ax 0,.string ⟨#[]⟩,hV,hV,hV,hV]
def abW (s:St6) (o:Option St6):Value->List Item->ae->Prop:=fun q I' S'=>I'=[]/\∃ cs:List Value,q=.tuple #[.agg cs.toArray,.bool o.isSome]/\RdS6 S' cs (o.getD s)
section
set_option maxHeartbeats 4000000 in
theorem Sb {p:List C} (hp:∀ cl∈p,BF cl) {k:Nat} (hk:k<=1000) {c:Ch} (hc:od c) (hr:okRk k c) {s:St6} {o:Option St6} (h:TryL p s.chs c c.left o) (hn:s.chs.length<=1000)
  {S:ae} {u:Value} {ss cs:hZ} (hP:RdSl S 5 (RdC S) u p) (hs:RdS6 S ss s) (h6:RdCh S cs c):kt XE [u,.agg ss.toArray,.agg cs.toArray] [] S (abW s o):=by
 intro w f;obtain ⟨gs,sb,sc,rfl,p3,p4,d4⟩:=id hs;obtain ⟨a4,a5,rfl,_⟩:=id d4;obtain ⟨hd,rv,lv,bv,rfl,f4,b3,b7,b8⟩:=id h6;obtain ⟨ra,rc,rfl,_⟩:=id b3;obtain ⟨ba,bc,rfl,_⟩:=id b8;have c1:=f4;obtain ⟨kv,rfl,_⟩:=RdT.iff.1 f4;have i7:=b8.le;have i8:=b7.le;have i9:=b3.le;simp only [maxLen] at i7 i8 i9;have p8:=hr.nb;have p9:=hr.nr;have g4:=hr.pos;apply Jn.2;dsimp only[Jn,dR];refine bq f fun b4 w' f=>?_;refine bq f fun b5 w' f=>?_;refine aG f jm fun b6 w' f=>?_;obtain ⟨B4,f5⟩:∃ B:Item,B=ay b4 #[gs,sb,.slice a4 s.chs.length a5] cF:=⟨_,rfl⟩
 obtain ⟨B5,f6⟩:∃ B:Item,B=ay b5 #[ax c.goal.kind,ax c.goal.n,.string c.goal.name,kv,.slice ra c.rest.length rc,lv,.slice ba c.binds.length bc] dp:=⟨_,rfl⟩
 obtain ⟨B6,f7⟩:∃ B:Item,B=ay b6 zSt cF:=⟨_,rfl⟩
 have e4:=congrArg some f5;have e5:=congrArg some f6;have e6:=congrArg some f7;have f:Inv w [] [B4,B5,B6] S w':=by rw [f5,f6,f7];exact f
 refine ⟨fun i w'=>∃ (j:Nat) (S1:ae),j<=c.left.length/\i=ax j/\TryL p s.chs c (c.left.drop j) o/\Ext w.heap.size [] S S1/\Inv w [] [B4,B5,B6] S1 w',
  fun i _=>c.left.length - (intOf i).toNat,⟨0,S,bf _,rfl,h,Ext.refl _ _ _,f⟩,?_⟩
 intro t8 _ _ _ _ k2 k3 k4 k5 k6 k7 k8 k9 l0 l1 l2 l3 l4 l5 l6 l7 l8 l9 m0 m1 m2 _ _ _ _ _ _ m3 m4 m5 m6 m7 m8 m9 n0 n1 n2 n3 n4 _ _ _ _ n5 n6 n7 n8 n9 o0 o1 o2 o3 o4 o5 o6 o7 o8 o9 p0 p1;(iterate 18 intro);intro w';rintro ⟨j,S1,hj,rfl,hT,hE,f⟩;refine ad f 1 e5 eB ft rfl (aI b7 cU (bM (aJ (fun h8=>?_) (fun h8=>?_))))
 ·have e2:j<c.left.length:=by omega
  rw [dB e2] at hT;obtain ⟨n,cl,r,st,i2,d6,hu,c0⟩:=hT.inv;have j0:n<p.length:=(fS.1 d6).1;have j1:p[n]=cl:=(fS.1 d6).2;have hm:=hp cl (cJ d6);obtain ⟨m,d7⟩:∃ m:Nat,mt cl=m:=⟨(mt cl).toNat,by have:=(Dn (ef (cl.head::cl.body) []) 0).1;rw [<- mt] at this;omega⟩
  have q0:=hm.fr;have q3:=hm.ln;have e3:=Hl hc hm.cf;have e7:=xf hc cl;rw [d7,dq] at e3 e7;obtain ⟨hg,_⟩:=hu.good e7 e3;have g5:=hg.len;refine ad f 1 e5 eB ft rfl (gj (u:=ax (n:Int)) f (b7.mono hE.1 fun _ _ h=>h) cU aw e2 (fun cs h9=>by rw [<- i2];exact h9) (cL f (hP.monoC hE.1) cr bR j0 (fun _ _=>RdC.length) fun ds c3=>?_));rw [j1] at c3;have g6:=c3;obtain ⟨c4,p5,rfl,hh,hb⟩:=c3.cells;obtain ⟨c5,c6,rfl,_⟩:=id hb;refine aG f fj fun b9 w' f=>?_;have f:Inv w [] [B4,B5,B6,ay b9 eb aB] S1 w':=f;refine aq f 3 rfl bR rfl rfl (by simpa using c3.one) fun w' f=>?_;obtain ⟨B9,f8⟩:∃ B:Item,B=ay b9 #[ax cl.head.kind,ax cl.head.n,.string cl.head.name,c4,.slice c5 cl.body.length c6] aB:=⟨_,rfl⟩
  have e9:=congrArg some f8;have f:Inv w [] [B4,B5,B6,B9] S1 w':=by rw [f8];exact f
  refine ad f 1 e5 oL aj rfl (fJ ag ?_);have g7:=b8.monoO hE.1;refine ⟨fun D zY j7 jt oH lK mC r7 og Z=>Fx D 0 [True,r7=eu b5 6,mC=.slice ba c.binds.length bc,True,oH=.agg #[ax cl.head.kind,ax cl.head.n,.string cl.head.name,c4,.slice c5 cl.body.length c6],True,True,True]/\∃ M:Nat,M<=5/\D 0=decide (1<=M)/\D 3=decide (2<=M)/\D 5=decide (3<=M)/\D 6=decide (4<=M)/\D 7=decide (5<=M)/\(tmC w [] [B4,B5,B6,B9] S1 (c.binds.length+m) m c.binds (GC c.binds cl) og lK jt j7 zY Z M),⟨Fx.nil _ _,⟨0,bf _,rfl,rfl,rfl,rfl,rfl,f.draw⟩⟩,⟨?_,?_,?_,?_,?_,?_,?_,?_,trivial⟩,?_⟩;all_goals (intro D bw;intros;rename_i zY j7 jt oH lK mC r7 og Z a3;have a:=a3.1;obtain ⟨⟨co,cn,bP,cj,cA,bQ,bO,cM,_⟩,⟨M,V,G,l,Y,a8,a9,J⟩⟩:=a3)
  ·obtain rfl:M=0:=Af G bw;refine fg J bx fun v Z f=>?_;have J:tmC w [] [B4,B5,B6,B9] S1 (c.binds.length+m) m c.binds (GC c.binds cl) v lK jt j7 zY Z 1:=f;exact ⟨a.set 0 (by first|assumption|trivial),1,by decide,rfl,(by first|exact l|rfl),(by first|exact Y|rfl),(by first|exact a8|rfl),(by first|exact a9|rfl),J⟩
  apply ah oL;rotate_left
  obtain rfl:=cn ‹_›;obtain ⟨R,f⟩:=J.inv;refine aD f 1 aj e5 rfl ?_;rotate_left
  ·have j2:=co ‹_›;obtain rfl:=bP ‹_›;obtain rfl:M=1:=iY G ‹D 0=true› l bw;refine fZ (css:=[]) J 4 bx (by omega) rfl g7 (fun _ _=>RdO.length) (fun _ _=>RdO.one) (by simp;omega) (by omega) fun v Z css hR f=>?_;have J:tmC w [] [B4,B5,B6,B9] S1 (c.binds.length+m) m c.binds (GC c.binds cl) og v jt j7 zY Z 2:=⟨css,hR,f⟩
   exact ⟨a.set 3 (by first|assumption|trivial),2,by decide,(by first|exact G|rfl),rfl,(by first|exact Y|rfl),(by first|exact a8|rfl),(by first|exact a9|rfl),J⟩
  obtain ⟨R,f⟩:=J.inv;refine av f 3 bR e9 rfl ?_;rotate_left
  ·obtain rfl:=cA ‹_›;obtain rfl:M=2:=iY l ‹D 3=true› Y bw;obtain ⟨css,hR,f⟩:=J;refine Run.callPure Nf O4 f (KJ g6 hm.w hm.vs) fun Z f=>?_;rw [d7];have J:tmC w [] [B4,B5,B6,B9] S1 (c.binds.length+m) m c.binds (GC c.binds cl) og lK (ax (m:Int)) j7 zY Z 3:=⟨rfl,css,hR,f⟩
   exact ⟨a.set 5 (by first|assumption|trivial),3,by decide,(by first|exact G|rfl),(by first|exact l|rfl),rfl,(by first|exact a8|rfl),(by first|exact a9|rfl),J⟩
  ·have SV:=cj ‹_›;have PS:=bQ ‹_›;obtain rfl:M=3:=iY Y ‹D 5=true› a8 bw;obtain ⟨rfl,css,hR,f⟩:=J;refine Ue f hR g4 bx rfl (U:=cR) (by kernel_rfl) (by omega) (by omega) fun g cap b2 Z q1 q2 d2 f=>?_;have J:tmC w [] [B4,B5,B6,B9] S1 (c.binds.length+m) m c.binds (GC c.binds cl) og lK (ax (m:Int)) (kvU g (c.binds.length+m) cap) zY Z 4:=⟨g,cap,b2,rfl,q1,q2,by rw [GC,d7,dq];exact d2,f⟩
   exact ⟨a.set 6 (by first|assumption|trivial),4,by decide,(by first|exact G|rfl),(by first|exact l|rfl),(by first|exact Y|rfl),rfl,(by first|exact a9|rfl),J⟩
  ·have Ky:=bO ‹_›;obtain rfl:M=4:=iY a8 ‹D 6=true› a9 bw;have J:tmC w [] [B4,B5,B6,B9] S1 (c.binds.length+m) m c.binds (GC c.binds cl) og lK jt j7 j7 Z 5:=J;exact ⟨a.set 7 (by first|assumption|trivial),5,by decide,(by first|exact G|rfl),(by first|exact l|rfl),(by first|exact Y|rfl),(by first|exact a8|rfl),rfl,J⟩
  all_goals try exact ⟨a.set _ (by first|rfl|assumption|trivial),M,V,G,l,Y,a8,a9,J⟩
  obtain rfl:M=5:=pH V a9 ‹D 7=true›;clear G l Y a8 a9;obtain ⟨g,cap,b2,rfl,q1,q2,d2,f⟩:=J;have g8:=c1.mono hE.1;refine ⟨fun D qp lL oF nz pD mn nj lS oC Z=>Fx D 0 [oC=ee b5,lS=.agg (gn c.goal kv),nj=ee b9,mn=.agg (gn cl.head c4),pD=ax (c.binds.length:Int),True,oF=kvU g (c.binds.length+m) cap,True,qp=.bool (!r)]/\∃ M:Nat,M<=2/\D 5=decide (1<=M)/\D 7=decide (2<=M)/\(unC w [] [B4,B5,B6,B9] S1 g b2 st (bD c.binds.length cl.head) r nz lL Z M),⟨Fx.nil _ _,⟨0,bf _,rfl,rfl,f.draw⟩⟩,⟨?_,?_,?_,?_,?_,?_,?_,?_,?_,trivial⟩,?_⟩;all_goals (intro D bw;intros;rename_i qp lL oF nz pD mn nj lS oC Z a3;have a:=a3.1;obtain ⟨⟨co,cn,bP,cj,cA,bQ,bO,cM,de,_⟩,⟨M,V,G,l,J⟩⟩:=a3)
  apply ah oI;rotate_left
  obtain rfl:=co ‹_›;obtain ⟨R,S2,f⟩:=J.inv;refine cP f 1 (hJ c.goal kv) ac e5 rfl aaa ?_;rotate_left
  apply ah dl;rotate_left
  obtain rfl:=bP ‹_›;obtain ⟨R,S2,f⟩:=J.inv;refine cP f 3 (hJ cl.head c4) ac e9 rfl Nw ?_;rotate_left;rotate_left
  ·obtain rfl:=cj ‹_›;obtain rfl:=cA ‹_›;obtain rfl:M=0:=Af G bw;refine Run.call0E tm sV J (y0 (N:=26) (by omega) (c.binds.length:Int) (by omega) (by omega) _ S1 _ hh (iK (by omega) _ hm.cf.1.1) hm.cf.1.2) fun v' I' S' Z=>?_;rintro ⟨eS,f1,L,rfl,rfl,h7⟩ _ f;rw [eS] at f;obtain ⟨S2,f,b0,g0⟩:=f.pubExt;have J:unC w [] [B4,B5,B6,B9] S1 g b2 st (bD c.binds.length cl.head) r (.agg f1.toArray) lL Z 1:=⟨S2,f1,rfl,b0,h7.rd g0,f⟩
   exact ⟨a.set 5 (by first|assumption|trivial),1,by decide,rfl,(by first|exact l|rfl),J⟩
  rotate_left
  ·obtain rfl:=cn ‹_›;have PS:=bQ ‹_›;obtain rfl:=bO ‹_›;obtain rfl:M=1:=iY G ‹D 5=true› l bw;obtain ⟨S2,i3,rfl,b0,g1,f⟩:=J;refine Run.callE iE iM f (jT (kp:=cap) (by omega) e7 e3 hu S2 _ _ g b2 (g8.mono b0.1) g1 (d2.mono b0.1)) fun v' I' S' Z=>?_;rintro ⟨eS,rfl,f2,rfl,d1⟩ _ f;rw [eS] at f;have J:unC w [] [B4,B5,B6,B9] S1 g b2 st (bD c.binds.length cl.head) r (.agg i3.toArray) (.bool r) Z 2:=⟨rfl,S2,f2,b0,d1,f⟩
   exact ⟨a.set 7 (by first|assumption|trivial),2,by decide,(by first|exact G|rfl),rfl,J⟩
  have Fi:=cM ‹_›;have j3:=pH V l ‹D 7=true›;have h0:=J;rw [j3] at h0;obtain ⟨g2,_⟩:=h0;subst g2;apply cq;rotate_left
  all_goals try exact ⟨a.set _ (by first|rfl|assumption|trivial),M,V,G,l,J⟩
  obtain rfl:M=2:=pH V l ‹D 7=true›;have Dc:D 8=true:=by assumption
  clear G l;obtain rfl:=de Dc;obtain ⟨_,S2,f2,b0,d1,f⟩:=J;refine aE (fun d3=>?_) (fun d3=>?_)
  ·have j4:r=false:=by cases r;rfl;cases d3
   rcases c0 with ⟨h1,_⟩|⟨_,hT⟩
   ·rw [j4] at h1;cases h1
   refine bA (by omega) ?_;exact ⟨⟨j+1,S2,e2,rfl,hT,hE.trans b0,f.pick [true,true,true]⟩,by simp [intOf];omega⟩
  have j5:r=true:=by cases r;cases d3;rfl
  rcases c0 with ⟨_,ho⟩|⟨h1,_⟩
  case inr=>rw [j5] at h1;cases h1
  subst ho;obtain ⟨S3,f,d9,i4⟩:=Inv.pub1 f;have d0:=(hE.trans b0).trans d9;have j6:RdSl S3 4 (RdO S3) (kvU g (c.binds.length+m) cap) st:=by
   have:=(d1.rd (cap:=cap) i4 (by rw [g5];exact q1) q2).mono (Sle.refl _) fun _ _ h=>RdO.mono d9.1 h;rw [g5] at this;exact this
  refine ad f 0 e4 eD er rfl (fJ jV ?_);obtain ⟨gl,c8⟩:∃ gl,gl=cl.body.map (fun t=>(bD (c.binds.length:Int) t,(s.chs.length:Int)))++c.rest:=⟨_,rfl⟩
  have c7:∀ S4,Sle S3 S4->kt EG [.slice c5 cl.body.length c6,ax (c.binds.length:Int),ax (s.chs.length:Int),.slice ra c.rest.length rc] [] S4 (Zq gl):=by
   intro S4 f3;rw [c8];exact yT (N:=26) (by omega) _ (by omega) (by omega) _ (hb.monoT ((b0.trans d9).1.trans f3)) (b3.monoG (d0.1.trans f3)) (fun t ht=>⟨iK (by omega) _ (hm.cf.2 t ht).1,(hm.cf.2 t ht).2⟩) (by omega) (by omega)
  refine ⟨fun D Ld xN yU xj xH vC uk uB sT uv qW nh Z=>Fx D 0 [nh=kvU g (c.binds.length+m) cap,qW=eu b4 2,uv=.slice a4 s.chs.length a5,sT=eu b9 4,uB=.slice c5 cl.body.length c6,uk=ax (c.binds.length:Int),vC=ax (s.chs.length:Int),xH=eu b5 4,xj=.slice ra c.rest.length rc,True,True,True,True]/\∃ S4,Ext w.heap.size [] S3 S4/\(D 9=true->RdSl S4 5 (RdG S4) yU gl)/\(D 10=true->∃ v,xN=.agg #[v,kvU g (c.binds.length+m) cap,.slice a4 s.chs.length a5]/\RdSl S4 5 (RdG S4) v gl)/\nwP w [] [B4,B5,B6,B9] cF zSt (fun S q=>∃ v,q=#[v,kvU g (c.binds.length+m) cap,.slice a4 s.chs.length a5]/\RdSl S 5 (RdG S) v gl) (D 11) (D 12) Ld S4 Z,⟨Fx.nil _ _,⟨S3,Ext.refl _ _ _,aU,aU,nwP.mk f.draw _⟩⟩,⟨?_,?_,?_,?_,?_,?_,?_,?_,?_,?_,?_,?_,?_,trivial⟩,?_⟩;all_goals (intro D bw;intros;rename_i Ld xN yU xj xH vC uk uB sT uv qW nh Z a3;have a:=a3.1;obtain ⟨⟨co,cn,bP,cj,cA,bQ,bO,cM,de,dv,bU,cC,cY,_⟩,⟨S4,a0,f9,a1,O⟩⟩:=a3)
  rotate_left;apply ah eD;rotate_left
  obtain rfl:=cn ‹_›;obtain ⟨R,f⟩:=O.inv;refine aD f 0 er e4 rfl ?_;rotate_left
  apply ah bF;rotate_left
  obtain rfl:=cj ‹_›;obtain ⟨R,f⟩:=O.inv;refine aD f 3 aj e9 rfl ?_;rotate_left;rotate_left;rotate_left
  apply ah wA;rotate_left
  obtain rfl:=cM ‹_›;obtain ⟨R,f⟩:=O.inv;refine aD f 1 iu e5 rfl ?_;rotate_left
  obtain rfl:=cA ‹_›;obtain rfl:=bQ ‹_›;obtain rfl:=bO ‹_›;obtain rfl:=de ‹_›;obtain ⟨R,f,e0⟩:=O.ex (fun S S' q hs hq=>by obtain ⟨v,e,h⟩:=hq;exact ⟨v,e,h.monoG hs⟩);refine Run.call0E CO CE f (c7 S4 a0.1) fun v I' S4 Z=>?_;rintro ⟨rfl,hg⟩ a6 f;rw [dc] at f;have O:=e0 S4 _ a6.1 f;have a0:=a0.trans a6;have f9:=fun (_:aC D 9 9=true)=>hg;have a1:aC D 9 10=true->∃ v,xN=.agg #[v,kvU g (c.binds.length+m) cap,.slice a4 s.chs.length a5]/\RdSl S4 5 (RdG S4) v gl:=fun h=>(a1 h).imp fun v hv=>⟨hv.1,hv.2.monoG a6.1⟩
  rotate_left;obtain rfl:=co ‹_›;obtain rfl:=bP ‹_›;have K2:=dv ‹_›;have h2:=f9 ‹D 9=true›;obtain ⟨ga,gc,rfl,_⟩:=id h2;apply Xx;have a1:aC D 10 10=true->∃ v,Value.agg #[.slice ga gl.length gc,kvU g (c.binds.length+m) cap,.slice a4 s.chs.length a5]=.agg #[v,kvU g (c.binds.length+m) cap,.slice a4 s.chs.length a5]/\RdSl S4 5 (RdG S4) v gl:=fun _=>⟨_,rfl,h2⟩
  rotate_left;refine nwP.alloc O bw jm rfl fun v Z O=>?_;rotate_left
  have W9:=cC ‹_›;have xE:=bU ‹_›;obtain ⟨v,rfl,hv⟩:=a1 ‹D 10=true›;refine nwP.store O ‹D 11=true› bw cO rfl rfl (by obtain ⟨ga,gc,rfl,_⟩:=id hv;simp [Value.oneCell']) ⟨v,rfl,hv⟩ fun Z O=>?_;rotate_left
  all_goals try exact ⟨a.set _ (by first|rfl|assumption|trivial),S4,a0,f9,a1,O⟩
  obtain ⟨rfl,rfl,rfl,rfl,rfl,rfl,rfl,rfl,rfl,K2,xE,W9,_,_⟩:=a.all;have nH:D 11=true:=by assumption
  have U2:D 12=true:=by assumption
  clear a;rw [nH,U2] at O;obtain ⟨b1,p6,rfl,⟨gv,rfl,e1⟩,f⟩:=O.fin;have f:Inv w [] [B4,B5,B6,B9,ay b1 #[gv,kvU g (c.binds.length+m) cap,.slice a4 s.chs.length a5] cF] S4 Z:=f;have a7:=d0.trans a0;refine ⟨fun w'=>∃ S5 cv,Ext w.heap.size [] S4 S5/\RdSl S5 7 (RdCh S5) cv (s.chs++(if c.left.drop (j+1)=[] then [] else [⟨c.goal,c.rest,c.left.drop (j+1),c.binds⟩]))/\Inv w [] [B4,B5,B6,B9,ay b1 #[gv,kvU g (c.binds.length+m) cap,cv] cF] S5 w',?_,?_⟩
  ·refine bA (by omega) (ad f 1 e5 eB ft rfl (aI b7 cU (bM (aJ (fun i0=>?_) (fun i0=>?_)))))
   ·have j8:c.left.drop (j+1)≠[]:=fun e=>by have:=congrArg List.length e;rw [nJ] at this;simp at this;omega
    rw [af j8];obtain ⟨mc,g3⟩:∃ mc:Ch,mc=⟨c.goal,c.rest,c.left.drop (j+1),c.binds⟩:=⟨_,rfl⟩
    rw [<- g3];refine ⟨fun D xw yf Ar ze ud Bw Eg D5 Fw EV FF DD Hm Z=>Fx D 0 [Hm=ee b5,DD=.agg (gn c.goal kv),FF=eu b5 4,EV=.slice ra c.rest.length rc,Fw=eu b5 5,D5=lv,Eg=ax (j:Int),Bw=ax ((j+1:Nat):Int),RdSl S 1 gW ud (c.left.drop (j+1)),ze=eu b5 6,Ar=.slice ba c.binds.length bc,True,True,True]/\(D 11=true->∃ la ln lc,yf=.agg #[ax c.goal.kind,ax c.goal.n,.string c.goal.name,kv,.slice ra c.rest.length rc,.slice la ln lc,.slice ba c.binds.length bc]/\RdSl S 1 gW (.slice la ln lc) (c.left.drop (j+1)))/\nwP w [] [B4,B5,B6,B9,ay b1 #[gv,kvU g (c.binds.length+m) cap,.slice a4 s.chs.length a5] cF] dp zCh (fun _ q=>∃ la ln lc,q=#[ax c.goal.kind,ax c.goal.n,.string c.goal.name,kv,.slice ra c.rest.length rc,.slice la ln lc,.slice ba c.binds.length bc]/\RdSl S 1 gW (.slice la ln lc) (c.left.drop (j+1))) (D 12) (D 13) xw S4 Z,⟨Fx.nil _ _,⟨aU,nwP.mk f.draw _⟩⟩,⟨?_,?_,?_,?_,?_,?_,?_,?_,?_,?_,?_,?_,?_,?_,trivial⟩,?_⟩;all_goals (intro D bw;intros;rename_i xw yf Ar ze ud Bw Eg D5 Fw EV FF DD Hm Z a3;have a:=a3.1;obtain ⟨⟨co,cn,bP,cj,cA,bQ,bO,cM,de,dv,bU,cC,cY,dK,_⟩,⟨a2,O⟩⟩:=a3)
    apply ah oI;rotate_left
    obtain rfl:=co ‹_›;obtain ⟨R,f⟩:=O.inv;refine cP f 1 (hJ c.goal kv) ac e5 rfl aaa ?_;rotate_left
    apply ah wA;rotate_left
    obtain rfl:=bP ‹_›;obtain ⟨R,f⟩:=O.inv;refine aD f 1 iu e5 rfl ?_;rotate_left
    apply ah eB;rotate_left
    obtain rfl:=cA ‹_›;obtain ⟨R,f⟩:=O.inv;refine aD f 1 ft e5 rfl ?_;rotate_left;rotate_left
    ·obtain rfl:=bO ‹_›;refine bA (by omega) ?_;rw [show ((j:Int)+1)=((j+1:Nat):Int) by omega];exact ⟨a.set 7 rfl,a2,O⟩
    obtain rfl:=bQ ‹_›;obtain rfl:=cM ‹_›;refine ju cU b7 (by omega) fun v' p2=>?_;rotate_left
    apply ah oL;rotate_left
    obtain rfl:=dv ‹_›;obtain ⟨R,f⟩:=O.inv;refine aD f 1 aj e5 rfl ?_;rotate_left
    obtain rfl:=cn ‹_›;obtain rfl:=cj ‹_›;have Db:=de ‹_›;obtain rfl:=bU ‹_›;obtain ⟨la,lc,rfl,_⟩:=id Db;apply Mc;have a2:aC D 11 11=true->∃ la ln lc,Value.agg #[ax c.goal.kind,ax c.goal.n,.string c.goal.name,kv,.slice ra c.rest.length rc,.slice _ _ _,.slice ba c.binds.length bc]=.agg #[ax c.goal.kind,ax c.goal.n,.string c.goal.name,kv,.slice ra c.rest.length rc,.slice la ln lc,.slice ba c.binds.length bc]/\RdSl S 1 gW (.slice la ln lc) (c.left.drop (j+1)):=fun _=>⟨_,_,_,rfl,Db⟩
    rotate_left;refine nwP.alloc O bw om rfl fun v Z O=>?_;rotate_left
    have Zc:=cY ‹_›;have W9:=cC ‹_›;obtain ⟨la,ln,lc,rfl,hv⟩:=a2 ‹D 11=true›;refine nwP.store O ‹D 12=true› bw eE rfl rfl (RdCh.one (S:=S) (c:=⟨c.goal,c.rest,c.left.drop (j+1),c.binds⟩) ⟨_,_,_,_,rfl,c1,b3,hv,b8⟩) ⟨la,ln,lc,rfl,hv⟩ fun Z O=>?_;rotate_left
    all_goals try exact ⟨a.set _ (by first|rfl|assumption|trivial),a2,O⟩
    obtain ⟨rfl,rfl,rfl,rfl,rfl,rfl,rfl,rfl,Db,rfl,rfl,W9,Zc,_,_⟩:=a.all;have U2:D 12=true:=by assumption
    have j9:D 13=true:=by assumption
    clear a;rw [U2,j9] at O;obtain ⟨i5,p7,rfl,⟨la,ln,lc,rfl,i6⟩,f⟩:=O.fin;obtain ⟨B14,c9⟩:∃ B:Item,B=ay i5 #[ax c.goal.kind,ax c.goal.n,.string c.goal.name,kv,.slice ra c.rest.length rc,.slice la ln lc,.slice ba c.binds.length bc] dp:=⟨_,rfl⟩
    have k0:=congrArg some c9;have f:Inv w [] ([B4,B5,B6,B9,B14]++[ay b1 #[gv,kvU g (c.binds.length+m) cap,.slice a4 s.chs.length a5] cF]) S4 Z:=by
     rw [c9];exact f.perm (((List.Perm.swap _ _ _).cons _ |>.cons _ |>.cons _ |>.cons _))
    have k1:RdCh S4 [ax c.goal.kind,ax c.goal.n,.string c.goal.name,kv,.slice ra c.rest.length rc,.slice la ln lc,.slice ba c.binds.length bc] mc:=by
     rw [g3];exact ⟨_,_,_,_,rfl,c1.mono a7.1,b3.monoG a7.1,i6.mono a7.1 fun _ _ h=>h,b8.monoO a7.1⟩
    have h3:=d4.monoCh a7.1;refine ⟨fun D wx xD wV yn xL yr AF xA Z=>Fx D 0 [True,AF=eu b4 2,yr=.slice a4 s.chs.length a5,True,yn=.agg #[ax c.goal.kind,ax c.goal.n,.string c.goal.name,kv,.slice ra c.rest.length rc,.slice la ln lc,.slice ba c.binds.length bc],True,True,wx=eu b1 2,True]/\∃ M:Nat,M<=3/\D 0=decide (1<=M)/\D 3=decide (2<=M)/\D 6=decide (3<=M)/\(apP w [] (fun cv=>[B4,B5,B6,B9,B14]++[ay b1 #[gv,kvU g (c.binds.length+m) cap,cv] cF]) (.slice a4 s.chs.length a5) dp 7 RdCh s.chs mc S4 (D 5) (D 8) xA xL wV xD Z M),⟨Fx.nil _ _,⟨0,bf _,rfl,rfl,rfl,apP.mk f.draw _ _ _ _⟩⟩,⟨?_,?_,?_,?_,?_,?_,?_,?_,?_,trivial⟩,?_⟩;all_goals (intro D bw;intros;rename_i wx xD wV yn xL yr AF xA Z a3;have a:=a3.1;obtain ⟨⟨co,cn,bP,cj,cA,bQ,bO,cM,de,_⟩,⟨M,V,G,l,Y,J⟩⟩:=a3)
    ·obtain rfl:M=0:=Af G bw;refine abH J fP fun v Z J=>?_;exact ⟨a.set 0 (by first|assumption|trivial),1,by decide,rfl,(by first|exact l|rfl),(by first|exact Y|rfl),J⟩
    apply ah eD;rotate_left
    obtain rfl:=cn ‹_›;obtain ⟨S5,cv,R,a6,f⟩:=J.inv;refine aD f 0 er e4 rfl ?_;rotate_left
    ·have j2:=co ‹_›;obtain rfl:=bP ‹_›;obtain rfl:M=1:=iY G ‹D 0=true› l bw;refine abw chM J fP (by omega) h3 chL chO (by omega) (by omega) fun v Z J=>?_;exact ⟨a.set 3 (by first|assumption|trivial),2,by decide,(by first|exact G|rfl),rfl,(by first|exact Y|rfl),J⟩
    obtain ⟨S5,cv,R,a6,f⟩:=J.inv;refine av f 4 eE k0 rfl ?_;rotate_left
    obtain rfl:=cA ‹_›;refine aaV chM J fP (by omega) (by omega) rfl k1 chL fun v Z J=>?_;rotate_left
    ·have SV:=cj ‹_›;have PS:=bQ ‹_›;obtain rfl:M=2:=iY l ‹D 3=true› Y bw;refine aaW chM J ‹D 5=true› fP (by omega) chL chO (by omega) (by omega) fun v Z J=>?_;exact ⟨a.set 6 (by first|assumption|trivial),3,by decide,(by first|exact G|rfl),(by first|exact l|rfl),rfl,J⟩
    apply ah eD;rotate_left
    obtain rfl:=cM ‹_›;have Ky:=bO ‹_›;have h4:=pH V Y ‹D 6=true›;have e8:=J;rw [h4] at e8;rw [bw] at e8;refine abo (C:=fun cv=>#[gv,kvU g (c.binds.length+m) cap,cv]) (fun _=>rfl) e8 er (fun _ _=>rfl) (fun _=>show 2<3 by decide) fun Z i1=>?_;have J:apP w [] (fun cv=>[B4,B5,B6,B9,B14]++[ay b1 #[gv,kvU g (c.binds.length+m) cap,cv] cF]) (.slice a4 s.chs.length a5) dp 7 RdCh s.chs mc S4 (aC D 8 5) (aC D 8 8) xA xL wV xD Z M:=by rw [h4];exact i1
    rotate_left
    all_goals try exact ⟨a.set _ (by first|rfl|assumption|trivial),M,V,G,l,Y,J⟩
    obtain rfl:M=3:=pH V Y ‹D 6=true›;have Dc:D 8=true:=by assumption
    clear G l Y;rw [Dc] at J;obtain ⟨S5,cv,a6,c2,f⟩:=J.fin;exact ⟨S5,cv,a6,c2,f.pick [true,true,true,true,false,true]⟩
   ·have h5:c.left.drop (j+1)=[]:=iy (by rw [nJ];omega);rw [ai h5,dc];exact ⟨S4,_,Ext.refl _ _ _,d4.monoCh a7.1,f⟩
  (iterate 27 intro);intro w';rintro ⟨S5,cv,a6,c2,f⟩;apply av f 4 cO rfl rfl;have f0:∀ x∈([gv,kvU g (c.binds.length+m) cap,cv]:hZ),x.oneCell'=true:=by
   intro x hx;simp only [cw,ic,g9] at hx;rcases hx with rfl|rfl|rfl
   ·exact e1.sl
   ·rfl
   ·exact c2.sl
  refine aq (cs:=#[gv,kvU g (c.binds.length+m) cap,cv]) f 2 e6 cO rfl rfl f0 fun w' f=>?_;apply bm f 2 cO rfl rfl;refine ⟨_,[],S5,rfl,f.nil,a7.trans a6,rfl,_,rfl,gv,_,cv,rfl,?_,j6.monoO (a0.trans a6).1,c2⟩;simp only [O3,qk];rw [c8] at e1;exact e1.monoG a6.1
 ·have:j=c.left.length:=by omega
  subst this;rw [dY] at hT;cases hT;refine av f 0 cO e4 rfl (aq (cs:=#[gs,sb,.slice a4 s.chs.length a5]) f 2 e6 cO rfl rfl (by simpa using hs.one) fun w' f=>?_);apply bm f 2 cO rfl rfl;exact ⟨_,[],S1,rfl,f.nil,hE,rfl,_,rfl,(hs.mono hE.1)⟩
end
end
section
open Go Go.RowKit
theorem TryL.left {p:List C} {chs:List Ch} {c:Ch} {l:List Int} {o:Option St6} (h:TryL p chs c l o) (g:List Int):TryL p chs ⟨c.goal,c.rest,g,c.binds⟩ l o:=by
 induction h with
 | nil=>exact .nil
 | hit a f=>exact .hit (c:=⟨c.goal,c.rest,g,c.binds⟩) a f
 | miss a f _ i=>exact .miss a f i
theorem FirstL.inv {p:List C} {chs:List Ch} {c:Ch} {x:Int} {l:List Int} {o:Option (St6 × Int × List Int)} (h:FirstL p chs c (x::l) o) :
  ∃ a,TryL p chs c [x] a/\((∃ s,a=some s/\o=some (s,x,l)) ∨ (a=none/\FirstL p chs c l o)):=by
 cases h with
 | hit h=>exact ⟨_,h,.inl ⟨_,rfl,rfl⟩⟩
 | miss f g=>exact ⟨_,f,.inr ⟨rfl,g⟩⟩
def ach (s:St6) (o:Option (St6 × Int × List Int)):Value->List Item->ae->Prop:=fun q I' S'=>I'=[]/\∃ (cs:List Value) (lv:Value),q=.tuple #[.agg cs.toArray,ax (o.elim (-1) (·.2.1)),lv,.bool o.isSome]/\
 RdS6 S' cs (o.elim s (·.1))/\RdSl S' 1 gW lv (o.elim [] (·.2.2))
section
variable {P:Program} {w w0:World} {X:List Nat} {L:List Item} {S:ae} {K:Value->World->Prop}
theorem Vb {α:Type} {R:hZ->α->Prop} {xs:List α} {u:Value} {T ty e:TypeId} {k l:Nat} (j:dt P T=some (e,k)) (f:RdSl S k R u xs) (hl:l<xs.length)
  (hk:∀ i,RdSl S k R i [xs[l]]->K i w):Run P (sOp (.slice T (.const u) (some (.const (ax l))) (some (.const (ax ((l+1:Nat):Int)))) none) ty) w K:=by
 obtain ⟨a,cap,rfl,m,hc,o⟩:=id f;have g:=f.to (show l+1<=xs.length by omega);have e:(if cap=0 then a else a.map (·.add (0 * k)))=a:=by
  split
  ·rfl
  ·cases a <;> simp [Addr.add]
 rw [e] at g;have q:(xs.take (l+1)).length=l+1:=by rw [ey];omega
 have h:=g.from (l:=l) (by omega);have e2:(xs.take (l+1)).drop l=[xs[l]]:=by
  rw [gh hl];exact List.drop_left' (by rw [ey];omega)
 rw [e2] at h;exact abb j (by omega) (by omega) (hk _ h)
end
section
set_option maxHeartbeats 1000000 in
theorem HO {p:List C} (hp:∀ cl∈p,BF cl) {k:Nat} (hk:k<=1000) {c:Ch} (hc:od c) (hr:okRk k c) {s:St6} {o:Option (St6 × Int × List Int)} (h:FirstL p s.chs c c.left o) (hn:s.chs.length<=1000)
  {S:ae} {u:Value} {ss cs:hZ} (hP:RdSl S 5 (RdC S) u p) (hs:RdS6 S ss s) (a1:RdCh S cs c):kt PQ [u,.agg ss.toArray,.agg cs.toArray] [] S (ach s o):=by
 intro w f;have c3:=hs.length;obtain ⟨gs,sb,sc,rfl,d9,e0,e1⟩:=id hs;obtain ⟨hd,rv,lv,bv,rfl,a4,b3,q,b7⟩:=id a1;obtain ⟨la,lc,rfl,_⟩:=id q;have a9:=a4;obtain ⟨kv,rfl,_⟩:=RdT.iff.1 a4;have b9:=q.le;simp only [maxLen] at b9;apply zf.2;dsimp only[zf,dR];refine bq f fun b4 w' f=>?_;refine bq f fun b5 w' f=>?_;refine aG f jm fun b6 w' f=>?_;obtain ⟨B4,a5⟩:∃ B:Item,B=ay b4 #[gs,sb,sc] cF:=⟨_,rfl⟩
 obtain ⟨B5,a6⟩:∃ B:Item,B=ay b5 #[ax c.goal.kind,ax c.goal.n,.string c.goal.name,kv,rv,.slice la c.left.length lc,bv] dp:=⟨_,rfl⟩
 obtain ⟨B6,U⟩:∃ B:Item,B=ay b6 zSt cF:=⟨_,rfl⟩
 have e4:=congrArg some a5;have e5:=congrArg some a6;have e6:=congrArg some U;have f:Inv w [] [B4,B5,B6] S w':=by rw [a5,a6,U];exact f
 refine ⟨fun i w'=>∃ (j:Nat) (S1:ae),j<=c.left.length/\i=ax j/\FirstL p s.chs c (c.left.drop j) o/\Ext w.heap.size [] S S1/\Inv w [] [B4,B5,B6] S1 w',
  fun i _=>c.left.length - (intOf i).toNat,⟨0,S,bf _,rfl,h,Ext.refl _ _ _,f⟩,?_⟩
 intro c4 _ _ t9 t8 t7 c5 c6 c7 c8 c9 d0 d1 d2 d3 d4 d6;(iterate 24 intro);intro w';rintro ⟨j,S1,hj,rfl,hT,G,f⟩;refine ad f 1 e5 eB ft rfl (aI q cU (bM (aJ (fun b2=>?_) (fun b2=>?_))))
 ·have t:j<c.left.length:=by omega
  rw [dB t] at hT;obtain ⟨o1,ht,V⟩:=hT.inv;refine av f 1 eE e5 rfl (aG f om fun r w' f=>?_);refine aq f 3 rfl eE rfl rfl (by simpa using a1.one) fun w' f=>?_;have f:Inv w [] [B4,B5,B6,ay r #[ax c.goal.kind,ax c.goal.n,.string c.goal.name,kv,rv,.slice la c.left.length lc,bv] dp] S1 w':=f;refine ad f 1 e5 eB ft rfl (bA (by omega) ?_);rw [show ((j:Int)+1)=((j+1:Nat):Int) by omega];refine Vb cU q t fun l1 O=>?_;refine cX f 3 rfl eB ft rfl (by obtain ⟨a,m,rfl,_⟩:=O;rfl) O.sl fun w' f=>?_;have f:Inv w [] [B4,B5,B6,ay r #[ax c.goal.kind,ax c.goal.n,.string c.goal.name,kv,rv,l1,bv] dp] S1 w':=f;refine av f 0 cO e4 rfl (av f 3 eE rfl rfl ?_);have b0:RdCh S1 [ax c.goal.kind,ax c.goal.n,.string c.goal.name,kv,rv,l1,bv] ⟨c.goal,c.rest,[c.left[j]],c.binds⟩:=
   ⟨_,_,_,_,rfl,a9.mono G.1,b3.monoG G.1,O.mono G.1 fun _ _ h=>h,b7.monoO G.1⟩
  refine Run.call0E UU Vv f (Sb hp hk (c:=⟨c.goal,c.rest,[c.left[j]],c.binds⟩) ⟨hc.good,hc.goal,hc.rest⟩ ⟨hr.nb,hr.nr,hr.tab,hr.goal,hr.rest,hr.pos⟩ (ht.left _) hn (hP.monoC G.1) (hs.mono G.1) b0) fun v' I' S2 w'=>?_;rintro ⟨rfl,ns,rfl,J⟩ b1 f;have l:=G.trans b1;have M:=J.length;refine al (v:=.agg ns.toArray) rfl (al (v:=.bool o1.isSome) rfl (aG f jm fun a3 w' f=>?_));have f:Inv w [] [B4,B5,B6,ay r #[ax c.goal.kind,ax c.goal.n,.string c.goal.name,kv,rv,l1,bv] dp,ay a3 zSt cF] S2 w':=f;refine aq f 4 rfl cO (by simpa using M) rfl (by simpa using J.one) fun w' f=>?_;obtain ⟨B12,N⟩:∃ B:Item,B=ay a3 ns.toArray cF:=⟨_,rfl⟩
  have c0:=congrArg some N;have f:Inv w [] [B4,B5,B6,B12] S2 w':=by rw [N];exact f.pick [true,true,true,false,true]
  rcases V with ⟨s1,rfl,rfl⟩|⟨rfl,hT⟩
  ·refine aE (fun _=>?_) (fun hb=>by cases hb);obtain ⟨lb,lo,e2,a7,lE,e3,a8,Y,Z⟩:=q.at_ t;have c1:la=some ⟨lb,lo,none⟩:=by
    simp only [Value.slice.injEq] at a8;exact a8.1
   have c2:∀ {ty:TypeId} {K:Value->World->Prop} {w':World},K (eu lb (lo+j * 1)) w'->Run Tryz.prog (sOp (.indexAddr tg (.const (.slice la c.left.length lc)) (.const (ax j))) ty) w' K:=fun hk=>by rw [c1];exact az cU t hk
   have Z:aO a7 (lo+j * 1) 1=[ax c.left[j]]:=Z;have a0:a7[lo+j * 1]?=some (ax c.left[j]):=aA Z 0 _ rfl;have Y:=l.1 _ _ Y;rw [U] at f;have e7:=f;refine ⟨fun D x9 x8 x7 lL oF nz pD mn nj lS oC j7 jt oH w_=>Fx D 0 [oH=.agg ns.toArray,jt=eu b5 5,j7=.slice la c.left.length lc,oC=ax (j:Int),lS=eu lb (lo+j * 1),nj=ax c.left[j],mn=eu b5 5,pD=.slice la c.left.length lc,nz=ax (j:Int),oF=ax ((j+1:Nat):Int),RdSl S 1 gW lL (c.left.drop (j+1)),True,x7=ax c.left[j],RdSl S 1 gW x8 (c.left.drop (j+1)),x9=.bool true]/\Inv w [] [B4,B5,ay b6 (cond (D 11) ns.toArray zSt) cF,B12] S2 w_,⟨Fx.nil _ _,f.draw⟩,⟨?_,?_,?_,?_,?_,?_,?_,?_,?_,?_,?_,?_,?_,?_,?_,trivial⟩,?_⟩;all_goals (intro D bw;intros;rename_i x9 x8 x7 lL oF nz pD mn nj lS oC j7 jt oH w_ a2;have g:=a2.1;obtain ⟨⟨co,cn,bP,cj,cA,bQ,bO,cM,de,dv,bU,cC,cY,dK,dd,_⟩,f⟩:=a2)
   ·refine av f 3 cO c0 (by simpa using M) ?_;exact ⟨g.set 0 rfl,f⟩
   ·apply ah eB;exact ⟨g.set 1 rfl,f⟩
   ·cases cn ‹_›;apply aD f 1 ft e5 rfl;exact ⟨g.set 2 rfl,f⟩
   ·exact ⟨g.set 3 rfl,f⟩
   ·cases bP ‹_›;cases cj ‹_›;apply c2;exact ⟨g.set 4 rfl,f⟩
   ·cases cA ‹_›;refine cS aw ((f.cellS Y).trans a0) ?_;exact ⟨g.set 5 rfl,f⟩
   ·apply ah eB;exact ⟨g.set 6 rfl,f⟩
   ·cases bO ‹_›;apply aD f 1 ft e5 rfl;exact ⟨g.set 7 rfl,f⟩
   ·exact ⟨g.set 8 rfl,f⟩
   ·cases de ‹_›;refine bA (by omega) ?_;rw [show ((j:Int)+1)=((j+1:Nat):Int) by omega];exact ⟨g.set 9 rfl,f⟩
   ·cases cM ‹_›;cases dv ‹_›;refine ju cU q (by omega) fun v' d7=>?_;exact ⟨g.set 10 (by first|assumption|trivial),f⟩
   ·cases co ‹_›;rw [bw] at f;refine aq f 2 rfl cO (by simpa using M) rfl (by simpa using J.one) fun w_ f=>?_;exact ⟨g.set 11 trivial,f⟩
   ·cases bQ ‹_›;exact ⟨g.set 12 rfl,f⟩
   ·have xE:=bU ‹_›;have xE:=bU ‹D 10=true›;exact ⟨g.set 13 (by first|assumption|trivial),f⟩
   ·exact ⟨g.set 14 rfl,f⟩
   obtain ⟨rfl,rfl,rfl,rfl,rfl,rfl,rfl,rfl,rfl,rfl,xE,_,rfl,b8,rfl,_⟩:=g.all;have nH:D 11=true:=by assumption
   clear g;rw [nH] at f;refine bm f 2 cO rfl (by simpa using M) ?_;exact ⟨_,[],S2,rfl,f.nil,l,rfl,ns,_,rfl,J,b8.mono l.1 fun _ _ h=>h⟩
  ·refine aE (fun hb=>by cases hb) (fun _=>?_);refine bA (by omega) ?_;exact ⟨⟨j+1,S2,t,rfl,hT,l,f.pick [true,true,true]⟩,by simp [intOf];omega⟩
 ·have:j=c.left.length:=by omega
  subst this;rw [dY] at hT;cases hT;refine av f 0 cO e4 rfl (aq (cs:=#[gs,sb,sc]) f 2 e6 cO rfl rfl (by simpa using hs.one) fun w' f=>?_);apply bm f 2 cO rfl rfl;exact ⟨_,[],S1,rfl,f.nil,G,rfl,_,_,rfl,hs.mono G.1,RdSl.nil0 ..⟩
end
end
section
open Go Go.RowKit
def anP {α:Type} (w0:World) (X:List Nat) (A:List Item) (T:TypeId) (k:Nat) (R:ae->List Value->α->Prop) (xs:List α) (y:α) (S0:ae) (Tn:TypeId) (z:Array Value) (Q:ae->Value->Prop)
  (d5 db da ds:Bool) (v0 v1 v5 v2 vb x:Value) (w:World) (n:Nat):Prop:=
 ∃ S1 b q,Ext w0.heap.size X S0 S1/\(d5=true->RdSl S1 k (R S1) v5 [y])/\(db=true->Q S1 vb)/\(da=true->x=ee b)/\(ds=true->da=true)/\(ds=false->q=z)/\(ds=true->Q S1 (.agg q))/\
  apC w0 X (A++cond da [ay b q Tn] []) T k R xs y S1 v0 v1 v2 w n
section
variable {α:Type} {P:Program} {w0 w:World} {X:List Nat} {A:List Item} {e:TypeId} {k:Nat} {R:ae->List Value->α->Prop} {xs:List α} {y:α} {S0:ae} {Tn:TypeId} {z:Array Value} {Q:ae->Value->Prop}
 {d5 db da ds:Bool} {v0 v1 v5 v2 vb x:Value} {n:Nat} {K:Value->World->Prop}
theorem anP.mk {S:ae} (h:Inv w0 X A S w) (v0 v1 v5 v2 a x:Value):anP w0 X A e k R xs y S Tn z Q false false false false v0 v1 v5 v2 a x w 0:=
 ⟨S,0,z,Ext.refl _ _ _,fun h=>(by cases h),fun h=>(by cases h),fun h=>(by cases h),fun h=>(by cases h),fun _=>rfl,fun h=>(by cases h),by rw [cond_false,dc];exact h⟩
theorem anP.inv (h:anP w0 X A e k R xs y S0 Tn z Q d5 db da ds v0 v1 v5 v2 vb x w n):∃ S1 B,Ext w0.heap.size X S0 S1/\Inv w0 X (A++B) S1 w:=by
 obtain ⟨S1,b,q,f,_,_,_,_,_,_,g⟩:=h;obtain ⟨B,a⟩:=g.inv;exact ⟨S1,_,f,by rw [eY] at a;exact a⟩
theorem anP.fin (h:anP w0 X A e k R xs y S0 Tn z Q d5 db true true v0 v1 v5 v2 vb x w 3):∃ S1 b q,Ext w0.heap.size X S0 S1/\x=ee b/\Q S1 (.agg q)/\Inv w0 X (A++[ay b q Tn]) S1 w:=by
 obtain ⟨S1,b,q,a,_,_,f,_,_,g,i⟩:=h;exact ⟨S1,b,q,a,f rfl,g rfl,i.2⟩
theorem anP.res (h:anP w0 X A e k R xs y S0 Tn z Q d5 db da ds v0 v1 v5 v2 vb x w 3):∃ a m,v2=.slice a (xs++[y]).length m:=by
 obtain ⟨S1,b,q,_,_,_,_,_,_,_,⟨a,m,rfl,_⟩,_⟩:=h;exact ⟨a,m,rfl⟩
theorem anP.bld (h:anP w0 X A e k R xs y S0 Tn z Q d5 db da ds v0 v1 v5 v2 vb x w 3) {vb':Value} (g:∀ S1,Ext w0.heap.size X S0 S1->RdSl S1 k (R S1) v2 (xs++[y])->Q S1 vb'):anP w0 X A e k R xs y S0 Tn z Q d5 true da ds v0 v1 v5 v2 vb' x w 3:=by
 obtain ⟨S1,b,q,a,i,_,j,l,m,o,f,r⟩:=h;exact ⟨S1,b,q,a,i,fun _=>g S1 a f,j,l,m,o,f,r⟩
theorem anP.val (h:anP w0 X A e k R xs y S0 Tn z Q d5 db da ds v0 v1 v5 v2 vb x w n) (hd:db=true):∃ S1,Q S1 vb:=by
 obtain ⟨S1,b,q,_,_,a,_⟩:=h;exact ⟨S1,a hd⟩
theorem an0 {T:TypeId} {by_:Nat} {a:Value} (h:anP w0 X A e k R xs y S0 Tn z Q d5 db da ds v0 v1 v5 v2 vb x w 0) (f:iP P T=some (e,k,by_,a))
  (hk:∀ v w',anP w0 X A e k R xs y S0 Tn z Q d5 db da ds v v1 v5 v2 vb x w' 1->K v w'):Run P (bY T 0 []) w K:=by
 obtain ⟨S1,b,q,g,i,j,l,m,o,r,t⟩:=h;exact ac3 t f fun v w' h=>hk v w' ⟨S1,b,q,g,i,j,l,m,o,r,h⟩
theorem an3 {T ty:TypeId} {by_:Nat} {j u:Value} {cs:List Bool} (hR:∀ S S' cs x,Sle S S'->R S cs x->R S' cs x) (h:anP w0 X A e k R xs y S0 Tn z Q d5 db da ds v0 v1 v5 v2 vb x w 1) (l:iP P T=some (e,k,by_,j)) (f:0<k) (m:RdSl S0 k (R S0) u xs)
  (a:∀ S cs y,R S cs y->cs.length=k) (o:∀ S cs y,R S cs y->∀ c∈cs,c.oneCell'=true) (hl:xs.length<=4294967296) (g:by_<=32768)
  (hk:∀ v w',anP w0 X A e k R xs y S0 Tn z Q d5 db da ds v0 v v5 v2 vb x w' 2->K v w'):Run P (ce .append #[T,T] ty cs [v0,u]) w K:=by
 obtain ⟨S1,b,q,i,r,t,B,D,G,J,M⟩:=h;exact adO M l f (m.mono i.1 fun _ _ h=>hR _ _ _ _ i.1 h) (a S1) (o S1) hl g fun v w' h=>hk v w' ⟨S1,b,q,i,r,t,B,D,G,J,h⟩
theorem an5 {T:TypeId} {by_:Nat} {G:Value} {cs:hZ} (hR:∀ S S' cs x,Sle S S'->R S cs x->R S' cs x) (o:∀ S S' v,Sle S S'->Q S v->Q S' v) (h:anP w0 X A e k R xs y S0 Tn z Q d5 db da ds v0 v1 v5 v2 vb x w n) (J:iP P T=some (e,k,by_,G)) (m:0<k) (f:k<=65536)
  {v:Value} (g:v.cells=cs.toArray) (r:R S0 cs y) (i:∀ S cs y,R S cs y->cs.length=k)
  (hk:∀ v w',anP w0 X A e k R xs y S0 Tn z Q true db da ds v0 v1 v v2 vb x w' n->K v w'):Run P (bY T 1 [(0,v)]) w K:=by
 obtain ⟨S1,M,q,t,h2,N,O,U,V,Y,Z⟩:=h;obtain ⟨B,j,a⟩:=Z.ex hR;have hl:=i _ _ _ r;refine dQ j J (by rw [g];simpa using hl) f m fun b w' j=>?_;obtain ⟨S2,j,l,D⟩:=Inv.pub1 j;rw [g] at D;exact hk _ w' ⟨S2,M,q,t.trans l,fun _=>RdSl.single D hl (hR _ _ _ _ (t.trans l).1 r),fun e=>o _ _ _ l.1 (N e),O,U,V,fun e=>o _ _ _ l.1 (Y e),a _ S2 w' l.1 j⟩
theorem an6 {T ty:TypeId} {by_:Nat} {m:Value} {cs:List Bool} (hR:∀ S S' cs x,Sle S S'->R S cs x->R S' cs x) (j:∀ S S' v,Sle S S'->Q S v->Q S' v) (h:anP w0 X A e k R xs y S0 Tn z Q d5 db da ds v0 v1 v5 v2 vb x w 2) (hd:d5=true) (o:iP P T=some (e,k,by_,m)) (g:0<k)
  (a:∀ S cs y,R S cs y->cs.length=k) (r:∀ S cs y,R S cs y->∀ c∈cs,c.oneCell'=true) (hl:xs.length+1<=4294967296) (i:by_<=32768)
  (hk:∀ v w',anP w0 X A e k R xs y S0 Tn z Q d5 db da ds v0 v1 v5 v vb x w' 3->K v w'):Run P (ce .append #[T,T] ty cs [v1,v5]) w K:=by
 obtain ⟨S1,b,q,t,l,B,D,G,J,M,N⟩:=h;exact aei hR N o g (l hd) (a S1) (r S1) hl i fun v S' w' f h=>hk v w' ⟨S',b,q,t.trans f,fun e=>(l e).mono f.1 fun _ _ h=>hR _ _ _ _ f.1 h,fun e=>j _ _ _ f.1 (B e),D,G,J,fun e=>j _ _ _ f.1 (M e),h⟩
theorem anP.alloc {ty:TypeId} {j:Value} (hR:∀ S S' cs x,Sle S S'->R S cs x->R S' cs x) (h:anP w0 X A e k R xs y S0 Tn z Q d5 db da ds v0 v1 v5 v2 vb x w n) (hd:da=false) (m:fY P Tn=some j) (f:j.cells=z)
  (hk:∀ v w',anP w0 X A e k R xs y S0 Tn z Q d5 db true ds v0 v1 v5 v2 vb v w' n->K v w'):Run P (sOp (.alloc Tn) ty) w K:=by
 obtain ⟨S1,b,q,o,r,t,G,D,J,M,l⟩:=h;have i:ds=false:=bN.2 fun e=>by rw [D e] at hd;cases hd
 rw [hd,cond_false,dc] at l;obtain ⟨B,g,a⟩:=l.ex hR;refine aG g m fun b w' g=>hk _ w' ⟨S1,b,z,o,r,t,fun _=>rfl,fun _=>rfl,fun _=>rfl,fun e=>(by rw [i] at e;cases e),?_⟩;rw [cond_true,<- f];refine a _ S1 w' (Sle.refl _) (g.perm ?_);rw [eY,eY];exact yj _ cT
theorem anP.store {ty:TypeId} {m:Nat} {cs:Array Value} (hR:∀ S S' cs x,Sle S S'->R S cs x->R S' cs x) (h:anP w0 X A e k R xs y S0 Tn z Q d5 db da ds v0 v1 v5 v2 vb x w n) (hd:da=true) (t:ds=false) (D:oE P Tn=some m) (hn:cs.size=m) (G:z.size=m)
  (g:∀ u∈cs.toList,u.oneCell'=true) (i:db=true) (j:vb=.agg cs)
  (hk:∀ w',anP w0 X A e k R xs y S0 Tn z Q d5 db da true v0 v1 v5 v2 vb x w' n->K undef w'):Run P (sOp (.store Tn (.const x) (.const (.agg cs))) ty) w K:=by
 obtain ⟨S1,b,q,J,M,l,o,U,N,V,r⟩:=h;rw [hd,cond_true,N t] at r;rw [o hd];obtain ⟨B,f,a⟩:=r.ex hR;have O:(A++[Item.blk b (.cells z Tn)]++B)[A.length]?=some (ay b z Tn):=by simp
 refine aq (E:=Tn) f A.length O D hn G g fun w' f=>?_;have e2:(A++[Item.blk b (.cells z Tn)]++B).set A.length (ay b cs Tn)=A++[ay b cs Tn]++B:=by simp
 rw [e2] at f;refine hk w' ⟨S1,b,cs,J,M,l,o,fun _=>hd,fun e=>(by cases e),fun _=>j ▸ l i,?_⟩;rw [hd,cond_true];exact a _ S1 w' (Sle.refl _) f
end
end
end Go.Proofs.YtellfcpffcipcaaGreatDoor

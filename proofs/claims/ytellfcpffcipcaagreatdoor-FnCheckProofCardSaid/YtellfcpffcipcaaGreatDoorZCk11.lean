/- spec.l4Mutate, l4MutateAll. -/
import Derived.Test.YtellfcpffcipcaaGreatDoorZCkA
import Derived.Test.YtellfcpffcipcaaGreatDoorZCk10
namespace Go.Proofs.YtellfcpffcipcaaGreatDoor
attribute [local irreducible] Run CondV aF aT
section
open Go Go.RowKit
section
variable {w0 w:World} {X:List Nat} {L A:List Item} {S:ae} {K:Value->World->Prop} {P:Program}
theorem Is {b:Nat} {hd:hZ} {h:T} {kv:Value} {css:List (hZ)} {g:List T} {o:Obj}
  (a:Inv w0 X (.blk b o::aK kv ab 4 css::A) S w) (hR:Rows 4 (RdT S) css g) (l:RdT S hd h) :
  ∃ S',Ext w0.heap.size X S S'/\Inv w0 X (.blk b o::A) S' w/\RdC S' (hd++[kv]) ⟨h,g⟩/\RdSl S' 4 (RdT S') kv g:=by
 have a:Inv w0 X ((.blk b o::A)++[aK kv ab 4 css]) S w:=a.last 1 rfl;obtain ⟨S',i,j,a⟩:=Inv.lendExt a;have f:=RowRd.rows (hR.monoR fun _ _ h=>RdT.mono i.1 h) j;exact ⟨S',i,a,⟨hd,kv,rfl,l.mono i.1,f⟩,f⟩
end
abbrev acj (br:Nat) (sl:Value) (p k m:Nat):Value->List Item->ae->Prop:=fun v I' S'=>∃ p',p'<=p+k/\I'=[rdI br sl p']/\∃ cs c,v=.agg cs.toArray/\RdC S' cs c/\wC c<=m
section
variable {br:Nat} {sl:Value} {ys:List Nat}
theorem JB {p:Nat} {S:ae} {cs:hZ} {c:C} (a8:RdSl S 1 nZ sl ys) (h:RdC S cs c) (hw:wC c<=100000) (hp:p<=90000000) :
  kt NW [rdP br,.agg cs.toArray] [rdI br sl p] S (acj br sl p 600 (wC c+700)):=by
 intro w f;have d6:=h.length;apply yz.2;dsimp only[yz,bl];refine bq f fun b3 w' f=>?_;refine aG f fj fun b4 w' f=>?_;refine av f 1 bR rfl (by simpa [Value.cells] using d6) (Run.call0E E9 EN f (XW h (by omega)) fun v' I' S1 w'=>?_);rintro ⟨hd,kv,css,rfl,a7,rfl,hR⟩ O f;have O:Ext w.heap.size [br] S S1:=O;obtain ⟨a0,n0,q0,rfl⟩:=f.rowSlice 3 rfl;have a4:=a7;obtain ⟨k4,rfl,hk,hn,hs,_⟩:=RdT.iff.1 a7;obtain ⟨ak,nk,ck,d2⟩:∃ a n c,k4=.slice a n c:=by
  obtain ⟨_,e,_,_,_,a,q,rfl,_⟩:=RdT.iff.1 a4;simp only [gV,i0,vH] at e;exact ⟨_,_,_,e⟩
 subst d2;refine aG f fj fun Z w' f=>?_;refine aq f 4 rfl bR rfl rfl (by simp [Value.oneCell']) fun w' f=>?_;obtain ⟨B4,c5⟩:∃ B4,B4=Item.blk b4 (.cells eb aB):=⟨_,rfl⟩
 have f:Inv w [br] [ay Z #[ax c.head.kind,ax c.head.n,.string c.head.name,.slice ak nk ck,.slice a0 n0 q0] aB,aK (.slice a0 n0 q0) ab 4 css,B4,rdI br sl p] S1 w':=by
  rw [c5];exact (((f.pick [true,false,true,true,true]).last 2 rfl).last 1 rfl).last 0 rfl
 have f6:wC c=wT c.head+c.body.length+wL c.body:=rfl;refine ⟨fun w'=>∃ (p1:Nat) (S2:ae) (a6:hZ) (c1:C),p1<=p+600/\Ext w.heap.size [br] S S2/\RdC S2 a6 c1/\wC c1<=wC c+700/\Inv w [br] [ay Z a6.toArray aB,B4,rdI br sl p1] S2 w',?_,?_⟩
 ·have a5:∀ {hd:hZ} {h:T} {p1:Nat} {w':World} {S1:ae} {css:List (hZ)} {kv:Value} {ks:List T},Ext w.heap.size [br] S S1->p1<=p+600->RdT S1 hd h->Rows 4 (RdT S1) css ks->wT h+ks.length+wL ks<=wC c+700->
    Inv w [br] [ay Z (hd++[kv]).toArray aB,aK kv ab 4 css,B4,rdI br sl p1] S1 w'->
    ∃ (p1:Nat) (S2:ae) (a6:hZ) (c1:C),p1<=p+600/\Ext w.heap.size [br] S S2/\RdC S2 a6 c1/\wC c1<=wC c+700/\Inv w [br] [ay Z a6.toArray aB,B4,rdI br sl p1] S2 w':=by
   intro hd h p1 w' S1 css kv ks hE b7 hh hR c8 f;obtain ⟨S2,N,f,hr,_⟩:=Is f hR hh;exact ⟨p1,S2,_,_,b7,hE.trans N,hr,c8,f⟩
  refine Run.callL cG cH f (dU (n:=40) (a8.monoU O.1) (by omega) (by omega)) rfl fun v' I' S1 w'=>?_;rintro ⟨rfl,rfl,kk,e5,rfl⟩ _ f;refine bn (aJ (fun _=>?_) (fun _=>?_))
  ·refine Run.callL FV EQ f (Bh (p:=p+1) (a8.monoU O.1) (by omega)) rfl fun v' I' S2 w'=>?_;rintro ⟨p2,c2,rfl,b8,t2,rfl,a9,b9⟩ N f;refine Run.callL qV qQ f (oY (p:=p2) (a8.monoU (O.trans N).1) a9 (by omega) (by omega)) rfl fun v' I' S3 w'=>?_;rintro ⟨p3,c3,rfl,c4,t3,rfl,b0,c9⟩ V f;have c6:=b0;obtain ⟨k3,rfl,_,_,_,a3,q3,rfl,_⟩:=RdT.iff.1 b0;refine ah dl (rX f 0 rfl ac rfl rfl (by simp [Value.cells,Value.oneCell']) fun w' f=>?_);exact a5 ((O.trans N).trans V) (by omega) c6 (hR.monoR fun _ _ h=>RdT.mono (N.trans V).1 h) (by omega) f
  refine bn (aJ (fun _=>?_) (fun _=>?_))
  ·have d7:=hR.hc;have f:=f;refine ⟨fun D pp oR iU pj vz tU qX nX pu w_=>Fx D 0 [pu=eu Z 4,nX=.slice a0 n0 q0,qX=rdP br,tU=rdP br,True,True,True,True,pp=eu Z 4,True]/\∃ G:Nat,G<=5/\D 4=decide (1<=G)/\D 5=decide (2<=G)/\D 6=decide (3<=G)/\D 7=decide (4<=G)/\D 9=decide (5<=G)/\(D 9=true->D 1=true)/\(wd (Inv w [br] [ay Z #[ax c.head.kind,ax c.head.n,.string c.head.name,.slice ak nk ck,.slice a0 n0 q0] aB,aK (.slice a0 n0 q0) ab 4 css,B4,rdI br sl (p+1)] S1 w_) (wd (∃ p1 S2 cs t,vz=.agg cs.toArray/\RdT S2 cs t/\wT t<=500/\p1<=p+501/\Ext w.heap.size [br] S1 S2/\Inv w [br] [ay Z #[ax c.head.kind,ax c.head.n,.string c.head.name,.slice ak nk ck,.slice a0 n0 q0] aB,aK (.slice a0 n0 q0) ab 4 css,B4,rdI br sl p1] S2 w_) (GD w [br] Z #[ax c.head.kind,ax c.head.n,.string c.head.name,.slice ak nk ck,.slice a0 n0 q0] 4 aB (.slice a0 n0 q0) css (fun p=>[B4,rdI br sl p]) (fun cs p' S'=>∃ t,RdT S' cs t/\wT t<=600/\p'<=p+503/\Ext w.heap.size [br] S1 S') pj iU oR w_)) G),⟨Fx.nil _ _,⟨0,bf _,rfl,rfl,rfl,rfl,rfl,(aU),f.draw⟩⟩,⟨?_,?_,?_,?_,?_,?_,?_,?_,?_,?_,trivial⟩,?_⟩;all_goals (intro D bw;intros;rename_i pp oR iU pj vz tU qX nX pu w_ b1;have B:=b1.1;obtain ⟨⟨co,cn,bP,cj,cA,bQ,bO,cM,de,dv,_⟩,⟨G,Y,j,l,r,g,U,M,J⟩⟩:=b1)
   apply ah bF;rotate_left
   ·obtain rfl:=co ‹_›;have b2:=X1 U M bw;refine cS aj ((aal (fun h=>h.cellL (i:=0) rfl) (fun ⟨_,_,_,_,_,_,_,_,_,h⟩=>h.cellL (i:=0) rfl) (fun n hn h=>NX h hn) J b2).trans rfl) ?_;exact ⟨B.set 1 rfl,G,Y,j,l,r,g,U,(fun _=>rfl),J⟩
   rotate_left;rotate_left
   ·obtain rfl:=cj ‹_›;obtain rfl:G=0:=Af j bw;refine Run.callL FV EQ (L:=[.blk Z _,aK _ ab 4 css,B4,rdI br sl (p+1)]) J (Bh (p:=p+1) (a8.monoU O.1) (by omega)) rfl fun v' I' S2 w_=>?_;rintro ⟨p2,c2,rfl,b8,t2,rfl,a9,b9⟩ N f;exact ⟨B.set 4 (by first|assumption|trivial),⟨1,by decide,rfl,(by first|exact l|rfl),(by first|exact r|rfl),(by first|exact g|rfl),(by first|exact U|rfl),M,⟨p2,S2,b8,t2,rfl,a9,b9,by omega,N,f⟩⟩⟩
   ·obtain rfl:=bP ‹_›;have Ot:=cA ‹_›;obtain rfl:G=1:=iY j ‹D 4=true› l bw;obtain ⟨p2,S2,b8,t2,rfl,a9,b9,c2,N,f⟩:=M2 J;refine Run.callL qV qQ (L:=[.blk Z _,aK _ ab 4 css,B4,rdI br sl p2]) f (oY (p:=p2) (a8.monoU (O.trans N).1) a9 (by omega) (by omega)) rfl fun v' I' S3 w_=>?_;rintro ⟨p3,c3,rfl,c4,t3,rfl,b0,c9⟩ V f;exact ⟨B.set 5 (by first|assumption|trivial),⟨2,by decide,(by first|exact j|rfl),rfl,(by first|exact r|rfl),(by first|exact g|rfl),(by first|exact U|rfl),M,VV (OE ⟨t3,b0,by omega,by omega,N.trans V⟩ b0 f)⟩⟩
   ·have PS:=bQ ‹_›;obtain rfl:G=2:=iY l ‹D 5=true› r bw;refine ap1 (M2 J) fun u w_ J=>?_;exact ⟨B.set 6 (by first|assumption|trivial),3,by decide,(by first|exact j|rfl),(by first|exact l|rfl),rfl,(by first|exact g|rfl),(by first|exact U|rfl),M,VV J⟩
   ·obtain rfl:=cn ‹_›;have Ky:=bO ‹_›;obtain rfl:G=3:=iY r ‹D 6=true› g bw;refine ap2 (M2 J) (by omega) fun u w_ J=>?_;exact ⟨B.set 7 (by first|assumption|trivial),4,by decide,(by first|exact j|rfl),(by first|exact l|rfl),(by first|exact r|rfl),rfl,(by first|exact U|rfl),M,VV J⟩
   apply ah bF;rotate_left
   ·obtain rfl:=de ‹_›;have Fi:=cM ‹_›;obtain rfl:G=4:=iY g ‹D 7=true› U bw;refine ap3 (M2 J) (by simp) fun w_ J=>?_;exact ⟨B.set 9 trivial,5,by decide,(by first|exact j|rfl),(by first|exact l|rfl),(by first|exact r|rfl),(by first|exact g|rfl),rfl,(fun _=>‹D 1=true›),VV J⟩
   all_goals try exact ⟨B.set _ (by first|rfl|assumption|trivial),G,Y,j,l,r,g,U,M,J⟩
   obtain rfl:G=5:=pH Y U ‹D 9=true›;clear j l r g U;obtain ⟨p3,S7,cs,⟨t,c0,f5,c3,a2⟩,hl,f⟩:=M2 (M2 J);exact a5 (O.trans a2) (by omega) (a4.mono a2.1) ((hR.monoR fun _ _ h=>RdT.mono a2.1 h).snoc c0 hl.1) (by rw [qZ,bK,bI,cB];simp only [wL];omega) f
  refine bn (aJ (fun _=>?_) (fun _=>?_))
  ·refine ⟨fun w'=>∃ (S2:ae) (kv:Value) (css:List (hZ)) (ks:List T),Ext w.heap.size [br] S S2/\Rows 4 (RdT S2) css ks/\ks.length<=c.body.length+7/\wL ks+4 * (7 - (ks.length - c.body.length))<=wL c.body+28/\c.body.length<=ks.length/\
     RdT S2 (hJ c.head (.slice ak nk ck)) c.head/\
     Inv w [br] [ay Z #[ax c.head.kind,ax c.head.n,.string c.head.name,.slice ak nk ck,kv] aB,aK kv ab 4 css,B4,rdI br sl (p+1)] S2 w',fun w'=>7 - ER w' Z 4,⟨S1,_,css,c.body,O,hR,by omega,by omega,by omega,a4,f⟩,?_⟩
   intro e6 e7 e8 e9 f0 f1 _ _ _ _ w';rintro ⟨S2,kv,css,ks,N,hR,f2,f3,f4,a7,f⟩;obtain ⟨a1,n1,q1,rfl,d3⟩:∃ a m c,kv=.slice a m c/\m=ks.length:=by
    obtain ⟨S',_,_,_,hr⟩:=Is f hR a7;obtain ⟨a,q,rfl,_⟩:=hr;exact ⟨a,_,q,rfl,rfl⟩
   subst d3;have d9:=AP f (i:=0) (o:=4) rfl rfl;have d7:=hR.hc;refine ad f 0 rfl bF aj rfl (fJ ag (gJ (aJ (fun d1=>?_) (fun d1=>?_))))
   ·have f:=f;refine ⟨fun D j7 jt oH lK mC r7 w_=>Fx D 0 [r7=eu Z 4,mC=.slice a1 ks.length q1,True,True,True,j7=eu Z 4,True]/\∃ G:Nat,G<=4/\D 2=decide (1<=G)/\D 3=decide (2<=G)/\D 4=decide (3<=G)/\D 6=decide (4<=G)/\(D 6=true->D 1=true)/\(wd (Inv w [br] [ay Z #[ax c.head.kind,ax c.head.n,.string c.head.name,.slice ak nk ck,.slice a1 ks.length q1] aB,aK (.slice a1 ks.length q1) ab 4 css,B4,rdI br sl (p+1)] S2 w_) (GD w [br] Z #[ax c.head.kind,ax c.head.n,.string c.head.name,.slice ak nk ck,.slice a1 ks.length q1] 4 aB (.slice a1 ks.length q1) css (fun p=>[B4,rdI br sl (p+1)]) (fun cs p' S'=>p'=p/\Ext w.heap.size [br] S2 S'/\RdT S' cs (.mk 3 0 ⟨#[116,114,117,101]⟩ [])) lK oH jt w_) G),⟨Fx.nil _ _,⟨0,bf _,rfl,rfl,rfl,rfl,(aU),f.draw⟩⟩,⟨?_,?_,?_,?_,?_,?_,?_,trivial⟩,?_⟩;all_goals (intro D bw;intros;rename_i j7 jt oH lK mC r7 w_ b1;have B:=b1.1;obtain ⟨⟨co,cn,bP,cj,cA,bQ,bO,_⟩,⟨G,Y,j,l,r,g,M,J⟩⟩:=b1)
    ·apply ah bF;exact ⟨B.set 0 rfl,G,Y,j,l,r,g,M,J⟩
    ·obtain rfl:=co ‹_›;have b2:=X1 g M bw;refine cS aj ((UR (fun h=>h.cellL (i:=0) rfl) (fun n hn h=>NX h hn) J b2).trans rfl) ?_;exact ⟨B.set 1 rfl,G,Y,j,l,r,g,(fun _=>rfl),J⟩
    ·obtain rfl:G=0:=Af j bw;refine Run.call0E eA eC (L:=[.blk Z _,aK _ ab 4 css,B4,rdI br sl (p+1)]) J (fq ⟨#[116,114,117,101]⟩ (by decide) (mJ S2) (by simp)) fun v' I' S3 w_=>?_;rintro ⟨rfl,c4,rfl,b6⟩ V f;exact ⟨B.set 2 (by first|assumption|trivial),⟨1,by decide,rfl,(by first|exact l|rfl),(by first|exact r|rfl),(by first|exact g|rfl),M,OE ⟨rfl,V,b6⟩ b6 f⟩⟩
    ·have f7:=bP ‹_›;obtain rfl:G=1:=iY j ‹D 2=true› l bw;refine ap1 J fun u w_ J=>?_;exact ⟨B.set 3 (by first|assumption|trivial),2,by decide,(by first|exact j|rfl),rfl,(by first|exact r|rfl),(by first|exact g|rfl),M,J⟩
    ·obtain rfl:=cn ‹_›;have SV:=cj ‹_›;obtain rfl:G=2:=iY l ‹D 3=true› r bw;refine ap2 J (by omega) fun u w_ J=>?_;exact ⟨B.set 4 (by first|assumption|trivial),3,by decide,(by first|exact j|rfl),(by first|exact l|rfl),rfl,(by first|exact g|rfl),M,J⟩
    ·apply ah bF;exact ⟨B.set 5 rfl,G,Y,j,l,r,g,M,J⟩
    ·obtain rfl:=bQ ‹_›;have Ot:=cA ‹_›;obtain rfl:G=3:=iY r ‹D 4=true› g bw;refine ap3 J (by simp) fun w_ J=>?_;exact ⟨B.set 6 trivial,4,by decide,(by first|exact j|rfl),(by first|exact l|rfl),(by first|exact r|rfl),rfl,(fun _=>‹D 1=true›),J⟩
    obtain rfl:G=4:=pH Y g ‹D 6=true›;clear j l r g;obtain ⟨p3,S7,cs,⟨rfl,a2,c0⟩,hl,f⟩:=J;have c7:=(hR.monoR fun _ _ h=>RdT.mono a2.1 h).snoc c0 hl.1;have e4:(ByteArray.mk #[116,114,117,101]).size=4:=rfl;refine ⟨⟨S7,_,_,_,N.trans a2,c7,by rw [bK];simp only [bI,cB];omega,by rw [qZ,bK,bI,cB];simp only [wL,wT,cB,e4];omega,by rw [bK];omega,a7.mono a2.1,f⟩,?_⟩;obtain ⟨S',_,_,_,hr⟩:=Is f c7 (a7.mono a2.1);obtain ⟨a,q,e,_⟩:=hr;have e0:=AP f (i:=0) (o:=4) (a:=a) (n:=(ks++[T.mk 3 0 ⟨#[116,114,117,101]⟩ []]).length) (m:=q) rfl (by rw [<- e];rfl);show 7 - ER w_ Z 4<7 - ER w' Z 4;rw [d9,e0,bK,bI,cB];omega
   ·exact a5 N (by omega) a7 hR (by omega) f
  refine bn (aJ (fun _=>?_) (fun _=>?_))
  ·refine gT f (by kernel_rfl) rfl (by omega) fun v S3 w' V hv f=>?_;refine Run.callL mF mE f (Cn (p:=p+1) (a8.monoU (O.trans V).1) hv (by decide) (by omega)) rfl fun v' I' S3 w'=>?_;rintro ⟨rfl,rfl,m,hm,rfl⟩ _ f;have hm:=Hi (m:=7) hm (by decide);refine ah dl (ah aW (dD f 0 (n:=1) rfl (by decide +kernel) rfl (by simp) (by simp [Value.cells,Value.oneCell']) fun w' f=>?_));have e1:=a4.mono V.1;obtain ⟨k3,e3,_,_,_,d4⟩:=RdT.iff.1 e1;have e2:RdT S3 [ax c.head.kind,ax c.head.n,.string m,.slice ak nk ck] (.mk c.head.kind c.head.n m c.head.kids):=by
    simp only [gV,i0,vH] at e3;exact RdT.iff.2 ⟨_,rfl,hk,hn,by simp only [T.name,maxLen];omega,e3 ▸ d4⟩
   refine a5 (O.trans V) (by omega) e2 (hR.monoR fun _ _ h=>RdT.mono V.1 h) ?_ f;have:wT c.head=c.head.name.size+c.head.kids.length+wL c.head.kids:=by cases c.head;rw [wT];rfl
   rw [wT];omega
  ·exact a5 O (by omega) a4 hR (by omega) f
 (iterate 39 intro);intro w';rintro ⟨p1,S2,a6,c1,b7,N,hr,d0,f⟩;subst c5;refine av f 0 bR rfl (by simpa using hr.length) (aq f 1 rfl bR (by simpa using hr.length) rfl (by simpa using hr.one) fun w' f=>?_);refine bm f 1 bR rfl (by simpa using hr.length) ?_;exact ⟨_,_,S2,rfl,f.pick [false,false,true],N,p1,b7,rfl,a6,c1,rfl,hr,d0⟩
end
end
section
open Go Go.RowKit
def Light (n m:Nat) (q:List C):Prop:=q.length<=n/\∀ c∈q,wC c<=m
theorem Light.le {n m:Nat} {q:List C} (h:Light n m q):q.length+wP q<=n+n * m:=by
 have:∀ q:List C,(∀ c∈q,wC c<=m)->wP q<=q.length * m:=by
  intro q;induction q with
  | nil=>intro _;simp [wP]
  | cons c q g=>
   intro h;have a:=h c (bi ..);have f:=g fun d hd=>h d (bk _ hd);simp only [wP,bI,mi];omega
 have a:=this q h.2;have f:q.length * m<=n * m:=jw _ h.1;have:=h.1;omega
theorem Light.append {n n' m:Nat} {q a:List C} (h:Light n m q) (f:Light n' m a):Light (n+n') m (q++a):=
 ⟨by rw [bK];exact Nat.add_le_add h.1 f.1,fun c hc=>(ci.1 hc).elim (h.2 c) (f.2 c)⟩
abbrev acJ (br:Nat) (sl:Value) (p k n m:Nat):Value->List Item->ae->Prop:=fun v I' S'=>∃ p',p'<=p+k/\I'=[rdI br sl p']/\∃ q,RdSl S' 5 (RdC S') v q/\Light n m q
section
variable {w0 w:World} {X:List Nat} {L A:List Item} {S:ae}
theorem vJ {v:Value} {css:List (hZ)} {q:List C} (a:Inv w0 X (aK v aB 5 css::A) S w) (hR:Rows 5 (RdC S) css q) :
  ∃ S',Ext w0.heap.size X S S'/\Inv w0 X A S' w/\RdSl S' 5 (RdC S') v q:=by
 have a:Inv w0 X (A++[aK v aB 5 css]) S w:=a.last 0 rfl;obtain ⟨S',g,f,a⟩:=Inv.lendExt a;exact ⟨S',g,a,RowRd.rows (hR.monoR fun _ _ h=>RdC.mono g.1 h) f⟩
end
section
variable {br:Nat} {sl:Value} {ys:List Nat}
theorem ad0:wC ⟨.mk 3 0 ⟨#[122]⟩ [],[]⟩=1:=by
 have e:(ByteArray.mk #[122]).size=1:=rfl;simp only [wC,wT,wL,cB,e]
theorem C1 {p m:Nat} {S:ae} {v:Value} {q:List C} (Y:RdSl S 1 nZ sl ys) (h:RdSl S 5 (RdC S) v q) (hq:Light 30 m q) (h0:0<q.length) (hm:m<=2000) (hp:p<=50000000) :
  kt Gr [rdP br,v] [rdI br sl p] S (acJ br sl p 20000 30 (m+700)):=by
 intro w f;refine r8.2 ?_;dsimp only[r8,bl];have b3:=hq.1;refine fg f ni fun v0 w' f=>?_;have f:Inv w [br] [aK v0 aB 5 [],rdI br sl p] S w':=f.last 0 rfl;refine ⟨fun a b w'=>∃ (j D:Nat) (S1:ae) (css:List (hZ)) (g:List C),a=ax (j:Int)/\j<=q.length/\g.length=j/\D<=p+600 * j/\Ext w.heap.size [br] S S1/\Rows 5 (RdC S1) css g/\(∀ c∈g,wC c<=m+700)/\Inv w [br] [aK b aB 5 css,rdI br sl D] S1 w',
  fun a _ _=>q.length - (intOf a).toNat,⟨0,p,S,[],[],rfl,bf _,rfl,by omega,Ext.refl _ _ _,Rows.nil _ _,by simp,f⟩,?_⟩
 intro t6 _ _ M _ _ _ _ _ _ _ _ _ _ _ _ _ w';rintro ⟨j,D,S1,css,g,rfl,hj,N,a4,i,hR,o,f⟩;have a8:=hR.hc;have h':=h.monoC i.1;refine aI h' cr (bM (aJ (fun a5=>?_) (fun a5=>?_)))
 ·have U:j<q.length:=by omega
  refine cL f h' cr bR U (fun _ _=>RdC.length) fun cs a6=>?_;have b4:=hq.2 _ (bJ U);refine Run.callL LE Kz f (JB (p:=D) (Y.monoU i.1) a6 (by omega) (by omega)) rfl fun Z I' S2 w'=>?_;rintro ⟨p2,O,rfl,ds,d,rfl,r,b0⟩ t f;refine ei (css:=css) f 0 _ ni (by omega) (by omega) rfl r.length r.one (by omega) (by omega) fun Z w' f=>?_;refine bA (by omega) ?_;have a9:p2<=p+600 * (j+1):=gM O (gM (Nat.add_le_add_right a4 600) (by rw [Nat.mul_add,NB];exact be _));exact ⟨⟨j+1,p2,S2,_,g++[d],rfl,U,by simp only [bK,N,bI,cB,dr],a9,i.trans t,(hR.monoR fun _ _ h=>RdC.mono t.1 h).snoc r r.length,fun c hc=>(ci.1 hc).elim (o c) (fun hc=>by simp only [cE] at hc;subst hc;omega),f⟩,
   by simp only [intOf,dq];omega⟩
 refine ⟨fun v w'=>∃ (D:Nat) (S1:ae) (g:List C),D<=p+20000/\Ext w.heap.size [br] S S1/\RdSl S1 5 (RdC S1) v g/\Light 30 (m+700) g/\Inv w [br] [rdI br sl D] S1 w',?_,?_⟩
 ·refine Run.callL cG cH f (dU (n:=30) (Y.monoU i.1) (by omega) (by omega)) rfl fun Z I' S1 w'=>?_;rintro ⟨rfl,rfl,kk,b1,rfl⟩ _ f;have f:Inv w [br] [aK M aB 5 css,rdI br sl (D+1)] S1 w':=f;refine bn (aJ (fun _=>?_) (fun _=>?_))
  ·refine ⟨fun b w'=>∃ (S2:ae) (css:List (hZ)) (g:List C),g.length<=30/\Ext w.heap.size [br] S S2/\Rows 5 (RdC S2) css g/\(∀ c∈g,wC c<=m+700)/\Inv w [br] [aK b aB 5 css,rdI br sl (D+1)] S2 w',
    fun b _=>30 - lenOf b,⟨S1,css,g,by omega,i,hR,o,f⟩,?_⟩
   intro M _ _ _ _ _ _ _ _ w';rintro ⟨S2,css,g,N,t,hR,o,f⟩;have J:∀ {w':World} {S2:ae} {M:Value} {css:List (hZ)} {g:List C},Inv w [br] [aK M aB 5 css,rdI br sl (D+1)] S2 w'->Rows 5 (RdC S2) css g->∃ a m,M=.slice a g.length m:=by
    intro w' S2 M css g f hR;obtain ⟨_,_,_,a,m,e,_⟩:=vJ f hR;exact ⟨a,m,e⟩
   obtain ⟨a1,m1,rfl⟩:=J f hR;have a8:=hR.hc;refine fJ cr (gJ (aJ (fun a7=>?_) (fun a7=>?_)))
   ·refine Run.call0E eA eC f (fq ⟨#[122]⟩ (by decide) (mJ S2) (by simp)) fun Z I' S3 w'=>?_;rintro ⟨rfl,b2,rfl,G⟩ B f;obtain ⟨k3,rfl,_,_,_,a3,q3,rfl,_⟩:=RdT.iff.1 G;apply qe;have r:RdC S3 [ax 3,ax 0,.string ⟨#[122]⟩,.slice a3 0 q3,hV] ⟨.mk 3 0 ⟨#[122]⟩ [],[]⟩:=⟨[ax 3,ax 0,.string ⟨#[122]⟩,.slice a3 0 q3],_,rfl,G,mJ S3⟩
    refine ei (css:=css) f 0 [ax 3,ax 0,.string ⟨#[122]⟩,.slice a3 0 q3,hV] ni (by omega) (by omega) rfl rfl r.one (by omega) (by omega) fun Z w' f=>?_;have f:Inv w [br] [aK Z aB 5 (css++[_]),rdI br sl (D+1)] S3 w':=f;have a0:=(hR.monoR fun _ _ h=>RdC.mono B.1 h).snoc r rfl;obtain ⟨a2,m2,rfl⟩:=J f a0;refine ⟨⟨S3,_,_,by rw [bK];simp only [bI,cB];omega,t.trans B,a0,fun c hc=>(ci.1 hc).elim (o c) (fun hc=>by simp only [cE] at hc;subst hc;rw [ad0];omega),f⟩,?_⟩;simp only [lenOf,bK,bI,cB];omega
   ·obtain ⟨S3,B,f,V⟩:=vJ f hR;exact ⟨_,S3,g,by omega,t.trans B,V,⟨N,o⟩,f⟩
  ·obtain ⟨S3,B,f,V⟩:=vJ f hR;refine bn (aJ (fun _=>?_) (fun _=>?_))
   ·refine ju (l:=1) cr V (by omega) fun u hu=>?_;exact ⟨_,S3,_,by omega,i.trans B,hu,⟨by rw [nJ];omega,fun c hc=>o c (Vf hc)⟩,f⟩
   ·exact ⟨_,S3,g,by omega,i.trans B,V,⟨by omega,o⟩,f⟩
 intro _ _ _ _ M _ _ _ _ _ _ _ _ _ _ _ _ w';rintro ⟨p2,S2,q2,O,t,V,hl,f⟩;exact ⟨_,_,S2,rfl,f,t,p2,O,rfl,q2,V,hl⟩
end
end
section
open Go Go.RowKit
def okS (s:ByteArray):Bool:=aad (bs s) && decide (s.size<=1000)
theorem Zv {s:ByteArray} (h:okS s=true):∃ q,VS 60 (bs s)=some q/\0<q.length/\Light 8 200 q/\(∀ c∈q,cz c=true)/\s.size<=1000:=by
 rw [okS,aZ,bt] at h;obtain ⟨h,f⟩:=h;unfold aad at h;split at h
 ·rename_i q a
  simp only [aZ,bt,eX] at h;exact ⟨q,a,h.1,⟨h.2.1,fun c hc=>(h.2.2 c hc).2⟩,fun c hc=>(h.2.2 c hc).1,f⟩
 ·cases h
section
theorem Nb {S:ae} {s:ByteArray} (h:okS s=true):kt rz [.string s] [] S fun v I' S'=>∃ u css q,v=.tuple #[u,.bool true]/\I'=[aK u aB 5 css]/\Rows 5 (RdC S') css q/\0<q.length/\Light 8 200 q/\∀ c∈q,cz c=true:=by
 obtain ⟨q,i,j,hl,hc,m⟩:=Zv h;intro w a;have l:(bs s).length=s.size:=(n3 (bs s)).symm;refine (zE (f:=60) (by omega) i (by rw [l];omega) w a).mono ?_;rintro e w' ⟨v,I',S',rfl,a,g,u,css,rfl,rfl,hR⟩;exact ⟨_,_,S',rfl,a,g,u,css,q,rfl,rfl,hR,j,hl,hc⟩
theorem y7 (S:ae):kt Sa [] [] S fun v I' S'=>I'=[]/\∃ l,RdSl S' 1 rp v l/\l.length=11/\l.all okS=true:=by
 intro w a;apply Cr.2;dsimp only[Cr,ub];refine gT a (by kernel_rfl) rfl (by omega) fun v S1 w' f g a=>?_;exact ⟨_,[],S1,rfl,a,f,rfl,_,g,rfl,by decide +kernel⟩
variable {br:Nat} {sl:Value} {ys:List Nat}
end
end
section
open Go Go.RowKit
def KnU (S:ae) (c:Array Value) (st:au):Prop:=st.length * 4<=c.size/\∀ i (h:i<st.length),(st[i]=none->aO c (i * 4) 4=p7)/\(∀ t,st[i]=some t->RdT S (aO c (i * 4) 4) t)
abbrev kvU (kb N kp:Nat):Value:=eF kb 0 N kp
theorem KnU.set {S:ae} {c:Array Value} {st:au} (h:KnU S c st) {n:Nat} (hn:n<st.length) {cs:hZ} {u:T} (f:RdT S cs u):KnU S (b0 c (n * 4) cs) (st.set n (some u)):=by
 have a:=f.length;have l:=h.1;have m:st.length * 4<=(b0 c (n * 4) cs).size:=by rw [my _ _ _ (by omega)];exact l
 refine ⟨by rw [mQ];exact m,fun i g=>?_⟩;rw [mQ] at g;by_cases e:n=i
 ·subst e;rw [Md];refine ⟨fun h=>(by cases h),fun t j=>?_⟩;simp only [aY] at j;subst j;have:=jE (c:=c) (o:=n * 4) (vs:=cs) (by omega);rw [a] at this;rw [this];exact f
 ·rw [QC e,lB (by omega) (by omega)];exact h.2 i g
theorem KnU.mono {S S':ae} {c:Array Value} {st:au} (h:KnU S c st) (f:Sle S S'):KnU S' c st:=⟨h.1,fun i a=>⟨(h.2 i a).1,fun t g=>((h.2 i a).2 t g).mono f⟩⟩
def vO (b:Nat) (r:Nat->Nat) (st:au) (w:World):Nat:=
 match w.heap[b]? with
 | some (Obj.cells c _ _)=>(match c[0]?,c[1]? with
  | some (Value.int _ k),some (Value.int _ n)=>if (look st (.mk k n emptyB [])).isSome=true then r n.toNat+1 else 0
  | _,_=>0)
 | _=>0
theorem sr {w0 w:World} {X:List Nat} {L:List Item} {S S0:ae} {cs:hZ} {t:T} {E:TypeId} {b i:Nat} (a:Inv w0 X L S w) (f:L[i]?=some (ay b cs.toArray E)) (h:RdT S0 cs t) (r:Nat->Nat) (st:au) :
  vO b r st w=if (look st t).isSome=true then r t.n.toNat+1 else 0:=by
 obtain ⟨kv,rfl,_⟩:=RdT.iff.1 h;have g:w.heap[b]?=_:=a.its _ (cJ f);unfold vO;rw [g];obtain ⟨k,n,s,j⟩:=t;rfl
section
theorem sU {N:Nat} {st:au} (hg:Good N st) {t v:T} (hw:dL st t v) (ht:okU N t) {S:ae} {cs:List Value} {M kp:Nat} {G:Array Value} (h:RdT S cs t) (hk:KnU S G st) :
  Tri Tryz.prog JG [.agg cs.toArray,kvU M N kp] [.blk M (.cells G ab)] S fun r I' S'=>S'=S/\I'=[.blk M (.cells G ab)]/\∃ o,r=.agg o.toArray/\RdT S o v:=by
 intro w a;obtain ⟨X,hX⟩:∃ X,X=bS [Item.blk M (.cells G ab)]:=⟨_,rfl⟩
 rw [<- hX] at a ⊢;have b1:=hg.len;obtain ⟨r,hr⟩:=hg.rk;refine qA.2 ?_;dsimp only[qA,bl];refine bq a fun V w' a=>?_;refine aG a aV fun b4 w' a=>?_;have a:Inv w X [.blk M (.cells G ab),.blk V (.cells cs.toArray ab),.blk b4 (.cells #[.int .i64 0,.int .i64 0,.string ⟨#[]⟩,.slice none 0 0] ab)] S w':=a;refine ⟨fun w'=>∃ (g:T) (o:List Value),dL st g v/\okU N g/\RdT S o g/\Inv w X [.blk M (.cells G ab),.blk V (.cells o.toArray ab),.blk b4 (.cells #[.int .i64 0,.int .i64 0,.string ⟨#[]⟩,.slice none 0 0] ab)] S w',
  fun w'=>vO V r st w',⟨t,cs,hw,ht,h,a⟩,?_⟩
 intro _ _ _ _ _ _ _ _ _ _ _ _ _ _ _ _ _ _ _ _ _ _ _ _ w';rintro ⟨g,o,a1,a2,D,a⟩;have Z:=sr a (i:=1) rfl D r st;have O:=D;obtain ⟨kv,rfl,_⟩:=RdT.iff.1 D;refine ⟨fun q w'=>q=.bool (look st g).isSome/\Inv w X [.blk M (.cells G ab),.blk V (.cells #[.int .i64 g.kind,.int .i64 g.n,.string g.name,kv] ab),.blk b4 (.cells #[.int .i64 0,.int .i64 0,.string ⟨#[]⟩,.slice none 0 0] ab)] S w',?_,?_⟩
 ·refine ad a 1 rfl aM aw rfl ?_;refine bn ?_;by_cases m:g.kind=1
  ·rw [aL m];obtain ⟨a4,a3,_⟩:=a2.var m;obtain ⟨j,Y⟩:∃ j:Nat,g.n=j:=⟨g.n.toNat,by omega⟩
   have a0:j<N:=by omega
   have B:j<st.length:=by omega
   refine rpG ?_;refine ad a 1 rfl aQ aw rfl ?_;refine fJ ag ?_;refine bM ?_;rw [aL a3];refine rpG ?_;refine ad a 1 rfl aQ aw rfl ?_;rw [Y];refine az ag a0 ?_;refine ah aM ?_;rw [dr,vo];obtain ⟨a5,a6⟩:=hk.2 j B;rw [Y] at a;have a7:look st g=st[j]:=by
    rw [look,ai m,Y,dq,gd B]; rfl
   rw [a7];cases f:st[j] with
   | none=>
    have l:=a5 f;refine aD a 0 aw rfl (by have:=aA l 0 _ rfl; exact this) ?_;refine dw ?_;refine rpG ?_;refine ⟨by simp,a⟩
   | some t0=>
    have hR:=a6 t0 f;have a8:t0.kind≠0:=(hg.ok t0 (by rw [<- f]; exact bJ B)).kind;obtain ⟨b0,l,_,_,_,_⟩:=RdT.iff.1 hR;refine aD a 0 aw rfl (by have:=aA l 0 _ rfl; exact this) ?_;refine dw ?_;rw [aS a8];refine rpG ?_;refine ⟨rfl,a⟩
  ·rw [aS m];refine rpG ?_;refine ⟨?_,a⟩;rw [look,af m]; rfl
 intro q _ _ _ _ _ _ _ _ _ _ _ _ _ _ _ _ _ _ w';rintro ⟨rfl,a⟩;refine aE (fun hb=>?_) (fun hb=>?_)
 ·obtain ⟨u,hl⟩:=HJ.1 hb;obtain ⟨m,hs⟩:=dC.1 hl;obtain ⟨a4,a3,_⟩:=a2.var m;obtain ⟨j,Y⟩:∃ j:Nat,g.n=j:=⟨g.n.toNat,by omega⟩
  have a0:j<N:=by omega
  have B:j<st.length:=by omega
  rw [Y,dq] at hs;have f:st[j]=some u:=by rw [gd B,aY] at hs; exact hs
  have hR:=(hk.2 j B).2 u f;have a9:dL st u v:=by
   cases a1 with
   | stop h0=>rw [hl] at h0; cases h0
   | step h1 h2=>rw [hl,aY] at h1; rw [h1]; exact h2
  have hu:=(hg.look_ok hl).1;refine ad a 1 rfl aQ aw rfl ?_;rw [Y];refine az ag a0 ?_;rw [dr];refine cP a 0 (aO G (j * 4) 4) ac rfl hR.length (fun i v hi=>aA rfl i v hi) ?_;refine aq a 1 rfl ac (by simpa using hR.length) rfl (by simpa using hR.one) fun w' a=>?_;have a:Inv w X [.blk M (.cells G ab),.blk V (.cells (aO G (j * 4) 4).toArray ab),.blk b4 (.cells #[.int .i64 0,.int .i64 0,.string ⟨#[]⟩,.slice none 0 0] ab)] S w':=a;refine ⟨⟨u,_,a9,hu,hR,a⟩,?_⟩;have J:=sr a (i:=1) rfl hR r st;show vO V r st w'<vO V r st _;rw [Z,J,ai hb,Y,dq];split
  ·rename_i U
   obtain ⟨u2,U⟩:=HJ.1 U;have:=hr j u hs u.n.toNat (by rw [kH (dC.1 U).1]; exact cE.2 rfl);omega
  ·omega
 ·have hv:v=g:=by
   cases a1 with
   | stop _=>rfl
   | step h1 _=>rw [h1] at hb; cases hb
  subst hv;refine av a 1 ac rfl rfl ?_;refine aq a 2 rfl ac rfl rfl (by simpa using O.one) fun w' a=>?_;refine bm a 2 ac rfl rfl ?_;exact ⟨_,_,_,rfl,a.pick [true,false,false],Ext.refl _ _ _,rfl,rfl,_,rfl,O⟩
end
theorem XB (l:List Int) (n x:Int):x∈nu l n↔x∈l ∨ x=n:=by
 unfold nu;split
 ·rename_i h
  rw [Hu] at h;constructor
  ·exact .inl
  ·rintro (a|rfl)
   ·exact a
   ·exact h
 ·simp
mutual
theorem oN {N:Nat}:∀ (t:T) (l:List Int),okU N t->∀ x,x∈hY t l↔x∈l ∨ ∃ m∈vT t,x=(m:Int)
 | .mk k n s ks,l,h,x=>by
  rw [okU] at h;rw [hY,vT];by_cases hk:k=1
  ·rw [ai hk,ai hk,XB];have:=(h.2.1 hk).1;constructor
   ·rintro (a|a)
    ·exact .inl a
    ·exact .inr ⟨n.toNat,cE.2 rfl,by omega⟩
   ·rintro (a|⟨m,hm,e⟩)
    ·exact .inl a
    ·rw [cE] at hm;exact .inr (by omega)
  ·rw [af hk,af hk];exact zn ks l h.2.2.1 x
theorem zn {N:Nat}:∀ (ts:List T) (l:List Int),du N ts->∀ x,x∈ef ts l↔x∈l ∨ ∃ m∈vTL ts,x=(m:Int)
 | [],l,_,x=>by simp [ef,vTL]
 | t::ts,l,h,x=>by
  rw [du] at h;rw [ef,vTL,zn ts _ h.2,oN t l h.1];simp only [ci];constructor
  ·rintro ((h|⟨m,h,e⟩)|⟨m,h,e⟩)
   ·exact .inl h
   ·exact .inr ⟨m,.inl h,e⟩
   ·exact .inr ⟨m,.inr h,e⟩
  ·rintro (h|⟨m,h|h,e⟩)
   ·exact .inl (.inl h)
   ·exact .inl (.inr ⟨m,h,e⟩)
   ·exact .inr ⟨m,h,e⟩
end
mutual
theorem D3:∀ (t:T) (l:List Int),l.Nodup->(hY t l).Nodup
 | .mk k n s ks,l,h=>by
  rw [hY];split
  ·exact VP n h
  ·exact MB ks l h
theorem MB:∀ (ts:List T) (l:List Int),l.Nodup->(ef ts l).Nodup
 | [],l,h=>by rw [ef]; exact h
 | t::ts,l,h=>by rw [ef]; exact MB ts _ (D3 t l h)
end
theorem Yg (l:List Int) (n:Int):l <+: nu l n:=by
 unfold nu;split
 ·exact SX _
 ·exact List.prefix_append _ _
mutual
theorem JQ:∀ (t:T) (l:List Int),l <+: hY t l
 | .mk k n s ks,l=>by
  rw [hY];split
  ·exact Yg l n
  ·exact Jr ks l
theorem Jr:∀ (ts:List T) (l:List Int),l <+: ef ts l
 | [],l=>by rw [ef]; exact SX _
 | t::ts,l=>by
  rw [ef];exact (JQ t l).trans (Jr ts _)
end
theorem RF (t:T):ez t<=1+(wT t:Int):=by
 have:=DH [t];simp only [dx,wL,bI,cB] at this;omega
theorem abB:∀ (N:Nat) (l:List Int),l.Nodup->(∀ x∈l,0<=x/\x<N)->l.length<=N:=by
 intro N l hd h;have a:∀ x∈l,x∈(List.range N).map (fun i:Nat=>(i:Int)):=fun x f=>by
  obtain ⟨g,j⟩:=h x f;exact eV.2 ⟨x.toNat,List.mem_range.2 (by omega),by omega⟩
 have:=List.Nodup.length_le_of_subset hd a;simpa using this
section
open Classical in
theorem JU {N:Nat} (hN:N<=1000000) {st:au} (hg:Good N st) {t:T} (ht:okU N t) (d0:wT t<=1048576) (n:Int) (d1:0<=n) {S:ae} {cs:hZ} {kb kp:Nat} {kc:Array Value} (h:RdT S cs t) (hk:KnU S kc st) :
  kt NN [ax n,.agg cs.toArray,kvU kb N kp] [ay kb kc ab] S fun r I' S'=>S'=S/\I'=[ay kb kc ab]/\r=.bool (decide (gY st n.toNat t)):=by
 intro w g;obtain ⟨X,hX⟩:∃ X,X=bS [Item.blk kb (.cells kc ab)]:=⟨_,rfl⟩
 rw [<- hX] at g ⊢;have d7:=hg.len;have c8:=h.length;have d9:=RF t;refine y4.2 ?_;dsimp only[y4,dR];refine bq g fun b4 w' g=>?_;have g:Inv w X [ay kb kc ab,ay b4 cs.toArray ab] S w':=g;refine av g 1 ac rfl (by simpa using c8) ?_;have g:Inv w X [ay kb kc ab] S w':=g.pick [true,false];have g:=g.rowNil cR 1;refine Run.call (A:=[_]) mT mW g (nT t S cs (hV) [] h (by simp only [cB];omega)) fun v' I' S' w'=>?_;rintro ⟨rfl,eS⟩ _ g;rw [eS] at g;clear eS;refine ⟨fun i t7 w'=>∃ (j:Nat) (f:List Int),i=ax j/\j<=f.length/\f.Nodup/\(∀ x∈f,0<=x/\x<N)/\(∀ x∈f,∃ m∈vT t,Rch st m x.toNat)/\(∀ m∈vT t,(m:Int)∈f)/\
   (∀ k (hk:k<f.length),k<j->f[k]≠n/\∀ u,st[f[k].toNat]?=some (some u)->∀ m∈vT u,(m:Int)∈f)/\Inv w X [ay kb kc ab,dI t7 f] S w',
  fun i _ _=>N - (intOf i).toNat,⟨0,_,rfl,bf _,D3 t [] IQ,fun x hx=>?_,fun x hx=>?_,fun m G=>?_,fun k _ a9=>absurd a9 (by omega),g⟩,?_⟩
 ·rcases (oN t [] ht x).1 hx with hx|⟨m,G,rfl⟩
  ·cases hx
  ·have:=Y3 t ht m G;omega
 ·rcases (oN t [] ht x).1 hx with hx|⟨m,G,rfl⟩
  ·cases hx
  ·exact ⟨m,G,by rw [dq];exact .refl m⟩
 ·exact (oN t [] ht _).2 (.inr ⟨m,G,rfl⟩)
 intro t8 _ _ t7;(iterate 38 intro);intro w';rintro ⟨j,f,rfl,hj,a7,a0,o,a3,O,g⟩;have e0:=abB N f a7 a0;obtain ⟨S1,d4,Y,l,J⟩:=Inv.lend (A:=[_]) g;have Y:=Y.ints;refine aI Y cU ?_;refine bM ?_;refine aJ (fun c4=>?_) (fun c4=>?_)
 ·have M:j<f.length:=by omega
  obtain ⟨d6,c5⟩:=a0 _ (bJ M);obtain ⟨x,hx⟩:∃ x:Nat,f[j]=x:=⟨f[j].toNat,by omega⟩
  have a2:x<st.length:=by omega
  refine ⟨fun b1 w'=>∃ D:List Int,D.Nodup/\(∀ x∈D,0<=x/\x<N)/\(∀ x∈D,∃ m∈vT t,Rch st m x.toNat)/\(∀ y∈f,y∈D)/\f <+: D/\
   f[j]≠n/\(∀ u,st[x]?=some (some u)->∀ m∈vT u,(m:Int)∈D)/\Inv w X [ay kb kc ab,dI b1 D] S w',?_,?_⟩
  ·refine gj l Y cU aw M (fun cs U=>U) ?_;refine bn ?_;refine aJ (fun he=>?_) (fun he=>?_)
   ·have b7:gY st n.toNat t:=by
     obtain ⟨m,G,hr⟩:=o _ (bJ M);rw [he] at hr;exact ⟨m,G,hr⟩
    have g:=J _ _ l;refine ⟨_,_,_,rfl,g.pick [true,false],Ext.refl _ _ _,rfl,rfl,?_⟩;rw [aL b7]
   ·refine ⟨fun q w'=>q=.bool (decide (∃ u,st[x]?=some (some u)))/\Inv w X [ay kb kc ab] S1 w',?_,?_⟩
    ·refine gj l Y cU aw M (fun cs U=>U) ?_;refine fJ ag ?_;refine bM ?_;rw [aL c5];refine rpG ?_;refine gj l Y cU aw M (fun cs U=>U) ?_;rw [hx];refine az ag (by omega) ?_;refine ah aM ?_;rw [dr,vo];obtain ⟨b0,c6⟩:=hk.2 x a2;cases B:st[x] with
     | none=>
      have Z:=b0 B;refine aD l 0 aw rfl (by have:=aA Z 0 _ rfl;exact this) ?_;refine dw ?_;refine rpG ?_;refine ⟨?_,l⟩;rw [aS (show ¬ ∃ u,st[x]?=some (some u) from fun ⟨u,V⟩=>by rw [gd a2,B] at V;cases V)];simp
     | some t0=>
      have hR:=c6 t0 B;have a9:t0.kind≠0:=(hg.ok t0 (by rw [<- B];exact bJ a2)).kind;obtain ⟨c9,Z,_,_,_,_⟩:=RdT.iff.1 hR;refine aD l 0 aw rfl (by have:=aA Z 0 _ rfl;exact this) ?_;refine dw ?_;rw [aS a9];refine rpG ?_;refine ⟨?_,l⟩;rw [aL (show ∃ u,st[x]?=some (some u) from ⟨t0,by rw [gd a2,B]⟩)];rfl
    intro q;(iterate 17 intro);intro w';rintro ⟨rfl,l⟩;refine aJ (fun hq=>?_) (fun hq=>?_)
    ·obtain ⟨u,V⟩:=hq;have B:st[x]=some u:=by rw [gd a2,aY] at V;exact V
     have hR:=(hk.2 x a2).2 u B;have b8:=cJ V;have b9:=hg.ok u b8;have e2:=hg.w u b8;have e3:=RF u;refine gj l Y cU aw M (fun cs U=>U) ?_;rw [hx];refine az ag (by omega) ?_;rw [dr];refine cP l 0 (aO kc (x * 4) 4) ac rfl hR.length (fun i v hi=>aA rfl i v hi) ?_;have g:=J _ _ l;refine Run.call (A:=[_]) mT mW g (nT u S _ t7 f hR (by omega)) fun v' I' S' w'=>?_;rintro ⟨rfl,eS⟩ _ g;rw [eS] at g;clear eS;have a1:=oN u f b9;refine ⟨_,D3 u f a7,fun y hy=>?_,fun y hy=>?_,fun y hy=>(a1 y).2 (.inl hy),JQ u f,by rw [<- hx];exact he,fun u' b5 m G=>?_,g⟩
     ·rcases (a1 y).1 hy with hy|⟨m,G,rfl⟩
      ·exact a0 y hy
      ·have:=Y3 u b9 m G;omega
     ·rcases (a1 y).1 hy with hy|⟨m,G,rfl⟩
      ·exact o y hy
      ·obtain ⟨m0,c7,b6⟩:=o _ (bJ M);rw [hx,dq] at b6;exact ⟨m0,c7,b6.trans (.step V G (by rw [dq];exact .refl m))⟩
     ·rw [V,aY,aY] at b5;subst b5;exact (a1 _).2 (.inr ⟨m,G,rfl⟩)
    ·have g:=J _ _ l;exact ⟨f,a7,a0,o,fun y hy=>hy,SX _,he,fun u V=>absurd ⟨u,V⟩ hq,g⟩
  intro b1;(iterate 34 intro);intro w';rintro ⟨D,b2,a8,a4,a5,b3,c1,c2,g⟩;have e4:=b3.length_le;have a6:∀ k (hk:k<f.length),D[k]'(by omega)=f[k]:=fun k hk=>(b3.getElem hk).symm;refine bA (by omega) ?_;refine ⟨⟨j+1,D,rfl,by omega,b2,a8,a4,fun m G=>a5 _ (a3 m G),fun k d2 d3=>?_,g⟩,by simp [intOf];omega⟩;by_cases e:k=j
  ·subst e;have e1:=a6 k M;rw [e1];refine ⟨c1,fun u V=>?_⟩;rw [hx,dq] at V;exact c2 u V
  ·have c0:k<f.length:=by omega
   rw [a6 k c0];obtain ⟨h1,h2⟩:=O k c0 (by omega);exact ⟨h1,fun u V m G=>a5 _ (h2 u V m G)⟩
 ·have e5:j=f.length:=by omega
  have b0:¬ gY st n.toNat t:=by
   rintro ⟨m,G,hr⟩;have key:∀ a c,Rch st a c->(a:Int)∈f->(c:Int)∈f:=by
    intro a c c3;induction c3 with
    | refl=>exact id
    | step h1 h2 _ ih=>
     intro ha;obtain ⟨k,hk,e⟩:=zu.1 ha;refine ih ((O k hk (by omega)).2 _ ?_ _ h2);rw [e,dq];exact h1
   have h1:=key m _ hr (a3 m G);obtain ⟨k,hk,e⟩:=zu.1 h1;exact (O k hk (by omega)).1 (by rw [e];omega)
  have g:=J _ _ l;refine ⟨_,_,_,rfl,g.pick [true,false],Ext.refl _ _ _,rfl,rfl,?_⟩;rw [aS b0]
end
end
end Go.Proofs.YtellfcpffcipcaaGreatDoor

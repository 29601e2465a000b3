/- The reference's solver of goals that are built in. -/
import Derived.Test.YtellfcpffcipcaaGreatDoorZCkA
import Derived.Test.YtellfcpffcipcaaGreatDoorZCk14
namespace Go.Proofs.YtellfcpffcipcaaGreatDoor
attribute [local irreducible] Run CondV aF aT
section
open Go Go.RowKit
section
def WL (kb:Nat) (S:ae) (code:Int) (st':au):Value->List Item->ae->Prop:=fun q I' S'=>S'=S/\q=ax code/\∃ kc',I'=[ay kb kc' ab]/\KnU S kc' st'
def neSt (w0:World) (X:List Nat) (A:List Item) (S:ae) (N:Nat) (st:au) (r:Bool) (jt oC lS:Value) (w':World):Nat->Prop
 | 0=>Inv w0 X A S w'
 | 1=>Inv w0 X (A++[.row jt ab 4 0 []]) S w'
 | 2=>∃ g cap cur,oC=kvU g N cap/\KnU S cur st/\Inv w0 X (A++[.blk g (.cells cur ab)]) S w'
 | _=>lS=.bool r/\∃ R,Inv w0 X (A++R) S w'
theorem neSt.inv {w0 w':World} {X:List Nat} {A:List Item} {S:ae} {N:Nat} {st:au} {r:Bool} {a f g:Value}:∀ {n:Nat},neSt w0 X A S N st r a f g w' n->∃ R,Inv w0 X (A++R) S w'
 | 0,h=>⟨[],by rw [dc];exact h⟩
 | 1,h=>⟨_,h⟩
 | 2,⟨_,_,_,_,_,h⟩=>⟨_,h⟩
 | _+3,h=>h.2
set_option maxHeartbeats 1000000 in
theorem tT {N kp:Nat} (hN:N<=1000000) (d6:0<N) (c7:N<=kp) (c0:kp<=maxLen) {st a3:au} {g:T} {code:Int} (hg:Good N st) (ho:okU N g/\wT g<=1048576) (hn:okN g) (hb:bW g=true) (hB:Blt st g code a3)
  {S:ae} {cs:hZ} {Y:Nat} {Z:Array Value} (h:RdT S cs g) (hk:KnU S Z st):kt QX [.agg cs.toArray,kvU Y N kp] [ay Y Z ab] S (WL Y S code a3):=by
 intro w a;have b1:=h;obtain ⟨k,n,s,ks⟩:=g;obtain ⟨kv,rfl,_,_,_,a8⟩:=RdT.iff.1 h;have a2:=Ht hb ho;rw [bW,aZ] at hb;have a7:=hb.2;rw [okN] at hn;simp only [T.name,T.kids,T.kind,T.n] at a8 a7 b1 ⊢;obtain ⟨X,hX⟩:∃ X,X=bS [Item.blk Y (.cells Z ab)]:=⟨_,rfl⟩
 rw [<- hX] at a ⊢;unfold Blt at hB;clear h;apply C2.2;dsimp only[C2,bl];refine bq a fun b2 w' a=>?_;have a:Inv w X [ay b2 #[ax k,ax n,.string s,kv] ab,ay Y Z ab] S w':=a.perm (List.Perm.swap ..);have fin:∀ {w':World} {L:List Item} {j:BJ} (c:Int),j=.done c->BltJ st j code a3->Inv w X L S w'->List.Sublist [ay Y Z ab] L->
   ∃ v' I' S',Ending.returned (ax c)=.returned v'/\Inv w X I' S' w'/\Ext w.heap.size X S S'/\WL Y S code a3 v' I' S':=by
  intro w' L j c hj hB a hs;subst hj;obtain ⟨rfl,rfl⟩:=hB;exact ⟨_,_,S,rfl,a.sub hs,Ext.refl _ _ _,rfl,rfl,Z,rfl,hk⟩
 refine ad a 0 rfl aW aP rfl (bB (aJ (fun h=>fin 0 (by rw [fx,ai (show (T.mk k n s ks).name=io from h)]) hB a ((BG _).cons _)) (fun h0=>?_)));refine bB (aJ (fun h=>fin 1 (by rw [fx,af (show ¬ (T.mk k n s ks).name=io from h0),ai (show (T.mk k n s ks).name=jH from h)]) hB a ((BG _).cons _)) (fun h1=>?_));refine bB (aJ (fun h=>?_) (fun h2=>?_))
 ·obtain ⟨x,y,rfl⟩:=nw (l:=ks) (by have:=i6 (by rw [h];decide +kernel) a7;omega);have hj:fx (.mk k n s [x,y])=.uni x y:=by
   rw [fx,af (show ¬ (T.mk k n s [x,y]).name=io from h0),af (show ¬ (T.mk k n s [x,y]).name=jH from h1),ai (show (T.mk k n s [x,y]).name=nEq from h)];rfl
  rw [hj] at hB a2;obtain ⟨b,o,cap,c,E,fz,rfl,a5,hR⟩:=a8.ptr (by simp);obtain ⟨r,hu,rfl⟩:=hB;have a9:okJ N (.one x y):=a2;refine ⟨fun D x4 pp oR iU pj vz tU qX nX pu ww pF J=>Fx D 0 [pF=eu b2 3,ww=eF b o [x,y].length cap,pu=eu b (o+0 * 4),nX=.agg (aO c (o+0 * 4) 4).toArray,qX=eu b2 3,tU=eF b o [x,y].length cap,vz=eu b (o+1 * 4),pj=.agg (aO c (o+1 * 4) 4).toArray,iU=kvU Y N kp,oR=.bool r,pp=ax (fF r),x4=ax (fF r)]/\∃ m,(D 9=false->m=Z)/\(D 9=true->KnU S m a3)/\Inv w X [ay b2 #[ax k,ax n,.string s,eF b o [x,y].length cap] ab,ay Y m ab] S J,⟨Fx.nil _ _,⟨Z,fun _=>rfl,aU,a.draw⟩⟩,⟨?_,?_,?_,?_,?_,?_,?_,?_,?_,?_,?_,?_,trivial⟩,?_⟩;all_goals (intro D bw;intros;rename_i x4 pp oR iU pj vz tU qX nX pu ww pF J a1;have f:=a1.1;obtain ⟨⟨co,cn,bP,cj,cA,bQ,bO,cM,de,dv,bU,cC,_⟩,⟨m,q,B,a⟩⟩:=a1)
  apply ah ao;rotate_left
  obtain rfl:=co ‹_›;apply aD a 0 aj rfl rfl;rotate_left
  obtain rfl:=cn ‹_›;refine az (i:=0) ag (by simp) ?_;rotate_left
  obtain rfl:=bP ‹_›;refine bV ac (RdT.length (hR 0 (by simp))) (fun j v hj=>by rw [a.cellS a5];exact aA rfl j v hj) ?_;rotate_left
  apply ah ao;rotate_left
  obtain rfl:=cA ‹_›;apply aD a 0 aj rfl rfl;rotate_left
  obtain rfl:=bQ ‹_›;refine az (i:=1) ag (by simp) ?_;rotate_left
  obtain rfl:=bO ‹_›;refine bV ac (RdT.length (hR 1 (by simp))) (fun j v hj=>by rw [a.cellS a5];exact aA rfl j v hj) ?_;rotate_left;rotate_left
  obtain rfl:=cj ‹_›;obtain rfl:=cM ‹_›;obtain rfl:=de ‹_›;have e0:=q bw;rw [e0] at a;have a:Inv w X ([ay b2 #[ax k,ax n,.string s,eF b o [x,y].length cap] ab]++[ay Y Z ab]) S J:=a;refine Run.callE (A:=[_]) iE iM a (jT (kp:=kp) hN hg a9 hu S _ _ Y Z (hR 0 (by simp)) (hR 1 (by simp)) hk) fun v' I' S' J=>?_;rintro ⟨eS,rfl,m,rfl,a4⟩ _ a;rw [eS] at a;have a:Inv w X [ay b2 #[ax k,ax n,.string s,eF b o [x,y].length cap] ab,ay Y m ab] S J:=a;have q:=fun (h:aC D 9 9=false)=>(Bool.noConfusion h:m=Z)
  have B:=fun (_:aC D 9 9=true)=>a4
  rotate_left;obtain rfl:=dv ‹_›;refine Run.callPure fA fw a (dX r S) fun J a=>?_;rotate_left
  obtain rfl:=bU ‹_›;rotate_left
  all_goals try exact ⟨f.set _ (by first|rfl|assumption|trivial),m,q,B,a⟩
  obtain ⟨rfl,rfl,rfl,rfl,rfl,rfl,rfl,rfl,rfl,rfl,rfl,rfl,_⟩:=f.all;have Og:D 9=true:=by assumption
  clear f;have a4:=B Og;exact ⟨_,_,S,rfl,a.sub (((BG _).cons _)),Ext.refl _ _ _,rfl,rfl,m,rfl,a4⟩
 refine bB (aJ (fun h=>?_) (fun h3=>?_))
 ·obtain ⟨x,y,rfl⟩:=nw (l:=ks) (by have:=i6 (by rw [h];decide +kernel) a7;omega);have hj:fx (.mk k n s [x,y])=.not x y:=by
   rw [fx,af (show ¬ (T.mk k n s [x,y]).name=io from h0),af (show ¬ (T.mk k n s [x,y]).name=jH from h1),af (show ¬ (T.mk k n s [x,y]).name=nEq from h2),ai (show (T.mk k n s [x,y]).name=nNe from h)];rfl
  rw [hj] at hB a2;obtain ⟨b,o,cap,c,E,fz,rfl,a5,hR⟩:=a8.ptr (by simp);obtain ⟨rfl,r,d7,hu,rfl⟩:=hB;have a9:okJ N (.one x y):=a2;have e3:=a;refine ⟨fun D x4 mn nj lS oC j7 jt oH lK mC r7 og rr kY gQ J=>Fx D 0 [gQ=eu b2 3,kY=eF b o [x,y].length cap,rr=eu b (o+0 * 4),og=.agg (aO c (o+0 * 4) 4).toArray,r7=eu b2 3,mC=eF b o [x,y].length cap,lK=eu b (o+1 * 4),oH=.agg (aO c (o+1 * 4) 4).toArray,True,j7=kvU Y N kp,True,True,nj=.bool (!r),mn=ax (fF (!r)),x4=ax (fF (!r))]/\∃ n_:Nat,n_<=3/\D 8=decide (1<=n_)/\D 10=decide (2<=n_)/\D 11=decide (3<=n_)/\(neSt w X [ay b2 #[ax k,ax n,.string s,eF b o [x,y].length cap] ab,ay Y Z ab] S N a3 r jt oC lS J n_),⟨Fx.nil _ _,⟨0,bf _,rfl,rfl,rfl,a.draw⟩⟩,⟨?_,?_,?_,?_,?_,?_,?_,?_,?_,?_,?_,?_,?_,?_,?_,trivial⟩,?_⟩;all_goals (intro D bw;intros;rename_i x4 mn nj lS oC j7 jt oH lK mC r7 og rr kY gQ J a1;have f:=a1.1;obtain ⟨⟨co,cn,bP,cj,cA,bQ,bO,cM,de,dv,bU,cC,cY,dK,dd,_⟩,⟨n_,a0,U,V,G,hS⟩⟩:=a1)
  apply ah ao;rotate_left
  obtain rfl:=co ‹_›;obtain ⟨R,a⟩:=hS.inv;refine aD a 0 aj rfl rfl ?_;rotate_left
  obtain rfl:=cn ‹_›;refine az (i:=0) ag (by simp) ?_;rotate_left
  obtain rfl:=bP ‹_›;obtain ⟨R,a⟩:=hS.inv;refine bV ac (RdT.length (hR 0 (by simp))) (fun j v hj=>by rw [a.cellS a5];exact aA rfl j v hj) ?_;rotate_left
  apply ah ao;rotate_left
  obtain rfl:=cA ‹_›;obtain ⟨R,a⟩:=hS.inv;refine aD a 0 aj rfl rfl ?_;rotate_left
  obtain rfl:=bQ ‹_›;refine az (i:=1) ag (by simp) ?_;rotate_left
  obtain rfl:=bO ‹_›;obtain ⟨R,a⟩:=hS.inv;refine bV ac (RdT.length (hR 1 (by simp))) (fun j v hj=>by rw [a.cellS a5];exact aA rfl j v hj) ?_;rotate_left
  ·obtain rfl:n_=0:=Af U bw;refine fg hS bx fun v J a=>?_;have hS:neSt w X [ay b2 #[ax k,ax n,.string s,eF b o [x,y].length cap] ab,ay Y Z ab] S N a3 r v oC lS J 1:=a;exact ⟨f.set 8 (by first|assumption|trivial),1,by decide,rfl,(by first|exact V|rfl),(by first|exact G|rfl),hS⟩
  rotate_left
  ·have Db:=de ‹_›;obtain rfl:=dv ‹_›;obtain rfl:n_=1:=iY U ‹D 8=true› V bw;have a:Inv w X ([ay b2 #[ax k,ax n,.string s,eF b o [x,y].length cap] ab,ay Y Z ab]++[.row jt ab 4 0 []]) S J:=hS;have a:=a.perm (M:=[ay b2 #[ax k,ax n,.string s,eF b o [x,y].length cap] ab,aK jt ab 4 []]++bE [(Y,.cells Z ab)]) ((List.Perm.swap ..).cons _);obtain ⟨S1,d9,c4,a,b5⟩:=Inv.lendAll _ a;have b3:=hg.len;have c5:=hk.rd (c4 _ (cE.2 rfl)) (by rw [b3];exact c7) c0;rw [b3] at c5;refine fZ a 1 bx (by omega) rfl c5 (fun _ _=>RdO.length) (fun _ _=>RdO.one) (by rw [b3];simp;omega) (by omega) fun v J c3 c9 a=>?_;have a:=b5 _ _ a;have a:Inv w X ([ay b2 #[ax k,ax n,.string s,eF b o [x,y].length cap] ab,ay Y Z ab]++[aK v ab 4 c3]) S J:=a.perm ((List.Perm.swap ..).cons _);obtain ⟨g,cp,b6,rfl,e1,e2,b8,a⟩:=Inv.tab a c9 (by omega);rw [b3];have hS:neSt w X [ay b2 #[ax k,ax n,.string s,eF b o [x,y].length cap] ab,ay Y Z ab] S N a3 r jt (kvU g N cp) lS J 2:=⟨g,cp,b6,rfl,b8,a⟩
   exact ⟨f.set 10 (by first|assumption|trivial),2,by decide,(by first|exact U|rfl),rfl,(by first|exact G|rfl),hS⟩
  ·obtain rfl:=cj ‹_›;obtain rfl:=cM ‹_›;have xE:=bU ‹_›;obtain rfl:n_=2:=iY V ‹D 10=true› G bw;obtain ⟨g,cp,b6,rfl,b8,a⟩:=hS;refine Run.callE iE iM a (jT (kp:=cp) hN hg a9 hu S _ _ g b6 (hR 0 (by simp)) (hR 1 (by simp)) b8) fun v' I' S' J=>?_;rintro ⟨eS,rfl,m,rfl,a4⟩ _ a;rw [eS] at a;have hS:neSt w X [ay b2 #[ax k,ax n,.string s,eF b o [x,y].length cap] ab,ay Y Z ab] S N a3 r jt (kvU g N cp) (.bool r) J 3:=⟨rfl,_,a⟩
   exact ⟨f.set 11 (by first|assumption|trivial),3,by decide,(by first|exact U|rfl),(by first|exact V|rfl),rfl,hS⟩
  have W9:=cC ‹_›;have b4:=pH a0 G ‹D 11=true›;have c6:=hS;rw [b4] at c6;obtain ⟨b0,_⟩:=c6;subst b0;apply cq;rotate_left
  obtain rfl:=cY ‹_›;have b4:=pH a0 G ‹D 11=true›;rw [b4] at hS;obtain ⟨b0,R,a⟩:=hS;refine Run.callPure fA fw a (dX (!r) S) fun J a=>?_;have hS:neSt w X [ay b2 #[ax k,ax n,.string s,eF b o [x,y].length cap] ab,ay Y Z ab] S N a3 r jt oC lS J n_:=by rw [b4];exact ⟨b0,R,a⟩
  rotate_left;obtain rfl:=dK ‹_›;rotate_left
  all_goals try exact ⟨f.set _ (by first|rfl|assumption|trivial),n_,a0,U,V,G,hS⟩
  obtain rfl:n_=3:=pH a0 G ‹D 11=true›;have d3:D 14=true:=by assumption
  clear U V G;obtain rfl:=dd d3;obtain ⟨_,R,a⟩:=hS;exact ⟨_,_,S,rfl,a.sub (((JV _).cons_cons _).cons _),Ext.refl _ _ _,rfl,rfl,Z,rfl,hk⟩
 refine bB (aJ (fun h=>?_) (fun h4=>?_))
 ·obtain ⟨x,y,rfl⟩:=nw (l:=ks) (by have:=i6 (by rw [h];decide +kernel) a7;omega);have hj:fx (.mk k n s [x,y])=.done (fF (eqT x y)):=by
   rw [fx,af (show ¬ (T.mk k n s [x,y]).name=io from h0),af (show ¬ (T.mk k n s [x,y]).name=jH from h1),af (show ¬ (T.mk k n s [x,y]).name=nEq from h2),af (show ¬ (T.mk k n s [x,y]).name=nNe from h3),ai (show (T.mk k n s [x,y]).name=ql from h)];rfl
  rw [hj] at hB a2;obtain ⟨b,o,cap,c,E,fz,rfl,a5,hR⟩:=a8.ptr (by simp);refine ⟨fun D x4 sT uv qW nh s6 tV rf qp lL oF J=>Fx D 0 [oF=eu b2 3,lL=eF b o [x,y].length cap,qp=eu b (o+0 * 4),rf=.agg (aO c (o+0 * 4) 4).toArray,tV=eu b2 3,s6=eF b o [x,y].length cap,nh=eu b (o+1 * 4),qW=.agg (aO c (o+1 * 4) 4).toArray,uv=.bool (eqT x y),sT=ax (fF (eqT x y)),x4=ax (fF (eqT x y))]/\Inv w X [ay b2 #[ax k,ax n,.string s,eF b o [x,y].length cap] ab,ay Y Z ab] S J,⟨Fx.nil _ _,a.draw⟩,⟨?_,?_,?_,?_,?_,?_,?_,?_,?_,?_,?_,trivial⟩,?_⟩;all_goals (intro D bw;intros;rename_i x4 sT uv qW nh s6 tV rf qp lL oF J a1;have f:=a1.1;obtain ⟨⟨co,cn,bP,cj,cA,bQ,bO,cM,de,dv,bU,_⟩,a⟩:=a1)
  apply ah ao;rotate_left
  obtain rfl:=co ‹_›;apply aD a 0 aj rfl rfl;rotate_left
  obtain rfl:=cn ‹_›;refine az (i:=0) ag (by simp) ?_;rotate_left
  obtain rfl:=bP ‹_›;refine bV ac (RdT.length (hR 0 (by simp))) (fun j v hj=>by rw [a.cellS a5];exact aA rfl j v hj) ?_;rotate_left
  apply ah ao;rotate_left
  obtain rfl:=cA ‹_›;apply aD a 0 aj rfl rfl;rotate_left
  obtain rfl:=bQ ‹_›;refine az (i:=1) ag (by simp) ?_;rotate_left
  obtain rfl:=bO ‹_›;refine bV ac (RdT.length (hR 1 (by simp))) (fun j v hj=>by rw [a.cellS a5];exact aA rfl j v hj) ?_;rotate_left
  obtain rfl:=cj ‹_›;obtain rfl:=cM ‹_›;refine Run.callPure qU qJ a (rN x y S _ _ (hR 0 (by simp)) (hR 1 (by simp))) fun J a=>?_;rotate_left
  obtain rfl:=de ‹_›;refine Run.callPure fA fw a (dX _ S) fun J a=>?_;rotate_left
  obtain rfl:=dv ‹_›;rotate_left
  all_goals try exact ⟨f.set _ (by first|rfl|assumption|trivial),a⟩
  obtain ⟨rfl,rfl,rfl,rfl,rfl,rfl,rfl,rfl,rfl,rfl,rfl,_⟩:=f.all;clear f co cn bP cj cA bQ bO cM de dv bU;exact fin _ rfl hB a ((BG _).cons _)
 refine bB (aJ (fun h=>?_) (fun h5=>?_))
 ·obtain ⟨x,y,rfl⟩:=nw (l:=ks) (by have:=i6 (by rw [h];decide +kernel) a7;omega);have hj:fx (.mk k n s [x,y])=if (dg y).2≠0 then .done (dg y).2 else .uni x (KX (dg y).1):=by
   rw [fx,af (show ¬ (T.mk k n s [x,y]).name=io from h0),af (show ¬ (T.mk k n s [x,y]).name=jH from h1),af (show ¬ (T.mk k n s [x,y]).name=nEq from h2),af (show ¬ (T.mk k n s [x,y]).name=nNe from h3),af (show ¬ (T.mk k n s [x,y]).name=ql from h4),ai (show (T.mk k n s [x,y]).name=nIs from h)];rfl
  rw [hj] at hB a2;obtain ⟨b,o,cap,c,E,fz,rfl,a5,hR⟩:=a8.ptr (by simp);have ny:=ip hn.2 y (by simp);refine ad a 0 rfl ao aj rfl (cL (i:=1) a a8 ag ac (by simp) (fun _ _=>RdT.length) fun ds d0=>?_);refine Run.callPure lj lp a (nG y S ds d0 ny) fun w' a=>?_;refine al (v:=ax _) rfl (al (v:=ax _) rfl (dw (aE (fun h6=>?_) (fun h6=>?_))))
  ·simp at h6;exact fin _ (ai h6) hB a ((BG _).cons _)
  simp at h6;rw [af (by simp [h6])] at hB a2;obtain ⟨r,hu,rfl⟩:=hB;have a9:okJ N (.one x (KX (dg y).1)):=a2;have d4:=oW y ny;unfold Sm at d4;refine ⟨fun D x4 ud Bw Eg D5 Fw EV FF DD Hm J=>Fx D 0 [Hm=eu b2 3,DD=eF b o [x,y].length cap,FF=eu b (o+0 * 4),EV=.agg (aO c (o+0 * 4) 4).toArray,Fw=ax (dg y).1,D5=JE 2 (dg y).1,Eg=kvU Y N kp,Bw=.bool r,ud=ax (fF r),x4=ax (fF r)]/\∃ m,(D 7=false->m=Z)/\(D 7=true->KnU S m a3)/\Inv w X [ay b2 #[ax k,ax n,.string s,eF b o [x,y].length cap] ab,ay Y m ab] S J,⟨Fx.nil _ _,⟨Z,fun _=>rfl,aU,a.draw⟩⟩,⟨?_,?_,?_,?_,?_,?_,?_,?_,?_,?_,trivial⟩,?_⟩;all_goals (intro D bw;intros;rename_i x4 ud Bw Eg D5 Fw EV FF DD Hm J a1;have f:=a1.1;obtain ⟨⟨co,cn,bP,cj,cA,bQ,bO,cM,de,dv,_⟩,⟨m,q,B,a⟩⟩:=a1)
  apply ah ao;rotate_left
  obtain rfl:=co ‹_›;apply aD a 0 aj rfl rfl;rotate_left
  obtain rfl:=cn ‹_›;refine az (i:=0) ag (by simp) ?_;rotate_left
  obtain rfl:=bP ‹_›;refine bV ac (RdT.length (hR 0 (by simp))) (fun j v hj=>by rw [a.cellS a5];exact aA rfl j v hj) ?_;rotate_left;rotate_left
  obtain rfl:=cA ‹_›;refine Run.callPure sN sK a (mI _ S) fun J a=>?_;rotate_left;rotate_left
  obtain rfl:=cj ‹_›;obtain rfl:=bQ ‹_›;obtain rfl:=bO ‹_›;have e0:=q bw;rw [e0] at a;have a:Inv w X ([ay b2 #[ax k,ax n,.string s,eF b o [x,y].length cap] ab]++[ay Y Z ab]) S J:=a;refine Run.callE (A:=[_]) iE iM a (jT (kp:=kp) hN hg a9 hu S _ _ Y Z (hR 0 (by simp)) (rH (by simp [inI]) (by simp only [inI];omega)) hk) fun v' I' S' J=>?_;rintro ⟨eS,rfl,m,rfl,a4⟩ _ a;rw [eS] at a;have a:Inv w X [ay b2 #[ax k,ax n,.string s,eF b o [x,y].length cap] ab,ay Y m ab] S J:=a;have q:=fun (h:aC D 7 7=false)=>(Bool.noConfusion h:m=Z)
  have B:=fun (_:aC D 7 7=true)=>a4
  rotate_left;obtain rfl:=cM ‹_›;refine Run.callPure fA fw a (dX r S) fun J a=>?_;rotate_left
  obtain rfl:=de ‹_›;rotate_left
  all_goals try exact ⟨f.set _ (by first|rfl|assumption|trivial),m,q,B,a⟩
  obtain ⟨rfl,rfl,rfl,rfl,rfl,rfl,rfl,rfl,rfl,rfl,_⟩:=f.all;have CQ:D 7=true:=by assumption
  clear f;have a4:=B CQ;exact ⟨_,_,S,rfl,a.sub (((BG _).cons _)),Ext.refl _ _ _,rfl,rfl,m,rfl,a4⟩
 refine bB (aJ (fun h=>?_) (fun h6=>?_))
 ·obtain ⟨x,y,z,rfl⟩:=RE (l:=ks) (by have:=WB (h ▸ a7);omega);have hj:fx (.mk k n s [x,y,z])=uS x y z:=by
   rw [fx,af (show ¬ (T.mk k n s [x,y,z]).name=io from h0),af (show ¬ (T.mk k n s [x,y,z]).name=jH from h1),af (show ¬ (T.mk k n s [x,y,z]).name=nEq from h2),af (show ¬ (T.mk k n s [x,y,z]).name=nNe from h3),af (show ¬ (T.mk k n s [x,y,z]).name=ql from h4),af (show ¬ (T.mk k n s [x,y,z]).name=nIs from h5),ai (show (T.mk k n s [x,y,z]).name=GM from h)];rfl
  rw [hj] at hB a2;refine av a 0 ac rfl rfl (Run.call0 VE UV a (LJ b1) fun v1 I' S' w'=>?_);rintro ⟨rfl,eS,ds,cd,rfl,c1,c8,O⟩ _ a;rw [eS] at a;have a:=a;refine al (v:=.agg ds.toArray) rfl (al (v:=ax cd) rfl (aG a aV fun b7 w' a=>?_));refine aq a 2 rfl ac (by simpa using c1) rfl (by simpa using c8) fun w' a=>?_;obtain ⟨b,o,cap,c,E,fz,rfl,a5,hR⟩:=a8.ptr (by simp);have a:Inv w X [ay b2 #[ax k,ax n,.string s,eF b o [x,y,z].length cap] ab,ay Y Z ab,ay b7 ds.toArray ab] S w':=a;apply dw;obtain ⟨j,a6⟩:∃ j,uS x y z=j:=⟨_,rfl⟩
  rw [a6] at O hB a2
  match j,a6,O,hB,a2 with
  | .done c2,_,O,hB,_=>
   obtain ⟨rfl,d1⟩:=O;rw [aS d1];refine aE (fun _=>?_) (fun hb=>by cases hb);exact fin _ rfl hB a (((JV _).cons_cons _).cons _)
  | .not _ _,_,O,_,_=>exact O.elim
  | .uni u t,a6,O,hB,a2=>
   obtain ⟨rfl,d2⟩:=O;refine aE (fun hb=>by cases hb) (fun _=>?_);obtain rfl:u=z:=by
    unfold uS at a6;split at a6
    ·cases a6
    split at a6
    ·cases a6
    split at a6
    ·cases a6
    ·rw [BJ.uni.injEq] at a6;exact a6.1.symm
   obtain ⟨r,hu,rfl⟩:=hB;have a9:okJ N (.one u t):=a2;refine ⟨fun D x4 Kb FT Ee DV FU FS xB wx J=>Fx D 0 [wx=eu b2 3,xB=eF b o [x,y,u].length cap,FS=eu b (o+2 * 4),FU=.agg (aO c (o+2 * 4) 4).toArray,DV=.agg ds.toArray,Ee=kvU Y N kp,FT=.bool r,Kb=ax (fF r),x4=ax (fF r)]/\∃ m,(D 6=false->m=Z)/\(D 6=true->KnU S m a3)/\Inv w X [ay b2 #[ax k,ax n,.string s,eF b o [x,y,u].length cap] ab,ay Y m ab,ay b7 ds.toArray ab] S J,⟨Fx.nil _ _,⟨Z,fun _=>rfl,aU,a.draw⟩⟩,⟨?_,?_,?_,?_,?_,?_,?_,?_,?_,trivial⟩,?_⟩;all_goals (intro D bw;intros;rename_i x4 Kb FT Ee DV FU FS xB wx J a1;have f:=a1.1;obtain ⟨⟨co,cn,bP,cj,cA,bQ,bO,cM,de,_⟩,⟨m,q,B,a⟩⟩:=a1)
   apply ah ao;rotate_left
   obtain rfl:=co ‹_›;apply aD a 0 aj rfl rfl;rotate_left
   obtain rfl:=cn ‹_›;refine az (i:=2) ag (by simp) ?_;rotate_left
   obtain rfl:=bP ‹_›;refine bV ac (RdT.length (hR 2 (by simp))) (fun j v hj=>by rw [a.cellS a5];exact aA rfl j v hj) ?_;rotate_left
   refine av a 2 ac rfl (by simpa using c1) ?_;rotate_left;rotate_left
   obtain rfl:=cj ‹_›;obtain rfl:=cA ‹_›;obtain rfl:=bQ ‹_›;have e0:=q bw;rw [e0] at a;have a:=a.perm (M:=[ay b2 #[ax k,ax n,.string s,eF b o [x,y,u].length cap] ab,ay b7 ds.toArray ab]++[ay Y Z ab]) ((List.Perm.swap ..).cons _);refine Run.callE (A:=[_,_]) iE iM a (jT (kp:=kp) hN hg a9 hu S _ _ Y Z (hR 2 (by simp)) d2 hk) fun v' I' S' J=>?_;rintro ⟨eS,rfl,m,rfl,a4⟩ _ a;rw [eS] at a;have a:Inv w X [ay b2 #[ax k,ax n,.string s,eF b o [x,y,u].length cap] ab,ay Y m ab,ay b7 ds.toArray ab] S J:=a.perm ((List.Perm.swap ..).cons _);have q:=fun (h:aC D 6 6=false)=>(Bool.noConfusion h:m=Z)
   have B:=fun (_:aC D 6 6=true)=>a4
   rotate_left;obtain rfl:=bO ‹_›;refine Run.callPure fA fw a (dX r S) fun J a=>?_;rotate_left
   obtain rfl:=cM ‹_›;rotate_left
   all_goals try exact ⟨f.set _ (by first|rfl|assumption|trivial),m,q,B,a⟩
   obtain ⟨rfl,rfl,rfl,rfl,rfl,rfl,rfl,rfl,rfl,_⟩:=f.all;have XC:D 6=true:=by assumption
   clear f;have a4:=B XC;exact ⟨_,_,S,rfl,a.sub (((JV _).cons_cons _).cons _),Ext.refl _ _ _,rfl,rfl,m,rfl,a4⟩
 have b9:fx (.mk k n s ks)=if dy s fh=true then .done (Uv s (eG ks)) else .done (fF (nQ s (kd (.mk k n s ks) 0))):=by
  rw [fx,af (show ¬ (T.mk k n s ks).name=io from h0),af (show ¬ (T.mk k n s ks).name=jH from h1),af (show ¬ (T.mk k n s ks).name=nEq from h2),af (show ¬ (T.mk k n s ks).name=nNe from h3),af (show ¬ (T.mk k n s ks).name=ql from h4),af (show ¬ (T.mk k n s ks).name=nIs from h5),af (show ¬ (T.mk k n s ks).name=GM from h6)];rfl
 rw [b9] at hB;refine ad a 0 rfl aW aP rfl (Run.callPure Gt Hf a (zB s S) fun w' a=>?_);refine aE (fun hc=>?_) (fun hc=>?_)
 ·rw [ai hc] at hB;have hl:ks.length=2:=by have:=i6 (WJ hc) a7;omega
  refine av a 0 ac rfl rfl (Run.callPure IM H5 a (AZ b1 hl hn.2) fun w' a=>?_);exact fin _ rfl hB a ((BG _).cons _)
 rw [hc,af (by decide)] at hB;obtain ⟨x,rfl⟩:=HN (l:=ks) (by
  rcases sa a7 h0 h1 h2 h3 h4 h5 hc with ⟨_,h⟩|⟨h,_⟩
  ·omega
  ·exact absurd h h6)
 refine av a 0 ac rfl rfl (Run.callPure Rn Qd a (IH b1) fun w' a=>?_);exact fin _ rfl hB a ((BG _).cons _)
end
end
section
open Go Go.RowKit
section
variable {P:Program} {w w0:World} {X:List Nat} {L:List Item} {S:ae} {K:Value->World->Prop}
theorem oO {T r l ty:TypeId} {b a:Nat} {q:Array MapEntry} {n:Int} {z v:Value} {ok c:Bool} (M:w.heap[b]?=some (.map q a)) (G:P.underlying T=some (.map r l)) (h:P.underlying r=some (.int .i64))
  (m:fY P l=some z) (hf:(∃ j,Instr.findNow (.int .i64) (ax n) q.toList 0=some (some (j,v))/\ok=true) ∨ (Instr.findNow (.int .i64) (ax n) q.toList 0=some none/\v=z/\ok=false))
  (hk:K (cond c (.tuple #[v,.bool ok]) v) w):Run P (sOp (.lookup T (.const (.map (some b))) (.const (ax n)) c) ty) w K:=by
 have o:∀ e,(Instr.checkKey e 10000 r (ax n)).run P w=.ok () w:=fun e=>by
  rw [show (10000:Nat)=9999+1 from rfl,Instr.checkKey];simp [run_underlying h]
 obtain ⟨f,t,B⟩:∃ f,P.info? l=some f/\f.zero=some z:=by
  unfold fY at m;cases g:P.info? l with
  | none=>rw [g] at m;simp at m
  | some f=>rw [g] at m;exact ⟨f,rfl,by simpa using m⟩
 have D:(zeroValue l).run P w=.ok z w:=by simp [zeroValue,typeInfo,t,B]
 refine Run.of ?_ hk;have J:(getObj b).run P w=.ok (.map q a) w:=by simp [getObj,Sem.run,M]
 rcases hf with ⟨j,hf,rfl⟩|⟨hf,rfl,rfl⟩
 ·have i:=jF (P:=P) (w:=w) h hf;cases c <;> simp [sOp,execOp,ev0,evE,Instr.lookup,run_underlying G,J,o,i]
 ·have i:=jF (P:=P) (w:=w) h hf;cases c <;> simp [sOp,execOp,ev0,evE,Instr.lookup,run_underlying G,J,o,i,D]
end
section
theorem Lc {f:FuncId} {fn:Func} {cap:hZ} {S0 S:ae} {v:Value} {xs:List T} (hf:Tryz.prog.funcs[f]?=some fn) (hn:(fn.name == "runtime.NumGoroutine" || fn.body.isNone)=false) (q:Sle S0 S)
  (h:RdSl S0 4 (RdT S0) v xs) {J:Nat->List Item->Prop} {Fin:List Item->Prop}
  (g:∀ i (_:i<xs.length) (cs:hZ) (I:List Item),RdT S0 cs xs[i]->J i I->kt f (.agg cs.toArray::cap) I S fun r I' S'=>S'=S/\∃ b,r=.bool b/\(b=true->Fin I')/\(b=false->J (i+1) I'))
  {I:List Item} (O:J 0 I):kt oZ [v,fv f cap] I S fun r I' S'=>S'=S/\∃ k:Int,r=ax k/\(0<=k->Fin I')/\(k<0->J xs.length I'):=by
 intro w a;have h:RdSl S 4 (RdT S0) v xs:=h.mono q fun _ _ h=>h;have o:=h.le;simp only [maxLen] at o;obtain ⟨X,U⟩:∃ X,X=bS I:=⟨_,rfl⟩
 rw [<- U] at a ⊢;apply g6.2;dsimp only[g6,bl];apply aI h ag;refine ⟨fun i w'=>∃ (j:Nat) (I':List Item),j<=xs.length/\i=ax j/\J j I'/\Inv w X I' S w',fun i _=>xs.length - (intOf i).toNat,⟨0,I,bf _,rfl,O,a⟩,?_⟩;intro V _ _ _ _ _ _ _ _ _ _ _ _ w';rintro ⟨j,I',Y,rfl,m,a⟩;refine bM (aJ (fun D=>?_) (fun D=>?_))
 ·have l:j<xs.length:=by omega
  refine cL a h ag ac l (fun _ _=>RdT.length) fun cs G=>?_;have a:Inv w X ([]++I') S w':=a;refine Run.callVE (A:=[]) hf hn a (g j l cs I' G m) fun Z I2 S2 w'=>?_;rintro ⟨N,b,rfl,t,B⟩ _ a;rw [N] at a;clear N;have a:Inv w X I2 S w':=a;refine aE (fun M=>?_) (fun M=>?_)
  ·exact ⟨_,_,_,rfl,a,Ext.refl _ _ _,rfl,j,rfl,fun _=>t M,fun h=>by omega⟩
  ·refine bA (by omega) ?_;exact ⟨⟨j+1,I2,l,rfl,B M,a⟩,by simp [intOf];omega⟩
 ·have:j=xs.length:=by omega
  subst this;exact ⟨_,_,_,rfl,a,Ext.refl _ _ _,rfl,-1,rfl,fun h=>by omega,fun _=>m⟩
theorem Dr {f:FuncId} {fn:Func} {cap:hZ} {S0 S:ae} {v:Value} {xs:List T} (hf:Tryz.prog.funcs[f]?=some fn) (hn:(fn.name == "runtime.NumGoroutine" || fn.body.isNone)=false) (j:Sle S0 S)
  (h:RdSl S0 4 (RdT S0) v xs) {J:Nat->List Item->Prop} {Fin:List Item->Prop}
  (a:∀ i (_:i<xs.length) (cs:hZ) (I:List Item),RdT S0 cs xs[i]->J i I->kt f (.agg cs.toArray::cap) I S fun r I' S'=>S'=S/\∃ b,r=.bool b/\(b=true->Fin I')/\(b=false->J (i+1) I'))
  {I:List Item} (m:J 0 I):kt lU [v,fv f cap] I S fun r I' S'=>S'=S/\∃ b,r=.bool b/\(b=true->Fin I')/\(b=false->J xs.length I'):=by
 intro w g;obtain ⟨X,B⟩:∃ X,X=bS I:=⟨_,rfl⟩
 rw [<- B] at g ⊢;apply fN.2;dsimp only[fN,bl];have g:Inv w X ([]++I) S w:=g;refine Run.callE (A:=[]) nS nP g (Lc hf hn j h a m) fun D I2 S2 w'=>?_;rintro ⟨o,k,rfl,q,t⟩ _ g;rw [o] at g;apply iS;exact ⟨_,_,_,rfl,g,Ext.refl _ _ _,rfl,_,rfl,fun l=>q (of_decide_eq_true l),fun l=>t (by have:=of_decide_eq_false l;omega)⟩
def StS (S0 S:ae) (sb:Nat) (st:au):Prop:=∃ mb tv es ck E,S sb=some (.cells #[.map (some mb),tv] E)/\S mb=some (.map es ck)/\KnownM S0 es st
theorem StS.mono {S0 S S':ae} {sb:Nat} {st:au} (h:StS S0 S sb st) (a:Sle S S'):StS S0 S' sb st:=by
 obtain ⟨mb,tv,f,ck,E,g,i,j⟩:=h;exact ⟨mb,tv,f,ck,E,a _ _ g,a _ _ i,j⟩
theorem StS.find {S0 S:ae} {sb:Nat} {N:Nat} {st:au} (h:StS S0 S sb st) {t:T} (hk:t.kind=1) (D:okU N t):∃ mb tv a ck E f ok,S sb=some (.cells #[.map (some mb),tv] E)/\S mb=some (.map a ck)/\
  ((∃ j,Instr.findNow (.int .i64) (ax t.n) a.toList 0=some (some (j,.agg (List.toArray f)))/\ok=true) ∨ (Instr.findNow (.int .i64) (ax t.n) a.toList 0=some none/\(Value.agg (List.toArray f))=.agg bb/\ok=false))/\
  f.length=4/\(∀ x∈f,x.oneCell'=true)/\(ok=true->∃ u,look st t=some u/\RdT S0 f u)/\(ok=false->look st t=none):=by
 obtain ⟨mb,tv,a,ck,E,m,r,G⟩:=h;obtain ⟨J,_⟩:=D.var hk;obtain ⟨j,B⟩:∃ j:Nat,t.n=j:=⟨t.n.toNat,by omega⟩
 have g:look st t=(st[j]?).join:=by rw [look,ai hk,B,dq]
 rw [B,g];rcases G.find j with ⟨q,v,u,cs,hf,rfl,hR,i⟩|⟨l,hf⟩
 ·exact ⟨mb,tv,a,ck,E,cs,true,m,r,.inl ⟨q,hf,rfl⟩,hR.length,hR.one,fun _=>⟨u,by rw [i];rfl,hR⟩,fun h=>by cases h⟩
 ·refine ⟨mb,tv,a,ck,E,[ax 0,ax 0,.string ⟨#[]⟩,hV],false,m,r,.inr ⟨hf,rfl,rfl⟩,rfl,by simp [Value.oneCell'],fun h=>(by cases h),fun _=>?_⟩;cases i:st[j]? with
  | none=>rfl
  | some o=>
   cases o with
   | none=>rfl
   | some u=>exact absurd i (l u)
theorem nU {N:Nat} {st:au} (hg:Good N st) {t v:T} (hw:dL st t v) (ht:okU N t) {S0 S:ae} {cs:hZ} {sb:Nat} (a9:StS S0 S sb st) (h:RdT S0 cs t) :
  kt HW [ee sb,.agg cs.toArray] [] S fun r I' S'=>S'=S/\I'=[]/\∃ l,r=.agg l.toArray/\RdT S0 l v:=by
 intro w a;obtain ⟨r,hr⟩:=hg.rk;apply tX.2;dsimp only[tX,bl];refine bq a fun B w' a=>?_;refine aG a aV fun M w' a=>?_;have a:Inv w [] [ay B cs.toArray ab,ay M bb ab] S w':=a;refine ⟨fun w'=>∃ l,RdT S0 l v/\Inv w [] [ay B l.toArray ab,ay M bb ab] S w',?_,?_⟩
 ·refine ⟨fun w'=>∃ (o:T) (l:hZ),dL st o v/\okU N o/\RdT S0 l o/\Inv w [] [ay B l.toArray ab,ay M bb ab] S w',
   fun w'=>vO B r st w',⟨t,cs,hw,ht,h,a⟩,?_⟩
  intro _ _ _ t6 t5 c0 c1 c2 c3 c4 c5 c6 c7 c8 c9 _ _ _ w';rintro ⟨o,l,U,b0,j,a⟩;have a2:=sr a (i:=0) rfl j r st;have O:=j;obtain ⟨kv,rfl,_⟩:=RdT.iff.1 j;refine ad a 0 rfl aM aw rfl (bn (aJ (fun Z=>?_) (fun Z=>?_)))
  ·obtain ⟨mb,tv,es,ck,E,G,ok,b1,b2,a0,a1,a6,a7,b6⟩:=a9.find Z b0;refine ⟨fun D x6 x5 pu ww P4 pF wi zZ xw Ld M0 zY V=>Fx D 0 [zY=ee sb,M0=ee sb,Ld=ee sb,xw=.map (some mb),zZ=eu B 1,wi=ax o.n,pF=.tuple #[.agg G.toArray,.bool ok],P4=.tuple #[.agg G.toArray,.bool ok],ww=.agg G.toArray,pu=.bool ok,True,True,x6=.bool ok]/\∃ m,(D 10=true->x5=ee m)/\(D 11=true->D 10=true)/\Inv w [] ([ay B (gn o kv) ab,ay M bb ab]++cond (D 10) [ay m (cond (D 11) G.toArray bb) ab] []) S V,⟨Fx.nil _ _,⟨0,aU,aU,a.draw⟩⟩,⟨?_,?_,?_,?_,?_,?_,?_,?_,?_,?_,?_,?_,?_,trivial⟩,?_⟩;all_goals (intro D bw;intros;rename_i x6 x5 pu ww P4 pF wi zZ xw Ld M0 zY V a5;have g:=a5.1;obtain ⟨⟨co,cn,bP,cj,cA,bQ,bO,cM,de,dv,bU,cC,cY,_⟩,⟨m,q,f,a⟩⟩:=a5)
   rotate_left;obtain rfl:=co ‹_›;apply aH;rotate_left
   obtain rfl:=cn ‹_›;apply ah qq;rotate_left
   obtain rfl:=bP ‹_›;refine cS (by decide +kernel) (by rw [a.cellS b1];rfl) ?_;rotate_left
   apply ah aQ;rotate_left
   obtain rfl:=cA ‹_›;apply aD a 0 aw rfl rfl;rotate_left
   obtain rfl:=cj ‹_›;obtain rfl:=bQ ‹_›;refine oO (ok:=ok) (v:=.agg G.toArray) (a.pub _ _ b2).1 fu gO aV a0 ?_;rotate_left
   obtain rfl:=bO ‹_›;rotate_left
   obtain rfl:=cM ‹_›;apply al rfl;rotate_left
   obtain rfl:=cM ‹_›;apply al rfl;rotate_left
   have b7:D 11=false:=bN.2 fun h=>by rw [f h] at bw;cases bw
   rw [bw] at a;refine aG a aV fun m V a=>?_;have q:=fun (_:aC D 10 10=true)=>(rfl:Value.pointer (some ⟨m,0,none⟩)=_)
   have f:=fun (_:aC D 10 11=true)=>(rfl:aC D 10 10=true)
   have a:Inv w [] ([ay B (gn o kv) ab,ay M bb ab]++cond true [ay m (cond (D 11) G.toArray bb) ab] []) S V:=by rw [b7];exact a
   rotate_left;have xE:=bU ‹_›;obtain rfl:=de ‹_›;have q5:=q ‹D 10=true›;subst q5;rw [bw,‹D 10=true›] at a;refine aq a 2 rfl ac (by simpa using a1) rfl (by simpa using a6) fun V a=>?_;have f:=fun (_:aC D 11 11=true)=>‹D 10=true›;have a:Inv w [] ([ay B (gn o kv) ab,ay M bb ab]++cond (D 10) [ay m (cond true G.toArray bb) ab] []) S V:=by rw [‹D 10=true›];exact a
   rotate_left;obtain rfl:=dv ‹_›;rotate_left
   all_goals try exact ⟨g.set _ (by first|rfl|assumption|trivial),m,q,f,a⟩
   obtain ⟨rfl,rfl,rfl,rfl,rfl,rfl,rfl,rfl,rfl,rfl,xE,_,rfl,_⟩:=g.all;have Dg:D 10=true:=by assumption
   have nH:D 11=true:=by assumption
   clear g;have q5:=q Dg;subst q5;rw [Dg,nH] at a;have a:Inv w [] [ay B (gn o kv) ab,ay M bb ab,ay m G.toArray ab] S V:=a;refine cq (aE (fun hb=>?_) (fun hb=>?_))
   ·have a3:ok=false:=by simpa using hb
    have hl:=b6 a3;have hv:v=o:=by
     cases U with
     | stop _=>rfl
     | step h1 _=>rw [h1] at hl;cases hl
    subst hv;exact ⟨_,O,a.pick [true,true,false]⟩
   ·have a3:ok=true:=by simpa using hb
    obtain ⟨u,hl,a8⟩:=a7 a3;have b8:dL st u v:=by
     cases U with
     | stop h0=>rw [hl] at h0;cases h0
     | step h1 h2=>rw [hl,aY] at h1;rw [h1];exact h2
    refine av a 2 ac rfl (by simpa using a1) (aq a 0 rfl ac (by simpa using a1) rfl (by simpa using a6) fun w' a=>?_);have a:Inv w [] [ay B G.toArray ab,ay M bb ab] S w':=a.pick [true,true,false];refine ⟨⟨u,G,b8,(hg.look_ok hl).1,a8,a⟩,?_⟩;have J:=sr a (i:=0) rfl a8 r st;show vO B r st w'<vO B r st _;have b9:(look st o).isSome=true:=by rw [hl];rfl
    rw [a2,J,ai b9];split
    ·rename_i Y
     obtain ⟨u2,Y⟩:=HJ.1 Y;have:=hr _ u (dC.1 hl).2 u.n.toNat (by rw [kH (dC.1 Y).1];exact cE.2 rfl);omega
    ·omega
  ·have hv:v=o:=by
    cases U with
    | stop _=>rfl
    | step h1 _=>exact absurd (dC.1 h1).1 Z
   subst hv;exact ⟨_,O,a⟩
 ·(iterate 18 intro);intro w';rintro ⟨l,j,a⟩;have a4:=j.length;refine av a 0 ac rfl (by simpa using a4) (aq a 1 rfl ac (by simpa using a4) rfl (by simpa using j.one) fun w' a=>?_);refine bm a 1 ac rfl (by simpa using a4) ?_;exact ⟨_,_,_,rfl,a.nil,Ext.refl _ _ _,rfl,rfl,_,rfl,j⟩
def MetM (es:Array MapEntry) (met:Nat->Prop):Prop:=(∀ e∈es.toList,∃ n:Nat,e.key=ax n/\e.val=.bool true/\met n)/\∀ n,met n->∃ e∈es.toList,e.key=ax (n:Nat)
theorem MetM.find {i:Array MapEntry} {f:Nat->Prop} (h:MetM i f) (n:Nat):(f n/\∃ j,Instr.findNow (.int .i64) (ax n) i.toList 0=some (some (j,.bool true))) ∨ (¬ f n/\Instr.findNow (.int .i64) (ax n) i.toList 0=some none):=by
 rcases uN (n:=n) i.toList 0 (fun e g=>by obtain ⟨m,hk,_⟩:=h.1 e g;exact ⟨m,hk⟩) with ⟨j,e,g,hk,hf⟩|⟨hk,hf⟩
 ·obtain ⟨m,a,o,l⟩:=h.1 e g;rw [hk] at a;simp only [Value.int.injEq,vH] at a;have:n=m:=by omega
  subst this;rw [o] at hf;exact .inl ⟨l,j,hf⟩
 ·refine .inr ⟨fun l=>?_,hf⟩;obtain ⟨e,g,a⟩:=h.2 n l;exact hk e g a
theorem MetM.push {i:Array MapEntry} {f:Nat->Prop} (h:MetM i f) (n:Nat) (ck:Nat):MetM (i.push { key:=ax n,val:=.bool true,born:=ck }) (fun m=>f m ∨ m=n):=by
 refine ⟨fun e a=>?_,fun m g=>?_⟩
 ·rw [Y2] at a;rcases ci.1 a with a|a
  ·obtain ⟨m,hk,j,g⟩:=h.1 e a;exact ⟨m,hk,j,.inl g⟩
  ·simp at a;subst a;exact ⟨n,rfl,rfl,.inr rfl⟩
 ·rw [Y2];rcases g with g|rfl
  ·obtain ⟨x,l,hk⟩:=h.2 m g;exact ⟨x,dO _ l,hk⟩
  ·exact ⟨_,im _ (cE.2 rfl),rfl⟩
theorem MetM.empty:MetM #[] (fun _=>False):=⟨fun e a=>by simp at a,fun n h=>h.elim⟩
theorem Na {st:au} {r:Nat->Nat} (o:∀ (n:Nat) (u:T),st[n]?=some (some u)->∀ m∈vT u,r m<r n) {t v:T} (q:dL st t v):∀ u,look st t=some u->∀ y∈vT v,r y<r t.n.toNat:=by
 induction q with
 | stop h=>intro u g;rw [h] at g;cases g
 | step hl f B=>
  rename_i t u v
  intro G _ y i;have j:=o _ u (dC.1 hl).2;cases a:look st u with
  | none=>
   have:v=u:=by
    cases f with
    | stop _=>rfl
    | step l _=>rw [l] at a;cases a
   subst this;exact j y i
  | some D=>
   have J:=B D a y i;have l:=j u.n.toNat (by rw [kH (dC.1 a).1];exact cE.2 rfl);omega
theorem Qi {N:Nat} {st:au} {t v:T} (h:Good N st) (a:dL st t v) (f:okU N t):okU N v:=by
 induction a with
 | stop=>exact f
 | step hl _ g=>exact g (h.look_ok hl).1
theorem aac {st:au} {r:Nat->Nat} (f:∀ (n:Nat) (u:T),st[n]?=some (some u)->∀ m∈vT u,r m<r n) {a c:Nat} (h:Rch st a c):r c<=r a:=by
 induction h with
 | refl=>exact be _
 | step g i _ j=>have:=f _ _ g _ i;omega
theorem VK {st:au} {t v:T} (j:dL st t v):∀ u,look st t=some u->∀ y∈vT v,Rch st t.n.toNat y:=by
 induction j with
 | stop h=>intro u g;rw [h] at g;cases g
 | step hl f l=>
  rename_i t u v
  intro q _ y i;cases a:look st u with
  | none=>
   have:v=u:=by
    cases f with
    | stop _=>rfl
    | step m _=>rw [m] at a;cases a
   subst this;exact .step (dC.1 hl).2 i (.refl y)
  | some o=>exact .step (dC.1 hl).2 (by rw [kH (dC.1 a).1];exact cE.2 rfl) (l o a y i)
def OC (st:au) (sb n:Nat) (t:T):Prop:=∀ (S0 S:ae) (cs:List Value) (mm ck:Nat) (es:Array MapEntry) (met:Nat->Prop),Sle S0 S->StS S0 S sb st->RdT S0 cs t->MetM es met->(∀ m,met m->(∃ x∈vT t,Rch st x m)->¬ Rch st m n)->
 Tri Tryz.prog Du [ee sb,ax n,.agg cs.toArray,.map (some mm)] [.blk mm (.map es ck)] S fun r I' S'=>S'=S/\∃ es' ck',I'=[.blk mm (.map es' ck')]/\
  ((gY st n t/\r=.bool true) ∨ (¬ gY st n t/\r=.bool false/\∃ met',MetM es' met'/\(∀ m,met m->met' m)/\∀ m,met' m->met m ∨ ¬ Rch st m n))
theorem HF {st:au} {sb n:Nat} {t:T} (D:OC st sb n t) {S0 S:ae} {cs:hZ} {l ck N O U:Nat} {E4 E5 E7:TypeId} {o:Array MapEntry} {f:Nat->Prop} (G:Sle S0 S) (J:StS S0 S sb st) (h:RdT S0 cs t) (V:MetM o f)
  (q:∀ m,f m->(∃ x∈vT t,Rch st x m)->¬ Rch st m n) (Y:S N=some (.cells #[ee sb] E4)) (Z:S O=some (.cells #[ax n] E5)) (h7:S U=some (.cells #[.map (some l)] E7)) :
  kt zD [.agg cs.toArray,ee N,ee O,ee U] [.blk l (.map o ck)] S fun r I' S'=>S'=S/\∃ i j,I'=[.blk l (.map i j)]/\
  ((gY st n t/\r=.bool true) ∨ (¬ gY st n t/\r=.bool false/\∃ g,MetM i g/\(∀ m,f m->g m)/\∀ m,g m->f m ∨ ¬ Rch st m n)):=by
 intro w a;have M:=h.length;obtain ⟨X,hX⟩:∃ X,X=bS [Item.blk l (.map o ck)]:=⟨_,rfl⟩
 rw [<- hX] at a ⊢;apply nI.2;dsimp only[nI,lQ];refine bq a fun b1 w' a=>?_;have a:Inv w X ([ay b1 cs.toArray ab]++[.blk l (.map o ck)]) S w':=a.perm (List.Perm.swap ..);refine cS gP (by rw [a.cellS Y];rfl) (cS aw (by rw [a.cellS Z];rfl) (av a 0 ac rfl (by simpa using M) (cS (by decide +kernel) (by rw [a.cellS h7];rfl) (Run.callE lA lh a (D S0 S cs l ck o f G J h V q) fun v' I' S' w'=>?_))));rintro ⟨eS,i,j,rfl,B⟩ _ a;rw [eS] at a;exact ⟨_,_,_,rfl,a.pick [false,true],Ext.refl _ _ _,rfl,i,j,rfl,B⟩
theorem R8 {N:Nat} {st:au} (hg:Good N st) {sb n:Nat} (hn:∀ u,st[n]?≠some (some u)) (e8:n<1000000000) {t v:T} (ho:okU N t) (V:dL st t v)
  (hv:t.kind=1->v.kind≠1->OC st sb n v) (hk:t.kind≠1->∀ x∈t.kids,OC st sb n x):OC st sb n t:=by
 intro S0 S cs B ck es Y c3 c4 h a4 a7 w a;have f2:=h.length;obtain ⟨X,hX⟩:∃ X,X=bS [Item.blk B (.map es ck)]:=⟨_,rfl⟩
 rw [<- hX] at a ⊢;have h0:=h;obtain ⟨kv,rfl,_,_,_,e3⟩:=RdT.iff.1 h;refine pJ.2 ?_;dsimp only[pJ,lQ];refine bq a fun b4 w' a=>?_;refine bq a fun b5 w' a=>?_;refine bq a fun b6 w' a=>?_;refine bq a fun b7 w' a=>?_;have a:Inv w X [.blk B (.map es ck),.blk b4 (.cells #[.pointer (some ⟨sb,0,none⟩)] ox),.blk b5 (.cells #[.int .i64 n] cR),.blk b6 (.cells #[.int .i64 t.kind,.int .i64 t.n,.string t.name,kv] ab),.blk b7 (.cells #[.map (some B)] kO)] S w':=a;refine ad a 3 rfl aM aw rfl ?_;refine bn ?_;refine aJ (fun a0=>?_) (fun a0=>?_)
 ·obtain ⟨f1,_⟩:=ho.var a0;obtain ⟨j,hj⟩:∃ j:Nat,t.n=j:=⟨t.n.toNat,by omega⟩
  have a1:vT t=[j]:=by rw [kH a0,hj,dq]
  have d1:fY Tryz.prog UN=some (.bool false):=by kernel_rfl
  have c7:Tryz.prog.underlying kO=some (.map cR UN):=by kernel_rfl
  refine aD a 4 (by decide +kernel) rfl rfl ?_;refine ad a 3 rfl aQ aw rfl ?_;rw [hj] at a ⊢;rcases a4.find j with ⟨d6,q,hf⟩|⟨d6,hf⟩
  ·refine oO (c:=false) (ok:=true) (v:=.bool true) (a.its (.blk B (.map es ck)) (by simp)) c7 gO d1 (.inl ⟨q,hf,rfl⟩) ?_;refine aE (fun _=>?_) (fun hb=>by cases hb);have g:¬ gY st n t:=by
    rintro ⟨x,D,hr⟩;have d2:=D;rw [a1,cE] at d2;subst d2;exact a7 x d6 ⟨x,D,.refl x⟩ hr
   exact ⟨_,_,_,rfl,a.pick [true,false,false,false,false],Ext.refl _ _ _,rfl,es,ck,rfl,.inr ⟨g,rfl,Y,a4,fun _ h=>h,fun _ h=>.inl h⟩⟩
  refine oO (c:=false) (ok:=false) (v:=.bool false) (a.its (.blk B (.map es ck)) (by simp)) c7 gO d1 (.inr ⟨hf,rfl,rfl⟩) ?_;refine aE (fun hb=>by cases hb) (fun _=>?_);refine aD a 4 (by decide +kernel) rfl rfl ?_;refine ad a 3 rfl aQ aw rfl ?_;refine Km a 0 c7 gO rfl hf fun w' a=>?_;have a2:=a4.push j ck;generalize d7:es.push { key:=.int .i64 (j:Int),val:=.bool true,born:=ck }=es2 at a2;rw [d7] at a;have a:Inv w X [.blk B (.map es2 (ck+1)),.blk b4 (.cells #[.pointer (some ⟨sb,0,none⟩)] ox),.blk b5 (.cells #[.int .i64 n] cR),.blk b6 (.cells #[.int .i64 t.kind,.int .i64 j,.string t.name,kv] ab),.blk b7 (.cells #[.map (some B)] kO)] S w':=a;refine aD a 1 gP rfl rfl ?_;refine av a 3 ac rfl rfl ?_;rw [hj] at h0;refine Run.call0 ku kl a (nU hg V ho c4 h0) fun v' I' S' w'=>?_;rintro ⟨eS,rfl,e9,rfl,a5⟩ _ a;rw [eS] at a;clear eS;have d3:=a5.length;refine aG a aV fun b9 w' a=>?_;have a:Inv w X [.blk B (.map es2 (ck+1)),.blk b4 (.cells #[.pointer (some ⟨sb,0,none⟩)] ox),.blk b5 (.cells #[.int .i64 n] cR),.blk b6 (.cells #[.int .i64 t.kind,.int .i64 j,.string t.name,kv] ab),.blk b7 (.cells #[.map (some B)] kO),.blk b9 _] S w':=a;refine aq a 5 rfl ac (by simpa using d3) rfl (by simpa using a5.one) fun w' a=>?_;have d4:=a5;obtain ⟨e4,rfl,_⟩:=RdT.iff.1 a5;have a:Inv w X [.blk B (.map es2 (ck+1)),.blk b4 (.cells #[.pointer (some ⟨sb,0,none⟩)] ox),.blk b5 (.cells #[.int .i64 n] cR),.blk b6 (.cells #[.int .i64 t.kind,.int .i64 j,.string t.name,kv] ab),.blk b7 (.cells #[.map (some B)] kO),.blk b9 (.cells #[.int .i64 v.kind,.int .i64 v.n,.string v.name,e4] ab)] S w':=a;have o:=Zb V hn;have c1:∀ m,(Y m ∨ m=j)->¬ gY st n t->Y m ∨ ¬ Rch st m n:=by
   rintro m (G|rfl) g
   ·exact .inl G
   ·exact .inr fun hr=>g ⟨m,by rw [a1]; exact cE.2 rfl,hr⟩
  refine ad a 5 rfl aM aw rfl ?_;refine bn ?_;refine aJ (fun U=>?_) (fun U=>?_)
  ·refine ad a 5 rfl aQ aw rfl ?_;refine aD a 2 aw rfl rfl ?_;refine bn ?_;have c2:gY st n v↔v.n.toNat=n:=by
    have c8:=xq.1 (iV V) U;constructor
    ·rintro ⟨x,D,hr⟩;rw [kH U,cE] at D;subst D;cases hr with
     | refl=>rfl
     | step l _ _=>
      rcases c8 with e|e
      ·rw [e] at l; cases l
      ·rw [e] at l; cases l
    ·intro e;exact ⟨n,by rw [kH U,e]; exact cE.2 rfl,.refl n⟩
   have e7:0<=v.n:=by
    exact ((Qi hg V ho).var U).1
   have M:decide (v.n=(n:Int))=decide (v.n.toNat=n):=by
    rw [qt,bt,bt];omega
   rw [M];refine ⟨_,_,_,rfl,a.pick [true,false,false,false,false,false],Ext.refl _ _ _,rfl,es2,ck+1,rfl,?_⟩;by_cases e:v.n.toNat=n
   ·left;exact ⟨o.2 (c2.2 e),by rw [aL e]⟩
   ·right;have g:¬ gY st n t:=fun h=>e (c2.1 (o.1 h));exact ⟨g,by rw [aS e],_,a2,fun m G=>.inl G,fun m G=>c1 m G g⟩
  ·refine aD a 1 gP rfl rfl ?_;refine aD a 2 aw rfl rfl ?_;refine av a 5 ac rfl rfl ?_;refine aD a 4 (by decide +kernel) rfl rfl ?_;have a:Inv w X ([.blk b4 (.cells #[.pointer (some ⟨sb,0,none⟩)] ox)]++[.blk B (.map es2 (ck+1))]) S w':=(a.pick [true,true,false,false,false,false]).perm (List.Perm.swap ..);have e5:∃ u,look st t=some u:=by
    cases hl:look st t with
    | some u=>exact ⟨u,rfl⟩
    | none=>
     have:v=t:=by
      cases V with
      | stop _=>rfl
      | step l _=>rw [l] at hl; cases hl
     rw [this] at U;exact absurd a0 U
   obtain ⟨u,hl⟩:=e5;obtain ⟨rk,d0⟩:=hg.rk;have e6:=Na d0 V u hl;have a3:∀ m,(Y m ∨ m=j)->(∃ x∈vT v,Rch st x m)->¬ Rch st m n:=by
    rintro m (G|rfl) ⟨x,D,hr⟩
    ·refine a7 m G ⟨j,by rw [a1]; exact cE.2 rfl,?_⟩;have l:=VK V u hl x D;rw [hj,dq] at l;exact l.trans hr
    ·exfalso;have l:=e6 x D;have h2:=aac d0 hr;rw [hj,dq] at l;omega
   refine Run.callE lA lh a (hv a0 U S0 S _ B (ck+1) es2 _ c3 c4 d4 a2 a3) fun v' I' S' w'=>?_;rintro ⟨eS,b3,b8,rfl,M⟩ _ a;rw [eS] at a;refine ⟨_,_,_,rfl,a.pick [false,true],Ext.refl _ _ _,rfl,b3,b8,rfl,?_⟩;rcases M with ⟨l,rfl⟩|⟨l,rfl,b2,c9,h2,h3⟩
   ·exact .inl ⟨o.2 l,rfl⟩
   ·have g:¬ gY st n t:=fun h=>l (o.1 h);refine .inr ⟨g,rfl,b2,c9,fun m G=>h2 m (.inl G),fun m G=>?_⟩;rcases h3 m G with h4|h4
    ·exact c1 m h4 g
    ·exact .inr h4
 ·refine ad a 3 rfl ao aj rfl ?_;refine md ?_;have a1:vT t=vTL t.kids:=Ap a0;have a:Inv w X ([.blk B (.map es ck)]++bE [(b4,.cells #[.pointer (some ⟨sb,0,none⟩)] ox),(b5,.cells #[.int .i64 n] cR),(b7,.cells #[.map (some B)] kO)]) S w':=a.pick [true,true,true,false,true];obtain ⟨S1,b0,b1,a9,c6⟩:=Inv.lendAll _ a;have h4:=b1 _ (bi ..);have h5:=b1 _ (bk _ (bi ..));have h7:=b1 _ (bk _ (bk _ (bi ..)));have a9:Inv w X ([]++[.blk B (.map es ck)]) S1 w':=a9;refine Run.callE (A:=[]) fO fL a9 (Dr xP xT (c3.trans b0) e3
   (J:=fun i I=>∃ r O f,I=[.blk B (.map r O)]/\MetM r f/\(∀ m,Y m->f m)/\(∀ m,f m->Y m ∨ ¬ Rch st m n)/\∀ k (_:k<t.kids.length),k<i->¬ gY st n t.kids[k])
   (Fin:=fun I=>∃ r O,I=[.blk B (.map r O)]/\gY st n t) ?_ ⟨es,ck,Y,rfl,a4,fun _ h=>h,fun _ h=>.inl h,fun k _ h=>by omega⟩) fun v' I2 S2 w'=>?_
  ·rintro i hi cs I d9 ⟨r,O,f,rfl,c5,a8,a6,Z⟩;have a3:∀ m,f m->(∃ x∈vT t.kids[i],Rch st x m)->¬ Rch st m n:=by
    rintro m G ⟨x,D,hr⟩;rcases a6 m G with l|l
    ·exact a7 m l ⟨x,by rw [a1]; exact th.2 ⟨_,bJ hi,D⟩,hr⟩
    ·exact l
   intro w1 a9;refine (HF (hk a0 _ (bJ hi)) (c3.trans b0) (c4.mono b0) d9 c5 a3 h4 h5 h7 w1 a9).mono ?_;rintro e w2 ⟨v',I',S',rfl,e0,hE,hS,b3,b8,rfl,M⟩;refine ⟨_,_,_,rfl,e0,hE,hS,?_⟩;rcases M with ⟨l,rfl⟩|⟨l,rfl,b2,c9,h2,h3⟩
   ·obtain ⟨x,D,hr⟩:=l;exact ⟨true,rfl,fun _=>⟨b3,b8,rfl,x,by rw [a1]; exact th.2 ⟨_,bJ hi,D⟩,hr⟩,fun e=>by cases e⟩
   ·refine ⟨false,rfl,fun e=>(by cases e),fun _=>⟨b3,b8,b2,rfl,c9,fun m G=>h2 m (a8 m G),fun m G=>?_,fun k c0 f0=>?_⟩⟩
    ·rcases h3 m G with h4|h4
     ·exact a6 m h4
     ·exact .inr h4
    ·by_cases e:k=i
     ·subst e; exact l
     ·exact Z k c0 (by omega)
  rintro ⟨eS,b,rfl,e1,e2⟩ _ a;rw [eS] at a;have a:Inv w X I2 S1 w':=a;have a:=c6 _ _ a;cases b with
  | true=>
   obtain ⟨r,O,rfl,o⟩:=e1 rfl;exact ⟨_,_,_,rfl,a.sub (eh _ _),Ext.refl _ _ _,rfl,r,O,rfl,.inl ⟨o,rfl⟩⟩
  | false=>
   obtain ⟨r,O,f,rfl,c5,a8,a6,Z⟩:=e2 rfl;have g:¬ gY st n t:=by
    rintro ⟨x,D,hr⟩;rw [a1] at D;obtain ⟨y,hy,D⟩:=th.1 D;obtain ⟨k,c0,rfl⟩:=zu.1 hy;exact Z k c0 c0 ⟨x,D,hr⟩
   exact ⟨_,_,_,rfl,a.sub (eh _ _),Ext.refl _ _ _,rfl,r,O,rfl,.inr ⟨g,rfl,f,c5,a8,a6⟩⟩
theorem PM {N:Nat} {st:au} (r:Good N st) {sb n:Nat} (hn:∀ u,st[n]?≠some (some u)) (B:n<1000000000):∀ t:T,okU N t->OC st sb n t:=by
 obtain ⟨rk,U⟩:=r.rk;have q:∀ (m:Nat) (a:T),(∀ x∈vT a,∀ u,st[x]?=some (some u)->rk x<m)->okU N a->OC st sb n a:=by
  intro m;induction m using Nat.strongRecOn with
  | _ m Y=>
   refine T.ind fun k n' s D G Z i=>?_;obtain ⟨v,g⟩:=Wg r (.mk k n' s D);refine R8 r hn B i g (fun f j=>?_) (fun f x h=>?_)
   ·cases hl:look st (.mk k n' s D) with
    | none=>
     have:v=.mk k n' s D:=by
      cases g with
      | stop _=>rfl
      | step h1 _=>rw [h1] at hl;cases hl
     rw [this] at j;exact absurd f j
    | some u=>
     have J:=(dC.1 hl).2;have V:=Z _ (by rw [kH f];exact cE.2 rfl) u J;exact Y _ V v (fun x h _ _=>Na U g u hl x h) (Qi r g i)
   ·exact G x h (fun y hy u J=>Z y (by rw [Ap f];exact th.2 ⟨x,h,hy⟩) u J) (mN i.kids x h)
 have o:∀ l:List Nat,∃ M,∀ m∈l,rk m<M:=by
  intro l;induction l with
  | nil=>exact ⟨0,by simp⟩
  | cons x l G=>
   obtain ⟨M,o⟩:=G;refine ⟨M+rk x+1,fun m O=>?_⟩;rcases cw.1 O with rfl|O
   ·omega
   ·have:=o m O;omega
 intro t i;obtain ⟨M,o⟩:=o (vT t);exact q M t (fun x h _ _=>o x h) i
end
end
end Go.Proofs.YtellfcpffcipcaaGreatDoor

/- The program's solver of goals that are built in. -/
import Derived.Test.YtellfcpffcipcaaGreatDoorZCkA
import Derived.Test.YtellfcpffcipcaaGreatDoorZCk16
namespace Go.Proofs.YtellfcpffcipcaaGreatDoor
attribute [local irreducible] Run CondV aF aT
section
open Go Go.RowKit
theorem Yt {k n:Int} {s:ByteArray} {f:List T} (h:dy s fh=true):fx (.mk k n s f)=.done (Uv s (eG f)):=by
 have j:=h;rw [dy,ET] at h;obtain ⟨x,i,hd⟩:=h;have hd:=of_decide_eq_true hd;subst hd;have a:∀ y∈([io,jH,nEq,nNe,ql,nIs,GM]:List ByteArray),s≠y:=by
  intro y g;simp only [fh,cw,ic,g9] at i g;rcases i with rfl|rfl|rfl|rfl|rfl <;> rcases g with rfl|rfl|rfl|rfl|rfl|rfl|rfl <;> decide +kernel
 have l:(T.mk k n s f).name=s:=rfl;rw [fx,l,af (a _ (by simp)),af (a _ (by simp)),af (a _ (by simp)),af (a _ (by simp)),af (a _ (by simp)),af (a _ (by simp)),af (a _ (by simp)),ai j];rfl
theorem RdT.f0 {S:ae} {cs:hZ} {t:T} (h:RdT S cs t):cs[0]?=some (ax t.kind):=by
 obtain ⟨_,rfl,_⟩:=RdT.iff.1 h;rfl
theorem RdT.f1 {S:ae} {cs:hZ} {t:T} (h:RdT S cs t):cs[1]?=some (ax t.n):=by
 obtain ⟨_,rfl,_⟩:=RdT.iff.1 h;rfl
section
variable {w:World} {X:List Nat} {S:ae}
theorem u7 (n:Int) (S:ae):ll Uh [ax n] S (.agg #[ax 2,ax n,.string ⟨#[]⟩,hV]):=by
 intro w a;apply Fm.2;dsimp only[Fm,aR];refine aG a aV fun b w' a=>?_;refine vY (aq a 0 rfl ac rfl rfl (by simp [Value.oneCell']) fun w' a=>?_);apply bm a 0 ac rfl rfl;exact done a rfl
def ZX (sb mb:Nat) (S:ae) (st:au) (tr:List Int) (code:Int) (st':au):Value->List Item->ae->Prop:=fun q I' S'=>S'=S/\q=ax code/\
 ∃ es' ck' tv' tr',I'=aN sb mb es' ck' tv' tr'/\KnownM S es' st'/\tr'.length+unb st'<=1000000/\Tr st st' tr tr'
set_option maxHeartbeats 1000000 in
theorem AU {N:Nat} (hN:N<=1000000) {st a0:au} {g:T} {code:Int} (hg:Good N st) (ho:okU N g/\wT g<=1048576) (hn:okN g) (hb:bW g=true) (hB:Blt st g code a0)
  {S:ae} {cs:hZ} {sb mb ck:Nat} {es:Array MapEntry} {tv:Value} {tr:List Int} (h:RdT S cs g) (b8:KnownM S es st) (b5:tr.length+unb st<=1000000) :
  kt Hw [ee sb,.agg cs.toArray] (aN sb mb es ck tv tr) S (ZX sb mb S st tr code a0):=by
 intro w a;have c6:=h;obtain ⟨k,n,s,ks⟩:=g;obtain ⟨kv,rfl,_,_,_,a8⟩:=RdT.iff.1 h;have b1:=Ht hb ho;rw [bW,aZ] at hb;obtain ⟨g6,b0⟩:=hb;rw [okN] at hn;simp only [T.name,T.kids,T.kind,T.n] at a8 b0 c6 g6 ⊢;obtain ⟨X,hX⟩:∃ X,X=bS (aN sb mb es ck tv tr):=⟨_,rfl⟩
 rw [<- hX] at a ⊢;unfold Blt at hB;clear h;apply tN.2;dsimp only[tN,bl];refine bq a fun b3 w' a=>?_;have a:Inv w X ([ay b3 #[ax k,ax n,.string s,kv] ab]++aN sb mb es ck tv tr) S w':=a.perm cT;have fin:∀ {w':World} {L:List Item} {j:BJ} (c:Int),j=.done c->BltJ st j code a0->Inv w X L S w'->List.Sublist (aN sb mb es ck tv tr) L->
   ∃ v' I' S',Ending.returned (ax c)=.returned v'/\Inv w X I' S' w'/\Ext w.heap.size X S S'/\ZX sb mb S st tr code a0 v' I' S':=by
  intro w' L j c hj hB a hs;subst hj;obtain ⟨rfl,rfl⟩:=hB;exact ⟨_,_,S,rfl,a.sub hs,Ext.refl _ _ _,rfl,rfl,es,ck,tv,tr,rfl,b8,b5,Tr.refl _ _⟩
 have a5:∀ it:Item,List.Sublist (aN sb mb es ck tv tr) ([it]++aN sb mb es ck tv tr):=fun it=>eR [it] _;refine av a 0 ac rfl rfl (Run.callPure KT KA a (DG c6) fun w' a=>?_);have i9:abh (.mk k n s ks)=(decide (ks.length=2) && dy s fh):=by
  unfold abh;rw [show decide ((T.mk k n s ks).kind=3)=true from g6];rfl
 rw [i9];refine aE (fun hc=>?_) (fun hc=>?_)
 ·rw [aZ,bt] at hc;refine av a 0 ac rfl rfl (Run.callPure Kt LB a (DZ c6 hc.1 hn.2) fun w' a=>?_);exact fin _ (Yt hc.2) hB a (a5 _)
 have b2:dy s fh=false:=by
  cases hx:dy s fh
  ·rfl
  ·have:=i6 (WJ hx) b0;rw [hx,aL (show ks.length=2 by omega)] at hc;cases hc
 refine ad a 0 rfl ao aj rfl (ad a 0 rfl aW aP rfl (bB (aJ (fun h=>fin 0 (by rw [fx,ai (show (T.mk k n s ks).name=io from h)]) hB a (a5 _)) (fun h0=>?_))));refine bB (aJ (fun h=>fin 1 (by rw [fx,af (show ¬ (T.mk k n s ks).name=io from h0),ai (show (T.mk k n s ks).name=jH from h)]) hB a (a5 _)) (fun h1=>?_));refine bB (aJ (fun h=>?_) (fun h2=>?_))
 ·obtain ⟨x,y,rfl⟩:=nw (l:=ks) (by have:=i6 (by rw [h];decide +kernel) b0;omega);have hj:fx (.mk k n s [x,y])=.uni x y:=by
   rw [fx,af (show ¬ (T.mk k n s [x,y]).name=io from h0),af (show ¬ (T.mk k n s [x,y]).name=jH from h1),ai (show (T.mk k n s [x,y]).name=nEq from h)];rfl
  rw [hj] at hB b1;obtain ⟨b,o,cap,c,E,fz,rfl,a7,hR⟩:=a8.ptr (by simp);obtain ⟨r,hu,rfl⟩:=hB;have b4:okJ N (.one x y):=b1;refine ⟨fun D x4 rr kY gQ lO jW pp oR iU pj w_=>Fx D 0 [pj=ee sb,iU=eF b o [x,y].length cap,oR=eu b (o+0 * 4),pp=.agg (aO c (o+0 * 4) 4).toArray,jW=eF b o [x,y].length cap,lO=eu b (o+1 * 4),gQ=.agg (aO c (o+1 * 4) 4).toArray,kY=.bool r,rr=ax (fF r),x4=ax (fF r)]/\(D 7=false->Inv w X ([ay b3 #[ax k,ax n,.string s,eF b o [x,y].length cap] ab]++aN sb mb es ck tv tr) S w_)/\(D 7=true->∃ O Y Z M,KnownM S O a0/\M.length+unb a0<=1000000/\Tr st a0 tr M/\Inv w X ([ay b3 #[ax k,ax n,.string s,eF b o [x,y].length cap] ab]++aN sb mb O Y Z M) S w_)/\∃ f t B G,Inv w X ([ay b3 #[ax k,ax n,.string s,eF b o [x,y].length cap] ab]++aN sb mb f t B G) S w_,⟨Fx.nil _ _,⟨fun _=>a.draw,aU,es,ck,tv,tr,a.draw⟩⟩,⟨?_,?_,?_,?_,?_,?_,?_,?_,?_,?_,trivial⟩,?_⟩;all_goals (intro D bw;intros;rename_i x4 rr kY gQ lO jW pp oR iU pj w_ a6;have J:=a6.1;obtain ⟨⟨co,cn,bP,cj,cA,bQ,bO,cM,de,dv,_⟩,⟨V,U,f,t,B,G,a⟩⟩:=a6)
  rotate_left;rotate_left;obtain rfl:=cn ‹_›;refine az (i:=0) ag (by simp) ?_;rotate_left
  obtain rfl:=bP ‹_›;refine bV ac (RdT.length (hR 0 (by simp))) (fun j v hj=>by rw [a.cellS a7];exact aA rfl j v hj) ?_;rotate_left;rotate_left
  obtain rfl:=cA ‹_›;refine az (i:=1) ag (by simp) ?_;rotate_left
  obtain rfl:=bQ ‹_›;refine bV ac (RdT.length (hR 1 (by simp))) (fun j v hj=>by rw [a.cellS a7];exact aA rfl j v hj) ?_;rotate_left
  obtain rfl:=co ‹_›;obtain rfl:=cj ‹_›;obtain rfl:=bO ‹_›;refine Run.callE (A:=[_]) fV fX (V bw) (jS hN hg b4 hu S _ _ sb mb ck es tv tr (hR 0 (by simp)) (hR 1 (by simp)) b8 b5) fun v' I' S' w_=>?_;rintro ⟨eS,rfl,O,Y,Z,M,rfl,a3,a1,a4⟩ _ a;rw [eS] at a;have V:=fun (h:aC D 7 7=false)=>(Bool.noConfusion h:Inv w X ([ay b3 #[ax k,ax n,.string s,eF b o [x,y].length cap] ab]++aN sb mb es ck tv tr) S w_)
  have U:=fun (_:aC D 7 7=true)=>(⟨O,Y,Z,M,a3,a1,a4,a⟩:∃ O Y Z M,KnownM S O a0/\M.length+unb a0<=1000000/\Tr st a0 tr M/\Inv w X ([ay b3 #[ax k,ax n,.string s,eF b o [x,y].length cap] ab]++aN sb mb O Y Z M) S w_)
  obtain ⟨f,t,B,G,a⟩:∃ f t B G,Inv w X ([ay b3 #[ax k,ax n,.string s,eF b o [x,y].length cap] ab]++aN sb mb f t B G) S w_:=⟨O,Y,Z,M,a⟩
  rotate_left;obtain rfl:=cM ‹_›;obtain ⟨O,Y,Z,M,a3,a1,a4,a⟩:=U ‹D 7=true›;refine Run.callPure fn_i_holds nm_i_holds a (eQ r S) fun w_ a=>?_;have V:=fun (h:aC D 8 7=false)=>(Bool.noConfusion (h.symm.trans (show aC D 8 7=true from ‹D 7=true›)):Inv w X ([ay b3 #[ax k,ax n,.string s,eF b o [x,y].length cap] ab]++aN sb mb es ck tv tr) S w_)
  have U:=fun (_:aC D 8 7=true)=>(⟨O,Y,Z,M,a3,a1,a4,a⟩:∃ O Y Z M,KnownM S O a0/\M.length+unb a0<=1000000/\Tr st a0 tr M/\Inv w X ([ay b3 #[ax k,ax n,.string s,eF b o [x,y].length cap] ab]++aN sb mb O Y Z M) S w_)
  obtain ⟨f,t,B,G,a⟩:∃ f t B G,Inv w X ([ay b3 #[ax k,ax n,.string s,eF b o [x,y].length cap] ab]++aN sb mb f t B G) S w_:=⟨O,Y,Z,M,a⟩
  rotate_left;obtain rfl:=de ‹_›;rotate_left
  all_goals try exact ⟨J.set _ (by first|rfl|assumption|trivial),V,U,f,t,B,G,a⟩
  obtain ⟨rfl,rfl,rfl,rfl,rfl,rfl,rfl,rfl,rfl,rfl,_⟩:=J.all;have CQ:D 7=true:=by assumption
  clear J;obtain ⟨O,Y,Z,M,a3,a1,a4,a⟩:=U CQ;exact ⟨_,_,S,rfl,a.sub (eR [_] _),Ext.refl _ _ _,rfl,rfl,O,Y,Z,M,rfl,a3,a1,a4⟩
 refine bB (aJ (fun h=>?_) (fun h3=>?_))
 ·obtain ⟨x,y,rfl⟩:=nw (l:=ks) (by have:=i6 (by rw [h];decide +kernel) b0;omega);have hj:fx (.mk k n s [x,y])=.not x y:=by
   rw [fx,af (show ¬ (T.mk k n s [x,y]).name=io from h0),af (show ¬ (T.mk k n s [x,y]).name=jH from h1),af (show ¬ (T.mk k n s [x,y]).name=nEq from h2),ai (show (T.mk k n s [x,y]).name=nNe from h)];rfl
  rw [hj] at hB b1;obtain ⟨b,o,cap,c,E,fz,rfl,a7,hR⟩:=a8.ptr (by simp);obtain ⟨rfl,r,b6,hu,rfl⟩:=hB;have b4:okJ N (.one x y):=b1;refine aH (ad a 1 rfl iB ft rfl ?_);obtain ⟨ta,tn,tc,c5⟩:=a.rowSlice 3 rfl;have j0:tn=tr.length:=by
   have hm:w'.ownsRow 0 cR 1 tv tr.length (ints tr):=a.its (dI tv tr) (by simp [aN]);rcases hm.2 with ⟨e1,e2⟩|⟨g1,c1,u1,e1,_⟩
   ·rw [c5] at e1;simp only [Value.slice.injEq] at e1;omega
   ·rw [c5] at e1;simp only [Value.slice.injEq] at e1;omega
  obtain rfl:=j0;rw [c5];apply fJ cU;refine ⟨fun D x7 lL oF nz pD mn nj lS oC w_=>Fx D 0 [oC=ee sb,lS=eF b o [x,y].length cap,nj=eu b (o+0 * 4),mn=.agg (aO c (o+0 * 4) 4).toArray,pD=eF b o [x,y].length cap,nz=eu b (o+1 * 4),oF=.agg (aO c (o+1 * 4) 4).toArray,lL=.bool r,x7=.bool r]/\(D 7=false->Inv w X ([ay b3 #[ax k,ax n,.string s,eF b o [x,y].length cap] ab]++aN sb mb es ck tv tr) S w_)/\(D 7=true->∃ O Y Z M,KnownM S O b6/\M.length+unb b6<=1000000/\Tr a0 b6 tr M/\Inv w X ([ay b3 #[ax k,ax n,.string s,eF b o [x,y].length cap] ab]++aN sb mb O Y Z M) S w_)/\∃ f t B G,Inv w X ([ay b3 #[ax k,ax n,.string s,eF b o [x,y].length cap] ab]++aN sb mb f t B G) S w_,⟨Fx.nil _ _,⟨fun _=>a.draw,aU,es,ck,tv,tr,a.draw⟩⟩,⟨?_,?_,?_,?_,?_,?_,?_,?_,?_,trivial⟩,?_⟩;all_goals (intro D bw;intros;rename_i x7 lL oF nz pD mn nj lS oC w_ a6;have J:=a6.1;obtain ⟨⟨co,cn,bP,cj,cA,bQ,bO,cM,de,_⟩,⟨V,U,f,t,B,G,a⟩⟩:=a6)
  rotate_left;rotate_left;obtain rfl:=cn ‹_›;refine az (i:=0) ag (by simp) ?_;rotate_left
  obtain rfl:=bP ‹_›;refine bV ac (RdT.length (hR 0 (by simp))) (fun j v hj=>by rw [a.cellS a7];exact aA rfl j v hj) ?_;rotate_left;rotate_left
  obtain rfl:=cA ‹_›;refine az (i:=1) ag (by simp) ?_;rotate_left
  obtain rfl:=bQ ‹_›;refine bV ac (RdT.length (hR 1 (by simp))) (fun j v hj=>by rw [a.cellS a7];exact aA rfl j v hj) ?_;rotate_left
  obtain rfl:=co ‹_›;obtain rfl:=cj ‹_›;obtain rfl:=bO ‹_›;refine Run.callE (A:=[_]) fV fX (V bw) (jS hN hg b4 hu S _ _ sb mb ck es tv tr (hR 0 (by simp)) (hR 1 (by simp)) b8 b5) fun v' I' S' w_=>?_;rintro ⟨eS,rfl,O,Y,Z,M,rfl,a3,a1,a4⟩ _ a;rw [eS] at a;have V:=fun (h:aC D 7 7=false)=>(Bool.noConfusion h:Inv w X ([ay b3 #[ax k,ax n,.string s,eF b o [x,y].length cap] ab]++aN sb mb es ck tv tr) S w_)
  have U:=fun (_:aC D 7 7=true)=>(⟨O,Y,Z,M,a3,a1,a4,a⟩:∃ O Y Z M,KnownM S O b6/\M.length+unb b6<=1000000/\Tr a0 b6 tr M/\Inv w X ([ay b3 #[ax k,ax n,.string s,eF b o [x,y].length cap] ab]++aN sb mb O Y Z M) S w_)
  obtain ⟨f,t,B,G,a⟩:∃ f t B G,Inv w X ([ay b3 #[ax k,ax n,.string s,eF b o [x,y].length cap] ab]++aN sb mb f t B G) S w_:=⟨O,Y,Z,M,a⟩
  rotate_left;obtain rfl:=cM ‹_›;rotate_left
  all_goals try exact ⟨J.set _ (by first|rfl|assumption|trivial),V,U,f,t,B,G,a⟩
  obtain ⟨rfl,rfl,rfl,rfl,rfl,rfl,rfl,rfl,rfl,_⟩:=J.all;have CQ:D 7=true:=by assumption
  clear J;obtain ⟨O,Y,Z,M,a3,a1,⟨ns,rfl,i5,i7,_⟩,a⟩:=U CQ;have i0:(tr++ns).drop tr.length=ns:=by rw [WP]
  have j1:(tr++ns).take tr.length=tr:=by rw [IE]
  refine Run.callE (A:=[_]) nC nq a (zk (mark:=tr.length) a3 (by simp) (by rw [i0];intro n hn;obtain ⟨j,rfl,_⟩:=i7 n hn;omega) (by omega)) fun v' I' S' w'=>?_;rintro ⟨eS,rfl,i3,i4,rfl,c8⟩ _ a;rw [eS] at a;rw [i0,i5] at c8;rw [j1] at a;refine cq (Run.callPure fn_i_holds nm_i_holds a (eQ (!r) S) fun w' a=>?_);exact ⟨_,_,S,rfl,a.sub (eR [_] _),Ext.refl _ _ _,rfl,rfl,i3,Y,i4,tr,rfl,c8,b5,Tr.refl _ _⟩
 refine bB (aJ (fun h=>?_) (fun h4=>?_))
 ·obtain ⟨x,y,rfl⟩:=nw (l:=ks) (by have:=i6 (by rw [h];decide +kernel) b0;omega);have hj:fx (.mk k n s [x,y])=.done (fF (eqT x y)):=by
   rw [fx,af (show ¬ (T.mk k n s [x,y]).name=io from h0),af (show ¬ (T.mk k n s [x,y]).name=jH from h1),af (show ¬ (T.mk k n s [x,y]).name=nEq from h2),af (show ¬ (T.mk k n s [x,y]).name=nNe from h3),ai (show (T.mk k n s [x,y]).name=ql from h)];rfl
  rw [hj] at hB b1;obtain ⟨b,o,cap,c,E,fz,rfl,a7,hR⟩:=a8.ptr (by simp);refine ⟨fun D x4 z5 xN yU xj xH vC uk uB w_=>Fx D 0 [uB=eF b o [x,y].length cap,uk=eu b (o+0 * 4),vC=.agg (aO c (o+0 * 4) 4).toArray,xH=eF b o [x,y].length cap,xj=eu b (o+1 * 4),yU=.agg (aO c (o+1 * 4) 4).toArray,xN=.bool (eqT x y),z5=ax (fF (eqT x y)),x4=ax (fF (eqT x y))]/\Inv w X ([ay b3 #[ax k,ax n,.string s,eF b o [x,y].length cap] ab]++aN sb mb es ck tv tr) S w_,⟨Fx.nil _ _,a.draw⟩,⟨?_,?_,?_,?_,?_,?_,?_,?_,?_,trivial⟩,?_⟩;all_goals (intro D bw;intros;rename_i x4 z5 xN yU xj xH vC uk uB w_ a6;have J:=a6.1;obtain ⟨⟨co,cn,bP,cj,cA,bQ,bO,cM,de,_⟩,a⟩:=a6)
  rotate_left;obtain rfl:=co ‹_›;refine az (i:=0) ag (by simp) ?_;rotate_left
  obtain rfl:=cn ‹_›;refine bV ac (RdT.length (hR 0 (by simp))) (fun j v hj=>by rw [a.cellS a7];exact aA rfl j v hj) ?_;rotate_left;rotate_left
  obtain rfl:=cj ‹_›;refine az (i:=1) ag (by simp) ?_;rotate_left
  obtain rfl:=cA ‹_›;refine bV ac (RdT.length (hR 1 (by simp))) (fun j v hj=>by rw [a.cellS a7];exact aA rfl j v hj) ?_;rotate_left
  obtain rfl:=bP ‹_›;obtain rfl:=bQ ‹_›;refine Run.callPure qK qP a (rD x y S _ _ (hR 0 (by simp)) (hR 1 (by simp))) fun w_ a=>?_;rotate_left
  obtain rfl:=bO ‹_›;refine Run.callPure fn_i_holds nm_i_holds a (eQ _ S) fun w_ a=>?_;rotate_left
  obtain rfl:=cM ‹_›;rotate_left
  all_goals try exact ⟨J.set _ (by first|rfl|assumption|trivial),a⟩
  obtain ⟨rfl,rfl,rfl,rfl,rfl,rfl,rfl,rfl,rfl,_⟩:=J.all;clear J co cn bP cj cA bQ bO cM de;exact fin _ rfl hB a (a5 _)
 refine bB (aJ (fun h=>?_) (fun h5=>?_))
 ·obtain ⟨x,y,rfl⟩:=nw (l:=ks) (by have:=i6 (by rw [h];decide +kernel) b0;omega);have hj:fx (.mk k n s [x,y])=if (dg y).2≠0 then .done (dg y).2 else .uni x (KX (dg y).1):=by
   rw [fx,af (show ¬ (T.mk k n s [x,y]).name=io from h0),af (show ¬ (T.mk k n s [x,y]).name=jH from h1),af (show ¬ (T.mk k n s [x,y]).name=nEq from h2),af (show ¬ (T.mk k n s [x,y]).name=nNe from h3),af (show ¬ (T.mk k n s [x,y]).name=ql from h4),ai (show (T.mk k n s [x,y]).name=nIs from h)];rfl
  rw [hj] at hB b1;obtain ⟨b,o,cap,c,E,fz,rfl,a7,hR⟩:=a8.ptr (by simp);have ny:=ip hn.2 y (by simp);refine cL (i:=1) a a8 ag ac (by simp) (fun _ _=>RdT.length) fun ds c4=>?_;refine Run.callPure ph o7 a (qL y S ds c4 ny) fun w' a=>?_;refine al (v:=ax _) rfl (al (v:=ax _) rfl (dw (aE (fun h6=>?_) (fun h6=>?_))))
  ·simp at h6;exact fin _ (ai h6) hB a (a5 _)
  simp at h6;rw [af (by simp [h6])] at hB b1;obtain ⟨r,hu,rfl⟩:=hB;have b4:okJ N (.one x (KX (dg y).1)):=b1;have j2:=oW y ny;unfold Sm at j2;refine ⟨fun D x4 yr AF xA yf Ar ze ud Bw w_=>Fx D 0 [Bw=ee sb,ud=eF b o [x,y].length cap,ze=eu b (o+0 * 4),Ar=.agg (aO c (o+0 * 4) 4).toArray,yf=ax (dg y).1,xA=.agg #[ax 2,ax (dg y).1,.string ⟨#[]⟩,hV],AF=.bool r,yr=ax (fF r),x4=ax (fF r)]/\(D 6=false->Inv w X ([ay b3 #[ax k,ax n,.string s,eF b o [x,y].length cap] ab]++aN sb mb es ck tv tr) S w_)/\(D 6=true->∃ O Y Z M,KnownM S O a0/\M.length+unb a0<=1000000/\Tr st a0 tr M/\Inv w X ([ay b3 #[ax k,ax n,.string s,eF b o [x,y].length cap] ab]++aN sb mb O Y Z M) S w_)/\∃ f t B G,Inv w X ([ay b3 #[ax k,ax n,.string s,eF b o [x,y].length cap] ab]++aN sb mb f t B G) S w_,⟨Fx.nil _ _,⟨fun _=>a.draw,aU,es,ck,tv,tr,a.draw⟩⟩,⟨?_,?_,?_,?_,?_,?_,?_,?_,?_,trivial⟩,?_⟩;all_goals (intro D bw;intros;rename_i x4 yr AF xA yf Ar ze ud Bw w_ a6;have J:=a6.1;obtain ⟨⟨co,cn,bP,cj,cA,bQ,bO,cM,de,_⟩,⟨V,U,f,t,B,G,a⟩⟩:=a6)
  rotate_left;rotate_left;obtain rfl:=cn ‹_›;refine az (i:=0) ag (by simp) ?_;rotate_left
  obtain rfl:=bP ‹_›;refine bV ac (RdT.length (hR 0 (by simp))) (fun j v hj=>by rw [a.cellS a7];exact aA rfl j v hj) ?_;rotate_left;rotate_left
  obtain rfl:=cA ‹_›;have f6:D 6=D 6:=rfl;cases c3:D 6
  ·refine Run.callPure EM Gd (V c3) (u7 _ S) fun w_ a=>?_;have V:=fun (_:aC D 5 6=false)=>a;have U:=fun (h:aC D 5 6=true)=>(Bool.noConfusion (c3.symm.trans h):∃ O Y Z M,KnownM S O a0/\M.length+unb a0<=1000000/\Tr st a0 tr M/\Inv w X ([ay b3 #[ax k,ax n,.string s,eF b o [x,y].length cap] ab]++aN sb mb O Y Z M) S w_)
   obtain ⟨f,t,B,G,a⟩:∃ f t B G,Inv w X ([ay b3 #[ax k,ax n,.string s,eF b o [x,y].length cap] ab]++aN sb mb f t B G) S w_:=⟨es,ck,tv,tr,a⟩
   exact ⟨J.set 5 rfl,V,U,f,t,B,G,a⟩
  obtain ⟨O,Y,Z,M,a3,a1,a4,a⟩:=U c3;refine Run.callPure EM Gd a (u7 _ S) fun w_ a=>?_;have V:=fun (h:aC D 5 6=false)=>(Bool.noConfusion (h.symm.trans c3):Inv w X ([ay b3 #[ax k,ax n,.string s,eF b o [x,y].length cap] ab]++aN sb mb es ck tv tr) S w_)
  have U:=fun (_:aC D 5 6=true)=>(⟨O,Y,Z,M,a3,a1,a4,a⟩:∃ O Y Z M,KnownM S O a0/\M.length+unb a0<=1000000/\Tr st a0 tr M/\Inv w X ([ay b3 #[ax k,ax n,.string s,eF b o [x,y].length cap] ab]++aN sb mb O Y Z M) S w_)
  obtain ⟨f,t,B,G,a⟩:∃ f t B G,Inv w X ([ay b3 #[ax k,ax n,.string s,eF b o [x,y].length cap] ab]++aN sb mb f t B G) S w_:=⟨O,Y,Z,M,a⟩
  rotate_left;obtain rfl:=co ‹_›;obtain rfl:=cj ‹_›;obtain rfl:=bQ ‹_›;refine Run.callE (A:=[_]) fV fX (V bw) (jS hN hg b4 hu S _ _ sb mb ck es tv tr (hR 0 (by simp)) (rH (by simp [inI]) (by simp only [inI];omega)) b8 b5) fun v' I' S' w_=>?_;rintro ⟨eS,rfl,O,Y,Z,M,rfl,a3,a1,a4⟩ _ a;rw [eS] at a;have V:=fun (h:aC D 6 6=false)=>(Bool.noConfusion h:Inv w X ([ay b3 #[ax k,ax n,.string s,eF b o [x,y].length cap] ab]++aN sb mb es ck tv tr) S w_)
  have U:=fun (_:aC D 6 6=true)=>(⟨O,Y,Z,M,a3,a1,a4,a⟩:∃ O Y Z M,KnownM S O a0/\M.length+unb a0<=1000000/\Tr st a0 tr M/\Inv w X ([ay b3 #[ax k,ax n,.string s,eF b o [x,y].length cap] ab]++aN sb mb O Y Z M) S w_)
  obtain ⟨f,t,B,G,a⟩:∃ f t B G,Inv w X ([ay b3 #[ax k,ax n,.string s,eF b o [x,y].length cap] ab]++aN sb mb f t B G) S w_:=⟨O,Y,Z,M,a⟩
  rotate_left;obtain rfl:=bO ‹_›;obtain ⟨O,Y,Z,M,a3,a1,a4,a⟩:=U ‹D 6=true›;refine Run.callPure fn_i_holds nm_i_holds a (eQ r S) fun w_ a=>?_;have V:=fun (h:aC D 7 6=false)=>(Bool.noConfusion (h.symm.trans (show aC D 7 6=true from ‹D 6=true›)):Inv w X ([ay b3 #[ax k,ax n,.string s,eF b o [x,y].length cap] ab]++aN sb mb es ck tv tr) S w_)
  have U:=fun (_:aC D 7 6=true)=>(⟨O,Y,Z,M,a3,a1,a4,a⟩:∃ O Y Z M,KnownM S O a0/\M.length+unb a0<=1000000/\Tr st a0 tr M/\Inv w X ([ay b3 #[ax k,ax n,.string s,eF b o [x,y].length cap] ab]++aN sb mb O Y Z M) S w_)
  obtain ⟨f,t,B,G,a⟩:∃ f t B G,Inv w X ([ay b3 #[ax k,ax n,.string s,eF b o [x,y].length cap] ab]++aN sb mb f t B G) S w_:=⟨O,Y,Z,M,a⟩
  rotate_left;obtain rfl:=cM ‹_›;rotate_left
  all_goals try exact ⟨J.set _ (by first|rfl|assumption|trivial),V,U,f,t,B,G,a⟩
  obtain ⟨rfl,rfl,rfl,rfl,rfl,rfl,rfl,rfl,rfl,_⟩:=J.all;have XC:D 6=true:=by assumption
  clear J;obtain ⟨O,Y,Z,M,a3,a1,a4,a⟩:=U XC;exact ⟨_,_,S,rfl,a.sub (eR [_] _),Ext.refl _ _ _,rfl,rfl,O,Y,Z,M,rfl,a3,a1,a4⟩
 refine bB (aJ (fun h=>?_) (fun g1=>?_))
 ·obtain ⟨x,rfl⟩:=HN (l:=ks) (by
    rcases sa b0 h0 h1 h2 h3 h4 h5 b2 with ⟨_,h⟩|⟨h',_⟩
    ·omega
    ·rw [h] at h';exact absurd h' (by decide +kernel))
  have hj:fx (.mk k n s [x])=.done (fF (nQ s x)):=by
   rw [fx,af (show ¬ (T.mk k n s [x]).name=io from h0),af (show ¬ (T.mk k n s [x]).name=jH from h1),af (show ¬ (T.mk k n s [x]).name=nEq from h2),af (show ¬ (T.mk k n s [x]).name=nNe from h3),af (show ¬ (T.mk k n s [x]).name=ql from h4),af (show ¬ (T.mk k n s [x]).name=nIs from h5),af (show ¬ (T.mk k n s [x]).name=GM from by rw [show (T.mk k n s [x]).name=s from rfl,h];decide +kernel),show (T.mk k n s [x]).name=s from rfl,b2,af (by decide)];rfl
  rw [hj] at hB;have ht:nQ s x=decide (x.kind=1):=by rw [h];rfl
  refine tw a a8 ag aM aw (i:=0) (by simp) (fun cs a9=>RdT.f0 a9) (bn ?_);exact Run.callPure fn_i_holds nm_i_holds a (eQ _ S) fun w' a=>fin _ (by rw [ht];rfl) hB a (a5 _)
 refine bB (aJ (fun h=>?_) (fun g2=>?_))
 ·obtain ⟨x,rfl⟩:=HN (l:=ks) (by
    rcases sa b0 h0 h1 h2 h3 h4 h5 b2 with ⟨_,h⟩|⟨h',_⟩
    ·omega
    ·rw [h] at h';exact absurd h' (by decide +kernel))
  have hj:fx (.mk k n s [x])=.done (fF (nQ s x)):=by
   rw [fx,af (show ¬ (T.mk k n s [x]).name=io from h0),af (show ¬ (T.mk k n s [x]).name=jH from h1),af (show ¬ (T.mk k n s [x]).name=nEq from h2),af (show ¬ (T.mk k n s [x]).name=nNe from h3),af (show ¬ (T.mk k n s [x]).name=ql from h4),af (show ¬ (T.mk k n s [x]).name=nIs from h5),af (show ¬ (T.mk k n s [x]).name=GM from by rw [show (T.mk k n s [x]).name=s from rfl,h];decide +kernel),show (T.mk k n s [x]).name=s from rfl,b2,af (by decide)];rfl
  rw [hj] at hB;have ht:nQ s x=!decide (x.kind=1):=by rw [h];rfl
  refine tw a a8 ag aM aw (i:=0) (by simp) (fun cs a9=>RdT.f0 a9) (dw ?_);exact Run.callPure fn_i_holds nm_i_holds a (eQ _ S) fun w' a=>fin _ (by rw [ht];rfl) hB a (a5 _)
 refine bB (aJ (fun h=>?_) (fun g3=>?_))
 ·obtain ⟨x,rfl⟩:=HN (l:=ks) (by
    rcases sa b0 h0 h1 h2 h3 h4 h5 b2 with ⟨_,h⟩|⟨h',_⟩
    ·omega
    ·rw [h] at h';exact absurd h' (by decide +kernel))
  have hj:fx (.mk k n s [x])=.done (fF (nQ s x)):=by
   rw [fx,af (show ¬ (T.mk k n s [x]).name=io from h0),af (show ¬ (T.mk k n s [x]).name=jH from h1),af (show ¬ (T.mk k n s [x]).name=nEq from h2),af (show ¬ (T.mk k n s [x]).name=nNe from h3),af (show ¬ (T.mk k n s [x]).name=ql from h4),af (show ¬ (T.mk k n s [x]).name=nIs from h5),af (show ¬ (T.mk k n s [x]).name=GM from by rw [show (T.mk k n s [x]).name=s from rfl,h];decide +kernel),show (T.mk k n s [x]).name=s from rfl,b2,af (by decide)];rfl
  rw [hj] at hB;have ht:nQ s x=(decide (x.kind=3) && decide (x.kids.length=0)):=by rw [h];rfl
  refine cL (i:=0) a a8 ag ac (by simp) (fun _ _=>RdT.length) fun ds c4=>?_;refine Run.callPure FB EK a (Bc c4) fun w' a=>?_;exact Run.callPure fn_i_holds nm_i_holds a (eQ _ S) fun w' a=>fin _ (by rw [ht];rfl) hB a (a5 _)
 refine bB (aJ (fun h=>?_) (fun g4=>?_))
 ·obtain ⟨x,rfl⟩:=HN (l:=ks) (by
    rcases sa b0 h0 h1 h2 h3 h4 h5 b2 with ⟨_,h⟩|⟨h',_⟩
    ·omega
    ·rw [h] at h';exact absurd h' (by decide +kernel))
  have hj:fx (.mk k n s [x])=.done (fF (nQ s x)):=by
   rw [fx,af (show ¬ (T.mk k n s [x]).name=io from h0),af (show ¬ (T.mk k n s [x]).name=jH from h1),af (show ¬ (T.mk k n s [x]).name=nEq from h2),af (show ¬ (T.mk k n s [x]).name=nNe from h3),af (show ¬ (T.mk k n s [x]).name=ql from h4),af (show ¬ (T.mk k n s [x]).name=nIs from h5),af (show ¬ (T.mk k n s [x]).name=GM from by rw [show (T.mk k n s [x]).name=s from rfl,h];decide +kernel),show (T.mk k n s [x]).name=s from rfl,b2,af (by decide)];rfl
  rw [hj] at hB;have ht:nQ s x=decide (x.kind=2):=by rw [h];rfl
  refine tw a a8 ag aM aw (i:=0) (by simp) (fun cs a9=>RdT.f0 a9) (bn ?_);exact Run.callPure fn_i_holds nm_i_holds a (eQ _ S) fun w' a=>fin _ (by rw [ht];rfl) hB a (a5 _)
 have i1:s=GM/\ks.length=3:=by
  rcases sa b0 h0 h1 h2 h3 h4 h5 b2 with ⟨ht,_⟩|⟨h,hl⟩
  ·rw [dy,ET] at ht;obtain ⟨x,hx,hd⟩:=ht;have hd:=of_decide_eq_true hd;simp only [yt,cw,ic,g9] at hx;rcases hx with rfl|rfl|rfl|rfl
   ·exact absurd hd g1
   ·exact absurd hd g2
   ·exact absurd hd g3
   ·exact absurd hd g4
  ·exact ⟨h,by omega⟩
 obtain ⟨h,hl⟩:=i1;obtain ⟨x,y,z,rfl⟩:=RE hl;have hj:fx (.mk k n s [x,y,z])=uS x y z:=by
  rw [fx,af (show ¬ (T.mk k n s [x,y,z]).name=io from h0),af (show ¬ (T.mk k n s [x,y,z]).name=jH from h1),af (show ¬ (T.mk k n s [x,y,z]).name=nEq from h2),af (show ¬ (T.mk k n s [x,y,z]).name=nNe from h3),af (show ¬ (T.mk k n s [x,y,z]).name=ql from h4),af (show ¬ (T.mk k n s [x,y,z]).name=nIs from h5),ai (show (T.mk k n s [x,y,z]).name=GM from h)];rfl
 rw [hj] at hB b1;obtain ⟨b,o,cap,c,E,fz,rfl,a7,hR⟩:=a8.ptr (by simp);have hx:=hR 0 (by simp);have hy:=hR 1 (by simp);have hz:=hR 2 (by simp);obtain ⟨kx,c0,_,g7,_,_⟩:=RdT.iff.1 hx;obtain ⟨ky,b9,_,_,_,b7⟩:=RdT.iff.1 hy;have hx:RdT S (aO c (o+0 * 4) 4) x:=hx;have hy:RdT S (aO c (o+1 * 4) 4) y:=hy;have c0:aO c (o+0 * 4) 4=(hJ x kx):=c0;have b9:aO c (o+1 * 4) 4=(hJ y ky):=b9;have b7:RdSl S 4 (RdT S) ky y.kids:=b7;have g7:inI x.n:=g7;have i2:=b7.le;simp only [maxLen] at i2;refine ⟨fun q w'=>q=.bool (decide (x.kind=1 ∨ y.kind=1))/\Inv w X ([ay b3 #[ax k,ax n,.string s,eF b o [x,y,z].length cap] ab]++aN sb mb es ck tv tr) S w',?_,?_⟩
 ·refine tw a a8 ag aM aw (i:=0) (by simp) (fun cs a9=>RdT.f0 a9) (bn ?_);have e0:([x,y,z]:List T)[0]=x:=rfl;rw [e0];cases k1:decide (x.kind=1)
  ·refine rpG ?_;refine tw a a8 ag aM aw (i:=1) (by simp) (fun cs a9=>RdT.f0 a9) (bn ?_);refine rpG ?_;have:=of_decide_eq_false k1;refine ⟨?_,a⟩;rw [Value.bool.injEq,dJ];exact ⟨.inr,fun h=>h.resolve_left this⟩
  ·refine rpG ?_;exact ⟨by rw [aL (.inl (of_decide_eq_true k1))],a⟩
 intro q _ _ _ _ _ _ _ _ _ _ _ _ w';rintro ⟨rfl,a⟩;refine aJ (fun k1=>fin 2 (by rw [uS,ai k1]) hB a (a5 _)) (fun k1=>?_);have el:decide ((y.kids.length:Int)=0)=decide (y.kids.length=0):=by rw [dJ];omega
 refine ⟨fun q w'=>q=.bool (decide (x.kind≠2 ∨ y.kind≠3 ∨ y.kids.length=0))/\Inv w X ([ay b3 #[ax k,ax n,.string s,eF b o [x,y,z].length cap] ab]++aN sb mb es ck tv tr) S w',?_,?_⟩
 ·refine tw a a8 ag aM aw (i:=0) (by simp) (fun cs a9=>RdT.f0 a9) (dw ?_);have e0:([x,y,z]:List T)[0]=x:=rfl;rw [e0];cases q2:decide (x.kind=2)
  ·refine rpG ?_;exact ⟨by rw [aL (.inl (of_decide_eq_false q2))],a⟩
  have q2:=of_decide_eq_true q2;refine rpG ?_;refine tw a a8 ag aM aw (i:=1) (by simp) (fun cs a9=>RdT.f0 a9) (dw ?_);have e1:([x,y,z]:List T)[1]=y:=rfl;rw [e1];cases q3:decide (y.kind=3)
  ·refine rpG ?_;exact ⟨by rw [aL (.inr (.inl (of_decide_eq_false q3)))],a⟩
  have q3:=of_decide_eq_true q3;refine rpG ?_;refine az (i:=1) ag (by simp) (ah ao (cS aj (by rw [a.cellS a7];exact aA b9 3 _ rfl) (aI b7 ag (bn ?_))));rw [el];refine rpG ?_;refine ⟨?_,a⟩;rw [Value.bool.injEq,dJ];simp [q2,q3]
 intro q;(iterate 20 intro);intro w';rintro ⟨rfl,a⟩;refine aJ (fun k2=>fin 3 (by rw [uS,af k1,ai k2]) hB a (a5 _)) (fun k2=>?_);have j3:(decide (1<=x.n) && decide (x.n<=(y.kids.length:Int)))=!decide (x.n<1 ∨ (y.kids.length:Int)<x.n):=by
  by_cases h8:x.n<1
  ·simp [h8];omega
  ·by_cases h9:(y.kids.length:Int)<x.n
   ·simp [h9]
   ·simp [h8,h9];omega
 refine ⟨fun D Z0 c9 d0 d1 d2 d3 d4 d6 d7 d9 Zm Y9 w_=>Fx D 0 [Y9=eF b o [x,y,z].length cap,Zm=eu b (o+0 * 4),d9=eu b (o+0 * 4+1),d7=ax x.n,d6=eF b o [x,y,z].length cap,d4=eu b (o+1 * 4),d3=eu b (o+1 * 4+3),d2=ky,d1=ax y.kids.length,d0=.bool (!decide (x.n<1 ∨ (y.kids.length:Int)<x.n)),c9=.bool (decide (x.n<1 ∨ (y.kids.length:Int)<x.n)),Z0=.bool (decide (x.n<1 ∨ (y.kids.length:Int)<x.n))]/\Inv w X ([ay b3 #[ax k,ax n,.string s,eF b o [x,y,z].length cap] ab]++aN sb mb es ck tv tr) S w_,⟨Fx.nil _ _,a.draw⟩,⟨?_,?_,?_,?_,?_,?_,?_,?_,?_,?_,?_,?_,trivial⟩,?_⟩;all_goals (intro D bw;intros;rename_i Z0 c9 d0 d1 d2 d3 d4 d6 d7 d9 Zm Y9 w_ a6;have J:=a6.1;obtain ⟨⟨co,cn,bP,cj,cA,bQ,bO,cM,de,dv,bU,cC,_⟩,a⟩:=a6)
 rotate_left;obtain rfl:=co ‹_›;refine az (i:=0) ag (by simp) ?_;rotate_left
 obtain rfl:=cn ‹_›;apply ah aQ;rotate_left
 obtain rfl:=bP ‹_›;refine cS aw (by rw [a.cellS a7];exact aA c0 1 _ rfl) ?_;rotate_left;rotate_left
 obtain rfl:=cA ‹_›;refine az (i:=1) ag (by simp) ?_;rotate_left
 obtain rfl:=bQ ‹_›;apply ah ao;rotate_left
 obtain rfl:=bO ‹_›;refine cS aj (by rw [a.cellS a7];exact aA b9 3 _ rfl) ?_;rotate_left
 obtain rfl:=cM ‹_›;apply aI b7 ag;rotate_left
 obtain rfl:=cj ‹_›;obtain rfl:=de ‹_›;refine Run.callPure iA iv a (gK _ _ _ S) fun w_ a=>?_;rw [j3];rotate_left
 obtain rfl:=dv ‹_›;apply cq;rw [Bool.not_not];rotate_left
 obtain rfl:=bU ‹_›;rotate_left
 all_goals try exact ⟨J.set _ (by first|rfl|assumption|trivial),a⟩
 obtain ⟨rfl,rfl,rfl,rfl,rfl,rfl,rfl,rfl,rfl,rfl,rfl,rfl,_⟩:=J.all;clear J co cn bP cj cA bQ bO cM de dv bU cC;refine aJ (fun k3=>fin 1 (by rw [uS,af k1,af k2,ai k3]) hB a (a5 _)) (fun k3=>?_);obtain ⟨m,hm⟩:∃ m:Nat,x.n=(m:Int)+1:=⟨(x.n - 1).toNat,by omega⟩
 have c7:m<y.kids.length:=by omega
 have j4:kd y (x.n.toNat - 1)=y.kids[m]:=by
  have e1:x.n.toNat - 1=m:=by omega
  rw [e1,kd,MI,gd c7];rfl
 have j5:uS x y z=.uni z y.kids[m]:=by rw [uS,af k1,af k2,af k3,j4]
 rw [j5] at hB b1;obtain ⟨r,hu,rfl⟩:=hB;have b4:okJ N (.one z y.kids[m]):=b1;obtain ⟨c2,o2,g8,a2,E2,j7,rfl,i8,h7⟩:=b7.at_ c7;refine ⟨fun D x4 e3 e4 e5 e6 e7 e8 e9 f1 f2 f3 f4 f5 f7 f8 f9 g0 g5 w_=>Fx D 0 [g5=ee sb,g0=eF b o [x,y,z].length cap,f9=eu b (o+2 * 4),f8=.agg (aO c (o+2 * 4) 4).toArray,f7=eF b o [x,y,z].length cap,f5=eu b (o+1 * 4),f4=eu b (o+1 * 4+3),f3=eF c2 o2 y.kids.length g8,f2=eF b o [x,y,z].length cap,f1=eu b (o+0 * 4),e9=eu b (o+0 * 4+1),e8=ax x.n,e7=ax m,e6=eu c2 (o2+m * 4),e5=.agg (aO a2 (o2+m * 4) 4).toArray,e4=.bool r,e3=ax (fF r),x4=ax (fF r)]/\(D 15=false->Inv w X ([ay b3 #[ax k,ax n,.string s,eF b o [x,y,z].length cap] ab]++aN sb mb es ck tv tr) S w_)/\(D 15=true->∃ O Y Z M,KnownM S O a0/\M.length+unb a0<=1000000/\Tr st a0 tr M/\Inv w X ([ay b3 #[ax k,ax n,.string s,eF b o [x,y,z].length cap] ab]++aN sb mb O Y Z M) S w_)/\∃ f t B G,Inv w X ([ay b3 #[ax k,ax n,.string s,eF b o [x,y,z].length cap] ab]++aN sb mb f t B G) S w_,⟨Fx.nil _ _,⟨fun _=>a.draw,aU,es,ck,tv,tr,a.draw⟩⟩,⟨?_,?_,?_,?_,?_,?_,?_,?_,?_,?_,?_,?_,?_,?_,?_,?_,?_,?_,trivial⟩,?_⟩;all_goals (intro D bw;intros;rename_i x4 e3 e4 e5 e6 e7 e8 e9 f1 f2 f3 f4 f5 f7 f8 f9 g0 g5 w_ a6;have J:=a6.1;obtain ⟨⟨co,cn,bP,cj,cA,bQ,bO,cM,de,dv,bU,cC,cY,dK,dd,ek,eH,fl,_⟩,⟨V,U,f,t,B,G,a⟩⟩:=a6)
 rotate_left;rotate_left;obtain rfl:=cn ‹_›;refine az (i:=2) ag (by simp) ?_;rotate_left
 obtain rfl:=bP ‹_›;refine bV ac (RdT.length (hR 2 (by simp))) (fun j v hj=>by rw [a.cellS a7];exact aA rfl j v hj) ?_;rotate_left;rotate_left
 obtain rfl:=cA ‹_›;refine az (i:=1) ag (by simp) ?_;rotate_left
 obtain rfl:=bQ ‹_›;apply ah ao;rotate_left
 obtain rfl:=bO ‹_›;refine cS aj (by rw [a.cellS a7];exact aA b9 3 _ rfl) ?_;rotate_left;rotate_left
 obtain rfl:=de ‹_›;refine az (i:=0) ag (by simp) ?_;rotate_left
 obtain rfl:=dv ‹_›;apply ah aQ;rotate_left
 obtain rfl:=bU ‹_›;refine cS aw (by rw [a.cellS a7];exact aA c0 1 _ rfl) ?_;rotate_left
 ·obtain rfl:=cC ‹_›;refine je (by omega) ?_;rw [show x.n - 1=(m:Int) by omega];exact ⟨J.set 12 rfl,V,U,f,t,B,G,a⟩
 obtain rfl:=cM ‹_›;obtain rfl:=cY ‹_›;apply az ag c7;rotate_left
 obtain rfl:=dK ‹_›;refine bV ac h7.length (fun j v hj=>by rw [a.cellS i8];exact aA rfl j v hj) ?_;rotate_left
 obtain rfl:=co ‹_›;obtain rfl:=cj ‹_›;obtain rfl:=dd ‹_›;refine Run.callE (A:=[_]) fV fX (V bw) (jS hN hg b4 hu S _ _ sb mb ck es tv tr hz h7 b8 b5) fun v' I' S' w_=>?_;rintro ⟨eS,rfl,O,Y,Z,M,rfl,a3,a1,a4⟩ _ a;rw [eS] at a;have V:=fun (h:aC D 15 15=false)=>(Bool.noConfusion h:Inv w X ([ay b3 #[ax k,ax n,.string s,eF b o [x,y,z].length cap] ab]++aN sb mb es ck tv tr) S w_)
 have U:=fun (_:aC D 15 15=true)=>(⟨O,Y,Z,M,a3,a1,a4,a⟩:∃ O Y Z M,KnownM S O a0/\M.length+unb a0<=1000000/\Tr st a0 tr M/\Inv w X ([ay b3 #[ax k,ax n,.string s,eF b o [x,y,z].length cap] ab]++aN sb mb O Y Z M) S w_)
 obtain ⟨f,t,B,G,a⟩:∃ f t B G,Inv w X ([ay b3 #[ax k,ax n,.string s,eF b o [x,y,z].length cap] ab]++aN sb mb f t B G) S w_:=⟨O,Y,Z,M,a⟩
 rotate_left;obtain rfl:=ek ‹_›;obtain ⟨O,Y,Z,M,a3,a1,a4,a⟩:=U ‹D 15=true›;refine Run.callPure fn_i_holds nm_i_holds a (eQ r S) fun w_ a=>?_;have V:=fun (h:aC D 16 15=false)=>(Bool.noConfusion (h.symm.trans (show aC D 16 15=true from ‹D 15=true›)):Inv w X ([ay b3 #[ax k,ax n,.string s,eF b o [x,y,z].length cap] ab]++aN sb mb es ck tv tr) S w_)
 have U:=fun (_:aC D 16 15=true)=>(⟨O,Y,Z,M,a3,a1,a4,a⟩:∃ O Y Z M,KnownM S O a0/\M.length+unb a0<=1000000/\Tr st a0 tr M/\Inv w X ([ay b3 #[ax k,ax n,.string s,eF b o [x,y,z].length cap] ab]++aN sb mb O Y Z M) S w_)
 obtain ⟨f,t,B,G,a⟩:∃ f t B G,Inv w X ([ay b3 #[ax k,ax n,.string s,eF b o [x,y,z].length cap] ab]++aN sb mb f t B G) S w_:=⟨O,Y,Z,M,a⟩
 rotate_left;obtain rfl:=eH ‹_›;rotate_left
 all_goals try exact ⟨J.set _ (by first|rfl|assumption|trivial),V,U,f,t,B,G,a⟩
 obtain ⟨rfl,rfl,rfl,rfl,rfl,rfl,rfl,rfl,rfl,rfl,rfl,rfl,rfl,rfl,rfl,rfl,rfl,rfl,_⟩:=J.all;have j6:D 15=true:=by assumption
 clear J;obtain ⟨O,Y,Z,M,a3,a1,a4,a⟩:=U j6;exact ⟨_,_,S,rfl,a.sub (eR [_] _),Ext.refl _ _ _,rfl,rfl,O,Y,Z,M,rfl,a3,a1,a4⟩
end
end
section
open Go Go.RowKit
theorem KnownM.up {S S':ae} {a:Array MapEntry} {st:au} (h:KnownM S a st) (f:Sle S S'):KnownM S' a st:=
 ⟨fun e g=>by
  obtain ⟨n,t,cs,i,j,l,m⟩:=h.1 e g;exact ⟨n,t,cs,i,j,l.mono f,m⟩,h.2⟩
theorem StS.up {S S':ae} {sb:Nat} {st:au} (h:StS S S sb st) (a:Sle S S'):StS S' S' sb st:=by
 obtain ⟨mb,tv,f,ck,E,g,i,j⟩:=h;exact ⟨mb,tv,f,ck,E,a _ _ g,a _ _ i,j.up a⟩
def okR (u:T) (deep count:Int):Bool:=decide (count+ez u<=120) && uX u (31 - deep)
def RC (st:au) (sb:Nat) (t u:T):Prop:=∀ (S:ae) (cs:List Value) (cb:Nat) (deep count:Int),RdT S cs t->StS S S sb st->1<=deep->deep<=1000000->0<=count->count<=1000000->
 Tri Tryz.prog xV [ee sb,.agg cs.toArray,ax deep,ee cb] [ay cb #[ax count] cR] S fun q I' S'=>
  ∃ (cs':List Value) (c':Int),q=.tuple #[.agg cs'.toArray,.bool (okR u deep count)]/\I'=[ay cb #[ax c'] cR]/\cs'.length=4/\(∀ x∈cs',x.oneCell'=true)/\(okR u deep count=true->c'=count+ez u/\RdT S' cs' u)
section
theorem HQ {N:Nat} {st:au} {sb:Nat} {t v:T} {us:List T} (hg:Good N st) (a9:dL st t v) (b0:okU N t/\wT t<=1048576) (e0:us.length=v.kids.length)
  (hk:∀ i (h:i<us.length) (h':i<v.kids.length),RC st sb v.kids[i] us[i]):RC st sb t (.mk v.kind v.n v.name us):=by
 intro S cs o g f h b1 e2 e3 e4 e5 w a;have b7:=h.length;have d0:=dS hg a9 b0;obtain ⟨X,hX⟩:∃ X,X=bS [Item.blk o (.cells #[ax f] cR)]:=⟨_,rfl⟩
 rw [<- hX] at a ⊢;have f0:=eK us;have B:okR (.mk v.kind v.n v.name us) g f=(decide (f+(1+dx us)<=120) && (if 31 - g<1 then false else Xl us (31 - g - 1))):=by
  rw [okR,jz,uX]
 apply mM.2;dsimp only[mM,lQ];refine bq a fun J w' a=>?_;refine aG a aV fun O w' a=>?_;have a:Inv w X ([ay J cs.toArray ab,ay O bb ab]++[ay o #[ax f] cR]) S w':=a.perm (cT (l₁:=[_,_]) (l₂:=[_]));refine av a 0 ac rfl (by simpa using b7) (Run.call0 ku kl a (nU hg a9 b0.1 b1 h) fun v' I' S' w'=>?_);rintro ⟨eS,rfl,e6,rfl,U⟩ _ a;rw [eS] at a;clear eS;refine aq a 0 rfl ac (by simpa using U.length) (by simpa using b7) (by simpa using U.one) fun w' a=>?_;obtain ⟨kv,rfl,c7,c8,hs,a8⟩:=RdT.iff.1 U;have a:Inv w X [ay J (gn v kv) ab,ay O bb ab,ay o #[ax f] cR] S w':=a;have d6:=a8.le;have f1:v.kids.length<=1048576:=by
  have:=d0.2;cases v;simp only [wT] at this;simp only [T.kids];omega
 refine aH (aD a 2 aw rfl rfl (bA (by omega) (aH (dD a 2 (n:=1) rfl (by decide +kernel) rfl (by simp) (by simp [Value.cells,Value.oneCell']) fun w' a=>?_))));have a:Inv w X [ay J (gn v kv) ab,ay O bb ab,ay o #[ax (f+1)] cR] S w':=a;refine ⟨fun q w'=>q=.bool (decide (120<f+1 ∨ 30<g))/\Inv w X [ay J (gn v kv) ab,ay O bb ab,ay o #[ax (f+1)] cR] S w',?_,?_⟩
 ·refine aH (aD a 2 aw rfl rfl (ew ?_));by_cases e1:120<f+1
  ·rw [aL e1];refine rpG ?_;exact ⟨by rw [aL (Or.inl e1)],a⟩
  ·rw [aS e1];refine rpG ?_;apply ew;refine rpG ?_;refine ⟨?_,a⟩
   congr 1
   rw [qt,bt,bt];omega
 intro q _ _ _ _ _ _ _ w';rintro ⟨rfl,a⟩;refine aJ (fun b3=>?_) (fun c3=>?_)
 ·have Z:okR (.mk v.kind v.n v.name us) g f=false:=by
   rw [B];rcases b3 with e|e
   ·rw [aS (by omega),jZ]
   ·rw [ai (by omega),m5]
  refine iF (aq a 1 rfl ac rfl rfl mP fun w' a=>?_);apply bm a 1 ac rfl rfl;exact ⟨_,_,_,rfl,a.pick [false,false,true],Ext.refl _ _ _,[ax 0,ax 0,.string ⟨#[]⟩,hV],f+1,by rw [Z],rfl,rfl,mP,fun h=>by rw [Z] at h;cases h⟩
 have d1:f+1<=120:=by omega
 have f2:g<=30:=by omega
 rw [af (by omega)] at B;refine ad a 0 rfl aM aw rfl ?_;refine ad a 0 rfl aQ aw rfl ?_;refine ad a 0 rfl aW aP rfl ?_;refine jp ?_;refine aG a aV fun m w' a=>?_;have a:Inv w X [ay J (gn v kv) ab,ay O bb ab,.blk m _,ay o #[ax (f+1)] cR] S w':=a.perm (((cT (l₁:=[_]) (l₂:=[_])).cons _).cons _);refine aq a 2 rfl ac rfl rfl (by simp [Value.oneCell']) fun w' a=>?_;have a:=a.rowNil ab 4;have a:Inv w X [ay J (gn v kv) ab,ay O bb ab,ay m (gn v (hV)) ab,aK (hV) ab 4 [],ay o #[ax (f+1)] cR] S w':=a.perm ((((cT (l₁:=[_]) (l₂:=[_])).cons _).cons _).cons _);refine ad a 0 rfl ao aj rfl ?_;refine aI a8 ag ?_;refine ⟨fun i w'=>∃ (j:Nat) (c:Int) (l:Value) (css:List (hZ)) (S1:ae),j<=us.length/\i=ax j/\Ext w.heap.size X S S1/\c=f+1+dx (us.take j)/\c<=120/\(∀ k (_:k<us.length),k<j->uX us[k] (31 - g - 1)=true)/\Rows 4 (RdT S1) css (us.take j)/\
   Inv w X [ay J (gn v kv) ab,ay O bb ab,ay m (gn v l) ab,aK l ab 4 css,ay o #[ax c] cR] S1 w',
  fun i _=>us.length - (intOf i).toNat,⟨0,f+1,_,[],S,bf _,rfl,Ext.refl _ _ _,by simp [dx],d1,fun k _ h=>by omega,Rows.nil _ _,a⟩,?_⟩
 intro e7;(iterate 26 intro);intro w';rintro ⟨j,c,l,css,S1,hj,rfl,hE,hc,c1,a3,hR,a⟩;have d7:=eK (us.take j);refine bM (aJ (fun c4=>?_) (fun c4=>?_))
 ·have a0:j<us.length:=by omega
  have b9:j<v.kids.length:=by omega
  have d2:=hR.hc;rw [ey] at d2;refine cL a (a8.monoT hE.1) ag ac b9 (fun _ _=>RdT.length) fun c5 Y=>?_;have a4:=Y.length;refine aG a aV fun c6 w' a=>?_;have a:=a.perm (M:=.blk c6 _::[ay J (gn v kv) ab,ay O bb ab,ay m (gn v l) ab,aK l ab 4 css,ay o #[ax c] cR]) (cT (l₁:=[_]));refine aq a 0 rfl ac (by simpa using a4) rfl (by simpa using Y.one) fun w' a=>?_;refine av a 0 ac rfl (by simpa using a4) (bA (by omega) ?_);have a:Inv w X ([ay J (gn v kv) ab,ay O bb ab,ay m (gn v l) ab,aK l ab 4 css]++[ay o #[ax c] cR]) S1 w':=a.pick [false,true,true,true,true,true];refine Run.callE m8 mR a (hk j a0 b9 S1 c5 o (g+1) c Y (b1.up hE.1) (by omega) (by omega) (by omega) (by omega)) fun v' I' S2 w'=>?_;rintro ⟨V,c2,rfl,rfl,a1,b2,a6⟩ a7 a;refine al rfl (al rfl (aG a aV fun b4 w' a=>?_));have a:=a.perm (M:=.blk b4 _::[ay J (gn v kv) ab,ay O bb ab,ay m (gn v l) ab,aK l ab 4 css,ay o #[ax c2] cR]) (cT (l₁:=[_]));refine aq a 0 rfl ac (by simpa using a1) rfl (by simpa using b2) fun w' a=>?_;apply cq;have f3:=Do us j a0;have d9:=tk us (j+1);refine aE (fun hb=>?_) (fun hb=>?_)
  ·have G:okR us[j] (g+1) c=false:=by simpa using hb
   have Z:okR (.mk v.kind v.n v.name us) g f=false:=by
    rw [B];rw [okR,acq] at G;rcases G with e|e
    ·have e:=of_decide_eq_false e;rw [aS (by omega),jZ]
    ·have:Xl us (31 - g - 1)=false:=by
      rw [Cd,Zf];exact ⟨us[j],bJ a0,by rw [show 31 - g - 1=31 - (g+1) by omega,e];decide⟩
     rw [this,m5]
   apply iF;have a:Inv w X [ay b4 V.toArray ab,ay J (gn v kv) ab,ay O bb ab,ay m (gn v l) ab,aK l ab 4 css,ay o #[ax c2] cR] S2 w':=a;refine aq a 2 rfl ac rfl rfl mP fun w' a=>?_;apply bm a 2 ac rfl rfl;exact ⟨_,_,_,rfl,a.pick [false,false,false,false,false,true],hE.trans a7,[ax 0,ax 0,.string ⟨#[]⟩,hV],c2,by rw [Z],rfl,rfl,mP,fun h=>by rw [Z] at h;cases h⟩
  ·have G:okR us[j] (g+1) c=true:=by simpa using hb
   obtain ⟨e9,c9⟩:=a6 G;rw [okR,aZ,bt] at G;refine ad (b:=m) (c:=(gn v l)) a 3 rfl ao aj rfl (av a 0 ac rfl (by simpa using a1) (ei a 4 V bx (by omega) (by omega) rfl a1 b2 (by omega) (by omega) fun r w' a=>?_));have D:=lY (a.its (aK r ab 4 (css++[V])) (by simp));refine cX (b:=m) (c:=(gn v l)) a 3 rfl ao aj rfl D.1 D.2 fun w' a=>?_;have a:Inv w X [ay J (gn v kv) ab,ay O bb ab,ay m (gn v r) ab,aK r ab 4 (css++[V]),ay o #[ax c2] cR] S2 w':=a.pick [false,true,true,true,true,true];refine bA (by omega) ?_;refine ⟨⟨j+1,c2,r,css++[V],S2,a0,rfl,hE.trans a7,by omega,by omega,fun k a2 e8=>?_,?_,a⟩,by simp [intOf];omega⟩
   ·by_cases e:k=j
    ·subst e;rw [show 31 - g - 1=31 - (g+1) by omega];exact G.2
    ·exact a3 k a2 (by omega)
   ·rw [gh a0];exact (hR.monoR fun _ _ h=>RdT.mono a7.1 h).snoc c9 a1
 ·have d3:j=us.length:=by omega
  subst d3;rw [fM] at hR hc;have c0:okR (.mk v.kind v.n v.name us) g f=true:=by
   rw [B,aL (by omega),dz,Cd,eX];intro x hx;obtain ⟨k,a2,rfl⟩:=zu.1 hx;exact a3 k a2 a2
  refine av (b:=m) (c:=(gn v l)) a 2 ac rfl rfl ?_;have D:=lY (a.its (aK l ab 4 css) (by simp));have a5:∀ x∈((hJ v l):hZ),x.oneCell'=true:=by
   intro x hx;simp at hx;rcases hx with rfl|rfl|rfl|rfl <;> first|rfl|exact D.2
  refine aq a 1 rfl ac rfl rfl a5 fun w' a=>?_;refine bm (c:=(gn v l)) a 1 ac rfl rfl ?_;have a:Inv w X ([ay o #[ax c] cR]++[aK l ab 4 css]) S1 w':=(a.pick [false,false,false,true,true]).perm (List.Perm.swap ..);obtain ⟨S3,b6,a6,a⟩:=a.lendExt;have d4:=RowRd.rows (hR.monoR fun _ _ h=>RdT.mono b6.1 h) a6;exact ⟨_,_,_,rfl,a,hE.trans b6,(hJ v l),c,by rw [c0],rfl,rfl,a5,fun _=>⟨by rw [jz];omega,RdT.iff.2 ⟨l,rfl,c7,c8,hs,d4⟩⟩⟩
theorem GH {N:Nat} {st:au} (sb:Nat) (m:Good N st) {j:Nz} (r:Res st j):match j with
  | .one t u=>(okU N t/\wT t<=1048576)->RC st sb t u
  | .list ts us=>(∀ t∈ts,okU N t/\wT t<=1048576)->us.length=ts.length/\∀ i (h:i<us.length) (o:i<ts.length),RC st sb ts[i] us[i]:=by
 induction r with
 | one q _ G=>
  intro a;have f:=G (kq (dS m q a));exact HQ m q a f.1 f.2
 | nil=>exact fun _=>⟨rfl,fun i h _=>by simp at h⟩
 | cons _ _ g l=>
  intro a;obtain ⟨f,D⟩:=l fun t B=>a t (bk _ B);refine ⟨by simp [f],fun i h o=>?_⟩;cases i with
  | zero=>exact g (a _ (bi ..))
  | succ i=>exact D i (by simpa using h) (by simpa using o)
theorem zd {N:Nat} {st:au} (M:Good N st) {t u:T} (O:Res st (.one t u)) (U:okU N t/\wT t<=1048576) {S:ae} {cs:hZ} {sb:Nat} (h:RdT S cs t) (l:StS S S sb st) :
  kt pM [ee sb,.agg cs.toArray] [] S fun q I' S'=>I'=[]/\∃ f:hZ,f.length=4/\(∀ x∈f,x.oneCell'=true)/\q=.tuple #[.agg f.toArray,.bool (bL u)]/\(bL u=true->RdT S' f u):=by
 intro w a;have B:=h.length;have a:Inv w [] [] S w:=a;have D:RC st sb t u:=GH sb M O U;have e:okR u 1 0=bL u:=by rw [okR,bL,Int.zero_add];rfl
 apply o9.2;dsimp only[o9,bl];refine bq a fun G w' a=>?_;refine aG a aV fun J w' a=>?_;have V:fY Tryz.prog cR=some (ax 0):=by kernel_rfl
 refine aG a V fun r w' a=>?_;refine dD a 2 (n:=1) rfl (by decide +kernel) rfl (by simp [Value.cells]) (by simp [Value.cells,Value.oneCell']) fun w' a=>?_;have a:Inv w [] ([ay G cs.toArray ab,ay J bb ab]++[ay r #[ax 0] cR]) S w':=a;refine av a 0 ac rfl (by simpa using B) (Run.callE m8 mR a (D S cs r 1 0 h l (by omega) (by omega) (by omega) (by omega)) fun Y I' S2 w'=>?_);rintro ⟨m,c2,rfl,rfl,g,i,j⟩ o a;rw [e] at j ⊢;refine al rfl (al rfl ?_);have a:Inv w [] [ay G cs.toArray ab,ay J bb ab,ay r #[ax c2] cR] S2 w':=a;refine aq a 1 rfl ac (by simpa using g) rfl (by simpa using i) fun w' a=>?_;refine bm a 1 ac rfl (by simpa using g) ?_;exact ⟨_,_,_,rfl,a.nil,o,rfl,m,g,i,rfl,fun h=>(j h).2⟩
end
end
section
open Go Go.RowKit
mutual
theorem Ny:∀ t:T,okU 26 t->okV t
 | .mk k n s ks,h=>by
  rw [okU] at h;rw [okV];exact ⟨fun hk=>by have:=h.2.1 hk; omega,Qr ks h.2.2.1⟩
theorem Qr:∀ ts:List T,du 26 ts->n6 ts
 | [],_=>by rw [n6]; trivial
 | t::ts,h=>by
  rw [du] at h;rw [n6];exact ⟨Ny t h.1,Qr ts h.2⟩
end
section
theorem PN {K:Value->World->Prop} {w:World} {mb:Nat} (hk:K (.agg #[.map (some mb),hV]) w):Run Tryz.prog (bZ dA [(0,.map (some mb))]) w K:=by
 refine Run.of (v:=.agg #[.map (some mb),hV]) (w':=w) ?_ hk;unfold bZ;rw [Sem.run_bind,run_build w dA _ #[.map (some mb),hV] (by kernel_rfl),Result.andThen_ok];rfl
theorem wa (S:ae):kt N2 [] [] S fun r I' S'=>S'=S/\∃ sb mb,r=ee sb/\I'=aN sb mb #[] 0 (hV) []:=by
 intro w a;apply yc.2;dsimp only[yc,ub];refine D8 a fun mb w' a=>?_;refine PN (bq a fun sb w' a=>?_);have a:=a.rowNil cR 1;have a:Inv w [] (aN sb mb #[] 0 (hV) []) S w':=a.perm (List.Perm.swap ..);exact ⟨_,_,_,rfl,a,Ext.refl _ _ _,rfl,sb,mb,rfl,rfl⟩
theorem KnownM.none (S:ae) (N:Nat):KnownM S #[] (List.replicate N Option.none):=by
 refine ⟨fun e a=>by simp at a,fun n t h=>?_,by simp⟩;have:=cJ h;simp at this
end
end
end Go.Proofs.YtellfcpffcipcaaGreatDoor

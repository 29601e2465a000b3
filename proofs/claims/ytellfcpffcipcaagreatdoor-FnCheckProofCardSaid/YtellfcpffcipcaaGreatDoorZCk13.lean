/- spec: shifted terms and clauses. -/
import Derived.Test.YtellfcpffcipcaaGreatDoorZCkA
import Derived.Test.YtellfcpffcipcaaGreatDoorZCk12
namespace Go.Proofs.YtellfcpffcipcaaGreatDoor
attribute [local irreducible] Run CondV aF aT
section
open Go Go.RowKit
mutual
def bD (m:Int):T->T
 | .mk k n s ks=>.mk k (if k=1 then n+m else n) s (gw m ks)
def gw (m:Int):List T->List T
 | []=>[]
 | t::ts=>bD m t::gw m ts
end
theorem jk (m:Int):∀ ts:List T,gw m ts=ts.map (bD m)
 | []=>rfl
 | t::ts=>by rw [gw,jk m ts];rfl
theorem Q7 (m:Int) (a:List T) (j:Nat) (h:j<a.length):gw m (a.take (j+1))=gw m (a.take j)++[bD m a[j]]:=by
 rw [jk,jk,gh h,IY];rfl
section
theorem y0 {N:Nat} (hN:N<=1000000) (m:Int) (b7:0<=m) (b9:m<=1000000):∀ (t:T) (S:ae) (cs:hZ),RdT S cs t->okU N t->wT t<=1048576->kt Re [.agg cs.toArray,ax m] [] S (Fd S (bD m t)):=by
 refine T.ind fun k n s V ih S cs h a1 hw=>?_;intro w a;obtain ⟨kv,rfl,h1,h2,hs,a3⟩:=RdT.iff.1 h;simp only [T.name,T.kids,T.kind,T.n] at h1 h2 hs a3 ⊢;simp only [wT] at hw;rw [okU] at a1;obtain ⟨_,a2,a1,_⟩:=a1;obtain ⟨g,G⟩:∃ g,g=if k=1 then n+m else n:=⟨_,rfl⟩
 have b4:inI g:=by
  rw [G];split
  ·have:=a2 (by assumption);simp only [inI];omega
  ·exact h2
 apply Bn.2;dsimp only[Bn,bl];refine bq a fun b1 w' a=>?_;refine aG a aV fun b2 w' a=>?_;refine ad a 0 rfl aM aw rfl (ad a 0 rfl aQ aw rfl (ad a 0 rfl aW aP rfl (jp (aG a aV fun O w' a=>?_))));refine aq a 2 rfl ac rfl rfl (by simp [Value.oneCell']) fun w' a=>?_;have a:Inv w [] [ay b1 #[ax k,ax n,.string s,kv] ab,ay b2 bb ab,ay O #[ax k,ax n,.string s,hV] ab] S w':=a;refine ⟨fun w'=>Inv w [] [ay b1 #[ax k,ax n,.string s,kv] ab,ay b2 bb ab,ay O #[ax k,ax g,.string s,hV] ab] S w',?_,?_⟩
 ·refine ad a 0 rfl aM aw rfl (bn (aJ (fun he=>?_) (fun he=>?_)))
  ·have hv:=a2 he;refine ad a 0 rfl aQ aw rfl (bA (by omega) ?_);rw [ai he] at G;rw [G];exact cX a 2 rfl aQ aw rfl rfl rfl fun w' a=>a
  ·rw [af he] at G;rw [G];exact a
 intro _ _ _ _ _ _ _ _ w' a;have a:=a.rowNil ab 4;refine ⟨fun i w'=>∃ (j:Nat) (q:Value) (Ls:List bz) (css:List (hZ)),j<=V.length/\i=ax j/\Grown 4 TrT Ls css (gw m (V.take j))/\
   Inv w [] (ay b1 #[ax k,ax n,.string s,kv] ab::.blk b2 (.cells bb ab)::.blk O (.cells #[ax k,ax g,.string s,q] ab)::aK q ab 4 css::bE Ls.flatten) S w',
  fun i _=>V.length - (intOf i).toNat,⟨0,_,[],[],bf _,rfl,Grown.nil _ _,a⟩,?_⟩
 intro t7;(iterate 19 intro);intro w';rintro ⟨j,q,Ls,css,hj,rfl,hg,a⟩;refine ad a 0 rfl ao aj rfl (aI a3 ag (bM (aJ (fun a9=>?_) (fun a9=>?_))))
 ·have a0:j<V.length:=by omega
  have c0:(V.take j).length=j:=by simp;omega
  have b5:=hg.hc;rw [jk,nN] at b5;have hm:=bJ a0;have c1:=lf hm;obtain ⟨b,o,cap,c,E,fz,rfl,hS,hR⟩:=a3.at_ a0;refine ⟨fun D oC j7 jt oH lK mC r7 og rr kY gQ lO w_=>Fx D 0 [lO=eu O 3,gQ=q,kY=eu b1 3,rr=eF b o V.length cap,og=ax j,r7=eu b (o+j * 4),mC=.agg (aO c (o+j * 4) 4).toArray,lK=ax m,True,True,True,oC=eu O 3,True]/\∃ M f B,(D 8=true->oH=.agg f.toArray/\TrT M f (bD m V[j]))/\(D 9=true->jt=eF B 0 1 1)/\(D 9=true->D 8=true)/\(D 10=true->D 9=true)/\(D 12=true->D 10=true)/\(D 12=true->D 1=true)/\Inv w [] (bj (ay b1 #[ax k,ax n,.string s,eF b o V.length cap] ab) (ay b2 bb ab) (ay O #[ax k,ax g,.string s,q] ab) (ay O #[ax k,ax g,.string s,j7] ab) (aK q ab 4 css) (aK j7 ab 4 (css++[f])) (bE Ls.flatten) M (ay B f.toArray ab) (D 8) (D 9) (D 10) (D 12)) S w_,⟨Fx.nil _ _,⟨[],[],0,aU,aU,aU,aU,aU,aU,by simpa [bj,bE] using a.draw⟩⟩,⟨?_,?_,?_,?_,?_,?_,?_,?_,?_,?_,?_,?_,?_,trivial⟩,?_⟩;all_goals (intro D bw;intros;rename_i oC j7 jt oH lK mC r7 og rr kY gQ lO w_ a5;have r:=a5.1;obtain ⟨⟨co,cn,bP,cj,cA,bQ,bO,cM,de,dv,bU,cC,cY,_⟩,⟨M,f,B,U,e8,Z,Y,l,k1,a⟩⟩:=a5)
  apply ah ao;rotate_left
  obtain rfl:=co ‹_›;have J:D 12=false:=bN.2 fun h=>by rw [k1 h] at bw;cases bw
  refine aD (b:=O) a 2 (c:=(#[ax k,ax g,.string s,q])) aj (by rw [J];rfl) rfl ?_;have k1:=fun (_:aC D 1 12=true)=>(rfl:aC D 1 1=true)
  rotate_left;apply ah ao;rotate_left
  obtain rfl:=bP ‹_›;apply aD a 0 aj rfl rfl;rotate_left;rotate_left
  obtain rfl:=cj ‹_›;obtain rfl:=cA ‹_›;apply az ag a0;rotate_left
  obtain rfl:=bQ ‹_›;refine bV ac hR.length (fun j v hj=>by rw [a.cellS hS];exact aA rfl j v hj) ?_;rotate_left;rotate_left
  obtain rfl:=bO ‹_›;obtain rfl:=cM ‹_›;have f8:D 9=false:=bN.2 fun h=>by rw [Z h] at bw;cases bw
  have f9:D 10=false:=bN.2 fun h=>by rw [Y h] at f8;cases f8
  have J:D 12=false:=bN.2 fun h=>by rw [l h] at f9;cases f9
  rw [bw,f8,f9,J] at a;refine Run.call0 tm sV a (ih _ (bJ a0) S _ hR (mN a1 _ (bJ a0)) (by omega)) fun v' I' S w_=>?_;rintro ⟨rfl,f,M,rfl,rfl,hT⟩ _ a;have U:aC D 8 8=true->Value.agg f.toArray=Value.agg f.toArray/\TrT M f (bD m V[j]):=fun _=>⟨rfl,hT⟩
  have Z:=fun (_:aC D 8 9=true)=>(rfl:aC D 8 8=true)
  have a:Inv w [] (bj (ay b1 #[ax k,ax n,.string s,eF b o V.length cap] ab) (ay b2 bb ab) (ay O #[ax k,ax g,.string s,q] ab) (ay O #[ax k,ax g,.string s,j7] ab) (aK q ab 4 css) (aK j7 ab 4 (css++[f])) (bE Ls.flatten) M (ay B f.toArray ab) true (D 9) (D 10) (D 12)) S w_:=by
   rw [f8,f9,J];simpa [bj] using a
  rotate_left;have Db:=de ‹_›;have f9:D 10=false:=bN.2 fun h=>by rw [Y h] at bw;cases bw
  have J:D 12=false:=bN.2 fun h=>by rw [l h] at f9;cases f9
  obtain ⟨q7,hT⟩:=U ‹D 8=true›;subst q7;rw [‹D 8=true›,bw,f9,J] at a;refine dQ a bx (by simp [Value.cells,hT.length]) (by omega) (by omega) fun B w_ a=>?_;have U:aC D 9 8=true->Value.agg f.toArray=Value.agg f.toArray/\TrT M f (bD m V[j]):=fun _=>⟨rfl,hT⟩
  have e8:=fun (_:aC D 9 9=true)=>(rfl:Value.slice (some ⟨B,0,none⟩) 1 1=_)
  have Z:=fun (_:aC D 9 9=true)=>‹D 8=true›;have Y:=fun (_:aC D 9 10=true)=>(rfl:aC D 9 9=true)
  have a:Inv w [] (bj (ay b1 #[ax k,ax n,.string s,eF b o V.length cap] ab) (ay b2 bb ab) (ay O #[ax k,ax g,.string s,q] ab) (ay O #[ax k,ax g,.string s,j7] ab) (aK q ab 4 css) (aK j7 ab 4 (css++[f])) (bE Ls.flatten) M (ay B f.toArray ab) (D 8) true (D 10) (D 12)) S w_:=by
   rw [‹D 8=true›,f9,J];simpa [bj,Value.cells] using a
  rotate_left;obtain rfl:=cn ‹_›;have K2:=dv ‹_›;have J:D 12=false:=bN.2 fun h=>by rw [l h] at bw;cases bw
  have q8:=e8 ‹D 9=true›;subst q8;obtain ⟨_,hT⟩:=U ‹D 8=true›;rw [‹D 8=true›,‹D 9=true›,bw,J] at a;have a6:((bj (ay b1 #[ax k,ax n,.string s,eF b o V.length cap] ab) (ay b2 bb ab) (ay O #[ax k,ax g,.string s,gQ] ab) (ay O #[ax k,ax g,.string s,j7] ab) (aK gQ ab 4 css) (aK j7 ab 4 (css++[f])) (bE Ls.flatten) M (ay B f.toArray ab) true true false false))[4+(bE Ls.flatten).length+(bE M).length]?=some (ay B f.toArray ab):=by
   have e4:4+(bE Ls.flatten).length+(bE M).length=((bE Ls.flatten).length+(bE M).length)+1+1+1+1:=by omega
   rw [e4];simp only [bj,nL];rw [jr (by omega),qS,jr (be _),fH];rfl
  refine eT a 3 f bx (by omega) rfl (by rw [hT.length]) (m:=1) (o:=0) ?_ hT.one (by omega) (by omega) fun v' w_ a=>?_
  ·intro i u hi;rw [a.cellL a6,dr];simpa using hi
  rw [fU] at a;have Y:=fun (_:aC D 10 10=true)=>‹D 9=true›;have l:=fun (_:aC D 10 12=true)=>(rfl:aC D 10 10=true)
  have a:Inv w [] (bj (ay b1 #[ax k,ax n,.string s,eF b o V.length cap] ab) (ay b2 bb ab) (ay O #[ax k,ax g,.string s,gQ] ab) (ay O #[ax k,ax g,.string s,v'] ab) (aK gQ ab 4 css) (aK v' ab 4 (css++[f])) (bE Ls.flatten) M (ay B f.toArray ab) (D 8) (D 9) true (D 12)) S w_:=by
   rw [‹D 8=true›,‹D 9=true›,J];exact a
  rotate_left;apply ah ao;rotate_left
  obtain rfl:=cC ‹_›;have xE:=bU ‹_›;rw [‹D 8=true›,‹D 9=true›,‹D 10=true›,bw] at a;obtain ⟨va,vn,vc,a4⟩:=Inv.rowSlice a 3 rfl;refine dD a 2 (n:=1) (by rw [a4];rfl) (by decide +kernel) rfl (by simp) (by rw [a4];simp [Value.cells,Value.oneCell']) fun w_ a=>?_;have a7:Value.cells j7=#[j7]:=by rw [a4];rfl
  rw [a7] at a;have k1:=fun (_:aC D 12 12=true)=>‹D 1=true›;have l:=fun (_:aC D 12 12=true)=>‹D 10=true›;have a:Inv w [] (bj (ay b1 #[ax k,ax n,.string s,eF b o V.length cap] ab) (ay b2 bb ab) (ay O #[ax k,ax g,.string s,q] ab) (ay O #[ax k,ax g,.string s,j7] ab) (aK q ab 4 css) (aK j7 ab 4 (css++[f])) (bE Ls.flatten) M (ay B f.toArray ab) (D 8) (D 9) (D 10) true) S w_:=by
   rw [‹D 8=true›,‹D 9=true›,‹D 10=true›];exact a
  rotate_left
  all_goals try exact ⟨r.set _ (by first|rfl|assumption|trivial),M,f,B,U,e8,Z,Y,l,k1,a⟩
  obtain ⟨rfl,rfl,rfl,rfl,rfl,rfl,rfl,rfl,Db,K2,xE,rfl,_,_⟩:=r.all;have Dc:D 8=true:=by assumption
  have Og:D 9=true:=by assumption
  have Dg:D 10=true:=by assumption
  have U2:D 12=true:=by assumption
  clear r;obtain ⟨_,hT⟩:=U Dc;rw [Dc,Og,Dg,U2] at a;refine bA (by omega) ?_;refine ⟨⟨j+1,j7,Ls++[M],css++[f],a0,rfl,?_,?_⟩,by simp [intOf];omega⟩
  ·rw [Q7 m V j a0];exact hg.snoc hT hT.length
  ·simp only [AB,jY,uZ,dc,fy];apply a.sub;simp only [bj];rw [<- eY];exact (((eh _ _).cons_cons _).cons_cons _).cons_cons _ |>.cons_cons _
 ·have:j=V.length:=by omega
  subst this;rw [fM] at hg;obtain ⟨va,vn,vc,b0⟩:=a.rowSlice 3 rfl;have b6:q.oneCell'=true:=by rw [b0];rfl
  refine av a 2 ac rfl rfl (aq a 1 rfl ac rfl rfl ?_ fun w' a=>?_)
  ·intro u hu;have a8:u∈([ax k,ax g,.string s,q]:hZ):=hu;simp at a8;rcases a8 with rfl|rfl|rfl|rfl <;> first|rfl|exact b6
  apply bm a 1 ac rfl rfl;have a:Inv w [] ([]++(aK q ab 4 css::bE Ls.flatten)) S w':=a.sub (eR [_,_,_] _);obtain ⟨L,hT,a⟩:=Inv.rowTree a hg;exact ⟨_,_,_,rfl,a,Ext.refl _ _ _,rfl,_,L,rfl,rfl,TrT.iff.2 ⟨q,by rw [bD,<- G];rfl,by rw [bD];exact h1,by rw [bD,<- G];exact b4,by rw [bD];exact hs,by rw [bD];exact hT⟩⟩
end
end
section
open Go Go.RowKit
theorem SR {s:ByteArray} (h:nR s=true):s.size<=6:=by
 rw [nR,jI] at h;rcases h with h|h
 ·rw [o5] at h;simp only [aZ,bt] at h;exact h.2.2
 ·simp only [ET,bt] at h;obtain ⟨x,a,rfl⟩:=h;have:∀ y∈signs,y.size<=6:=by decide +kernel
  exact this x a
theorem Ul {t:T} (h:fp t=true):t.name.size<=6:=by
 unfold fp at h;have f:emptyB.size=0:=by decide +kernel
 by_cases e1:t.kind=1
 ·rw [ai e1] at h;simp only [aZ,bt] at h;rw [h.2.2.1];omega
 ·rw [af e1] at h;by_cases e2:t.kind=2
  ·rw [ai e2] at h;simp only [aZ,bt] at h;rw [h.2.2.1];omega
  ·rw [af e2] at h;by_cases a:t.kind=3
   ·rw [ai a] at h;simp only [aZ,bt] at h;exact SR h.2.1
   ·rw [af a] at h;cases h
theorem Fb:emptyB.size<=6:=by decide +kernel
mutual
theorem MX:∀ (t:T) (d:Int),ik t d=true->okU 26 t
 | .mk k n s ks,d,h=>by
  rw [ik] at h;split at h
  ·cases h
  ·rw [aZ] at h;have f:=Pl h.1;have i:=fun hk=>Y7 h.1 hk;have j:=Ul h.1;rw [okU];refine ⟨f.2,fun hk=>?_,IP ks _ h.2,j⟩;have g:=f.1 hk;have a:=i hk;simp only [T.n] at g;simp only [T.name,T.kids] at a;exact ⟨g.1,by omega,a.1,iy a.2⟩
theorem IP:∀ (ts:List T) (d:Int),ia ts d=true->du 26 ts
 | [],_,_=>by rw [du]; trivial
 | t::ts,d,h=>by
  rw [ia,aZ] at h;rw [du];exact ⟨MX t d h.1,IP ts d h.2⟩
end
theorem ie {t:T} (h:dP t=true):okU 26 t:=MX t 30 (uT h)
theorem iJ {c:C} (h:cz c=true):okU 26 c.head/\(∀ t∈c.body,okU 26 t)/\c.body.length<=6:=by
 rw [cz] at h;simp only [aZ,eX,bt] at h;refine ⟨ie h.2.2.1,fun t a=>?_,h.1⟩;have:=h.2.1 t a;rw [fi,aZ] at this;exact ie this.1
mutual
theorem iK {N M:Nat} (h:N<=M):∀ t:T,okU N t->okU M t
 | .mk k n s ks,ht=>by
  rw [okU] at ht ⊢;refine ⟨ht.1,fun hk=>?_,Wb h ks ht.2.2.1,ht.2.2.2⟩;have:=ht.2.1 hk;exact ⟨this.1,by omega,this.2.2⟩
theorem Wb {N M:Nat} (h:N<=M):∀ ts:List T,du N ts->du M ts
 | [],_=>by rw [du]; trivial
 | t::ts,ht=>by
  rw [du] at ht ⊢;exact ⟨iK h t ht.1,Wb h ts ht.2⟩
end
mutual
theorem mp {N:Nat} (m:Nat):∀ t:T,okU N t->okU (N+m) (bD m t)
 | .mk k n s ks,ht=>by
  rw [okU] at ht;rw [bD,okU];refine ⟨ht.1,fun hk=>?_,zj m ks ht.2.2.1,ht.2.2.2⟩;have:=ht.2.1 hk;rw [ai hk];refine ⟨by omega,by omega,this.2.2.1,?_⟩;rw [this.2.2.2,gw]
theorem zj {N:Nat} (m:Nat):∀ ts:List T,du N ts->du (N+m) (gw m ts)
 | [],_=>by rw [gw,du]; trivial
 | t::ts,ht=>by
  rw [du] at ht;rw [gw,du];exact ⟨mp m t ht.1,zj m ts ht.2⟩
end
mutual
theorem pm (m:Int):∀ t:T,wT (bD m t)=wT t
 | .mk k n s ks=>by
  rw [bD,wT,wT,Rq m ks];rw [jk,nN]
theorem Rq (m:Int):∀ ts:List T,wL (gw m ts)=wL ts
 | []=>rfl
 | t::ts=>by rw [gw,wL,wL,pm m t,Rq m ts]
end
mutual
theorem TP {N:Nat}:∀ t:T,okU N t->(wT t:Int)+1<=7 * ez t
 | .mk k n s ks,h=>by
  rw [okU] at h;have a:=YI ks h.2.2.1;rw [wT,jz];omega
theorem YI {N:Nat}:∀ ts:List T,du N ts->(wL ts:Int)+ts.length<=7 * dx ts
 | [],_=>by simp [wL,dx]
 | t::ts,h=>by
  rw [du] at h;have a:=TP t h.1;have f:=YI ts h.2;rw [wL,dx,bI];omega
end
theorem Ji {N:Nat} {st:au} {t v:T} (h:Good N st) (a:dL st t v) (f:okU N t):okU N v:=by
 induction a with
 | stop=>exact f
 | step hl _ g=>exact g (h.look_ok hl).1
theorem kz {N:Nat} {st:au} (r:Good N st) {j:Nz} (B:Res st j):match j with
  | .one t u=>okU N t->okU N u
  | .list ts us=>du N ts->du N us/\us.length=ts.length:=by
 induction B with
 | one D hl G=>
  rename_i t v us
  intro f;have q:=Ji r D f;obtain ⟨l,g⟩:=G q.kids;obtain ⟨k,n,s,J⟩:=v;have a:=q;rw [okU] at a;show okU N (.mk k n s us);rw [okU];refine ⟨a.1,fun hk=>?_,l,a.2.2.2⟩;have i:=a.2.1 hk;refine ⟨i.1,i.2.1,i.2.2.1,?_⟩;simp only [T.kids] at g;exact iy (by rw [g,i.2.2.2];rfl)
 | nil=>exact fun h=>⟨h,rfl⟩
 | cons _ _ m o=>
  intro f;rw [du] at f;obtain ⟨l,g⟩:=o f.2;rw [du];exact ⟨⟨m f.1,l⟩,by simp [g]⟩
theorem Ak {N:Nat} {st:au} (h:Good N st):∀ ts:List T,du N ts->∃ us,Res st (.list ts us)
 | [],_=>⟨[],.nil⟩
 | t::ts,ho=>by
  rw [du] at ho;obtain ⟨u,f⟩:=Di h t ho.1;obtain ⟨us,a⟩:=Ak h ts ho.2;exact ⟨u::us,.cons f a⟩
theorem Ou {st:au}:∀ {ts us:List T},Res st (.list ts us)->∀ i (h:i<ts.length) (a:i<us.length),Res st (.one ts[i] us[i])
 | _,_,.cons hu _,0,_,_=>hu
 | _,_,.cons _ hus,i+1,h,a=>Ou hus i (by simpa using h) (by simpa using a)
def stU:au:=List.replicate 52 none
theorem Kh:Good 52 stU:=⟨by simp [stU],fun t a=>by simp [stU] at a,fun t a=>by simp [stU] at a,fun n=>n,fun n u f=>by
 have:=cJ f;simp [stU] at this⟩
def LN (c d:C):List T:=c.head::(gw 26 d.body++c.body.drop 1)
def ofL:List T->C
 | []=>⟨⟨0,0,⟨#[]⟩,[]⟩,[]⟩
 | t::ts=>⟨t,ts⟩
def RO (c d:C) (o:Option (Option C)):Prop:=∃ r st,Uni stU (.one (c.body.headD ⟨0,0,⟨#[]⟩,[]⟩) (bD 26 d.head)) r st/\
 ((r=false/\o=none) ∨ (r=true/\∃ us,Res st (.list (LN c d) us)/\((us.all bL=false/\o=some none) ∨ (us.all bL=true/\o=some (some (abe (abP (ofL us)) (ofL us)))))))
theorem XG {N:Nat} {ts us:List T} (h:du N ts) (f:du N us):du N (ts++us):=
 oe fun t a=>by
  rcases ci.1 a with a|a
  ·exact mN h t a
  ·exact mN f t a
theorem RX {c d:C} (hc:cz c=true) (hd:cz d=true):du 52 (LN c d):=by
 obtain ⟨f,c2,_⟩:=iJ hc;obtain ⟨h,g,_⟩:=iJ hd;rw [LN,du];exact ⟨iK (by decide) _ f,XG (zj 26 _ (oe g)) (oe fun t a=>iK (by decide) _ (c2 t (Vf a)))⟩
theorem Ms {c d:C} (hc:cz c=true) (hd:cz d=true) (f:wC c<=1048576) (g:wC d<=1048576) (i:c.body≠[]):okJ 52 (.one (c.body.headD ⟨0,0,⟨#[]⟩,[]⟩) (bD 26 d.head)):=by
 obtain ⟨l,c2,_⟩:=iJ hc;obtain ⟨j,m,_⟩:=iJ hd;unfold wC at f g;cases a:c.body with
 | nil=>exact absurd a i
 | cons t ts=>
  rw [List.headD_cons];have h:t∈c.body:=by rw [a];exact bi ..
  have:=Pa h;exact ⟨⟨iK (by decide) _ (c2 t h),by omega⟩,⟨mp 26 _ j,by rw [pm];omega⟩⟩
theorem RO.ex {c d:C} (hc:cz c=true) (hd:cz d=true) (g:wC c<=1048576) (h:wC d<=1048576) (l:c.body≠[]):∃ o,RO c d o:=by
 have i:=Ms hc hd g h l;obtain ⟨r,st,f⟩:=Hv (unb stU) stU Kh (be _) _ i;cases r with
 | false=>exact ⟨none,false,st,f,.inl ⟨rfl,rfl⟩⟩
 | true=>
  obtain ⟨us,a⟩:=Ak (f.good Kh i).1 (LN c d) (RX hc hd);cases j:us.all bL with
  | false=>exact ⟨some none,true,st,f,.inr ⟨rfl,us,a,.inl ⟨j,rfl⟩⟩⟩
  | true=>exact ⟨_,true,st,f,.inr ⟨rfl,us,a,.inr ⟨j,rfl⟩⟩⟩
theorem gG {N:Nat} {u:T} (h:bL u=true) (a:okU N u):wT u<=840:=by
 rw [bL,aZ,bt] at h;have:=TP u a;omega
theorem Q4 {N:Nat}:∀ {us:List T},us.all bL=true->du N us->wL us<=us.length * 840
 | [],_,_=>by simp [wL]
 | u::us,h,ho=>by
  rw [Wu,aZ] at h;rw [du] at ho;have a:=gG h.1 ho.1;have f:=Q4 h.2 ho.2;rw [wL,bI,mi];omega
theorem W4 {c d:C} (hc:cz c=true) (hd:cz d=true):(LN c d).length<=13:=by
 obtain ⟨_,_,a⟩:=iJ hc;obtain ⟨_,_,f⟩:=iJ hd;rw [LN,bI,bK,jk,nN,nJ];omega
end
section
open Go Go.RowKit
section
variable {br:Nat} {sl:Value} {ys:List Nat}
theorem Za:dW 2=54:=rfl
end
end
section
open Go Go.RowKit
end
section
open Go Go.RowKit

def jM (l:List Pd) (ts:List T):List Pd:=ts.foldl (fun l t=>if eI t=true then oU l (cW t) else l) l
def kS (l:List Pd) (p:List C) (x:Pd):List Pd:=p.foldl (fun l c=>if kX (cW c.head) x=true then jM l c.body else l) l
def kZ (p:List C) (x:Pd):List Pd:=kS [] p x
def ji (l m:List Pd):List Pd:=m.foldl oU l
def tp:Nat->List C->List Pd->Nat->List Pd
 | 0,_,l,_=>l
 | n+1,p,l,i=>if h:i<l.length then tp n p (ji l (kZ p l[i])) (i+1) else l
def gPs (p:List C):List Pd:=p.flatMap fun c=>c.body.map cW
def zW (p:List C) (l:List Pd):List Pd:=tp (l.length+(gPs p).length) p l 0
theorem Kq:∀ (ts:List T) (l:List Pd) (y:Pd),y∈jM l ts->y∈l ∨ y∈ts.map cW
 | [],l,y,h=>.inl h
 | t::ts,l,y,h=>by
  have e:jM l (t::ts)=jM (if eI t=true then oU l (cW t) else l) ts:=rfl;rw [e] at h;rcases Kq ts _ y h with h|h
  ·split at h
   ·unfold oU at h;split at h
    ·exact .inl h
    ·rcases ci.1 h with h|h
     ·exact .inl h
     ·simp at h;subst h;exact .inr (by simp)
   ·exact .inl h
  ·exact .inr (by simp at h ⊢;exact .inr h)
theorem yX (x:Pd):∀ (p:List C) (l:List Pd) (y:Pd),y∈kS l p x->y∈l ∨ y∈gPs p
 | [],l,y,h=>.inl h
 | c::p,l,y,h=>by
  have e:kS l (c::p) x=kS (if kX (cW c.head) x=true then jM l c.body else l) p x:=rfl;have a:∀ z,z∈gPs (c::p)↔z∈c.body.map cW ∨ z∈gPs p:=fun z=>by simp only [gPs,Iw,ci]
  rw [e] at h;rcases yX x p _ y h with h|h
  ·split at h
   ·rcases Kq _ _ _ h with h|h
    ·exact .inl h
    ·exact .inr ((a y).2 (.inl h))
   ·exact .inl h
  ·exact .inr ((a y).2 (.inr h))
theorem Tc {p:List C} {x y:Pd} (h:y∈kZ p x):y∈gPs p:=by
 rcases yX x p [] y h with h|h
 ·simp at h
 ·exact h
def pot (G l:List Pd):Nat:=(G.filter fun g=>!JT l g).length
theorem acM (G l:List Pd):pot G l<=G.length:=ZR ..
theorem Dl (l:List Pd) (x g:Pd):JT (l++[x]) g=(JT l g || kX g x):=by simp [JT]
theorem FK (l:List Pd) (x:Pd):∀ G:List Pd,pot G (l++[x])<=pot G l
 | []=>be _
 | g::G=>by
  have:=FK l x G;unfold pot at *;rw [wH,wH,Dl];cases JT l g <;> cases kX g x <;> simp <;> omega
theorem Fu (l:List Pd) (x:Pd) (a:JT l x=false):∀ G:List Pd,x∈G->pot G (l++[x])+1<=pot G l
 | g::G,h=>by
  by_cases e:x=g
  ·subst e;have:=FK l x G;unfold pot at *;rw [wH,wH,Dl,a,rF];simp;omega
  ·have f:x∈G:=by
    rcases cw.1 h with h|h
    ·exact absurd h e
    ·exact h
   have:=Fu l x a G f;unfold pot at *;rw [wH,wH,Dl];have e2:kX g x=false:=by rw [rF];exact aS fun h=>e h.symm
   rw [e2];cases JT l g <;> simp <;> omega
theorem Z2 {G l:List Pd} {x:Pd} (a:x∈G):(oU l x).length+pot G (oU l x)<=l.length+pot G l:=by
 unfold oU;split
 ·exact be _
 ·rename_i h
  have:=Fu l x (bN.2 h) G a;rw [bK,sg];omega

section
variable {P:Program} {w w0:World} {X:List Nat} {L:List Item} {S:ae} {K:Value->World->Prop}
end
end
section
open Go Go.RowKit
end
section
open Go Go.RowKit
end
section
open Go Go.RowKit
end
section
open Go Go.RowKit

def iX (l:List Pd) (p:List C):List Pd:=p.foldl (fun l c=>oU l (cW c.head)) l
def Hq (p:List C):List Pd:=if dZ p=true then iX [] p else []
end
section
open Go Go.ChangeShapes Go.WideShapes Go.ChangeAt Go.RowKit
theorem two {cs:hZ} (h:cs.length=2):∃ a b,cs=[a,b]:=by
 match cs,h with
 | [a,b],_=>exact ⟨a,b,rfl⟩
end
section
open Go Go.RowKit
section
variable {br:Nat} {sl:Value} {ys:List Nat}
theorem Pd.one (x:Pd):∀ u∈x.cells,u.oneCell'=true:=by
 intro u f;have a:u∈([.string x.name,ax x.arity]:hZ):=f;simp at a;rcases a with rfl|rfl <;> rfl
end
end
section
open Go Go.ChangeShapes Go.WideShapes Go.ChangeAt Go.RowKit
theorem aef:Tryz.prog.underlying Pj=some (.int .u8):=by kernel_rfl
theorem aaJ {H:Type} {enc:TypeId × Value->H} {W:World} {sp:Nat->Bool} {held:Bool} {fuel:Nat} {cs:hZ} {x:DataW H × List MemPlace} (h:DataW.trod enc Tryz.prog W 0 sp held fuel Pj cs=some x) :
  ∃ n,nZ cs n:=by
 cases fuel with
 | zero=>simp [DataW.trod] at h
 | succ n=>
  unfold DataW.trod at h;rw [aef] at h;split at h <;> simp_all
  rename_i f g m a
  subst a;obtain ⟨⟨_,h⟩,_⟩:=h;simp only [Lit.wf,aZ,bt] at h;have i:0<=m/\m<=255:=h;exact ⟨m.toNat,by rw [nZ,uW (by omega)];exact ⟨rfl,by omega⟩⟩
theorem TZ {H:Type} {enc:TypeId × Value->H} {W:World} {sp:Nat->Bool} {held:Bool} {fuel:Nat} {v:Value} {x:DataW H × List MemPlace} (h:DataW.trod enc Tryz.prog W 0 sp held fuel RW [v]=some x) :
  ∃ ys,RdSl (Wt W) 1 nZ v ys:=abl fW (by omega) h fun _ _ _ _ a=>aaJ a
section
variable {w0 w:World} {X:List Nat} {L:List Item} {S:ae} {K:Value->World->Prop}
theorem ab3 {P:Program} {T:TypeId} {f g:Bool} {a b:Bool} (h:P.underlying T=some .bool) (hk:K (.bool (a == b)) w):Run P (dH .eql T f g (.bool a) (.bool b)) w K:=
 Run.of (by
  have i:(Op.equal T (.bool a) (.bool b)).run P w=.ok (a == b) w:=by
   rw [Op.equal,Op.maxDepth,Op.equalIn.eq_def];simp [run_underlying h]
  simp only [dH,binOp,Sem.run_bind,Au,Result.andThen_ok,i,Sem.run_pure]) hk
end
end
section
open Go Go.RowKit
section
variable {S:ae} {ys:List Nat} {v:Value}
end
end
section
open Go Go.RowKit
def RdO (S:ae) (cs:List Value):Option T->Prop
 | none=>cs=p7
 | some t=>RdT S cs t
theorem RdO.length {S:ae} {cs:hZ}:∀ {x:Option T},RdO S cs x->cs.length=4
 | none,h=>by rw [h];rfl
 | some _,h=>RdT.length h
theorem RdO.one {S:ae} {cs:hZ}:∀ {x:Option T},RdO S cs x->∀ u∈cs,u.oneCell'=true
 | none,h=>by rw [h];simp [p7,Value.oneCell']
 | some _,h=>RdT.one h
theorem RdO.mono {S S':ae} {cs:hZ} (a:Sle S S'):∀ {x:Option T},RdO S cs x->RdO S' cs x
 | none,h=>h
 | some _,h=>RdT.mono a h
theorem KnU.rdO {S:ae} {c:Array Value} {st:au} (h:KnU S c st) (i:Nat) (a:i<st.length):RdO S (aO c (i * 4) 4) st[i]:=by
 cases f:st[i] with
 | none=>exact (h.2 i a).1 f
 | some t=>exact (h.2 i a).2 t f
theorem KnU.of {S:ae} {c:Array Value} {st:au} (f:st.length * 4<=c.size) (h:∀ i (a:i<st.length),RdO S (aO c (i * 4) 4) st[i]):KnU S c st:=
 ⟨f,fun i a=>⟨fun e=>by have:=h i a;rw [e] at this;exact this,fun t e=>by have:=h i a;rw [e] at this;exact this⟩⟩
theorem KnU.rd {S S':ae} {c:Array Value} {st:au} {b cap:Nat} {E:TypeId} {a:Nat × Nat} (h:KnU S c st) (f:S' b=some (.cells c E a)) (g:st.length<=cap) (j:cap<=maxLen):RdSl S' 4 (RdO S) (eF b 0 st.length cap) st:=
 ⟨_,cap,rfl,g,j,.inr ⟨b,0,c,E,a,rfl,f,fun i l=>by rw [dr];exact h.rdO i l⟩⟩
theorem Rows.knu {S:ae} {css:List (hZ)} {st:au} {c:Array Value} (h:Rows 4 (RdO S) css st) (a:st.length * 4<=c.size) (hc:c.toList.take (css.length * 4)=css.flatten):KnU S c st:=by
 refine KnU.of a fun i f=>?_;have g:=h.hc;have:=jc 4 css i h.hk (by omega);rw [<- hc,EX,lW,kJ (by omega)] at this;rw [aO,this];exact h.hR i f (by omega)
section
variable {w w0:World} {X:List Nat} {A:List Item} {S:ae}
theorem Inv.tab {v:Value} {e:TypeId} {css:List (hZ)} {S1:ae} {st:au} (h:Inv w0 X (A++[aK v e 4 css]) S w) (hR:Rows 4 (RdO S1) css st) (r:0<st.length) :
  ∃ g cap a,v=kvU g st.length cap/\st.length<=cap/\cap<=maxLen/\KnU S1 a st/\Inv w0 X (A++[ay g a e]) S w:=by
 have i:=hR.hc;obtain ⟨hl,m⟩:=Inv.openRow h;rcases m with ⟨rfl,t⟩|⟨g,cap,a,rfl,f,j,l,o,q⟩
 ·omega
 ·rw [i] at f;exact ⟨g,cap,a,by rw [i],f,j,hR.knu (by rw [l];exact jw 4 f) o,q⟩
end
end
section
open Go Go.RowKit
def oB:List Int->Int->Int
 | [],m=>m
 | x::xs,m=>oB xs (if m<=x then x+1 else m)
def mt (c:C):Int:=oB (ef (c.head::c.body) []) 0
theorem Dn:∀ (l:List Int) (m:Int),m<=oB l m/\∀ x∈l,x<oB l m
 | [],m=>⟨H1 _,fun _ h=>by cases h⟩
 | y::l,m=>by
  have g:m<=(if m<=y then y+1 else m)/\y<(if m<=y then y+1 else m):=by split <;> omega
  rw [oB];generalize (if m<=y then y+1 else m)=m' at g ⊢;obtain ⟨i,f⟩:=Dn l m';refine ⟨by omega,fun x a=>?_⟩;rcases cw.1 a with rfl|a
  ·omega
  ·exact f x a
theorem M7 (N:Int):∀ (l:List Int) (m:Int),m<=N->(∀ x∈l,x<N)->oB l m<=N
 | [],m,h,_=>h
 | y::l,m,h,hx=>by
  rw [oB];refine M7 N l _ ?_ fun x h=>hx x (bk _ h);have:=hx y (bi ..);split <;> omega
section
theorem OV {ts:List T} {S:ae} {v:Value} (h:RdSl S 4 (RdT S) v ts) (M:ts.length+wL ts<=1048577):kt TA [v] [] S (Fj S (ef ts [])):=by
 intro w a;have o:=h.le;simp only [maxLen] at o;have D:=DH ts;refine Fl.2 ?_;dsimp only[Fl,aR];refine fg a kr fun v0 w' a=>?_;refine ⟨fun i t w'=>∃ (j:Nat) (l:List Int),j<=ts.length/\i=ax j/\ef (ts.drop j) l=ef ts []/\l.length+dx (ts.drop j)<=3000000/\Inv w [] [dI t l] S w',
  fun i _ _=>ts.length - (intOf i).toNat,⟨0,[],bf _,rfl,rfl,by simp only [yE,cB];omega,a⟩,?_⟩
 intro N _ _ B _ _ _ _ _ _ _ _ _ _ w';rintro ⟨j,l,O,rfl,f,hl,a⟩;refine aI h ag (bM (aJ (fun q=>?_) (fun q=>?_)))
 ·have g:j<ts.length:=by omega
  rw [oT ts j g] at hl;rw [Sz ts j g] at f;have G:=eK (ts.drop (j+1));have J:=rA ts[j] l;refine cL a h ag ac g (fun _ _=>RdT.length) fun r m=>?_;refine Run.call (A:=[]) mT mW a (nT _ S r B l m (by omega)) fun U I' S' w'=>?_;rintro ⟨rfl,rfl⟩ _ a;refine bA (by omega) ?_;exact ⟨⟨j+1,_,g,rfl,f,by omega,a⟩,by simp [intOf];omega⟩
 have:j=ts.length:=by omega
 subst this;rw [dY,ef] at f;subst f;exact ⟨_,_,_,rfl,a,Ext.refl _ _ _,rfl,rfl⟩
theorem KJ {c:C} {S:ae} {cs:hZ} (h:RdC S cs c) (hw:wC c<=1048576) (N:∀ x∈ef (c.head::c.body) [],0<=x/\x<1000000) :
  ll Sw [.agg cs.toArray] S (ax (mt c)):=by
 intro w a;obtain ⟨hd,V,rfl,Y,Z⟩:=h;have B:=Y;obtain ⟨kv,rfl,g1,g2,g3,g4⟩:=RdT.iff.1 Y;have D:=Z.le;simp only [maxLen] at D;unfold wC at hw;refine BQ.2 ?_;dsimp only[BQ,aR];refine bq a fun O w' a=>?_;refine ah dl ?_;refine cP a 0 (hJ c.head kv) ac rfl rfl Nw ?_;refine dQ a bx (by simp [Value.cells]) (by omega) (by omega) fun b7 w' a=>?_;refine ad a 0 rfl bF aj rfl ?_;have a:=Inv.closeRow (A:=[_]) (cap:=1) (k:=4) (n:=1) a (by omega) (by simp [maxLen]) (by simp [Value.cells]);refine fZ a 1 (css:=[(hJ c.head kv)]) bx (by omega) rfl Z (fun _ _=>RdT.length) (fun _ _=>RdT.one) (by simp;omega) (by omega) fun v' w' U hR a=>?_;have hR:=(Rows.one B B.length).append hR;obtain ⟨S1,o,f,a,_⟩:=Inv.lend (A:=[_]) a;have J:RdSl S1 4 (RdT S1) v' (c.head::c.body):=(RowRd.rows hR f).mono (Sle.refl _) fun _ _ h=>h.mono o;refine Run.call0 Qy SQ a (OV J (by simp only [wL,bI];omega)) fun a1 I' S' w'=>?_;rintro ⟨rfl,rfl⟩ _ a;rw [mt];generalize ef (c.head::c.body) []=vs at a N ⊢;obtain ⟨S2,r,f,a,_⟩:=Inv.lend (A:=[_]) a;have f:=f.ints;have M:=f.le;simp only [maxLen] at M;refine ⟨fun i t w'=>∃ (j:Nat) (m:Int),j<=vs.length/\i=ax j/\t=ax m/\oB (vs.drop j) m=oB vs 0/\Inv w [] [ay O #[ax c.head.kind,ax c.head.n,.string c.head.name,kv,V] aB] S2 w',
  fun i _ _=>vs.length - (intOf i).toNat,⟨0,0,bf _,rfl,rfl,rfl,a⟩,?_⟩
 intro t5 _ _ t4 _ _ _ _ _ _ _ _ _ _ _ _ _ _ _ w';rintro ⟨j,m,hj,rfl,rfl,l,a⟩;refine aI f cU (bM (aJ (fun G=>?_) (fun G=>?_)))
 ·have g:j<vs.length:=by omega
  obtain ⟨a2,a3⟩:=N _ (bJ g);rw [dB g,oB] at l;refine ⟨fun t w'=>t=ax (if m<=vs[j] then vs[j]+1 else m)/\Inv w [] [ay O #[ax c.head.kind,ax c.head.n,.string c.head.name,kv,V] aB] S2 w',?_,?_⟩
  ·refine gj a f cU aw g (fun cs q=>q) (iS (aJ (fun he=>?_) (fun he=>?_)))
   ·refine gj a f cU aw g (fun cs q=>q) (bA (by omega) ?_);exact ⟨by rw [ai (by omega)],a⟩
   ·exact ⟨by rw [af (by omega)],a⟩
  intro a0 _ _ _ _ _ _ _ _ _ _ _ w';rintro ⟨rfl,a⟩;refine bA (by omega) ?_;exact ⟨⟨j+1,_,g,rfl,rfl,l,a⟩,by simp [intOf];omega⟩
 have:j=vs.length:=by omega
 subst this;rw [dY,oB] at l;subst l;exact ⟨rfl,((a.less r).less o).pick [false]⟩
end
end
section
open Go Go.RowKit
def RdG (S:ae) (cs:List Value) (g:T × Int):Prop:=∃ hd,cs=hd++[ax g.2]/\RdT S hd g.1
theorem RdG.length {S:ae} {cs:hZ} {g:T × Int} (h:RdG S cs g):cs.length=5:=by
 obtain ⟨hd,rfl,h⟩:=h;simp [h.length]
theorem RdG.one {S:ae} {cs:hZ} {g:T × Int} (h:RdG S cs g):∀ u∈cs,u.oneCell'=true:=by
 obtain ⟨hd,rfl,h⟩:=h;intro u a;rcases ci.1 a with a|a
 ·exact h.one u a
 ·rw [cE] at a;subst a;rfl
theorem RdG.mono {S S':ae} {cs:hZ} {g:T × Int} (a:Sle S S') (h:RdG S cs g):RdG S' cs g:=by
 obtain ⟨hd,rfl,h⟩:=h;exact ⟨hd,rfl,h.mono a⟩
theorem RdSl.monoG {S S':ae} {v:Value} {gs:List (T × Int)} (a:Sle S S') (h:RdSl S 5 (RdG S) v gs):RdSl S' 5 (RdG S') v gs:=h.mono a fun _ _=>RdG.mono a
section
variable {w:World} {K:Value->World->Prop}
theorem QL {a b k:Int} {s:ByteArray} {x:Value} (hk:K (.agg #[ax a,ax b,.string s,x,ax k]) w) :
  Run Tryz.prog (bZ lZ [(0,.agg #[ax a,ax b,.string s,x]),(1,ax k)]) w K:=by
 refine Run.of (v:=.agg #[ax a,ax b,.string s,x,ax k]) (w':=w) ?_ hk;unfold bZ;rw [Sem.run_bind,run_build w lZ _ #[ax a,ax b,.string s,x,ax k] (by kernel_rfl),Result.andThen_ok];rfl
end
section
abbrev Zq (gs:List (T × Int)):Value->List Item->ae->Prop:=fun q I' S'=>I'=[]/\RdSl S' 5 (RdG S') q gs
theorem yT {N:Nat} (hN:N<=1000000) (m:Int) (D:0<=m) (G:m<=1000000) (k:Int) {ts:List T} {rest:List (T × Int)} {S:ae} {v Z:Value} (h:RdSl S 4 (RdT S) v ts) (hr:RdSl S 5 (RdG S) Z rest)
  (ho:∀ t∈ts,okU N t/\wT t<=1048576) (hl:ts.length<=1000000) (a1:rest.length<=1000000000) :
  kt EG [v,ax m,ax k,Z] [] S (Zq (ts.map (fun t=>(bD m t,k))++rest)):=by
 intro w a;refine AX.2 ?_;dsimp only[AX,lQ];refine fg a wQ fun v0 w' a=>?_;refine ⟨fun i t w'=>∃ (j:Nat) (css:List (hZ)) (S1:ae),j<=ts.length/\i=ax j/\Ext w.heap.size [] S S1/\Rows 5 (RdG S1) css ((ts.take j).map (fun t=>(bD m t,k)))/\Inv w [] [aK t lZ 5 css] S1 w',
  fun i _ _=>ts.length - (intOf i).toNat,⟨0,[],S,bf _,rfl,Ext.refl _ _ _,Rows.nil _ _,a⟩,?_⟩
 intro a2 _ _ t9 _ _ _ _ _ _ _ _ _ _ _ _ _ _ _ w';rintro ⟨j,css,S1,hj,rfl,B,hR,a⟩;have Y:=hR.hc;rw [nN,ey,kJ hj] at Y;refine aI h ag (bM (aJ (fun J=>?_) (fun J=>?_)))
 ·have g:j<ts.length:=by omega
  obtain ⟨U,V⟩:=ho _ (bJ g);refine cL a (h.monoT B.1) ag ac g (fun _ _=>RdT.length) fun cs M=>?_;refine Run.call0E tm sV a (y0 hN m D G _ S1 cs M U V) fun v' I' S' w'=>?_;rintro ⟨eS,a3,L,rfl,rfl,hT⟩ _ a;rw [eS] at a;obtain ⟨S2,a,l,o⟩:=a.pubExt;have f:=hT.rd o;have r:=f;obtain ⟨kv,rfl,_⟩:=RdT.iff.1 f;apply QL;have hG:RdG S2 [ax (bD m ts[j]).kind,ax (bD m ts[j]).n,.string (bD m ts[j]).name,kv,ax k] (bD m ts[j],k):=⟨_,rfl,r⟩
  refine ei a 0 [ax (bD m ts[j]).kind,ax (bD m ts[j]).n,.string (bD m ts[j]).name,kv,ax k] wQ (by omega) (by omega) rfl rfl hG.one (by omega) (by omega) fun v' w' a=>?_;refine bA (by omega) ?_;refine ⟨⟨j+1,_,S2,g,rfl,B.trans l,?_,a⟩,by simp [intOf];omega⟩;rw [gh g,IY];exact (hR.monoR fun _ _ h=>h.mono l.1).snoc hG rfl
 have:j=ts.length:=by omega
 subst this;rw [fM] at hR;refine fZ a 0 (css:=css) wQ (by omega) rfl (hr.monoG B.1) (fun _ _=>RdG.length) (fun _ _=>RdG.one) (by omega) (by omega) fun v' w' a0 O a=>?_;obtain ⟨S3,q,f,a⟩:=Inv.lendExt (A:=[]) a;exact ⟨_,_,_,rfl,a,B.trans q,rfl,RowRd.rows ((hR.append O).monoR fun _ _ h=>h.mono q.1) f⟩
end
end
end Go.Proofs.YtellfcpffcipcaaGreatDoor

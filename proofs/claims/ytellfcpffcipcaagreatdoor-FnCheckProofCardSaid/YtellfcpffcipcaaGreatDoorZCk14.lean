/- impl.RenumberClause. -/
import Derived.Test.YtellfcpffcipcaaGreatDoorZCkA
import Derived.Test.YtellfcpffcipcaaGreatDoorZCk13
namespace Go.Proofs.YtellfcpffcipcaaGreatDoor
attribute [local irreducible] Run CondV aF aT
section
open Go Go.RowKit
section
variable {P:Program} {w:World} {K:Value->World->Prop}
end
section
theorem pB (n:Int) (S:ae):ll PA [ax n] S (.agg #[ax 1,ax n,.string ⟨#[]⟩,hV]):=by
 intro w a;apply yB.2;dsimp only[yB,aR];refine aG a aV fun g w' a=>?_;have f:∀ {K:Value->World->Prop} {w':World},K (.agg #[ax 1,ax n,.string ⟨#[]⟩,hV]) w'->Run Tryz.prog (bZ ab [(0,ax 1),(1,ax n)]) w' K:=by
  intro K w' hk;refine Run.of (v:=.agg #[ax 1,ax n,.string ⟨#[]⟩,hV]) (w':=w') ?_ hk;unfold bZ;rw [Sem.run_bind,run_build w' ab _ #[ax 1,ax n,.string ⟨#[]⟩,hV] (by kernel_rfl),Result.andThen_ok];rfl
 refine f (aq a 0 rfl ac rfl rfl (by simp [Value.oneCell']) fun w' a=>?_);apply bm a 0 ac rfl rfl;exact done a rfl
theorem zt {vs:List Int} {S:ae} {g:Nat} {f:Value} {E:TypeId} (n:Int) (h:S g=some (.cells #[f] E)) (i:RdSl S 1 gW f vs) :
  ll jB [ax n,ee g] S (.agg #[ax 1,ax (Nl vs n),.string ⟨#[]⟩,hV]):=by
 intro w a;apply pI.2;dsimp only[pI,bl];refine aG a aV fun j w' a=>?_;refine cS ft (by rw [a.cellS h];rfl) (Run.callPure vI vQ a (ug n i) fun w' a=>?_);refine Run.callPure qH qO a (pB _ S) fun w' a=>?_;refine aq a 0 rfl ac rfl rfl (by simp [Value.oneCell']) fun w' a=>?_;apply bm a 0 ac rfl rfl;exact done a rfl
theorem Ks (vs:List Int) (b9:vs.length<=1000000000):∀ (t:T) (S:ae) (cs:hZ) (g:Nat) (vv:Value) (E:TypeId),RdT S cs t->S g=some (.cells #[vv] E)->RdSl S 1 gW vv vs->wT t<=1048576->
  kt vU [.agg cs.toArray,fv jB [ee g]] [] S (Fd S (uo vs t)):=by
 refine T.ind fun k n s ks a5 S cs g vv E h hS hv hw=>?_;have ih:∀ t∈ks,∀ (S:ae) (cs:hZ),RdT S cs t->S g=some (.cells #[vv] E)->RdSl S 1 gW vv vs->wT t<=1048576->
  kt vU [.agg cs.toArray,fv jB [ee g]] [] S (Fd S (uo vs t)):=fun t ht S cs h1 h2 h3 h4=>a5 t ht S cs g vv E h1 h2 h3 h4
 clear a5;intro w a;obtain ⟨kv,rfl,h1,h2,hs,a2⟩:=RdT.iff.1 h;simp only [T.name,T.kids,T.kind,T.n] at h1 h2 hs a2 ⊢;simp only [wT] at hw;have c1:=Zi vs n;apply ol.2;dsimp only[ol,bl];refine bq a fun J w' a=>?_;refine aG a aV fun b4 w' a=>?_;refine ad a 0 rfl aM aw rfl (bn ?_);rw [uo];refine aJ (fun a1=>?_) (fun a1=>?_)
 ·rw [ai a1];refine ad a 0 rfl aQ aw rfl (Run.callVPure C7 CY a (zt n hS hv) fun w' a=>?_);refine aq a 1 rfl ac rfl rfl (by simp [Value.oneCell']) fun w' a=>?_;apply bm a 1 ac rfl rfl;exact ⟨_,_,_,rfl,a.pick [false,false],Ext.refl _ _ _,rfl,[_,_,_,_],[],rfl,rfl,TrT.iff.2 ⟨_,rfl,by simp [inI,T.kind],by simp only [inI,T.n];omega,by rw [T.name];decide +kernel,TrSl.nil (by simp [maxLen])⟩⟩
 rw [af a1];refine ad a 0 rfl ao aj rfl ?_;refine cX a 0 rfl ao aj rfl rfl rfl fun w' a=>?_;refine aI a2 ag ?_;have a:Inv w [] [ay b4 bb ab,ay J #[ax k,ax n,.string s,hV] ab] S w':=a.perm (List.Perm.swap _ _ _);have a:=a.rowNil ab 4;refine ⟨fun i w'=>∃ (j:Nat) (l:Value) (Ls:List bz) (css:List (hZ)),j<=ks.length/\i=ax j/\Grown 4 TrT Ls css (kU vs (ks.take j))/\
   Inv w [] (ay b4 bb ab::.blk J (.cells #[ax k,ax n,.string s,l] ab)::aK l ab 4 css::bE Ls.flatten) S w',
  fun i _=>ks.length - (intOf i).toNat,⟨0,_,[],[],bf _,rfl,Grown.nil _ _,a⟩,?_⟩
 intro c0 _ _ _ _ _ _ _ _ _ _ _ _ _ w';rintro ⟨j,l,Ls,css,hj,rfl,hg,a⟩;refine bM (aJ (fun b0=>?_) (fun b0=>?_))
 ·have a0:j<ks.length:=by omega
  have c2:(ks.take j).length=j:=by simp;omega
  have b3:=hg.hc;rw [qY] at b3;have hm:=bJ a0;have c3:=lf hm;refine cL a a2 ag ac a0 (fun _ _=>RdT.length) fun N U=>?_;refine aG a aV fun b7 w' a=>?_;have a:=a.perm (M:=.blk b7 _::(ay b4 bb ab::.blk J (.cells #[ax k,ax n,.string s,l] ab)::aK l ab 4 css::bE Ls.flatten)) (cT (l₁:=[_]));refine aq a 0 rfl ac (by simpa using U.length) rfl (by simpa using U.one) fun w' a=>?_;refine ⟨fun D kY O lO jW pp oR iU pj w_=>Fx D 0 [pj=eu J 3,iU=l,oR=.agg N.toArray,pp=fv jB [ee g],True,True,True,kY=eu J 3,True]/\∃ M f G,(D 4=true->jW=.agg f.toArray/\TrT M f (uo vs ks[j]))/\(D 5=true->lO=eF G 0 1 1)/\(D 5=true->D 4=true)/\(D 6=true->D 5=true)/\(D 8=true->D 6=true)/\(D 8=true->D 1=true)/\Inv w [] (bj (ay b7 N.toArray ab) (ay b4 bb ab) (ay J #[ax k,ax n,.string s,l] ab) (ay J #[ax k,ax n,.string s,O] ab) (aK l ab 4 css) (aK O ab 4 (css++[f])) (bE Ls.flatten) M (ay G f.toArray ab) (D 4) (D 5) (D 6) (D 8)) S w_,⟨Fx.nil _ _,⟨[],[],0,aU,aU,aU,aU,aU,aU,by simpa [bj,bE] using a.draw⟩⟩,⟨?_,?_,?_,?_,?_,?_,?_,?_,?_,trivial⟩,?_⟩;all_goals (intro D Z;intros;rename_i kY O lO jW pp oR iU pj w_ a4;have r:=a4.1;obtain ⟨⟨co,cn,bP,cj,cA,bQ,bO,cM,de,_⟩,⟨M,f,G,V,e8,k8,Y,q,k1,a⟩⟩:=a4)
  apply ah ao;rotate_left
  obtain rfl:=co ‹_›;have B:D 8=false:=bN.2 fun h=>by rw [k1 h] at Z;cases Z
  refine aD (b:=J) a 2 (c:=(#[ax k,ax n,.string s,l])) aj (by rw [B];rfl) rfl ?_;have k1:=fun (_:aC D 1 8=true)=>(rfl:aC D 1 1=true)
  rotate_left;refine av a 0 ac rfl (by simpa using U.length) ?_;rotate_left;rotate_left
  obtain rfl:=bP ‹_›;obtain rfl:=cj ‹_›;have f8:D 5=false:=bN.2 fun h=>by rw [k8 h] at Z;cases Z
  have f9:D 6=false:=bN.2 fun h=>by rw [Y h] at f8;cases f8
  have B:D 8=false:=bN.2 fun h=>by rw [q h] at f9;cases f9
  rw [Z,f8,f9,B] at a;refine Run.call0 lu lJ a (ih _ (bJ a0) S N U hS hv (by omega)) fun v' I' S w_=>?_;rintro ⟨rfl,f,M,rfl,rfl,hT⟩ _ a;have V:aC D 4 4=true->Value.agg f.toArray=Value.agg f.toArray/\TrT M f (uo vs ks[j]):=fun _=>⟨rfl,hT⟩
  have k8:=fun (_:aC D 4 5=true)=>(rfl:aC D 4 4=true)
  have a:Inv w [] (bj (ay b7 N.toArray ab) (ay b4 bb ab) (ay J #[ax k,ax n,.string s,l] ab) (ay J #[ax k,ax n,.string s,O] ab) (aK l ab 4 css) (aK O ab 4 (css++[f])) (bE Ls.flatten) M (ay G f.toArray ab) true (D 5) (D 6) (D 8)) S w_:=by
   rw [f8,f9,B];simpa [bj] using a
  rotate_left;have Ot:=cA ‹_›;have f9:D 6=false:=bN.2 fun h=>by rw [Y h] at Z;cases Z
  have B:D 8=false:=bN.2 fun h=>by rw [q h] at f9;cases f9
  obtain ⟨q7,hT⟩:=V ‹D 4=true›;subst q7;rw [‹D 4=true›,Z,f9,B] at a;refine dQ a bx (by simp [Value.cells,hT.length]) (by omega) (by omega) fun G w_ a=>?_;have V:aC D 5 4=true->Value.agg f.toArray=Value.agg f.toArray/\TrT M f (uo vs ks[j]):=fun _=>⟨rfl,hT⟩
  have e8:=fun (_:aC D 5 5=true)=>(rfl:Value.slice (some ⟨G,0,none⟩) 1 1=_)
  have k8:=fun (_:aC D 5 5=true)=>‹D 4=true›;have Y:=fun (_:aC D 5 6=true)=>(rfl:aC D 5 5=true)
  have a:Inv w [] (bj (ay b7 N.toArray ab) (ay b4 bb ab) (ay J #[ax k,ax n,.string s,l] ab) (ay J #[ax k,ax n,.string s,O] ab) (aK l ab 4 css) (aK O ab 4 (css++[f])) (bE Ls.flatten) M (ay G f.toArray ab) (D 4) true (D 6) (D 8)) S w_:=by
   rw [‹D 4=true›,f9,B];simpa [bj,Value.cells] using a
  rotate_left;obtain rfl:=cn ‹_›;have PS:=bQ ‹_›;have B:D 8=false:=bN.2 fun h=>by rw [q h] at Z;cases Z
  have q8:=e8 ‹D 5=true›;subst q8;obtain ⟨_,hT⟩:=V ‹D 4=true›;rw [‹D 4=true›,‹D 5=true›,Z,B] at a;have a6:((bj (ay b7 N.toArray ab) (ay b4 bb ab) (ay J #[ax k,ax n,.string s,iU] ab) (ay J #[ax k,ax n,.string s,O] ab) (aK iU ab 4 css) (aK O ab 4 (css++[f])) (bE Ls.flatten) M (ay G f.toArray ab) true true false false))[4+(bE Ls.flatten).length+(bE M).length]?=some (ay G f.toArray ab):=by
   have e4:4+(bE Ls.flatten).length+(bE M).length=((bE Ls.flatten).length+(bE M).length)+1+1+1+1:=by omega
   rw [e4];simp only [bj,nL];rw [jr (by omega),qS,jr (be _),fH];rfl
  refine eT a 3 f bx (by omega) rfl (by rw [hT.length]) (m:=1) (o:=0) ?_ hT.one (by omega) (by omega) fun v' w_ a=>?_
  ·intro i u hi;rw [a.cellL a6,dr];simpa using hi
  rw [fU] at a;have Y:=fun (_:aC D 6 6=true)=>‹D 5=true›;have q:=fun (_:aC D 6 8=true)=>(rfl:aC D 6 6=true)
  have a:Inv w [] (bj (ay b7 N.toArray ab) (ay b4 bb ab) (ay J #[ax k,ax n,.string s,iU] ab) (ay J #[ax k,ax n,.string s,v'] ab) (aK iU ab 4 css) (aK v' ab 4 (css++[f])) (bE Ls.flatten) M (ay G f.toArray ab) (D 4) (D 5) true (D 8)) S w_:=by
   rw [‹D 4=true›,‹D 5=true›,B];exact a
  rotate_left;apply ah ao;rotate_left
  obtain rfl:=cM ‹_›;have Ky:=bO ‹_›;rw [‹D 4=true›,‹D 5=true›,‹D 6=true›,Z] at a;obtain ⟨va,vn,vc,a3⟩:=Inv.rowSlice a 3 rfl;refine dD a 2 (n:=1) (by rw [a3];rfl) (by decide +kernel) rfl (by simp) (by rw [a3];simp [Value.cells,Value.oneCell']) fun w_ a=>?_;have a7:Value.cells O=#[O]:=by rw [a3];rfl
  rw [a7] at a;have k1:=fun (_:aC D 8 8=true)=>‹D 1=true›;have q:=fun (_:aC D 8 8=true)=>‹D 6=true›;have a:Inv w [] (bj (ay b7 N.toArray ab) (ay b4 bb ab) (ay J #[ax k,ax n,.string s,l] ab) (ay J #[ax k,ax n,.string s,O] ab) (aK l ab 4 css) (aK O ab 4 (css++[f])) (bE Ls.flatten) M (ay G f.toArray ab) (D 4) (D 5) (D 6) true) S w_:=by
   rw [‹D 4=true›,‹D 5=true›,‹D 6=true›];exact a
  rotate_left
  all_goals try exact ⟨r.set _ (by first|rfl|assumption|trivial),M,f,G,V,e8,k8,Y,q,k1,a⟩
  obtain ⟨rfl,rfl,rfl,rfl,Ot,PS,Ky,rfl,_,_⟩:=r.all;have a8:D 4=true:=by assumption
  have b5:D 5=true:=by assumption
  have XC:D 6=true:=by assumption
  have Dc:D 8=true:=by assumption
  clear r;obtain ⟨_,hT⟩:=V a8;rw [a8,b5,XC,Dc] at a;refine bA (by omega) ?_;refine ⟨⟨j+1,O,Ls++[M],css++[f],a0,rfl,?_,?_⟩,by simp [intOf];omega⟩
  ·rw [H0 vs ks j a0];exact hg.snoc hT hT.length
  ·simp only [AB,jY,uZ,dc,fy];apply a.sub;simp only [bj];rw [<- eY];exact ((((eh _ _).cons_cons _).cons_cons _).cons_cons _).cons _
 ·have:j=ks.length:=by omega
  subst this;rw [fM] at hg;obtain ⟨va,vn,vc,b1⟩:=a.rowSlice 2 rfl;have b6:l.oneCell'=true:=by rw [b1];rfl
  refine av a 1 ac rfl rfl (aq a 0 rfl ac rfl rfl ?_ fun w' a=>?_)
  ·intro u hu;have a9:u∈([ax k,ax n,.string s,l]:hZ):=hu;simp at a9;rcases a9 with rfl|rfl|rfl|rfl <;> first|rfl|exact b6
  apply bm a 0 ac rfl rfl;have a:Inv w [] ([]++(aK l ab 4 css::bE Ls.flatten)) S w':=a.sub (eR [_,_] _);obtain ⟨L,hT,a⟩:=Inv.rowTree a hg;exact ⟨_,_,_,rfl,a,Ext.refl _ _ _,rfl,_,L,rfl,rfl,TrT.iff.2 ⟨l,rfl,h1,h2,hs,hT⟩⟩
theorem En {ts:List T} {S:ae} {v:Value} (h:RdSl S 4 (RdT S) v ts) (hw:ts.length+wL ts<=1048577):kt Jf [v] [] S (YL 4 TrT S (kU (fm ts []) ts)):=by
 intro w a;have J:=h.le;simp only [maxLen] at J;have N:=DH ts;have Z:=As ts [];simp only [cB] at Z;apply tZ.2;dsimp only[tZ,aR];refine Run.call0 uL wz a (te h (by omega)) fun v1 I' S w'=>?_;rintro ⟨rfl,rfl⟩ _ a;have O:(fm ts []).length<=1000000000:=by omega
 generalize fm ts []=vs at a O ⊢;refine aG a aaO fun r w' a=>?_;have j:v1.cells=#[v1]/\v1.oneCell'=true:=by
  have:=a.its (dI v1 vs) (by simp);rcases this.2 with ⟨rfl,_⟩|⟨g,cap,a5,rfl,_⟩ <;> exact ⟨rfl,rfl⟩
 refine dD a 1 (n:=1) (by rw [j.1];rfl) (by rw [ft];rfl) rfl (l9 rfl) (by rw [j.1];simpa using j.2) fun w' a=>?_;have a0:b0 (Value.slice none 0 0).cells 0 v1.cells.toList=#[v1]:=by
  rw [j.1];rfl
 have a:Inv w [] [dI v1 vs,ay r #[v1] tg] S w':=by
  have:=a;simp only [i8,u9] at this;rw [a0] at this;exact this
 have a:=a.perm (M:=[ay r #[v1] tg]++[dI v1 vs]) (List.Perm.swap _ _ _);obtain ⟨S1,D,G,a,_⟩:=Inv.lend (A:=[_]) a;obtain ⟨a,f⟩:=Inv.publishLast (L:=[]) a;have hb:sq S1 r (.cells #[v1] tg) r=some (.cells #[v1] tg):=by simp [sq]
 generalize sq S1 r (.cells #[v1] tg)=S2 at a f hb;have a1:=G.ints.mono f fun _ _ h=>h;have o:=D.trans f;have h:=h.mono o fun _ _ h=>h.mono o;refine aI h ag ?_;refine ⟨fun i t w'=>∃ (k:Nat) (Ls:List bz) (css:List (hZ)),k<=ts.length/\i=ax k/\Grown 4 TrT Ls css (kU vs (ts.take k))/\Inv w [] (aK t ab 4 css::bE Ls.flatten) S2 w',
  fun i _ _=>ts.length - (intOf i).toNat,⟨0,[],[],bf _,rfl,Grown.nil _ _,a.rowNil ab 4⟩,?_⟩
 intro a2 _ t4 _ _ _ _ _ _ _ _ _ _ w';rintro ⟨k,Ls,css,hk,rfl,V,a⟩;refine bM (aJ (fun Y=>?_) (fun Y=>?_))
 ·have l:k<ts.length:=by omega
  have a3:(ts.take k).length=k:=by simp;omega
  have N:=V.hc;rw [qY] at N;have hm:=bJ l;have a4:=lf hm;refine cL a h ag ac l (fun _ _=>RdT.length) fun cs m=>?_;have U:=m.length;refine aG a aV fun b6 w' a=>?_;have a:=a.perm (M:=.blk b6 _::(aK t4 ab 4 css::bE Ls.flatten)) (cT (l₁:=[_]));refine aq a 0 rfl ac (by simpa using U) rfl (by simpa using m.one) fun w' a=>?_;refine av a 0 ac rfl (by simpa using U) ?_;have a:Inv w [] (aK t4 ab 4 css::bE Ls.flatten) S2 w':=a.sub (kA _ _);refine md (Run.call0 lu lJ a (Ks vs O _ S2 cs r v1 tg m hb a1 (by omega)) fun v' I' S' w'=>?_);rintro ⟨rfl,B,L,rfl,rfl,q⟩ _ a;refine ei a 0 B bx (by omega) (by omega) rfl q.length q.one (by omega) (by omega) fun v' w' a=>?_;refine bA (by omega) ?_;refine ⟨⟨k+1,Ls++[L],css++[B],l,rfl,?_,?_⟩,by simp [intOf];omega⟩
  ·rw [H0 vs ts k l];exact V.snoc q q.length
  ·simp only [AB,jY,uZ,dc,fy];exact a
 ·have:k=ts.length:=by omega
  subst this;rw [fM] at V;obtain ⟨L,q,a⟩:=Inv.rowTree (A:=[]) a V;exact ⟨_,_,_,rfl,a.less o,Ext.refl _ _ _,rfl,_,rfl,q⟩
end
end
section
open Go Go.RowKit
mutual
theorem Oa (vs:List Int):∀ t:T,wT (jJ vs t)=wT t
 | .mk k n s ks=>by rw [jJ,wT,wT,wU,Np vs ks]
theorem Np (vs:List Int):∀ ts:List T,wL (pO vs ts)=wL ts
 | []=>rfl
 | t::ts=>by rw [pO,wL,wL,Oa vs t,Np vs ts]
end
theorem acO (vs:List Int) (c:C):wC (abe vs c)=wC c:=by
 simp only [wC,abe,Oa,Np,wU]
section
theorem TrC.zero:TrC [] [ax 0,ax 0,.string ⟨#[]⟩,hV,hV] ⟨⟨0,0,⟨#[]⟩,[]⟩,[]⟩:=
 ⟨[ax 0,ax 0,.string ⟨#[]⟩,hV],hV,[],[],rfl,rfl,TrT.iff.2 ⟨_,rfl,by simp [inI,T.kind],by simp [inI,T.n],by rw [T.name];decide +kernel,TrSl.nil (by simp [maxLen])⟩,TrSl.nil (by simp [maxLen])⟩
end
end
section
open Go Go.RowKit
def acG:Option (Option C)->Bool
 | some (some r)=>cz r
 | _=>false
def Wp:C:=⟨⟨0,0,⟨#[]⟩,[]⟩,[]⟩
def clO:Option (Option C)->C
 | some (some r)=>r
 | _=>Wp
section
variable {P:Program} {w:World} {K:Value->World->Prop}
end
end
section
open Go Go.RowKit
def Ph (a b:Int):Int:=if a.tmod b≠0/\(decide (a.tmod b<0) != decide (b<0))=true then a.tmod b+b else a.tmod b
def l6 (n:Int):Int × Int:=if n < -999 ∨ 999<n then (0,5) else (n,0)
def opA (s:ByteArray) (a b:Int):Int × Int:=
 if s=⟨#[43]⟩ then l6 (a+b)
 else if s=⟨#[45]⟩ then l6 (a - b)
 else if s=⟨#[42]⟩ then l6 (a * b)
 else if b=0 then (0,4)
 else if s=⟨#[109,111,100]⟩ then (Ph a b,0)
 else (a.tdiv b,0)
def lX (s:ByteArray):List (Int × Int)->Int × Int
 | [a,b]=>if di s=1 ∨ di s=2 then (if a.2≠0 then (0,a.2) else if b.2≠0 then (0,b.2) else opA s a.1 b.1) else (0,3)
 | _=>(0,3)
mutual
def dg:T->Int × Int
 | .mk k n s ks=>if k=1 then (0,2) else if k=2 then (n,0) else lX s (eG ks)
def eG:List T->List (Int × Int)
 | []=>[]
 | t::ts=>dg t::eG ts
end
theorem Jb:∀ ts:List T,eG ts=ts.map dg
 | []=>rfl
 | t::ts=>by rw [eG,Jb ts,qD]
mutual
def okN:T->Prop
 | .mk k n _ ks=>(k=2->-999<=n/\n<=999)/\Ew ks
def Ew:List T->Prop
 | []=>True
 | t::ts=>okN t/\Ew ts
end
theorem ip:∀ {ts:List T},Ew ts->∀ t∈ts,okN t
 | t::ts,h,x,a=>by
  rw [Ew] at h;rcases cw.1 a with rfl|a
  ·exact h.1
  ·exact ip h.2 x a
theorem okN.kids {t:T} (h:okN t):Ew t.kids:=by cases t; rw [okN] at h; exact h.2
def Sm (n:Int):Prop:=-999<=n/\n<=999
theorem D6 (n:Int):Sm (l6 n).1:=by
 unfold l6 Sm;split
 ·simp
 ·simp only [];omega
theorem Nv {a b:Int} (f:Sm a):Sm (a.tdiv b):=by
 unfold Sm at *;have g:(a.tdiv b).natAbs<=a.natAbs:=by
  rw [Int.natAbs_tdiv];exact Nat.div_le_self _ _
 omega
theorem Nn {a b:Int} (_:Sm b) (f:b≠0):(a.tmod b).natAbs<b.natAbs:=by
 rw [Int.natAbs_tmod];exact wG _ (by omega)
theorem VR {a b:Int} (l:Sm b) (m:b≠0):Sm (Ph a b):=by
 have h:=Nn (a:=a) l m;unfold Ph;split
 ·rename_i g
  obtain ⟨g,i⟩:=g;unfold Sm at *;by_cases j:a.tmod b<0
  ·by_cases f:b<0
   ·simp [j,f] at i
   ·omega
  ·by_cases f:b<0
   ·omega
   ·simp [j,f] at i
 ·unfold Sm at *;omega
theorem acE {s:ByteArray} {a b:Int} (f:Sm a) (g:Sm b):Sm (opA s a b).1:=by
 unfold opA;split
 ·exact D6 _
 split
 ·exact D6 _
 split
 ·exact D6 _
 split
 ·simp [Sm]
 split
 ·rename_i h _;exact VR g h
 ·exact Nv f
theorem oW:∀ t:T,okN t->Sm (dg t).1:=by
 refine T.ind fun k n s f a h=>?_;rw [okN] at h;rw [dg];split
 ·simp [Sm]
 split
 ·rename_i hk;exact h.1 hk
 rw [Jb]
 match f,a,h.2 with
 | [],_,_=>simp [lX,Sm]
 | [x],_,_=>simp [lX,Sm]
 | [x,y],a,h2=>
  have g:=a x (by simp) (ip h2 x (by simp));have i:=a y (by simp) (ip h2 y (by simp));simp only [qD,List.map_nil,lX];split
  ·split
   ·simp [Sm]
   ·split
    ·simp [Sm]
    ·exact acE g i
  ·simp [Sm]
 | _::_::_::_,_,_=>simp [lX,Sm]
theorem I0 {x b:Int} (h:x.natAbs<b.natAbs):x.tmod b=x:=by
 have a:=Int.tmod_add_mul_tdiv x b;have g:(x.tdiv b).natAbs=0:=by rw [Int.natAbs_tdiv];exact Nat.div_eq_of_lt h
 have f:x.tdiv b=0:=by omega
 rw [f] at a;simpa using a
theorem Q8 {m b:Int} (a:0<=m) (h:m<b):(m+b).tmod b=m:=by
 rw [Int.tmod_eq_emod_of_nonneg (by omega),Int.add_emod_right,Int.emod_eq_of_lt a h]
theorem X7 {m b:Int} (f:m<=0) (h:b<m):(m+b).tmod b=m:=by
 have a:=Q8 (m:=-m) (b:=-b) (by omega) (by omega);rw [Int.tmod_neg,show -m+-b=-(m+b) by omega,Int.neg_tmod] at a;omega
theorem aak {a b:Int} (l:b≠0):(a.tmod b+b).tmod b=Ph a b:=by
 have h:(a.tmod b).natAbs<b.natAbs:=by
  rw [Int.natAbs_tmod];exact wG _ (by omega)
 obtain ⟨m,j⟩:∃ m,m=a.tmod b:=⟨_,rfl⟩
 unfold Ph;rw [<- j] at h ⊢;by_cases g:m<0
 ·by_cases f:b<0
  ·rw [af (by simp [g,f]),X7 (by omega) (by omega)]
  ·rw [ai (by simp [g,f];omega),I0 (by omega)]
 ·by_cases f:b<0
  ·by_cases i:m=0
   ·subst i;simp
   ·rw [ai (by simp [g,f,i]),I0 (by omega)]
  ·rw [af (by simp [g,f]),Q8 (by omega) (by omega)]
def lw (s:ByteArray) (a b:Int):Bool:=
 if s=⟨#[60]⟩ then decide (a<b)
 else if s=⟨#[62]⟩ then decide (b<a)
 else if s=⟨#[61,60]⟩ then decide (a<=b)
 else if s=⟨#[62,61]⟩ then decide (b<=a)
 else decide (a=b)
def fF (b:Bool):Int:=if b=true then 0 else 1
def Uv (s:ByteArray):List (Int × Int)->Int
 | [a,b]=>if a.2≠0 then a.2 else if b.2≠0 then b.2 else fF (lw s a.1 b.1)
 | _=>0
def fh:List ByteArray:=[⟨#[60]⟩,⟨#[62]⟩,⟨#[61,60]⟩,⟨#[62,61]⟩,⟨#[61,58,61]⟩]
abbrev abc (p:Int × Int):Value:=.tuple #[ax p.1,ax p.2]
theorem Sj (s:ByteArray) (l:List ByteArray):(l.any fun x=>decide (x=s))=dy s l:=by
 rw [dy]
 congr 1
 funext x
 rw [dJ];exact u5
theorem nw {l:List T} (h:l.length=2):∃ x y,l=[x,y]:=by
 match l,h with
 | [x,y],_=>exact ⟨x,y,rfl⟩
theorem XD (n:Int):l6 n=if (decide (-999<=n) && decide (n<=999))=true then (n,0) else (0,5):=by
 unfold l6;by_cases h:n < -999 ∨ 999<n
 ·rw [ai h,af (by simp;omega)]
 ·rw [af h,ai (by simp;omega)]
theorem Yk {n:Int} (h:Sm n):l6 n=(n,0):=by
 unfold l6 Sm at *;rw [af (by omega)]
section
theorem ma (n:Int) (S:ae):ll NR [ax n] S (abc (l6 n)):=by
 intro w a;apply y6.2;dsimp only[y6,aR];refine ⟨fun t w'=>t=.bool (decide (n < -999 ∨ 999<n))/\Inv w [] [] S w',?_,?_⟩
 ·apply bM;refine Aq (fun h=>⟨?_,a⟩) (fun h=>?_)
  ·rw [aL (.inl (of_decide_eq_true h))]
  ·apply ew;refine sm h ⟨?_,a⟩;have h:=of_decide_eq_false h;rw [Value.bool.injEq,dJ];omega
 intro q _ _ _ _ _ w';rintro ⟨rfl,a⟩;refine aJ (fun h=>done a ?_) (fun h=>done a ?_)
 ·rw [l6,ai h]
 ·rw [l6,af h]
theorem LC (a b:Int) (g:b≠0) (i:Sm b) (S:ae):ll X0 [ax a,ax b] S (ax (Ph a b)):=by
 intro w f;have m:=Nn (a:=a) i g;unfold Sm at i;apply IW.2;dsimp only[IW,bl];apply Zs g;refine ⟨fun t w'=>t=ax (Ph a b)/\Inv w [] [] S w',?_,?_⟩
 ·refine ⟨fun t w'=>t=.bool (decide (a.tmod b≠0/\(decide (a.tmod b<0) != decide (b<0))=true))/\Inv w [] [] S w',?_,?_⟩
  ·apply dw;refine lP (fun h=>?_) (fun h=>⟨?_,f⟩)
   ·refine bM (bM (Vj B0 ?_));refine jv h ⟨?_,f⟩;simp at h;rw [Value.bool.injEq];by_cases j:a.tmod b<0 <;> by_cases l:b<0 <;> simp [h,j,l]
   ·simp at h;simp [h]
  intro q _ _ _ _ _ _ _ _ w';rintro ⟨rfl,f⟩;refine aJ (fun h=>?_) (fun h=>?_)
  ·refine bA (by omega) ?_;exact ⟨by rw [Ph,ai h],f⟩
  ·exact ⟨by rw [Ph,af h],f⟩
 intro q _ _ _ _ _ _ _ _ _ _ _ _ w';rintro ⟨rfl,f⟩;exact done f rfl
theorem KF (a b:Int) (f:b≠0) (g:Sm a) (S:ae):ll Xz [ax a,ax b] S (ax (a.tdiv b)):=by
 intro w h;have:=Nv (b:=b) g;unfold Sm at this;apply HY.2;dsimp only[HY,bl];refine abO f (by omega) ?_;exact done h rfl
theorem Yc {a b:Int} (f:Sm a) (g:Sm b):-998001<=a * b/\a * b<=998001:=by
 unfold Sm at *;have h:(a * b).natAbs=a.natAbs * b.natAbs:=Int.natAbs_mul a b;have i:a.natAbs * b.natAbs<=999 * 999:=DY (by omega) (by omega);omega
theorem Pc (s:ByteArray) (a b:Int) (l:Sm a) (m:Sm b) (S:ae):ll Yd [.string s,ax a,ax b] S (abc (opA s a b)):=by
 intro w f;have q:=l;have r:=m;have t:=Yc l m;unfold Sm at l m;apply Mi.2;dsimp only[Mi,dR];refine bB (aJ (fun h=>?_) (fun g=>?_))
 ·refine bA (by omega) (Run.callPure qN qI f (ma _ S) fun w' f=>?_);refine al (v:=ax _) rfl (al (v:=ax _) rfl ?_);exact done f (by rw [opA,ai h])
 refine bB (aJ (fun h=>?_) (fun i=>?_))
 ·refine je (by omega) (Run.callPure qN qI f (ma _ S) fun w' f=>?_);refine al (v:=ax _) rfl (al (v:=ax _) rfl ?_);exact done f (by rw [opA,af g,ai h])
 refine bB (aJ (fun h=>?_) (fun o=>?_))
 ·refine Fe (by omega) (Run.callPure qN qI f (ma _ S) fun w' f=>?_);refine al (v:=ax _) rfl (al (v:=ax _) rfl ?_);exact done f (by rw [opA,af g,af i,ai h])
 refine bn (aJ (fun h=>?_) (fun j=>?_))
 ·exact done f (by rw [opA,af g,af i,af o,ai h])
 refine bB (aJ (fun h=>?_) (fun B=>?_))
 ·refine Run.callPure Vh UA f (LC _ _ j r S) fun w' f=>?_;exact done f (by rw [opA,af g,af i,af o,af j,ai h])
 ·refine Run.callPure Vk VO f (KF _ _ j q S) fun w' f=>?_;exact done f (by rw [opA,af g,af i,af o,af j,af B])
theorem dX (b:Bool) (S:ae):ll TR [.bool b] S (ax (fF b)):=by
 intro w a;apply EL.2;dsimp only[EL,aR];refine aE (fun h=>done a ?_) (fun h=>done a ?_) <;> rw [h] <;> rfl
theorem eQ (b:Bool) (S:ae):ll n_i_holds [.bool b] S (ax (fF b)):=by
 intro w a;apply sh_i_holds.2;dsimp only[sh_i_holds,aR];refine aE (fun h=>done a ?_) (fun h=>done a ?_) <;> rw [h] <;> rfl
theorem GF (s:ByteArray) (a b:Int) (S:ae):ll Sk [.string s,ax a,ax b] S (.bool (lw s a b)):=by
 intro w f;apply CU.2;dsimp only[CU,dR];apply bB;refine aJ (fun h=>bM (done f (by rw [lw,ai h]))) (fun g=>?_);apply bB;refine aJ (fun h=>ew (done f (by rw [lw,af g,ai h]))) (fun i=>?_);apply bB;refine aJ (fun h=>gJ (done f (by rw [lw,af g,af i,ai h]))) (fun j=>?_);apply bB;refine aJ (fun h=>iS (done f (by rw [lw,af g,af i,af j,ai h]))) (fun l=>?_);exact bn (done f (by rw [lw,af g,af i,af j,af l]))
theorem zB (s:ByteArray) (S:ae):ll Jy [.string s] S (.bool (dy s fh)):=by
 intro w a;apply uw.2;dsimp only[uw,aR];refine bB (Aq (fun h=>?_) (fun f=>?_))
 ·refine rpG ?_;exact done a (by simp only [dy,fh,fD,h,py])
 refine bB (sm f (Aq (fun h=>?_) (fun g=>?_)))
 ·refine rpG ?_;exact done a (by simp only [dy,fh,fD,h,py,IF])
 refine bB (sm g (Aq (fun h=>?_) (fun i=>?_)))
 ·refine rpG ?_;exact done a (by simp only [dy,fh,fD,h,py,IF])
 refine bB (sm i (Aq (fun h=>?_) (fun j=>?_)))
 ·refine rpG ?_;exact done a (by simp only [dy,fh,fD,h,py,IF])
 refine bB (sm j ?_);exact done a (by simp only [dy,fh,fD,List.any_nil,f,g,i,j,ib,Bool.or_false])
theorem nG:∀ (t:T) (S:ae) (cs:hZ),RdT S cs t->okN t->ll R7 [.agg cs.toArray] S (abc (dg t)):=by
 refine T.ind fun k n s j D S cs h hn=>?_;intro w a;obtain ⟨kv,rfl,_,_,_,g⟩:=RdT.iff.1 h;rw [okN] at hn;simp only [T.name,T.kids,T.kind,T.n] at g ⊢;apply CH.2;dsimp only[CH,aR];refine bq a fun M w' a=>?_;refine ad a 0 rfl aM aw rfl (bn ?_);refine aJ (fun r=>done a (by rw [dg,ai r])) (fun r=>?_);refine bn (aJ (fun B=>?_) (fun B=>?_))
 ·refine ad (u:=ax n) a 0 rfl aQ aw rfl ?_;exact done a (by rw [dg,af r,ai B])
 have O:dg (.mk k n s j)=lX s (eG j):=by rw [dg,af r,af B]
 rw [O];refine ad a 0 rfl aW aP rfl (Run.callPure gD gI a (eZ s S) fun w' a=>?_);refine ⟨fun t w'=>t=.bool (!(decide (j.length=2) && (decide (di s=1) || decide (di s=2))))/\Inv w [] [ay M #[ax k,ax n,.string s,kv] ab] S w',?_,?_⟩
 ·refine ad a 0 rfl ao aj rfl (aI g ag (dw ?_));have U:decide ((j.length:Int)=2)=decide (j.length=2):=by rw [dJ];omega
  rw [U];cases hl:decide (j.length=2)
  ·refine rpG ?_;exact ⟨rfl,a⟩
  refine rpG ?_;apply dw;cases V:decide (di s=1)
  ·refine rpG ?_;apply dw;refine rpG ?_;exact ⟨rfl,a⟩
  ·refine rpG ?_;exact ⟨rfl,a⟩
 intro q _ _ _ _ _ _ _ _ _ _ _ w';rintro ⟨rfl,a⟩;refine aE (fun hc=>done a ?_) (fun hc=>?_)
 ·match j,hc with
  | [],_|[_],_|_::_::_::_,_=>rfl
  | [x,y],hc=>
   simp at hc;rw [eG,eG,eG,lX,af (by omega)]
 simp only [rW,aZ,jI,bt] at hc;obtain ⟨hl,N⟩:=hc;obtain ⟨x,y,rfl⟩:=nw hl;have e1:lX s (eG [x,y])=if (dg x).2≠0 then (0,(dg x).2) else if (dg y).2≠0 then (0,(dg y).2) else opA s (dg x).1 (dg y).1:=by
  rw [eG,eG,eG,lX,ai N]
 rw [e1];have G:=ip hn.2 x (by simp);have J:=ip hn.2 y (by simp);refine ad a 0 rfl ao aj rfl (cL (i:=0) a g ag ac (by simp) (fun _ _=>RdT.length) fun l f=>?_);refine Run.callPure lj lp a (D x (by simp) S l f G) fun w' a=>?_;refine al (v:=ax _) rfl (al (v:=ax _) rfl (dw ?_));refine aE (fun m=>done a ?_) (fun m=>?_)
 ·simp at m;rw [ai m]
 simp at m;rw [af (by simp [m])];refine ad a 0 rfl ao aj rfl (cL (i:=1) a g ag ac (by simp) (fun _ _=>RdT.length) fun l f=>?_);refine Run.callPure lj lp a (D y (by simp) S l f J) fun w' a=>?_;refine al (v:=ax _) rfl (al (v:=ax _) rfl (dw ?_));refine aE (fun o=>done a ?_) (fun o=>?_)
 ·simp at o;rw [ai o]
 simp at o;rw [af (by simp [o])];refine ad a 0 rfl aW aP rfl (Run.callPure W1 XQ a (Pc s _ _ (oW _ G) (oW _ J) S) fun w' a=>?_);refine al (v:=ax _) rfl (al (v:=ax _) rfl ?_);exact done a rfl
theorem AZ {s:ByteArray} {k n:Int} {o:List T} {S:ae} {cs:hZ} (h:RdT S cs (.mk k n s o)) (hl:o.length=2) (hn:Ew o):ll K8 [.agg cs.toArray] S (ax (Uv s (eG o))):=by
 intro w a;obtain ⟨kv,rfl,_,_,_,j⟩:=RdT.iff.1 h;simp only [T.name,T.kids,T.kind,T.n] at j ⊢;obtain ⟨x,y,rfl⟩:=nw hl;have q:=ip hn x (by simp);have r:=ip hn y (by simp);rw [eG,eG,eG,Uv];apply u6.2;dsimp only[u6,aR];refine bq a fun t w' a=>?_;refine ad a 0 rfl ao aj rfl (cL (i:=0) a j ag ac (by simp) (fun _ _=>RdT.length) fun g f=>?_);refine Run.callPure lj lp a (nG x S g f q) fun w' a=>?_;refine al (v:=ax _) rfl (al (v:=ax _) rfl (dw ?_));refine aE (fun l=>done a ?_) (fun l=>?_)
 ·simp at l;rw [ai l]
 simp at l;rw [af (by simp [l])];refine ad a 0 rfl ao aj rfl (cL (i:=1) a j ag ac (by simp) (fun _ _=>RdT.length) fun g f=>?_);refine Run.callPure lj lp a (nG y S g f r) fun w' a=>?_;refine al (v:=ax _) rfl (al (v:=ax _) rfl (dw ?_));refine aE (fun m=>done a ?_) (fun m=>?_)
 ·simp at m;rw [ai m]
 simp at m;rw [af (by simp [m])];refine ad a 0 rfl aW aP rfl (Run.callPure PG PJ a (GF s _ _ S) fun w' a=>?_);refine Run.callPure fA fw a (dX _ S) fun w' a=>?_;exact done a rfl
theorem qL:∀ (t:T) (S:ae) (cs:hZ),RdT S cs t->okN t->ll Xq [.agg cs.toArray] S (abc (dg t)):=by
 refine T.ind fun k n s G ih S0 cs h hn=>?_;intro w f;obtain ⟨kv,rfl,_,_,_,j⟩:=RdT.iff.1 h;rw [okN] at hn;simp only [T.name,T.kids,T.kind,T.n] at j ⊢;apply HT.2;dsimp only[HT,aR];refine bq f fun b1 w' f=>?_;refine ad f 0 rfl aM aw rfl (bn (aJ (fun r=>?_) (fun r=>?_)))
 ·refine ad (u:=ax n) f 0 rfl aQ aw rfl ?_;exact done f (by rw [dg,af (by omega),ai r])
 refine ad f 0 rfl aM aw rfl (bn ?_);refine aJ (fun o=>done f (by rw [dg,ai o])) (fun o=>?_);have e0:dg (.mk k n s G)=lX s (eG G):=by rw [dg,af o,af r]
 rw [e0];refine ⟨fun t w'=>t=.bool (!(decide (G.length=2) && dy s (AM++qd)))/\∃ S,Sle S0 S/\Inv w [] [ay b1 #[ax k,ax n,.string s,kv] ab] S w',?_,?_⟩
 ·refine ad f 0 rfl ao aj rfl (aI j ag (dw ?_));have el:decide ((G.length:Int)=2)=decide (G.length=2):=by rw [dJ];omega
  rw [el];cases hl:decide (G.length=2)
  ·refine rpG ?_;exact ⟨rfl,S0,Sle.refl _,f⟩
  refine rpG ?_;refine gT f (by kernel_rfl) rfl (by omega) fun v S1 w' a0 U f=>?_;refine ad f 0 rfl aW aP rfl (Run.callPure gC gA f (gi s U) fun w' f=>?_);apply cq;refine rpG ?_;refine ⟨?_,S1,a0.1,f⟩;rw [Sj];rfl
 intro q _ _ _ _ _ _ _ _ _ _ _ w';rintro ⟨rfl,S,g,f⟩;have j:=j.monoT g;have D:dy s (AM++qd)=true↔di s=1 ∨ di s=2:=by
  have e1:dy s (AM++qd)=(dy s AM || dy s qd):=by rw [dy,List.any_append];rfl
  rw [e1];unfold di;have a1:dy s uF=true->dy s AM=false/\dy s qd=false:=by
   intro hc;rw [dy,ET] at hc;obtain ⟨x,hx,hd⟩:=hc;have hd:=of_decide_eq_true hd;subst hd;simp only [uF,cw,ic,g9] at hx;rcases hx with rfl|rfl|rfl|rfl|rfl|rfl|rfl|rfl|rfl <;> exact ⟨by decide +kernel,by decide +kernel⟩
  cases hc:dy s uF
  ·cases hs:dy s AM <;> cases hp:dy s qd <;> simp
  ·simp [a1 hc]
 refine aE (fun hc=>iN f g ?_) (fun hc=>?_)
 ·match G,hc with
  | [],_|[_],_|_::_::_::_,_=>rfl
  | [x,y],hc=>
   have hc:dy s (AM++qd)=false:=by simpa using hc
   rw [eG,eG,eG,lX,af (by rw [<- D,hc];decide)]
 simp only [rW,aZ,bt] at hc;obtain ⟨hl,U⟩:=hc;rw [D] at U;obtain ⟨x,y,rfl⟩:=nw hl;have e1:lX s (eG [x,y])=if (dg x).2≠0 then (0,(dg x).2) else if (dg y).2≠0 then (0,(dg y).2) else opA s (dg x).1 (dg y).1:=by
  rw [eG,eG,eG,lX,ai U]
 rw [e1];have nx:=ip hn.2 x (by simp);have ny:=ip hn.2 y (by simp);refine ad f 0 rfl ao aj rfl (cL (i:=0) f j ag ac (by simp) (fun _ _=>RdT.length) fun J l=>?_);refine Run.callPure ph o7 f (ih x (by simp) S J l nx) fun w' f=>?_;refine al (v:=ax _) rfl (al (v:=ax _) rfl (dw ?_));refine aE (fun M=>iN f g ?_) (fun M=>?_)
 ·simp at M;rw [ai M]
 simp at M;rw [af (by simp [M])];refine ad f 0 rfl ao aj rfl (cL (i:=1) f j ag ac (by simp) (fun _ _=>RdT.length) fun J l=>?_);refine Run.callPure ph o7 f (ih y (by simp) S J l ny) fun w' f=>?_;refine al (v:=ax _) rfl (al (v:=ax _) rfl (dw ?_));refine aE (fun N=>iN f g ?_) (fun N=>?_)
 ·simp at N;rw [ai N]
 simp at N;rw [af (by simp [N])];have V:=oW x nx;have Y:=oW y ny;obtain ⟨a,ha⟩:∃ a,a=(dg x).1:=⟨_,rfl⟩
 obtain ⟨b,hb⟩:∃ b,b=(dg y).1:=⟨_,rfl⟩
 rw [<- ha] at V ⊢;rw [<- hb] at Y ⊢;have a4:=Yc V Y;have a2:=V;have O:=Y;unfold Sm at V Y;refine ⟨fun q w'=>∃ m:Int,q=ax m/\opA s a b=l6 m/\Inv w [] [ay b1 #[ax k,ax n,.string s,kv] ab] S w',?_,?_⟩
 ·refine ad f 0 rfl aW aP rfl (bB (aJ (fun h=>?_) (fun o=>?_)))
  ·exact bA (by omega) ⟨_,rfl,by rw [opA,ai h],f⟩
  refine bB (aJ (fun h=>?_) (fun r=>?_))
  ·exact je (by omega) ⟨_,rfl,by rw [opA,af o,ai h],f⟩
  refine bB (aJ (fun h=>?_) (fun h3=>?_))
  ·exact Fe (by omega) ⟨_,rfl,by rw [opA,af o,af r,ai h],f⟩
  refine bn (aJ (fun h=>?_) (fun B=>?_))
  ·exact iN f g (by rw [opA,af o,af r,af h3,ai h])
  have hd:=Nv (b:=b) a2;have a3:=hd;unfold Sm at hd;refine abO B (by omega) (ad f 0 rfl aW aP rfl (bB (aJ (fun h=>?_) (fun M=>?_))))
  ·have hm:=Nn (a:=a) O B;refine Zs B (bA (by omega) (Zs B ?_));refine ⟨_,rfl,?_,f⟩;rw [opA,af o,af r,af h3,af B,ai h,aak B,Yk (VR O B)]
  ·refine ⟨_,rfl,?_,f⟩;rw [opA,af o,af r,af h3,af B,af M,Yk a3]
 (iterate 27 intro);intro q _ _ _ _ _ _ _ w';rintro ⟨m,rfl,Z,f⟩;refine Run.callPure iA iv f (gK _ _ _ S) fun w' f=>?_;apply cq;rw [Z,XD];refine aE (fun hc=>iN f g ?_) (fun hc=>iN f g ?_)
 ·rw [lg] at hc;rw [hc];rfl
 ·rw [rW] at hc;rw [hc];rfl
def abh (t:T):Bool:=decide (t.kind=3) && (decide (t.kids.length=2) && dy t.name fh)
theorem DG {t:T} {S0:ae} {cs:hZ} (h:RdT S0 cs t):ll OW [.agg cs.toArray] S0 (.bool (abh t)):=by
 intro w a;obtain ⟨kv,rfl,_,_,_,g⟩:=RdT.iff.1 h;apply yM.2;dsimp only[yM,aR];unfold abh;refine bq a fun l w' a=>?_;refine ad a 0 rfl aM aw rfl (bn ?_);have j:decide ((t.kids.length:Int)=2)=decide (t.kids.length=2):=by rw [dJ];omega
 cases hk:decide (t.kind=3)
 ·refine rpG ?_;exact done a rfl
 refine rpG ?_;refine ad a 0 rfl ao aj rfl (aI g ag (bn ?_));rw [j];refine rpG ?_;cases hl:decide (t.kids.length=2)
 ·refine rpG ?_;exact done a rfl
 refine rpG ?_;refine gT a (by kernel_rfl) rfl (by omega) fun v S1 w' f i a=>?_;refine ad a 0 rfl aW aP rfl (Run.callPure gC gA a (gi t.name i) fun w' a=>?_);refine rpG ?_;refine iN a f.1 ?_;rw [Sj];rfl
theorem DZ {s:ByteArray} {k n:Int} {q:List T} {S:ae} {cs:hZ} (h:RdT S cs (.mk k n s q)) (hl:q.length=2) (hn:Ew q):ll PE [.agg cs.toArray] S (ax (Uv s (eG q))):=by
 intro w f;obtain ⟨kv,rfl,_,_,_,l⟩:=RdT.iff.1 h;simp only [T.name,T.kids,T.kind,T.n] at l ⊢;obtain ⟨x,y,rfl⟩:=nw hl;have J:=ip hn x (by simp);have M:=ip hn y (by simp);rw [eG,eG,eG,Uv];apply y5.2;dsimp only[y5,aR];refine bq f fun N w' f=>?_;refine ad f 0 rfl ao aj rfl (cL (i:=0) f l ag ac (by simp) (fun _ _=>RdT.length) fun j g=>?_);refine Run.callPure ph o7 f (qL x S j g J) fun w' f=>?_;refine al (v:=ax _) rfl (al (v:=ax _) rfl (dw ?_));refine aE (fun m=>done f ?_) (fun m=>?_)
 ·simp at m;rw [ai m]
 simp at m;rw [af (by simp [m])];refine ad f 0 rfl ao aj rfl (cL (i:=1) f l ag ac (by simp) (fun _ _=>RdT.length) fun j g=>?_);refine Run.callPure ph o7 f (qL y S j g M) fun w' f=>?_;refine al (v:=ax _) rfl (al (v:=ax _) rfl (dw ?_));refine aE (fun o=>done f ?_) (fun o=>?_)
 ·simp at o;rw [ai o]
 simp at o;rw [af (by simp [o])];apply ad f 0 rfl aW aP rfl;have a:∀ (b:Bool) {w':World} {L:List Item},Inv w [] L S w'->lw s (dg x).1 (dg y).1=b->Run Tryz.prog (gX (.func (.func n_i_holds) #[] #[]) [.bool b]) w' fun v t=>Ending.returned v=.returned (ax (fF (lw s (dg x).1 (dg y).1)))/\Inv w [] [] S t:=fun b w' L f e=>
  Run.callPure fn_i_holds nm_i_holds f (eQ b S) fun w' f=>done f (by rw [e])
 refine bB (aJ (fun h=>bM (a _ f (by rw [lw,ai h]))) (fun r=>?_));refine bB (aJ (fun h=>ew (a _ f (by rw [lw,af r,ai h]))) (fun B=>?_));refine bB (aJ (fun h=>gJ (a _ f (by rw [lw,af r,af B,ai h]))) (fun D=>?_));refine bB (aJ (fun h=>iS (a _ f (by rw [lw,af r,af B,af D,ai h]))) (fun G=>?_));exact bn (a _ f (by rw [lw,af r,af B,af D,af G]))
end
end
section
open Go Go.RowKit
def zT:T:=.mk 0 0 ⟨#[]⟩ []
def kd (g:T) (i:Nat):T:=g.kids.getD i zT
inductive BJ where
 | done (c:Int)
 | uni (a b:T)
 | not (a b:T)
def uS (n t u:T):BJ:=if n.kind=1 ∨ t.kind=1 then .done 2 else if n.kind≠2 ∨ t.kind≠3 ∨ t.kids.length=0 then .done 3
 else if n.n<1 ∨ (t.kids.length:Int)<n.n then .done 1 else .uni u (kd t (n.n.toNat - 1))
def nQ (s:ByteArray) (t:T):Bool:=if s=⟨#[118,97,114]⟩ then decide (t.kind=1) else if s=⟨#[110,111,110,118,97,114]⟩ then !decide (t.kind=1)
 else if s=⟨#[105,110,116]⟩ then decide (t.kind=2) else decide (t.kind=3) && decide (t.kids.length=0)
abbrev io:ByteArray:=⟨#[116,114,117,101]⟩
abbrev jH:ByteArray:=⟨#[102,97,105,108]⟩
abbrev nEq:ByteArray:=⟨#[61]⟩
abbrev nNe:ByteArray:=⟨#[92,61]⟩
abbrev ql:ByteArray:=⟨#[61,61]⟩
abbrev nIs:ByteArray:=⟨#[105,115]⟩
abbrev GM:ByteArray:=⟨#[97,114,103]⟩
def KX (n:Int):T:=.mk 2 n emptyB []
def fx (g:T):BJ:=
 if g.name=io then .done 0
 else if g.name=jH then .done 1
 else if g.name=nEq then .uni (kd g 0) (kd g 1)
 else if g.name=nNe then .not (kd g 0) (kd g 1)
 else if g.name=ql then .done (fF (eqT (kd g 0) (kd g 1)))
 else if g.name=nIs then (if (dg (kd g 1)).2≠0 then .done (dg (kd g 1)).2 else .uni (kd g 0) (KX (dg (kd g 1)).1))
 else if g.name=GM then uS (kd g 0) (kd g 1) (kd g 2)
 else if dy g.name fh=true then .done (Uv g.name (eG g.kids))
 else .done (fF (nQ g.name (kd g 0)))
def BltJ (st:au) (j:BJ) (code:Int) (st':au):Prop:=match j with
 | .done c=>code=c/\st'=st
 | .uni a b=>∃ r,Uni st (.one a b) r st'/\code=fF r
 | .not a b=>st'=st/\∃ r st1,Uni st (.one a b) r st1/\code=fF (!r)
def Blt (st:au) (g:T) (code:Int) (st':au):Prop:=BltJ st (fx g) code st'
theorem i6 {s:ByteArray} {n:Int} (a:dy s uF=true) (h:eN s n=true):n=2:=by
 rw [eN,ai a] at h;exact of_decide_eq_true h
theorem WB {n:Int} (h:eN GM n=true):n=3:=by
 rw [eN,af (by decide +kernel),af (by decide +kernel),af (by decide +kernel),ai rfl] at h;exact of_decide_eq_true h
theorem IJ {s:ByteArray} {l:List ByteArray}:dy s l=false↔∀ x∈l,s≠x:=by
 rw [dy,List.any_eq_false];simp
theorem WJ {s:ByteArray} (h:dy s fh=true):dy s uF=true:=by
 rw [dy,ET] at h ⊢;obtain ⟨x,a,hd⟩:=h;refine ⟨x,?_,hd⟩;simp only [fh,cw,ic,g9] at a;rcases a with rfl|rfl|rfl|rfl|rfl <;> simp [uF]
theorem sa {s:ByteArray} {n:Int} (h:eN s n=true) (i:s≠io) (j:s≠jH) (l:s≠nEq) (m:s≠nNe) (o:s≠ql) (q:s≠nIs) (hc:dy s fh=false) :
  (dy s yt=true/\n=1) ∨ (s=GM/\n=3):=by
 have hk:dy s uF=false:=by
  rw [IJ] at hc ⊢;intro x a;simp only [uF,cw,ic,g9] at a;rcases a with rfl|rfl|rfl|rfl|rfl|rfl|rfl|rfl|rfl <;> first|assumption|exact hc _ (by simp [fh])
 have f:dy s tj=false:=by
  rw [IJ];intro x a;simp only [tj,cw,ic,g9] at a;rcases a with rfl|rfl <;> assumption
 rw [eN,hk,f,af (by decide),af (by decide)] at h;cases g:dy s yt
 ·rw [g,af (by decide)] at h;split at h
  ·rename_i e;exact .inr ⟨e,of_decide_eq_true h⟩
  ·cases h
 ·rw [g,ai rfl] at h;exact .inl ⟨rfl,of_decide_eq_true h⟩
theorem HN {l:List T} (h:l.length=1):∃ x,l=[x]:=by
 match l,h with
 | [x],_=>exact ⟨x,rfl⟩
theorem RE {l:List T} (h:l.length=3):∃ x y z,l=[x,y,z]:=by
 match l,h with
 | [x,y,z],_=>exact ⟨x,y,z,rfl⟩
def adz (N:Nat):BJ->Prop
 | .done _=>True
 | .uni a b=>okJ N (.one a b)
 | .not a b=>okJ N (.one a b)
theorem BltJ.ex {N:Nat} {st:au} {j:BJ} (i:Good N st) (g:adz N j):∃ c f,BltJ st j c f:=by
 match j,g with
 | .done c,_=>exact ⟨c,st,rfl,rfl⟩
 | .uni a b,g=>
  have g:okJ N (.one a b):=g;obtain ⟨r,f,h⟩:=Hv (unb st) st i (be _) _ g;exact ⟨_,f,r,h,rfl⟩
 | .not a b,g=>
  have g:okJ N (.one a b):=g;obtain ⟨r,f,h⟩:=Hv (unb st) st i (be _) _ g;exact ⟨_,st,rfl,r,f,h,rfl⟩
theorem aaT (N:Nat) (n:Int):okU N (KX n):=by
 rw [KX,okU,du];exact ⟨by decide,(fun h=>by cases h),trivial,by decide +kernel⟩
theorem acB {g:T} {i:Nat} (h:i<g.kids.length):kd g i∈g.kids:=by
 rw [kd,MI,gd h];exact bJ h
theorem qi {N:Nat} {g:T} {i:Nat} (a:okU N g/\wT g<=1048576) (h:i<g.kids.length):okU N (kd g i)/\wT (kd g i)<=1048576:=kq a _ (acB h)
theorem Ht {N:Nat} {g:T} (a:bW g=true) (f:okU N g/\wT g<=1048576):adz N (fx g):=by
 rw [bW,aZ] at a;have a:=a.2;have j:∀ m:Nat,((g.kids.length:Nat):Int)=m->g.kids.length=m:=fun m h=>by omega
 unfold fx;split
 ·trivial
 split
 ·trivial
 split
 ·rename_i h;rw [h] at a
  have:=i6 (by decide +kernel) a;exact ⟨qi f (by omega),qi f (by omega)⟩
 split
 ·rename_i h;rw [h] at a
  have:=i6 (by decide +kernel) a;exact ⟨qi f (by omega),qi f (by omega)⟩
 split
 ·trivial
 split
 ·rename_i h;rw [h] at a
  have:=i6 (by decide +kernel) a;split
  ·trivial
  ·exact ⟨qi f (by omega),aaT N _,by have e:emptyB.size=0:=rfl;simp only [KX,wT,wL,cB];omega⟩
 split
 ·rename_i h;rw [h] at a
  have:=WB a;unfold uS;split
  ·trivial
  split
  ·trivial
  split
  ·trivial
  ·rename_i o q r
   have l:=qi (i:=1) f (by omega);exact ⟨qi f (by omega),qi l (by omega)⟩
 split
 ·trivial
 ·trivial
theorem Blt.ex {N:Nat} {st:au} {g:T} (f:Good N st) (h:bW g=true) (i:okU N g/\wT g<=1048576):∃ c a,Blt st g c a:=BltJ.ex f (Ht h i)
theorem Blt.good {N:Nat} {st f:au} {g:T} {c:Int} (i:Good N st) (l:bW g=true) (m:okU N g/\wT g<=1048576) (h:Blt st g c f):Good N f:=by
 have j:=Ht l m;unfold Blt at h
 match l:fx g,h,j with
 | .done c,h,_=>exact h.2 ▸ i
 | .uni a b,⟨r,hu,_⟩,j=>exact (hu.good i j).1
 | .not a b,h,_=>exact h.1 ▸ i
theorem RdSl.ptr {α:Type} {S:ae} {k:Nat} {R:hZ->α->Prop} {v:Value} {xs:List α} (h:RdSl S k R v xs) (g:0<xs.length) :
  ∃ b o cap c E f,v=eF b o xs.length cap/\S b=some (.cells c E f)/\∀ i (h:i<xs.length),R (aO c (o+i * k) k) xs[i]:=by
 obtain ⟨a,cap,rfl,hl,hc,h⟩:=h;rcases h with h|⟨b,o,c,E,f,rfl,j,h⟩
 ·subst h;simp at g
 ·exact ⟨b,o,cap,c,E,f,rfl,j,h⟩
section
theorem IH {k n:Int} {s:ByteArray} {x:T} {S:ae} {cs:hZ} (h:RdT S cs (.mk k n s [x])):ll Th [.agg cs.toArray] S (ax (fF (nQ s x))):=by
 intro w a;obtain ⟨kv,rfl,_,_,_,g⟩:=RdT.iff.1 h;simp only [T.name,T.kids,T.kind,T.n] at g ⊢;apply Fv.2;dsimp only[Fv,aR];refine bq a fun q w' a=>?_;refine ad a 0 rfl ao aj rfl (cL (i:=0) a g ag ac (by simp) (fun _ _=>RdT.length) fun ds f=>?_);have f:RdT S ds x:=f;refine aG a aV fun r w' a=>?_;refine aq a 1 rfl ac (by simpa using f.length) rfl (by simpa using f.one) fun w' a=>?_;obtain ⟨l,rfl,_,_,_,m⟩:=RdT.iff.1 f;have a:Inv w [] [ay q #[ax k,ax n,.string s,kv] ab,ay r (gn x l) ab] S w':=a;refine ad a 0 rfl aW aP rfl (bB (aJ (fun h=>?_) (fun j=>?_)))
 ·refine ad a 1 rfl aM aw rfl (bn ?_);exact Run.callPure fA fw a (dX _ S) fun w' a=>done a (by rw [nQ,ai h])
 refine bB (aJ (fun h=>?_) (fun o=>?_))
 ·refine ad a 1 rfl aM aw rfl (dw ?_);exact Run.callPure fA fw a (dX _ S) fun w' a=>done a (by rw [nQ,af j,ai h])
 refine bB (aJ (fun h=>?_) (fun t=>?_))
 ·refine ad a 1 rfl aM aw rfl (bn ?_);exact Run.callPure fA fw a (dX _ S) fun w' a=>done a (by rw [nQ,af j,af o,ai h])
 refine ad a 1 rfl aM aw rfl (bn ?_);have B:nQ s x=(decide (x.kind=3) && decide (x.kids.length=0)):=by rw [nQ,af j,af o,af t]
 rw [B];cases hk:decide (x.kind=3)
 ·refine rpG ?_;exact Run.callPure fA fw a (dX _ S) fun w' a=>done a rfl
 refine rpG ?_;refine ad a 1 rfl ao aj rfl (aI m ag (bn ?_));refine rpG ?_;refine Run.callPure fA fw a (dX _ S) fun w' a=>done a ?_;have D:decide ((x.kids.length:Int)=0)=decide (x.kids.length=0):=by rw [dJ];omega
 rw [D,dz]
def aan (S:ae) (j:BJ):Value->List Item->ae->Prop:=fun q I' S'=>I'=[]/\S'=S/\∃ (ds:List Value) (c:Int),q=.tuple #[.agg ds.toArray,ax c]/\ds.length=4/\(∀ u∈ds,u.oneCell'=true)/\match j with
 | .done c'=>c=c'/\c≠0
 | .uni _ b=>c=0/\RdT S ds b
 | .not _ _=>False
theorem LJ {k n:Int} {s:ByteArray} {x y z:T} {S:ae} {cs:hZ} (h:RdT S cs (.mk k n s [x,y,z])):kt W8 [.agg cs.toArray] [] S (aan S (uS x y z)):=by
 intro w a;obtain ⟨kv,rfl,_,_,_,B⟩:=RdT.iff.1 h;simp only [T.name,T.kids,T.kind,T.n] at B ⊢;apply HR.2;dsimp only[HR,aR];refine bq a fun b1 w' a=>?_;refine aG a aV fun O w' a=>?_;refine ad a 0 rfl ao aj rfl (cL (i:=0) a B ag ac (by simp) (fun _ _=>RdT.length) fun xs g=>?_);have g:RdT S xs x:=g;refine aG a aV fun U w' a=>?_;refine aq a 2 rfl ac (by simpa using g.length) rfl (by simpa using g.one) fun w' a=>?_;refine ad a 0 rfl ao aj rfl (cL (i:=1) a B ag ac (by simp) (fun _ _=>RdT.length) fun ys j=>?_);have j:RdT S ys y:=j;refine aG a aV fun V w' a=>?_;refine aq a 3 rfl ac (by simpa using j.length) rfl (by simpa using j.one) fun w' a=>?_;obtain ⟨Y,rfl,_,_,_,a0⟩:=RdT.iff.1 g;obtain ⟨Z,rfl,_,_,_,r⟩:=RdT.iff.1 j;obtain ⟨L,hL⟩:∃ L:List Item,L=[ay b1 #[ax k,ax n,.string s,kv] ab,ay O bb ab,ay U (gn x Y) ab,ay V (gn y Z) ab]:=⟨_,rfl⟩
 have a:Inv w [] L S w':=by rw [hL];exact a
 have N:L[1]?=some (ay O bb ab):=by rw [hL];rfl
 have G:L[2]?=some (ay U (gn x Y) ab):=by rw [hL];rfl
 have J:L[3]?=some (ay V (gn y Z) ab):=by rw [hL];rfl
 have D:∀ u∈([ax 0,ax 0,.string ⟨#[]⟩,hV]:hZ),u.oneCell'=true:=by simp [Value.oneCell']
 have el:decide ((y.kids.length:Int)=0)=decide (y.kids.length=0):=by rw [dJ];omega
 refine ⟨fun q w'=>q=.bool (decide (x.kind=1 ∨ y.kind=1))/\Inv w [] L S w',?_,?_⟩
 ·refine ad a 2 G aM aw rfl (bn ?_);cases t:decide (x.kind=1)
  ·refine rpG ?_;refine ad a 3 J aM aw rfl (bn ?_);refine rpG ?_;refine ⟨?_,a⟩;rw [Value.bool.injEq,dJ];have:=of_decide_eq_false t;exact ⟨.inr,fun h=>h.resolve_left this⟩
  ·refine rpG ?_;exact ⟨by rw [aL (.inl (of_decide_eq_true t))],a⟩
 intro q _ _ _ _ _ _ _ w';rintro ⟨rfl,a⟩;refine aJ (fun t=>?_) (fun t=>?_)
 ·refine iF (aq a 1 N ac rfl rfl D fun w' a=>?_);rw [hL] at a;apply bm a 1 ac rfl rfl;refine ⟨_,_,_,rfl,a.nil,Ext.refl _ _ _,rfl,rfl,_,2,rfl,rfl,D,?_⟩;rw [uS,ai t];exact ⟨rfl,by decide⟩
 refine ⟨fun q w'=>q=.bool (decide (x.kind≠2 ∨ y.kind≠3 ∨ y.kids.length=0))/\Inv w [] L S w',?_,?_⟩
 ·refine ad a 2 G aM aw rfl (dw ?_);cases o:decide (x.kind=2)
  ·refine rpG ?_;exact ⟨by rw [aL (.inl (of_decide_eq_false o))],a⟩
  have o:=of_decide_eq_true o;refine rpG ?_;refine ad a 3 J aM aw rfl (dw ?_);cases l:decide (y.kind=3)
  ·refine rpG ?_;exact ⟨by rw [aL (.inr (.inl (of_decide_eq_false l)))],a⟩
  have l:=of_decide_eq_true l;refine rpG ?_;refine ad a 3 J ao aj rfl (aI r ag (bn ?_));rw [el];refine rpG ?_;refine ⟨?_,a⟩;rw [Value.bool.injEq,dJ];simp [o,l]
 intro q _ _ _ _ _ _ _ _ _ _ _ _ _ w';rintro ⟨rfl,a⟩;refine aJ (fun o=>?_) (fun o=>?_)
 ·refine iF (aq a 1 N ac rfl rfl D fun w' a=>?_);rw [hL] at a;apply bm a 1 ac rfl rfl;refine ⟨_,_,_,rfl,a.nil,Ext.refl _ _ _,rfl,rfl,_,3,rfl,rfl,D,?_⟩;rw [uS,af t,ai o];exact ⟨rfl,by decide⟩
 refine ⟨fun q w'=>q=.bool (decide (x.n<1 ∨ (y.kids.length:Int)<x.n))/\Inv w [] L S w',?_,?_⟩
 ·refine ad a 2 G aQ aw rfl (bM ?_);cases l:decide (x.n<1)
  ·refine rpG ?_;refine ad a 2 G aQ aw rfl (ad a 3 J ao aj rfl (aI r ag (ew ?_)));refine rpG ?_;refine ⟨?_,a⟩;have:=of_decide_eq_false l;rw [Value.bool.injEq,dJ];exact ⟨.inr,fun h=>h.resolve_left this⟩
  ·refine rpG ?_;exact ⟨by rw [aL (.inl (of_decide_eq_true l))],a⟩
 intro q _ _ _ _ _ _ _ _ _ _ w';rintro ⟨rfl,a⟩;refine aJ (fun l=>?_) (fun l=>?_)
 ·refine iF (aq a 1 N ac rfl rfl D fun w' a=>?_);rw [hL] at a;apply bm a 1 ac rfl rfl;refine ⟨_,_,_,rfl,a.nil,Ext.refl _ _ _,rfl,rfl,_,1,rfl,rfl,D,?_⟩;rw [uS,af t,af o,ai l];exact ⟨rfl,by decide⟩
 obtain ⟨m,hm⟩:∃ m:Nat,x.n=(m:Int)+1:=⟨(x.n - 1).toNat,by omega⟩
 have M:m<y.kids.length:=by omega
 refine ad a 3 J ao aj rfl (ad (u:=ax x.n) a 2 G aQ aw rfl ?_);rw [hm];refine je (by have:=r.le;simp only [maxLen] at this;omega) ?_;rw [Int.add_sub_cancel];refine cL (i:=m) a r ag ac M (fun _ _=>RdT.length) fun es f=>?_;refine aq a 1 N ac (by simpa using f.length) rfl (by simpa using f.one) fun w' a=>?_;rw [hL] at a;refine bm a 1 ac rfl (by simpa using f.length) ?_;refine ⟨_,_,_,rfl,a.nil,Ext.refl _ _ _,rfl,rfl,es,0,rfl,f.length,f.one,?_⟩;rw [uS,af t,af o,af l];refine ⟨rfl,?_⟩;have e:kd y (x.n.toNat - 1)=y.kids[m]:=by
  have e1:x.n.toNat - 1=m:=by omega
  rw [e1,kd,MI,gd M];rfl
 rw [e];exact f
end
end
end Go.Proofs.YtellfcpffcipcaaGreatDoor

/- Copies whose topmost row is still the caller's own, all else published. (printed by gen_top.py out of Copy and CopyC) -/
import Derived.Test.YtellfcpffcipcaaGreatDoorZCkA
import Derived.Test.YtellfcpffcipcaaGreatDoorZCk8
namespace Go.Proofs.YtellfcpffcipcaaGreatDoor
attribute [local irreducible] Run CondV aF aT
section
open Go Go.RowKit
theorem Grown.rows {α:Type} {k:Nat} {R:bz->hZ->α->Prop} {R':hZ->α->Prop} {Ls:List bz} {css:List (hZ)} {ys:List α} {S:ae} (h:Grown k R Ls css ys) (f:Ins S Ls.flatten)
  (hR:∀ L cs x,Ins S L->R L cs x->R' cs x):Rows k R' css ys:=
 ⟨h.hc,h.hk,fun i a g=>hR _ _ _ (Ho f (by rw [h.hL];exact a)) (h.hR i a (by rw [h.hL];exact a) g)⟩
abbrev ZW (t:T):Value->List Item->ae->Prop:=fun v I' S'=>∃ kv css,v=.agg #[ax t.kind,ax t.n,.string t.name,kv]/\I'=[aK kv ab 4 css]/\Rows 4 (RdT S') css t.kids
abbrev YC (c:C):Value->List Item->ae->Prop:=fun v I' S'=>∃ hd kv css,v=.agg (hd++[kv]).toArray/\RdT S' hd c.head/\I'=[aK kv ab 4 css]/\Rows 4 (RdT S') css c.body
section
theorem XR:∀ (t:T) (S:ae) (cs:hZ),RdT S cs t->wT t<=1048576->kt zl [.agg cs.toArray] [] S (ZW t):=by
 intro t S cs h hw;obtain ⟨k,n,s,G⟩:=t;have ih:∀ t∈G,∀ (S:ae) (cs:hZ),RdT S cs t->wT t<=1048576->kt zl [.agg cs.toArray] [] S (Fd S t):=fun t _=>gL t;intro w f;obtain ⟨kv,rfl,h1,h2,hs,a1⟩:=RdT.iff.1 h;simp only [T.name,T.kids,T.kind,T.n] at h1 h2 hs a1 ⊢;simp only [wT] at hw;refine pT.2 ?_;dsimp only[pT,aR];refine bq f fun b1 w' f=>?_;refine aG f aV fun b2 w' f=>?_;refine ad f 0 rfl aM aw rfl ?_;refine ad f 0 rfl aQ aw rfl ?_;refine ad f 0 rfl aW aP rfl ?_;refine jp ?_;refine aG f aV fun N w' f=>?_;refine aq f 2 rfl ac rfl rfl (by simp [Value.oneCell']) fun w' f=>?_;have f:=f.rowNil ab 4;refine ⟨fun i w'=>∃ (j:Nat) (l:Value) (Ls:List bz) (css:List (hZ)),j<=G.length/\i=ax j/\Grown 4 TrT Ls css (G.take j)/\
   Inv w [] (ay b1 #[ax k,ax n,.string s,kv] ab::.blk b2 (.cells bb ab)::.blk N (.cells #[ax k,ax n,.string s,l] ab)::aK l ab 4 css::bE Ls.flatten) S w',
  fun i _=>G.length - (intOf i).toNat,⟨0,_,[],[],bf _,rfl,Grown.nil _ _,f⟩,?_⟩
 intro t4;(iterate 18 intro);intro w';rintro ⟨j,l,Ls,css,hj,rfl,hg,f⟩;refine ad f 0 rfl ao aj rfl (aI a1 ag (bM (aJ (fun a8=>?_) (fun a8=>?_))))
 ·have a0:j<G.length:=by omega
  have b4:(G.take j).length=j:=by simp;omega
  have b5:=hg.hc;have hm:=bJ a0;have b6:=lf hm;obtain ⟨b,o,cap,c,E,fz,rfl,hS,hR⟩:=a1.at_ a0;refine ⟨fun D lO Y pp oR iU pj vz tU qX nX pu w_=>Fx D 0 [pu=eu N 3,nX=l,qX=eu b1 3,tU=eF b o (G).length cap,vz=ax j,pj=eu b (o+j * 4),iU=.agg (aO c (o+j * 4) 4).toArray,True,True,True,lO=eu N 3,True]/\∃ M a r,(D 7=true->oR=.agg a.toArray/\TrT M a (G)[j])/\(D 8=true->pp=eF r 0 1 1)/\(D 8=true->D 7=true)/\(D 9=true->D 8=true)/\(D 11=true->D 9=true)/\(D 11=true->D 1=true)/\Inv w [] (bj (ay b1 #[ax k,ax n,.string s,eF b o G.length cap] ab) (ay b2 bb ab) (ay N #[ax k,ax n,.string s,l] ab) (ay N #[ax k,ax n,.string s,Y] ab) (aK l ab 4 css) (aK Y ab 4 (css++[a])) (bE Ls.flatten) M (ay r a.toArray ab) (D 7) (D 8) (D 9) (D 11)) S w_,⟨Fx.nil _ _,⟨[],[],0,aU,aU,aU,aU,aU,aU,by simpa [bj,bE] using f.draw⟩⟩,⟨?_,?_,?_,?_,?_,?_,?_,?_,?_,?_,?_,?_,trivial⟩,?_⟩;all_goals (intro D bw;intros;rename_i lO Y pp oR iU pj vz tU qX nX pu w_ a3;have q:=a3.1;obtain ⟨⟨co,cn,bP,cj,cA,bQ,bO,cM,de,dv,bU,cC,_⟩,⟨M,a,r,J,Z,U,O,g,V,f⟩⟩:=a3)
  apply ah ao;rotate_left
  obtain rfl:=co ‹_›;have B:D 11=false:=bN.2 fun h=>by rw [V h] at bw;cases bw
  refine aD (b:=N) f 2 (c:=(#[ax k,ax n,.string s,l])) aj (by rw [B];rfl) rfl ?_;have V:=fun (_:aC D 1 11=true)=>(rfl:aC D 1 1=true)
  rotate_left;apply ah ao;rotate_left
  obtain rfl:=bP ‹_›;apply aD f 0 aj rfl rfl;rotate_left;rotate_left
  obtain rfl:=cj ‹_›;obtain rfl:=cA ‹_›;apply az ag a0;rotate_left
  obtain rfl:=bQ ‹_›;refine bV ac hR.length (fun j v hj=>by rw [f.cellS hS];exact aA rfl j v hj) ?_;rotate_left
  obtain rfl:=bO ‹_›;have f8:D 8=false:=bN.2 fun h=>by rw [U h] at bw;cases bw
  have f9:D 9=false:=bN.2 fun h=>by rw [O h] at f8;cases f8
  have B:D 11=false:=bN.2 fun h=>by rw [g h] at f9;cases f9
  rw [bw,f8,f9,B] at f;refine Run.call0 fR fQ f (ih _ (bJ a0) S _ hR (by omega)) fun v' I' S w_=>?_;rintro ⟨rfl,a,M,rfl,rfl,hT⟩ _ f;have J:aC D 7 7=true->Value.agg a.toArray=Value.agg a.toArray/\TrT M a (G)[j]:=fun _=>⟨rfl,hT⟩
  have U:=fun (_:aC D 7 8=true)=>(rfl:aC D 7 7=true)
  have f:Inv w [] (bj (ay b1 #[ax k,ax n,.string s,eF b o G.length cap] ab) (ay b2 bb ab) (ay N #[ax k,ax n,.string s,l] ab) (ay N #[ax k,ax n,.string s,Y] ab) (aK l ab 4 css) (aK Y ab 4 (css++[a])) (bE Ls.flatten) M (ay r a.toArray ab) true (D 8) (D 9) (D 11)) S w_:=by
   rw [f8,f9,B];simpa [bj] using f
  rotate_left;have Fi:=cM ‹_›;have f9:D 9=false:=bN.2 fun h=>by rw [O h] at bw;cases bw
  have B:D 11=false:=bN.2 fun h=>by rw [g h] at f9;cases f9
  obtain ⟨q7,hT⟩:=J ‹D 7=true›;subst q7;rw [‹D 7=true›,bw,f9,B] at f;refine dQ f bx (by simp [Value.cells,hT.length]) (by omega) (by omega) fun r w_ f=>?_;have J:aC D 8 7=true->Value.agg a.toArray=Value.agg a.toArray/\TrT M a (G)[j]:=fun _=>⟨rfl,hT⟩
  have Z:=fun (_:aC D 8 8=true)=>(rfl:Value.slice (some ⟨r,0,none⟩) 1 1=_)
  have U:=fun (_:aC D 8 8=true)=>‹D 7=true›;have O:=fun (_:aC D 8 9=true)=>(rfl:aC D 8 8=true)
  have f:Inv w [] (bj (ay b1 #[ax k,ax n,.string s,eF b o G.length cap] ab) (ay b2 bb ab) (ay N #[ax k,ax n,.string s,l] ab) (ay N #[ax k,ax n,.string s,Y] ab) (aK l ab 4 css) (aK Y ab 4 (css++[a])) (bE Ls.flatten) M (ay r a.toArray ab) (D 7) true (D 9) (D 11)) S w_:=by
   rw [‹D 7=true›,f9,B];simpa [bj,Value.cells] using f
  rotate_left;obtain rfl:=cn ‹_›;have Db:=de ‹_›;have B:D 11=false:=bN.2 fun h=>by rw [g h] at bw;cases bw
  have q8:=Z ‹D 8=true›;subst q8;obtain ⟨_,hT⟩:=J ‹D 7=true›;rw [‹D 7=true›,‹D 8=true›,bw,B] at f;have a5:((bj (ay b1 #[ax k,ax n,.string s,eF b o G.length cap] ab) (ay b2 bb ab) (ay N #[ax k,ax n,.string s,nX] ab) (ay N #[ax k,ax n,.string s,Y] ab) (aK nX ab 4 css) (aK Y ab 4 (css++[a])) (bE Ls.flatten) M (ay r a.toArray ab) true true false false))[4+(bE Ls.flatten).length+(bE M).length]?=some (ay r a.toArray ab):=by
   have e4:4+(bE Ls.flatten).length+(bE M).length=((bE Ls.flatten).length+(bE M).length)+1+1+1+1:=by omega
   rw [e4];simp only [bj,nL];rw [jr (by omega),qS,jr (be _),fH];rfl
  refine eT f 3 a bx (by omega) rfl (by rw [hT.length]) (m:=1) (o:=0) ?_ hT.one (by omega) (by omega) fun v' w_ f=>?_
  ·intro i u hi;rw [f.cellL a5,dr];simpa using hi
  rw [fU] at f;have O:=fun (_:aC D 9 9=true)=>‹D 8=true›;have g:=fun (_:aC D 9 11=true)=>(rfl:aC D 9 9=true)
  have f:Inv w [] (bj (ay b1 #[ax k,ax n,.string s,eF b o G.length cap] ab) (ay b2 bb ab) (ay N #[ax k,ax n,.string s,nX] ab) (ay N #[ax k,ax n,.string s,v'] ab) (aK nX ab 4 css) (aK v' ab 4 (css++[a])) (bE Ls.flatten) M (ay r a.toArray ab) (D 7) (D 8) true (D 11)) S w_:=by
   rw [‹D 7=true›,‹D 8=true›,B];exact f
  rotate_left;apply ah ao;rotate_left
  obtain rfl:=bU ‹_›;have K2:=dv ‹_›;rw [‹D 7=true›,‹D 8=true›,‹D 9=true›,bw] at f;obtain ⟨va,vn,vc,a2⟩:=Inv.rowSlice f 3 rfl;refine dD f 2 (n:=1) (by rw [a2];rfl) (by decide +kernel) rfl (by simp) (by rw [a2];simp [Value.cells,Value.oneCell']) fun w_ f=>?_;have a6:Value.cells Y=#[Y]:=by rw [a2];rfl
  rw [a6] at f;have V:=fun (_:aC D 11 11=true)=>‹D 1=true›;have g:=fun (_:aC D 11 11=true)=>‹D 9=true›;have f:Inv w [] (bj (ay b1 #[ax k,ax n,.string s,eF b o G.length cap] ab) (ay b2 bb ab) (ay N #[ax k,ax n,.string s,l] ab) (ay N #[ax k,ax n,.string s,Y] ab) (aK l ab 4 css) (aK Y ab 4 (css++[a])) (bE Ls.flatten) M (ay r a.toArray ab) (D 7) (D 8) (D 9) true) S w_:=by
   rw [‹D 7=true›,‹D 8=true›,‹D 9=true›];exact f
  rotate_left
  all_goals try exact ⟨q.set _ (by first|rfl|assumption|trivial),M,a,r,J,Z,U,O,g,V,f⟩
  obtain ⟨rfl,rfl,rfl,rfl,rfl,rfl,rfl,Fi,Db,K2,rfl,_,_⟩:=q.all;have CQ:D 7=true:=by assumption
  have Dc:D 8=true:=by assumption
  have Og:D 9=true:=by assumption
  have nH:D 11=true:=by assumption
  clear q;obtain ⟨_,hT⟩:=J CQ;rw [CQ,Dc,Og,nH] at f;refine bA (by omega) ?_;refine ⟨⟨j+1,Y,Ls++[M],css++[a],a0,rfl,?_,?_⟩,by simp [intOf];omega⟩
  ·rw [gh a0];exact hg.snoc hT hT.length
  ·simp only [AB,jY,uZ,dc,fy];apply f.sub;simp only [bj];rw [<- eY];exact (((eh _ _).cons_cons _).cons_cons _).cons_cons _ |>.cons_cons _
 ·have:j=G.length:=by omega
  subst this;rw [fM] at hg;obtain ⟨va,vn,vc,a9⟩:=f.rowSlice 3 rfl;have b0:l.oneCell'=true:=by rw [a9];rfl
  refine av f 2 ac rfl rfl (aq f 1 rfl ac rfl rfl ?_ fun w' f=>?_)
  ·intro u hu;have a7:u∈([ax k,ax n,.string s,l]:hZ):=hu;simp at a7;rcases a7 with rfl|rfl|rfl|rfl <;> first|rfl|exact b0
  apply bm f 1 ac rfl rfl;have f:Inv w [] ([aK l ab 4 css]++bE Ls.flatten) S w':=f.sub (eR [_,_,_] _);obtain ⟨S1,f,hE,a4⟩:=f.pubExt;exact ⟨_,_,S1,rfl,f,hE,_,css,rfl,rfl,hg.rows a4 fun _ _ _ hi h=>h.rd hi⟩
theorem XW {a:C} {S:ae} {cs:hZ} (h:RdC S cs a) (hw:wC a<=1048576):kt Ix [.agg cs.toArray] [] S (YC a):=by
 intro w f;obtain ⟨hd,ks,rfl,h1,h2⟩:=h;have b0:=h1;obtain ⟨kv,rfl,g1,g2,g3,g4⟩:=RdT.iff.1 h1;unfold wC at hw;apply qy.2;dsimp only[qy,aR];refine bq f fun b1 w' f=>?_;refine aG f fj fun b2 w' f=>?_;refine ah dl (cP f 0 (hJ a.head kv) ac rfl rfl Nw (Run.call0 fR fQ f (gL _ S _ b0 (by omega)) fun v' I' S w'=>?_));rintro ⟨rfl,b5,N,rfl,rfl,a3⟩ _ f;obtain ⟨B,rfl,_⟩:=TrT.iff.1 a3;refine qe (aG f fj fun J w' f=>?_);have f:=f.perm (M:=.blk b1 _::.blk b2 _::.blk J _::bE N) (((cT (l₁:=[_])).cons _).cons _);refine aq f 2 rfl bR rfl rfl ?_ fun w' f=>?_
 ·intro u hu;have a1:u∈([ax a.head.kind,ax a.head.n,.string a.head.name,B,hV]:hZ):=hu;simp at a1;have o1:B.oneCell'=true:=a3.one B (by simp);rcases a1 with rfl|rfl|rfl|rfl|rfl <;> first|rfl|exact o1
 have f:=f.rowNil ab 4;have f:=f.perm (M:=ay b1 #[ax a.head.kind,ax a.head.n,.string a.head.name,kv,ks] aB::.blk b2 (.cells eb aB)::.blk J (.cells #[ax a.head.kind,ax a.head.n,.string a.head.name,B,hV] aB)::aK (hV) ab 4 []::bE N) ((((cT (l₁:=[_])).cons _).cons _).cons _);refine ⟨fun i w'=>∃ (j:Nat) (l:Value) (Ls:List bz) (css:List (hZ)),j<=a.body.length/\i=ax j/\Grown 4 TrT Ls css (a.body.take j)/\
   Inv w [] (ay b1 #[ax a.head.kind,ax a.head.n,.string a.head.name,kv,ks] aB::.blk b2 (.cells eb aB)::.blk J (.cells #[ax a.head.kind,ax a.head.n,.string a.head.name,B,l] aB)::aK l ab 4 css::bE (N::Ls).flatten) S w',
  fun i _=>a.body.length - (intOf i).toNat,⟨0,_,[],[],bf _,rfl,Grown.nil _ _,by simp only [jY,uZ,dc];exact f⟩,?_⟩
 intro t4;(iterate 18 intro);intro w';rintro ⟨j,l,Ls,css,hj,rfl,hg,f⟩;refine ad f 0 rfl bF aj rfl (aI h2 ag (bM (aJ (fun a8=>?_) (fun a8=>?_))))
 ·have a2:j<a.body.length:=by omega
  have b6:(a.body.take j).length=j:=by simp;omega
  have b7:=hg.hc;have hm:=bJ a2;have b9:=lf hm;obtain ⟨b,o,cap,c,E,fz,rfl,hS,hR⟩:=h2.at_ a2;refine ⟨fun D oR Z pj vz tU qX nX pu ww pF wi w_=>Fx D 0 [wi=eu J 4,pF=l,ww=eu b1 4,pu=eF b o (a.body).length cap,nX=ax j,qX=eu b (o+j * 4),tU=.agg (aO c (o+j * 4) 4).toArray,True,True,True,oR=eu J 4,True]/\∃ M g t,(D 7=true->vz=.agg g.toArray/\TrT M g (a.body)[j])/\(D 8=true->pj=eF t 0 1 1)/\(D 8=true->D 7=true)/\(D 9=true->D 8=true)/\(D 11=true->D 9=true)/\(D 11=true->D 1=true)/\Inv w [] (bj (ay b1 #[ax a.head.kind,ax a.head.n,.string a.head.name,kv,eF b o a.body.length cap] aB) (ay b2 eb aB) (ay J #[ax a.head.kind,ax a.head.n,.string a.head.name,B,l] aB) (ay J #[ax a.head.kind,ax a.head.n,.string a.head.name,B,Z] aB) (aK l ab 4 css) (aK Z ab 4 (css++[g])) (bE (N::Ls).flatten) M (ay t g.toArray ab) (D 7) (D 8) (D 9) (D 11)) S w_,⟨Fx.nil _ _,⟨[],[],0,aU,aU,aU,aU,aU,aU,by simpa [bj,bE] using f.draw⟩⟩,⟨?_,?_,?_,?_,?_,?_,?_,?_,?_,?_,?_,?_,trivial⟩,?_⟩;all_goals (intro D bw;intros;rename_i oR Z pj vz tU qX nX pu ww pF wi w_ a5;have r:=a5.1;obtain ⟨⟨co,cn,bP,cj,cA,bQ,bO,cM,de,dv,bU,cC,_⟩,⟨M,g,t,O,e8,V,U,q,Y,f⟩⟩:=a5)
  apply ah bF;rotate_left
  obtain rfl:=co ‹_›;have G:D 11=false:=bN.2 fun h=>by rw [Y h] at bw;cases bw
  refine aD (b:=J) f 2 (c:=(#[ax a.head.kind,ax a.head.n,.string a.head.name,B,l])) aj (by rw [G];rfl) rfl ?_;have Y:=fun (_:aC D 1 11=true)=>(rfl:aC D 1 1=true)
  rotate_left;apply ah bF;rotate_left
  obtain rfl:=bP ‹_›;apply aD f 0 aj rfl rfl;rotate_left;rotate_left
  obtain rfl:=cj ‹_›;obtain rfl:=cA ‹_›;apply az ag a2;rotate_left
  obtain rfl:=bQ ‹_›;refine bV ac hR.length (fun j v hj=>by rw [f.cellS hS];exact aA rfl j v hj) ?_;rotate_left
  obtain rfl:=bO ‹_›;have f8:D 8=false:=bN.2 fun h=>by rw [V h] at bw;cases bw
  have f9:D 9=false:=bN.2 fun h=>by rw [U h] at f8;cases f8
  have G:D 11=false:=bN.2 fun h=>by rw [q h] at f9;cases f9
  rw [bw,f8,f9,G] at f;refine Run.call0 fR fQ f (gL _ S _ hR (by omega)) fun v' I' S w_=>?_;rintro ⟨rfl,g,M,rfl,rfl,hT⟩ _ f;have O:aC D 7 7=true->Value.agg g.toArray=Value.agg g.toArray/\TrT M g (a.body)[j]:=fun _=>⟨rfl,hT⟩
  have V:=fun (_:aC D 7 8=true)=>(rfl:aC D 7 7=true)
  have f:Inv w [] (bj (ay b1 #[ax a.head.kind,ax a.head.n,.string a.head.name,kv,eF b o a.body.length cap] aB) (ay b2 eb aB) (ay J #[ax a.head.kind,ax a.head.n,.string a.head.name,B,l] aB) (ay J #[ax a.head.kind,ax a.head.n,.string a.head.name,B,Z] aB) (aK l ab 4 css) (aK Z ab 4 (css++[g])) (bE (N::Ls).flatten) M (ay t g.toArray ab) true (D 8) (D 9) (D 11)) S w_:=by
   rw [f8,f9,G];simpa [bj] using f
  rotate_left;have Fi:=cM ‹_›;have f9:D 9=false:=bN.2 fun h=>by rw [U h] at bw;cases bw
  have G:D 11=false:=bN.2 fun h=>by rw [q h] at f9;cases f9
  obtain ⟨q7,hT⟩:=O ‹D 7=true›;subst q7;rw [‹D 7=true›,bw,f9,G] at f;refine dQ f bx (by simp [Value.cells,hT.length]) (by omega) (by omega) fun t w_ f=>?_;have O:aC D 8 7=true->Value.agg g.toArray=Value.agg g.toArray/\TrT M g (a.body)[j]:=fun _=>⟨rfl,hT⟩
  have e8:=fun (_:aC D 8 8=true)=>(rfl:Value.slice (some ⟨t,0,none⟩) 1 1=_)
  have V:=fun (_:aC D 8 8=true)=>‹D 7=true›;have U:=fun (_:aC D 8 9=true)=>(rfl:aC D 8 8=true)
  have f:Inv w [] (bj (ay b1 #[ax a.head.kind,ax a.head.n,.string a.head.name,kv,eF b o a.body.length cap] aB) (ay b2 eb aB) (ay J #[ax a.head.kind,ax a.head.n,.string a.head.name,B,l] aB) (ay J #[ax a.head.kind,ax a.head.n,.string a.head.name,B,Z] aB) (aK l ab 4 css) (aK Z ab 4 (css++[g])) (bE (N::Ls).flatten) M (ay t g.toArray ab) (D 7) true (D 9) (D 11)) S w_:=by
   rw [‹D 7=true›,f9,G];simpa [bj,Value.cells] using f
  rotate_left;obtain rfl:=cn ‹_›;have Db:=de ‹_›;have G:D 11=false:=bN.2 fun h=>by rw [q h] at bw;cases bw
  have q8:=e8 ‹D 8=true›;subst q8;obtain ⟨_,hT⟩:=O ‹D 7=true›;rw [‹D 7=true›,‹D 8=true›,bw,G] at f;have a6:((bj (ay b1 #[ax a.head.kind,ax a.head.n,.string a.head.name,kv,eF b o a.body.length cap] aB) (ay b2 eb aB) (ay J #[ax a.head.kind,ax a.head.n,.string a.head.name,B,pF] aB) (ay J #[ax a.head.kind,ax a.head.n,.string a.head.name,B,Z] aB) (aK pF ab 4 css) (aK Z ab 4 (css++[g])) (bE (N::Ls).flatten) M (ay t g.toArray ab) true true false false))[4+(bE (N::Ls).flatten).length+(bE M).length]?=some (ay t g.toArray ab):=by
   have e4:4+(bE (N::Ls).flatten).length+(bE M).length=((bE (N::Ls).flatten).length+(bE M).length)+1+1+1+1:=by omega
   rw [e4];simp only [bj,nL];rw [jr (by omega),qS,jr (be _),fH];rfl
  refine eT f 3 g bx (by omega) rfl (by rw [hT.length]) (m:=1) (o:=0) ?_ hT.one (by omega) (by omega) fun v' w_ f=>?_
  ·intro i u hi;rw [f.cellL a6,dr];simpa using hi
  rw [fU] at f;have U:=fun (_:aC D 9 9=true)=>‹D 8=true›;have q:=fun (_:aC D 9 11=true)=>(rfl:aC D 9 9=true)
  have f:Inv w [] (bj (ay b1 #[ax a.head.kind,ax a.head.n,.string a.head.name,kv,eF b o a.body.length cap] aB) (ay b2 eb aB) (ay J #[ax a.head.kind,ax a.head.n,.string a.head.name,B,pF] aB) (ay J #[ax a.head.kind,ax a.head.n,.string a.head.name,B,v'] aB) (aK pF ab 4 css) (aK v' ab 4 (css++[g])) (bE (N::Ls).flatten) M (ay t g.toArray ab) (D 7) (D 8) true (D 11)) S w_:=by
   rw [‹D 7=true›,‹D 8=true›,G];exact f
  rotate_left;apply ah bF;rotate_left
  obtain rfl:=bU ‹_›;have K2:=dv ‹_›;rw [‹D 7=true›,‹D 8=true›,‹D 9=true›,bw] at f;obtain ⟨va,vn,vc,a4⟩:=Inv.rowSlice f 3 rfl;refine dD f 2 (n:=1) (by rw [a4];rfl) (by decide +kernel) rfl (by simp) (by rw [a4];simp [Value.cells,Value.oneCell']) fun w_ f=>?_;have a7:Value.cells Z=#[Z]:=by rw [a4];rfl
  rw [a7] at f;have Y:=fun (_:aC D 11 11=true)=>‹D 1=true›;have q:=fun (_:aC D 11 11=true)=>‹D 9=true›;have f:Inv w [] (bj (ay b1 #[ax a.head.kind,ax a.head.n,.string a.head.name,kv,eF b o a.body.length cap] aB) (ay b2 eb aB) (ay J #[ax a.head.kind,ax a.head.n,.string a.head.name,B,l] aB) (ay J #[ax a.head.kind,ax a.head.n,.string a.head.name,B,Z] aB) (aK l ab 4 css) (aK Z ab 4 (css++[g])) (bE (N::Ls).flatten) M (ay t g.toArray ab) (D 7) (D 8) (D 9) true) S w_:=by
   rw [‹D 7=true›,‹D 8=true›,‹D 9=true›];exact f
  rotate_left
  all_goals try exact ⟨r.set _ (by first|rfl|assumption|trivial),M,g,t,O,e8,V,U,q,Y,f⟩
  obtain ⟨rfl,rfl,rfl,rfl,rfl,rfl,rfl,Fi,Db,K2,rfl,_,_⟩:=r.all;have CQ:D 7=true:=by assumption
  have Dc:D 8=true:=by assumption
  have Og:D 9=true:=by assumption
  have nH:D 11=true:=by assumption
  clear r;obtain ⟨_,hT⟩:=O CQ;rw [CQ,Dc,Og,nH] at f;refine bA (by omega) ?_;refine ⟨⟨j+1,Z,Ls++[M],css++[g],a2,rfl,?_,?_⟩,by simp [intOf];omega⟩
  ·rw [gh a2];exact hg.snoc hT hT.length
  ·rw [<- i8,AB,fy];simp only [jY,uZ,dc];apply f.sub;simp only [bj,jY];rw [<- eY];exact (((eh _ _).cons_cons _).cons_cons _).cons_cons _ |>.cons_cons _
 ·have:j=a.body.length:=by omega
  subst this;rw [fM] at hg;obtain ⟨va,vn,vc,a9⟩:=f.rowSlice 3 rfl;have b4:l.oneCell'=true:=by rw [a9];rfl
  have o1:B.oneCell'=true:=a3.one B (by simp);refine av f 2 bR rfl rfl (aq f 1 rfl bR rfl rfl ?_ fun w' f=>?_)
  ·intro u hu;have a1:u∈([ax a.head.kind,ax a.head.n,.string a.head.name,B,l]:hZ):=hu;simp at a1;rcases a1 with rfl|rfl|rfl|rfl|rfl <;> first|rfl|exact o1|exact b4
  apply bm f 1 bR rfl rfl;have f:Inv w [] (aK l ab 4 css::bE (N::Ls).flatten) S w':=f.sub (eR [_,_,_] _);have f:Inv w [] ([aK l ab 4 css]++bE (N::Ls).flatten) S w':=f;obtain ⟨S1,f,hE,a0⟩:=f.pubExt;rw [jY] at a0;exact ⟨_,_,S1,rfl,f,hE,_,l,css,rfl,a3.rd a0.left,rfl,hg.rows a0.right fun _ _ _ hi h=>h.rd hi⟩
end
end
section
open Go Go.RowKit
section
variable {w0 w:World} {X:List Nat} {L:List Item} {S:ae} {P:Program} {K:Value->World->Prop}
theorem SW (h:Inv w0 X L S w) {T ty e:TypeId} {by_:Nat} {z v x:Value} {cs:List Bool} {css:List (hZ)} (i:Nat)
  (r:iP P T=some (e,1,by_,z)) (t:L[i]?=some (aK v e 1 css)) (B:x.cells=#[x]) (D:x.oneCell'=true) (a:css.length+1<=4294967296) (l:by_<=32768)
  {K:Value->Value->World->Prop} (hk:∀ q w',Inv w0 X (L.set i (aK q e 1 (css++[[x]]))) S w'->K (.slice (some ⟨w.heap.size,0,none⟩) 1 1) q w') :
  Run P (bY T 1 [(0,x)]) w fun u w'=>Run P (ce .append #[T,T] ty cs [v,u]) w' (K u):=by
 refine xi h r (by rw [B];rfl) (by omega) (by omega) fun w' f=>?_;have g:i<L.length:=(fS.1 t).1;refine eT f i [x] r (by omega) (by rw [vA g];exact t) (by simp) (m:=1) (o:=0) ?_ (by simpa using D) a l fun q w' f=>?_
 ·intro j u G;rw [f.cellL (i:=L.length) (by rw [jr (be _),fH];rfl)];rw [dr,B];simpa using G
 ·refine hk _ _ ?_;rw [<- fU];rw [VD _ _ g] at f;exact f.sub (eh _ _)
end
end
section
open Go Go.RowKit
theorem DM:∀ (f:Nat) (l:List T) (b:Bool) (out x:Bs),ED f l b out=some x->out.length<=x.length
 | _,[],_,out,x,h=>by simp only [ED,aY] at h;subst h;exact be _
 | f,t::l,b,out,x,h=>by
  rw [ED] at h;split at h
  ·cases h
  ·have:=DM f _ _ _ _ h;simp only [bK] at this;omega
section
variable {S:ae}
theorem O5 {f:Nat} (hf:f<=100) {c:C} {cs:hZ} {x:Bs} (h:RdC S cs c) (o:VY f c=some x) (hl:x.length<=1000000):ll Us [.agg cs.toArray] S (.string (st x)):=by
 intro w g;obtain ⟨hd,G,rfl,O,J⟩:=h;have M:=O;obtain ⟨kv,rfl,_⟩:=RdT.iff.1 O;unfold VY at o;split at o
 ·cases o
 rename_i y U
 split at o
 ·cases o
 rename_i z N
 simp only [aY] at o;have a0:z.length+1=x.length:=by rw [<- o,bK];rfl
 have a1:=DM _ _ _ _ _ N;have hb:c.body.length<=9223372036854775807:=by have:=J.le;simpa [maxLen] using this
 refine FI.2 ?_;dsimp only[FI,aR];refine bq g fun t w' g=>?_;have g:Inv w [] [ay t #[ax c.head.kind,ax c.head.n,.string c.head.name,kv,G] aB] S w':=g;refine ah dl ?_;refine cP g 0 (hJ c.head kv) ac rfl rfl Nw ?_;refine Run.callPure jg js g (MA hf _ y S _ U (by omega) M) fun w' g=>?_;refine ⟨fun a b w'=>∃ (j:Nat) (out:Bs),j<=c.body.length/\a=ax (j:Int)/\b=.string (st out)/\ED f (c.body.drop j) (decide (j=0)) out=some z/\Inv w [] [ay t #[ax c.head.kind,ax c.head.n,.string c.head.name,kv,G] aB] S w',
  fun a _ _=>c.body.length - (intOf a).toNat,⟨0,y,bf _,rfl,rfl,N,g⟩,?_⟩
 intro t4 _ _ _ _ _ _ _ _ _ _ _ _ V _ _ _ _ _ _ _ _ _ w';rintro ⟨j,out,hj,rfl,rfl,i,g⟩;refine ad g 0 rfl bF aj rfl (aI J ag (bM (aJ (fun B=>?_) (fun B=>?_))))
 ·have r:j<c.body.length:=by omega
  rw [dB r,ED] at i;split at i
  ·cases i
  rename_i u Y
  have q:=DM _ _ _ _ _ i;simp only [bK] at q;obtain ⟨m,l⟩:∃ m:Bs,m=if decide (j=0)=true then [58,45] else [44]:=⟨_,rfl⟩
  rw [<- l] at i q;refine ⟨fun b w'=>b=.string (st (out++m))/\Inv w [] [ay t #[ax c.head.kind,ax c.head.n,.string c.head.name,kv,G] aB] S w',?_,?_⟩
  ·refine bn (aJ (fun Z=>?_) (fun Z=>?_))
   ·rw [ai (aL (by omega))] at l;subst l;refine fe (b:=[58,45]) (by omega) ?_;exact ⟨rfl,g⟩
   ·rw [af (by rw [bt];omega)] at l;subst l;refine fe (b:=[44]) (by omega) ?_;exact ⟨rfl,g⟩
  intro _ _ V _ _ _ _ w';rintro ⟨rfl,g⟩;refine ad g 0 rfl bF aj rfl (cL g J ag ac r (fun _ _=>RdT.length) fun es D=>?_);refine Run.callPure jg js g (MA hf _ u S _ Y (by omega) D) fun w' g=>?_;refine fe (by rw [bK];omega) (bA (by omega) ?_);refine ⟨⟨j+1,out++m++u,r,rfl,rfl,?_,g⟩,by simp only [intOf,dq];omega⟩;rw [aS (by omega)];exact i
 ·have:j=c.body.length:=by omega
  subst this;rw [dY,ED] at i;simp only [aY] at i;subst i;refine fe (b:=[46]) (by simp only [bI,cB];omega) ?_;exact done g (by rw [<- o])
theorem zo {f:Nat} (hf:f<=100) {c:C} {cs:hZ} {x:Bs} (h:RdC S cs c) (hc:cz c=true) (i:wC c<=1048576) (j:VY f c=some x) (hl:x.length<=1000000):ll Ey [.agg cs.toArray] S (.string (st x)):=by
 intro w a;have g:=h;obtain ⟨hd,q,rfl,m,r⟩:=h;obtain ⟨kv,rfl,_⟩:=RdT.iff.1 m;apply pW.2;dsimp only[pW,aR];refine bq a fun o w' a=>?_;refine av a 0 bR rfl rfl (Run.callPure rG rj a (o8 g i) fun w' a=>?_);apply cq;rw [hc];refine aE (fun l=>by cases l) (fun _=>?_);refine av a 0 bR rfl rfl (Run.callPure SL PT a (O5 hf g j hl) fun w' a=>?_);exact done a rfl
theorem zh {f k:Nat} {s:Bs} {i:Nat} {ts:List T} {n:Nat} (h:sR f k s i []=some (ts,n)) (hs:s.length<=100000) (hi:i<=s.length):kt Qm [.string (st s),ax (i:Int)] [] S (abK ts n):=by
 intro w j;refine Aj.2 ?_;dsimp only[Aj,bl];refine fg j bx fun v0 w' j=>?_;refine ⟨fun a b w'=>∃ (k' U:Nat) (l:List T) (S1:ae) (css:List (hZ)),a=ax (U:Int)/\U<=s.length/\sR f k' s U l=some (ts,n)/\Ext w.heap.size [] S S1/\Rows 4 (RdT S1) css l/\(∃ p m,b=.slice p l.length m)/\Inv w [] [aK b ab 4 css] S1 w',
  fun a _ _=>s.length+1 - (intOf a).toNat,⟨k,i,[],S,[],rfl,hi,h,Ext.refl _ _ _,Rows.nil _ _,?_,j⟩,?_⟩
 ·have B:Inv w [] ([]++[aK v0 ab 4 []]) S w':=j;obtain ⟨S1,_,r,_⟩:=Inv.lendExt B;obtain ⟨p,m,e,_⟩:=RowRd.rows (Rows.nil 4 (RdT S)) r;exact ⟨p,m,e⟩
 intro t1 _ _ _ _ _ _ _ _ t6;(iterate 19 intro);intro w';rintro ⟨k',U,l,S1,css,rfl,Y,D,hE,hR,⟨p,m,rfl⟩,j⟩;have a4:=hR.hc;cases k' with
 | zero=>simp [sR] at D
 | succ g=>
 rw [sR] at D;split at D
 ·cases D
 rename_i h6
 split at D
 ·cases D
 rename_i t n' hr
 have a5:=(kj f).1 _ _ _ _ _ _ hr;refine fJ ag (Ow (by omega) (aE (fun _=>?_) (fun M=>by cases M)));refine Run.call0E iC iz j (DC f s U 30 3 t n' S1 hr hs Y (by omega) (by omega)) fun v I' S2 w'=>?_;rintro ⟨rfl,cs,rfl,o⟩ J j;have a1:=hR.monoR fun _ _ h=>RdT.mono J.1 h;obtain ⟨kv,rfl,_,_,_,a,q,rfl,_⟩:=RdT.iff.1 o;refine al (v:=.agg _) rfl (al (v:=ax (n':Int)) rfl (aG j aV fun a2 w' j=>?_));refine aq j 1 rfl ac rfl rfl (by simp [Value.oneCell']) fun w' j=>?_;refine gN (by omega) (aE (fun M=>by cases M) (fun _=>?_));refine av j 1 ac rfl rfl (ei (css:=css) j 0 _ bx (by omega) (by omega) rfl o.length o.one (by omega) (by omega) fun Z w' j=>?_);have j:Inv w [] [aK Z ab 4 (css++[(hJ t (.slice a t.kids.length q))])] S2 w':=j.pick [true,false];have N:=a1.snoc o o.length;have B:Inv w [] ([]++[aK Z ab 4 (css++[(hJ t (.slice a t.kids.length q))])]) S2 w':=j;obtain ⟨S3,a0,r,a3⟩:=Inv.lendExt B;have O:=RowRd.rows (N.monoR fun _ _ h=>RdT.mono a0.1 h) r;refine Run.callPure dT dV j (dG s n' 44 S2) fun w' j=>?_;apply cq;split at D
 ·rename_i G
  rw [G];refine aE (fun M=>by cases M) (fun _=>?_);have:=lI G;refine gU (a:=n') (b:=1) rfl rfl (by omega) ?_;obtain ⟨p',m',e',_⟩:=O;refine ⟨⟨g,n'+1,l++[t],S2,_,rfl,by omega,D,hE.trans J,N,⟨p',m',e'⟩,j⟩,?_⟩;simp only [intOf,dq];omega
 ·rename_i G
  rw [bN.2 G];refine aE (fun _=>?_) (fun M=>by cases M);simp only [aY,cV] at D;obtain ⟨rfl,rfl⟩:=D;have B:Inv w [] ([]++[aK Z ab 4 (css++[(hJ t (.slice a t.kids.length q))])]) S2 w':=j;obtain ⟨S4,V,r,j⟩:=Inv.lendExt B;have O:=RowRd.rows (N.monoR fun _ _ h=>RdT.mono V.1 h) r;exact ⟨_,[],S4,rfl,j,(hE.trans J).trans V,rfl,_,rfl,O⟩
abbrev adb (c:C) (b:Bool):Value->List Item->ae->Prop:=fun v I' S'=>I'=[]/\∃ cs,v=.tuple #[.agg cs.toArray,.bool b]/\RdC S' cs c
theorem Bf {f:Nat} (hf:f<=100) {s:Bs} {c:C} (h:CB f s=some c):kt GV [.string (st s)] [] S (adb c true):=by
 intro w g;apply r6.2;dsimp only[r6,aR];unfold CB at h;split at h
 ·cases h
 rename_i hs
 split at h
 ·cases h
 rename_i hd n hr
 have b3:=(kj f).1 _ _ _ _ _ _ hr;have i:∃ b j,c=⟨hd,b⟩/\Xt f s c j=some c/\((sgn s n 58=true/\sgn s (n+1) 45=true/\sR f 8 s (n+2) []=some (b,j)) ∨ (¬ (sgn s n 58=true/\sgn s (n+1) 45=true)/\b=[]/\j=n)):=by
  have O:∀ (Z:C) (m:Nat),Xt f s Z m=some c->Z=c:=fun Z m h=>by
   unfold Xt at h;split at h
   ·exact JI h
   ·cases h
  split at h
  ·rename_i l
   split at h
   ·cases h
   rename_i b j hg
   have e:=O _ _ h;subst e;exact ⟨b,j,rfl,h,.inl ⟨l.1,l.2,hg⟩⟩
  ·rename_i l
   have e:=O _ _ h;subst e;exact ⟨[],n,rfl,h,.inr ⟨l,rfl,rfl⟩⟩
 clear h;obtain ⟨b,j,rfl,i,B⟩:=i;unfold Xt at i;split at i
 case isFalse=>cases i
 rename_i hq
 obtain ⟨b0,a2,a3,b1,a4⟩:=hq;clear i;refine aG g fj fun b2 w' g=>?_;refine iL bg (nD (by omega) (aE (fun o=>by cases o) (fun _=>?_)));refine Run.call0E iC iz g (DC f s 0 30 3 hd n S hr (by omega) (by omega) (by omega) (by omega)) fun v I' S1 w'=>?_;rintro ⟨rfl,cs,rfl,t⟩ G g;obtain ⟨kv,rfl,_,_,_,a,q,rfl,_⟩:=RdT.iff.1 t;refine al (v:=.agg _) rfl (al (v:=ax (n:Int)) rfl (aG g aV fun b4 w' g=>?_));refine aq g 1 rfl ac rfl rfl (by simp [Value.oneCell']) fun w' g=>?_;refine gN (by omega) (aE (fun o=>by cases o) (fun _=>?_));refine av g 1 ac rfl rfl (qe (aG g fj fun Y w' g=>?_));refine aq g 2 rfl bR rfl rfl (by simp [Value.oneCell']) fun w' g=>?_;obtain ⟨B2,J⟩:∃ B2,B2=Item.blk b2 (.cells eb aB):=⟨_,rfl⟩
 obtain ⟨B4,a5⟩:∃ B4,B4=Item.blk b4 (.cells (gn hd (.slice a hd.kids.length q)) ab):=⟨_,rfl⟩
 have g:Inv w [] [B2,B4,ay Y #[ax hd.kind,ax hd.n,.string hd.name,.slice a hd.kids.length q,hV] aB] S1 w':=by rw [J,a5];exact g
 refine ⟨fun v w'=>∃ (D:Value) (S2:ae),v=ax (j:Int)/\Ext w.heap.size [] S S2/\RdT S2 (hJ hd (.slice a hd.kids.length q)) hd/\RdSl S2 4 (RdT S2) D b/\
   Inv w [] [B2,B4,ay Y #[ax hd.kind,ax hd.n,.string hd.name,.slice a hd.kids.length q,D] aB] S2 w',?_,?_⟩
 ·refine ⟨fun v w'=>v=.bool (sgn s n 58 && sgn s (n+1) 45)/\Inv w [] [B2,B4,ay Y #[ax hd.kind,ax hd.n,.string hd.name,.slice a hd.kids.length q,hV] aB] S1 w',?_,?_⟩
  ·refine Run.callPure dT dV g (dG s n 58 S1) fun w' g=>?_;cases l:sgn s n 58
   ·refine rpG ?_;exact ⟨by rw [jZ],g⟩
   ·refine rpG ?_;refine gU (a:=n) (b:=1) rfl rfl (by omega) (Run.callPure dT dV g (dG s (n+1) 45 S1) fun w' g=>?_);refine rpG ?_;exact ⟨by rw [dz],g⟩
  intro a8 _ _ _ _ _ _ _ _ w';rintro ⟨rfl,g⟩;rcases B with ⟨h1,h2,hg⟩|⟨h1,rfl,rfl⟩
  ·rw [h1,h2];refine aE (fun _=>?_) (fun o=>by cases o);have h3:=lI h2;refine gU (a:=n) (b:=2) rfl rfl (by omega) (Run.call0E AN Bt g (zh hg (by omega) (by omega)) fun v I' S2 w'=>?_);rintro ⟨rfl,u,rfl,hu⟩ r g;obtain ⟨p,m,rfl,_⟩:=id hu;refine al (v:=.slice p b.length m) rfl (al (v:=ax (j:Int)) rfl (cX g 2 rfl bF aj rfl rfl rfl fun w' g=>?_));exact ⟨_,S2,rfl,G.trans r,RdT.mono r.1 t,hu,g⟩
  ·have e:(sgn s j 58 && sgn s (j+1) 45)=false:=by
    rw [bN,ne_eq,aZ];exact h1
   rw [e];refine aE (fun o=>by cases o) (fun _=>?_);exact ⟨_,S1,rfl,G,t,mJ S1,g⟩
 intro t5;(iterate 17 intro);intro w';rintro ⟨D,S2,rfl,r,a0,o,g⟩;have hC:RdC S2 [ax hd.kind,ax hd.n,.string hd.name,.slice a hd.kids.length q,D] ⟨hd,b⟩:=⟨(hJ hd (.slice a hd.kids.length q)),D,rfl,a0,o⟩
 refine ⟨fun v w'=>v=.bool false/\Inv w [] [B2,B4,ay Y #[ax hd.kind,ax hd.n,.string hd.name,.slice a hd.kids.length q,D] aB] S2 w',?_,?_⟩
 ·refine iL bg (je (by omega) (dw ?_));rw [aL (show (j:Int)=(s.length:Int) - 1 by omega)];refine bG (b:=false) (Run.callPure dT dV g (dG s j 46 S2) fun w' g=>?_);apply cq;rw [a2];refine tq (bG (b:=false) (av g 2 bR rfl rfl (Run.callPure AL Ce g (zo hf hC a3 (by omega) a4 (by omega)) fun w' g=>?_)));apply WV;rw [aL rfl];apply tq;exact ⟨rfl,g⟩
 intro a9;(iterate 16 intro);intro w';rintro ⟨rfl,g⟩;refine aE (fun o=>by cases o) (fun _=>?_);refine av g 2 bR rfl rfl (Run.call0E E9 EN g (Oc hC (by omega)) fun v I' S3 w'=>?_);rintro ⟨rfl,ds,M,rfl,rfl,hT⟩ a1 g;obtain ⟨S4,g,a6,N⟩:=g.pubExt;have U:=hT.rd N;have V:=U.length;have a7:=hT.one;subst J;refine aq g 0 rfl bR (by simpa using V) rfl (by simpa using a7) fun w' g=>?_;refine bm g 0 bR rfl (by simpa using V) ?_;exact ⟨_,[],S4,rfl,g.nil,(r.trans a1).trans a6,rfl,_,rfl,U⟩
def ab4 (cs:List Value) (l:Bs):Prop:=cs=[.string (st l)]
theorem Nr (s:Bs) (c:Nat) (hs:s.length<=100000):kt UZ [.string (st s),.int .u8 (c:Int)] [] S fun v I' S'=>I'=[]/\RdSl S' 1 ab4 v (LG s c s.length 0 0 []):=by
 intro w l;apply EA.2;dsimp only[EA,bl];refine fg l Iu fun v0 w' l=>?_;obtain ⟨R,hR⟩:∃ R,R=LG s c s.length 0 0 []:=⟨_,rfl⟩
 rw [<- hR];refine ⟨fun t u v w'=>∃ (i fr:Nat) (g:List Bs) (css:List (hZ)),t=ax (i:Int)/\u=ax (fr:Int)/\g.length<=i/\((i<=s.length/\fr<=i/\LG s c (s.length - i) i fr g=R) ∨ (i=s.length+1/\g=R))/\Rows 1 ab4 css g/\Inv w [] [aK v jf 1 css] S w',
  fun t _ _ _=>s.length+2 - (intOf t).toNat,⟨0,0,[],[],rfl,rfl,be _,.inl ⟨bf _,be _,hR.symm⟩,Rows.nil _ _,l⟩,?_⟩
 intro t7 _ _ t6 _ _ V;(iterate 22 intro);intro w';rintro ⟨i,fr,g,css,rfl,rfl,a2,hc,r,l⟩;have a4:=r.hc;refine iL bg (gJ (aJ (fun hi=>?_) (fun hi=>?_)))
 ·have a0:i<=s.length:=by omega
  obtain ⟨_,hfr,hcut⟩:i<=s.length/\fr<=i/\LG s c (s.length - i) i fr g=R:=by
   rcases hc with h|h
   ·exact h
   ·omega
  obtain ⟨br,B⟩:∃ br,br=(decide (i=s.length) || sgn s i c):=⟨_,rfl⟩
  refine ⟨fun u v w'=>∃ (o:Nat) (j:List Bs) (m:List (hZ)),u=ax (o:Int)/\j.length<=i+1/\o<=i+1/\j=(if br=true then g++[cut s fr i] else g)/\o=(if br=true then i+1 else fr)/\Rows 1 ab4 m j/\Inv w [] [aK v jf 1 m] S w',?_,?_⟩
  ·refine ⟨fun b w'=>b=.bool br/\Inv w [] [aK V jf 1 css] S w',?_,?_⟩
   ·apply iL bg;by_cases D:i=s.length
    ·refine iZ (by omega) ?_;refine rpG ?_;exact ⟨by rw [B,aL D,py],l⟩
    ·refine gr (by omega) ?_;refine rpG ?_;have U:i<s.length:=by omega
     refine ge bg U (bn ?_);refine rpG ?_;refine ⟨?_,l⟩;rw [B,aS D,ib,pt U]
     congr 1
     rw [dJ];omega
   intro a3 _ _ _ _ _ _ _ _ _ _ w';rintro ⟨rfl,l⟩;refine aE (fun O=>?_) (fun O=>?_)
   ·refine IG bg hfr a0 (SW (css:=css) l 0 Iu rfl rfl rfl (by omega) (by omega) fun v' w' l=>?_);refine gU (a:=i) (b:=1) rfl rfl (by omega) ?_;refine ⟨i+1,g++[cut s fr i],_,rfl,by rw [bK];simp only [bI,cB];omega,be _,by rw [ai O],by rw [ai O],r.snoc rfl rfl,l⟩
   ·exact ⟨fr,g,css,rfl,by omega,by omega,by rw [af (by rw [O];decide)],by rw [af (by rw [O];decide)],r,l⟩
  intro t6 _ _ V;(iterate 18 intro);intro w';rintro ⟨o,j,m,rfl,J,M,f,q,N,l⟩;refine gU (a:=i) (b:=1) rfl rfl (by omega) ?_;refine ⟨⟨i+1,o,j,m,rfl,rfl,J,?_,N,l⟩,by simp only [intOf,dq];omega⟩;by_cases D:i=s.length
  ·right;refine ⟨by rw [D],?_⟩;rw [D,fH,LG,<- D] at hcut;rw [f,ai (by rw [B,aL D,py])];exact hcut
  ·left;refine ⟨by omega,M,?_⟩;rw [show s.length - i=(s.length - (i+1))+1 by omega,LG] at hcut;rw [B,aS D,ib] at f q;split at hcut
   ·rename_i G
    rw [ai G] at f q;rw [f,q];exact hcut
   ·rename_i G
    rw [af G] at f q;rw [f,q];exact hcut
 ·obtain ⟨_,rfl⟩:i=s.length+1/\g=R:=by
   rcases hc with h|h
   ·omega
   ·exact h
  have a1:Inv w [] ([]++[aK V jf 1 css]) S w':=l;obtain ⟨S1,Y,Z,l⟩:=Inv.lendExt a1;exact ⟨_,[],S1,rfl,l,Y,rfl,RowRd.rows r Z⟩
theorem KU {f:Nat} {a:List Bs} {i:Nat} (h:i<a.length) (g:List C):pn f (a.drop i) g=match CB f a[i] with
  | none=>none
  | some c=>pn f (a.drop (i+1)) (g++[c]):=by
 rw [dB h,pn];cases CB f a[i] <;> rfl
theorem zE {f:Nat} (hf:f<=100) {s:Bs} {p:List C} (h:VS f s=some p) (hs:s.length<=100000):kt rz [.string (st s)] [] S fun v I' S'=>∃ u css,v=.tuple #[u,.bool true]/\I'=[aK u aB 5 css]/\Rows 5 (RdC S') css p:=by
 intro w g;apply pY.2;dsimp only[pY,aR];unfold VS Yo at h;refine fg g ni fun v0 w' g=>?_;refine Run.call0E QV Q5 g (Nr s 10 hs) fun v I' S1 w'=>?_;rintro ⟨rfl,q⟩ a0 g;have g:Inv w [] [aK v0 aB 5 []] S1 w':=g;obtain ⟨j,Y⟩:∃ j,j=LG s 10 s.length 0 0 []:=⟨_,rfl⟩
 rw [<- Y] at q h;simp only [] at h;split at h
 ·cases h
 rename_i hc
 simp only [not_or,ne_eq,Classical.not_not] at hc;obtain ⟨a6,M⟩:=hc;have a7:0<j.length:=by
  cases j with
  | nil=>simp at M
  | cons a l=>simp
 have N:j[j.length - 1]=[]:=by
  rw [List.getLast?_eq_getElem?,gd (by omega)] at M;exact JI M
 refine ⟨fun b w'=>b=.bool false/\Inv w [] [aK v0 aB 5 []] S1 w',?_,?_⟩
 ·refine aI q cZ (nD (by omega) ?_);refine rpG ?_;refine aI q cZ (Ke (a:=j.length) (b:=1) rfl rfl (by omega) (by omega) ?_);have J:j.length - 1<j.length:=by omega
  obtain ⟨b,o,cap,c,E,fz,hv,hS,hR⟩:=q.at_ J;subst hv;refine az cZ J (cS aP ((g.cellS hS).trans (aA hR 0 _ rfl)) (WV (b:=[]) ?_));rw [aL N];refine rpG ?_;exact ⟨rfl,g⟩
 intro a4 _ _ _ _ _ _ _ _ _ _ _ w';rintro ⟨rfl,g⟩;refine aE (fun hb=>by cases hb) (fun _=>?_);refine ⟨fun a b w'=>∃ (i:Nat) (r:List C) (S2:ae) (css:List (hZ)),a=ax (i:Int)/\i+1<=j.length/\r.length=i/\pn f (j.dropLast.drop i) r=some p/\Sle S1 S2/\Ext w.heap.size [] S S2/\Rows 5 (RdC S2) css r/\Inv w [] [aK b aB 5 css] S2 w',
  fun a _ _=>j.length - (intOf a).toNat,⟨0,[],S1,[],rfl,by omega,rfl,h,Sle.refl _,a0,Rows.nil _ _,g⟩,?_⟩
 intro t6 _ _ t4;(iterate 24 intro);intro w';rintro ⟨i,r,S2,css,rfl,hi,a1,m,D,U,hR,g⟩;have a8:=hR.hc;refine gU (a:=i) (b:=1) rfl rfl (by omega) (aI q cZ (bM ?_));have a9:j.dropLast.length=j.length - 1:=List.length_dropLast;refine aJ (fun J=>?_) (fun a5=>?_)
 ·have Z:i<j.length:=by omega
  have O:i<j.dropLast.length:=by omega
  rw [KU O] at m;have eg:j.dropLast[i]=j[i]:=List.getElem_dropLast _;rw [eg] at m;obtain ⟨b,o,cap,c,E,fz,hv,hS,a2⟩:=q.at_ Z;subst hv;split at m
  ·cases m
  rename_i cl V
  refine az cZ Z (cS aP ((g.cellS (D _ _ hS)).trans (aA a2 0 _ rfl)) (Run.call0E Ed DL g (Bf hf V) fun v I' S3 w'=>?_));rintro ⟨rfl,ds,rfl,t⟩ G g;have B:=t.length;have a3:=hR.monoR fun _ _ h=>RdC.mono G.1 h;refine al (v:=.agg ds.toArray) rfl (al (v:=.bool true) rfl (aG g fj fun b7 w' g=>?_));refine aq g 1 rfl bR (by simpa using B) rfl (by simpa using t.one) fun w' g=>?_;refine cq (aE (fun hb=>by cases hb) (fun _=>?_));refine av g 1 bR rfl (by simpa using B) (ei (css:=css) g 0 _ ni (by omega) (by omega) rfl B t.one (by omega) (by omega) fun v' w' g=>?_);have g:Inv w [] [aK v' aB 5 (css++[ds])] S3 w':=g.pick [true,false];refine gU (a:=i) (b:=1) rfl rfl (by omega) ?_;exact ⟨⟨i+1,r++[cl],S3,_,rfl,by omega,by rw [bK,a1];rfl,m,D.trans G.1,U.trans G,a3.snoc t B,g⟩,by simp only [intOf,dq];omega⟩
 ·have O:j.dropLast.length<=i:=by omega
  rw [xZ O,pn] at m;simp only [aY] at m;subst m;exact ⟨_,_,S2,rfl,g,U,_,css,rfl,rfl,hR⟩
end
end
section
open Go Go.RowKit

def yd:List Int->Int->Int->Nat->Int
 | [],_,cur,_=>cur
 | x::xs,n,cur,k=>yd xs n (if x=n then (k:Int) else cur) (k+1)
def Nl (vs:List Int) (n:Int):Int:=(df (σ:=Unit) (fun _ x=>(decide (n=x),())) () vs 0).1
mutual
def jJ (vs:List Int):T->T
 | .mk k n s ks=>.mk k (if k=1 then yd vs n n 0 else n) s (pO vs ks)
def pO (vs:List Int):List T->List T
 | []=>[]
 | t::ts=>jJ vs t::pO vs ts
end
mutual
def uo (vs:List Int):T->T
 | .mk k n s ks=>if k=1 then .mk 1 (Nl vs n) ⟨#[]⟩ [] else .mk k n s (kU vs ks)
def kU (vs:List Int):List T->List T
 | []=>[]
 | t::ts=>uo vs t::kU vs ts
end
theorem LU:∀ (xs:List Int) (n a:Int) (k:Nat),yd xs n a k=a ∨ (0<=yd xs n a k/\yd xs n a k<k+xs.length)
 | [],n,a,k=>.inl rfl
 | x::xs,n,a,k=>by
  rw [yd];rcases LU xs n (if x=n then (k:Int) else a) (k+1) with h|h
  ·split at h
   ·right;rw [ai (by assumption),h];simp;omega
   ·left;rw [af (by assumption)];exact h
  ·right;simp only [bI];omega
theorem Zi (vs:List Int) (n:Int):-1<=Nl vs n/\Nl vs n<vs.length+1:=by
 have:∀ (xs:List Int) (k:Nat),-1<=(df (σ:=Unit) (fun _ x=>(decide (n=x),())) () xs k).1/\(df (σ:=Unit) (fun _ x=>(decide (n=x),())) () xs k).1<k+xs.length+1:=by
  intro xs;induction xs with
  | nil=>intro k;simp [df];omega
  | cons x xs a=>
   intro k;rw [df];have:=a (k+1);split
   ·simp;omega
   ·simp only [bI];omega
 have h:=this vs 0;rw [Nl];omega
mutual
def inT (vs:List Int):T->Prop
 | .mk k n _ ks=>(k=1->n∈vs)/\inL vs ks
def inL (vs:List Int):List T->Prop
 | []=>True
 | t::ts=>inT vs t/\inL vs ts
end
theorem Hu (l:List Int) (n:Int):K5 l n=true↔n∈l:=by
 simp [K5]
theorem Sg (l:List Int) (n:Int):n∈nu l n/\∀ m∈l,m∈nu l n:=by
 unfold nu;split
 ·rename_i h;exact ⟨(Hu l n).1 h,fun m h=>h⟩
 ·exact ⟨by simp,fun m h=>by simp [h]⟩
theorem VP {l:List Int} (n:Int) (h:l.Nodup):(nu l n).Nodup:=by
 unfold nu;split
 ·exact h
 ·rename_i hn
  rw [qF];refine ⟨h,by simp,fun a g b f e=>hn ((Hu l n).2 ?_)⟩;simp at f;rw [<- f,<- e];exact g
mutual
theorem Xi:∀ (t:T) (l:List Int),∀ m∈l,m∈r4 t l
 | .mk k n s ks,l,m,h=>by
  rw [r4];refine wZ ks _ m ?_;split
  ·exact (Sg l n).2 m h
  ·exact h
theorem wZ:∀ (ts:List T) (l:List Int),∀ m∈l,m∈fm ts l
 | [],l,m,h=>h
 | t::ts,l,m,h=>by
  rw [fm];exact wZ ts _ m (Xi t l m h)
end
mutual
theorem RZ {vs a:List Int} (h:∀ m∈vs,m∈a):∀ t:T,inT vs t->inT a t
 | .mk k n s ks,hi=>by
  rw [inT] at hi ⊢;exact ⟨fun e=>h _ (hi.1 e),RM h ks hi.2⟩
theorem RM {vs a:List Int} (h:∀ m∈vs,m∈a):∀ ts:List T,inL vs ts->inL a ts
 | [],_=>by simp [inL]
 | t::ts,hi=>by
  rw [inL] at hi ⊢;exact ⟨RZ h t hi.1,RM h ts hi.2⟩
end
mutual
theorem Zt:∀ (t:T) (l:List Int),inT (r4 t l) t
 | .mk k n s ks,l=>by
  rw [r4,inT];refine ⟨fun e=>wZ ks _ n ?_,Kj ks _⟩;rw [ai e];exact (Sg l n).1
theorem Kj:∀ (ts:List T) (l:List Int),inL (fm ts l) ts
 | [],l=>by simp [inL]
 | t::ts,l=>by
  rw [fm,inL];exact ⟨RZ (wZ ts _) t (Zt t l),Kj ts _⟩
end
theorem Y7 {t:T} (h:fp t=true) (hk:t.kind=1):t.name=emptyB/\t.kids.length=0:=by
 unfold fp at h;rw [ai hk] at h;simp only [aZ,bt] at h;exact ⟨h.2.2.1,h.2.2.2⟩
theorem wU (vs:List Int):∀ ts:List T,(pO vs ts).length=ts.length
 | []=>rfl
 | t::ts=>by rw [pO];simp [wU vs ts]
theorem qY (vs:List Int):∀ ts:List T,(kU vs ts).length=ts.length
 | []=>rfl
 | t::ts=>by rw [kU];simp [qY vs ts]
theorem UX (vs:List Int) (ts:List T) (j:Nat) (h:j<ts.length):pO vs (ts.take (j+1))=pO vs (ts.take j)++[jJ vs ts[j]]:=by
 have:∀ (xs ys:List T),pO vs (xs++ys)=pO vs xs++pO vs ys:=by
  intro xs ys;induction xs with
  | nil=>rfl
  | cons x xs a=>simp [pO,a]
 rw [gh h,this];rfl
theorem H0 (vs:List Int) (ts:List T) (j:Nat) (h:j<ts.length):kU vs (ts.take (j+1))=kU vs (ts.take j)++[uo vs ts[j]]:=by
 have:∀ (xs ys:List T),kU vs (xs++ys)=kU vs xs++kU vs ys:=by
  intro xs ys;induction xs with
  | nil=>rfl
  | cons x xs a=>simp [kU,a]
 rw [gh h,this];rfl
def abe (vs:List Int) (c:C):C:=⟨jJ vs c.head,pO vs c.body⟩
def abP (c:C):List Int:=ef (c.head::c.body) []
end
end Go.Proofs.YtellfcpffcipcaaGreatDoor

/- impl.ownProgram; spec's copies. -/
import Derived.Test.YtellfcpffcipcaaGreatDoorZCkA
import Derived.Test.YtellfcpffcipcaaGreatDoorZCk2
import Derived.Lib.Overlaps
namespace Go.Proofs.YtellfcpffcipcaaGreatDoor
attribute [local irreducible] Run CondV aF aT
section
open Go Go.RowKit
theorem RdC.one {S:ae} {cs:hZ} {c:C} (h:RdC S cs c):∀ u∈cs,u.oneCell'=true:=by
 obtain ⟨hd,i,rfl,g,a,cap,rfl,_⟩:=h;intro u f;rcases ci.1 f with f|f
 ·exact g.one u f
 ·simp at f;subst f;rfl
section
theorem Inv.rowSlice {w0 w:World} {X:List Nat} {L:List Item} {S:ae} {v:Value} {e:TypeId} {k n:Nat} {xs:hZ} (h:Inv w0 X L S w) (i:Nat) (f:L[i]?=some (.row v e k n xs)):∃ a m c,v=.slice a m c:=by
 have j:w.ownsRow 0 e k v n xs:=h.its (.row v e k n xs) (cJ f);rcases j.2 with ⟨rfl,_⟩|⟨g,cap,l,rfl,_⟩
 ·exact ⟨_,_,_,rfl⟩
 ·exact ⟨_,_,_,rfl⟩
def bj (B1 B2 B3 B3' r r':Item) (rest:List Item) (M:bz) (B27:Item) (d7 d8 d9 d11:Bool):List Item:=
 B1::B2::(match d11 with|true=>B3'|false=>B3)::(match d9 with|true=>r'|false=>r)::(rest++((match d7 with|true=>bE M|false=>[])++(match d8 with|true=>[B27]|false=>[])))

theorem gL:∀ (t:T) (S:ae) (cs:hZ),RdT S cs t->wT t<=1048576->kt zl [.agg cs.toArray] [] S (Fd S t):=by
 refine T.ind fun k n s J ih S cs h hw=>?_;intro w f;obtain ⟨kv,rfl,h1,h2,hs,a1⟩:=RdT.iff.1 h;simp only [T.name,T.kids,T.kind,T.n] at h1 h2 hs a1 ⊢;simp only [wT] at hw;refine pT.2 ?_;dsimp only[pT,aR];refine bq f fun b1 w' f=>?_;refine aG f aV fun b2 w' f=>?_;refine ad f 0 rfl aM aw rfl ?_;refine ad f 0 rfl aQ aw rfl ?_;refine ad f 0 rfl aW aP rfl ?_;refine jp ?_;refine aG f aV fun N w' f=>?_;refine aq f 2 rfl ac rfl rfl (by simp [Value.oneCell']) fun w' f=>?_;have f:=f.rowNil ab 4;refine ⟨fun i w'=>∃ (j:Nat) (g:Value) (Ls:List bz) (css:List (hZ)),j<=J.length/\i=ax j/\Grown 4 TrT Ls css (J.take j)/\
   Inv w [] (ay b1 #[ax k,ax n,.string s,kv] ab::.blk b2 (.cells bb ab)::.blk N (.cells #[ax k,ax n,.string s,g] ab)::aK g ab 4 css::bE Ls.flatten) S w',
  fun i _=>J.length - (intOf i).toNat,⟨0,_,[],[],bf _,rfl,Grown.nil _ _,f⟩,?_⟩
 intro t4;(iterate 18 intro);intro w';rintro ⟨j,g,Ls,css,hj,rfl,hg,f⟩;refine ad f 0 rfl ao aj rfl (aI a1 ag (bM (aJ (fun a7=>?_) (fun a7=>?_))))
 ·have a0:j<J.length:=by omega
  have b0:(J.take j).length=j:=by simp;omega
  have b4:=hg.hc;have hm:=bJ a0;have b5:=lf hm;obtain ⟨b,o,cap,c,E,fz,rfl,hS,hR⟩:=a1.at_ a0;refine ⟨fun D lO Y pp oR iU pj vz tU qX nX pu w_=>Fx D 0 [pu=eu N 3,nX=g,qX=eu b1 3,tU=eF b o (J).length cap,vz=ax j,pj=eu b (o+j * 4),iU=.agg (aO c (o+j * 4) 4).toArray,True,True,True,lO=eu N 3,True]/\∃ M a r,(D 7=true->oR=.agg a.toArray/\TrT M a (J)[j])/\(D 8=true->pp=eF r 0 1 1)/\(D 8=true->D 7=true)/\(D 9=true->D 8=true)/\(D 11=true->D 9=true)/\(D 11=true->D 1=true)/\Inv w [] (bj (ay b1 #[ax k,ax n,.string s,eF b o J.length cap] ab) (ay b2 bb ab) (ay N #[ax k,ax n,.string s,g] ab) (ay N #[ax k,ax n,.string s,Y] ab) (aK g ab 4 css) (aK Y ab 4 (css++[a])) (bE Ls.flatten) M (ay r a.toArray ab) (D 7) (D 8) (D 9) (D 11)) S w_,⟨Fx.nil _ _,⟨[],[],0,aU,aU,aU,aU,aU,aU,by simpa [bj,bE] using f.draw⟩⟩,⟨?_,?_,?_,?_,?_,?_,?_,?_,?_,?_,?_,?_,trivial⟩,?_⟩;all_goals (intro D bw;intros;rename_i lO Y pp oR iU pj vz tU qX nX pu w_ a3;have q:=a3.1;obtain ⟨⟨co,cn,bP,cj,cA,bQ,bO,cM,de,dv,bU,cC,_⟩,⟨M,a,r,G,Z,U,O,l,V,f⟩⟩:=a3)
  apply ah ao;rotate_left
  obtain rfl:=co ‹_›;have B:D 11=false:=bN.2 fun h=>by rw [V h] at bw;cases bw
  refine aD (b:=N) f 2 (c:=(#[ax k,ax n,.string s,g])) aj (by rw [B];rfl) rfl ?_;have V:=fun (_:aC D 1 11=true)=>(rfl:aC D 1 1=true)
  rotate_left;apply ah ao;rotate_left
  obtain rfl:=bP ‹_›;apply aD f 0 aj rfl rfl;rotate_left;rotate_left
  obtain rfl:=cj ‹_›;obtain rfl:=cA ‹_›;apply az ag a0;rotate_left
  obtain rfl:=bQ ‹_›;refine bV ac hR.length (fun j v hj=>by rw [f.cellS hS];exact aA rfl j v hj) ?_;rotate_left
  obtain rfl:=bO ‹_›;have f8:D 8=false:=bN.2 fun h=>by rw [U h] at bw;cases bw
  have f9:D 9=false:=bN.2 fun h=>by rw [O h] at f8;cases f8
  have B:D 11=false:=bN.2 fun h=>by rw [l h] at f9;cases f9
  rw [bw,f8,f9,B] at f;refine Run.call0 fR fQ f (ih _ (bJ a0) S _ hR (by omega)) fun v' I' S w_=>?_;rintro ⟨rfl,a,M,rfl,rfl,hT⟩ _ f;have G:aC D 7 7=true->Value.agg a.toArray=Value.agg a.toArray/\TrT M a (J)[j]:=fun _=>⟨rfl,hT⟩
  have U:=fun (_:aC D 7 8=true)=>(rfl:aC D 7 7=true)
  have f:Inv w [] (bj (ay b1 #[ax k,ax n,.string s,eF b o J.length cap] ab) (ay b2 bb ab) (ay N #[ax k,ax n,.string s,g] ab) (ay N #[ax k,ax n,.string s,Y] ab) (aK g ab 4 css) (aK Y ab 4 (css++[a])) (bE Ls.flatten) M (ay r a.toArray ab) true (D 8) (D 9) (D 11)) S w_:=by
   rw [f8,f9,B];simpa [bj] using f
  rotate_left;have Fi:=cM ‹_›;have f9:D 9=false:=bN.2 fun h=>by rw [O h] at bw;cases bw
  have B:D 11=false:=bN.2 fun h=>by rw [l h] at f9;cases f9
  obtain ⟨q7,hT⟩:=G ‹D 7=true›;subst q7;rw [‹D 7=true›,bw,f9,B] at f;refine dQ f bx (by simp [Value.cells,hT.length]) (by omega) (by omega) fun r w_ f=>?_;have G:aC D 8 7=true->Value.agg a.toArray=Value.agg a.toArray/\TrT M a (J)[j]:=fun _=>⟨rfl,hT⟩
  have Z:=fun (_:aC D 8 8=true)=>(rfl:Value.slice (some ⟨r,0,none⟩) 1 1=_)
  have U:=fun (_:aC D 8 8=true)=>‹D 7=true›;have O:=fun (_:aC D 8 9=true)=>(rfl:aC D 8 8=true)
  have f:Inv w [] (bj (ay b1 #[ax k,ax n,.string s,eF b o J.length cap] ab) (ay b2 bb ab) (ay N #[ax k,ax n,.string s,g] ab) (ay N #[ax k,ax n,.string s,Y] ab) (aK g ab 4 css) (aK Y ab 4 (css++[a])) (bE Ls.flatten) M (ay r a.toArray ab) (D 7) true (D 9) (D 11)) S w_:=by
   rw [‹D 7=true›,f9,B];simpa [bj,Value.cells] using f
  rotate_left;obtain rfl:=cn ‹_›;have Db:=de ‹_›;have B:D 11=false:=bN.2 fun h=>by rw [l h] at bw;cases bw
  have q8:=Z ‹D 8=true›;subst q8;obtain ⟨_,hT⟩:=G ‹D 7=true›;rw [‹D 7=true›,‹D 8=true›,bw,B] at f;have a4:((bj (ay b1 #[ax k,ax n,.string s,eF b o J.length cap] ab) (ay b2 bb ab) (ay N #[ax k,ax n,.string s,nX] ab) (ay N #[ax k,ax n,.string s,Y] ab) (aK nX ab 4 css) (aK Y ab 4 (css++[a])) (bE Ls.flatten) M (ay r a.toArray ab) true true false false))[4+(bE Ls.flatten).length+(bE M).length]?=some (ay r a.toArray ab):=by
   have e4:4+(bE Ls.flatten).length+(bE M).length=((bE Ls.flatten).length+(bE M).length)+1+1+1+1:=by omega
   rw [e4];simp only [bj,nL];rw [jr (by omega),qS,jr (be _),fH];rfl
  refine eT f 3 a bx (by omega) rfl (by rw [hT.length]) (m:=1) (o:=0) ?_ hT.one (by omega) (by omega) fun v' w_ f=>?_
  ·intro i u hi;rw [f.cellL a4,dr];simpa using hi
  rw [fU] at f;have O:=fun (_:aC D 9 9=true)=>‹D 8=true›;have l:=fun (_:aC D 9 11=true)=>(rfl:aC D 9 9=true)
  have f:Inv w [] (bj (ay b1 #[ax k,ax n,.string s,eF b o J.length cap] ab) (ay b2 bb ab) (ay N #[ax k,ax n,.string s,nX] ab) (ay N #[ax k,ax n,.string s,v'] ab) (aK nX ab 4 css) (aK v' ab 4 (css++[a])) (bE Ls.flatten) M (ay r a.toArray ab) (D 7) (D 8) true (D 11)) S w_:=by
   rw [‹D 7=true›,‹D 8=true›,B];exact f
  rotate_left;apply ah ao;rotate_left
  obtain rfl:=bU ‹_›;have K2:=dv ‹_›;rw [‹D 7=true›,‹D 8=true›,‹D 9=true›,bw] at f;obtain ⟨va,vn,vc,a2⟩:=Inv.rowSlice f 3 rfl;refine dD f 2 (n:=1) (by rw [a2];rfl) (by decide +kernel) rfl (by simp) (by rw [a2];simp [Value.cells,Value.oneCell']) fun w_ f=>?_;have a5:Value.cells Y=#[Y]:=by rw [a2];rfl
  rw [a5] at f;have V:=fun (_:aC D 11 11=true)=>‹D 1=true›;have l:=fun (_:aC D 11 11=true)=>‹D 9=true›;have f:Inv w [] (bj (ay b1 #[ax k,ax n,.string s,eF b o J.length cap] ab) (ay b2 bb ab) (ay N #[ax k,ax n,.string s,g] ab) (ay N #[ax k,ax n,.string s,Y] ab) (aK g ab 4 css) (aK Y ab 4 (css++[a])) (bE Ls.flatten) M (ay r a.toArray ab) (D 7) (D 8) (D 9) true) S w_:=by
   rw [‹D 7=true›,‹D 8=true›,‹D 9=true›];exact f
  rotate_left
  all_goals try exact ⟨q.set _ (by first|rfl|assumption|trivial),M,a,r,G,Z,U,O,l,V,f⟩
  obtain ⟨rfl,rfl,rfl,rfl,rfl,rfl,rfl,Fi,Db,K2,rfl,_,_⟩:=q.all;have CQ:D 7=true:=by assumption
  have Dc:D 8=true:=by assumption
  have Og:D 9=true:=by assumption
  have nH:D 11=true:=by assumption
  clear q;obtain ⟨_,hT⟩:=G CQ;rw [CQ,Dc,Og,nH] at f;refine bA (by omega) ?_;refine ⟨⟨j+1,Y,Ls++[M],css++[a],a0,rfl,?_,?_⟩,by simp [intOf];omega⟩
  ·rw [gh a0];exact hg.snoc hT hT.length
  ·simp only [AB,jY,uZ,dc,fy];apply f.sub;simp only [bj];rw [<- eY];exact (((eh _ _).cons_cons _).cons_cons _).cons_cons _ |>.cons_cons _
 ·have:j=J.length:=by omega
  subst this;rw [fM] at hg;obtain ⟨va,vn,vc,a8⟩:=f.rowSlice 3 rfl;have a9:g.oneCell'=true:=by rw [a8];rfl
  refine av f 2 ac rfl rfl (aq f 1 rfl ac rfl rfl ?_ fun w' f=>?_)
  ·intro u hu;have a6:u∈([ax k,ax n,.string s,g]:hZ):=hu;simp at a6;rcases a6 with rfl|rfl|rfl|rfl <;> first|rfl|exact a9
  apply bm f 1 ac rfl rfl;have f:Inv w [] ([]++(aK g ab 4 css::bE Ls.flatten)) S w':=f.sub (eR [_,_,_] _);obtain ⟨L,hT,f⟩:=Inv.rowTree f hg;exact ⟨_,_,_,rfl,f,Ext.refl _ _ _,rfl,_,L,rfl,rfl,TrT.iff.2 ⟨g,rfl,h1,h2,hs,hT⟩⟩
end
end
section
open Go Go.RowKit
section
theorem Oc {a:C} {S:ae} {cs:hZ} (h:RdC S cs a) (hw:wC a<=1048576):kt Ix [.agg cs.toArray] [] S (adm S a):=by
 intro w f;obtain ⟨hd,ks,rfl,h1,h2⟩:=h;have a9:=h1;obtain ⟨kv,rfl,g1,g2,g3,g4⟩:=RdT.iff.1 h1;unfold wC at hw;apply qy.2;dsimp only[qy,aR];refine bq f fun b1 w' f=>?_;refine aG f fj fun b2 w' f=>?_;refine ah dl (cP f 0 (hJ a.head kv) ac rfl rfl Nw (Run.call0 fR fQ f (gL _ S _ a9 (by omega)) fun v' I' S w'=>?_));rintro ⟨rfl,b4,N,rfl,rfl,a2⟩ _ f;obtain ⟨B,rfl,_⟩:=TrT.iff.1 a2;refine qe (aG f fj fun J w' f=>?_);have f:=f.perm (M:=.blk b1 _::.blk b2 _::.blk J _::bE N) (((cT (l₁:=[_])).cons _).cons _);refine aq f 2 rfl bR rfl rfl ?_ fun w' f=>?_
 ·intro u hu;have a0:u∈([ax a.head.kind,ax a.head.n,.string a.head.name,B,hV]:hZ):=hu;simp at a0;have o1:B.oneCell'=true:=a2.one B (by simp);rcases a0 with rfl|rfl|rfl|rfl|rfl <;> first|rfl|exact o1
 have f:=f.rowNil ab 4;have f:=f.perm (M:=ay b1 #[ax a.head.kind,ax a.head.n,.string a.head.name,kv,ks] aB::.blk b2 (.cells eb aB)::.blk J (.cells #[ax a.head.kind,ax a.head.n,.string a.head.name,B,hV] aB)::aK (hV) ab 4 []::bE N) ((((cT (l₁:=[_])).cons _).cons _).cons _);refine ⟨fun i w'=>∃ (j:Nat) (l:Value) (Ls:List bz) (css:List (hZ)),j<=a.body.length/\i=ax j/\Grown 4 TrT Ls css (a.body.take j)/\
   Inv w [] (ay b1 #[ax a.head.kind,ax a.head.n,.string a.head.name,kv,ks] aB::.blk b2 (.cells eb aB)::.blk J (.cells #[ax a.head.kind,ax a.head.n,.string a.head.name,B,l] aB)::aK l ab 4 css::bE (N::Ls).flatten) S w',
  fun i _=>a.body.length - (intOf i).toNat,⟨0,_,[],[],bf _,rfl,Grown.nil _ _,by simp only [jY,uZ,dc];exact f⟩,?_⟩
 intro t4;(iterate 18 intro);intro w';rintro ⟨j,l,Ls,css,hj,rfl,hg,f⟩;refine ad f 0 rfl bF aj rfl (aI h2 ag (bM (aJ (fun a7=>?_) (fun a7=>?_))))
 ·have a1:j<a.body.length:=by omega
  have b5:(a.body.take j).length=j:=by simp;omega
  have b6:=hg.hc;have hm:=bJ a1;have b7:=lf hm;obtain ⟨b,o,cap,c,E,fz,rfl,hS,hR⟩:=h2.at_ a1;refine ⟨fun D oR Z pj vz tU qX nX pu ww pF wi w_=>Fx D 0 [wi=eu J 4,pF=l,ww=eu b1 4,pu=eF b o (a.body).length cap,nX=ax j,qX=eu b (o+j * 4),tU=.agg (aO c (o+j * 4) 4).toArray,True,True,True,oR=eu J 4,True]/\∃ M g t,(D 7=true->vz=.agg g.toArray/\TrT M g (a.body)[j])/\(D 8=true->pj=eF t 0 1 1)/\(D 8=true->D 7=true)/\(D 9=true->D 8=true)/\(D 11=true->D 9=true)/\(D 11=true->D 1=true)/\Inv w [] (bj (ay b1 #[ax a.head.kind,ax a.head.n,.string a.head.name,kv,eF b o a.body.length cap] aB) (ay b2 eb aB) (ay J #[ax a.head.kind,ax a.head.n,.string a.head.name,B,l] aB) (ay J #[ax a.head.kind,ax a.head.n,.string a.head.name,B,Z] aB) (aK l ab 4 css) (aK Z ab 4 (css++[g])) (bE (N::Ls).flatten) M (ay t g.toArray ab) (D 7) (D 8) (D 9) (D 11)) S w_,⟨Fx.nil _ _,⟨[],[],0,aU,aU,aU,aU,aU,aU,by simpa [bj,bE] using f.draw⟩⟩,⟨?_,?_,?_,?_,?_,?_,?_,?_,?_,?_,?_,?_,trivial⟩,?_⟩;all_goals (intro D bw;intros;rename_i oR Z pj vz tU qX nX pu ww pF wi w_ a4;have r:=a4.1;obtain ⟨⟨co,cn,bP,cj,cA,bQ,bO,cM,de,dv,bU,cC,_⟩,⟨M,g,t,O,e8,V,U,q,Y,f⟩⟩:=a4)
  apply ah bF;rotate_left
  obtain rfl:=co ‹_›;have G:D 11=false:=bN.2 fun h=>by rw [Y h] at bw;cases bw
  refine aD (b:=J) f 2 (c:=(#[ax a.head.kind,ax a.head.n,.string a.head.name,B,l])) aj (by rw [G];rfl) rfl ?_;have Y:=fun (_:aC D 1 11=true)=>(rfl:aC D 1 1=true)
  rotate_left;apply ah bF;rotate_left
  obtain rfl:=bP ‹_›;apply aD f 0 aj rfl rfl;rotate_left;rotate_left
  obtain rfl:=cj ‹_›;obtain rfl:=cA ‹_›;apply az ag a1;rotate_left
  obtain rfl:=bQ ‹_›;refine bV ac hR.length (fun j v hj=>by rw [f.cellS hS];exact aA rfl j v hj) ?_;rotate_left
  obtain rfl:=bO ‹_›;have f8:D 8=false:=bN.2 fun h=>by rw [V h] at bw;cases bw
  have f9:D 9=false:=bN.2 fun h=>by rw [U h] at f8;cases f8
  have G:D 11=false:=bN.2 fun h=>by rw [q h] at f9;cases f9
  rw [bw,f8,f9,G] at f;refine Run.call0 fR fQ f (gL _ S _ hR (by omega)) fun v' I' S w_=>?_;rintro ⟨rfl,g,M,rfl,rfl,hT⟩ _ f;have O:aC D 7 7=true->Value.agg g.toArray=Value.agg g.toArray/\TrT M g (a.body)[j]:=fun _=>⟨rfl,hT⟩
  have V:=fun (_:aC D 7 8=true)=>(rfl:aC D 7 7=true)
  have f:Inv w [] (bj (ay b1 #[ax a.head.kind,ax a.head.n,.string a.head.name,kv,eF b o a.body.length cap] aB) (ay b2 eb aB) (ay J #[ax a.head.kind,ax a.head.n,.string a.head.name,B,l] aB) (ay J #[ax a.head.kind,ax a.head.n,.string a.head.name,B,Z] aB) (aK l ab 4 css) (aK Z ab 4 (css++[g])) (bE (N::Ls).flatten) M (ay t g.toArray ab) true (D 8) (D 9) (D 11)) S w_:=by
   rw [f8,f9,G];simpa [bj] using f
  rotate_left;have Fi:=cM ‹_›;have f9:D 9=false:=bN.2 fun h=>by rw [U h] at bw;cases bw
  have G:D 11=false:=bN.2 fun h=>by rw [q h] at f9;cases f9
  obtain ⟨q7,hT⟩:=O ‹D 7=true›;subst q7;rw [‹D 7=true›,bw,f9,G] at f;refine dQ f bx (by simp [Value.cells,hT.length]) (by omega) (by omega) fun t w_ f=>?_;have O:aC D 8 7=true->Value.agg g.toArray=Value.agg g.toArray/\TrT M g (a.body)[j]:=fun _=>⟨rfl,hT⟩
  have e8:=fun (_:aC D 8 8=true)=>(rfl:Value.slice (some ⟨t,0,none⟩) 1 1=_)
  have V:=fun (_:aC D 8 8=true)=>‹D 7=true›;have U:=fun (_:aC D 8 9=true)=>(rfl:aC D 8 8=true)
  have f:Inv w [] (bj (ay b1 #[ax a.head.kind,ax a.head.n,.string a.head.name,kv,eF b o a.body.length cap] aB) (ay b2 eb aB) (ay J #[ax a.head.kind,ax a.head.n,.string a.head.name,B,l] aB) (ay J #[ax a.head.kind,ax a.head.n,.string a.head.name,B,Z] aB) (aK l ab 4 css) (aK Z ab 4 (css++[g])) (bE (N::Ls).flatten) M (ay t g.toArray ab) (D 7) true (D 9) (D 11)) S w_:=by
   rw [‹D 7=true›,f9,G];simpa [bj,Value.cells] using f
  rotate_left;obtain rfl:=cn ‹_›;have Db:=de ‹_›;have G:D 11=false:=bN.2 fun h=>by rw [q h] at bw;cases bw
  have q8:=e8 ‹D 8=true›;subst q8;obtain ⟨_,hT⟩:=O ‹D 7=true›;rw [‹D 7=true›,‹D 8=true›,bw,G] at f;have a5:((bj (ay b1 #[ax a.head.kind,ax a.head.n,.string a.head.name,kv,eF b o a.body.length cap] aB) (ay b2 eb aB) (ay J #[ax a.head.kind,ax a.head.n,.string a.head.name,B,pF] aB) (ay J #[ax a.head.kind,ax a.head.n,.string a.head.name,B,Z] aB) (aK pF ab 4 css) (aK Z ab 4 (css++[g])) (bE (N::Ls).flatten) M (ay t g.toArray ab) true true false false))[4+(bE (N::Ls).flatten).length+(bE M).length]?=some (ay t g.toArray ab):=by
   have e4:4+(bE (N::Ls).flatten).length+(bE M).length=((bE (N::Ls).flatten).length+(bE M).length)+1+1+1+1:=by omega
   rw [e4];simp only [bj,nL];rw [jr (by omega),qS,jr (be _),fH];rfl
  refine eT f 3 g bx (by omega) rfl (by rw [hT.length]) (m:=1) (o:=0) ?_ hT.one (by omega) (by omega) fun v' w_ f=>?_
  ·intro i u hi;rw [f.cellL a5,dr];simpa using hi
  rw [fU] at f;have U:=fun (_:aC D 9 9=true)=>‹D 8=true›;have q:=fun (_:aC D 9 11=true)=>(rfl:aC D 9 9=true)
  have f:Inv w [] (bj (ay b1 #[ax a.head.kind,ax a.head.n,.string a.head.name,kv,eF b o a.body.length cap] aB) (ay b2 eb aB) (ay J #[ax a.head.kind,ax a.head.n,.string a.head.name,B,pF] aB) (ay J #[ax a.head.kind,ax a.head.n,.string a.head.name,B,v'] aB) (aK pF ab 4 css) (aK v' ab 4 (css++[g])) (bE (N::Ls).flatten) M (ay t g.toArray ab) (D 7) (D 8) true (D 11)) S w_:=by
   rw [‹D 7=true›,‹D 8=true›,G];exact f
  rotate_left;apply ah bF;rotate_left
  obtain rfl:=bU ‹_›;have K2:=dv ‹_›;rw [‹D 7=true›,‹D 8=true›,‹D 9=true›,bw] at f;obtain ⟨va,vn,vc,a3⟩:=Inv.rowSlice f 3 rfl;refine dD f 2 (n:=1) (by rw [a3];rfl) (by decide +kernel) rfl (by simp) (by rw [a3];simp [Value.cells,Value.oneCell']) fun w_ f=>?_;have a6:Value.cells Z=#[Z]:=by rw [a3];rfl
  rw [a6] at f;have Y:=fun (_:aC D 11 11=true)=>‹D 1=true›;have q:=fun (_:aC D 11 11=true)=>‹D 9=true›;have f:Inv w [] (bj (ay b1 #[ax a.head.kind,ax a.head.n,.string a.head.name,kv,eF b o a.body.length cap] aB) (ay b2 eb aB) (ay J #[ax a.head.kind,ax a.head.n,.string a.head.name,B,l] aB) (ay J #[ax a.head.kind,ax a.head.n,.string a.head.name,B,Z] aB) (aK l ab 4 css) (aK Z ab 4 (css++[g])) (bE (N::Ls).flatten) M (ay t g.toArray ab) (D 7) (D 8) (D 9) true) S w_:=by
   rw [‹D 7=true›,‹D 8=true›,‹D 9=true›];exact f
  rotate_left
  all_goals try exact ⟨r.set _ (by first|rfl|assumption|trivial),M,g,t,O,e8,V,U,q,Y,f⟩
  obtain ⟨rfl,rfl,rfl,rfl,rfl,rfl,rfl,Fi,Db,K2,rfl,_,_⟩:=r.all;have CQ:D 7=true:=by assumption
  have Dc:D 8=true:=by assumption
  have Og:D 9=true:=by assumption
  have nH:D 11=true:=by assumption
  clear r;obtain ⟨_,hT⟩:=O CQ;rw [CQ,Dc,Og,nH] at f;refine bA (by omega) ?_;refine ⟨⟨j+1,Z,Ls++[M],css++[g],a1,rfl,?_,?_⟩,by simp [intOf];omega⟩
  ·rw [gh a1];exact hg.snoc hT hT.length
  ·rw [<- i8,AB,fy];simp only [jY,uZ,dc];apply f.sub;simp only [bj,jY];rw [<- eY];exact (((eh _ _).cons_cons _).cons_cons _).cons_cons _ |>.cons_cons _
 ·have:j=a.body.length:=by omega
  subst this;rw [fM] at hg;obtain ⟨va,vn,vc,a8⟩:=f.rowSlice 3 rfl;have b0:l.oneCell'=true:=by rw [a8];rfl
  have o1:B.oneCell'=true:=a2.one B (by simp);refine av f 2 bR rfl rfl (aq f 1 rfl bR rfl rfl ?_ fun w' f=>?_)
  ·intro u hu;have a0:u∈([ax a.head.kind,ax a.head.n,.string a.head.name,B,l]:hZ):=hu;simp at a0;rcases a0 with rfl|rfl|rfl|rfl|rfl <;> first|rfl|exact o1|exact b0
  apply bm f 1 bR rfl rfl;have f:Inv w [] (aK l ab 4 css::bE (N::Ls).flatten) S w':=f.sub (eR [_,_,_] _);rw [jY,fy] at f;have f:=f.perm (M:=bE N++(aK l ab 4 css::bE Ls.flatten)) (zal125);obtain ⟨L,hT,f⟩:=Inv.rowTree f hg;exact ⟨_,_,_,rfl,f,Ext.refl _ _ _,rfl,_,N++L,rfl,by rw [fy],_,l,N,L,rfl,rfl,a2,hT⟩
end
end
section
open Go Go.RowKit
section
variable {P:Program} {w w0:World} {X:List Nat} {L:List Item} {S:ae} {K:Value->World->Prop}
theorem Xp (h:Inv w0 X L S w) {T ty e:TypeId} {k by_ n o:Nat} {z v:Value} {cs:List Bool} {xs:hZ} {a:Option Addr} (i:Nat)
  (q:iP P T=some (e,k,by_,z)) (r:L[i]?=some (.row v e k n xs)) (hk:K v w) :
  Run P (ce .append #[T,T] ty cs [v,.slice a 0 o]) w K:=by
 obtain ⟨m,t,j,M,N,O,B⟩:=oy q;have f:=h.its _ (cJ r);simp only [Item.holds] at f;refine Run.of (v:=v) (w':=w) ?_ hk;rcases f.2 with ⟨rfl,rfl⟩|⟨g,cap,D,rfl,_,U,l,G,J,V⟩
 ·cases a <;> simp [ce,builtin,Builtin.append_,run_underlying m,sizeOf,typeInfo,j,Builtin.lenOf,Builtin.firstCells,loadCells,loadCellsFrom]
 ·cases a <;> simp [ce,builtin,Builtin.append_,run_underlying m,sizeOf,typeInfo,j,storeCells,l,Builtin.lenOf,Builtin.firstCells,loadCells,loadCellsFrom]
end
end
section
open Go Go.RowKit

structure Rows {α:Type} (k:Nat) (R:List Value->α->Prop) (css:List (List Value)) (ys:List α):Prop where
 hc:css.length=ys.length
 hk:∀ cs∈css,cs.length=k
 hR:∀ i (h:i<ys.length) (h1:i<css.length),R css[i] ys[i]
theorem Rows.nil {α:Type} (k:Nat) (R:hZ->α->Prop):Rows k R [] ([]:List α):=⟨rfl,by simp,fun i h=>by simp at h⟩
theorem Rows.snoc {α:Type} {k:Nat} {R:hZ->α->Prop} {css:List (hZ)} {ys:List α} (h:Rows k R css ys) {cs:hZ} {y:α} (hR:R cs y) (hl:cs.length=k):Rows k R (css++[cs]) (ys++[y]):=by
 refine ⟨by simp [h.hc],fun c hc=>?_,fun i f g=>?_⟩
 ·rcases ci.1 hc with hc|hc
  ·exact h.hk c hc
  ·simp at hc;subst hc;exact hl
 ·have e2:=h.hc;by_cases a:i<ys.length
  ·rw [iO (by omega),iO a];exact h.hR i a (by omega)
  ·have:i=ys.length:=by simp at f;omega
   subst this;rw [gF (by omega),gF (by omega)];simp only [e2,fH,pi];exact hR
theorem Rows.append {α:Type} {k:Nat} {R:hZ->α->Prop} {css a:List (hZ)} {ys f:List α} (h:Rows k R css ys) (g:Rows k R a f):Rows k R (css++a) (ys++f):=by
 have e:=h.hc;have o:=g.hc;refine ⟨by simp [e,o],fun c hc=>?_,fun i m q=>?_⟩
 ·rcases ci.1 hc with hc|hc
  ·exact h.hk c hc
  ·exact g.hk c hc
 ·by_cases l:i<ys.length
  ·rw [iO (by omega),iO l];exact h.hR i l (by omega)
  ·have j:i - css.length<f.length:=by simp at m;omega
   rw [gF (by omega),gF (by omega)];have:=g.hR (i - css.length) j (by omega);simpa only [e] using this
theorem RowRd.rows {α:Type} {S:ae} {v:Value} {e:TypeId} {k:Nat} {R:hZ->α->Prop} {css:List (hZ)} {ys:List α} (a:Rows k R css ys) (h:RowRd S v e k css.length css.flatten):RdSl S k R v ys:=by
 obtain ⟨hl,h⟩:=h;have f:=a.hc;rcases h with ⟨rfl,D⟩|⟨g,cap,j,rfl,q,r,l,t,B⟩
 ·have:ys=[]:=iy (by omega);subst this;exact ⟨none,0,rfl,be _,bf _,.inl rfl⟩
 ·refine ⟨_,cap,by rw [f],by omega,l,.inr ⟨g,0,j,e,(0,0),rfl,q,fun i m=>?_⟩⟩;have:=jc k css i a.hk (by omega);have o:i * k+k<=css.length * k:=by rw [<- mi];exact jw k (by omega)
  rw [<- B,EX,lW,kJ (by omega)] at this;rw [aO,dr,this];exact a.hR i m (by omega)
theorem wt {k:Nat}:∀ {css:List (hZ)},(∀ cs∈css,cs.length=k)->css.flatten.length=css.length * k
 | [],_=>by simp
 | c::css,h=>by
  have:=wt (css:=css) fun cs hc=>h cs (bk _ hc);rw [jY,bK,h c (bi ..),this,bI,mi,vR]
section
variable {P:Program} {w w0:World} {X:List Nat} {L:List Item} {S:ae} {K:Value->World->Prop}
end
theorem MG (f:C->Bool):∀ p:List C,(p.filter f).length+wP (p.filter f)+((p.filter fun c=>!f c).length+wP (p.filter fun c=>!f c))=p.length+wP p
 | []=>rfl
 | c::p=>by
  have:=MG f p;rw [wH,wH];cases f c <;> simp [wP] <;> omega
theorem ML:∀ p q:List C,wP (p++q)=wP p+wP q
 | [],q=>by simp [wP]
 | c::p,q=>by simp only [i8,wP,ML p q];omega
end
section
open Go Go.RowKit

theorem td {P:Program} {T e:TypeId} {k:Nat} (h:dt P T=some (e,k)):P.underlying T=some (.slice e)/\∃ i,P.info? e=some i/\i.size=k:=by
 unfold dt at h;split at h
 ·rename_i e1 f
  rw [Ta] at h;obtain ⟨i,g,a⟩:=h;simp only [cV] at a;obtain ⟨rfl,rfl⟩:=a;exact ⟨f,i,g,rfl⟩
 ·cases h
section
variable {P:Program} {w:World} {K:Value->World->Prop}
theorem ot {n y:Nat} {code:BoundsCode} (h:n<=y):(Instr.sliceBound (ax n) y code).run P w=.ok n w:=by
 have a:(0:Int)<=(n:Int)/\(n:Int)<=(y:Int):=by omega
 simp [Instr.sliceBound,asIntOf,h]
theorem Jt {T ty e:TypeId} {k h len cap:Nat} {a:Option Addr} (f:dt P T=some (e,k)) (g:h<=cap) (hk:K (.slice (if cap=0 then a else a.map (·.add (0 * k))) h cap) w) :
  Run P (sOp (.slice T (.const (.slice a len cap)) none (some (.const (ax h))) none) ty) w K:=by
 obtain ⟨j,i,l,_⟩:=td f;refine Run.of ?_ hk;simp [sOp,execOp,ev0,evE,Instr.sliceAt,Instr.slice,Instr.sliceBounds,run_underlying j,ot g,sizeOf,typeInfo,l]
theorem RA {T ty e:TypeId} {k l len cap:Nat} {a:Option Addr} (f:dt P T=some (e,k)) (hl:l<=len) (hk:K (.slice (if cap=l then a else a.map (·.add (l * k))) (len - l) (cap - l)) w) :
  Run P (sOp (.slice T (.const (.slice a len cap)) (some (.const (ax l))) none none) ty) w K:=by
 obtain ⟨g,i,h,j⟩:=td f;refine Run.of ?_ hk;simp [sOp,execOp,ev0,evE,Instr.sliceAt,Instr.slice,Instr.sliceBounds,run_underlying g,ot hl,sizeOf,typeInfo,h,j]
theorem abb {T ty e:TypeId} {k l h len cap:Nat} {a:Option Addr} (f:dt P T=some (e,k)) (hl:l<=h) (g:h<=cap) (hk:K (.slice (if cap=l then a else a.map (·.add (l * k))) (h - l) (cap - l)) w) :
  Run P (sOp (.slice T (.const (.slice a len cap)) (some (.const (ax l))) (some (.const (ax h))) none) ty) w K:=by
 obtain ⟨j,i,m,o⟩:=td f;refine Run.of ?_ hk;simp [sOp,execOp,ev0,evE,Instr.sliceAt,Instr.slice,Instr.sliceBounds,run_underlying j,ot hl,ot g,sizeOf,typeInfo,m,o]
end
theorem RdSl.to {α:Type} {S:ae} {k:Nat} {R:hZ->α->Prop} {a:Option Addr} {cap n h:Nat} {xs:List α} (f:RdSl S k R (.slice a n cap) xs) (m:h<=xs.length) :
  RdSl S k R (.slice (if cap=0 then a else a.map (·.add (0 * k))) h cap) (xs.take h):=by
 obtain ⟨r,g,e,hl,hc,f⟩:=f;simp only [Value.slice.injEq] at e;obtain ⟨rfl,rfl,rfl⟩:=e;have e1:(if cap=0 then a else a.map (·.add (0 * k)))=a:=by
  split
  ·rfl
  ·cases a <;> simp [Addr.add]
 rw [e1];have e2:h=(xs.take h).length:=by rw [ey];omega
 refine ⟨a,cap,by rw [<- e2],by omega,hc,?_⟩;rcases f with rfl|⟨b,o,c,E,j,rfl,l,hR⟩
 ·left;simp
 ·right;refine ⟨b,o,c,E,j,rfl,l,fun i q=>?_⟩;rw [IU];exact hR i (by omega)
theorem RdSl.from {α:Type} {S:ae} {k:Nat} {R:hZ->α->Prop} {a:Option Addr} {cap n l:Nat} {xs:List α} (f:RdSl S k R (.slice a n cap) xs) (hl:l<=xs.length) :
  RdSl S k R (.slice (if cap=l then a else a.map (·.add (l * k))) (n - l) (cap - l)) (xs.drop l):=by
 obtain ⟨B,g,e,m,hc,f⟩:=f;simp only [Value.slice.injEq] at e;obtain ⟨rfl,rfl,rfl⟩:=e;refine ⟨_,cap - l,by rw [nJ],by rw [nJ];omega,by omega,?_⟩;by_cases hd:xs.drop l=[]
 ·exact .inl hd
 ·rcases f with rfl|⟨b,o,c,E,r,rfl,t,hR⟩
  ·simp at hd
  ·right;have q:l<xs.length:=by
    rcases O6 l xs.length with h|h
    ·exact h
    ·exact absurd (xZ h) hd
   refine ⟨b,o+l * k,c,E,r,?_,t,fun i j=>?_⟩
   ·rw [af (by omega)];simp [Addr.add]
   ·rw [ZM];have:=hR (l+i) (by simp at j;omega)
    rwa [Ej,<- NB] at this
section
variable {P:Program} {w w0:World} {X:List Nat} {L:List Item} {S:ae} {K:Value->World->Prop}
theorem MZ {α:Type} {R:hZ->α->Prop} {xs:List α} {v:Value} {T ty e:TypeId} {k h:Nat} (i:dt P T=some (e,k)) (f:RdSl S k R v xs) (j:h<=xs.length)
  (hk:∀ g,RdSl S k R g (xs.take h)->K g w):Run P (sOp (.slice T (.const v) none (some (.const (ax h))) none) ty) w K:=by
 obtain ⟨a,cap,rfl,hl,hc,l⟩:=id f;exact Jt i (by omega) (hk _ (f.to j))
theorem ju {α:Type} {R:hZ->α->Prop} {xs:List α} {v:Value} {T ty e:TypeId} {k l:Nat} (h:dt P T=some (e,k)) (f:RdSl S k R v xs) (hl:l<=xs.length)
  (hk:∀ g,RdSl S k R g (xs.drop l)->K g w):Run P (sOp (.slice T (.const v) (some (.const (ax l))) none none) ty) w K:=by
 obtain ⟨a,cap,rfl,i,hc,j⟩:=id f;exact RA h hl (hk _ (f.from hl))
end
theorem RdSl.exact {α:Type} {S:ae} {k:Nat} {R:hZ->α->Prop} {v:Value} {ys:List α} (h:RdSl S k R v ys) (hk:∀ cs y,R cs y->cs.length=k) :
  ∃ ds:List {cs:hZ // cs.length=k},RdSl S k (fun cs d=>cs=d.val) v ds/\Rows k R (ds.map (·.val)) ys:=by
 obtain ⟨a,cap,rfl,hl,hc,j⟩:=h;rcases j with rfl|⟨b,o,c,E,l,rfl,m,hR⟩
 ·exact ⟨[],⟨a,cap,rfl,hl,hc,.inl rfl⟩,Rows.nil _ _⟩
 ·refine ⟨List.ofFn fun i:Fin ys.length=>⟨aO c (o+i.val * k) k,hk _ _ (hR i.val i.isLt)⟩,⟨_,cap,by rw [List.length_ofFn],by rw [List.length_ofFn];exact hl,hc,.inr ⟨b,o,c,E,l,rfl,m,fun i q=>by simp⟩⟩,⟨by simp,fun cs f=>?_,fun i g r=>?_⟩⟩
  ·obtain ⟨d,_,rfl⟩:=eV.1 f;exact d.property
  ·simp only [M4,List.getElem_ofFn];exact hR i g
section
variable {P:Program} {w w0:World} {X:List Nat} {L:List Item} {S:ae} {K:Value->World->Prop}
theorem fZ {α:Type} {R:hZ->α->Prop} (h:Inv w0 X L S w) {T ty e:TypeId} {k by_:Nat} {z v u:Value} {cs:List Bool} {css:List (hZ)} {ys:List α} (i:Nat)
  (Z:iP P T=some (e,k,by_,z)) (m:0<k) (M:L[i]?=some (aK v e k css)) (hr:RdSl S k R u ys) (B:∀ cs y,R cs y->cs.length=k) (h1:∀ cs y,R cs y->∀ c∈cs,c.oneCell'=true)
  (a0:css.length+ys.length<=4294967296) (N:by_<=32768) (hk:∀ r w' l,Rows k R l ys->Inv w0 X (L.set i (aK r e k (css++l))) S w'->K r w') :
  Run P (ce .append #[T,T] ty cs [v,u]) w K:=by
 obtain ⟨ds,hd,hR⟩:=hr.exact B;have a4:ds.length=ys.length:=by have:=hR.hc;simpa using this
 have G:∀ d∈ds,∀ c∈d.val,c.oneCell'=true:=by
  intro d q c hc;obtain ⟨j,D,rfl⟩:=zu.1 q;have:=hR.hR j (by omega) (by simpa using D);simp only [M4] at this;exact h1 _ _ this c hc
 obtain ⟨a,cap,rfl,a1,a2,hx⟩:=id hd;have e1:∀ r,Item.row r e k (css.length+ds.length) (css.flatten++(ds.map (·.val)).flatten)=aK r e k (css++ds.map (·.val)):=fun r=>by simp [aK]
 rcases hx with rfl|⟨b,o,c,E,fz,rfl,hS,Y⟩
 ·refine Xp h i Z M (hk v w [] (by simpa using hR) ?_);have:L.set i (aK v e k (css++[]))=L:=by
   obtain ⟨a3,e'⟩:=fS.1 M;rw [dc,<- e',List.set_getElem_self]
  rw [this];exact h
 ·have J:(ds.map (·.val)).flatten.length=ds.length * k:=by
   rw [wt (k:=k) (fun cs f=>by obtain ⟨d,_,rfl⟩:=eV.1 f;exact d.property),nN]
  refine eT h i (ds.map (·.val)).flatten Z m M J ?_ ?_ (by omega) N fun r w' hI=>hk _ _ _ hR ?_
  ·intro j u D;have U:j<ds.length * k:=by
    rw [<- J];exact (fS.1 D).1
   have hq:j / k<ds.length:=(Nat.div_lt_iff_lt_mul m).2 U;have t:=Y (j / k) hq;have g:=jc k (ds.map (·.val)) (j / k) (fun cs f=>by obtain ⟨d,_,rfl⟩:=eV.1 f;exact d.property) (by simpa using hq);have V:=Nat.div_add_mod j k;rw [Nat.mul_comm] at V;rw [h.cellS hS];have e2:(ds.map (·.val)).flatten[j]?=(ds[j / k].val)[j % k]?:=by
    rw [M4] at g;rw [<- g,ym,ai (wG _ m),AW]
    congr 1
    omega
   rw [e2] at D;have:=aA t (j % k) u D;rw [<- this]
   congr 1
   omega
  ·intro u O;obtain ⟨cs,f,O⟩:=List.mem_flatten.1 O;obtain ⟨d,q,rfl⟩:=eV.1 f;exact G d q u O
  ·rw [<- e1];exact hI
end
end
section
open Go Go.RowKit
section
variable {P:Program} {w w0:World} {X:List Nat} {L:List Item} {S:ae} {K:Value->World->Prop}
end
end
section
open Go Go.RowKit

def kK (t u:T):Bool:=decide (t.kind=u.kind) && (decide (t.n=u.n) && (decide (t.name=u.name) && decide (t.kids.length=u.kids.length)))
theorem eM (k n k' n':Int) (s f:ByteArray) (g a:List T):kK (.mk k n s g) (.mk k' n' f a)=(decide (k=k') && (decide (n=n') && (decide (s=f) && decide (g.length=a.length)))):=rfl
theorem R6 {α β:Type} (a:List α) (b:List β):decide (a.length=b.length)=decide ((a.length:Int)=(b.length:Int)):=by
 rw [qt];simp only [bt];omega
theorem aco (t u:T):eqT t u=(kK t u && eqL t.kids u.kids):=by
 obtain ⟨k,n,s,f⟩:=t;obtain ⟨k',n',g,a⟩:=u;rw [eqT,eM];by_cases h:f.length=a.length
 ·rw [aL h,Bool.and_true,Zo,Zo];rfl
 ·rw [WH h,aS h];simp
theorem rN:∀ (t u:T) (S:ae) (cs ds:hZ),RdT S cs t->RdT S ds u->ll NH [.agg cs.toArray,.agg ds.toArray] S (.bool (eqT t u)):=by
 refine T.ind fun k n s l ih u S cs ds h h'=>?_;intro w a;obtain ⟨kv,rfl,_,_,_,o⟩:=RdT.iff.1 h;obtain ⟨N,rfl,_,_,_,r⟩:=RdT.iff.1 h';obtain ⟨k',n',O,g⟩:=u;simp only [T.name,T.kids,T.kind,T.n] at o r ⊢;have a6:=o.le;simp only [maxLen] at a6;apply yP.2;dsimp only[yP,bl];refine bq a fun Y w' a=>?_;refine bq a fun Z w' a=>?_;have a:Inv w [] [ay Y #[ax k,ax n,.string s,kv] ab,ay Z #[ax k',ax n',.string O,N] ab] S w':=a;refine ⟨fun q w'=>q=.bool (!kK (.mk k n s l) (.mk k' n' O g))/\Inv w [] [ay Y #[ax k,ax n,.string s,kv] ab,ay Z #[ax k',ax n',.string O,N] ab] S w',?_,?_⟩
 ·refine ad a 0 rfl aM aw rfl (ad a 1 rfl aM aw rfl (dw ?_));by_cases e1:k=k'
  ·rw [aL e1];refine rpG ?_;refine ad a 0 rfl aQ aw rfl (ad a 1 rfl aQ aw rfl (dw ?_));by_cases e2:n=n'
   ·rw [aL e2];refine rpG ?_;refine ad a 0 rfl aW aP rfl (ad a 1 rfl aW aP rfl (Ea ?_));by_cases e3:s=O
    ·rw [aL e3];refine rpG ?_;refine ad a 0 rfl ao aj rfl (aI o ag (ad a 1 rfl ao aj rfl (aI r ag (dw ?_))));refine rpG ?_;exact ⟨by rw [eM,aL e1,aL e2,aL e3,R6];rfl,a⟩
    ·rw [aS e3];refine rpG ?_;exact ⟨by rw [eM,aL e1,aL e2,aS e3];rfl,a⟩
   ·rw [aS e2];refine rpG ?_;exact ⟨by rw [eM,aL e1,aS e2];rfl,a⟩
  ·rw [aS e1];refine rpG ?_;exact ⟨by rw [eM,aS e1];rfl,a⟩

 intro q;(iterate 27 intro);intro w';rintro ⟨rfl,a⟩;rw [aco];cases hd:kK (.mk k n s l) (.mk k' n' O g)
 ·refine aE (fun _=>done a rfl) (fun hb=>by cases hb)
 refine aE (fun hb=>by cases hb) (fun _=>?_);have b0:l.length=g.length:=by
  rw [eM] at hd;simp only [aZ,bt] at hd;exact hd.2.2.2
 simp only [T.kids,dz];refine ⟨fun i w'=>∃ j:Nat,j<=l.length/\i=ax j/\eqL (l.drop j) (g.drop j)=eqL l g/\Inv w [] [ay Y #[ax k,ax n,.string s,kv] ab,ay Z #[ax k',ax n',.string O,N] ab] S w',fun i _=>l.length - (intOf i).toNat,⟨0,bf _,rfl,rfl,a⟩,?_⟩;intro t5;(iterate 20 intro);intro w';rintro ⟨j,hj,rfl,m,a⟩;refine ad a 0 rfl ao aj rfl (aI o ag (bM (aJ (fun a7=>?_) (fun a7=>?_))))
 ·have B:j<l.length:=by omega
  have U:j<g.length:=by omega
  obtain ⟨c1,o1,J,a1,E1,b3,rfl,a8,a4⟩:=o.at_ B;obtain ⟨c2,o2,M,a2,E2,b4,rfl,a9,a5⟩:=r.at_ U;have G:eqL (l.drop j) (g.drop j)=(eqT l[j] g[j] && eqL (l.drop (j+1)) (g.drop (j+1))):=by
   rw [dB B,dB U,eqL]
  refine ⟨fun D nh s6 tV rf qp lL oF nz pD mn nj lS w_=>Fx D 0 [lS=eu Y 3,nj=eF c1 o1 l.length J,mn=ax j,pD=eu c1 (o1+j * 4),nz=.agg (aO a1 (o1+j * 4) 4).toArray,oF=eu Z 3,lL=eF c2 o2 g.length M,qp=ax j,rf=eu c2 (o2+j * 4),tV=.agg (aO a2 (o2+j * 4) 4).toArray,s6=.bool (eqT l[j] g[j]),nh=.bool (!eqT l[j] g[j])]/\Inv w [] [ay Y #[ax k,ax n,.string s,eF c1 o1 l.length J] ab,ay Z #[ax k',ax n',.string O,eF c2 o2 g.length M] ab] S w_,⟨Fx.nil _ _,a.draw⟩,⟨?_,?_,?_,?_,?_,?_,?_,?_,?_,?_,?_,?_,trivial⟩,?_⟩;all_goals (intro D bw;intros;rename_i nh s6 tV rf qp lL oF nz pD mn nj lS w_ V;have f:=V.1;obtain ⟨⟨co,cn,bP,cj,cA,bQ,bO,cM,de,dv,bU,cC,_⟩,a⟩:=V)
  apply ah ao;rotate_left
  obtain rfl:=co ‹_›;apply aD a 0 aj rfl rfl;rotate_left;rotate_left
  obtain rfl:=cn ‹_›;obtain rfl:=bP ‹_›;apply az ag B;rotate_left
  obtain rfl:=cj ‹_›;refine bV ac a4.length (fun j v hj=>by rw [a.cellS a8];exact aA rfl j v hj) ?_;rotate_left
  apply ah ao;rotate_left
  obtain rfl:=bQ ‹_›;apply aD a 1 aj rfl rfl;rotate_left;rotate_left
  obtain rfl:=bO ‹_›;obtain rfl:=cM ‹_›;apply az ag U;rotate_left
  obtain rfl:=de ‹_›;refine bV ac a5.length (fun j v hj=>by rw [a.cellS a9];exact aA rfl j v hj) ?_;rotate_left
  obtain rfl:=cA ‹_›;obtain rfl:=dv ‹_›;refine Run.callPure qU qJ a (ih _ (bJ B) _ S _ _ a4 a5) fun w_ a=>?_;rotate_left
  obtain rfl:=bU ‹_›;apply cq;rotate_left
  all_goals try exact ⟨f.set _ (by first|rfl|assumption|trivial),a⟩
  obtain ⟨rfl,rfl,rfl,rfl,rfl,rfl,rfl,rfl,rfl,rfl,rfl,rfl,_⟩:=f.all;clear f co cn bP cj cA bQ bO cM de dv bU cC;refine aE (fun a0=>?_) (fun a3=>?_)
  ·exact done a (by rw [<- m,G];simp at a0;rw [a0];rfl)
  ·refine bA (by omega) ?_;refine ⟨⟨j+1,B,rfl,?_,a⟩,by simp [intOf];omega⟩;rw [<- m,G];simp at a3;rw [a3,dz]
 ·have:j=l.length:=by omega
  subst this;refine done a ?_;rw [<- m,dY,b0,dY];rfl
end
section
open Go Go.RowKit

theorem OD {xs:List T} (O:∀ t∈xs,∀ (u:T) (S:ae) (cs ds:hZ),RdT S cs t->RdT S ds u->ll s7 [.agg cs.toArray,.agg ds.toArray] S (.bool (eqT t u)))
  {ys:List T} {S:ae} {v u:Value} (h:RdSl S 4 (RdT S) v xs) (M:RdSl S 4 (RdT S) u ys):ll zw [v,u,.func (.func s7) #[] #[]] S (.bool (eqL xs ys)):=by
 intro w a;have N:(xs.length:Int)<=9223372036854775807:=by have:=h.le;simp only [maxLen] at this;omega
 apply nK.2;dsimp only[nK,dR];refine aI h ag (aI M ag (dw (aE (fun j=>?_) (fun G=>?_))))
 ·exact done a (by rw [WH (by simp at j;omega)])
 have G:xs.length=ys.length:=by simp at G;omega
 apply aI h ag;refine ⟨fun i w'=>∃ (k:Nat),k<=xs.length/\i=ax k/\eqL (xs.drop k) (ys.drop k)=eqL xs ys/\Inv w [] [] S w',fun i _=>xs.length - (intOf i).toNat,⟨0,bf _,rfl,rfl,a⟩,?_⟩;intro U;(iterate 18 intro);intro w';rintro ⟨k,hk,rfl,f,a⟩;refine bM (aJ (fun J=>?_) (fun J=>?_))
 ·have l:k<xs.length:=by omega
  have r:k<ys.length:=by omega
  have g:eqL (xs.drop k) (ys.drop k)=(eqT xs[k] ys[k] && eqL (xs.drop (k+1)) (ys.drop (k+1))):=by
   rw [dB l,dB r,eqL]
  refine cL a h ag ac l (fun _ _=>RdT.length) fun cs m=>?_;have B:=m.length;refine aG a aV fun V w' a=>?_;refine aq a 0 rfl ac (by simpa using B) rfl (by simpa using m.one) fun w' a=>?_;refine cL a M ag ac r (fun _ _=>RdT.length) fun ds o=>?_;have D:=o.length;refine aG a aV fun Y w' a=>?_;refine aq a 1 rfl ac (by simpa using D) rfl (by simpa using o.one) fun w' a=>?_;refine av a 0 ac rfl (by simpa using B) (av a 1 ac rfl (by simpa using D) (Run.callPure qK qP a (O _ (bJ l) _ S _ _ m o) fun w' a=>?_));refine cq (aE (fun j=>?_) (fun q=>?_))
  ·exact done a (by rw [<- f,g];simp at j;rw [j];rfl)
  ·refine bA (by omega) ?_;refine ⟨⟨k+1,l,rfl,?_,a.nil⟩,by simp [intOf];omega⟩;rw [<- f,g];simp at q;rw [q,dz]
 ·have:k=xs.length:=by omega
  subst this;refine done a ?_;rw [<- f,dY,G,dY];rfl
theorem rD:∀ (t u:T) (S:ae) (cs ds:hZ),RdT S cs t->RdT S ds u->ll s7 [.agg cs.toArray,.agg ds.toArray] S (.bool (eqT t u)):=by
 refine T.ind fun k n s r j u S cs ds h l=>?_;intro w a;obtain ⟨kv,rfl,_,_,_,g⟩:=RdT.iff.1 h;obtain ⟨m,rfl,_,_,_,f⟩:=RdT.iff.1 l;obtain ⟨k',n',o,q⟩:=u;simp only [T.name,T.kids,T.kind,T.n] at g f ⊢;apply yS.2;dsimp only[yS,bl];refine bq a fun B w' a=>?_;refine bq a fun D w' a=>?_;refine ad a 0 rfl aM aw rfl (ad a 1 rfl aM aw rfl (bn ?_));by_cases e1:k=k'
 ·rw [aL e1];refine rpG ?_;refine ad a 0 rfl aQ aw rfl (ad a 1 rfl aQ aw rfl (bn ?_));by_cases e2:n=n'
  ·rw [aL e2];refine rpG ?_;refine ad a 0 rfl aW aP rfl (ad a 1 rfl aW aP rfl (bB ?_));by_cases i:s=o
   ·rw [aL i];refine rpG ?_;refine ad a 0 rfl ao aj rfl (ad a 1 rfl ao aj rfl (Run.callPure xF xI a (OD j g f) fun w' a=>?_));refine rpG ?_;exact done a (by rw [eqT,aL e1,aL e2,aL i];rfl)
   ·rw [aS i];refine rpG ?_;exact done a (by rw [eqT,aL e1,aL e2,aS i];rfl)
  ·rw [aS e2];refine rpG ?_;exact done a (by rw [eqT,aL e1,aS e2];rfl)
 ·rw [aS e1];refine rpG ?_;exact done a (by rw [eqT,aS e1];rfl)
end
section
open Go Go.RowKit

theorem uN {n:Int}:∀ (l:List MapEntry) (i:Nat),(∀ e∈l,∃ m,e.key=ax m)->
  (∃ j,∃ e∈l,e.key=ax n/\Instr.findNow (.int .i64) (ax n) l i=some (some (j,e.val))) ∨ ((∀ e∈l,e.key≠.int .i64 n)/\Instr.findNow (.int .i64) (ax n) l i=some none)
 | [],i,_=>.inr ⟨by simp,rfl⟩
 | e::l,i,h=>by
  obtain ⟨m,o⟩:=h e (bi ..);have q:Instr.sameNow (.int .i64) (ax n) e.key=some (n == m):=by rw [o];rfl
  by_cases a:n=m
  ·refine .inl ⟨i,e,bi ..,by rw [o,a],?_⟩;have:(n == m)=true:=by simpa using a
   rw [Instr.findNow,q,this]
  ·have t:(n == m)=false:=by simpa using a
   rcases uN l (i+1) (fun e B=>h e (bk _ B)) with ⟨j,f,r,hk,hf⟩|⟨hk,hf⟩
   ·exact .inl ⟨j,f,bk _ r,hk,by rw [Instr.findNow,q,t];exact hf⟩
   ·refine .inr ⟨fun x g=>?_,by rw [Instr.findNow,q,t];exact hf⟩;rcases cw.1 g with rfl|g
    ·rw [o];intro f;simp only [Value.int.injEq,vH] at f;exact a f.symm
    ·exact hk x g
section
variable {P:Program} {w w0:World} {X:List Nat} {L:List Item} {S:ae} {K:Value->World->Prop}
theorem jF {f:TypeId} {d:TypeDesc} {k:Value} {l:List MapEntry} {a:Option (Nat × Value)} (hd:P.underlying f=some d) (h:Instr.findNow d k l 0=some a):(Instr.findKey f k l).run P w=.ok a w:=by
 simp [Instr.findKey,run_underlying hd,Result.andThen,h]
theorem D8 (h:Inv w0 X L S w) {T ty:TypeId} (hk:∀ b w',Inv w0 X (L++[.blk b (.map #[] 0)]) S w'->K (.map (some b)) w'):Run P (sOp (.makeMap T none) ty) w K:=by
 refine Run.of (v:=.map (some w.heap.size)) (w':={ w with heap:=w.heap.push (.map #[] 0) }) ?_ (hk _ _ (h.alloc _));simp [sOp,execOp,Instr.makeMap,newObj,Sem.run]
theorem QK (h:Inv w0 X L S w) {T B o ty:TypeId} {b a:Nat} {q:Array MapEntry} {n:Int} {z v:Value} {ok:Bool} (i:Nat) (M:P.underlying T=some (.map B o)) (l:P.underlying B=some (.int .i64))
  (r:fY P o=some z) (O:L[i]?=some (.blk b (.map q a)))
  (hf:(∃ j,Instr.findNow (.int .i64) (ax n) q.toList 0=some (some (j,v))/\ok=true) ∨ (Instr.findNow (.int .i64) (ax n) q.toList 0=some none/\v=z/\ok=false))
  (hk:K (.tuple #[v,.bool ok]) w):Run P (sOp (.lookup T (.const (.map (some b))) (.const (ax n)) true) ty) w K:=by
 have U:w.heap[b]?=some (.map q a):=h.its _ (cJ O);have t:∀ e,(Instr.checkKey e 10000 B (ax n)).run P w=.ok () w:=fun e=>by
  rw [show (10000:Nat)=9999+1 from rfl,Instr.checkKey];simp [run_underlying l]
 obtain ⟨f,D,G⟩:∃ f,P.info? o=some f/\f.zero=some z:=by
  unfold fY at r;cases g:P.info? o with
  | none=>rw [g] at r;simp at r
  | some f=>rw [g] at r;exact ⟨f,rfl,by simpa using r⟩
 have J:(zeroValue o).run P w=.ok z w:=by simp [zeroValue,typeInfo,D,G]
 refine Run.of ?_ hk;have N:(getObj b).run P w=.ok (.map q a) w:=by simp [getObj,Sem.run,U]
 rcases hf with ⟨j,hf,rfl⟩|⟨hf,rfl,rfl⟩
 ·have m:=jF (P:=P) (w:=w) l hf;simp [sOp,execOp,ev0,evE,Instr.lookup,run_underlying M,N,t,m]
 ·have m:=jF (P:=P) (w:=w) l hf;simp [sOp,execOp,ev0,evE,Instr.lookup,run_underlying M,N,t,m,J]
theorem Km (h:Inv w0 X L S w) {T j t ty:TypeId} {b a:Nat} {f:Array MapEntry} {n:Int} {v:Value} (i:Nat) (B:P.underlying T=some (.map j t)) (g:P.underlying j=some (.int .i64))
  (q:L[i]?=some (.blk b (.map f a))) (hf:Instr.findNow (.int .i64) (ax n) f.toList 0=some none)
  (hk:∀ w',Inv w0 X (L.set i (.blk b (.map (f.push { key:=ax n,val:=v,born:=a }) (a+1)))) S w'->K undef w') :
  Run P (sOp (.mapUpdate T (.const (.map (some b))) (.const (ax n)) (.const v)) ty) w K:=by
 have r:w.heap[b]?=some (.map f a):=h.its _ (cJ q);have l:∀ e,(Instr.checkKey e 10000 j (ax n)).run P w=.ok () w:=fun e=>by
  rw [show (10000:Nat)=9999+1 from rfl,Instr.checkKey];simp [run_underlying g]
 have D:(getObj b).run P w=.ok (.map f a) w:=by simp [getObj,Sem.run,r]
 have m:=jF (P:=P) (w:=w) g hf;refine Run.ofSkip (w':={ w with heap:=w.heap.setIfInBounds b (.map (f.push { key:=ax n,val:=v,born:=a }) (a+1)) }) ?_ (hk _ (h.setBlk q _ rfl));have o:(setObj b (.map (f.push { key:=ax n,val:=v,born:=a }) (a+1))).run P w=.ok () { w with heap:=w.heap.setIfInBounds b (.map (f.push { key:=ax n,val:=v,born:=a }) (a+1)) }:=by simp [setObj,Sem.run,r]
 simp [sOp,execOp,ev0,evE,Instr.mapUpdate,run_underlying B,D,l,m,o]
end
end
end Go.Proofs.YtellfcpffcipcaaGreatDoor

/- spec: shifted terms and clauses. -/
import Derived.Test.YtgllldjiaglkcaaGreatDoorZUf5
namespace Go.Proofs.YtgllldjiaglkcaaGreatDoor
section
open Go Go.RowKit
mutual
def bp (m:Int):T->T
 | .mk k n s ks=>.mk k (if k=1 then n+m else n) s (dM m ks)
def dM (m:Int):List T->List T
 | []=>[]
 | t::ts=>bp m t::dM m ts
end
theorem eU (m:Int):∀ ts:List T,dM m ts=ts.map (bp m)
 | []=>rfl
 | t::ts=>by rw [dM,eU m ts]; rfl
theorem ur (m:Int) (ks:List T) (j:Nat) (h:j<ks.length):dM m (ks.take (j+1))=dM m (ks.take j)++[bp m ks[j]]:=by
 rw [eU,eU,eV h,BD]; rfl
def Vp (m:Int) (c:C):C:=⟨bp m c.head,dM m c.body⟩
section
attribute [local irreducible] Run CondV aq aK
theorem wd {N:Nat} (hN:N<=1000000) (m:Int) (b7:0<=m) (b9:m<=1000000):∀ (t:T) (S:ae) (cs:List Value),RdT S cs t->okU N t->wT t<=1048576->Tri Tryz.prog NE [.agg cs.toArray,.int .i64 m] [] S (CP S (bp m t)):=by
 refine T.ind fun k n s ks ih S cs h a1 hw=>?_;intro w a;obtain ⟨kv,rfl,h1,h2,hs,a3⟩:=RdT.iff.1 h;simp only [T.name,T.kids,T.kind,T.n] at h1 h2 hs a3 ⊢;simp only [wT] at hw;rw [okU] at a1;obtain ⟨_,a2,a1,_⟩:=a1;obtain ⟨g,G⟩:∃ g,g=if k=1 then n+m else n:=⟨_,rfl⟩
 have b4:inI g:=by
  rw [G];split
  ·have:=a2 (by assumption);simp only [inI];omega
  ·exact h2
 refine z7.2 ?_;dsimp only[z7,bm];refine bJ a fun b1 w' a=>?_;refine aQ a bj fun b2 w' a=>?_;refine af a 0 rfl aW aG rfl ?_;refine af a 0 rfl bi aG rfl ?_;refine af a 0 rfl bl be rfl ?_;refine jd ?_;refine aQ a bj fun b3 w' a=>?_;refine au a 2 rfl ad rfl rfl (by simp [Value.oneCell']) fun w' a=>?_;have a:Inv w [] [.blk b1 (.cells #[.int .i64 k,.int .i64 n,.string s,kv] ab),.blk b2 (.cells #[.int .i64 0,.int .i64 0,.string ⟨#[]⟩,.slice none 0 0] ab),.blk b3 (.cells #[.int .i64 k,.int .i64 n,.string s,.slice none 0 0] ab)] S w':=a;refine ⟨fun w'=>Inv w [] [.blk b1 (.cells #[.int .i64 k,.int .i64 n,.string s,kv] ab),.blk b2 (.cells #[.int .i64 0,.int .i64 0,.string ⟨#[]⟩,.slice none 0 0] ab),.blk b3 (.cells #[.int .i64 k,.int .i64 g,.string s,.slice none 0 0] ab)] S w',?_,?_⟩
 ·refine af a 0 rfl aW aG rfl ?_;refine bw ?_;refine aL (fun he=>?_) (fun he=>?_)
  ·have hv:=a2 he;refine af a 0 rfl bi aG rfl ?_;refine bC (by omega) ?_;rw [ai he] at G;rw [G];exact dj a 2 rfl bi aG rfl rfl rfl fun w' a=>a
  ·rw [ag he] at G;rw [G];exact a
 intro _ _ _ _ _ _ _ _ w' a;have a:=a.rowNil ab 4;refine ⟨fun i w'=>∃ (j:Nat) (q:Value) (Ls:List bh) (css:List (List Value)),j<=ks.length/\i=.int .i64 j/\Grown 4 TrT Ls css (dM m (ks.take j))/\
   Inv w [] (.blk b1 (.cells #[.int .i64 k,.int .i64 n,.string s,kv] ab)::.blk b2 (.cells #[.int .i64 0,.int .i64 0,.string ⟨#[]⟩,.slice none 0 0] ab)::.blk b3 (.cells #[.int .i64 k,.int .i64 g,.string s,q] ab)::aA q ab 4 css::aV Ls.flatten) S w',
  fun i _=>ks.length - (intOf i).toNat,⟨0,_,[],[],bk _,rfl,Grown.nil _ _,a⟩,?_⟩
 intro t7 _ _ _ _ _ _ _ _ _ _ _ _ _ _ _ _ _ _ _ w';rintro ⟨j,q,Ls,css,hj,rfl,hg,a⟩;refine af a 0 rfl ar al rfl ?_;refine aJ a3 ah ?_;refine bS ?_;refine aL (fun a9=>?_) (fun a9=>?_)
 ·have a0:j<ks.length:=by omega
  have c0:(ks.take j).length=j:=by simp; omega
  have b5:=hg.hc;rw [eU,jO] at b5;have hm:=bG a0;have c1:=iJ hm;obtain ⟨b,o,cap,c,E,fz,rfl,hS,hR⟩:=a3.at_ a0;refine ⟨fun D xC oJ qd vj sy sr Ab AE CS sA ir ji w_=>Fx D 0 [ji=.pointer (some ⟨b3,3,none⟩),ir=q,sA=.pointer (some ⟨b1,3,none⟩),CS=.slice (some ⟨b,o,none⟩) ks.length cap,AE=.int .i64 j,Ab=.pointer (some ⟨b,o+j * 4,none⟩),sr=.agg (aX c (o+j * 4) 4).toArray,sy=.int .i64 m,True,True,True,xC=.pointer (some ⟨b3,3,none⟩),True]/\∃ M f B,(D 8=true->vj=.agg f.toArray/\TrT M f (bp m ks[j]))/\(D 9=true->qd=.slice (some ⟨B,0,none⟩) 1 1)/\(D 9=true->D 8=true)/\(D 10=true->D 9=true)/\(D 12=true->D 10=true)/\(D 12=true->D 1=true)/\Inv w [] (aP (.blk b1 (.cells #[.int .i64 k,.int .i64 n,.string s,.slice (some ⟨b,o,none⟩) ks.length cap] ab)) (.blk b2 (.cells #[.int .i64 0,.int .i64 0,.string ⟨#[]⟩,.slice none 0 0] ab)) (.blk b3 (.cells #[.int .i64 k,.int .i64 g,.string s,q] ab)) (.blk b3 (.cells #[.int .i64 k,.int .i64 g,.string s,oJ] ab)) (aA q ab 4 css) (aA oJ ab 4 (css++[f])) (aV Ls.flatten) M (.blk B (.cells f.toArray ab)) (D 8) (D 9) (D 10) (D 12)) S w_,⟨Fx.nil _ _,⟨[],[],0,aI,aI,aI,aI,aI,aI,by simpa [aP,aV] using a.draw⟩⟩,⟨?_,?_,?_,?_,?_,?_,?_,?_,?_,?_,?_,?_,?_,trivial⟩,?_⟩;all_goals (intro D bH; intros; rename_i xC oJ qd vj sy sr Ab AE CS sA ir ji w_ a5; have r:=a5.1; obtain ⟨⟨cI,cJ,cH,cD,cL,cN,cq,dg,dG,dL,cT,dn,dN,_⟩,⟨M,f,B,O,Z,V,U,l,Y,a⟩⟩:=a5)
  ·refine aw ar ?_;exact ⟨r.set 0 rfl,⟨M,f,B,O,Z,V,U,l,Y,a⟩⟩
  ·obtain rfl:=cI ‹_›;have J:D 12=false:=bx.2 fun h=>by rw [Y h] at bH; cases bH
   refine aT (b:=b3) a 2 (c:=(#[.int .i64 k,.int .i64 g,.string s,q])) al (by rw [J]; rfl) rfl ?_;have Y:=fun (_:ao D 1 12=true)=>(rfl:ao D 1 1=true)
   exact ⟨r.set 1 rfl,⟨M,f,B,O,Z,V,U,l,Y,a⟩⟩
  ·refine aw ar ?_;exact ⟨r.set 2 rfl,⟨M,f,B,O,Z,V,U,l,Y,a⟩⟩
  ·obtain rfl:=cH ‹_›;refine aT a 0 al rfl rfl ?_;exact ⟨r.set 3 rfl,⟨M,f,B,O,Z,V,U,l,Y,a⟩⟩
  ·exact ⟨r.set 4 rfl,⟨M,f,B,O,Z,V,U,l,Y,a⟩⟩
  ·obtain rfl:=cD ‹_›;obtain rfl:=cL ‹_›;refine az ah a0 ?_;exact ⟨r.set 5 rfl,⟨M,f,B,O,Z,V,U,l,Y,a⟩⟩
  ·obtain rfl:=cN ‹_›;refine ci ad hR.length (fun j v hj=>by rw [a.cellS hS]; exact aF rfl j v hj) ?_;exact ⟨r.set 6 rfl,⟨M,f,B,O,Z,V,U,l,Y,a⟩⟩
  ·exact ⟨r.set 7 rfl,⟨M,f,B,O,Z,V,U,l,Y,a⟩⟩
  ·obtain rfl:=cq ‹_›;obtain rfl:=dg ‹_›;have f8:D 9=false:=bx.2 fun h=>by rw [V h] at bH; cases bH
   have f9:D 10=false:=bx.2 fun h=>by rw [U h] at f8; cases f8
   have J:D 12=false:=bx.2 fun h=>by rw [l h] at f9; cases f9
   rw [bH,f8,f9,J] at a;refine Run.call0 qs qr a (ih _ (bG a0) S _ hR (fM a1 _ (bG a0)) (by omega)) fun v' I' S w_=>?_;rintro ⟨rfl,f,M,rfl,rfl,hT⟩ _ a;have O:ao D 8 8=true->Value.agg f.toArray=Value.agg f.toArray/\TrT M f (bp m ks[j]):=fun _=>⟨rfl,hT⟩
   have V:=fun (_:ao D 8 9=true)=>(rfl:ao D 8 8=true)
   have a:Inv w [] (aP (.blk b1 (.cells #[.int .i64 k,.int .i64 n,.string s,.slice (some ⟨b,o,none⟩) ks.length cap] ab)) (.blk b2 (.cells #[.int .i64 0,.int .i64 0,.string ⟨#[]⟩,.slice none 0 0] ab)) (.blk b3 (.cells #[.int .i64 k,.int .i64 g,.string s,q] ab)) (.blk b3 (.cells #[.int .i64 k,.int .i64 g,.string s,oJ] ab)) (aA q ab 4 css) (aA oJ ab 4 (css++[f])) (aV Ls.flatten) M (.blk B (.cells f.toArray ab)) true (D 9) (D 10) (D 12)) S w_:=by
    rw [f8,f9,J];simpa [aP] using a
   exact ⟨r.set 8 (by first|assumption|trivial),⟨M,f,B,O,Z,V,U,l,Y,a⟩⟩
  ·have DH:=dG ‹_›;have f9:D 10=false:=bx.2 fun h=>by rw [U h] at bH; cases bH
   have J:D 12=false:=bx.2 fun h=>by rw [l h] at f9; cases f9
   obtain ⟨q7,hT⟩:=O ‹D 8=true›;subst q7;rw [‹D 8=true›,bH,f9,J] at a;refine dB a bn (by simp [Value.cells,hT.length]) (by omega) (by omega) fun B w_ a=>?_;have O:ao D 9 8=true->Value.agg f.toArray=Value.agg f.toArray/\TrT M f (bp m ks[j]):=fun _=>⟨rfl,hT⟩
   have Z:=fun (_:ao D 9 9=true)=>(rfl:Value.slice (some ⟨B,0,none⟩) 1 1=_)
   have V:=fun (_:ao D 9 9=true)=>‹D 8=true›;have U:=fun (_:ao D 9 10=true)=>(rfl:ao D 9 9=true)
   have a:Inv w [] (aP (.blk b1 (.cells #[.int .i64 k,.int .i64 n,.string s,.slice (some ⟨b,o,none⟩) ks.length cap] ab)) (.blk b2 (.cells #[.int .i64 0,.int .i64 0,.string ⟨#[]⟩,.slice none 0 0] ab)) (.blk b3 (.cells #[.int .i64 k,.int .i64 g,.string s,q] ab)) (.blk b3 (.cells #[.int .i64 k,.int .i64 g,.string s,oJ] ab)) (aA q ab 4 css) (aA oJ ab 4 (css++[f])) (aV Ls.flatten) M (.blk B (.cells f.toArray ab)) (D 8) true (D 10) (D 12)) S w_:=by
    rw [‹D 8=true›,f9,J];simpa [aP,Value.cells] using a
   exact ⟨r.set 9 (by first|assumption|trivial),⟨M,f,B,O,Z,V,U,l,Y,a⟩⟩
  ·obtain rfl:=cJ ‹_›;have Eb:=dL ‹_›;have J:D 12=false:=bx.2 fun h=>by rw [l h] at bH; cases bH
   have q8:=Z ‹D 9=true›;subst q8;obtain ⟨_,hT⟩:=O ‹D 8=true›;rw [‹D 8=true›,‹D 9=true›,bH,J] at a;have a6:((aP (.blk b1 (.cells #[.int .i64 k,.int .i64 n,.string s,.slice (some ⟨b,o,none⟩) ks.length cap] ab)) (.blk b2 (.cells #[.int .i64 0,.int .i64 0,.string ⟨#[]⟩,.slice none 0 0] ab)) (.blk b3 (.cells #[.int .i64 k,.int .i64 g,.string s,ir] ab)) (.blk b3 (.cells #[.int .i64 k,.int .i64 g,.string s,oJ] ab)) (aA ir ab 4 css) (aA oJ ab 4 (css++[f])) (aV Ls.flatten) M (.blk B (.cells f.toArray ab)) true true false false))[4+(aV Ls.flatten).length+(aV M).length]?=some (.blk B (.cells f.toArray ab)):=by
    have e4:4+(aV Ls.flatten).length+(aV M).length=((aV Ls.flatten).length+(aV M).length)+1+1+1+1:=by omega
    rw [e4];simp only [aP,kO];rw [gG (by omega),mO,gG (aS _),ey]; rfl
   refine dE a 3 f bn (by omega) rfl (by rw [hT.length]) (m:=1) (o:=0) ?_ hT.one (by omega) (by omega) fun v' w_ a=>?_
   ·intro i u hi;rw [a.cellL a6,cP];simpa using hi
   rw [eE] at a;have U:=fun (_:ao D 10 10=true)=>‹D 9=true›;have l:=fun (_:ao D 10 12=true)=>(rfl:ao D 10 10=true)
   have a:Inv w [] (aP (.blk b1 (.cells #[.int .i64 k,.int .i64 n,.string s,.slice (some ⟨b,o,none⟩) ks.length cap] ab)) (.blk b2 (.cells #[.int .i64 0,.int .i64 0,.string ⟨#[]⟩,.slice none 0 0] ab)) (.blk b3 (.cells #[.int .i64 k,.int .i64 g,.string s,ir] ab)) (.blk b3 (.cells #[.int .i64 k,.int .i64 g,.string s,v'] ab)) (aA ir ab 4 css) (aA v' ab 4 (css++[f])) (aV Ls.flatten) M (.blk B (.cells f.toArray ab)) (D 8) (D 9) true (D 12)) S w_:=by
    rw [‹D 8=true›,‹D 9=true›,J];exact a
   exact ⟨r.set 10 (by first|assumption|trivial),⟨M,f,B,O,Z,V,U,l,Y,a⟩⟩
  ·refine aw ar ?_;exact ⟨r.set 11 rfl,⟨M,f,B,O,Z,V,U,l,Y,a⟩⟩
  ·obtain rfl:=dn ‹_›;have AB:=cT ‹_›;rw [‹D 8=true›,‹D 9=true›,‹D 10=true›,bH] at a;obtain ⟨va,vn,vc,a4⟩:=Inv.rowSlice a 3 rfl;refine dy a 2 (n:=1) (by rw [a4]; rfl) (by decide +kernel) rfl (by simp) (by rw [a4]; simp [Value.cells,Value.oneCell']) fun w_ a=>?_;have a7:Value.cells oJ=#[oJ]:=by rw [a4]; rfl
   rw [a7] at a;have Y:=fun (_:ao D 12 12=true)=>‹D 1=true›;have l:=fun (_:ao D 12 12=true)=>‹D 10=true›;have a:Inv w [] (aP (.blk b1 (.cells #[.int .i64 k,.int .i64 n,.string s,.slice (some ⟨b,o,none⟩) ks.length cap] ab)) (.blk b2 (.cells #[.int .i64 0,.int .i64 0,.string ⟨#[]⟩,.slice none 0 0] ab)) (.blk b3 (.cells #[.int .i64 k,.int .i64 g,.string s,q] ab)) (.blk b3 (.cells #[.int .i64 k,.int .i64 g,.string s,oJ] ab)) (aA q ab 4 css) (aA oJ ab 4 (css++[f])) (aV Ls.flatten) M (.blk B (.cells f.toArray ab)) (D 8) (D 9) (D 10) true) S w_:=by
    rw [‹D 8=true›,‹D 9=true›,‹D 10=true›];exact a
   exact ⟨r.set 12 trivial,⟨M,f,B,O,Z,V,U,l,Y,a⟩⟩
  obtain ⟨rfl,rfl,rfl,rfl,rfl,rfl,rfl,rfl,DH,Eb,AB,rfl,_,_⟩:=r.all;have FO:D 8=true:=by assumption
  have OK:D 9=true:=by assumption
  have Dy:D 10=true:=by assumption
  have UD:D 12=true:=by assumption
  clear r cI cJ cH cD cL cN cq dg dG dL cT dn dN;obtain ⟨_,hT⟩:=O FO;rw [FO,OK,Dy,UD] at a;refine bC (by omega) ?_;refine ⟨⟨j+1,oJ,Ls++[M],css++[f],a0,rfl,?_,?_⟩,by simp [intOf]; omega⟩
  ·rw [ur m ks j a0];exact hg.snoc hT hT.length
  ·simp only [mG,fh,k0,bV,cK];refine a.sub ?_;simp only [aP];rw [<- dx];exact (((dt _ _).cons_cons _).cons_cons _).cons_cons _ |>.cons_cons _
 ·have:j=ks.length:=by omega
  subst this;rw [d4] at hg;obtain ⟨va,vn,vc,b0⟩:=a.rowSlice 3 rfl;have b6:q.oneCell'=true:=by rw [b0]; rfl
  refine aC a 2 ad rfl rfl ?_;refine au a 1 rfl ad rfl rfl ?_ fun w' a=>?_
  ·intro u hu;have a8:u∈([.int .i64 k,.int .i64 g,.string s,q]:List Value):=hu;simp at a8;rcases a8 with rfl|rfl|rfl|rfl <;> first|rfl|exact b6
  refine bB a 1 ad rfl rfl ?_;have a:Inv w [] ([]++(aA q ab 4 css::aV Ls.flatten)) S w':=a.sub (dH [_,_,_] _);obtain ⟨L,hT,a⟩:=Inv.rowTree a hg;exact ⟨_,_,_,rfl,a,Ext.refl _ _ _,rfl,_,L,rfl,rfl,TrT.iff.2 ⟨q,by rw [bp,<- G]; rfl,by rw [bp]; exact h1,by rw [bp,<- G]; exact b4,by rw [bp]; exact hs,by rw [bp]; exact hT⟩⟩
theorem Gm {Nv:Nat} (hN:Nv<=1000000) (m:Int) (a5:0<=m) (a6:m<=1000000) {g:C} {S:ae} {cs:List Value} (h:RdC S cs g) (b0:okU Nv g.head) (b4:∀ t∈g.body,okU Nv t) (hw:wC g<=1048576) :
  Tri Tryz.prog LX [.agg cs.toArray,.int .i64 m] [] S (Wt S (Vp m g)):=by
 intro w a;obtain ⟨c3,ks,rfl,h1,h2⟩:=h;have b7:=h1;obtain ⟨kv,rfl,g1,g2,g3,g4⟩:=RdT.iff.1 h1;unfold wC at hw;refine wm.2 ?_;dsimp only[wm,bm];refine bJ a fun b1 w' a=>?_;refine aQ a cX fun b2 w' a=>?_;refine aw bO ?_;refine dC a 0 [.int .i64 g.head.kind,.int .i64 g.head.n,.string g.head.name,kv] ad rfl rfl Ax ?_;refine Run.call0 qs qr a (wd hN m a5 a6 _ S _ b7 b0 (by omega)) fun v' I' S w'=>?_;rintro ⟨rfl,c2,N,rfl,rfl,a0⟩ _ a;obtain ⟨hd,a3⟩:∃ hd,hd=bp m g.head:=⟨_,rfl⟩
 rw [<- a3] at a0;obtain ⟨G,rfl,_⟩:=TrT.iff.1 a0;refine lg ?_;refine aQ a cX fun b3 w' a=>?_;have a:=a.perm (M:=.blk b1 _::.blk b2 _::.blk b3 _::aV N) (((cj (l₁:=[_])).cons _).cons _);refine au a 2 rfl aH rfl rfl ?_ fun w' a=>?_
 ·intro u hu;have a2:u∈([.int .i64 hd.kind,.int .i64 hd.n,.string hd.name,G,.slice none 0 0]:List Value):=hu;simp at a2;have o1:G.oneCell'=true:=a0.one G (by simp);rcases a2 with rfl|rfl|rfl|rfl|rfl <;> first|rfl|exact o1
 have a:=a.rowNil ab 4;have a:=a.perm (M:=.blk b1 (.cells #[.int .i64 g.head.kind,.int .i64 g.head.n,.string g.head.name,kv,ks] ac)::.blk b2 (.cells #[.int .i64 0,.int .i64 0,.string ⟨#[]⟩,.slice none 0 0,.slice none 0 0] ac)::.blk b3 (.cells #[.int .i64 hd.kind,.int .i64 hd.n,.string hd.name,G,.slice none 0 0] ac)::aA (.slice none 0 0) ab 4 []::aV N) ((((cj (l₁:=[_])).cons _).cons _).cons _);refine ⟨fun i w'=>∃ (j:Nat) (l:Value) (Ls:List bh) (css:List (List Value)),j<=g.body.length/\i=.int .i64 j/\Grown 4 TrT Ls css (dM m (g.body.take j))/\
   Inv w [] (.blk b1 (.cells #[.int .i64 g.head.kind,.int .i64 g.head.n,.string g.head.name,kv,ks] ac)::.blk b2 (.cells #[.int .i64 0,.int .i64 0,.string ⟨#[]⟩,.slice none 0 0,.slice none 0 0] ac)::.blk b3 (.cells #[.int .i64 hd.kind,.int .i64 hd.n,.string hd.name,G,l] ac)::aA l ab 4 css::aV (N::Ls).flatten) S w',
  fun i _=>g.body.length - (intOf i).toNat,⟨0,_,[],[],bk _,rfl,Grown.nil _ _,by simp only [fh,k0,bV]; exact a⟩,?_⟩
 intro t4 _ _ _ _ _ _ _ _ _ _ _ _ _ _ _ _ _ _ _ w';rintro ⟨j,l,Ls,css,hj,rfl,hg,a⟩;refine af a 0 rfl aU al rfl ?_;refine aJ h2 ah ?_;refine bS ?_;refine aL (fun b5=>?_) (fun b5=>?_)
 ·have a1:j<g.body.length:=by omega
  have c4:(g.body.take j).length=j:=by simp; omega
  have b9:=hg.hc;rw [eU,jO] at b9;have hm:=bG a1;have c5:=iJ hm;obtain ⟨b,o,cap,c,E,fz,rfl,hS,hR⟩:=h2.at_ a1;refine ⟨fun D ir ji jv pn kV fN lP r4 pR oK jG kZ w_=>Fx D 0 [kZ=.pointer (some ⟨b3,4,none⟩),jG=l,oK=.pointer (some ⟨b1,4,none⟩),pR=.slice (some ⟨b,o,none⟩) g.body.length cap,r4=.int .i64 j,lP=.pointer (some ⟨b,o+j * 4,none⟩),fN=.agg (aX c (o+j * 4) 4).toArray,kV=.int .i64 m,True,True,True,ir=.pointer (some ⟨b3,4,none⟩),True]/\∃ M f B,(D 8=true->pn=.agg f.toArray/\TrT M f (bp m g.body[j]))/\(D 9=true->jv=.slice (some ⟨B,0,none⟩) 1 1)/\(D 9=true->D 8=true)/\(D 10=true->D 9=true)/\(D 12=true->D 10=true)/\(D 12=true->D 1=true)/\Inv w [] (aP (.blk b1 (.cells #[.int .i64 g.head.kind,.int .i64 g.head.n,.string g.head.name,kv,.slice (some ⟨b,o,none⟩) g.body.length cap] ac)) (.blk b2 (.cells #[.int .i64 0,.int .i64 0,.string ⟨#[]⟩,.slice none 0 0,.slice none 0 0] ac)) (.blk b3 (.cells #[.int .i64 hd.kind,.int .i64 hd.n,.string hd.name,G,l] ac)) (.blk b3 (.cells #[.int .i64 hd.kind,.int .i64 hd.n,.string hd.name,G,ji] ac)) (aA l ab 4 css) (aA ji ab 4 (css++[f])) (aV (N::Ls).flatten) M (.blk B (.cells f.toArray ab)) (D 8) (D 9) (D 10) (D 12)) S w_,⟨Fx.nil _ _,⟨[],[],0,aI,aI,aI,aI,aI,aI,by simpa [aP,aV] using a.draw⟩⟩,⟨?_,?_,?_,?_,?_,?_,?_,?_,?_,?_,?_,?_,?_,trivial⟩,?_⟩;all_goals (intro D bH; intros; rename_i ir ji jv pn kV fN lP r4 pR oK jG kZ w_ a7; have r:=a7.1; obtain ⟨⟨cI,cJ,cH,cD,cL,cN,cq,dg,dG,dL,cT,dn,dN,_⟩,⟨M,f,B,O,Z,V,U,q,Y,a⟩⟩:=a7)
  ·refine aw aU ?_;exact ⟨r.set 0 rfl,⟨M,f,B,O,Z,V,U,q,Y,a⟩⟩
  ·obtain rfl:=cI ‹_›;have J:D 12=false:=bx.2 fun h=>by rw [Y h] at bH; cases bH
   refine aT (b:=b3) a 2 (c:=(#[.int .i64 hd.kind,.int .i64 hd.n,.string hd.name,G,l])) al (by rw [J]; rfl) rfl ?_;have Y:=fun (_:ao D 1 12=true)=>(rfl:ao D 1 1=true)
   exact ⟨r.set 1 rfl,⟨M,f,B,O,Z,V,U,q,Y,a⟩⟩
  ·refine aw aU ?_;exact ⟨r.set 2 rfl,⟨M,f,B,O,Z,V,U,q,Y,a⟩⟩
  ·obtain rfl:=cH ‹_›;refine aT a 0 al rfl rfl ?_;exact ⟨r.set 3 rfl,⟨M,f,B,O,Z,V,U,q,Y,a⟩⟩
  ·exact ⟨r.set 4 rfl,⟨M,f,B,O,Z,V,U,q,Y,a⟩⟩
  ·obtain rfl:=cD ‹_›;obtain rfl:=cL ‹_›;refine az ah a1 ?_;exact ⟨r.set 5 rfl,⟨M,f,B,O,Z,V,U,q,Y,a⟩⟩
  ·obtain rfl:=cN ‹_›;refine ci ad hR.length (fun j v hj=>by rw [a.cellS hS]; exact aF rfl j v hj) ?_;exact ⟨r.set 6 rfl,⟨M,f,B,O,Z,V,U,q,Y,a⟩⟩
  ·exact ⟨r.set 7 rfl,⟨M,f,B,O,Z,V,U,q,Y,a⟩⟩
  ·obtain rfl:=cq ‹_›;obtain rfl:=dg ‹_›;have f8:D 9=false:=bx.2 fun h=>by rw [V h] at bH; cases bH
   have f9:D 10=false:=bx.2 fun h=>by rw [U h] at f8; cases f8
   have J:D 12=false:=bx.2 fun h=>by rw [q h] at f9; cases f9
   rw [bH,f8,f9,J] at a;refine Run.call0 qs qr a (wd hN m a5 a6 _ S _ hR (b4 _ (bG a1)) (by omega)) fun v' I' S w_=>?_;rintro ⟨rfl,f,M,rfl,rfl,hT⟩ _ a;have O:ao D 8 8=true->Value.agg f.toArray=Value.agg f.toArray/\TrT M f (bp m g.body[j]):=fun _=>⟨rfl,hT⟩
   have V:=fun (_:ao D 8 9=true)=>(rfl:ao D 8 8=true)
   have a:Inv w [] (aP (.blk b1 (.cells #[.int .i64 g.head.kind,.int .i64 g.head.n,.string g.head.name,kv,.slice (some ⟨b,o,none⟩) g.body.length cap] ac)) (.blk b2 (.cells #[.int .i64 0,.int .i64 0,.string ⟨#[]⟩,.slice none 0 0,.slice none 0 0] ac)) (.blk b3 (.cells #[.int .i64 hd.kind,.int .i64 hd.n,.string hd.name,G,l] ac)) (.blk b3 (.cells #[.int .i64 hd.kind,.int .i64 hd.n,.string hd.name,G,ji] ac)) (aA l ab 4 css) (aA ji ab 4 (css++[f])) (aV (N::Ls).flatten) M (.blk B (.cells f.toArray ab)) true (D 9) (D 10) (D 12)) S w_:=by
    rw [f8,f9,J];simpa [aP] using a
   exact ⟨r.set 8 (by first|assumption|trivial),⟨M,f,B,O,Z,V,U,q,Y,a⟩⟩
  ·have DH:=dG ‹_›;have f9:D 10=false:=bx.2 fun h=>by rw [U h] at bH; cases bH
   have J:D 12=false:=bx.2 fun h=>by rw [q h] at f9; cases f9
   obtain ⟨q7,hT⟩:=O ‹D 8=true›;subst q7;rw [‹D 8=true›,bH,f9,J] at a;refine dB a bn (by simp [Value.cells,hT.length]) (by omega) (by omega) fun B w_ a=>?_;have O:ao D 9 8=true->Value.agg f.toArray=Value.agg f.toArray/\TrT M f (bp m g.body[j]):=fun _=>⟨rfl,hT⟩
   have Z:=fun (_:ao D 9 9=true)=>(rfl:Value.slice (some ⟨B,0,none⟩) 1 1=_)
   have V:=fun (_:ao D 9 9=true)=>‹D 8=true›;have U:=fun (_:ao D 9 10=true)=>(rfl:ao D 9 9=true)
   have a:Inv w [] (aP (.blk b1 (.cells #[.int .i64 g.head.kind,.int .i64 g.head.n,.string g.head.name,kv,.slice (some ⟨b,o,none⟩) g.body.length cap] ac)) (.blk b2 (.cells #[.int .i64 0,.int .i64 0,.string ⟨#[]⟩,.slice none 0 0,.slice none 0 0] ac)) (.blk b3 (.cells #[.int .i64 hd.kind,.int .i64 hd.n,.string hd.name,G,l] ac)) (.blk b3 (.cells #[.int .i64 hd.kind,.int .i64 hd.n,.string hd.name,G,ji] ac)) (aA l ab 4 css) (aA ji ab 4 (css++[f])) (aV (N::Ls).flatten) M (.blk B (.cells f.toArray ab)) (D 8) true (D 10) (D 12)) S w_:=by
    rw [‹D 8=true›,f9,J];simpa [aP,Value.cells] using a
   exact ⟨r.set 9 (by first|assumption|trivial),⟨M,f,B,O,Z,V,U,q,Y,a⟩⟩
  ·obtain rfl:=cJ ‹_›;have Eb:=dL ‹_›;have J:D 12=false:=bx.2 fun h=>by rw [q h] at bH; cases bH
   have q8:=Z ‹D 9=true›;subst q8;obtain ⟨_,hT⟩:=O ‹D 8=true›;rw [‹D 8=true›,‹D 9=true›,bH,J] at a;have a8:((aP (.blk b1 (.cells #[.int .i64 g.head.kind,.int .i64 g.head.n,.string g.head.name,kv,.slice (some ⟨b,o,none⟩) g.body.length cap] ac)) (.blk b2 (.cells #[.int .i64 0,.int .i64 0,.string ⟨#[]⟩,.slice none 0 0,.slice none 0 0] ac)) (.blk b3 (.cells #[.int .i64 hd.kind,.int .i64 hd.n,.string hd.name,G,jG] ac)) (.blk b3 (.cells #[.int .i64 hd.kind,.int .i64 hd.n,.string hd.name,G,ji] ac)) (aA jG ab 4 css) (aA ji ab 4 (css++[f])) (aV (N::Ls).flatten) M (.blk B (.cells f.toArray ab)) true true false false))[4+(aV (N::Ls).flatten).length+(aV M).length]?=some (.blk B (.cells f.toArray ab)):=by
    have e4:4+(aV (N::Ls).flatten).length+(aV M).length=((aV (N::Ls).flatten).length+(aV M).length)+1+1+1+1:=by omega
    rw [e4];simp only [aP,kO];rw [gG (by omega),mO,gG (aS _),ey]; rfl
   refine dE a 3 f bn (by omega) rfl (by rw [hT.length]) (m:=1) (o:=0) ?_ hT.one (by omega) (by omega) fun v' w_ a=>?_
   ·intro i u hi;rw [a.cellL a8,cP];simpa using hi
   rw [eE] at a;have U:=fun (_:ao D 10 10=true)=>‹D 9=true›;have q:=fun (_:ao D 10 12=true)=>(rfl:ao D 10 10=true)
   have a:Inv w [] (aP (.blk b1 (.cells #[.int .i64 g.head.kind,.int .i64 g.head.n,.string g.head.name,kv,.slice (some ⟨b,o,none⟩) g.body.length cap] ac)) (.blk b2 (.cells #[.int .i64 0,.int .i64 0,.string ⟨#[]⟩,.slice none 0 0,.slice none 0 0] ac)) (.blk b3 (.cells #[.int .i64 hd.kind,.int .i64 hd.n,.string hd.name,G,jG] ac)) (.blk b3 (.cells #[.int .i64 hd.kind,.int .i64 hd.n,.string hd.name,G,v'] ac)) (aA jG ab 4 css) (aA v' ab 4 (css++[f])) (aV (N::Ls).flatten) M (.blk B (.cells f.toArray ab)) (D 8) (D 9) true (D 12)) S w_:=by
    rw [‹D 8=true›,‹D 9=true›,J];exact a
   exact ⟨r.set 10 (by first|assumption|trivial),⟨M,f,B,O,Z,V,U,q,Y,a⟩⟩
  ·refine aw aU ?_;exact ⟨r.set 11 rfl,⟨M,f,B,O,Z,V,U,q,Y,a⟩⟩
  ·obtain rfl:=dn ‹_›;have AB:=cT ‹_›;rw [‹D 8=true›,‹D 9=true›,‹D 10=true›,bH] at a;obtain ⟨va,vn,vc,a4⟩:=Inv.rowSlice a 3 rfl;refine dy a 2 (n:=1) (by rw [a4]; rfl) (by decide +kernel) rfl (by simp) (by rw [a4]; simp [Value.cells,Value.oneCell']) fun w_ a=>?_;have a9:Value.cells ji=#[ji]:=by rw [a4]; rfl
   rw [a9] at a;have Y:=fun (_:ao D 12 12=true)=>‹D 1=true›;have q:=fun (_:ao D 12 12=true)=>‹D 10=true›;have a:Inv w [] (aP (.blk b1 (.cells #[.int .i64 g.head.kind,.int .i64 g.head.n,.string g.head.name,kv,.slice (some ⟨b,o,none⟩) g.body.length cap] ac)) (.blk b2 (.cells #[.int .i64 0,.int .i64 0,.string ⟨#[]⟩,.slice none 0 0,.slice none 0 0] ac)) (.blk b3 (.cells #[.int .i64 hd.kind,.int .i64 hd.n,.string hd.name,G,l] ac)) (.blk b3 (.cells #[.int .i64 hd.kind,.int .i64 hd.n,.string hd.name,G,ji] ac)) (aA l ab 4 css) (aA ji ab 4 (css++[f])) (aV (N::Ls).flatten) M (.blk B (.cells f.toArray ab)) (D 8) (D 9) (D 10) true) S w_:=by
    rw [‹D 8=true›,‹D 9=true›,‹D 10=true›];exact a
   exact ⟨r.set 12 trivial,⟨M,f,B,O,Z,V,U,q,Y,a⟩⟩
  obtain ⟨rfl,rfl,rfl,rfl,rfl,rfl,rfl,rfl,DH,Eb,AB,rfl,_,_⟩:=r.all;have FO:D 8=true:=by assumption
  have OK:D 9=true:=by assumption
  have Dy:D 10=true:=by assumption
  have UD:D 12=true:=by assumption
  clear r cI cJ cH cD cL cN cq dg dG dL cT dn dN;obtain ⟨_,hT⟩:=O FO;rw [FO,OK,Dy,UD] at a;refine bC (by omega) ?_;refine ⟨⟨j+1,ji,Ls++[M],css++[f],a1,rfl,?_,?_⟩,by simp [intOf]; omega⟩
  ·rw [ur m g.body j a1];exact hg.snoc hT hT.length
  ·rw [<- dS,mG,cK];simp only [fh,k0,bV];refine a.sub ?_;simp only [aP,fh];rw [<- dx];exact (((dt _ _).cons_cons _).cons_cons _).cons_cons _ |>.cons_cons _
 ·have:j=g.body.length:=by omega
  subst this;rw [d4] at hg;obtain ⟨va,vn,vc,b6⟩:=a.rowSlice 3 rfl;have c1:l.oneCell'=true:=by rw [b6]; rfl
  have o1:G.oneCell'=true:=a0.one G (by simp);refine aC a 2 aH rfl rfl ?_;refine au a 1 rfl aH rfl rfl ?_ fun w' a=>?_
  ·intro u hu;have a2:u∈([.int .i64 hd.kind,.int .i64 hd.n,.string hd.name,G,l]:List Value):=hu;simp at a2;rcases a2 with rfl|rfl|rfl|rfl|rfl <;> first|rfl|exact o1|exact c1
  refine bB a 1 aH rfl rfl ?_;have a:Inv w [] (aA l ab 4 css::aV (N::Ls).flatten) S w':=a.sub (dH [_,_,_] _);rw [fh,cK] at a;have a:=a.perm (M:=aV N++(aA l ab 4 css::aV Ls.flatten)) (zal132);obtain ⟨L,hT,a⟩:=Inv.rowTree a hg;rw [a3] at a0;exact ⟨_,_,_,rfl,a,Ext.refl _ _ _,rfl,_,N++L,rfl,by rw [cK],_,l,N,L,by rw [a3]; rfl,rfl,a0,hT⟩
end
end
section
open Go Go.RowKit
def RdG (S:ae) (cs:List Value) (g:T × Int):Prop:=∃ hd,cs=hd++[.int .i64 g.2]/\RdT S hd g.1
theorem RdG.length {S:ae} {cs:List Value} {g:T × Int} (h:RdG S cs g):cs.length=5:=by
 obtain ⟨hd,rfl,h⟩:=h; simp [h.length]
theorem RdG.one {S:ae} {cs:List Value} {g:T × Int} (h:RdG S cs g):∀ u∈cs,u.oneCell'=true:=by
 obtain ⟨hd,rfl,h⟩:=h;intro u a;rcases bF.1 a with a|a
 ·exact h.one u a
 ·rw [bK] at a; subst a; rfl
theorem RdG.mono {S S':ae} {cs:List Value} {g:T × Int} (a:Sle S S') (h:RdG S cs g):RdG S' cs g:=by
 obtain ⟨hd,rfl,h⟩:=h; exact ⟨hd,rfl,h.mono a⟩
theorem RdSl.monoG {S S':ae} {v:Value} {gs:List (T × Int)} (a:Sle S S') (h:RdSl S 5 (RdG S) v gs):RdSl S' 5 (RdG S') v gs:=h.mono a fun _ _=>RdG.mono a
section
variable {w:World} {K:Value->World->Prop}
attribute [local irreducible] Run
end
section
attribute [local irreducible] Run CondV aq aK
end
end
section
open Go Go.RowKit
theorem NW {s:ByteArray} (h:lJ s=true):s.size<=6:=by
 rw [lJ,jc] at h;rcases h with h|h
 ·rw [my] at h;simp only [bM,bD] at h;exact h.2.2
 ·simp only [Gd,bD] at h;obtain ⟨x,a,rfl⟩:=h;have:∀ y∈signs,y.size<=6:=by decide +kernel
  exact this x a
theorem Qi {t:T} (h:eB t=true):t.name.size<=6:=by
 unfold eB at h;have f:emptyB.size=0:=by decide +kernel
 by_cases e1:t.kind=1
 ·rw [ai e1] at h;simp only [bM,bD] at h;rw [h.2.2.1]; omega
 ·rw [ag e1] at h;by_cases e2:t.kind=2
  ·rw [ai e2] at h;simp only [bM,bD] at h;rw [h.2.2.1]; omega
  ·rw [ag e2] at h;by_cases a:t.kind=3
   ·rw [ai a] at h;simp only [bM,bD] at h;exact NW h.2.1
   ·rw [ag a] at h;cases h
theorem Da:emptyB.size<=6:=by decide +kernel
mutual
theorem Jn:∀ (t:T) (d:Int),iC t d=true->okU 26 t
 | .mk k n s ks,d,h=>by
  rw [iC] at h;split at h
  ·cases h
  ·rw [bM] at h;have f:=Qf h.1;have i:=fun hk=>V8 h.1 hk;have l:=Qi h.1;rw [okU];refine ⟨f.2,fun hk=>?_,EB ks _ h.2,l⟩;have g:=f.1 hk;have a:=i hk;simp only [T.n] at g;simp only [T.name,T.kids] at a;exact ⟨g.1,by omega,a.1,gF a.2⟩
theorem EB:∀ (ts:List T) (d:Int),iG ts d=true->bL 26 ts
 | [],_,_=>by rw [bL]; trivial
 | t::ts,d,h=>by
  rw [iG,bM] at h;rw [bL];exact ⟨Jn t d h.1,EB ts d h.2⟩
end
theorem jY {t:T} (h:d6 t=true):okU 26 t:=Jn t 30 (Cg h)
theorem dU {c:C} (h:bt c=true):okU 26 c.head/\(∀ t∈c.body,okU 26 t)/\c.body.length<=6:=by
 rw [bt] at h;simp only [bM,dD,bD] at h;refine ⟨jY h.2.2.1,fun t a=>?_,h.1⟩;have:=h.2.1 t a;rw [eN,bM] at this;exact jY this.1
mutual
theorem gN {N M:Nat} (h:N<=M):∀ t:T,okU N t->okU M t
 | .mk k n s ks,ht=>by
  rw [okU] at ht ⊢;refine ⟨ht.1,fun hk=>?_,RV h ks ht.2.2.1,ht.2.2.2⟩;have:=ht.2.1 hk;exact ⟨this.1,by omega,this.2.2⟩
theorem RV {N M:Nat} (h:N<=M):∀ ts:List T,bL N ts->bL M ts
 | [],_=>by rw [bL]; trivial
 | t::ts,ht=>by
  rw [bL] at ht ⊢;exact ⟨gN h t ht.1,RV h ts ht.2⟩
end
mutual
theorem mh {N:Nat} (m:Nat):∀ t:T,okU N t->okU (N+m) (bp m t)
 | .mk k n s ks,ht=>by
  rw [okU] at ht;rw [bp,okU];refine ⟨ht.1,fun hk=>?_,xg m ks ht.2.2.1,ht.2.2.2⟩;have:=ht.2.1 hk;rw [ai hk];refine ⟨by omega,by omega,this.2.2.1,?_⟩;rw [this.2.2.2,dM]
theorem xg {N:Nat} (m:Nat):∀ ts:List T,bL N ts->bL (N+m) (dM m ts)
 | [],_=>by rw [dM,bL]; trivial
 | t::ts,ht=>by
  rw [bL] at ht;rw [dM,bL];exact ⟨mh m t ht.1,xg m ts ht.2⟩
end
mutual
theorem pO (m:Int):∀ t:T,wT (bp m t)=wT t
 | .mk k n s ks=>by
  rw [bp,wT,wT,zr m ks];rw [eU,jO]
theorem zr (m:Int):∀ ts:List T,wL (dM m ts)=wL ts
 | []=>rfl
 | t::ts=>by rw [dM,wL,wL,pO m t,zr m ts]
end
mutual
theorem KI {N:Nat}:∀ t:T,okU N t->(wT t:Int)+1<=7 * dF t
 | .mk k n s ks,h=>by
  rw [okU] at h;have a:=UJ ks h.2.2.1;rw [wT,oo];omega
theorem UJ {N:Nat}:∀ ts:List T,bL N ts->(wL ts:Int)+ts.length<=7 * cY ts
 | [],_=>by simp [wL,cY]
 | t::ts,h=>by
  rw [bL] at h;have a:=KI t h.1;have f:=UJ ts h.2;rw [wL,cY,bq];omega
end
theorem Fg {N:Nat} {st:aj} {t v:T} (h:Good N st) (a:dr st t v) (f:okU N t):okU N v:=by
 induction a with
 | stop=>exact f
 | step hl _ g=>exact g (h.look_ok hl).1
theorem fj {N:Nat} {st:aj} (r:Good N st) {j:M8} (B:Res st j):match j with
  | .one t u=>okU N t->okU N u
  | .list ts us=>bL N ts->bL N us/\us.length=ts.length:=by
 induction B with
 | one D hl G=>
  rename_i t v us
  intro f;have q:=Fg r D f;obtain ⟨l,g⟩:=G q.kids;obtain ⟨k,n,s,ks⟩:=v;have a:=q;rw [okU] at a;show okU N (.mk k n s us);rw [okU];refine ⟨a.1,fun hk=>?_,l,a.2.2.2⟩;have i:=a.2.1 hk;refine ⟨i.1,i.2.1,i.2.2.1,?_⟩;simp only [T.kids] at g;exact gF (by rw [g,i.2.2.2]; rfl)
 | nil=>exact fun h=>⟨h,rfl⟩
 | cons _ _ m o=>
  intro f;rw [bL] at f;obtain ⟨l,g⟩:=o f.2;rw [bL];exact ⟨⟨m f.1,l⟩,by simp [g]⟩
theorem yX {N:Nat} {st:aj} (h:Good N st):∀ ts:List T,bL N ts->∃ us,Res st (.list ts us)
 | [],_=>⟨[],.nil⟩
 | t::ts,ho=>by
  rw [bL] at ho;obtain ⟨u,f⟩:=Kj h t ho.1;obtain ⟨us,a⟩:=yX h ts ho.2;exact ⟨u::us,.cons f a⟩
theorem BH {st:aj}:∀ {ts us:List T},Res st (.list ts us)->∀ i (h:i<ts.length) (a:i<us.length),Res st (.one ts[i] us[i])
 | _,_,.cons hu _,0,_,_=>hu
 | _,_,.cons _ hus,i+1,h,a=>BH hus i (by simpa using h) (by simpa using a)
mutual
theorem TM {N:Nat}:∀ (t:T) (l:List Int),okU N t->fp t l=iy t l
 | .mk k n s ks,l,h=>by
  rw [okU] at h;rw [fp,iy];split
  ·rename_i hk
   rw [(h.2.1 hk).2.2.2,cU]
  ·exact qF ks l h.2.2.1
theorem qF {N:Nat}:∀ (ts:List T) (l:List Int),bL N ts->c7 ts l=cU ts l
 | [],l,_=>by rw [c7,cU]
 | t::ts,l,h=>by
  rw [bL] at h;rw [c7,cU,TM t l h.1,qF ts _ h.2]
end
mutual
theorem Q1 {N:Nat} (vs:List Int) (hd:vs.Nodup):∀ t:T,okU N t->inT vs t->jQ vs t=dq vs t
 | .mk k n s ks,h,hi=>by
  rw [okU] at h;rw [inT] at hi;rw [jQ,dq];by_cases hk:k=1
  ·have a:=h.2.1 hk;rw [ai hk,ai hk,BB vs n n 0 (hi.1 hk) hd,a.2.2.2,er,a.2.2.1,hk];rfl
  ·rw [ag hk,ag hk,EW vs hd ks h.2.2.1 hi.2]
theorem EW {N:Nat} (vs:List Int) (hd:vs.Nodup):∀ ts:List T,bL N ts->inL vs ts->fC vs ts=er vs ts
 | [],_,_=>rfl
 | t::ts,h,hi=>by
  rw [bL] at h;rw [inL] at hi;rw [fC,er,Q1 vs hd t h.1 hi.1,EW vs hd ts h.2 hi.2]
end
theorem Sc {N:Nat} {c:C} (g:okU N c.head) (h:bL N c.body):cU (c.head::c.body) []=bX c/\jQ (bX c) c.head=dq (bX c) c.head/\fC (bX c) c.body=er (bX c) c.body:=by
 have hl:bL N (c.head::c.body):=by rw [bL]; exact ⟨g,h⟩
 have a:cU (c.head::c.body) []=bX c:=by rw [bX,qF _ _ hl]
 have hd:(bX c).Nodup:=by rw [<- a]; exact n8 _ _ xr
 have f:inL (bX c) (c.head::c.body):=by rw [<- a]; exact oR _ _
 rw [inL] at f;exact ⟨a,Q1 _ hd _ g f.1,EW _ hd _ h f.2⟩
def stU:aj:=List.replicate 52 none
theorem Uf:∀ n:Nat,unb (List.replicate n none)=n
 | 0=>rfl
 | n+1=>by rw [List.replicate_succ,unb,Uf n]
theorem js:Good 52 stU:=⟨by simp [stU],fun t a=>by simp [stU] at a,fun t a=>by simp [stU] at a,fun n=>n,fun n u f=>by
 have:=cz f;simp [stU] at this⟩
def iN (c d:C):List T:=c.head::(dM 26 d.body++c.body.drop 1)
def ofL:List T->C
 | []=>⟨⟨0,0,⟨#[]⟩,[]⟩,[]⟩
 | t::ts=>⟨t,ts⟩
def RO (c d:C) (o:Option (Option C)):Prop:=∃ r st,Uni stU (.one (c.body.headD ⟨0,0,⟨#[]⟩,[]⟩) (bp 26 d.head)) r st/\
 ((r=false/\o=none) ∨ (r=true/\∃ us,Res st (.list (iN c d) us)/\((us.all bv=false/\o=some none) ∨ (us.all bv=true/\o=some (some (vd (bX (ofL us)) (ofL us)))))))
theorem Te {N:Nat} {ts us:List T} (h:bL N ts) (f:bL N us):bL N (ts++us):=
 gw fun t a=>by
  rcases bF.1 a with a|a
  ·exact fM h t a
  ·exact fM f t a
theorem sD {c d:C} (hc:bt c=true) (hd:bt d=true):bL 52 (iN c d):=by
 obtain ⟨f,g,_⟩:=dU hc;obtain ⟨i,h,_⟩:=dU hd;rw [iN,bL];exact ⟨gN (by decide) _ f,Te (xg 26 _ (gw h)) (gw fun t a=>gN (by decide) _ (g t (xz a)))⟩
theorem pe {c d:C} (hc:bt c=true) (hd:bt d=true) (f:wC c<=1048576) (g:wC d<=1048576) (i:c.body≠[]):okJ 52 (.one (c.body.headD ⟨0,0,⟨#[]⟩,[]⟩) (bp 26 d.head)):=by
 obtain ⟨o,l,_⟩:=dU hc;obtain ⟨m,q,_⟩:=dU hd;unfold wC at f g;cases a:c.body with
 | nil=>exact absurd a i
 | cons t ts=>
  rw [List.headD_cons];have h:t∈c.body:=by rw [a]; exact aM ..
  have:=nY h;exact ⟨⟨gN (by decide) _ (l t h),by omega⟩,⟨mh 26 _ m,by rw [pO]; omega⟩⟩
theorem RO.ex {c d:C} (hc:bt c=true) (hd:bt d=true) (g:wC c<=1048576) (h:wC d<=1048576) (m:c.body≠[]):∃ o,RO c d o:=by
 have i:=pe hc hd g h m;obtain ⟨r,st,f⟩:=FI (unb stU) stU js (aS _) _ i;cases r with
 | false=>exact ⟨none,false,st,f,.inl ⟨rfl,rfl⟩⟩
 | true=>
  obtain ⟨us,a⟩:=yX (f.good js i).1 (iN c d) (sD hc hd);cases l:us.all bv with
  | false=>exact ⟨some none,true,st,f,.inr ⟨rfl,us,a,.inl ⟨l,rfl⟩⟩⟩
  | true=>exact ⟨_,true,st,f,.inr ⟨rfl,us,a,.inr ⟨l,rfl⟩⟩⟩
theorem fF {N:Nat} {u:T} (h:bv u=true) (a:okU N u):wT u<=840:=by
 rw [bv,bM,bD] at h;have:=KI u a;omega
theorem yW {N:Nat}:∀ {us:List T},us.all bv=true->bL N us->wL us<=us.length * 840
 | [],_,_=>by simp [wL]
 | u::us,h,ho=>by
  rw [IU,bM] at h;rw [bL] at ho;have a:=fF h.1 ho.1;have f:=yW h.2 ho.2;rw [wL,bq,iX];omega
theorem Bn {c d:C} (hc:bt c=true) (hd:bt d=true):(iN c d).length<=13:=by
 obtain ⟨_,_,a⟩:=dU hc;obtain ⟨_,_,f⟩:=dU hd;rw [iN,bq,bA,eU,jO,mi];omega
end
section
open Go Go.RowKit

def KnownM (S:ae) (es:Array MapEntry) (st:aj):Prop:=
 (∀ e∈es.toList,∃ (n:Nat) (t:T) (cs:List Value),e.key=.int .i64 n/\e.val=.agg cs.toArray/\RdT S cs t/\st[n]?=some (some t))/\(∀ (n:Nat) (t:T),st[n]?=some (some t)->∃ e∈es.toList,e.key=.int .i64 n)/\(es.toList.map (·.key)).Nodup
theorem KnownM.find {S:ae} {g:Array MapEntry} {st:aj} (h:KnownM S g st) (n:Nat) :
  (∃ j v t cs,Instr.findNow (.int .i64) (.int .i64 n) g.toList 0=some (some (j,v))/\v=.agg cs.toArray/\RdT S cs t/\st[n]?=some (some t)) ∨
  ((∀ t,st[n]?≠some (some t))/\Instr.findNow (.int .i64) (.int .i64 n) g.toList 0=some none):=by
 rcases tG (n:=n) g.toList 0 (fun e f=>by obtain ⟨m,_,_,hk,_⟩:=h.1 e f; exact ⟨m,hk⟩) with ⟨j,e,f,hk,hf⟩|⟨hk,hf⟩
 ·obtain ⟨m,t,cs,a,l,hR,o⟩:=h.1 e f;rw [hk] at a;simp only [Value.int.injEq,i7] at a;have:n=m:=by omega
  subst this;exact .inl ⟨j,e.val,t,cs,hf,l,hR,o⟩
 ·refine .inr ⟨fun t i=>?_,hf⟩;obtain ⟨e,f,a⟩:=h.2.1 n t i;exact hk e f a
theorem KnownM.push {S:ae} {q:Array MapEntry} {st:aj} (h:KnownM S q st) {n:Nat} (hn:n<st.length) (g:∀ t,st[n]?≠some (some t)) {cs:List Value} {u:T} (D:RdT S cs u) (ck:Nat) :
  KnownM S (q.push { key:=.int .i64 n,val:=.agg cs.toArray,born:=ck }) (st.set n (some u)):=by
 refine ⟨fun e f=>?_,fun m t r=>?_,?_⟩
 ·rw [Vq] at f;rcases bF.1 f with f|f
  ·obtain ⟨m,t,i,hk,J,hR,l⟩:=h.1 e f;refine ⟨m,t,i,hk,J,hR,?_⟩;have:n≠m:=fun e=>g t (by rw [e]; exact l);rw [yb this];exact l
  ·simp at f;subst f;exact ⟨n,u,cs,rfl,rfl,D,by rw [Rv hn]⟩
 ·rw [Vq];by_cases e:n=m
  ·exact ⟨_,fb _ (bK.2 rfl),by rw [e]⟩
  ·rw [yb e] at r;obtain ⟨x,o,hk⟩:=h.2.1 m t r;exact ⟨x,cZ _ o,hk⟩
 ·rw [Vq,BD,oB];refine ⟨h.2.2,by simp,fun a G b B e=>?_⟩;simp only [lr,List.map_nil,bK] at B;subst B;obtain ⟨x,o,rfl⟩:=dp.1 G;obtain ⟨m,t,i,hk,_,_,l⟩:=h.1 x o;rw [hk] at e;simp only [Value.int.injEq,i7] at e;have:m=n:=by omega
  subst this;exact g t l
section
attribute [local irreducible] Run CondV aq aK
end
end
section
open Go Go.RowKit

def st0:aj:=List.replicate 26 none
theorem KnownM.empty (S:ae):KnownM S #[] st0:=by
 refine ⟨by simp,fun n t a=>?_,by simp⟩;rw [st0,MN] at a;split at a <;> cases a
theorem L9:∀ {ts:List T},(∀ t∈ts,okV t)->AC ts
 | [],_=>by simp [AC]
 | t::ts,h=>by rw [AC]; exact ⟨h t (aM ..),L9 fun u a=>h u (aR _ a)⟩
theorem RD:∀ {ts:List T},(∀ t∈ts,okK t)->PK ts
 | [],_=>by simp [PK]
 | t::ts,h=>by rw [PK]; exact ⟨h t (aM ..),RD fun u a=>h u (aR _ a)⟩
section
variable {P:Program} {w w0:World} {X:List Nat} {L:List Item} {S:ae} {K:Value->World->Prop}
attribute [local irreducible] Run CondV aq aK
theorem Ko (h:Inv w0 X L S w) {T ty e:TypeId} {k by_ n:Nat} {z:Value} (l:oE P T=some (e,k,by_,z)) (hn:n<=4294967296) (a:by_<=65536) (f:n * k≠0)
  (hk:∀ b w',Inv w0 X (L++[.blk b (.cells ((Array.range (n * k)).map (z.cells[· % z.cells.size]!)) e)]) S w'->K (.slice (some ⟨b,0,none⟩) n n) w') :
  Run P (sOp (.makeSlice T (.const (.int .i64 n)) (.const (.int .i64 n))) ty) w K:=by
 obtain ⟨m,i,o,q,r,t,B⟩:=qb l;have D:IntKind.i64.wrap (n:Int)=n:=IntWalk.i64_in _ (by omega);have g:by_ * n<=2 ^ 48:=gz (L5 a hn) (by decide);have G:¬ ((n:Int)<0):=by omega
 have J:¬ (281474976710656<(i.bytes:Int) * (n:Int)):=by
  rw [t];have:((by_ * n:Nat):Int)<=((2 ^ 48:Nat):Int):=by exact_mod_cast g
  have e:(((2 ^ 48:Nat)):Int)=281474976710656:=by decide
  rw [e,Int.natCast_mul] at this;omega
 refine Run.of (v:=.slice (some ⟨w.heap.size,0,none⟩) n n) (w':={ w with heap:=w.heap.push (.cells ((Array.range (n * k)).map (z.cells[· % z.cells.size]!)) e) }) ?_ (hk _ _ (h.alloc _));simp [sOp,execOp,ev0,evE,Instr.makeSlice,run_underlying m,asInt,asIntOf,typeInfo,o,D,G,J,sizeOf,r,newRow,newObj,Sem.run,f,zeroValue,q]
end
section
attribute [local irreducible] Run CondV aq aK
end
end
section
open Go Go.RowKit

section
variable {P:Program} {w w0:World} {X:List Nat} {L:List Item} {S:ae} {K:Value->World->Prop}
attribute [local irreducible] Run CondV aq aK
theorem Run.callVPure {f:FuncId} {fn:Func} {cap args:List Value} {r:Value} (hf:P.funcs[f]?=some fn) (hn:(fn.name == "runtime.NumGoroutine" || fn.body.isNone)=false) (h:Inv w0 X L S w) (hc:Pure P f (args++cap) S r)
  (hk:∀ w',Inv w0 X L S w'->K r w'):Run P (ff (fv f cap) args) w K:=by
 refine Run.callV (A:=L) (I:=[]) hf hn (by simpa using h) (Post:=fun v I' S'=>v=r/\I'=[]/\S'=S) ?_ fun l I' S' w'=>?_
 ·intro g a;exact (hc g a).mono fun e w' ⟨i,a⟩=>⟨_,_,_,i,a,Ext.refl _ _ _,rfl,rfl,rfl⟩
 ·rintro ⟨rfl,rfl,rfl⟩ _ a;exact hk _ (by simpa using a)
end
section
attribute [local irreducible] Run CondV aq aK
end
end
end Go.Proofs.YtgllldjiaglkcaaGreatDoor

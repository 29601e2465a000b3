/- impl.RenumberClause. -/
import Derived.Test.YtgllldjiaglkcaaGreatDoorZUf6
namespace Go.Proofs.YtgllldjiaglkcaaGreatDoor
section
open Go Go.RowKit
section
variable {P:Program} {w:World} {K:Value->World->Prop}
attribute [local irreducible] Run
theorem Ul {T ty e:TypeId} {k h m len cap:Nat} {a:Option Addr} (f:dl P T=some (e,k)) (g:h<=m) (l:m<=cap) (hk:K (.slice (if m=0 then a else a.map (·.add (0 * k))) h m) w) :
  Run P (sOp (.slice T (.const (.slice a len cap)) none (some (.const (.int .i64 h))) (some (.const (.int .i64 m)))) ty) w K:=by
 obtain ⟨o,i,q,r⟩:=qW f;refine Run.of ?_ hk;simp [sOp,execOp,ev0,evE,Instr.sliceAt,Instr.slice,Instr.sliceBounds,run_underlying o,l9 g,l9 l,sizeOf,typeInfo,q]
end
section
attribute [local irreducible] Run CondV aq aK
theorem Qs {α:Type} {R:List Value->α->Prop} {S:ae} {v:Value} {xs:List α} (h:RdSl S 4 R v xs):∃ r,RdSl S 4 R r xs/\Pure Tryz.prog HC [v] S r:=by
 obtain ⟨a,cap,rfl,hl,hc,g⟩:=id h;have e1:∀ m:Nat,(if m=0 then a else a.map (·.add (0 * 4)))=a:=by
  intro m;split
  ·rfl
  ·cases a <;> simp [Addr.add]
 refine ⟨.slice a xs.length xs.length,⟨a,xs.length,rfl,aS _,by omega,g⟩,fun w f=>?_⟩;refine uG.2 ?_;dsimp only[uG,aO];refine aJ h ah ?_;refine aJ h ah ?_;refine Ul ah (aS _) hl ?_;rw [e1];exact done f rfl
theorem jm (n:Int) (S:ae):Pure Tryz.prog Ks [.int .i64 n] S (.agg #[.int .i64 1,.int .i64 n,.string ⟨#[]⟩,.slice none 0 0]):=by
 intro w a;refine wx.2 ?_;dsimp only[wx,aO];refine aQ a bj fun g w' a=>?_;have f:∀ {K:Value->World->Prop} {w':World},K (.agg #[.int .i64 1,.int .i64 n,.string ⟨#[]⟩,.slice none 0 0]) w'->Run Tryz.prog (cR ab [(0,.int .i64 1),(1,.int .i64 n)]) w' K:=by
  intro K w' hk;refine Run.of (v:=.agg #[.int .i64 1,.int .i64 n,.string ⟨#[]⟩,.slice none 0 0]) (w':=w') ?_ hk;unfold cR;rw [Sem.run_bind,run_build w' ab _ #[.int .i64 1,.int .i64 n,.string ⟨#[]⟩,.slice none 0 0] (by kernel_rfl),Result.andThen_ok];rfl
 refine f ?_;refine au a 0 rfl ad rfl rfl (by simp [Value.oneCell']) fun w' a=>?_;refine bB a 0 ad rfl rfl ?_;exact done a rfl
theorem wR {vs:List Int} {S:ae} {g:Nat} {f:Value} {E:TypeId} (n:Int) (h:S g=some (.cells #[f] E)) (i:RdSl S 1 jD f vs) :
  Pure Tryz.prog ik [.int .i64 n,.pointer (some ⟨g,0,none⟩)] S (.agg #[.int .i64 1,.int .i64 (ot vs n),.string ⟨#[]⟩,.slice none 0 0]):=by
 intro w a;refine oi.2 ?_;dsimp only[oi,bm];refine aQ a bj fun l w' a=>?_;refine cQ jy (by rw [a.cellS h]; rfl) ?_;refine Run.callPure sU sW a (r7 n i) fun w' a=>?_;refine Run.callPure kI kM a (jm _ S) fun w' a=>?_;refine au a 0 rfl ad rfl rfl (by simp [Value.oneCell']) fun w' a=>?_;refine bB a 0 ad rfl rfl ?_;exact done a rfl
theorem Ht (vs:List Int) (b5:vs.length<=1000000000):∀ (t:T) (S:ae) (cs:List Value) (g:Nat) (vv:Value) (E:TypeId),RdT S cs t->S g=some (.cells #[vv] E)->RdSl S 1 jD vv vs->wT t<=1048576->
  Tri Tryz.prog sJ [.agg cs.toArray,fv ik [.pointer (some ⟨g,0,none⟩)]] [] S (CP S (jQ vs t)):=by
 refine T.ind fun k n s ks a5 S cs g vv E h hS hv hw=>?_;have ih:∀ t∈ks,∀ (S:ae) (cs:List Value),RdT S cs t->S g=some (.cells #[vv] E)->RdSl S 1 jD vv vs->wT t<=1048576->
  Tri Tryz.prog sJ [.agg cs.toArray,fv ik [.pointer (some ⟨g,0,none⟩)]] [] S (CP S (jQ vs t)):=fun t ht S cs h1 h2 h3 h4=>a5 t ht S cs g vv E h1 h2 h3 h4
 clear a5;intro w a;obtain ⟨kv,rfl,h1,h2,hs,a2⟩:=RdT.iff.1 h;simp only [T.name,T.kids,T.kind,T.n] at h1 h2 hs a2 ⊢;simp only [wT] at hw;have b9:=U1 vs n;refine lY.2 ?_;dsimp only[lY,bm];refine bJ a fun J w' a=>?_;refine aQ a bj fun b4 w' a=>?_;refine af a 0 rfl aW aG rfl ?_;refine bw ?_;rw [jQ];refine aL (fun a1=>?_) (fun a1=>?_)
 ·rw [ai a1];refine af a 0 rfl bi aG rfl ?_;refine Run.callVPure zz yo a (wR n hS hv) fun w' a=>?_;refine au a 1 rfl ad rfl rfl (by simp [Value.oneCell']) fun w' a=>?_;refine bB a 1 ad rfl rfl ?_;exact ⟨_,_,_,rfl,a.pick [false,false],Ext.refl _ _ _,rfl,[_,_,_,_],[],rfl,rfl,TrT.iff.2 ⟨_,rfl,by simp [inI,T.kind],by simp only [inI,T.n]; omega,by rw [T.name]; decide +kernel,TrSl.nil (by simp [maxLen])⟩⟩
 rw [ag a1];refine af a 0 rfl ar al rfl ?_;refine dj a 0 rfl ar al rfl rfl rfl fun w' a=>?_;refine aJ a2 ah ?_;have a:Inv w [] [.blk b4 (.cells #[.int .i64 0,.int .i64 0,.string ⟨#[]⟩,.slice none 0 0] ab),.blk J (.cells #[.int .i64 k,.int .i64 n,.string s,.slice none 0 0] ab)] S w':=a.perm (List.Perm.swap _ _ _);have a:=a.rowNil ab 4;refine ⟨fun i w'=>∃ (j:Nat) (l:Value) (Ls:List bh) (css:List (List Value)),j<=ks.length/\i=.int .i64 j/\Grown 4 TrT Ls css (fC vs (ks.take j))/\
   Inv w [] (.blk b4 (.cells #[.int .i64 0,.int .i64 0,.string ⟨#[]⟩,.slice none 0 0] ab)::.blk J (.cells #[.int .i64 k,.int .i64 n,.string s,l] ab)::aA l ab 4 css::aV Ls.flatten) S w',
  fun i _=>ks.length - (intOf i).toNat,⟨0,_,[],[],bk _,rfl,Grown.nil _ _,a⟩,?_⟩
 intro b6 _ _ _ _ _ _ _ _ _ _ _ _ _ w';rintro ⟨j,l,Ls,css,hj,rfl,hg,a⟩;refine bS ?_;refine aL (fun a9=>?_) (fun a9=>?_)
 ·have a0:j<ks.length:=by omega
  have c0:(ks.take j).length=j:=by simp; omega
  have b1:=hg.hc;rw [pV] at b1;have hm:=bG a0;have c1:=iJ hm;refine co a a2 ah ad a0 (fun _ _=>RdT.length) fun N U=>?_;refine aQ a bj fun b7 w' a=>?_;have a:=a.perm (M:=.blk b7 _::(.blk b4 (.cells #[.int .i64 0,.int .i64 0,.string ⟨#[]⟩,.slice none 0 0] ab)::.blk J (.cells #[.int .i64 k,.int .i64 n,.string s,l] ab)::aA l ab 4 css::aV Ls.flatten)) (cj (l₁:=[_]));refine au a 0 rfl ad (by simpa using U.length) rfl (by simpa using U.one) fun w' a=>?_;refine ⟨fun D sA O ji jv pn kV fN lP w_=>Fx D 0 [lP=.pointer (some ⟨J,3,none⟩),fN=l,kV=.agg N.toArray,pn=fv ik [.pointer (some ⟨g,0,none⟩)],True,True,True,sA=.pointer (some ⟨J,3,none⟩),True]/\∃ M f G,(D 4=true->jv=.agg f.toArray/\TrT M f (jQ vs ks[j]))/\(D 5=true->ji=.slice (some ⟨G,0,none⟩) 1 1)/\(D 5=true->D 4=true)/\(D 6=true->D 5=true)/\(D 8=true->D 6=true)/\(D 8=true->D 1=true)/\Inv w [] (aP (.blk b7 (.cells N.toArray ab)) (.blk b4 (.cells #[.int .i64 0,.int .i64 0,.string ⟨#[]⟩,.slice none 0 0] ab)) (.blk J (.cells #[.int .i64 k,.int .i64 n,.string s,l] ab)) (.blk J (.cells #[.int .i64 k,.int .i64 n,.string s,O] ab)) (aA l ab 4 css) (aA O ab 4 (css++[f])) (aV Ls.flatten) M (.blk G (.cells f.toArray ab)) (D 4) (D 5) (D 6) (D 8)) S w_,⟨Fx.nil _ _,⟨[],[],0,aI,aI,aI,aI,aI,aI,by simpa [aP,aV] using a.draw⟩⟩,⟨?_,?_,?_,?_,?_,?_,?_,?_,?_,trivial⟩,?_⟩;all_goals (intro D Z; intros; rename_i sA O ji jv pn kV fN lP w_ a4; have r:=a4.1; obtain ⟨⟨cI,cJ,cH,cD,cL,cN,cq,dg,dG,_⟩,⟨M,f,G,V,e8,k8,Y,q,k1,a⟩⟩:=a4)
  ·refine aw ar ?_;exact ⟨r.set 0 rfl,⟨M,f,G,V,e8,k8,Y,q,k1,a⟩⟩
  ·obtain rfl:=cI ‹_›;have B:D 8=false:=bx.2 fun h=>by rw [k1 h] at Z; cases Z
   refine aT (b:=J) a 2 (c:=(#[.int .i64 k,.int .i64 n,.string s,l])) al (by rw [B]; rfl) rfl ?_;have k1:=fun (_:ao D 1 8=true)=>(rfl:ao D 1 1=true)
   exact ⟨r.set 1 rfl,⟨M,f,G,V,e8,k8,Y,q,k1,a⟩⟩
  ·refine aC a 0 ad rfl (by simpa using U.length) ?_;exact ⟨r.set 2 rfl,⟨M,f,G,V,e8,k8,Y,q,k1,a⟩⟩
  ·exact ⟨r.set 3 rfl,⟨M,f,G,V,e8,k8,Y,q,k1,a⟩⟩
  ·obtain rfl:=cH ‹_›;obtain rfl:=cD ‹_›;have f8:D 5=false:=bx.2 fun h=>by rw [k8 h] at Z; cases Z
   have f9:D 6=false:=bx.2 fun h=>by rw [Y h] at f8; cases f8
   have B:D 8=false:=bx.2 fun h=>by rw [q h] at f9; cases f9
   rw [Z,f8,f9,B] at a;refine Run.call0 gq gh a (ih _ (bG a0) S N U hS hv (by omega)) fun v' I' S w_=>?_;rintro ⟨rfl,f,M,rfl,rfl,hT⟩ _ a;have V:ao D 4 4=true->Value.agg f.toArray=Value.agg f.toArray/\TrT M f (jQ vs ks[j]):=fun _=>⟨rfl,hT⟩
   have k8:=fun (_:ao D 4 5=true)=>(rfl:ao D 4 4=true)
   have a:Inv w [] (aP (.blk b7 (.cells N.toArray ab)) (.blk b4 (.cells #[.int .i64 0,.int .i64 0,.string ⟨#[]⟩,.slice none 0 0] ab)) (.blk J (.cells #[.int .i64 k,.int .i64 n,.string s,l] ab)) (.blk J (.cells #[.int .i64 k,.int .i64 n,.string s,O] ab)) (aA l ab 4 css) (aA O ab 4 (css++[f])) (aV Ls.flatten) M (.blk G (.cells f.toArray ab)) true (D 5) (D 6) (D 8)) S w_:=by
    rw [f8,f9,B];simpa [aP] using a
   exact ⟨r.set 4 (by first|assumption|trivial),⟨M,f,G,V,e8,k8,Y,q,k1,a⟩⟩
  ·have D1:=cL ‹_›;have f9:D 6=false:=bx.2 fun h=>by rw [Y h] at Z; cases Z
   have B:D 8=false:=bx.2 fun h=>by rw [q h] at f9; cases f9
   obtain ⟨q7,hT⟩:=V ‹D 4=true›;subst q7;rw [‹D 4=true›,Z,f9,B] at a;refine dB a bn (by simp [Value.cells,hT.length]) (by omega) (by omega) fun G w_ a=>?_;have V:ao D 5 4=true->Value.agg f.toArray=Value.agg f.toArray/\TrT M f (jQ vs ks[j]):=fun _=>⟨rfl,hT⟩
   have e8:=fun (_:ao D 5 5=true)=>(rfl:Value.slice (some ⟨G,0,none⟩) 1 1=_)
   have k8:=fun (_:ao D 5 5=true)=>‹D 4=true›;have Y:=fun (_:ao D 5 6=true)=>(rfl:ao D 5 5=true)
   have a:Inv w [] (aP (.blk b7 (.cells N.toArray ab)) (.blk b4 (.cells #[.int .i64 0,.int .i64 0,.string ⟨#[]⟩,.slice none 0 0] ab)) (.blk J (.cells #[.int .i64 k,.int .i64 n,.string s,l] ab)) (.blk J (.cells #[.int .i64 k,.int .i64 n,.string s,O] ab)) (aA l ab 4 css) (aA O ab 4 (css++[f])) (aV Ls.flatten) M (.blk G (.cells f.toArray ab)) (D 4) true (D 6) (D 8)) S w_:=by
    rw [‹D 4=true›,f9,B];simpa [aP,Value.cells] using a
   exact ⟨r.set 5 (by first|assumption|trivial),⟨M,f,G,V,e8,k8,Y,q,k1,a⟩⟩
  ·obtain rfl:=cJ ‹_›;have Hj:=cN ‹_›;have B:D 8=false:=bx.2 fun h=>by rw [q h] at Z; cases Z
   have q8:=e8 ‹D 5=true›;subst q8;obtain ⟨_,hT⟩:=V ‹D 4=true›;rw [‹D 4=true›,‹D 5=true›,Z,B] at a;have a6:((aP (.blk b7 (.cells N.toArray ab)) (.blk b4 (.cells #[.int .i64 0,.int .i64 0,.string ⟨#[]⟩,.slice none 0 0] ab)) (.blk J (.cells #[.int .i64 k,.int .i64 n,.string s,fN] ab)) (.blk J (.cells #[.int .i64 k,.int .i64 n,.string s,O] ab)) (aA fN ab 4 css) (aA O ab 4 (css++[f])) (aV Ls.flatten) M (.blk G (.cells f.toArray ab)) true true false false))[4+(aV Ls.flatten).length+(aV M).length]?=some (.blk G (.cells f.toArray ab)):=by
    have e4:4+(aV Ls.flatten).length+(aV M).length=((aV Ls.flatten).length+(aV M).length)+1+1+1+1:=by omega
    rw [e4];simp only [aP,kO];rw [gG (by omega),mO,gG (aS _),ey]; rfl
   refine dE a 3 f bn (by omega) rfl (by rw [hT.length]) (m:=1) (o:=0) ?_ hT.one (by omega) (by omega) fun v' w_ a=>?_
   ·intro i u hi;rw [a.cellL a6,cP];simpa using hi
   rw [eE] at a;have Y:=fun (_:ao D 6 6=true)=>‹D 5=true›;have q:=fun (_:ao D 6 8=true)=>(rfl:ao D 6 6=true)
   have a:Inv w [] (aP (.blk b7 (.cells N.toArray ab)) (.blk b4 (.cells #[.int .i64 0,.int .i64 0,.string ⟨#[]⟩,.slice none 0 0] ab)) (.blk J (.cells #[.int .i64 k,.int .i64 n,.string s,fN] ab)) (.blk J (.cells #[.int .i64 k,.int .i64 n,.string s,v'] ab)) (aA fN ab 4 css) (aA v' ab 4 (css++[f])) (aV Ls.flatten) M (.blk G (.cells f.toArray ab)) (D 4) (D 5) true (D 8)) S w_:=by
    rw [‹D 4=true›,‹D 5=true›,B];exact a
   exact ⟨r.set 6 (by first|assumption|trivial),⟨M,f,G,V,e8,k8,Y,q,k1,a⟩⟩
  ·refine aw ar ?_;exact ⟨r.set 7 rfl,⟨M,f,G,V,e8,k8,Y,q,k1,a⟩⟩
  ·obtain rfl:=dg ‹_›;have Me:=cq ‹_›;rw [‹D 4=true›,‹D 5=true›,‹D 6=true›,Z] at a;obtain ⟨va,vn,vc,a3⟩:=Inv.rowSlice a 3 rfl;refine dy a 2 (n:=1) (by rw [a3]; rfl) (by decide +kernel) rfl (by simp) (by rw [a3]; simp [Value.cells,Value.oneCell']) fun w_ a=>?_;have a7:Value.cells O=#[O]:=by rw [a3]; rfl
   rw [a7] at a;have k1:=fun (_:ao D 8 8=true)=>‹D 1=true›;have q:=fun (_:ao D 8 8=true)=>‹D 6=true›;have a:Inv w [] (aP (.blk b7 (.cells N.toArray ab)) (.blk b4 (.cells #[.int .i64 0,.int .i64 0,.string ⟨#[]⟩,.slice none 0 0] ab)) (.blk J (.cells #[.int .i64 k,.int .i64 n,.string s,l] ab)) (.blk J (.cells #[.int .i64 k,.int .i64 n,.string s,O] ab)) (aA l ab 4 css) (aA O ab 4 (css++[f])) (aV Ls.flatten) M (.blk G (.cells f.toArray ab)) (D 4) (D 5) (D 6) true) S w_:=by
    rw [‹D 4=true›,‹D 5=true›,‹D 6=true›];exact a
   exact ⟨r.set 8 trivial,⟨M,f,G,V,e8,k8,Y,q,k1,a⟩⟩
  obtain ⟨rfl,rfl,rfl,rfl,D1,Hj,Me,rfl,_,_⟩:=r.all;have Zg:D 4=true:=by assumption
  have Yf:D 5=true:=by assumption
  have OQ:D 6=true:=by assumption
  have FO:D 8=true:=by assumption
  clear r cI cJ cH cD cL cN cq dg dG;obtain ⟨_,hT⟩:=V Zg;rw [Zg,Yf,OQ,FO] at a;refine bC (by omega) ?_;refine ⟨⟨j+1,O,Ls++[M],css++[f],a0,rfl,?_,?_⟩,by simp [intOf]; omega⟩
  ·rw [Ff vs ks j a0];exact hg.snoc hT hT.length
  ·simp only [mG,fh,k0,bV,cK];refine a.sub ?_;simp only [aP];rw [<- dx];exact ((((dt _ _).cons_cons _).cons_cons _).cons_cons _).cons _
 ·have:j=ks.length:=by omega
  subst this;rw [d4] at hg;obtain ⟨va,vn,vc,b0⟩:=a.rowSlice 2 rfl;have b3:l.oneCell'=true:=by rw [b0]; rfl
  refine aC a 1 ad rfl rfl ?_;refine au a 0 rfl ad rfl rfl ?_ fun w' a=>?_
  ·intro u hu;have a8:u∈([.int .i64 k,.int .i64 n,.string s,l]:List Value):=hu;simp at a8;rcases a8 with rfl|rfl|rfl|rfl <;> first|rfl|exact b3
  refine bB a 0 ad rfl rfl ?_;have a:Inv w [] ([]++(aA l ab 4 css::aV Ls.flatten)) S w':=a.sub (dH [_,_] _);obtain ⟨L,hT,a⟩:=Inv.rowTree a hg;exact ⟨_,_,_,rfl,a,Ext.refl _ _ _,rfl,_,L,rfl,rfl,TrT.iff.2 ⟨l,rfl,h1,h2,hs,hT⟩⟩
theorem pT {ts:List T} {S:ae} {v:Value} (h:RdSl S 4 (RdT S) v ts) (hw:ts.length+wL ts<=1048577):Tri Tryz.prog Fz [v] [] S (N6 4 TrT S (fC (cU ts []) ts)):=by
 intro w a;have J:=h.le;simp only [maxLen] at J;have N:=AM ts;have Z:=zc ts [];simp only [bW] at Z;refine rp.2 ?_;dsimp only[rp,aO];refine Run.call0 tX tN a (qL h (by omega)) fun v1 I' S w'=>?_;rintro ⟨rfl,rfl⟩ _ a;have O:(cU ts []).length<=1000000000:=by omega
 generalize cU ts []=vs at a O ⊢;refine aQ a W1 fun b3 w' a=>?_;have l:v1.cells=#[v1]/\v1.oneCell'=true:=by
  have:=a.its (dk v1 vs) (by simp);rcases this.2 with ⟨rfl,_⟩|⟨g,cap,a5,rfl,_⟩ <;> exact ⟨rfl,rfl⟩
 refine dy a 1 (n:=1) (by rw [l.1]; rfl) (by rw [jy]; rfl) rfl (mL rfl) (by rw [l.1]; simpa using l.2) fun w' a=>?_;have a0:cB (Value.slice none 0 0).cells 0 v1.cells.toList=#[v1]:=by
  rw [l.1]; rfl
 have a:Inv w [] [dk v1 vs,.blk b3 (.cells #[v1] s5)] S w':=by
  have:=a;simp only [dS,fZ] at this;rw [a0] at this;exact this
 have a:=a.perm (M:=[.blk b3 (.cells #[v1] s5)]++[dk v1 vs]) (List.Perm.swap _ _ _);obtain ⟨S1,D,G,a,_⟩:=Inv.lend (A:=[_]) a;obtain ⟨a,f⟩:=Inv.publishLast (L:=[]) a;have hb:qc S1 b3 (.cells #[v1] s5) b3=some (.cells #[v1] s5):=by simp [qc]
 generalize qc S1 b3 (.cells #[v1] s5)=S2 at a f hb;have a1:=G.ints.mono f fun _ _ h=>h;have q:=D.trans f;have h:=h.mono q fun _ _ h=>h.mono q;refine aJ h ah ?_;refine ⟨fun i t w'=>∃ (k:Nat) (Ls:List bh) (css:List (List Value)),k<=ts.length/\i=.int .i64 k/\Grown 4 TrT Ls css (fC vs (ts.take k))/\Inv w [] (aA t ab 4 css::aV Ls.flatten) S2 w',
  fun i _ _=>ts.length - (intOf i).toNat,⟨0,[],[],bk _,rfl,Grown.nil _ _,a.rowNil ab 4⟩,?_⟩
 intro a2 _ t4 _ _ _ _ _ _ _ _ _ _ w';rintro ⟨k,Ls,css,hk,rfl,V,a⟩;refine bS ?_;refine aL (fun Y=>?_) (fun Y=>?_)
 ·have m:k<ts.length:=by omega
  have a3:(ts.take k).length=k:=by simp; omega
  have N:=V.hc;rw [pV] at N;have hm:=bG m;have a4:=iJ hm;refine co a h ah ad m (fun _ _=>RdT.length) fun cs o=>?_;have U:=o.length;refine aQ a bj fun b6 w' a=>?_;have a:=a.perm (M:=.blk b6 _::(aA t4 ab 4 css::aV Ls.flatten)) (cj (l₁:=[_]));refine au a 0 rfl ad (by simpa using U) rfl (by simpa using o.one) fun w' a=>?_;refine aC a 0 ad rfl (by simpa using U) ?_;have a:Inv w [] (aA t4 ab 4 css::aV Ls.flatten) S2 w':=a.sub (fH _ _);refine mP ?_;refine Run.call0 gq gh a (Ht vs O _ S2 cs b3 v1 s5 o hb a1 (by omega)) fun v' I' S' w'=>?_;rintro ⟨rfl,B,L,rfl,rfl,r⟩ _ a;refine de a 0 B bn (by omega) (by omega) rfl r.length r.one (by omega) (by omega) fun v' w' a=>?_;refine bC (by omega) ?_;refine ⟨⟨k+1,Ls++[L],css++[B],m,rfl,?_,?_⟩,by simp [intOf]; omega⟩
  ·rw [Ff vs ts k m];exact V.snoc r r.length
  ·simp only [mG,fh,k0,bV,cK];exact a
 ·have:k=ts.length:=by omega
  subst this;rw [d4] at V;obtain ⟨L,r,a⟩:=Inv.rowTree (A:=[]) a V;exact ⟨_,_,_,rfl,a.less q,Ext.refl _ _ _,rfl,_,rfl,r⟩
end
end
section
open Go Go.RowKit
mutual
theorem D0 (vs:List Int):∀ t:T,wT (dq vs t)=wT t
 | .mk k n s ks=>by rw [dq,wT,wT,mc,Eg vs ks]
theorem Eg (vs:List Int):∀ ts:List T,wL (er vs ts)=wL ts
 | []=>rfl
 | t::ts=>by rw [er,wL,wL,D0 vs t,Eg vs ts]
end
theorem Wp (vs:List Int) (c:C):wC (vd vs c)=wC c:=by
 simp only [wC,vd,D0,Eg,mc]
section
attribute [local irreducible] Run CondV aq aK
theorem Ny {c:C} {S:ae} {cs:List Value} (h:RdC S cs c) (U:cU (c.head::c.body) []=bX c/\jQ (bX c) c.head=dq (bX c) c.head/\fC (bX c) c.body=er (bX c) c.body) (hw:wC c<=1048576) :
  Tri Tryz.prog KL [.agg cs.toArray] [] S (aaD (vd (bX c) c)):=by
 intro w f;obtain ⟨e1,e2,e3⟩:=U;obtain ⟨hd,ks,rfl,h1,h2⟩:=h;have Z:=h1;obtain ⟨kv,rfl,g1,g2,g3,g4⟩:=RdT.iff.1 h1;have a0:=h2.le;simp only [maxLen] at a0;unfold wC at hw;refine wl.2 ?_;dsimp only[wl,aO];refine bJ f fun b1 w' f=>?_;refine aQ f cX fun b2 w' f=>?_;refine aw bO ?_;refine dC f 0 [.int .i64 c.head.kind,.int .i64 c.head.n,.string c.head.name,kv] ad rfl rfl Ax ?_;refine dB f bn (by simp [Value.cells]) (by omega) (by omega) fun b7 w' f=>?_;refine af f 0 rfl aU al rfl ?_;have f:=Inv.closeRow (A:=[_,_]) (cap:=1) (k:=4) (n:=1) f (by omega) (by simp [maxLen]) (by simp [Value.cells]);refine i5 f 2 (css:=[[.int .i64 c.head.kind,.int .i64 c.head.n,.string c.head.name,kv]]) bn (by omega) rfl h2 (fun _ _=>RdT.length) (fun _ _=>RdT.one) (by simp; omega) (by omega) fun v' w' a5 hR f=>?_;have hR:=(Rows.one Z Z.length).append hR;obtain ⟨S1,O,a1,f,_⟩:=Inv.lend (A:=[_,_]) f;have a3:RdSl S1 4 (RdT S1) v' (c.head::c.body):=(RowRd.rows hR a1).mono (Sle.refl _) fun _ _ h=>h.mono O;refine Run.call0 rL rM f (pT a3 (by simp only [wL,bq]; omega)) fun a7 I' S' w'=>?_;rintro ⟨rfl,M,rfl,hT⟩ _ f;obtain ⟨S2,f,hE,Y⟩:=(f.less O).pubExt;have hr:=hT.rd Y fun _ _ _ hi h=>h.rd hi;rw [e1,fC,e2,e3] at hr;have a4:=fun (v:Value) (h:RdSl S2 4 (RdT S2) v ((dq (bX c) c.head::er (bX c) c.body).drop 1))=>h;obtain ⟨b,o,cap,cc,E,fz,rfl,hS,N⟩:=hr.at_ (i:=0) (by simp);rw [lc] at N;obtain ⟨q,ec,f1,f2,f3,f4⟩:=RdT.iff.1 N;rw [ec] at N;obtain ⟨ka,kn,kc,a2⟩:∃ a n m,q=.slice a n m:=by
  obtain ⟨a,m,e,_⟩:=f4;exact ⟨_,_,_,e⟩
 refine ⟨fun D jX rb wt Hi Rn Sv Io w_=>Fx D 0 [Io=.slice (some ⟨b,o,none⟩) ((er (bX c) c.body).length+1) cap,Sv=.pointer (some ⟨b,o+0 * 4,none⟩),Rn=.agg #[.int .i64 (dq (bX c) c.head).kind,.int .i64 (dq (bX c) c.head).n,.string (dq (bX c) c.head).name,q],Hi=.slice (some ⟨b,o,none⟩) ((er (bX c) c.body).length+1) cap,RdSl S2 4 (RdT S2) wt (er (bX c) c.body),RdSl S2 4 (RdT S2) rb (er (bX c) c.body),∃ t,jX=.agg #[.int .i64 (dq (bX c) c.head).kind,.int .i64 (dq (bX c) c.head).n,.string (dq (bX c) c.head).name,q,t]/\RdSl S2 4 (RdT S2) t (er (bX c) c.body),True]/\∃ B2,B2.size=5/\(D 7=true->∃ t,B2=#[.int .i64 (dq (bX c) c.head).kind,.int .i64 (dq (bX c) c.head).n,.string (dq (bX c) c.head).name,q,t]/\RdSl S2 4 (RdT S2) t (er (bX c) c.body))/\Inv w [] [.blk b1 (.cells #[.int .i64 c.head.kind,.int .i64 c.head.n,.string c.head.name,kv,ks] ac),.blk b2 (.cells B2 ac)] S2 w_,⟨Fx.nil _ _,⟨_,rfl,aI,f.draw⟩⟩,⟨?_,?_,?_,?_,?_,?_,?_,?_,trivial⟩,?_⟩;all_goals (intro D bH; intros; rename_i jX rb wt Hi Rn Sv Io w_ V; have g:=V.1; obtain ⟨⟨cI,cJ,cH,cD,cL,cN,cq,dg,_⟩,⟨B2,G,J,f⟩⟩:=V)
 ·exact ⟨g.set 0 rfl,⟨B2,G,J,f⟩⟩
 ·obtain rfl:=cI ‹_›;refine az (i:=0) ah (by simp) ?_;exact ⟨g.set 1 rfl,⟨B2,G,J,f⟩⟩
 ·obtain rfl:=cJ ‹_›;refine ci (cs:=[.int .i64 (dq (bX c) c.head).kind,.int .i64 (dq (bX c) c.head).n,.string (dq (bX c) c.head).name,q]) ad rfl (fun j v hj=>by rw [f.cellS hS]; exact aF ec j v hj) ?_;exact ⟨g.set 2 rfl,⟨B2,G,J,f⟩⟩
 ·exact ⟨g.set 3 rfl,⟨B2,G,J,f⟩⟩
 ·obtain rfl:=cD ‹_›;refine fk (l:=1) ah hr (by simp) fun t B=>?_;rw [Um,ym] at B;exact ⟨g.set 4 (by first|assumption|trivial),⟨B2,G,J,f⟩⟩
 ·have D1:=cL ‹_›;obtain ⟨r,a8,hp⟩:=Qs D1;refine Run.callPure Hf EE f hp fun w_ f=>?_;exact ⟨g.set 5 (by first|assumption|trivial),⟨B2,G,J,f⟩⟩
 ·obtain rfl:=cH ‹_›;have Hj:=cN ‹_›;refine kJ ?_ ?_
  ·obtain ⟨a,m,e,_⟩:=Hj;exact ⟨_,_,_,e⟩
  have a6:∃ t,Value.agg #[.int .i64 (dq (bX c) c.head).kind,.int .i64 (dq (bX c) c.head).n,.string (dq (bX c) c.head).name,q,rb]=.agg #[.int .i64 (dq (bX c) c.head).kind,.int .i64 (dq (bX c) c.head).n,.string (dq (bX c) c.head).name,q,t]/\RdSl S2 4 (RdT S2) t (er (bX c) c.body):=⟨_,rfl,Hj⟩
  exact ⟨g.set 6 (by first|assumption|trivial),⟨B2,G,J,f⟩⟩
 ·have Me:=cq ‹_›;obtain ⟨t,rfl,B⟩:=Me;obtain ⟨a,m,e,_⟩:=id B;subst e;refine au f 1 rfl aH rfl G (by simp [Value.oneCell',a2]) fun w_ f=>?_;obtain ⟨B2,hq⟩:∃ B2,B2=(#[.int .i64 (dq (bX c) c.head).kind,.int .i64 (dq (bX c) c.head).n,.string (dq (bX c) c.head).name,q,.slice a (er (bX c) c.body).length m]:Array Value):=⟨_,rfl⟩
  rw [<- hq] at f;have G:B2.size=5:=by rw [hq]; rfl
  have J:=fun (_:ao D 7 7=true)=>(⟨_,hq,B⟩:∃ t,B2=#[.int .i64 (dq (bX c) c.head).kind,.int .i64 (dq (bX c) c.head).n,.string (dq (bX c) c.head).name,q,t]/\RdSl S2 4 (RdT S2) t (er (bX c) c.body))
  exact ⟨g.set 7 trivial,⟨B2,G,J,f⟩⟩
 obtain ⟨rfl,rfl,rfl,rfl,D1,Hj,Me,_,_⟩:=g.all;have vm:D 7=true:=by assumption
 clear g cI cJ cH cD cL cN cq dg;obtain ⟨t,rfl,B⟩:=J vm;refine bB f 1 aH rfl rfl ?_;exact ⟨_,_,_,rfl,f.pick [false,false],hE,rfl,_,rfl,⟨_,_,rfl,N,B⟩⟩
theorem TrC.zero:TrC [] [.int .i64 0,.int .i64 0,.string ⟨#[]⟩,.slice none 0 0,.slice none 0 0] ⟨⟨0,0,⟨#[]⟩,[]⟩,[]⟩:=
 ⟨[.int .i64 0,.int .i64 0,.string ⟨#[]⟩,.slice none 0 0],.slice none 0 0,[],[],rfl,rfl,TrT.iff.2 ⟨_,rfl,by simp [inI,T.kind],by simp [inI,T.n],by rw [T.name]; decide +kernel,TrSl.nil (by simp [maxLen])⟩,TrSl.nil (by simp [maxLen])⟩
end
end
end Go.Proofs.YtgllldjiaglkcaaGreatDoor

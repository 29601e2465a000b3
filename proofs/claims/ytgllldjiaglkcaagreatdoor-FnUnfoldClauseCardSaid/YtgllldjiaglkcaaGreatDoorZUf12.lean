/- Copies whose topmost row is still the caller's own, all else published. (printed by gen_top.py out of Copy and CopyC) -/
import Derived.Test.YtgllldjiaglkcaaGreatDoorZUf11
namespace Go.Proofs.YtgllldjiaglkcaaGreatDoor
section
open Go Go.RowKit
theorem Grown.rows {α:Type} {k:Nat} {R:bh->List Value->α->Prop} {R':List Value->α->Prop} {Ls:List bh} {css:List (List Value)} {ys:List α} {S:ae} (h:Grown k R Ls css ys) (f:Ins S Ls.flatten)
  (hR:∀ L cs x,Ins S L->R L cs x->R' cs x):Rows k R' css ys:=
 ⟨h.hc,h.hk,fun i a g=>hR _ _ _ (D5 f (by rw [h.hL]; exact a)) (h.hR i a (by rw [h.hL]; exact a) g)⟩
abbrev Vl (t:T):Value->List Item->ae->Prop:=fun v I' S'=>∃ kv css,v=.agg #[.int .i64 t.kind,.int .i64 t.n,.string t.name,kv]/\I'=[aA kv ab 4 css]/\Rows 4 (RdT S') css t.kids
abbrev V1 (c:C):Value->List Item->ae->Prop:=fun v I' S'=>∃ hd kv css,v=.agg (hd++[kv]).toArray/\RdT S' hd c.head/\I'=[aA kv ab 4 css]/\Rows 4 (RdT S') css c.body
section
attribute [local irreducible] Run CondV aq aK
theorem TF:∀ (t:T) (S:ae) (cs:List Value),RdT S cs t->wT t<=1048576->Tri Tryz.prog wH [.agg cs.toArray] [] S (Vl t):=by
 intro t S cs h hw;obtain ⟨k,n,s,ks⟩:=t;have ih:∀ t∈ks,∀ (S:ae) (cs:List Value),RdT S cs t->wT t<=1048576->Tri Tryz.prog wH [.agg cs.toArray] [] S (CP S t):=fun t _=>il t;intro w f;obtain ⟨kv,rfl,h1,h2,hs,a0⟩:=RdT.iff.1 h;simp only [T.name,T.kids,T.kind,T.n] at h1 h2 hs a0 ⊢;simp only [wT] at hw;refine nu.2 ?_;dsimp only[nu,aO];refine bJ f fun b1 w' f=>?_;refine aQ f bj fun b2 w' f=>?_;refine af f 0 rfl aW aG rfl ?_;refine af f 0 rfl bi aG rfl ?_;refine af f 0 rfl bl be rfl ?_;refine jd ?_;refine aQ f bj fun b3 w' f=>?_;refine au f 2 rfl ad rfl rfl (by simp [Value.oneCell']) fun w' f=>?_;have f:=f.rowNil ab 4;refine ⟨fun i w'=>∃ (j:Nat) (l:Value) (Ls:List bh) (css:List (List Value)),j<=ks.length/\i=.int .i64 j/\Grown 4 TrT Ls css (ks.take j)/\
   Inv w [] (.blk b1 (.cells #[.int .i64 k,.int .i64 n,.string s,kv] ab)::.blk b2 (.cells #[.int .i64 0,.int .i64 0,.string ⟨#[]⟩,.slice none 0 0] ab)::.blk b3 (.cells #[.int .i64 k,.int .i64 n,.string s,l] ab)::aA l ab 4 css::aV Ls.flatten) S w',
  fun i _=>ks.length - (intOf i).toNat,⟨0,_,[],[],bk _,rfl,Grown.nil _ _,f⟩,?_⟩
 intro t4 _ _ _ _ _ _ _ _ _ _ _ _ _ _ _ _ _ _ w';rintro ⟨j,l,Ls,css,hj,rfl,hg,f⟩;refine af f 0 rfl ar al rfl ?_;refine aJ a0 ah ?_;refine bS ?_;refine aL (fun a7=>?_) (fun a7=>?_)
 ·have Y:j<ks.length:=by omega
  have b0:(ks.take j).length=j:=by simp; omega
  have b4:=hg.hc;have hm:=bG Y;have b5:=iJ hm;obtain ⟨b,o,cap,c,E,fz,rfl,hS,hR⟩:=a0.at_ Y;refine ⟨fun D ji U pn kV fN lP r4 pR oK jG kZ w_=>Fx D 0 [kZ=.pointer (some ⟨b3,3,none⟩),jG=l,oK=.pointer (some ⟨b1,3,none⟩),pR=.slice (some ⟨b,o,none⟩) (ks).length cap,r4=.int .i64 j,lP=.pointer (some ⟨b,o+j * 4,none⟩),fN=.agg (aX c (o+j * 4) 4).toArray,True,True,True,ji=.pointer (some ⟨b3,3,none⟩),True]/\∃ M a r,(D 7=true->kV=.agg a.toArray/\TrT M a (ks)[j])/\(D 8=true->pn=.slice (some ⟨r,0,none⟩) 1 1)/\(D 8=true->D 7=true)/\(D 9=true->D 8=true)/\(D 11=true->D 9=true)/\(D 11=true->D 1=true)/\Inv w [] (aP (.blk b1 (.cells #[.int .i64 k,.int .i64 n,.string s,.slice (some ⟨b,o,none⟩) ks.length cap] ab)) (.blk b2 (.cells #[.int .i64 0,.int .i64 0,.string ⟨#[]⟩,.slice none 0 0] ab)) (.blk b3 (.cells #[.int .i64 k,.int .i64 n,.string s,l] ab)) (.blk b3 (.cells #[.int .i64 k,.int .i64 n,.string s,U] ab)) (aA l ab 4 css) (aA U ab 4 (css++[a])) (aV Ls.flatten) M (.blk r (.cells a.toArray ab)) (D 7) (D 8) (D 9) (D 11)) S w_,⟨Fx.nil _ _,⟨[],[],0,aI,aI,aI,aI,aI,aI,by simpa [aP,aV] using f.draw⟩⟩,⟨?_,?_,?_,?_,?_,?_,?_,?_,?_,?_,?_,?_,trivial⟩,?_⟩;all_goals (intro D Z; intros; rename_i ji U pn kV fN lP r4 pR oK jG kZ w_ a2; have q:=a2.1; obtain ⟨⟨cI,cJ,cH,cD,cL,cN,cq,dg,dG,dL,cT,dn,_⟩,⟨M,a,r,G,V,N,J,g,O,f⟩⟩:=a2)
  ·refine aw ar ?_;exact ⟨q.set 0 rfl,⟨M,a,r,G,V,N,J,g,O,f⟩⟩
  ·obtain rfl:=cI ‹_›;have B:D 11=false:=bx.2 fun h=>by rw [O h] at Z; cases Z
   refine aT (b:=b3) f 2 (c:=(#[.int .i64 k,.int .i64 n,.string s,l])) al (by rw [B]; rfl) rfl ?_;have O:=fun (_:ao D 1 11=true)=>(rfl:ao D 1 1=true)
   exact ⟨q.set 1 rfl,⟨M,a,r,G,V,N,J,g,O,f⟩⟩
  ·refine aw ar ?_;exact ⟨q.set 2 rfl,⟨M,a,r,G,V,N,J,g,O,f⟩⟩
  ·obtain rfl:=cH ‹_›;refine aT f 0 al rfl rfl ?_;exact ⟨q.set 3 rfl,⟨M,a,r,G,V,N,J,g,O,f⟩⟩
  ·exact ⟨q.set 4 rfl,⟨M,a,r,G,V,N,J,g,O,f⟩⟩
  ·obtain rfl:=cD ‹_›;obtain rfl:=cL ‹_›;refine az ah Y ?_;exact ⟨q.set 5 rfl,⟨M,a,r,G,V,N,J,g,O,f⟩⟩
  ·obtain rfl:=cN ‹_›;refine ci ad hR.length (fun j v hj=>by rw [f.cellS hS]; exact aF rfl j v hj) ?_;exact ⟨q.set 6 rfl,⟨M,a,r,G,V,N,J,g,O,f⟩⟩
  ·obtain rfl:=cq ‹_›;have f8:D 8=false:=bx.2 fun h=>by rw [N h] at Z; cases Z
   have f9:D 9=false:=bx.2 fun h=>by rw [J h] at f8; cases f8
   have B:D 11=false:=bx.2 fun h=>by rw [g h] at f9; cases f9
   rw [Z,f8,f9,B] at f;refine Run.call0 fP fO f (ih _ (bG Y) S _ hR (by omega)) fun v' I' S w_=>?_;rintro ⟨rfl,a,M,rfl,rfl,hT⟩ _ f;have G:ao D 7 7=true->Value.agg a.toArray=Value.agg a.toArray/\TrT M a (ks)[j]:=fun _=>⟨rfl,hT⟩
   have N:=fun (_:ao D 7 8=true)=>(rfl:ao D 7 7=true)
   have f:Inv w [] (aP (.blk b1 (.cells #[.int .i64 k,.int .i64 n,.string s,.slice (some ⟨b,o,none⟩) ks.length cap] ab)) (.blk b2 (.cells #[.int .i64 0,.int .i64 0,.string ⟨#[]⟩,.slice none 0 0] ab)) (.blk b3 (.cells #[.int .i64 k,.int .i64 n,.string s,l] ab)) (.blk b3 (.cells #[.int .i64 k,.int .i64 n,.string s,U] ab)) (aA l ab 4 css) (aA U ab 4 (css++[a])) (aV Ls.flatten) M (.blk r (.cells a.toArray ab)) true (D 8) (D 9) (D 11)) S w_:=by
    rw [f8,f9,B];simpa [aP] using f
   exact ⟨q.set 7 (by first|assumption|trivial),⟨M,a,r,G,V,N,J,g,O,f⟩⟩
  ·have WA:=dg ‹_›;have f9:D 9=false:=bx.2 fun h=>by rw [J h] at Z; cases Z
   have B:D 11=false:=bx.2 fun h=>by rw [g h] at f9; cases f9
   obtain ⟨q7,hT⟩:=G ‹D 7=true›;subst q7;rw [‹D 7=true›,Z,f9,B] at f;refine dB f bn (by simp [Value.cells,hT.length]) (by omega) (by omega) fun r w_ f=>?_;have G:ao D 8 7=true->Value.agg a.toArray=Value.agg a.toArray/\TrT M a (ks)[j]:=fun _=>⟨rfl,hT⟩
   have V:=fun (_:ao D 8 8=true)=>(rfl:Value.slice (some ⟨r,0,none⟩) 1 1=_)
   have N:=fun (_:ao D 8 8=true)=>‹D 7=true›;have J:=fun (_:ao D 8 9=true)=>(rfl:ao D 8 8=true)
   have f:Inv w [] (aP (.blk b1 (.cells #[.int .i64 k,.int .i64 n,.string s,.slice (some ⟨b,o,none⟩) ks.length cap] ab)) (.blk b2 (.cells #[.int .i64 0,.int .i64 0,.string ⟨#[]⟩,.slice none 0 0] ab)) (.blk b3 (.cells #[.int .i64 k,.int .i64 n,.string s,l] ab)) (.blk b3 (.cells #[.int .i64 k,.int .i64 n,.string s,U] ab)) (aA l ab 4 css) (aA U ab 4 (css++[a])) (aV Ls.flatten) M (.blk r (.cells a.toArray ab)) (D 7) true (D 9) (D 11)) S w_:=by
    rw [‹D 7=true›,f9,B];simpa [aP,Value.cells] using f
   exact ⟨q.set 8 (by first|assumption|trivial),⟨M,a,r,G,V,N,J,g,O,f⟩⟩
  ·obtain rfl:=cJ ‹_›;have DH:=dG ‹_›;have B:D 11=false:=bx.2 fun h=>by rw [g h] at Z; cases Z
   have q8:=V ‹D 8=true›;subst q8;obtain ⟨_,hT⟩:=G ‹D 7=true›;rw [‹D 7=true›,‹D 8=true›,Z,B] at f;have a4:((aP (.blk b1 (.cells #[.int .i64 k,.int .i64 n,.string s,.slice (some ⟨b,o,none⟩) ks.length cap] ab)) (.blk b2 (.cells #[.int .i64 0,.int .i64 0,.string ⟨#[]⟩,.slice none 0 0] ab)) (.blk b3 (.cells #[.int .i64 k,.int .i64 n,.string s,jG] ab)) (.blk b3 (.cells #[.int .i64 k,.int .i64 n,.string s,U] ab)) (aA jG ab 4 css) (aA U ab 4 (css++[a])) (aV Ls.flatten) M (.blk r (.cells a.toArray ab)) true true false false))[4+(aV Ls.flatten).length+(aV M).length]?=some (.blk r (.cells a.toArray ab)):=by
    have e4:4+(aV Ls.flatten).length+(aV M).length=((aV Ls.flatten).length+(aV M).length)+1+1+1+1:=by omega
    rw [e4];simp only [aP,kO];rw [gG (by omega),mO,gG (aS _),ey]; rfl
   refine dE f 3 a bn (by omega) rfl (by rw [hT.length]) (m:=1) (o:=0) ?_ hT.one (by omega) (by omega) fun v' w_ f=>?_
   ·intro i u hi;rw [f.cellL a4,cP];simpa using hi
   rw [eE] at f;have J:=fun (_:ao D 9 9=true)=>‹D 8=true›;have g:=fun (_:ao D 9 11=true)=>(rfl:ao D 9 9=true)
   have f:Inv w [] (aP (.blk b1 (.cells #[.int .i64 k,.int .i64 n,.string s,.slice (some ⟨b,o,none⟩) ks.length cap] ab)) (.blk b2 (.cells #[.int .i64 0,.int .i64 0,.string ⟨#[]⟩,.slice none 0 0] ab)) (.blk b3 (.cells #[.int .i64 k,.int .i64 n,.string s,jG] ab)) (.blk b3 (.cells #[.int .i64 k,.int .i64 n,.string s,v'] ab)) (aA jG ab 4 css) (aA v' ab 4 (css++[a])) (aV Ls.flatten) M (.blk r (.cells a.toArray ab)) (D 7) (D 8) true (D 11)) S w_:=by
    rw [‹D 7=true›,‹D 8=true›,B];exact f
   exact ⟨q.set 9 (by first|assumption|trivial),⟨M,a,r,G,V,N,J,g,O,f⟩⟩
  ·refine aw ar ?_;exact ⟨q.set 10 rfl,⟨M,a,r,G,V,N,J,g,O,f⟩⟩
  ·obtain rfl:=cT ‹_›;have Eb:=dL ‹_›;rw [‹D 7=true›,‹D 8=true›,‹D 9=true›,Z] at f;obtain ⟨va,vn,vc,a1⟩:=Inv.rowSlice f 3 rfl;refine dy f 2 (n:=1) (by rw [a1]; rfl) (by decide +kernel) rfl (by simp) (by rw [a1]; simp [Value.cells,Value.oneCell']) fun w_ f=>?_;have a5:Value.cells U=#[U]:=by rw [a1]; rfl
   rw [a5] at f;have O:=fun (_:ao D 11 11=true)=>‹D 1=true›;have g:=fun (_:ao D 11 11=true)=>‹D 9=true›;have f:Inv w [] (aP (.blk b1 (.cells #[.int .i64 k,.int .i64 n,.string s,.slice (some ⟨b,o,none⟩) ks.length cap] ab)) (.blk b2 (.cells #[.int .i64 0,.int .i64 0,.string ⟨#[]⟩,.slice none 0 0] ab)) (.blk b3 (.cells #[.int .i64 k,.int .i64 n,.string s,l] ab)) (.blk b3 (.cells #[.int .i64 k,.int .i64 n,.string s,U] ab)) (aA l ab 4 css) (aA U ab 4 (css++[a])) (aV Ls.flatten) M (.blk r (.cells a.toArray ab)) (D 7) (D 8) (D 9) true) S w_:=by
    rw [‹D 7=true›,‹D 8=true›,‹D 9=true›];exact f
   exact ⟨q.set 11 trivial,⟨M,a,r,G,V,N,J,g,O,f⟩⟩
  obtain ⟨rfl,rfl,rfl,rfl,rfl,rfl,rfl,WA,DH,Eb,rfl,_,_⟩:=q.all;have vm:D 7=true:=by assumption
  have FO:D 8=true:=by assumption
  have OK:D 9=true:=by assumption
  have Ai:D 11=true:=by assumption
  clear q cI cJ cH cD cL cN cq dg dG dL cT dn;obtain ⟨_,hT⟩:=G vm;rw [vm,FO,OK,Ai] at f;refine bC (by omega) ?_;refine ⟨⟨j+1,U,Ls++[M],css++[a],Y,rfl,?_,?_⟩,by simp [intOf]; omega⟩
  ·rw [eV Y];exact hg.snoc hT hT.length
  ·simp only [mG,fh,k0,bV,cK];refine f.sub ?_;simp only [aP];rw [<- dx];exact (((dt _ _).cons_cons _).cons_cons _).cons_cons _ |>.cons_cons _
 ·have:j=ks.length:=by omega
  subst this;rw [d4] at hg;obtain ⟨va,vn,vc,a8⟩:=f.rowSlice 3 rfl;have a9:l.oneCell'=true:=by rw [a8]; rfl
  refine aC f 2 ad rfl rfl ?_;refine au f 1 rfl ad rfl rfl ?_ fun w' f=>?_
  ·intro u hu;have a6:u∈([.int .i64 k,.int .i64 n,.string s,l]:List Value):=hu;simp at a6;rcases a6 with rfl|rfl|rfl|rfl <;> first|rfl|exact a9
  refine bB f 1 ad rfl rfl ?_;have f:Inv w [] ([aA l ab 4 css]++aV Ls.flatten) S w':=f.sub (dH [_,_,_] _);obtain ⟨S1,f,hE,a3⟩:=f.pubExt;exact ⟨_,_,S1,rfl,f,hE,_,css,rfl,rfl,hg.rows a3 fun _ _ _ hi h=>h.rd hi⟩
theorem SL {a:C} {S:ae} {cs:List Value} (h:RdC S cs a) (hw:wC a<=1048576):Tri Tryz.prog GZ [.agg cs.toArray] [] S (V1 a):=by
 intro w f;obtain ⟨hd,ks,rfl,h1,h2⟩:=h;have b0:=h1;obtain ⟨kv,rfl,g1,g2,g3,g4⟩:=RdT.iff.1 h1;unfold wC at hw;refine mY.2 ?_;dsimp only[mY,aO];refine bJ f fun b1 w' f=>?_;refine aQ f cX fun b2 w' f=>?_;refine aw bO ?_;refine dC f 0 [.int .i64 a.head.kind,.int .i64 a.head.n,.string a.head.name,kv] ad rfl rfl Ax ?_;refine Run.call0 fP fO f (il _ S _ b0 (by omega)) fun v' I' S w'=>?_;rintro ⟨rfl,b5,N,rfl,rfl,a3⟩ _ f;obtain ⟨B,rfl,_⟩:=TrT.iff.1 a3;refine lg ?_;refine aQ f cX fun b3 w' f=>?_;have f:=f.perm (M:=.blk b1 _::.blk b2 _::.blk b3 _::aV N) (((cj (l₁:=[_])).cons _).cons _);refine au f 2 rfl aH rfl rfl ?_ fun w' f=>?_
 ·intro u hu;have a1:u∈([.int .i64 a.head.kind,.int .i64 a.head.n,.string a.head.name,B,.slice none 0 0]:List Value):=hu;simp at a1;have o1:B.oneCell'=true:=a3.one B (by simp);rcases a1 with rfl|rfl|rfl|rfl|rfl <;> first|rfl|exact o1
 have f:=f.rowNil ab 4;have f:=f.perm (M:=.blk b1 (.cells #[.int .i64 a.head.kind,.int .i64 a.head.n,.string a.head.name,kv,ks] ac)::.blk b2 (.cells #[.int .i64 0,.int .i64 0,.string ⟨#[]⟩,.slice none 0 0,.slice none 0 0] ac)::.blk b3 (.cells #[.int .i64 a.head.kind,.int .i64 a.head.n,.string a.head.name,B,.slice none 0 0] ac)::aA (.slice none 0 0) ab 4 []::aV N) ((((cj (l₁:=[_])).cons _).cons _).cons _);refine ⟨fun i w'=>∃ (j:Nat) (l:Value) (Ls:List bh) (css:List (List Value)),j<=a.body.length/\i=.int .i64 j/\Grown 4 TrT Ls css (a.body.take j)/\
   Inv w [] (.blk b1 (.cells #[.int .i64 a.head.kind,.int .i64 a.head.n,.string a.head.name,kv,ks] ac)::.blk b2 (.cells #[.int .i64 0,.int .i64 0,.string ⟨#[]⟩,.slice none 0 0,.slice none 0 0] ac)::.blk b3 (.cells #[.int .i64 a.head.kind,.int .i64 a.head.n,.string a.head.name,B,l] ac)::aA l ab 4 css::aV (N::Ls).flatten) S w',
  fun i _=>a.body.length - (intOf i).toNat,⟨0,_,[],[],bk _,rfl,Grown.nil _ _,by simp only [fh,k0,bV]; exact f⟩,?_⟩
 intro t4 _ _ _ _ _ _ _ _ _ _ _ _ _ _ _ _ _ _ w';rintro ⟨j,l,Ls,css,hj,rfl,hg,f⟩;refine af f 0 rfl aU al rfl ?_;refine aJ h2 ah ?_;refine bS ?_;refine aL (fun a8=>?_) (fun a8=>?_)
 ·have a2:j<a.body.length:=by omega
  have b6:(a.body.take j).length=j:=by simp; omega
  have b7:=hg.hc;have hm:=bG a2;have b9:=iJ hm;obtain ⟨b,o,cap,c,E,fz,rfl,hS,hR⟩:=h2.at_ a2;refine ⟨fun D kV Y lP r4 pR oK jG kZ rF jX rb w_=>Fx D 0 [rb=.pointer (some ⟨b3,4,none⟩),jX=l,rF=.pointer (some ⟨b1,4,none⟩),kZ=.slice (some ⟨b,o,none⟩) (a.body).length cap,jG=.int .i64 j,oK=.pointer (some ⟨b,o+j * 4,none⟩),pR=.agg (aX c (o+j * 4) 4).toArray,True,True,True,kV=.pointer (some ⟨b3,4,none⟩),True]/\∃ M g t,(D 7=true->r4=.agg g.toArray/\TrT M g (a.body)[j])/\(D 8=true->lP=.slice (some ⟨t,0,none⟩) 1 1)/\(D 8=true->D 7=true)/\(D 9=true->D 8=true)/\(D 11=true->D 9=true)/\(D 11=true->D 1=true)/\Inv w [] (aP (.blk b1 (.cells #[.int .i64 a.head.kind,.int .i64 a.head.n,.string a.head.name,kv,.slice (some ⟨b,o,none⟩) a.body.length cap] ac)) (.blk b2 (.cells #[.int .i64 0,.int .i64 0,.string ⟨#[]⟩,.slice none 0 0,.slice none 0 0] ac)) (.blk b3 (.cells #[.int .i64 a.head.kind,.int .i64 a.head.n,.string a.head.name,B,l] ac)) (.blk b3 (.cells #[.int .i64 a.head.kind,.int .i64 a.head.n,.string a.head.name,B,Y] ac)) (aA l ab 4 css) (aA Y ab 4 (css++[g])) (aV (N::Ls).flatten) M (.blk t (.cells g.toArray ab)) (D 7) (D 8) (D 9) (D 11)) S w_,⟨Fx.nil _ _,⟨[],[],0,aI,aI,aI,aI,aI,aI,by simpa [aP,aV] using f.draw⟩⟩,⟨?_,?_,?_,?_,?_,?_,?_,?_,?_,?_,?_,?_,trivial⟩,?_⟩;all_goals (intro D bH; intros; rename_i kV Y lP r4 pR oK jG kZ rF jX rb w_ a5; have r:=a5.1; obtain ⟨⟨cI,cJ,cH,cD,cL,cN,cq,dg,dG,dL,cT,dn,_⟩,⟨M,g,t,J,Z,U,O,q,V,f⟩⟩:=a5)
  ·refine aw aU ?_;exact ⟨r.set 0 rfl,⟨M,g,t,J,Z,U,O,q,V,f⟩⟩
  ·obtain rfl:=cI ‹_›;have G:D 11=false:=bx.2 fun h=>by rw [V h] at bH; cases bH
   refine aT (b:=b3) f 2 (c:=(#[.int .i64 a.head.kind,.int .i64 a.head.n,.string a.head.name,B,l])) al (by rw [G]; rfl) rfl ?_;have V:=fun (_:ao D 1 11=true)=>(rfl:ao D 1 1=true)
   exact ⟨r.set 1 rfl,⟨M,g,t,J,Z,U,O,q,V,f⟩⟩
  ·refine aw aU ?_;exact ⟨r.set 2 rfl,⟨M,g,t,J,Z,U,O,q,V,f⟩⟩
  ·obtain rfl:=cH ‹_›;refine aT f 0 al rfl rfl ?_;exact ⟨r.set 3 rfl,⟨M,g,t,J,Z,U,O,q,V,f⟩⟩
  ·exact ⟨r.set 4 rfl,⟨M,g,t,J,Z,U,O,q,V,f⟩⟩
  ·obtain rfl:=cD ‹_›;obtain rfl:=cL ‹_›;refine az ah a2 ?_;exact ⟨r.set 5 rfl,⟨M,g,t,J,Z,U,O,q,V,f⟩⟩
  ·obtain rfl:=cN ‹_›;refine ci ad hR.length (fun j v hj=>by rw [f.cellS hS]; exact aF rfl j v hj) ?_;exact ⟨r.set 6 rfl,⟨M,g,t,J,Z,U,O,q,V,f⟩⟩
  ·obtain rfl:=cq ‹_›;have f8:D 8=false:=bx.2 fun h=>by rw [U h] at bH; cases bH
   have f9:D 9=false:=bx.2 fun h=>by rw [O h] at f8; cases f8
   have G:D 11=false:=bx.2 fun h=>by rw [q h] at f9; cases f9
   rw [bH,f8,f9,G] at f;refine Run.call0 fP fO f (il _ S _ hR (by omega)) fun v' I' S w_=>?_;rintro ⟨rfl,g,M,rfl,rfl,hT⟩ _ f;have J:ao D 7 7=true->Value.agg g.toArray=Value.agg g.toArray/\TrT M g (a.body)[j]:=fun _=>⟨rfl,hT⟩
   have U:=fun (_:ao D 7 8=true)=>(rfl:ao D 7 7=true)
   have f:Inv w [] (aP (.blk b1 (.cells #[.int .i64 a.head.kind,.int .i64 a.head.n,.string a.head.name,kv,.slice (some ⟨b,o,none⟩) a.body.length cap] ac)) (.blk b2 (.cells #[.int .i64 0,.int .i64 0,.string ⟨#[]⟩,.slice none 0 0,.slice none 0 0] ac)) (.blk b3 (.cells #[.int .i64 a.head.kind,.int .i64 a.head.n,.string a.head.name,B,l] ac)) (.blk b3 (.cells #[.int .i64 a.head.kind,.int .i64 a.head.n,.string a.head.name,B,Y] ac)) (aA l ab 4 css) (aA Y ab 4 (css++[g])) (aV (N::Ls).flatten) M (.blk t (.cells g.toArray ab)) true (D 8) (D 9) (D 11)) S w_:=by
    rw [f8,f9,G];simpa [aP] using f
   exact ⟨r.set 7 (by first|assumption|trivial),⟨M,g,t,J,Z,U,O,q,V,f⟩⟩
  ·have WA:=dg ‹_›;have f9:D 9=false:=bx.2 fun h=>by rw [O h] at bH; cases bH
   have G:D 11=false:=bx.2 fun h=>by rw [q h] at f9; cases f9
   obtain ⟨q7,hT⟩:=J ‹D 7=true›;subst q7;rw [‹D 7=true›,bH,f9,G] at f;refine dB f bn (by simp [Value.cells,hT.length]) (by omega) (by omega) fun t w_ f=>?_;have J:ao D 8 7=true->Value.agg g.toArray=Value.agg g.toArray/\TrT M g (a.body)[j]:=fun _=>⟨rfl,hT⟩
   have Z:=fun (_:ao D 8 8=true)=>(rfl:Value.slice (some ⟨t,0,none⟩) 1 1=_)
   have U:=fun (_:ao D 8 8=true)=>‹D 7=true›;have O:=fun (_:ao D 8 9=true)=>(rfl:ao D 8 8=true)
   have f:Inv w [] (aP (.blk b1 (.cells #[.int .i64 a.head.kind,.int .i64 a.head.n,.string a.head.name,kv,.slice (some ⟨b,o,none⟩) a.body.length cap] ac)) (.blk b2 (.cells #[.int .i64 0,.int .i64 0,.string ⟨#[]⟩,.slice none 0 0,.slice none 0 0] ac)) (.blk b3 (.cells #[.int .i64 a.head.kind,.int .i64 a.head.n,.string a.head.name,B,l] ac)) (.blk b3 (.cells #[.int .i64 a.head.kind,.int .i64 a.head.n,.string a.head.name,B,Y] ac)) (aA l ab 4 css) (aA Y ab 4 (css++[g])) (aV (N::Ls).flatten) M (.blk t (.cells g.toArray ab)) (D 7) true (D 9) (D 11)) S w_:=by
    rw [‹D 7=true›,f9,G];simpa [aP,Value.cells] using f
   exact ⟨r.set 8 (by first|assumption|trivial),⟨M,g,t,J,Z,U,O,q,V,f⟩⟩
  ·obtain rfl:=cJ ‹_›;have DH:=dG ‹_›;have G:D 11=false:=bx.2 fun h=>by rw [q h] at bH; cases bH
   have q8:=Z ‹D 8=true›;subst q8;obtain ⟨_,hT⟩:=J ‹D 7=true›;rw [‹D 7=true›,‹D 8=true›,bH,G] at f;have a6:((aP (.blk b1 (.cells #[.int .i64 a.head.kind,.int .i64 a.head.n,.string a.head.name,kv,.slice (some ⟨b,o,none⟩) a.body.length cap] ac)) (.blk b2 (.cells #[.int .i64 0,.int .i64 0,.string ⟨#[]⟩,.slice none 0 0,.slice none 0 0] ac)) (.blk b3 (.cells #[.int .i64 a.head.kind,.int .i64 a.head.n,.string a.head.name,B,jX] ac)) (.blk b3 (.cells #[.int .i64 a.head.kind,.int .i64 a.head.n,.string a.head.name,B,Y] ac)) (aA jX ab 4 css) (aA Y ab 4 (css++[g])) (aV (N::Ls).flatten) M (.blk t (.cells g.toArray ab)) true true false false))[4+(aV (N::Ls).flatten).length+(aV M).length]?=some (.blk t (.cells g.toArray ab)):=by
    have e4:4+(aV (N::Ls).flatten).length+(aV M).length=((aV (N::Ls).flatten).length+(aV M).length)+1+1+1+1:=by omega
    rw [e4];simp only [aP,kO];rw [gG (by omega),mO,gG (aS _),ey]; rfl
   refine dE f 3 g bn (by omega) rfl (by rw [hT.length]) (m:=1) (o:=0) ?_ hT.one (by omega) (by omega) fun v' w_ f=>?_
   ·intro i u hi;rw [f.cellL a6,cP];simpa using hi
   rw [eE] at f;have O:=fun (_:ao D 9 9=true)=>‹D 8=true›;have q:=fun (_:ao D 9 11=true)=>(rfl:ao D 9 9=true)
   have f:Inv w [] (aP (.blk b1 (.cells #[.int .i64 a.head.kind,.int .i64 a.head.n,.string a.head.name,kv,.slice (some ⟨b,o,none⟩) a.body.length cap] ac)) (.blk b2 (.cells #[.int .i64 0,.int .i64 0,.string ⟨#[]⟩,.slice none 0 0,.slice none 0 0] ac)) (.blk b3 (.cells #[.int .i64 a.head.kind,.int .i64 a.head.n,.string a.head.name,B,jX] ac)) (.blk b3 (.cells #[.int .i64 a.head.kind,.int .i64 a.head.n,.string a.head.name,B,v'] ac)) (aA jX ab 4 css) (aA v' ab 4 (css++[g])) (aV (N::Ls).flatten) M (.blk t (.cells g.toArray ab)) (D 7) (D 8) true (D 11)) S w_:=by
    rw [‹D 7=true›,‹D 8=true›,G];exact f
   exact ⟨r.set 9 (by first|assumption|trivial),⟨M,g,t,J,Z,U,O,q,V,f⟩⟩
  ·refine aw aU ?_;exact ⟨r.set 10 rfl,⟨M,g,t,J,Z,U,O,q,V,f⟩⟩
  ·obtain rfl:=cT ‹_›;have Eb:=dL ‹_›;rw [‹D 7=true›,‹D 8=true›,‹D 9=true›,bH] at f;obtain ⟨va,vn,vc,a4⟩:=Inv.rowSlice f 3 rfl;refine dy f 2 (n:=1) (by rw [a4]; rfl) (by decide +kernel) rfl (by simp) (by rw [a4]; simp [Value.cells,Value.oneCell']) fun w_ f=>?_;have a7:Value.cells Y=#[Y]:=by rw [a4]; rfl
   rw [a7] at f;have V:=fun (_:ao D 11 11=true)=>‹D 1=true›;have q:=fun (_:ao D 11 11=true)=>‹D 9=true›;have f:Inv w [] (aP (.blk b1 (.cells #[.int .i64 a.head.kind,.int .i64 a.head.n,.string a.head.name,kv,.slice (some ⟨b,o,none⟩) a.body.length cap] ac)) (.blk b2 (.cells #[.int .i64 0,.int .i64 0,.string ⟨#[]⟩,.slice none 0 0,.slice none 0 0] ac)) (.blk b3 (.cells #[.int .i64 a.head.kind,.int .i64 a.head.n,.string a.head.name,B,l] ac)) (.blk b3 (.cells #[.int .i64 a.head.kind,.int .i64 a.head.n,.string a.head.name,B,Y] ac)) (aA l ab 4 css) (aA Y ab 4 (css++[g])) (aV (N::Ls).flatten) M (.blk t (.cells g.toArray ab)) (D 7) (D 8) (D 9) true) S w_:=by
    rw [‹D 7=true›,‹D 8=true›,‹D 9=true›];exact f
   exact ⟨r.set 11 trivial,⟨M,g,t,J,Z,U,O,q,V,f⟩⟩
  obtain ⟨rfl,rfl,rfl,rfl,rfl,rfl,rfl,WA,DH,Eb,rfl,_,_⟩:=r.all;have vm:D 7=true:=by assumption
  have FO:D 8=true:=by assumption
  have OK:D 9=true:=by assumption
  have Ai:D 11=true:=by assumption
  clear r cI cJ cH cD cL cN cq dg dG dL cT dn;obtain ⟨_,hT⟩:=J vm;rw [vm,FO,OK,Ai] at f;refine bC (by omega) ?_;refine ⟨⟨j+1,Y,Ls++[M],css++[g],a2,rfl,?_,?_⟩,by simp [intOf]; omega⟩
  ·rw [eV a2];exact hg.snoc hT hT.length
  ·rw [<- dS,mG,cK];simp only [fh,k0,bV];refine f.sub ?_;simp only [aP,fh];rw [<- dx];exact (((dt _ _).cons_cons _).cons_cons _).cons_cons _ |>.cons_cons _
 ·have:j=a.body.length:=by omega
  subst this;rw [d4] at hg;obtain ⟨va,vn,vc,a9⟩:=f.rowSlice 3 rfl;have b4:l.oneCell'=true:=by rw [a9]; rfl
  have o1:B.oneCell'=true:=a3.one B (by simp);refine aC f 2 aH rfl rfl ?_;refine au f 1 rfl aH rfl rfl ?_ fun w' f=>?_
  ·intro u hu;have a1:u∈([.int .i64 a.head.kind,.int .i64 a.head.n,.string a.head.name,B,l]:List Value):=hu;simp at a1;rcases a1 with rfl|rfl|rfl|rfl|rfl <;> first|rfl|exact o1|exact b4
  refine bB f 1 aH rfl rfl ?_;have f:Inv w [] (aA l ab 4 css::aV (N::Ls).flatten) S w':=f.sub (dH [_,_,_] _);have f:Inv w [] ([aA l ab 4 css]++aV (N::Ls).flatten) S w':=f;obtain ⟨S1,f,hE,a0⟩:=f.pubExt;rw [fh] at a0;exact ⟨_,_,S1,rfl,f,hE,_,l,css,rfl,a3.rd a0.left,rfl,hg.rows a0.right fun _ _ _ hi h=>h.rd hi⟩
end
end
section
open Go Go.RowKit
section
variable {w0 w:World} {X:List Nat} {L:List Item} {S:ae} {P:Program} {K:Value->World->Prop}
attribute [local irreducible] Run CondV aq aK
theorem O6 (h:Inv w0 X L S w) {T ty e:TypeId} {by_:Nat} {z v x:Value} {cs:List Bool} {css:List (List Value)} (i:Nat)
  (r:oE P T=some (e,1,by_,z)) (t:L[i]?=some (aA v e 1 css)) (B:x.cells=#[x]) (D:x.oneCell'=true) (a:css.length+1<=4294967296) (l:by_<=32768)
  {K:Value->Value->World->Prop} (hk:∀ q w',Inv w0 X (L.set i (aA q e 1 (css++[[x]]))) S w'->K (.slice (some ⟨w.heap.size,0,none⟩) 1 1) q w') :
  Run P (cd T 1 [(0,x)]) w fun u w'=>Run P (cm .append #[T,T] ty cs [v,u]) w' (K u):=by
 refine uP h r (by rw [B]; rfl) (by omega) (by omega) fun w' f=>?_;have g:i<L.length:=(fa.1 t).1;refine dE f i [x] r (by omega) (by rw [wo g]; exact t) (by simp) (m:=1) (o:=0) ?_ (by simpa using D) a l fun q w' f=>?_
 ·intro j u G;rw [f.cellL (i:=L.length) (by rw [gG (aS _),ey]; rfl)];rw [cP,B];simpa using G
 ·refine hk _ _ ?_;rw [<- eE];rw [Pi _ _ g] at f;exact f.sub (dt _ _)
end
end
section
open Go Go.RowKit
theorem BL:∀ (f:Nat) (l:List T) (b:Bool) (out x:Bs),C6 f l b out=some x->out.length<=x.length
 | _,[],_,out,x,h=>by simp only [C6,aY] at h; subst h; exact aS _
 | f,t::l,b,out,x,h=>by
  rw [C6] at h;split at h
  ·cases h
  ·have:=BL f _ _ _ _ h;simp only [bA] at this;omega
section
variable {S:ae}
attribute [local irreducible] Run CondV aq aK
theorem Ll {f:Nat} (hf:f<=100) {c:C} {cs:List Value} {x:Bs} (h:RdC S cs c) (o:Ro f c=some x) (hl:x.length<=1000000):Pure Tryz.prog Qt [.agg cs.toArray] S (.string (st x)):=by
 intro w g;obtain ⟨hd,ks,rfl,N,G⟩:=h;have J:=N;obtain ⟨kv,rfl,_⟩:=RdT.iff.1 N;unfold Ro at o;split at o
 ·cases o
 rename_i y O
 split at o
 ·cases o
 rename_i z M
 simp only [aY] at o;have Z:z.length+1=x.length:=by rw [<- o,bA]; rfl
 have a0:=BL _ _ _ _ _ M;have hb:c.body.length<=9223372036854775807:=by have:=G.le; simpa [maxLen] using this
 refine BW.2 ?_;dsimp only[BW,aO];refine bJ g fun t w' g=>?_;have g:Inv w [] [.blk t (.cells #[.int .i64 c.head.kind,.int .i64 c.head.n,.string c.head.name,kv,ks] ac)] S w':=g;refine aw bO ?_;refine dC g 0 [.int .i64 c.head.kind,.int .i64 c.head.n,.string c.head.name,kv] ad rfl rfl Ax ?_;refine Run.callPure gZ g8 g (Jw hf _ y S _ O (by omega) J) fun w' g=>?_;refine ⟨fun a b w'=>∃ (j:Nat) (out:Bs),j<=c.body.length/\a=.int .i64 (j:Int)/\b=.string (st out)/\C6 f (c.body.drop j) (decide (j=0)) out=some z/\Inv w [] [.blk t (.cells #[.int .i64 c.head.kind,.int .i64 c.head.n,.string c.head.name,kv,ks] ac)] S w',
  fun a _ _=>c.body.length - (intOf a).toNat,⟨0,y,bk _,rfl,rfl,M,g⟩,?_⟩
 intro t4 _ _ _ _ _ _ _ _ _ _ _ _ U _ _ _ _ _ _ _ _ _ w';rintro ⟨j,out,hj,rfl,rfl,i,g⟩;refine af g 0 rfl aU al rfl ?_;refine aJ G ah ?_;refine bS ?_;refine aL (fun B=>?_) (fun B=>?_)
 ·have r:j<c.body.length:=by omega
  rw [dY r,C6] at i;split at i
  ·cases i
  rename_i u V
  have q:=BL _ _ _ _ _ i;simp only [bA] at q;obtain ⟨m,l⟩:∃ m:Bs,m=if decide (j=0)=true then [58,45] else [44]:=⟨_,rfl⟩
  rw [<- l] at i q;refine ⟨fun b w'=>b=.string (st (out++m))/\Inv w [] [.blk t (.cells #[.int .i64 c.head.kind,.int .i64 c.head.n,.string c.head.name,kv,ks] ac)] S w',?_,?_⟩
  ·refine bw ?_;refine aL (fun Y=>?_) (fun Y=>?_)
   ·rw [ai (aN (by omega))] at l;subst l;refine ed (b:=[58,45]) (by omega) ?_;exact ⟨rfl,g⟩
   ·rw [ag (by rw [bD]; omega)] at l;subst l;refine ed (b:=[44]) (by omega) ?_;exact ⟨rfl,g⟩
  intro _ _ U _ _ _ _ w';rintro ⟨rfl,g⟩;refine af g 0 rfl aU al rfl ?_;refine co g G ah ad r (fun _ _=>RdT.length) fun es D=>?_;refine Run.callPure gZ g8 g (Jw hf _ u S _ V (by omega) D) fun w' g=>?_;refine ed (by rw [bA]; omega) ?_;refine bC (by omega) ?_;refine ⟨⟨j+1,out++m++u,r,rfl,rfl,?_,g⟩,by simp only [intOf,cu]; omega⟩;rw [ba (by omega)];exact i
 ·have:j=c.body.length:=by omega
  subst this;rw [eC,C6] at i;simp only [aY] at i;subst i;refine ed (b:=[46]) (by simp only [bq,bW]; omega) ?_;exact done g (by rw [<- o])
theorem wI {f:Nat} (hf:f<=100) {c:C} {cs:List Value} {x:Bs} (h:RdC S cs c) (hc:bt c=true) (i:wC c<=1048576) (l:Ro f c=some x) (hl:x.length<=1000000):Pure Tryz.prog AG [.agg cs.toArray] S (.string (st x)):=by
 intro w a;have g:=h;obtain ⟨hd,ks,rfl,o,r⟩:=h;obtain ⟨kv,rfl,_⟩:=RdT.iff.1 o;refine m8.2 ?_;dsimp only[m8,aO];refine bJ a fun q w' a=>?_;refine aC a 0 aH rfl rfl ?_;refine Run.callPure kj kq a (iY g i) fun w' a=>?_;refine cw ?_;rw [hc];refine aD (fun m=>by cases m) (fun _=>?_);refine aC a 0 aH rfl rfl ?_;refine Run.callPure Ob NU a (Ll hf g l hl) fun w' a=>?_;exact done a rfl
theorem wg {f k:Nat} {s:Bs} {i:Nat} {ts:List T} {n:Nat} (h:re f k s i []=some (ts,n)) (hs:s.length<=100000) (hi:i<=s.length):Tri Tryz.prog OJ [.string (st s),.int .i64 (i:Int)] [] S (X8 ts n):=by
 intro w l;refine xV.2 ?_;dsimp only[xV,bm];refine ei l bn fun v0 w' l=>?_;refine ⟨fun a b w'=>∃ (k' V:Nat) (o:List T) (S1:ae) (css:List (List Value)),a=.int .i64 (V:Int)/\V<=s.length/\re f k' s V o=some (ts,n)/\Ext w.heap.size [] S S1/\Rows 4 (RdT S1) css o/\(∃ p m,b=.slice p o.length m)/\Inv w [] [aA b ab 4 css] S1 w',
  fun a _ _=>s.length+1 - (intOf a).toNat,⟨k,i,[],S,[],rfl,hi,h,Ext.refl _ _ _,Rows.nil _ _,?_,l⟩,?_⟩
 ·have D:Inv w [] ([]++[aA v0 ab 4 []]) S w':=l;obtain ⟨S1,_,B,_⟩:=Inv.lendExt D;obtain ⟨p,m,e,_⟩:=RowRd.rows (Rows.nil 4 (RdT S)) B;exact ⟨p,m,e⟩
 intro t1 _ _ _ _ _ _ _ _ t6 _ _ _ _ _ _ _ _ _ _ _ _ _ _ _ _ _ _ _ w';rintro ⟨k',V,o,S1,css,rfl,Z,G,hE,hR,⟨p,m,rfl⟩,l⟩;have a4:=hR.hc;cases k' with
 | zero=>simp [re] at G
 | succ g=>
 rw [re] at G;split at G
 ·cases G
 rename_i h6
 split at G
 ·cases G
 rename_i t n' hr
 have a5:=(iW f).1 _ _ _ _ _ _ hr;refine iA ah ?_;refine LM (by omega) ?_;refine aD (fun _=>?_) (fun N=>by cases N);refine Run.call0E gX gW l (JB f s V 30 3 t n' S1 hr hs Z (by omega) (by omega)) fun v I' S2 w'=>?_;rintro ⟨rfl,cs,rfl,r⟩ M l;have a1:=hR.monoR fun _ _ h=>RdT.mono M.1 h;obtain ⟨kv,rfl,_,_,_,a,q,rfl,_⟩:=RdT.iff.1 r;refine av (v:=.agg _) rfl ?_;refine av (v:=.int .i64 (n':Int)) rfl ?_;refine aQ l bj fun a2 w' l=>?_;refine au l 1 rfl ad rfl rfl (by simp [Value.oneCell']) fun w' l=>?_;refine fw (by omega) ?_;refine aD (fun N=>by cases N) (fun _=>?_);refine aC l 1 ad rfl rfl ?_;refine de (css:=css) l 0 _ bn (by omega) (by omega) rfl r.length r.one (by omega) (by omega) fun v' w' l=>?_;have l:Inv w [] [aA v' ab 4 (css++[[.int .i64 t.kind,.int .i64 t.n,.string t.name,.slice a t.kids.length q]])] S2 w':=l.pick [true,false];have O:=a1.snoc r r.length;have D:Inv w [] ([]++[aA v' ab 4 (css++[[.int .i64 t.kind,.int .i64 t.n,.string t.name,.slice a t.kids.length q]])]) S2 w':=l;obtain ⟨S3,a0,B,a3⟩:=Inv.lendExt D;have U:=RowRd.rows (O.monoR fun _ _ h=>RdT.mono a0.1 h) B;refine Run.callPure dw dv l (df s n' 44 S2) fun w' l=>?_;refine cw ?_;split at G
 ·rename_i J
  rw [J];refine aD (fun N=>by cases N) (fun _=>?_);have:=jE J;refine fq (a:=n') (b:=1) rfl rfl (by omega) ?_;obtain ⟨p',m',e',_⟩:=U;refine ⟨⟨g,n'+1,o++[t],S2,_,rfl,by omega,G,hE.trans M,O,⟨p',m',e'⟩,l⟩,?_⟩;simp only [intOf,cu];omega
 ·rename_i J
  rw [bx.2 J];refine aD (fun _=>?_) (fun N=>by cases N);simp only [aY,cE] at G;obtain ⟨rfl,rfl⟩:=G;have D:Inv w [] ([]++[aA v' ab 4 (css++[[.int .i64 t.kind,.int .i64 t.n,.string t.name,.slice a t.kids.length q]])]) S2 w':=l;obtain ⟨S4,Y,B,l⟩:=Inv.lendExt D;have U:=RowRd.rows (O.monoR fun _ _ h=>RdT.mono Y.1 h) B;exact ⟨_,[],S4,rfl,l,(hE.trans M).trans Y,rfl,_,rfl,U⟩
abbrev aaQ (c:C) (b:Bool):Value->List Item->ae->Prop:=fun v I' S'=>I'=[]/\∃ cs,v=.tuple #[.agg cs.toArray,.bool b]/\RdC S' cs c
theorem zk {f:Nat} (hf:f<=100) {s:Bs} {c:C} (h:xK f s=some c):Tri Tryz.prog DC [.string (st s)] [] S (aaQ c true):=by
 intro w g;refine pS.2 ?_;dsimp only[pS,aO];unfold xK at h;split at h
 ·cases h
 rename_i hs
 split at h
 ·cases h
 rename_i hd n hr
 have b3:=(iW f).1 _ _ _ _ _ _ hr;have i:∃ b l,c=⟨hd,b⟩/\SH f s c l=some c/\((sgn s n 58=true/\sgn s (n+1) 45=true/\re f 8 s (n+2) []=some (b,l)) ∨ (¬ (sgn s n 58=true/\sgn s (n+1) 45=true)/\b=[]/\l=n)):=by
  have U:∀ (c':C) (m:Nat),SH f s c' m=some c->c'=c:=fun c' m h=>by
   unfold SH at h;split at h
   ·exact uH h
   ·cases h
  split at h
  ·rename_i o
   split at h
   ·cases h
   rename_i b l hg
   have e:=U _ _ h;subst e;exact ⟨b,l,rfl,h,.inl ⟨o.1,o.2,hg⟩⟩
  ·rename_i o
   have e:=U _ _ h;subst e;exact ⟨[],n,rfl,h,.inr ⟨o,rfl,rfl⟩⟩
 clear h;obtain ⟨b,l,rfl,i,D⟩:=i;unfold SH at i;split at i
 case isFalse=>cases i
 rename_i hq
 obtain ⟨b0,a2,a3,b1,a4⟩:=hq;clear i;refine aQ g cX fun b2 w' g=>?_;refine ge aZ ?_;refine mz (by omega) ?_;refine aD (fun r=>by cases r) (fun _=>?_);refine Run.call0E gX gW g (JB f s 0 30 3 hd n S hr (by omega) (by omega) (by omega) (by omega)) fun v I' S1 w'=>?_;rintro ⟨rfl,cs,rfl,B⟩ J g;obtain ⟨kv,rfl,_,_,_,a,q,rfl,_⟩:=RdT.iff.1 B;refine av (v:=.agg _) rfl ?_;refine av (v:=.int .i64 (n:Int)) rfl ?_;refine aQ g bj fun b4 w' g=>?_;refine au g 1 rfl ad rfl rfl (by simp [Value.oneCell']) fun w' g=>?_;refine fw (by omega) ?_;refine aD (fun r=>by cases r) (fun _=>?_);refine aC g 1 ad rfl rfl ?_;refine lg ?_;refine aQ g cX fun Z w' g=>?_;refine au g 2 rfl aH rfl rfl (by simp [Value.oneCell']) fun w' g=>?_;obtain ⟨B2,N⟩:∃ B2,B2=Item.blk b2 (.cells #[.int .i64 0,.int .i64 0,.string ⟨#[]⟩,.slice none 0 0,.slice none 0 0] ac):=⟨_,rfl⟩
 obtain ⟨B4,a5⟩:∃ B4,B4=Item.blk b4 (.cells #[.int .i64 hd.kind,.int .i64 hd.n,.string hd.name,.slice a hd.kids.length q] ab):=⟨_,rfl⟩
 have g:Inv w [] [B2,B4,.blk Z (.cells #[.int .i64 hd.kind,.int .i64 hd.n,.string hd.name,.slice a hd.kids.length q,.slice none 0 0] ac)] S1 w':=by rw [N,a5]; exact g
 refine ⟨fun v w'=>∃ (G:Value) (S2:ae),v=.int .i64 (l:Int)/\Ext w.heap.size [] S S2/\RdT S2 [.int .i64 hd.kind,.int .i64 hd.n,.string hd.name,.slice a hd.kids.length q] hd/\RdSl S2 4 (RdT S2) G b/\
   Inv w [] [B2,B4,.blk Z (.cells #[.int .i64 hd.kind,.int .i64 hd.n,.string hd.name,.slice a hd.kids.length q,G] ac)] S2 w',?_,?_⟩
 ·refine ⟨fun v w'=>v=.bool (sgn s n 58 && sgn s (n+1) 45)/\Inv w [] [B2,B4,.blk Z (.cells #[.int .i64 hd.kind,.int .i64 hd.n,.string hd.name,.slice a hd.kids.length q,.slice none 0 0] ac)] S1 w',?_,?_⟩
  ·refine Run.callPure dw dv g (df s n 58 S1) fun w' g=>?_;cases o:sgn s n 58
   ·refine rpG ?_;exact ⟨by rw [iP],g⟩
   ·refine rpG ?_;refine fq (a:=n) (b:=1) rfl rfl (by omega) ?_;refine Run.callPure dw dv g (df s (n+1) 45 S1) fun w' g=>?_;refine rpG ?_;exact ⟨by rw [eH],g⟩
  intro a8 _ _ _ _ _ _ _ _ w';rintro ⟨rfl,g⟩;rcases D with ⟨h1,h2,hg⟩|⟨h1,rfl,rfl⟩
  ·rw [h1,h2];refine aD (fun _=>?_) (fun r=>by cases r);have h3:=jE h2;refine fq (a:=n) (b:=2) rfl rfl (by omega) ?_;refine Run.call0E yM ya g (wg hg (by omega) (by omega)) fun v I' S2 w'=>?_;rintro ⟨rfl,u,rfl,hu⟩ t g;obtain ⟨p,m,rfl,_⟩:=id hu;refine av (v:=.slice p b.length m) rfl ?_;refine av (v:=.int .i64 (l:Int)) rfl ?_;refine dj g 2 rfl aU al rfl rfl rfl fun w' g=>?_;exact ⟨_,S2,rfl,J.trans t,RdT.mono t.1 B,hu,g⟩
  ·have e:(sgn s l 58 && sgn s (l+1) 45)=false:=by
    rw [bx,ne_eq,bM]; exact h1
   rw [e];refine aD (fun r=>by cases r) (fun _=>?_);exact ⟨_,S1,rfl,J,B,lV S1,g⟩
 intro t5 _ _ _ _ _ _ _ _ _ _ _ _ _ _ _ _ _ w';rintro ⟨G,S2,rfl,t,a0,r,g⟩;have hC:RdC S2 [.int .i64 hd.kind,.int .i64 hd.n,.string hd.name,.slice a hd.kids.length q,G] ⟨hd,b⟩:=⟨[.int .i64 hd.kind,.int .i64 hd.n,.string hd.name,.slice a hd.kids.length q],G,rfl,a0,r⟩
 refine ⟨fun v w'=>v=.bool false/\Inv w [] [B2,B4,.blk Z (.cells #[.int .i64 hd.kind,.int .i64 hd.n,.string hd.name,.slice a hd.kids.length q,G] ac)] S2 w',?_,?_⟩
 ·refine ge aZ ?_;refine kT (by omega) ?_;refine fW ?_;rw [aN (show (l:Int)=(s.length:Int) - 1 by omega)];refine bz (b:=false) ?_;refine Run.callPure dw dv g (df s l 46 S2) fun w' g=>?_;refine cw ?_;rw [a2];refine qU ?_;refine bz (b:=false) ?_;refine aC g 2 aH rfl rfl ?_;refine Run.callPure zR xX g (wI hf hC a3 (by omega) a4 (by omega)) fun w' g=>?_;refine Rq ?_;rw [aN rfl];refine qU ?_;exact ⟨rfl,g⟩
 intro a9 _ _ _ _ _ _ _ _ _ _ _ _ _ _ _ _ w';rintro ⟨rfl,g⟩;refine aD (fun r=>by cases r) (fun _=>?_);refine aC g 2 aH rfl rfl ?_;refine Run.call0E um ui g (z4 hC (by omega)) fun v I' S3 w'=>?_;rintro ⟨rfl,ds,M,rfl,rfl,hT⟩ a1 g;obtain ⟨S4,g,a6,O⟩:=g.pubExt;have V:=hT.rd O;have Y:=V.length;have a7:=hT.one;subst N;refine au g 0 rfl aH (by simpa using Y) rfl (by simpa using a7) fun w' g=>?_;refine bB g 0 aH rfl (by simpa using Y) ?_;exact ⟨_,[],S4,rfl,g.nil,(t.trans a1).trans a6,rfl,_,rfl,V⟩
def YG (cs:List Value) (l:Bs):Prop:=cs=[.string (st l)]
theorem KH (s:Bs) (c:Nat) (hs:s.length<=100000):Tri Tryz.prog O5 [.string (st s),.int .u8 (c:Int)] [] S fun v I' S'=>I'=[]/\RdSl S' 1 YG v (Ie s c s.length 0 0 []):=by
 intro w m;refine C2.2 ?_;dsimp only[C2,bm];refine ei m FF fun v0 w' m=>?_;obtain ⟨R,hR⟩:∃ R,R=Ie s c s.length 0 0 []:=⟨_,rfl⟩
 rw [<- hR];refine ⟨fun t u v w'=>∃ (i fr:Nat) (g:List Bs) (css:List (List Value)),t=.int .i64 (i:Int)/\u=.int .i64 (fr:Int)/\g.length<=i/\((i<=s.length/\fr<=i/\Ie s c (s.length - i) i fr g=R) ∨ (i=s.length+1/\g=R))/\Rows 1 YG css g/\Inv w [] [aA v g9 1 css] S w',
  fun t _ _ _=>s.length+2 - (intOf t).toNat,⟨0,0,[],[],rfl,rfl,aS _,.inl ⟨bk _,aS _,hR.symm⟩,Rows.nil _ _,m⟩,?_⟩
 intro t7 _ _ t6 _ _ Y _ _ _ _ _ _ _ _ _ _ _ _ _ _ _ _ _ _ _ _ _ _ w';rintro ⟨i,fr,g,css,rfl,rfl,a3,hc,B,m⟩;have a5:=B.hc;refine ge aZ ?_;refine fU ?_;refine aL (fun hi=>?_) (fun hi=>?_)
 ·have a1:i<=s.length:=by omega
  obtain ⟨_,hfr,hcut⟩:i<=s.length/\fr<=i/\Ie s c (s.length - i) i fr g=R:=by
   rcases hc with h|h
   ·exact h
   ·omega
  obtain ⟨br,D⟩:∃ br,br=(decide (i=s.length) || sgn s i c):=⟨_,rfl⟩
  refine ⟨fun u v w'=>∃ (q:Nat) (l:List Bs) (o:List (List Value)),u=.int .i64 (q:Int)/\l.length<=i+1/\q<=i+1/\l=(if br=true then g++[cut s fr i] else g)/\q=(if br=true then i+1 else fr)/\Rows 1 YG o l/\Inv w [] [aA v g9 1 o] S w',?_,?_⟩
  ·refine ⟨fun b w'=>b=.bool br/\Inv w [] [aA Y g9 1 css] S w',?_,?_⟩
   ·refine ge aZ ?_;by_cases G:i=s.length
    ·refine gf (by omega) ?_;refine rpG ?_;exact ⟨by rw [D,aN G,zO],m⟩
    ·refine fc (by omega) ?_;refine rpG ?_;have V:i<s.length:=by omega
     refine eW aZ V ?_;refine bw ?_;refine rpG ?_;refine ⟨?_,m⟩;rw [D,ba G,iz,ml V]
     congr 1
     rw [gB];omega
   intro a4 _ _ _ _ _ _ _ _ _ _ w';rintro ⟨rfl,m⟩;refine aD (fun U=>?_) (fun U=>?_)
   ·refine F5 aZ hfr a1 ?_;refine O6 (css:=css) m 0 FF rfl rfl rfl (by omega) (by omega) fun v' w' m=>?_;refine fq (a:=i) (b:=1) rfl rfl (by omega) ?_;refine ⟨i+1,g++[cut s fr i],_,rfl,by rw [bA]; simp only [bq,bW]; omega,aS _,by rw [ai U],by rw [ai U],B.snoc rfl rfl,m⟩
   ·exact ⟨fr,g,css,rfl,by omega,by omega,by rw [ag (by rw [U]; decide)],by rw [ag (by rw [U]; decide)],B,m⟩
  intro t6 _ _ Y _ _ _ _ _ _ _ _ _ _ _ _ _ _ _ _ _ _ w';rintro ⟨q,l,o,rfl,M,N,f,r,O,m⟩;refine fq (a:=i) (b:=1) rfl rfl (by omega) ?_;refine ⟨⟨i+1,q,l,o,rfl,rfl,M,?_,O,m⟩,by simp only [intOf,cu]; omega⟩;by_cases G:i=s.length
  ·right;refine ⟨by rw [G],?_⟩;rw [G,ey,Ie,<- G] at hcut;rw [f,ai (by rw [D,aN G,zO])];exact hcut
  ·left;refine ⟨by omega,N,?_⟩;rw [show s.length - i=(s.length - (i+1))+1 by omega,Ie] at hcut;rw [D,ba G,iz] at f r;split at hcut
   ·rename_i J
    rw [ai J] at f r;rw [f,r];exact hcut
   ·rename_i J
    rw [ag J] at f r;rw [f,r];exact hcut
 ·obtain ⟨_,rfl⟩:i=s.length+1/\g=R:=by
   rcases hc with h|h
   ·omega
   ·exact h
  have a2:Inv w [] ([]++[aA Y g9 1 css]) S w':=m;obtain ⟨S1,Z,a0,m⟩:=Inv.lendExt a2;exact ⟨_,[],S1,rfl,m,Z,rfl,RowRd.rows B a0⟩
theorem H4 {f:Nat} {a:List Bs} {i:Nat} (h:i<a.length) (g:List C):mw f (a.drop i) g=match xK f a[i] with
  | none=>none
  | some c=>mw f (a.drop (i+1)) (g++[c]):=by
 rw [dY h,mw];cases xK f a[i] <;> rfl
theorem xB {f:Nat} (hf:f<=100) {s:Bs} {p:List C} (h:R2 f s=some p) (hs:s.length<=100000):Tri Tryz.prog oO [.string (st s)] [] S fun v I' S'=>∃ u css,v=.tuple #[u,.bool true]/\I'=[aA u ac 5 css]/\Rows 5 (RdC S') css p:=by
 intro w g;refine nn.2 ?_;dsimp only[nn,aO];unfold R2 VW at h;refine ei g dd fun v0 w' g=>?_;refine Run.call0E NZ On g (KH s 10 hs) fun v I' S1 w'=>?_;rintro ⟨rfl,r⟩ a1 g;have g:Inv w [] [aA v0 ac 5 []] S1 w':=g;obtain ⟨m,Z⟩:∃ m,m=Ie s 10 s.length 0 0 []:=⟨_,rfl⟩
 rw [<- Z] at r h;simp only [] at h;split at h
 ·cases h
 rename_i hc
 simp only [not_or,ne_eq,Classical.not_not] at hc;obtain ⟨a7,N⟩:=hc;have a8:0<m.length:=by
  cases m with
  | nil=>simp at N
  | cons a l=>simp
 have O:m[m.length - 1]=[]:=by
  rw [List.getLast?_eq_getElem?,ew (by omega)] at N;exact uH N
 refine ⟨fun b w'=>b=.bool false/\Inv w [] [aA v0 ac 5 []] S1 w',?_,?_⟩
 ·refine aJ r cV ?_;refine mz (by omega) ?_;refine rpG ?_;refine aJ r cV ?_;refine Fj (a:=m.length) (b:=1) rfl rfl (by omega) (by omega) ?_;have M:m.length - 1<m.length:=by omega
  obtain ⟨b,o,cap,c,E,fz,hv,hS,hR⟩:=r.at_ M;subst hv;refine az cV M ?_;refine cQ be ((g.cellS hS).trans (aF hR 0 _ rfl)) ?_;refine Rq (b:=[]) ?_;rw [aN O];refine rpG ?_;exact ⟨rfl,g⟩
 intro a5 _ _ _ _ _ _ _ _ _ _ _ w';rintro ⟨rfl,g⟩;refine aD (fun hb=>by cases hb) (fun _=>?_);refine ⟨fun a b w'=>∃ (i:Nat) (t:List C) (S2:ae) (css:List (List Value)),a=.int .i64 (i:Int)/\i+1<=m.length/\t.length=i/\mw f (m.dropLast.drop i) t=some p/\Sle S1 S2/\Ext w.heap.size [] S S2/\Rows 5 (RdC S2) css t/\Inv w [] [aA b ac 5 css] S2 w',
  fun a _ _=>m.length - (intOf a).toNat,⟨0,[],S1,[],rfl,by omega,rfl,h,Sle.refl _,a1,Rows.nil _ _,g⟩,?_⟩
 intro t6 _ _ t4 _ _ _ _ _ _ _ _ _ _ _ _ _ _ _ _ _ _ _ _ _ _ _ _ w';rintro ⟨i,t,S2,css,rfl,hi,a2,q,G,V,hR,g⟩;have a9:=hR.hc;refine fq (a:=i) (b:=1) rfl rfl (by omega) ?_;refine aJ r cV ?_;refine bS ?_;have b0:m.dropLast.length=m.length - 1:=List.length_dropLast;refine aL (fun M=>?_) (fun a6=>?_)
 ·have a0:i<m.length:=by omega
  have U:i<m.dropLast.length:=by omega
  rw [H4 U] at q;have eg:m.dropLast[i]=m[i]:=List.getElem_dropLast _;rw [eg] at q;obtain ⟨b,o,cap,c,E,fz,hv,hS,a3⟩:=r.at_ a0;subst hv;split at q
  ·cases q
  rename_i cl Y
  refine az cV a0 ?_;refine cQ be ((g.cellS (G _ _ hS)).trans (aF a3 0 _ rfl)) ?_;refine Run.call0E As Ak g (zk hf Y) fun v I' S3 w'=>?_;rintro ⟨rfl,ds,rfl,B⟩ J g;have D:=B.length;have a4:=hR.monoR fun _ _ h=>RdC.mono J.1 h;refine av (v:=.agg ds.toArray) rfl ?_;refine av (v:=.bool true) rfl ?_;refine aQ g cX fun b7 w' g=>?_;refine au g 1 rfl aH (by simpa using D) rfl (by simpa using B.one) fun w' g=>?_;refine cw ?_;refine aD (fun hb=>by cases hb) (fun _=>?_);refine aC g 1 aH rfl (by simpa using D) ?_;refine de (css:=css) g 0 _ dd (by omega) (by omega) rfl D B.one (by omega) (by omega) fun v' w' g=>?_;have g:Inv w [] [aA v' ac 5 (css++[ds])] S3 w':=g.pick [true,false];refine fq (a:=i) (b:=1) rfl rfl (by omega) ?_;exact ⟨⟨i+1,t++[cl],S3,_,rfl,by omega,by rw [bA,a2]; rfl,q,G.trans J.1,V.trans J,a4.snoc B D,g⟩,by simp only [intOf,cu]; omega⟩
 ·have U:m.dropLast.length<=i:=by omega
  rw [vK U,mw] at q;simp only [aY] at q;subst q;exact ⟨_,_,S2,rfl,g,V,_,css,rfl,rfl,hR⟩
end
end
section
open Go Go.RowKit
theorem WL {b:Bool} {n:Nat} (h:b=decide (1<=n)) (a:b=false):n=0:=by
 rw [a,xt,mK] at h; omega
theorem At {a b:Bool} {k n:Nat} (h:a=decide (k<=n)) (f:a=true) (g:b=decide (k+1<=n)) (i:b=false):n=k:=by
 rw [f,xt,decide_eq_true_iff] at h;rw [i,xt,mK] at g;omega
theorem XP {b:Bool} {n m:Nat} (hl:n<=m) (h:b=decide (m<=n)) (a:b=true):n=m:=by
 rw [a,xt,decide_eq_true_iff] at h; omega
theorem WB {b l:Bool} {n m:Nat} (h:b=decide (m<=n)) (k:b=true->l=true) (hl:l=false):n<m:=by
 cases b
 ·rw [xt,mK] at h; omega
 ·rw [k rfl] at hl; cases hl
def TP:List (Nat × Value)->List ByteArray
 | (_,.string s)::l=>s::TP l
 | _=>[]
def Vz:List (Nat × Value)->List Int
 | (_,.int _ n)::l=>n::Vz l
 | _=>[]
theorem UF {α:Type} {f:α->Value} (l:List α) {i:Nat} (a:i<l.length):aX (l.map f).toArray i 1=[f l[i]]:=by
 rw [aX,dY (by simpa using a)];simp
theorem RdSl.monoU {S S':ae} {v:Value} {ys:List Nat} (a:Sle S S') (h:RdSl S 1 oD v ys):RdSl S' 1 oD v ys:=h.mono a fun _ _ h=>h
theorem UG {S:ae} {b:Nat} {E:TypeId} {cs:List Value} {t:T} (a:S b=some (.cells cs.toArray E)) (h:RdT S cs t):RdSl S 4 (RdT S) (.slice (some ⟨b,0,none⟩) 1 1) [t]:=by
 refine ⟨_,1,rfl,aS _,by simp [maxLen],.inr ⟨b,0,_,E,(0,0),rfl,a,fun i f=>?_⟩⟩
 match i,f with
 | 0,_=>
  have e:aX cs.toArray (0+0 * 4) 4=cs:=by
   rw [aX];simpa using Lj (LT h.length)
  rw [e];exact h
section
variable {w0 w:World} {X:List Nat} {L A:List Item} {S:ae} {K:Value->World->Prop}
attribute [local irreducible] Run CondV aq aK
theorem Inv.last (h:Inv w0 X L S w) (i:Nat) {it:Item} (a:L[i]?=some it):Inv w0 X (L.eraseIdx i++[it]) S w:=by
 refine h.perm ?_;obtain ⟨f,_⟩:=AP a it;rw [U7]
 conv=>rhs; rw [f]
 rw [dx];exact zL _ cj
theorem qA {n:Nat} {a:List (Nat × Value)} (h:Inv w0 X L S w)
  (g:(cd IW n a).run Tryz.prog w=.ok (.value (.slice (some ⟨w.heap.size,0,none⟩) n n)) { w with heap:=w.heap.push (.cells ((TP a).map Value.string).toArray g9) })
  (hn:(TP a).length=n) (r:n<=1000) (hk:∀ v S1 w',Ext w0.heap.size X S S1->RdSl S1 1 wv v (TP a)->Inv w0 X L S1 w'->K v w'):Run Tryz.prog (cd IW n a) w K:=by
 refine wD (v:=fun b=>.slice (some ⟨b,0,none⟩) n n) (o:=.cells ((TP a).map Value.string).toArray g9) h g fun b w' f=>?_;obtain ⟨S1,f,m,q⟩:=f.pub1;refine hk _ S1 w' m ?_ f;exact RdSl.ofCells q hn (by simp only [maxLen]; omega) fun i l=>UF _ l
theorem Bg {n:Nat} {a:List (Nat × Value)} (h:Inv w0 X L S w)
  (g:(cd s5 n a).run Tryz.prog w=.ok (.value (.slice (some ⟨w.heap.size,0,none⟩) n n)) { w with heap:=w.heap.push (.cells ((Vz a).map (Value.int .i64)).toArray cO) })
  (hn:(Vz a).length=n) (r:n<=1000) (hk:∀ v S1 w',Ext w0.heap.size X S S1->RdSl S1 1 jD v (Vz a)->Inv w0 X L S1 w'->K v w'):Run Tryz.prog (cd s5 n a) w K:=by
 refine wD (v:=fun b=>.slice (some ⟨b,0,none⟩) n n) (o:=.cells ((Vz a).map (Value.int .i64)).toArray cO) h g fun b w' f=>?_;obtain ⟨S1,f,m,q⟩:=f.pub1;refine hk _ S1 w' m ?_ f;exact RdSl.ofCells q hn (by simp only [maxLen]; omega) fun i l=>UF _ l
def uE (Q:Prop) (R:Nat->Prop):Nat->Prop
 | 0=>Q
 | n+1=>R n
def DL (w0:World) (X:List Nat) (b:Nat) (c:Array Value) (d:Nat) (E:TypeId) (kv:Value) (css:List (List Value)) (A:Nat->List Item) (Q:List Value->Nat->ae->Prop) (xv xs xa:Value) (w':World):Nat->Prop
 | 0=>∃ p1 S1 cs,Q cs p1 S1/\(cs.length=4/\∀ u∈cs,u.oneCell'=true)/\xv=.agg cs.toArray/\Inv w0 X (.blk b (.cells c E)::aA kv ab 4 css::A p1) S1 w'
 | 1=>∃ p1 S1 cs b8,Q cs p1 S1/\(cs.length=4/\∀ u∈cs,u.oneCell'=true)/\xs=.slice (some ⟨b8,0,none⟩) 1 1/\Inv w0 X (.blk b (.cells c E)::aA kv ab 4 css::(A p1++[.blk b8 (.cells cs.toArray ab)])) S1 w'
 | 2=>∃ p1 S1 cs,Q cs p1 S1/\(cs.length=4/\∀ u∈cs,u.oneCell'=true)/\Inv w0 X (.blk b (.cells c E)::aA xa ab 4 (css++[cs])::A p1) S1 w'
 | 3=>∃ p1 S1 cs,Q cs p1 S1/\(cs.length=4/\∀ u∈cs,u.oneCell'=true)/\Inv w0 X (.blk b (.cells (c.setIfInBounds d xa) E)::aA xa ab 4 (css++[cs])::A p1) S1 w'
 | _=>False
variable {b d:Nat} {c:Array Value} {E:TypeId} {kv:Value} {css:List (List Value)} {F:Nat->List Item} {Q:List Value->Nat->ae->Prop} {xv xs xa:Value}
theorem Kd {n:Nat} (h:DL w0 X b c d E kv css F Q xv xs xa w n) (hn:n<3):w.cell? ⟨b,d,none⟩=c[d]?:=by
 rcases n with _|_|_|n
 ·obtain ⟨f,S1,cs,_,_,_,a⟩:=h;exact a.cellL (i:=0) rfl
 ·obtain ⟨f,S1,cs,g,_,_,_,a⟩:=h;exact a.cellL (i:=0) rfl
 ·obtain ⟨f,S1,cs,_,_,a⟩:=h;exact a.cellL (i:=0) rfl
 ·omega
theorem ap1 {B:Prop} (h:uE B (DL w0 X b c d E kv css F Q xv xs xa w) 1) (hk:∀ u w',uE B (DL w0 X b c d E kv css F Q xv u xa w') 2->K u w'):Run Tryz.prog (cd uy 1 [(0,xv)]) w K:=by
 obtain ⟨g,S1,cs,i,hl,rfl,a⟩:=h;refine dB a bn (by simp [Value.cells,hl.1]) (by omega) (by omega) fun f w' a=>?_;exact hk _ _ ⟨g,S1,cs,f,i,hl,rfl,a⟩
theorem ap2 {B:Prop} {ty:TypeId} {bs:List Bool} (h:uE B (DL w0 X b c d E kv css F Q xv xs xa w) 2) (l:css.length<=1000000) (hk:∀ u w',uE B (DL w0 X b c d E kv css F Q xv xs u w') 3->K u w'):Run Tryz.prog (cm .append #[uy,uy] ty bs [kv,xs]) w K:=by
 obtain ⟨g,S1,cs,q,t,hl,rfl,a⟩:=h;have f:(Item.blk b (.cells c E)::aA kv ab 4 css::(F g++[.blk q (.cells cs.toArray ab)]))[(F g).length+1+1]?=some (.blk q (.cells cs.toArray ab)):=by
  rw [kO,kO,gG (aS _),ey]; rfl
 refine dE a 1 cs bn (by omega) rfl (by rw [hl.1]) (m:=1) (o:=0) ?_ hl.2 (by omega) (by omega) fun D G a=>?_
 ·intro i u r;rw [a.cellL f,cP];simpa using r
 rw [eE] at a;refine hk _ _ ⟨g,S1,cs,t,hl,?_⟩;exact a.sub (((dt _ _).cons_cons _).cons_cons _)
theorem ap3 {B:Prop} {ty:TypeId} (h:uE B (DL w0 X b c d E kv css F Q xv xs xa w) 3) (hd:d<c.size) {K:Value->World->Prop} (hk:∀ w',uE B (DL w0 X b c d E kv css F Q xv xs xa w') 4->K undef w'):Run Tryz.prog (sOp (.store uy (.const (.pointer (some ⟨b,d,none⟩))) (.const xa)) ty) w K:=by
 obtain ⟨i,S1,cs,l,hl,f⟩:=h;obtain ⟨o,q,vc,a⟩:=Inv.rowSlice f 1 rfl;refine dy f 0 (n:=1) (by rw [a]; rfl) (by decide +kernel) rfl (by omega) (by rw [a]; simp [Value.cells,Value.oneCell']) fun m f=>?_;have g:Value.cells xa=#[xa]:=by rw [a]; rfl
 have e:cB c d (Value.cells xa).toList=c.setIfInBounds d xa:=by
  rw [g];apply FE.1;simp only [cB,Yp];have hl:d<c.toList.length:=by simpa using hd
  rw [FG,ai hl];simp
 rw [e] at f;exact hk _ ⟨i,S1,cs,l,hl,f⟩
end
abbrev dW (d:Nat):Nat:=6 * 3 ^ d
theorem VV (d:Nat):6<=dW d:=by
 have:0<3 ^ d:=Nat.pow_pos (by omega);simp only [dW]; omega
theorem Xv (d:Nat):dW (d+1)=3 * dW d:=by simp only [dW,Nat.pow_succ]; omega
abbrev Y9 (br:Nat) (sl:Value) (p d:Nat):Value->List Item->ae->Prop:=fun v I' S'=>∃ p',p'+2<=p+dW d/\I'=[rdI br sl p']/\∃ cs t,v=.agg cs.toArray/\RdT S' cs t/\wT t+3<=dW d/\okU 26 t
end
end Go.Proofs.YtgllldjiaglkcaaGreatDoor

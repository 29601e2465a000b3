/- impl.ownClause, impl.ownProgram. -/
import Derived.Test.YtgllldjiaglkcaaGreatDoorZUf2
namespace Go.Proofs.YtgllldjiaglkcaaGreatDoor
section
open Go Go.RowKit
section
variable {w:World} {K:Value->World->Prop}
attribute [local irreducible] Run
theorem kJ {a b:Int} {s:ByteArray} {k v:Value} (f:∃ p n m,v=.slice p n m) (hk:K (.agg #[.int .i64 a,.int .i64 b,.string s,k,v]) w):Run Tryz.prog (cR ac [(0,.agg #[.int .i64 a,.int .i64 b,.string s,k]),(1,v)]) w K:=by
 obtain ⟨p,n,m,rfl⟩:=f;refine Run.of (v:=.agg #[.int .i64 a,.int .i64 b,.string s,k,.slice p n m]) (w':=w) ?_ hk;unfold cR;rw [Sem.run_bind,run_build w ac _ #[.int .i64 a,.int .i64 b,.string s,k,.slice p n m] (by kernel_rfl),Result.andThen_ok];rfl
theorem lg {a b:Int} {s:ByteArray} {k:Value} (hk:K (.agg #[.int .i64 a,.int .i64 b,.string s,k,.slice none 0 0]) w):Run Tryz.prog (cR ac [(0,.agg #[.int .i64 a,.int .i64 b,.string s,k])]) w K:=by
 refine Run.of (v:=.agg #[.int .i64 a,.int .i64 b,.string s,k,.slice none 0 0]) (w':=w) ?_ hk;unfold cR;rw [Sem.run_bind,run_build w ac _ #[.int .i64 a,.int .i64 b,.string s,k,.slice none 0 0] (by kernel_rfl),Result.andThen_ok];rfl
theorem jd {a b:Int} {s:ByteArray} (hk:K (.agg #[.int .i64 a,.int .i64 b,.string s,.slice none 0 0]) w):Run Tryz.prog (cR ab [(0,.int .i64 a),(1,.int .i64 b),(2,.string s)]) w K:=by
 refine Run.of (v:=.agg #[.int .i64 a,.int .i64 b,.string s,.slice none 0 0]) (w':=w) ?_ hk;unfold cR;rw [Sem.run_bind,run_build w ab _ #[.int .i64 a,.int .i64 b,.string s,.slice none 0 0] (by kernel_rfl),Result.andThen_ok];rfl
end
section
attribute [local irreducible] Run CondV aq aK
def pB (B B2 B2':Item) (M1 M2:bh) (d2 d5 d7:Bool):List Item:=B::(match d7 with|true=>B2'|false=>B2)::((match d2 with|true=>aV M1|false=>[])++(match d5 with|true=>aV M2|false=>[]))
theorem sd {c:C} {S:ae} {cs:List Value} (h:RdC S cs c) (hw:wC c<=1048576):Tri Tryz.prog Hp [.agg cs.toArray] [] S (Wt S c):=by
 intro w f;obtain ⟨hd,ks,rfl,h1,h2⟩:=h;have a3:=h1;obtain ⟨kv,rfl,g1,g2,g3,g4⟩:=RdT.iff.1 h1;unfold wC at hw;refine tZ.2 ?_;dsimp only[tZ,aO];refine bJ f fun M w' f=>?_;refine aQ f cX fun B w' f=>?_;have f:Inv w [] [.blk M (.cells #[.int .i64 c.head.kind,.int .i64 c.head.n,.string c.head.name,kv,ks] ac),.blk B (.cells #[.int .i64 0,.int .i64 0,.string ⟨#[]⟩,.slice none 0 0,.slice none 0 0] ac)] S w':=f;refine ⟨fun D x9 l x7 x6 x5 x4 x3 G=>Fx D 0 [x3=.pointer (some ⟨M,0,none⟩),x4=.agg #[.int .i64 c.head.kind,.int .i64 c.head.n,.string c.head.name,kv],True,x6=.pointer (some ⟨M,4,none⟩),x7=ks,True,True,True]/\∃ M1 M2 g,(D 2=true->x5=.agg #[.int .i64 c.head.kind,.int .i64 c.head.n,.string c.head.name,g]/\TrT M1 [.int .i64 c.head.kind,.int .i64 c.head.n,.string c.head.name,g] c.head)/\(D 5=true->TrSl 4 TrT M2 l c.body)/\(D 6=true->x9=.agg #[.int .i64 c.head.kind,.int .i64 c.head.n,.string c.head.name,g,l])/\(D 5=true->D 2=true)/\(D 6=true->D 5=true)/\(D 7=true->D 6=true)/\Inv w [] (pB (.blk M (.cells #[.int .i64 c.head.kind,.int .i64 c.head.n,.string c.head.name,kv,ks] ac)) (.blk B (.cells #[.int .i64 0,.int .i64 0,.string ⟨#[]⟩,.slice none 0 0,.slice none 0 0] ac)) (.blk B (.cells #[.int .i64 c.head.kind,.int .i64 c.head.n,.string c.head.name,g,l] ac)) M1 M2 (D 2) (D 5) (D 7)) S G,⟨Fx.nil _ _,⟨[],[],undef,aI,aI,aI,aI,aI,aI,f.draw⟩⟩,⟨?_,?_,?_,?_,?_,?_,?_,?_,trivial⟩,?_⟩;all_goals (intro D J; intros; rename_i x9 l x7 x6 x5 x4 x3 G O; have i:=O.1; obtain ⟨⟨cI,cJ,cH,cD,cL,cN,cq,dg,_⟩,⟨M1,M2,g,e2,m,o,t,q,r,f⟩⟩:=O)
 ·refine aw bO ?_;exact ⟨i.set 0 rfl,⟨M1,M2,g,e2,m,o,t,q,r,f⟩⟩
 ·obtain rfl:=cI ‹_›;refine dC f 0 [.int .i64 c.head.kind,.int .i64 c.head.n,.string c.head.name,kv] ad rfl rfl Ax ?_;exact ⟨i.set 1 rfl,⟨M1,M2,g,e2,m,o,t,q,r,f⟩⟩
 ·obtain rfl:=cJ ‹_›;have f5:D 5=false:=bx.2 fun h=>by rw [t h] at J; cases J
  have N:D 6=false:=bx.2 fun h=>by rw [q h] at f5; cases f5
  have V:D 7=false:=bx.2 fun h=>by rw [r h] at N; cases N
  rw [J,f5,V] at f;refine Run.call0 Ns NA f (Jv c.head S _ a3 (by omega)) fun v' I' S G=>?_;rintro ⟨rfl,a5,M1,rfl,rfl,U⟩ _ f;obtain ⟨g,rfl,_⟩:=TrT.iff.1 U;have e2:ao D 2 2=true->Value.agg #[.int .i64 c.head.kind,.int .i64 c.head.n,.string c.head.name,g]=Value.agg #[.int .i64 c.head.kind,.int .i64 c.head.n,.string c.head.name,g]/\TrT M1 [.int .i64 c.head.kind,.int .i64 c.head.n,.string c.head.name,g] c.head:=fun _=>⟨rfl,U⟩
  have o:=fun (h:D 6=true)=>(absurd h (by rw [N]; decide):x9=.agg #[.int .i64 c.head.kind,.int .i64 c.head.n,.string c.head.name,g,l])
  have t:=fun (_:ao D 2 5=true)=>(rfl:ao D 2 2=true)
  have f:Inv w [] (pB (.blk M (.cells #[.int .i64 c.head.kind,.int .i64 c.head.n,.string c.head.name,kv,ks] ac)) (.blk B (.cells #[.int .i64 0,.int .i64 0,.string ⟨#[]⟩,.slice none 0 0,.slice none 0 0] ac)) (.blk B (.cells #[.int .i64 c.head.kind,.int .i64 c.head.n,.string c.head.name,g,l] ac)) M1 M2 true (D 5) (D 7)) S G:=by
   rw [f5,V];simpa [pB] using f
  exact ⟨i.set 2 (by first|assumption|trivial),⟨M1,M2,g,e2,m,o,t,q,r,f⟩⟩
 ·refine aw aU ?_;exact ⟨i.set 3 rfl,⟨M1,M2,g,e2,m,o,t,q,r,f⟩⟩
 ·obtain rfl:=cD ‹_›;refine aT f 0 al rfl rfl ?_;exact ⟨i.set 4 (by first|assumption|trivial),⟨M1,M2,g,e2,m,o,t,q,r,f⟩⟩
 ·have D1:=cL ‹_›;have N:D 6=false:=bx.2 fun h=>by rw [q h] at J; cases J
  have V:D 7=false:=bx.2 fun h=>by rw [r h] at N; cases N
  rw [J,‹D 2=true›,V] at f;refine Run.call0 qH qf f (by rw [D1]; exact vM h2 (by omega)) fun v' I' S G=>?_;rintro ⟨rfl,M2,rfl,a1⟩ _ f;have m:=fun (_:ao D 5 5=true)=>a1;have o:=fun (h:D 6=true)=>(absurd h (by rw [N]; decide):x9=.agg #[.int .i64 c.head.kind,.int .i64 c.head.n,.string c.head.name,g,v'])
  have q:=fun (_:ao D 5 6=true)=>(rfl:ao D 5 5=true)
  have t:=fun (_:ao D 5 5=true)=>‹D 2=true›;have f:Inv w [] (pB (.blk M (.cells #[.int .i64 c.head.kind,.int .i64 c.head.n,.string c.head.name,kv,ks] ac)) (.blk B (.cells #[.int .i64 0,.int .i64 0,.string ⟨#[]⟩,.slice none 0 0,.slice none 0 0] ac)) (.blk B (.cells #[.int .i64 c.head.kind,.int .i64 c.head.n,.string c.head.name,g,v'] ac)) M1 M2 (D 2) true (D 7)) S G:=by
   rw [‹D 2=true›,V];simpa [pB] using f
  exact ⟨i.set 5 (by first|assumption|trivial),⟨M1,M2,g,e2,m,o,t,q,r,f⟩⟩
 ·have YE:=cH ‹_›;have Hj:=cN ‹_›;have Y:=(e2 ‹D 2=true›).1;subst Y;refine kJ (by obtain ⟨a8,a4,a2,_⟩:=m ‹D 5=true›; exact ⟨_,_,_,a2⟩) ?_;have o:ao D 6 6=true->Value.agg #[.int .i64 c.head.kind,.int .i64 c.head.n,.string c.head.name,g,l]=Value.agg #[.int .i64 c.head.kind,.int .i64 c.head.n,.string c.head.name,g,l]:=fun _=>rfl;have r:=fun (_:ao D 6 7=true)=>(rfl:ao D 6 6=true)
  have q:=fun (_:ao D 6 6=true)=>‹D 5=true›;exact ⟨i.set 6 (by first|assumption|trivial),⟨M1,M2,g,e2,m,o,t,q,r,f⟩⟩
 ·have Me:=cq ‹_›;have q6:=o ‹D 6=true›;subst q6;have Y:=(e2 ‹D 2=true›).2;have q5:=m ‹D 5=true›;rw [J,‹D 2=true›,‹D 5=true›] at f;refine au f 1 rfl aH rfl rfl ?_ fun G f=>?_
  ·intro u hu;have Z:u∈([.int .i64 c.head.kind,.int .i64 c.head.n,.string c.head.name,g,l]:List Value):=hu;simp at Z;have o1:g.oneCell'=true:=Y.one g (by simp);have o2:l.oneCell'=true:=by obtain ⟨a,cap,rfl,_⟩:=q5; rfl
   rcases Z with rfl|rfl|rfl|rfl|rfl <;> first|rfl|exact o1|exact o2
  have r:=fun (_:ao D 7 7=true)=>‹D 6=true›;have f:Inv w [] (pB (.blk M (.cells #[.int .i64 c.head.kind,.int .i64 c.head.n,.string c.head.name,kv,ks] ac)) (.blk B (.cells #[.int .i64 0,.int .i64 0,.string ⟨#[]⟩,.slice none 0 0,.slice none 0 0] ac)) (.blk B (.cells #[.int .i64 c.head.kind,.int .i64 c.head.n,.string c.head.name,g,l] ac)) M1 M2 (D 2) (D 5) true) S G:=by
   rw [‹D 2=true›,‹D 5=true›];exact f
  exact ⟨i.set 7 trivial,⟨M1,M2,g,e2,m,o,t,q,r,f⟩⟩
 obtain ⟨rfl,rfl,YE,rfl,D1,Hj,Me,_,_⟩:=i.all;have a0:D 2=true:=by assumption
 have Yf:D 5=true:=by assumption
 have vm:D 7=true:=by assumption
 clear i cI cJ cH cD cL cN cq dg;have Y:=(e2 a0).2;have q5:=m Yf;rw [a0,Yf,vm] at f;refine bB f 1 aH rfl rfl ?_;refine ⟨_,_,_,rfl,f.sub (dH [_,_] (aV M1++aV M2)),Ext.refl _ _ _,rfl,_,M1++M2,rfl,by rw [cK],_,l,M1,M2,rfl,rfl,Y,q5⟩
end
end
section
open Go Go.RowKit
theorem RdC.one {S:ae} {cs:List Value} {c:C} (h:RdC S cs c):∀ u∈cs,u.oneCell'=true:=by
 obtain ⟨hd,ks,rfl,g,a,cap,rfl,_⟩:=h;intro u f;rcases bF.1 f with f|f
 ·exact g.one u f
 ·simp at f; subst f; rfl
section
attribute [local irreducible] Run CondV aq aK
theorem Inv.rowSlice {w0 w:World} {X:List Nat} {L:List Item} {S:ae} {v:Value} {e:TypeId} {k n:Nat} {xs:List Value} (h:Inv w0 X L S w) (i:Nat) (f:L[i]?=some (.row v e k n xs)):∃ a m c,v=.slice a m c:=by
 have l:w.ownsRow 0 e k v n xs:=h.its (.row v e k n xs) (cz f);rcases l.2 with ⟨rfl,_⟩|⟨g,cap,o,rfl,_⟩
 ·exact ⟨_,_,_,rfl⟩
 ·exact ⟨_,_,_,rfl⟩
def aP (B1 B2 B3 B3' r r':Item) (rest:List Item) (M:bh) (B27:Item) (d7 d8 d9 d11:Bool):List Item:=
 B1::B2::(match d11 with|true=>B3'|false=>B3)::(match d9 with|true=>r'|false=>r)::(rest++((match d7 with|true=>aV M|false=>[])++(match d8 with|true=>[B27]|false=>[])))

theorem il:∀ (t:T) (S:ae) (cs:List Value),RdT S cs t->wT t<=1048576->Tri Tryz.prog wH [.agg cs.toArray] [] S (CP S t):=by
 refine T.ind fun k n s ks ih S cs h hw=>?_;intro w f;obtain ⟨kv,rfl,h1,h2,hs,a0⟩:=RdT.iff.1 h;simp only [T.name,T.kids,T.kind,T.n] at h1 h2 hs a0 ⊢;simp only [wT] at hw;refine nu.2 ?_;dsimp only[nu,aO];refine bJ f fun b1 w' f=>?_;refine aQ f bj fun b2 w' f=>?_;refine af f 0 rfl aW aG rfl ?_;refine af f 0 rfl bi aG rfl ?_;refine af f 0 rfl bl be rfl ?_;refine jd ?_;refine aQ f bj fun b3 w' f=>?_;refine au f 2 rfl ad rfl rfl (by simp [Value.oneCell']) fun w' f=>?_;have f:=f.rowNil ab 4;refine ⟨fun i w'=>∃ (j:Nat) (g:Value) (Ls:List bh) (css:List (List Value)),j<=ks.length/\i=.int .i64 j/\Grown 4 TrT Ls css (ks.take j)/\
   Inv w [] (.blk b1 (.cells #[.int .i64 k,.int .i64 n,.string s,kv] ab)::.blk b2 (.cells #[.int .i64 0,.int .i64 0,.string ⟨#[]⟩,.slice none 0 0] ab)::.blk b3 (.cells #[.int .i64 k,.int .i64 n,.string s,g] ab)::aA g ab 4 css::aV Ls.flatten) S w',
  fun i _=>ks.length - (intOf i).toNat,⟨0,_,[],[],bk _,rfl,Grown.nil _ _,f⟩,?_⟩
 intro t4 _ _ _ _ _ _ _ _ _ _ _ _ _ _ _ _ _ _ w';rintro ⟨j,g,Ls,css,hj,rfl,hg,f⟩;refine af f 0 rfl ar al rfl ?_;refine aJ a0 ah ?_;refine bS ?_;refine aL (fun a6=>?_) (fun a6=>?_)
 ·have Y:j<ks.length:=by omega
  have a9:(ks.take j).length=j:=by simp; omega
  have b0:=hg.hc;have hm:=bG Y;have b4:=iJ hm;obtain ⟨b,o,cap,c,E,fz,rfl,hS,hR⟩:=a0.at_ Y;refine ⟨fun D ji U pn kV fN lP r4 pR oK jG kZ w_=>Fx D 0 [kZ=.pointer (some ⟨b3,3,none⟩),jG=g,oK=.pointer (some ⟨b1,3,none⟩),pR=.slice (some ⟨b,o,none⟩) (ks).length cap,r4=.int .i64 j,lP=.pointer (some ⟨b,o+j * 4,none⟩),fN=.agg (aX c (o+j * 4) 4).toArray,True,True,True,ji=.pointer (some ⟨b3,3,none⟩),True]/\∃ M a r,(D 7=true->kV=.agg a.toArray/\TrT M a (ks)[j])/\(D 8=true->pn=.slice (some ⟨r,0,none⟩) 1 1)/\(D 8=true->D 7=true)/\(D 9=true->D 8=true)/\(D 11=true->D 9=true)/\(D 11=true->D 1=true)/\Inv w [] (aP (.blk b1 (.cells #[.int .i64 k,.int .i64 n,.string s,.slice (some ⟨b,o,none⟩) ks.length cap] ab)) (.blk b2 (.cells #[.int .i64 0,.int .i64 0,.string ⟨#[]⟩,.slice none 0 0] ab)) (.blk b3 (.cells #[.int .i64 k,.int .i64 n,.string s,g] ab)) (.blk b3 (.cells #[.int .i64 k,.int .i64 n,.string s,U] ab)) (aA g ab 4 css) (aA U ab 4 (css++[a])) (aV Ls.flatten) M (.blk r (.cells a.toArray ab)) (D 7) (D 8) (D 9) (D 11)) S w_,⟨Fx.nil _ _,⟨[],[],0,aI,aI,aI,aI,aI,aI,by simpa [aP,aV] using f.draw⟩⟩,⟨?_,?_,?_,?_,?_,?_,?_,?_,?_,?_,?_,?_,trivial⟩,?_⟩;all_goals (intro D Z; intros; rename_i ji U pn kV fN lP r4 pR oK jG kZ w_ a2; have q:=a2.1; obtain ⟨⟨cI,cJ,cH,cD,cL,cN,cq,dg,dG,dL,cT,dn,_⟩,⟨M,a,r,G,V,N,J,l,O,f⟩⟩:=a2)
  ·refine aw ar ?_;exact ⟨q.set 0 rfl,⟨M,a,r,G,V,N,J,l,O,f⟩⟩
  ·obtain rfl:=cI ‹_›;have B:D 11=false:=bx.2 fun h=>by rw [O h] at Z; cases Z
   refine aT (b:=b3) f 2 (c:=(#[.int .i64 k,.int .i64 n,.string s,g])) al (by rw [B]; rfl) rfl ?_;have O:=fun (_:ao D 1 11=true)=>(rfl:ao D 1 1=true)
   exact ⟨q.set 1 rfl,⟨M,a,r,G,V,N,J,l,O,f⟩⟩
  ·refine aw ar ?_;exact ⟨q.set 2 rfl,⟨M,a,r,G,V,N,J,l,O,f⟩⟩
  ·obtain rfl:=cH ‹_›;refine aT f 0 al rfl rfl ?_;exact ⟨q.set 3 rfl,⟨M,a,r,G,V,N,J,l,O,f⟩⟩
  ·exact ⟨q.set 4 rfl,⟨M,a,r,G,V,N,J,l,O,f⟩⟩
  ·obtain rfl:=cD ‹_›;obtain rfl:=cL ‹_›;refine az ah Y ?_;exact ⟨q.set 5 rfl,⟨M,a,r,G,V,N,J,l,O,f⟩⟩
  ·obtain rfl:=cN ‹_›;refine ci ad hR.length (fun j v hj=>by rw [f.cellS hS]; exact aF rfl j v hj) ?_;exact ⟨q.set 6 rfl,⟨M,a,r,G,V,N,J,l,O,f⟩⟩
  ·obtain rfl:=cq ‹_›;have f8:D 8=false:=bx.2 fun h=>by rw [N h] at Z; cases Z
   have f9:D 9=false:=bx.2 fun h=>by rw [J h] at f8; cases f8
   have B:D 11=false:=bx.2 fun h=>by rw [l h] at f9; cases f9
   rw [Z,f8,f9,B] at f;refine Run.call0 fP fO f (ih _ (bG Y) S _ hR (by omega)) fun v' I' S w_=>?_;rintro ⟨rfl,a,M,rfl,rfl,hT⟩ _ f;have G:ao D 7 7=true->Value.agg a.toArray=Value.agg a.toArray/\TrT M a (ks)[j]:=fun _=>⟨rfl,hT⟩
   have N:=fun (_:ao D 7 8=true)=>(rfl:ao D 7 7=true)
   have f:Inv w [] (aP (.blk b1 (.cells #[.int .i64 k,.int .i64 n,.string s,.slice (some ⟨b,o,none⟩) ks.length cap] ab)) (.blk b2 (.cells #[.int .i64 0,.int .i64 0,.string ⟨#[]⟩,.slice none 0 0] ab)) (.blk b3 (.cells #[.int .i64 k,.int .i64 n,.string s,g] ab)) (.blk b3 (.cells #[.int .i64 k,.int .i64 n,.string s,U] ab)) (aA g ab 4 css) (aA U ab 4 (css++[a])) (aV Ls.flatten) M (.blk r (.cells a.toArray ab)) true (D 8) (D 9) (D 11)) S w_:=by
    rw [f8,f9,B];simpa [aP] using f
   exact ⟨q.set 7 (by first|assumption|trivial),⟨M,a,r,G,V,N,J,l,O,f⟩⟩
  ·have WA:=dg ‹_›;have f9:D 9=false:=bx.2 fun h=>by rw [J h] at Z; cases Z
   have B:D 11=false:=bx.2 fun h=>by rw [l h] at f9; cases f9
   obtain ⟨q7,hT⟩:=G ‹D 7=true›;subst q7;rw [‹D 7=true›,Z,f9,B] at f;refine dB f bn (by simp [Value.cells,hT.length]) (by omega) (by omega) fun r w_ f=>?_;have G:ao D 8 7=true->Value.agg a.toArray=Value.agg a.toArray/\TrT M a (ks)[j]:=fun _=>⟨rfl,hT⟩
   have V:=fun (_:ao D 8 8=true)=>(rfl:Value.slice (some ⟨r,0,none⟩) 1 1=_)
   have N:=fun (_:ao D 8 8=true)=>‹D 7=true›;have J:=fun (_:ao D 8 9=true)=>(rfl:ao D 8 8=true)
   have f:Inv w [] (aP (.blk b1 (.cells #[.int .i64 k,.int .i64 n,.string s,.slice (some ⟨b,o,none⟩) ks.length cap] ab)) (.blk b2 (.cells #[.int .i64 0,.int .i64 0,.string ⟨#[]⟩,.slice none 0 0] ab)) (.blk b3 (.cells #[.int .i64 k,.int .i64 n,.string s,g] ab)) (.blk b3 (.cells #[.int .i64 k,.int .i64 n,.string s,U] ab)) (aA g ab 4 css) (aA U ab 4 (css++[a])) (aV Ls.flatten) M (.blk r (.cells a.toArray ab)) (D 7) true (D 9) (D 11)) S w_:=by
    rw [‹D 7=true›,f9,B];simpa [aP,Value.cells] using f
   exact ⟨q.set 8 (by first|assumption|trivial),⟨M,a,r,G,V,N,J,l,O,f⟩⟩
  ·obtain rfl:=cJ ‹_›;have DH:=dG ‹_›;have B:D 11=false:=bx.2 fun h=>by rw [l h] at Z; cases Z
   have q8:=V ‹D 8=true›;subst q8;obtain ⟨_,hT⟩:=G ‹D 7=true›;rw [‹D 7=true›,‹D 8=true›,Z,B] at f;have a3:((aP (.blk b1 (.cells #[.int .i64 k,.int .i64 n,.string s,.slice (some ⟨b,o,none⟩) ks.length cap] ab)) (.blk b2 (.cells #[.int .i64 0,.int .i64 0,.string ⟨#[]⟩,.slice none 0 0] ab)) (.blk b3 (.cells #[.int .i64 k,.int .i64 n,.string s,jG] ab)) (.blk b3 (.cells #[.int .i64 k,.int .i64 n,.string s,U] ab)) (aA jG ab 4 css) (aA U ab 4 (css++[a])) (aV Ls.flatten) M (.blk r (.cells a.toArray ab)) true true false false))[4+(aV Ls.flatten).length+(aV M).length]?=some (.blk r (.cells a.toArray ab)):=by
    have e4:4+(aV Ls.flatten).length+(aV M).length=((aV Ls.flatten).length+(aV M).length)+1+1+1+1:=by omega
    rw [e4];simp only [aP,kO];rw [gG (by omega),mO,gG (aS _),ey]; rfl
   refine dE f 3 a bn (by omega) rfl (by rw [hT.length]) (m:=1) (o:=0) ?_ hT.one (by omega) (by omega) fun v' w_ f=>?_
   ·intro i u hi;rw [f.cellL a3,cP];simpa using hi
   rw [eE] at f;have J:=fun (_:ao D 9 9=true)=>‹D 8=true›;have l:=fun (_:ao D 9 11=true)=>(rfl:ao D 9 9=true)
   have f:Inv w [] (aP (.blk b1 (.cells #[.int .i64 k,.int .i64 n,.string s,.slice (some ⟨b,o,none⟩) ks.length cap] ab)) (.blk b2 (.cells #[.int .i64 0,.int .i64 0,.string ⟨#[]⟩,.slice none 0 0] ab)) (.blk b3 (.cells #[.int .i64 k,.int .i64 n,.string s,jG] ab)) (.blk b3 (.cells #[.int .i64 k,.int .i64 n,.string s,v'] ab)) (aA jG ab 4 css) (aA v' ab 4 (css++[a])) (aV Ls.flatten) M (.blk r (.cells a.toArray ab)) (D 7) (D 8) true (D 11)) S w_:=by
    rw [‹D 7=true›,‹D 8=true›,B];exact f
   exact ⟨q.set 9 (by first|assumption|trivial),⟨M,a,r,G,V,N,J,l,O,f⟩⟩
  ·refine aw ar ?_;exact ⟨q.set 10 rfl,⟨M,a,r,G,V,N,J,l,O,f⟩⟩
  ·obtain rfl:=cT ‹_›;have Eb:=dL ‹_›;rw [‹D 7=true›,‹D 8=true›,‹D 9=true›,Z] at f;obtain ⟨va,vn,vc,a1⟩:=Inv.rowSlice f 3 rfl;refine dy f 2 (n:=1) (by rw [a1]; rfl) (by decide +kernel) rfl (by simp) (by rw [a1]; simp [Value.cells,Value.oneCell']) fun w_ f=>?_;have a4:Value.cells U=#[U]:=by rw [a1]; rfl
   rw [a4] at f;have O:=fun (_:ao D 11 11=true)=>‹D 1=true›;have l:=fun (_:ao D 11 11=true)=>‹D 9=true›;have f:Inv w [] (aP (.blk b1 (.cells #[.int .i64 k,.int .i64 n,.string s,.slice (some ⟨b,o,none⟩) ks.length cap] ab)) (.blk b2 (.cells #[.int .i64 0,.int .i64 0,.string ⟨#[]⟩,.slice none 0 0] ab)) (.blk b3 (.cells #[.int .i64 k,.int .i64 n,.string s,g] ab)) (.blk b3 (.cells #[.int .i64 k,.int .i64 n,.string s,U] ab)) (aA g ab 4 css) (aA U ab 4 (css++[a])) (aV Ls.flatten) M (.blk r (.cells a.toArray ab)) (D 7) (D 8) (D 9) true) S w_:=by
    rw [‹D 7=true›,‹D 8=true›,‹D 9=true›];exact f
   exact ⟨q.set 11 trivial,⟨M,a,r,G,V,N,J,l,O,f⟩⟩
  obtain ⟨rfl,rfl,rfl,rfl,rfl,rfl,rfl,WA,DH,Eb,rfl,_,_⟩:=q.all;have vm:D 7=true:=by assumption
  have FO:D 8=true:=by assumption
  have OK:D 9=true:=by assumption
  have Ai:D 11=true:=by assumption
  clear q cI cJ cH cD cL cN cq dg dG dL cT dn;obtain ⟨_,hT⟩:=G vm;rw [vm,FO,OK,Ai] at f;refine bC (by omega) ?_;refine ⟨⟨j+1,U,Ls++[M],css++[a],Y,rfl,?_,?_⟩,by simp [intOf]; omega⟩
  ·rw [eV Y];exact hg.snoc hT hT.length
  ·simp only [mG,fh,k0,bV,cK];refine f.sub ?_;simp only [aP];rw [<- dx];exact (((dt _ _).cons_cons _).cons_cons _).cons_cons _ |>.cons_cons _
 ·have:j=ks.length:=by omega
  subst this;rw [d4] at hg;obtain ⟨va,vn,vc,a7⟩:=f.rowSlice 3 rfl;have a8:g.oneCell'=true:=by rw [a7]; rfl
  refine aC f 2 ad rfl rfl ?_;refine au f 1 rfl ad rfl rfl ?_ fun w' f=>?_
  ·intro u hu;have a5:u∈([.int .i64 k,.int .i64 n,.string s,g]:List Value):=hu;simp at a5;rcases a5 with rfl|rfl|rfl|rfl <;> first|rfl|exact a8
  refine bB f 1 ad rfl rfl ?_;have f:Inv w [] ([]++(aA g ab 4 css::aV Ls.flatten)) S w':=f.sub (dH [_,_,_] _);obtain ⟨L,hT,f⟩:=Inv.rowTree f hg;exact ⟨_,_,_,rfl,f,Ext.refl _ _ _,rfl,_,L,rfl,rfl,TrT.iff.2 ⟨g,rfl,h1,h2,hs,hT⟩⟩
end
end
section
open Go Go.RowKit
attribute [local irreducible] Run CondV aq aK

def py (t u:T):Bool:=decide (t.kind=u.kind) && (decide (t.n=u.n) && (decide (t.name=u.name) && decide (t.kids.length=u.kids.length)))
theorem od (k n k' n':Int) (s f:ByteArray) (ks a:List T):py (.mk k n s ks) (.mk k' n' f a)=(decide (k=k') && (decide (n=n') && (decide (s=f) && decide (ks.length=a.length)))):=rfl
theorem X9 {α β:Type} (a:List α) (b:List β):decide (a.length=b.length)=decide ((a.length:Int)=(b.length:Int)):=by
 rw [nZ];simp only [bD];omega
end
section
open Go Go.RowKit
attribute [local irreducible] Run CondV aq aK

theorem qZ {xs:List T} (U:∀ t∈xs,∀ (u:T) (S:ae) (cs ds:List Value),RdT S cs t->RdT S ds u->Pure Tryz.prog qI [.agg cs.toArray,.agg ds.toArray] S (.bool (eqT t u)))
  {ys:List T} {S:ae} {v u:Value} (h:RdSl S 4 (RdT S) v xs) (N:RdSl S 4 (RdT S) u ys):Pure Tryz.prog wS [v,u,.func (.func qI) #[] #[]] S (.bool (eqL xs ys)):=by
 intro w a;have O:(xs.length:Int)<=9223372036854775807:=by have:=h.le; simp only [maxLen] at this; omega
 refine lM.2 ?_;dsimp only[lM,fQ];refine aJ h ah ?_;refine aJ N ah ?_;refine fW ?_;refine aD (fun l=>?_) (fun J=>?_)
 ·exact done a (by rw [Xw (by simp at l; omega)])
 have J:xs.length=ys.length:=by simp at J; omega
 refine aJ h ah ?_;refine ⟨fun i w'=>∃ (k:Nat),k<=xs.length/\i=.int .i64 k/\eqL (xs.drop k) (ys.drop k)=eqL xs ys/\Inv w [] [] S w',fun i _=>xs.length - (intOf i).toNat,⟨0,bk _,rfl,rfl,a⟩,?_⟩;intro V _ _ _ _ _ _ _ _ _ _ _ _ _ _ _ _ _ _ w';rintro ⟨k,hk,rfl,f,a⟩;refine bS ?_;refine aL (fun M=>?_) (fun M=>?_)
 ·have m:k<xs.length:=by omega
  have B:k<ys.length:=by omega
  have g:eqL (xs.drop k) (ys.drop k)=(eqT xs[k] ys[k] && eqL (xs.drop (k+1)) (ys.drop (k+1))):=by
   rw [dY m,dY B,eqL]
  refine co a h ah ad m (fun _ _=>RdT.length) fun cs o=>?_;have D:=o.length;refine aQ a bj fun Y w' a=>?_;refine au a 0 rfl ad (by simpa using D) rfl (by simpa using o.one) fun w' a=>?_;refine co a N ah ad B (fun _ _=>RdT.length) fun ds q=>?_;have G:=q.length;refine aQ a bj fun Z w' a=>?_;refine au a 1 rfl ad (by simpa using G) rfl (by simpa using q.one) fun w' a=>?_;refine aC a 0 ad rfl (by simpa using D) ?_;refine aC a 1 ad rfl (by simpa using G) ?_;refine Run.callPure oA oy a (U _ (bG m) _ S _ _ o q) fun w' a=>?_;refine cw ?_;refine aD (fun l=>?_) (fun r=>?_)
  ·exact done a (by rw [<- f,g]; simp at l; rw [l]; rfl)
  ·refine bC (by omega) ?_;refine ⟨⟨k+1,m,rfl,?_,a.nil⟩,by simp [intOf]; omega⟩;rw [<- f,g];simp at r;rw [r,eH]
 ·have:k=xs.length:=by omega
  subst this;refine done a ?_;rw [<- f,eC,J,eC];rfl
theorem ij:∀ (t u:T) (S:ae) (cs ds:List Value),RdT S cs t->RdT S ds u->Pure Tryz.prog qI [.agg cs.toArray,.agg ds.toArray] S (.bool (eqT t u)):=by
 refine T.ind fun k n s ks l u S cs ds h m=>?_;intro w a;obtain ⟨kv,rfl,_,_,_,g⟩:=RdT.iff.1 h;obtain ⟨o,rfl,_,_,_,f⟩:=RdT.iff.1 m;obtain ⟨k',n',q,r⟩:=u;simp only [T.name,T.kids,T.kind,T.n] at g f ⊢;refine vV.2 ?_;dsimp only[vV,bm];refine bJ a fun B w' a=>?_;refine bJ a fun D w' a=>?_;refine af a 0 rfl aW aG rfl ?_;refine af a 1 rfl aW aG rfl ?_;refine bw ?_;by_cases e1:k=k'
 ·rw [aN e1];refine rpG ?_;refine af a 0 rfl bi aG rfl ?_;refine af a 1 rfl bi aG rfl ?_;refine bw ?_;by_cases e2:n=n'
  ·rw [aN e2];refine rpG ?_;refine af a 0 rfl bl be rfl ?_;refine af a 1 rfl bl be rfl ?_;refine bQ ?_;by_cases i:s=q
   ·rw [aN i];refine rpG ?_;refine af a 0 rfl ar al rfl ?_;refine af a 1 rfl ar al rfl ?_;refine Run.callPure iE iD a (qZ l g f) fun w' a=>?_;refine rpG ?_;exact done a (by rw [eqT,aN e1,aN e2,aN i]; rfl)
   ·rw [ba i];refine rpG ?_;exact done a (by rw [eqT,aN e1,aN e2,ba i]; rfl)
  ·rw [ba e2];refine rpG ?_;exact done a (by rw [eqT,aN e1,ba e2]; rfl)
 ·rw [ba e1];refine rpG ?_;exact done a (by rw [eqT,ba e1]; rfl)
end
section
open Go Go.RowKit

theorem tG {n:Int}:∀ (l:List MapEntry) (i:Nat),(∀ e∈l,∃ m,e.key=.int .i64 m)->
  (∃ j,∃ e∈l,e.key=.int .i64 n/\Instr.findNow (.int .i64) (.int .i64 n) l i=some (some (j,e.val))) ∨ ((∀ e∈l,e.key≠.int .i64 n)/\Instr.findNow (.int .i64) (.int .i64 n) l i=some none)
 | [],i,_=>.inr ⟨by simp,rfl⟩
 | e::l,i,h=>by
  obtain ⟨m,o⟩:=h e (aM ..);have q:Instr.sameNow (.int .i64) (.int .i64 n) e.key=some (n == m):=by rw [o]; rfl
  by_cases a:n=m
  ·refine .inl ⟨i,e,aM ..,by rw [o,a],?_⟩;have:(n == m)=true:=by simpa using a
   rw [Instr.findNow,q,this]
  ·have t:(n == m)=false:=by simpa using a
   rcases tG l (i+1) (fun e B=>h e (aR _ B)) with ⟨j,f,r,hk,hf⟩|⟨hk,hf⟩
   ·exact .inl ⟨j,f,aR _ r,hk,by rw [Instr.findNow,q,t]; exact hf⟩
   ·refine .inr ⟨fun x g=>?_,by rw [Instr.findNow,q,t]; exact hf⟩;rcases bY.1 g with rfl|g
    ·rw [o];intro f;simp only [Value.int.injEq,i7] at f;exact a f.symm
    ·exact hk x g
section
variable {P:Program} {w w0:World} {X:List Nat} {L:List Item} {S:ae} {K:Value->World->Prop}
attribute [local irreducible] Run CondV aq aK
theorem l6 {f:TypeId} {d:TypeDesc} {k:Value} {l:List MapEntry} {a:Option (Nat × Value)} (hd:P.underlying f=some d) (h:Instr.findNow d k l 0=some a):(Instr.findKey f k l).run P w=.ok a w:=by
 simp [Instr.findKey,run_underlying hd,Result.andThen,h]
theorem JN (h:Inv w0 X L S w) {T ty:TypeId} (hk:∀ b w',Inv w0 X (L++[.blk b (.map #[] 0)]) S w'->K (.map (some b)) w'):Run P (sOp (.makeMap T none) ty) w K:=by
 refine Run.of (v:=.map (some w.heap.size)) (w':={ w with heap:=w.heap.push (.map #[] 0) }) ?_ (hk _ _ (h.alloc _));simp [sOp,execOp,Instr.makeMap,newObj,Sem.run]
theorem OD (h:Inv w0 X L S w) {T l B ty:TypeId} {b a:Nat} {f:Array MapEntry} {n:Int} {v:Value} (i:Nat) (D:P.underlying T=some (.map l B)) (g:P.underlying l=some (.int .i64))
  (r:L[i]?=some (.blk b (.map f a))) (hf:Instr.findNow (.int .i64) (.int .i64 n) f.toList 0=some none)
  (hk:∀ w',Inv w0 X (L.set i (.blk b (.map (f.push { key:=.int .i64 n,val:=v,born:=a }) (a+1)))) S w'->K undef w') :
  Run P (sOp (.mapUpdate T (.const (.map (some b))) (.const (.int .i64 n)) (.const v)) ty) w K:=by
 have t:w.heap[b]?=some (.map f a):=h.its _ (cz r);have m:∀ e,(Instr.checkKey e 10000 l (.int .i64 n)).run P w=.ok () w:=fun e=>by
  rw [show (10000:Nat)=9999+1 from rfl,Instr.checkKey];simp [run_underlying g]
 have G:(getObj b).run P w=.ok (.map f a) w:=by simp [getObj,Sem.run,t]
 have o:=l6 (P:=P) (w:=w) g hf;refine Run.ofSkip (w':={ w with heap:=w.heap.setIfInBounds b (.map (f.push { key:=.int .i64 n,val:=v,born:=a }) (a+1)) }) ?_ (hk _ (h.setBlk r _ rfl));have q:(setObj b (.map (f.push { key:=.int .i64 n,val:=v,born:=a }) (a+1))).run P w=.ok () { w with heap:=w.heap.setIfInBounds b (.map (f.push { key:=.int .i64 n,val:=v,born:=a }) (a+1)) }:=by simp [setObj,Sem.run,t]
 simp [sOp,execOp,ev0,evE,Instr.mapUpdate,run_underlying D,G,m,o,q]
end
end
section
open Go Go.RowKit

abbrev aj:=List (Option T)
mutual
def qq:T->T->aj->Bool × aj
 | .mk k n s ks,u,st=>if k=1 then (match st[n.toNat]? with
   | some (some t)=>(eqT t u,st)
   | _=>(true,st.set n.toNat (some u)))
  else if py (.mk k n s ks) u=true then UE ks u.kids st else (false,st)
def UE:List T->List T->aj->Bool × aj
 | [],_,st=>(true,st)
 | _::_,[],st=>(true,st)
 | t::ts,u::us,st=>if (qq t u st).1=true then UE ts us (qq t u st).2 else (false,(qq t u st).2)
end
mutual
def okV:T->Prop
 | .mk k n _ ks=>(k=1->0<=n/\n<=25)/\AC ks
def AC:List T->Prop
 | []=>True
 | t::ts=>okV t/\AC ts
end
theorem Nq:∀ {ts:List T},AC ts->∀ t∈ts,okV t
 | _::_,h,t,a=>by
  rcases bY.1 a with rfl|a
  ·exact h.1
  ·exact Nq h.2 t a
mutual
def okK:T->Prop
 | .mk k _ _ ks=>k≠0/\PK ks
def PK:List T->Prop
 | []=>True
 | t::ts=>okK t/\PK ts
end
theorem Qf {t:T} (h:eB t=true):(t.kind=1->0<=t.n/\t.n<=25)/\t.kind≠0:=by
 unfold eB at h;refine ⟨fun hk=>?_,fun hk=>?_⟩
 ·rw [ai hk] at h;simp only [bM,bD] at h;exact ⟨h.1,h.2.1⟩
 ·rw [ag (by omega),ag (by omega),ag (by omega)] at h;cases h
def aaZ (st:aj):Prop:=st.length=26/\∀ t,some t∈st->okK t
def qm:List Value:=[.int .i64 0,.int .i64 0,.string ⟨#[]⟩,.slice none 0 0]
def KnownC (S:ae) (c:Array Value) (st:aj):Prop:=104<=c.size/\∀ i (h:i<st.length),(st[i]=none->aX c (i * 4) 4=qm)/\(∀ t,st[i]=some t->RdT S (aX c (i * 4) 4) t)
theorem KnownC.set {S:ae} {c:Array Value} {st:aj} (h:KnownC S c st) {n:Nat} (hn:n<26) {cs:List Value} {u:T} (f:RdT S cs u):KnownC S (cB c (n * 4) cs) (st.set n (some u)):=by
 have a:=f.length;have m:=h.1;have q:104<=(cB c (n * 4) cs).size:=by rw [kK _ _ _ (by omega)]; exact m
 refine ⟨q,fun i g=>?_⟩;rw [ly] at g;by_cases e:n=i
 ·subst e;rw [Oi];refine ⟨fun h=>(by cases h),fun t l=>?_⟩;simp only [aY] at l;subst l;have:=iu (c:=c) (o:=n * 4) (vs:=cs) (by omega);rw [a] at this;rw [this];exact f
 ·rw [R6 e,hY (by omega) (by omega)];exact h.2 i g
section
attribute [local irreducible] Run CondV aq aK
abbrev kvn (kb kp:Nat):Value:=.slice (some ⟨kb,0,none⟩) 26 kp
abbrev kv0 (kb:Nat):Value:=kvn kb 26
end
end
section
open Go Go.RowKit

def kU:List Int->Int->Int->Nat->Int
 | [],_,cur,_=>cur
 | x::xs,n,cur,k=>kU xs n (if x=n then (k:Int) else cur) (k+1)
def ot (vs:List Int) (n:Int):Int:=(cn (σ:=Unit) (fun _ x=>(decide (n=x),())) () vs 0).1
mutual
def dq (vs:List Int):T->T
 | .mk k n s ks=>.mk k (if k=1 then kU vs n n 0 else n) s (er vs ks)
def er (vs:List Int):List T->List T
 | []=>[]
 | t::ts=>dq vs t::er vs ts
end
mutual
def jQ (vs:List Int):T->T
 | .mk k n s ks=>if k=1 then .mk 1 (ot vs n) ⟨#[]⟩ [] else .mk k n s (fC vs ks)
def fC (vs:List Int):List T->List T
 | []=>[]
 | t::ts=>jQ vs t::fC vs ts
end
theorem JU:∀ (xs:List Int) (n a:Int) (k:Nat),n ∉ xs->kU xs n a k=a
 | [],n,a,k,_=>rfl
 | x::xs,n,a,k,h=>by
  rw [kU,ag (fun e=>h (by rw [e]; exact aM ..)),JU xs n a (k+1) fun e=>h (aR _ e)]
theorem BB:∀ (xs:List Int) (n a:Int) (k:Nat),n∈xs->xs.Nodup->kU xs n a k=(cn (σ:=Unit) (fun _ x=>(decide (n=x),())) () xs k).1
 | x::xs,n,a,k,h,hd=>by
  rw [ED] at hd;rw [kU,cn];by_cases e:x=n
  ·subst e;rw [ai rfl,JU _ _ _ _ hd.1];simp
  ·rw [ag e];have f:n∈xs:=by
    rcases bY.1 h with h|h
    ·exact absurd h.symm e
    ·exact h
   have:decide (n=x)=false:=ba fun q=>e q.symm;simp only [this,Ha,if_false];exact BB xs n a (k+1) f hd.2
theorem IL:∀ (xs:List Int) (n a:Int) (k:Nat),kU xs n a k=a ∨ (0<=kU xs n a k/\kU xs n a k<k+xs.length)
 | [],n,a,k=>.inl rfl
 | x::xs,n,a,k=>by
  rw [kU];rcases IL xs n (if x=n then (k:Int) else a) (k+1) with h|h
  ·split at h
   ·right; rw [ai (by assumption),h]; simp; omega
   ·left; rw [ag (by assumption)]; exact h
  ·right;simp only [bq];omega
theorem U1 (vs:List Int) (n:Int):-1<=ot vs n/\ot vs n<vs.length+1:=by
 have:∀ (xs:List Int) (k:Nat),-1<=(cn (σ:=Unit) (fun _ x=>(decide (n=x),())) () xs k).1/\(cn (σ:=Unit) (fun _ x=>(decide (n=x),())) () xs k).1<k+xs.length+1:=by
  intro xs;induction xs with
  | nil=>intro k; simp [cn]; omega
  | cons x xs a=>
   intro k;rw [cn];have:=a (k+1);split
   ·simp; omega
   ·simp only [bq]; omega
 have h:=this vs 0;rw [ot];omega
mutual
def inT (vs:List Int):T->Prop
 | .mk k n _ ks=>(k=1->n∈vs)/\inL vs ks
def inL (vs:List Int):List T->Prop
 | []=>True
 | t::ts=>inT vs t/\inL vs ts
end
theorem sH (l:List Int) (n:Int):vw l n=true↔n∈l:=by
 simp [vw]
theorem MB (l:List Int) (n:Int):n∈jr l n/\∀ m∈l,m∈jr l n:=by
 unfold jr;split
 ·rename_i h; exact ⟨(sH l n).1 h,fun m h=>h⟩
 ·exact ⟨by simp,fun m h=>by simp [h]⟩
theorem GE {l:List Int} (n:Int) (h:l.Nodup):(jr l n).Nodup:=by
 unfold jr;split
 ·exact h
 ·rename_i hn
  rw [oB];refine ⟨h,by simp,fun a g b f e=>hn ((sH l n).2 ?_)⟩;simp at f;rw [<- f,<- e];exact g
mutual
theorem Tj:∀ (t:T) (l:List Int),∀ m∈l,m∈iy t l
 | .mk k n s ks,l,m,h=>by
  rw [iy];refine uM ks _ m ?_;split
  ·exact (MB l n).2 m h
  ·exact h
theorem uM:∀ (ts:List T) (l:List Int),∀ m∈l,m∈cU ts l
 | [],l,m,h=>h
 | t::ts,l,m,h=>by
  rw [cU];exact uM ts _ m (Tj t l m h)
end
mutual
theorem Nd:∀ (t:T) (l:List Int),l.Nodup->(iy t l).Nodup
 | .mk k n s ks,l,h=>by
  rw [iy];refine n8 ks _ ?_;split
  ·exact GE n h
  ·exact h
theorem n8:∀ (ts:List T) (l:List Int),l.Nodup->(cU ts l).Nodup
 | [],l,h=>h
 | t::ts,l,h=>by
  rw [cU];exact n8 ts _ (Nd t l h)
end
mutual
theorem OM {vs a:List Int} (h:∀ m∈vs,m∈a):∀ t:T,inT vs t->inT a t
 | .mk k n s ks,hi=>by
  rw [inT] at hi ⊢;exact ⟨fun e=>h _ (hi.1 e),Mr h ks hi.2⟩
theorem Mr {vs a:List Int} (h:∀ m∈vs,m∈a):∀ ts:List T,inL vs ts->inL a ts
 | [],_=>by simp [inL]
 | t::ts,hi=>by
  rw [inL] at hi ⊢;exact ⟨OM h t hi.1,Mr h ts hi.2⟩
end
mutual
theorem Vm:∀ (t:T) (l:List Int),inT (iy t l) t
 | .mk k n s ks,l=>by
  rw [iy,inT];refine ⟨fun e=>uM ks _ n ?_,oR ks _⟩;rw [ai e];exact (MB l n).1
theorem oR:∀ (ts:List T) (l:List Int),inL (cU ts l) ts
 | [],l=>by simp [inL]
 | t::ts,l=>by
  rw [cU,inL];exact ⟨OM (uM ts _) t (Vm t l),oR ts _⟩
end
theorem V8 {t:T} (h:eB t=true) (hk:t.kind=1):t.name=emptyB/\t.kids.length=0:=by
 unfold eB at h;rw [ai hk] at h;simp only [bM,bD] at h;exact ⟨h.2.2.1,h.2.2.2⟩
theorem mc (vs:List Int):∀ ts:List T,(er vs ts).length=ts.length
 | []=>rfl
 | t::ts=>by rw [er]; simp [mc vs ts]
theorem pV (vs:List Int):∀ ts:List T,(fC vs ts).length=ts.length
 | []=>rfl
 | t::ts=>by rw [fC]; simp [pV vs ts]
theorem G3 (vs:List Int) (ts:List T) (j:Nat) (h:j<ts.length):er vs (ts.take (j+1))=er vs (ts.take j)++[dq vs ts[j]]:=by
 have:∀ (xs ys:List T),er vs (xs++ys)=er vs xs++er vs ys:=by
  intro xs ys;induction xs with
  | nil=>rfl
  | cons x xs a=>simp [er,a]
 rw [eV h,this]; rfl
theorem Ff (vs:List Int) (ts:List T) (j:Nat) (h:j<ts.length):fC vs (ts.take (j+1))=fC vs (ts.take j)++[jQ vs ts[j]]:=by
 have:∀ (xs ys:List T),fC vs (xs++ys)=fC vs xs++fC vs ys:=by
  intro xs ys;induction xs with
  | nil=>rfl
  | cons x xs a=>simp [fC,a]
 rw [eV h,this]; rfl
def vd (vs:List Int) (c:C):C:=⟨dq vs c.head,er vs c.body⟩
def bX (c:C):List Int:=c7 (c.head::c.body) []
end
section
open Go Go.RowKit
section
attribute [local irreducible] Run CondV aq aK
theorem z4 {a:C} {S:ae} {cs:List Value} (h:RdC S cs a) (hw:wC a<=1048576):Tri Tryz.prog GZ [.agg cs.toArray] [] S (Wt S a):=by
 intro w f;obtain ⟨hd,ks,rfl,h1,h2⟩:=h;have a9:=h1;obtain ⟨kv,rfl,g1,g2,g3,g4⟩:=RdT.iff.1 h1;unfold wC at hw;refine mY.2 ?_;dsimp only[mY,aO];refine bJ f fun b1 w' f=>?_;refine aQ f cX fun b2 w' f=>?_;refine aw bO ?_;refine dC f 0 [.int .i64 a.head.kind,.int .i64 a.head.n,.string a.head.name,kv] ad rfl rfl Ax ?_;refine Run.call0 fP fO f (il _ S _ a9 (by omega)) fun v' I' S w'=>?_;rintro ⟨rfl,b4,N,rfl,rfl,a2⟩ _ f;obtain ⟨B,rfl,_⟩:=TrT.iff.1 a2;refine lg ?_;refine aQ f cX fun b3 w' f=>?_;have f:=f.perm (M:=.blk b1 _::.blk b2 _::.blk b3 _::aV N) (((cj (l₁:=[_])).cons _).cons _);refine au f 2 rfl aH rfl rfl ?_ fun w' f=>?_
 ·intro u hu;have a0:u∈([.int .i64 a.head.kind,.int .i64 a.head.n,.string a.head.name,B,.slice none 0 0]:List Value):=hu;simp at a0;have o1:B.oneCell'=true:=a2.one B (by simp);rcases a0 with rfl|rfl|rfl|rfl|rfl <;> first|rfl|exact o1
 have f:=f.rowNil ab 4;have f:=f.perm (M:=.blk b1 (.cells #[.int .i64 a.head.kind,.int .i64 a.head.n,.string a.head.name,kv,ks] ac)::.blk b2 (.cells #[.int .i64 0,.int .i64 0,.string ⟨#[]⟩,.slice none 0 0,.slice none 0 0] ac)::.blk b3 (.cells #[.int .i64 a.head.kind,.int .i64 a.head.n,.string a.head.name,B,.slice none 0 0] ac)::aA (.slice none 0 0) ab 4 []::aV N) ((((cj (l₁:=[_])).cons _).cons _).cons _);refine ⟨fun i w'=>∃ (j:Nat) (l:Value) (Ls:List bh) (css:List (List Value)),j<=a.body.length/\i=.int .i64 j/\Grown 4 TrT Ls css (a.body.take j)/\
   Inv w [] (.blk b1 (.cells #[.int .i64 a.head.kind,.int .i64 a.head.n,.string a.head.name,kv,ks] ac)::.blk b2 (.cells #[.int .i64 0,.int .i64 0,.string ⟨#[]⟩,.slice none 0 0,.slice none 0 0] ac)::.blk b3 (.cells #[.int .i64 a.head.kind,.int .i64 a.head.n,.string a.head.name,B,l] ac)::aA l ab 4 css::aV (N::Ls).flatten) S w',
  fun i _=>a.body.length - (intOf i).toNat,⟨0,_,[],[],bk _,rfl,Grown.nil _ _,by simp only [fh,k0,bV]; exact f⟩,?_⟩
 intro t4 _ _ _ _ _ _ _ _ _ _ _ _ _ _ _ _ _ _ w';rintro ⟨j,l,Ls,css,hj,rfl,hg,f⟩;refine af f 0 rfl aU al rfl ?_;refine aJ h2 ah ?_;refine bS ?_;refine aL (fun a7=>?_) (fun a7=>?_)
 ·have a1:j<a.body.length:=by omega
  have b5:(a.body.take j).length=j:=by simp; omega
  have b6:=hg.hc;have hm:=bG a1;have b7:=iJ hm;obtain ⟨b,o,cap,c,E,fz,rfl,hS,hR⟩:=h2.at_ a1;refine ⟨fun D kV Y lP r4 pR oK jG kZ rF jX rb w_=>Fx D 0 [rb=.pointer (some ⟨b3,4,none⟩),jX=l,rF=.pointer (some ⟨b1,4,none⟩),kZ=.slice (some ⟨b,o,none⟩) (a.body).length cap,jG=.int .i64 j,oK=.pointer (some ⟨b,o+j * 4,none⟩),pR=.agg (aX c (o+j * 4) 4).toArray,True,True,True,kV=.pointer (some ⟨b3,4,none⟩),True]/\∃ M g t,(D 7=true->r4=.agg g.toArray/\TrT M g (a.body)[j])/\(D 8=true->lP=.slice (some ⟨t,0,none⟩) 1 1)/\(D 8=true->D 7=true)/\(D 9=true->D 8=true)/\(D 11=true->D 9=true)/\(D 11=true->D 1=true)/\Inv w [] (aP (.blk b1 (.cells #[.int .i64 a.head.kind,.int .i64 a.head.n,.string a.head.name,kv,.slice (some ⟨b,o,none⟩) a.body.length cap] ac)) (.blk b2 (.cells #[.int .i64 0,.int .i64 0,.string ⟨#[]⟩,.slice none 0 0,.slice none 0 0] ac)) (.blk b3 (.cells #[.int .i64 a.head.kind,.int .i64 a.head.n,.string a.head.name,B,l] ac)) (.blk b3 (.cells #[.int .i64 a.head.kind,.int .i64 a.head.n,.string a.head.name,B,Y] ac)) (aA l ab 4 css) (aA Y ab 4 (css++[g])) (aV (N::Ls).flatten) M (.blk t (.cells g.toArray ab)) (D 7) (D 8) (D 9) (D 11)) S w_,⟨Fx.nil _ _,⟨[],[],0,aI,aI,aI,aI,aI,aI,by simpa [aP,aV] using f.draw⟩⟩,⟨?_,?_,?_,?_,?_,?_,?_,?_,?_,?_,?_,?_,trivial⟩,?_⟩;all_goals (intro D bH; intros; rename_i kV Y lP r4 pR oK jG kZ rF jX rb w_ a4; have r:=a4.1; obtain ⟨⟨cI,cJ,cH,cD,cL,cN,cq,dg,dG,dL,cT,dn,_⟩,⟨M,g,t,J,Z,U,O,q,V,f⟩⟩:=a4)
  ·refine aw aU ?_;exact ⟨r.set 0 rfl,⟨M,g,t,J,Z,U,O,q,V,f⟩⟩
  ·obtain rfl:=cI ‹_›;have G:D 11=false:=bx.2 fun h=>by rw [V h] at bH; cases bH
   refine aT (b:=b3) f 2 (c:=(#[.int .i64 a.head.kind,.int .i64 a.head.n,.string a.head.name,B,l])) al (by rw [G]; rfl) rfl ?_;have V:=fun (_:ao D 1 11=true)=>(rfl:ao D 1 1=true)
   exact ⟨r.set 1 rfl,⟨M,g,t,J,Z,U,O,q,V,f⟩⟩
  ·refine aw aU ?_;exact ⟨r.set 2 rfl,⟨M,g,t,J,Z,U,O,q,V,f⟩⟩
  ·obtain rfl:=cH ‹_›;refine aT f 0 al rfl rfl ?_;exact ⟨r.set 3 rfl,⟨M,g,t,J,Z,U,O,q,V,f⟩⟩
  ·exact ⟨r.set 4 rfl,⟨M,g,t,J,Z,U,O,q,V,f⟩⟩
  ·obtain rfl:=cD ‹_›;obtain rfl:=cL ‹_›;refine az ah a1 ?_;exact ⟨r.set 5 rfl,⟨M,g,t,J,Z,U,O,q,V,f⟩⟩
  ·obtain rfl:=cN ‹_›;refine ci ad hR.length (fun j v hj=>by rw [f.cellS hS]; exact aF rfl j v hj) ?_;exact ⟨r.set 6 rfl,⟨M,g,t,J,Z,U,O,q,V,f⟩⟩
  ·obtain rfl:=cq ‹_›;have f8:D 8=false:=bx.2 fun h=>by rw [U h] at bH; cases bH
   have f9:D 9=false:=bx.2 fun h=>by rw [O h] at f8; cases f8
   have G:D 11=false:=bx.2 fun h=>by rw [q h] at f9; cases f9
   rw [bH,f8,f9,G] at f;refine Run.call0 fP fO f (il _ S _ hR (by omega)) fun v' I' S w_=>?_;rintro ⟨rfl,g,M,rfl,rfl,hT⟩ _ f;have J:ao D 7 7=true->Value.agg g.toArray=Value.agg g.toArray/\TrT M g (a.body)[j]:=fun _=>⟨rfl,hT⟩
   have U:=fun (_:ao D 7 8=true)=>(rfl:ao D 7 7=true)
   have f:Inv w [] (aP (.blk b1 (.cells #[.int .i64 a.head.kind,.int .i64 a.head.n,.string a.head.name,kv,.slice (some ⟨b,o,none⟩) a.body.length cap] ac)) (.blk b2 (.cells #[.int .i64 0,.int .i64 0,.string ⟨#[]⟩,.slice none 0 0,.slice none 0 0] ac)) (.blk b3 (.cells #[.int .i64 a.head.kind,.int .i64 a.head.n,.string a.head.name,B,l] ac)) (.blk b3 (.cells #[.int .i64 a.head.kind,.int .i64 a.head.n,.string a.head.name,B,Y] ac)) (aA l ab 4 css) (aA Y ab 4 (css++[g])) (aV (N::Ls).flatten) M (.blk t (.cells g.toArray ab)) true (D 8) (D 9) (D 11)) S w_:=by
    rw [f8,f9,G];simpa [aP] using f
   exact ⟨r.set 7 (by first|assumption|trivial),⟨M,g,t,J,Z,U,O,q,V,f⟩⟩
  ·have WA:=dg ‹_›;have f9:D 9=false:=bx.2 fun h=>by rw [O h] at bH; cases bH
   have G:D 11=false:=bx.2 fun h=>by rw [q h] at f9; cases f9
   obtain ⟨q7,hT⟩:=J ‹D 7=true›;subst q7;rw [‹D 7=true›,bH,f9,G] at f;refine dB f bn (by simp [Value.cells,hT.length]) (by omega) (by omega) fun t w_ f=>?_;have J:ao D 8 7=true->Value.agg g.toArray=Value.agg g.toArray/\TrT M g (a.body)[j]:=fun _=>⟨rfl,hT⟩
   have Z:=fun (_:ao D 8 8=true)=>(rfl:Value.slice (some ⟨t,0,none⟩) 1 1=_)
   have U:=fun (_:ao D 8 8=true)=>‹D 7=true›;have O:=fun (_:ao D 8 9=true)=>(rfl:ao D 8 8=true)
   have f:Inv w [] (aP (.blk b1 (.cells #[.int .i64 a.head.kind,.int .i64 a.head.n,.string a.head.name,kv,.slice (some ⟨b,o,none⟩) a.body.length cap] ac)) (.blk b2 (.cells #[.int .i64 0,.int .i64 0,.string ⟨#[]⟩,.slice none 0 0,.slice none 0 0] ac)) (.blk b3 (.cells #[.int .i64 a.head.kind,.int .i64 a.head.n,.string a.head.name,B,l] ac)) (.blk b3 (.cells #[.int .i64 a.head.kind,.int .i64 a.head.n,.string a.head.name,B,Y] ac)) (aA l ab 4 css) (aA Y ab 4 (css++[g])) (aV (N::Ls).flatten) M (.blk t (.cells g.toArray ab)) (D 7) true (D 9) (D 11)) S w_:=by
    rw [‹D 7=true›,f9,G];simpa [aP,Value.cells] using f
   exact ⟨r.set 8 (by first|assumption|trivial),⟨M,g,t,J,Z,U,O,q,V,f⟩⟩
  ·obtain rfl:=cJ ‹_›;have DH:=dG ‹_›;have G:D 11=false:=bx.2 fun h=>by rw [q h] at bH; cases bH
   have q8:=Z ‹D 8=true›;subst q8;obtain ⟨_,hT⟩:=J ‹D 7=true›;rw [‹D 7=true›,‹D 8=true›,bH,G] at f;have a5:((aP (.blk b1 (.cells #[.int .i64 a.head.kind,.int .i64 a.head.n,.string a.head.name,kv,.slice (some ⟨b,o,none⟩) a.body.length cap] ac)) (.blk b2 (.cells #[.int .i64 0,.int .i64 0,.string ⟨#[]⟩,.slice none 0 0,.slice none 0 0] ac)) (.blk b3 (.cells #[.int .i64 a.head.kind,.int .i64 a.head.n,.string a.head.name,B,jX] ac)) (.blk b3 (.cells #[.int .i64 a.head.kind,.int .i64 a.head.n,.string a.head.name,B,Y] ac)) (aA jX ab 4 css) (aA Y ab 4 (css++[g])) (aV (N::Ls).flatten) M (.blk t (.cells g.toArray ab)) true true false false))[4+(aV (N::Ls).flatten).length+(aV M).length]?=some (.blk t (.cells g.toArray ab)):=by
    have e4:4+(aV (N::Ls).flatten).length+(aV M).length=((aV (N::Ls).flatten).length+(aV M).length)+1+1+1+1:=by omega
    rw [e4];simp only [aP,kO];rw [gG (by omega),mO,gG (aS _),ey]; rfl
   refine dE f 3 g bn (by omega) rfl (by rw [hT.length]) (m:=1) (o:=0) ?_ hT.one (by omega) (by omega) fun v' w_ f=>?_
   ·intro i u hi;rw [f.cellL a5,cP];simpa using hi
   rw [eE] at f;have O:=fun (_:ao D 9 9=true)=>‹D 8=true›;have q:=fun (_:ao D 9 11=true)=>(rfl:ao D 9 9=true)
   have f:Inv w [] (aP (.blk b1 (.cells #[.int .i64 a.head.kind,.int .i64 a.head.n,.string a.head.name,kv,.slice (some ⟨b,o,none⟩) a.body.length cap] ac)) (.blk b2 (.cells #[.int .i64 0,.int .i64 0,.string ⟨#[]⟩,.slice none 0 0,.slice none 0 0] ac)) (.blk b3 (.cells #[.int .i64 a.head.kind,.int .i64 a.head.n,.string a.head.name,B,jX] ac)) (.blk b3 (.cells #[.int .i64 a.head.kind,.int .i64 a.head.n,.string a.head.name,B,v'] ac)) (aA jX ab 4 css) (aA v' ab 4 (css++[g])) (aV (N::Ls).flatten) M (.blk t (.cells g.toArray ab)) (D 7) (D 8) true (D 11)) S w_:=by
    rw [‹D 7=true›,‹D 8=true›,G];exact f
   exact ⟨r.set 9 (by first|assumption|trivial),⟨M,g,t,J,Z,U,O,q,V,f⟩⟩
  ·refine aw aU ?_;exact ⟨r.set 10 rfl,⟨M,g,t,J,Z,U,O,q,V,f⟩⟩
  ·obtain rfl:=cT ‹_›;have Eb:=dL ‹_›;rw [‹D 7=true›,‹D 8=true›,‹D 9=true›,bH] at f;obtain ⟨va,vn,vc,a3⟩:=Inv.rowSlice f 3 rfl;refine dy f 2 (n:=1) (by rw [a3]; rfl) (by decide +kernel) rfl (by simp) (by rw [a3]; simp [Value.cells,Value.oneCell']) fun w_ f=>?_;have a6:Value.cells Y=#[Y]:=by rw [a3]; rfl
   rw [a6] at f;have V:=fun (_:ao D 11 11=true)=>‹D 1=true›;have q:=fun (_:ao D 11 11=true)=>‹D 9=true›;have f:Inv w [] (aP (.blk b1 (.cells #[.int .i64 a.head.kind,.int .i64 a.head.n,.string a.head.name,kv,.slice (some ⟨b,o,none⟩) a.body.length cap] ac)) (.blk b2 (.cells #[.int .i64 0,.int .i64 0,.string ⟨#[]⟩,.slice none 0 0,.slice none 0 0] ac)) (.blk b3 (.cells #[.int .i64 a.head.kind,.int .i64 a.head.n,.string a.head.name,B,l] ac)) (.blk b3 (.cells #[.int .i64 a.head.kind,.int .i64 a.head.n,.string a.head.name,B,Y] ac)) (aA l ab 4 css) (aA Y ab 4 (css++[g])) (aV (N::Ls).flatten) M (.blk t (.cells g.toArray ab)) (D 7) (D 8) (D 9) true) S w_:=by
    rw [‹D 7=true›,‹D 8=true›,‹D 9=true›];exact f
   exact ⟨r.set 11 trivial,⟨M,g,t,J,Z,U,O,q,V,f⟩⟩
  obtain ⟨rfl,rfl,rfl,rfl,rfl,rfl,rfl,WA,DH,Eb,rfl,_,_⟩:=r.all;have vm:D 7=true:=by assumption
  have FO:D 8=true:=by assumption
  have OK:D 9=true:=by assumption
  have Ai:D 11=true:=by assumption
  clear r cI cJ cH cD cL cN cq dg dG dL cT dn;obtain ⟨_,hT⟩:=J vm;rw [vm,FO,OK,Ai] at f;refine bC (by omega) ?_;refine ⟨⟨j+1,Y,Ls++[M],css++[g],a1,rfl,?_,?_⟩,by simp [intOf]; omega⟩
  ·rw [eV a1];exact hg.snoc hT hT.length
  ·rw [<- dS,mG,cK];simp only [fh,k0,bV];refine f.sub ?_;simp only [aP,fh];rw [<- dx];exact (((dt _ _).cons_cons _).cons_cons _).cons_cons _ |>.cons_cons _
 ·have:j=a.body.length:=by omega
  subst this;rw [d4] at hg;obtain ⟨va,vn,vc,a8⟩:=f.rowSlice 3 rfl;have b0:l.oneCell'=true:=by rw [a8]; rfl
  have o1:B.oneCell'=true:=a2.one B (by simp);refine aC f 2 aH rfl rfl ?_;refine au f 1 rfl aH rfl rfl ?_ fun w' f=>?_
  ·intro u hu;have a0:u∈([.int .i64 a.head.kind,.int .i64 a.head.n,.string a.head.name,B,l]:List Value):=hu;simp at a0;rcases a0 with rfl|rfl|rfl|rfl|rfl <;> first|rfl|exact o1|exact b0
  refine bB f 1 aH rfl rfl ?_;have f:Inv w [] (aA l ab 4 css::aV (N::Ls).flatten) S w':=f.sub (dH [_,_,_] _);rw [fh,cK] at f;have f:=f.perm (M:=aV N++(aA l ab 4 css::aV Ls.flatten)) (zal132);obtain ⟨L,hT,f⟩:=Inv.rowTree f hg;exact ⟨_,_,_,rfl,f,Ext.refl _ _ _,rfl,_,N++L,rfl,by rw [cK],_,l,N,L,rfl,rfl,a2,hT⟩
theorem HV {p:List C} {S:ae} {v:Value} (h:RdSl S 5 (RdC S) v p) (M:p.length+wP p<=1048576):Tri Tryz.prog MP [v] [] S (N6 5 TrC S p):=by
 intro w a;refine yU.2 ?_;dsimp only[yU,aO];refine ei a dd fun v0 w' a=>?_;refine ⟨fun i t w'=>∃ (k:Nat) (Ls:List bh) (css:List (List Value)),k<=p.length/\i=.int .i64 k/\Grown 5 TrC Ls css (p.take k)/\Inv w [] (aA t ac 5 css::aV Ls.flatten) S w',
  fun i _ _=>p.length - (intOf i).toNat,⟨0,[],[],bk _,rfl,Grown.nil _ _,a⟩,?_⟩
 intro N _ _ O _ _ _ _ _ _ _ _ _ _ _ _ w';rintro ⟨k,Ls,css,hk,rfl,m,a⟩;refine aJ h bf ?_;refine bS ?_;refine aL (fun o=>?_) (fun o=>?_)
 ·have f:k<p.length:=by omega
  have B:(p.take k).length=k:=by simp; omega
  have D:=m.hc;refine co a h bf aH f (fun _ _=>RdC.length) fun cs q=>?_;have G:=bG f;have J:=KT G;refine Run.call0 um ui a (z4 q (by omega)) fun r I' S' w'=>?_;rintro ⟨rfl,l,L,rfl,rfl,g⟩ _ a;refine de a 0 l dd (by omega) (by omega) rfl g.length g.one (by omega) (by omega) fun r w' a=>?_;refine bC (by omega) ?_;refine ⟨⟨k+1,Ls++[L],css++[l],f,rfl,?_,?_⟩,by simp [intOf]; omega⟩
  ·rw [eV f];exact m.snoc g g.length
  ·simp only [mG,fh,k0,bV,cK];exact a
 ·have:k=p.length:=by omega
  subst this;rw [d4] at m;obtain ⟨L,g,a⟩:=Inv.rowTree (A:=[]) a m;exact ⟨_,_,_,rfl,a,Ext.refl _ _ _,rfl,_,rfl,g⟩
end
end
section
open Go Go.RowKit
section
variable {P:Program} {w w0:World} {X:List Nat} {L:List Item} {S:ae} {K:Value->World->Prop}
theorem JM (h:Inv w0 X L S w) {T ty e:TypeId} {k by_ n q:Nat} {z v:Value} {cs:List Bool} {xs:List Value} {a:Option Addr} (i:Nat)
  (r:oE P T=some (e,k,by_,z)) (t:L[i]?=some (.row v e k n xs)) (hk:K v w) :
  Run P (cm .append #[T,T] ty cs [v,.slice a 0 q]) w K:=by
 obtain ⟨o,B,l,N,O,U,D⟩:=qb r;have f:=h.its _ (cz t);simp only [Item.holds] at f;refine Run.of (v:=v) (w':=w) ?_ hk;rcases f.2 with ⟨rfl,rfl⟩|⟨g,cap,G,rfl,_,V,m,J,M,Y⟩
 ·cases a <;> simp [cm,builtin,Builtin.append_,run_underlying o,sizeOf,typeInfo,l,Builtin.lenOf,Builtin.firstCells,loadCells,loadCellsFrom]
 ·cases a <;> simp [cm,builtin,Builtin.append_,run_underlying o,sizeOf,typeInfo,l,storeCells,m,Builtin.lenOf,Builtin.firstCells,loadCells,loadCellsFrom]
end
end
end Go.Proofs.YtgllldjiaglkcaaGreatDoor

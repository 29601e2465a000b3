/- impl.ownClause, impl.ownProgram. -/
import Derived.Test.YtgllldjiaglkcaaGreatDoorZUf2
import Derived.Test.YtgllldjiaglkcaaGreatDoorZUf1
namespace Go.Proofs.YtgllldjiaglkcaaGreatDoor
section
open Go Go.RowKit
section
variable {w:World} {K:Value->World->Prop}
attribute [local irreducible] Run
theorem kK {a b:Int} {s:ByteArray} {k v:Value} (f:∃ p n m,v=.slice p n m) (hk:K (.agg #[.int .i64 a,.int .i64 b,.string s,k,v]) w):Run Tryz.prog (cS ac [(0,.agg #[.int .i64 a,.int .i64 b,.string s,k]),(1,v)]) w K:=by
 obtain ⟨p,n,m,rfl⟩:=f;refine Run.of (v:=.agg #[.int .i64 a,.int .i64 b,.string s,k,.slice p n m]) (w':=w) ?_ hk;unfold cS;rw [Sem.run_bind,run_build w ac _ #[.int .i64 a,.int .i64 b,.string s,k,.slice p n m] (by kernel_rfl),Result.andThen_ok];rfl
theorem kY {a b:Int} {s:ByteArray} {k:Value} (hk:K (.agg #[.int .i64 a,.int .i64 b,.string s,k,.slice none 0 0]) w):Run Tryz.prog (cS ac [(0,.agg #[.int .i64 a,.int .i64 b,.string s,k])]) w K:=by
 refine Run.of (v:=.agg #[.int .i64 a,.int .i64 b,.string s,k,.slice none 0 0]) (w':=w) ?_ hk;unfold cS;rw [Sem.run_bind,run_build w ac _ #[.int .i64 a,.int .i64 b,.string s,k,.slice none 0 0] (by kernel_rfl),Result.andThen_ok];rfl
theorem ja {a b:Int} {s:ByteArray} (hk:K (.agg #[.int .i64 a,.int .i64 b,.string s,.slice none 0 0]) w):Run Tryz.prog (cS ab [(0,.int .i64 a),(1,.int .i64 b),(2,.string s)]) w K:=by
 refine Run.of (v:=.agg #[.int .i64 a,.int .i64 b,.string s,.slice none 0 0]) (w':=w) ?_ hk;unfold cS;rw [Sem.run_bind,run_build w ab _ #[.int .i64 a,.int .i64 b,.string s,.slice none 0 0] (by kernel_rfl),Result.andThen_ok];rfl
end
section
attribute [local irreducible] Run CondV aq aK
def pM (B B2 B2':Item) (M1 M2:bh) (d2 d5 d7:Bool):List Item:=B::(match d7 with|true=>B2'|false=>B2)::((match d2 with|true=>aV M1|false=>[])++(match d5 with|true=>aV M2|false=>[]))
theorem rt {c:C} {S:ae} {cs:List Value} (h:RdC S cs c) (hw:wC c<=1048576):Tri Tryz.prog Iu [.agg cs.toArray] [] S (Wx S c):=by
 intro w f;obtain ⟨hd,ks,rfl,h1,h2⟩:=h;have a3:=h1;obtain ⟨kv,rfl,g1,g2,g3,g4⟩:=RdT.iff.1 h1;unfold wC at hw;refine te.2 ?_;dsimp only[te,aO];refine bJ f fun M w' f=>?_;refine aQ f cV fun B w' f=>?_;have f:Inv w [] [.blk M (.cells #[.int .i64 c.head.kind,.int .i64 c.head.n,.string c.head.name,kv,ks] ac),.blk B (.cells #[.int .i64 0,.int .i64 0,.string ⟨#[]⟩,.slice none 0 0,.slice none 0 0] ac)] S w':=f;refine ⟨fun D x9 l x7 x6 x5 x4 x3 G=>Fx D 0 [x3=.pointer (some ⟨M,0,none⟩),x4=.agg #[.int .i64 c.head.kind,.int .i64 c.head.n,.string c.head.name,kv],True,x6=.pointer (some ⟨M,4,none⟩),x7=ks,True,True,True]/\∃ M1 M2 g,(D 2=true->x5=.agg #[.int .i64 c.head.kind,.int .i64 c.head.n,.string c.head.name,g]/\TrT M1 [.int .i64 c.head.kind,.int .i64 c.head.n,.string c.head.name,g] c.head)/\(D 5=true->TrSl 4 TrT M2 l c.body)/\(D 6=true->x9=.agg #[.int .i64 c.head.kind,.int .i64 c.head.n,.string c.head.name,g,l])/\(D 5=true->D 2=true)/\(D 6=true->D 5=true)/\(D 7=true->D 6=true)/\Inv w [] (pM (.blk M (.cells #[.int .i64 c.head.kind,.int .i64 c.head.n,.string c.head.name,kv,ks] ac)) (.blk B (.cells #[.int .i64 0,.int .i64 0,.string ⟨#[]⟩,.slice none 0 0,.slice none 0 0] ac)) (.blk B (.cells #[.int .i64 c.head.kind,.int .i64 c.head.n,.string c.head.name,g,l] ac)) M1 M2 (D 2) (D 5) (D 7)) S G,⟨Fx.nil _ _,⟨[],[],undef,aI,aI,aI,aI,aI,aI,f.draw⟩⟩,⟨?_,?_,?_,?_,?_,?_,?_,?_,trivial⟩,?_⟩;all_goals (intro D J; intros; rename_i x9 l x7 x6 x5 x4 x3 G O; have i:=O.1; obtain ⟨⟨cJ,cH,cI,cD,cM,cO,cq,dg,_⟩,⟨M1,M2,g,e2,m,o,t,q,r,f⟩⟩:=O)
 ·refine aw bO ?_;exact ⟨i.set 0 rfl,⟨M1,M2,g,e2,m,o,t,q,r,f⟩⟩
 ·obtain rfl:=cJ ‹_›;refine dB f 0 [.int .i64 c.head.kind,.int .i64 c.head.n,.string c.head.name,kv] ad rfl rfl Bz ?_;exact ⟨i.set 1 rfl,⟨M1,M2,g,e2,m,o,t,q,r,f⟩⟩
 ·obtain rfl:=cH ‹_›;have f5:D 5=false:=bx.2 fun h=>by rw [t h] at J; cases J
  have N:D 6=false:=bx.2 fun h=>by rw [q h] at f5; cases f5
  have V:D 7=false:=bx.2 fun h=>by rw [r h] at N; cases N
  rw [J,f5,V] at f;refine Run.call0 MQ On f (IQ c.head S _ a3 (by omega)) fun v' I' S G=>?_;rintro ⟨rfl,a5,M1,rfl,rfl,U⟩ _ f;obtain ⟨g,rfl,_⟩:=TrT.iff.1 U;have e2:ao D 2 2=true->Value.agg #[.int .i64 c.head.kind,.int .i64 c.head.n,.string c.head.name,g]=Value.agg #[.int .i64 c.head.kind,.int .i64 c.head.n,.string c.head.name,g]/\TrT M1 [.int .i64 c.head.kind,.int .i64 c.head.n,.string c.head.name,g] c.head:=fun _=>⟨rfl,U⟩
  have o:=fun (h:D 6=true)=>(absurd h (by rw [N]; decide):x9=.agg #[.int .i64 c.head.kind,.int .i64 c.head.n,.string c.head.name,g,l])
  have t:=fun (_:ao D 2 5=true)=>(rfl:ao D 2 2=true)
  have f:Inv w [] (pM (.blk M (.cells #[.int .i64 c.head.kind,.int .i64 c.head.n,.string c.head.name,kv,ks] ac)) (.blk B (.cells #[.int .i64 0,.int .i64 0,.string ⟨#[]⟩,.slice none 0 0,.slice none 0 0] ac)) (.blk B (.cells #[.int .i64 c.head.kind,.int .i64 c.head.n,.string c.head.name,g,l] ac)) M1 M2 true (D 5) (D 7)) S G:=by
   rw [f5,V];simpa [pM] using f
  exact ⟨i.set 2 (by first|assumption|trivial),⟨M1,M2,g,e2,m,o,t,q,r,f⟩⟩
 ·refine aw aT ?_;exact ⟨i.set 3 rfl,⟨M1,M2,g,e2,m,o,t,q,r,f⟩⟩
 ·obtain rfl:=cD ‹_›;refine aU f 0 al rfl rfl ?_;exact ⟨i.set 4 (by first|assumption|trivial),⟨M1,M2,g,e2,m,o,t,q,r,f⟩⟩
 ·have D9:=cM ‹_›;have N:D 6=false:=bx.2 fun h=>by rw [q h] at J; cases J
  have V:D 7=false:=bx.2 fun h=>by rw [r h] at N; cases N
  rw [J,‹D 2=true›,V] at f;refine Run.call0 qr qI f (by rw [D9]; exact wa h2 (by omega)) fun v' I' S G=>?_;rintro ⟨rfl,M2,rfl,a1⟩ _ f;have m:=fun (_:ao D 5 5=true)=>a1;have o:=fun (h:D 6=true)=>(absurd h (by rw [N]; decide):x9=.agg #[.int .i64 c.head.kind,.int .i64 c.head.n,.string c.head.name,g,v'])
  have q:=fun (_:ao D 5 6=true)=>(rfl:ao D 5 5=true)
  have t:=fun (_:ao D 5 5=true)=>‹D 2=true›;have f:Inv w [] (pM (.blk M (.cells #[.int .i64 c.head.kind,.int .i64 c.head.n,.string c.head.name,kv,ks] ac)) (.blk B (.cells #[.int .i64 0,.int .i64 0,.string ⟨#[]⟩,.slice none 0 0,.slice none 0 0] ac)) (.blk B (.cells #[.int .i64 c.head.kind,.int .i64 c.head.n,.string c.head.name,g,v'] ac)) M1 M2 (D 2) true (D 7)) S G:=by
   rw [‹D 2=true›,V];simpa [pM] using f
  exact ⟨i.set 5 (by first|assumption|trivial),⟨M1,M2,g,e2,m,o,t,q,r,f⟩⟩
 ·have Yy:=cI ‹_›;have Hj:=cO ‹_›;have Y:=(e2 ‹D 2=true›).1;subst Y;refine kK (by obtain ⟨a8,a4,a2,_⟩:=m ‹D 5=true›; exact ⟨_,_,_,a2⟩) ?_;have o:ao D 6 6=true->Value.agg #[.int .i64 c.head.kind,.int .i64 c.head.n,.string c.head.name,g,l]=Value.agg #[.int .i64 c.head.kind,.int .i64 c.head.n,.string c.head.name,g,l]:=fun _=>rfl;have r:=fun (_:ao D 6 7=true)=>(rfl:ao D 6 6=true)
  have q:=fun (_:ao D 6 6=true)=>‹D 5=true›;exact ⟨i.set 6 (by first|assumption|trivial),⟨M1,M2,g,e2,m,o,t,q,r,f⟩⟩
 ·have L6:=cq ‹_›;have q6:=o ‹D 6=true›;subst q6;have Y:=(e2 ‹D 2=true›).2;have q5:=m ‹D 5=true›;rw [J,‹D 2=true›,‹D 5=true›] at f;refine au f 1 rfl aH rfl rfl ?_ fun G f=>?_
  ·intro u hu;have Z:u∈([.int .i64 c.head.kind,.int .i64 c.head.n,.string c.head.name,g,l]:List Value):=hu;simp at Z;have o1:g.oneCell'=true:=Y.one g (by simp);have o2:l.oneCell'=true:=by obtain ⟨a,cap,rfl,_⟩:=q5; rfl
   rcases Z with rfl|rfl|rfl|rfl|rfl <;> first|rfl|exact o1|exact o2
  have r:=fun (_:ao D 7 7=true)=>‹D 6=true›;have f:Inv w [] (pM (.blk M (.cells #[.int .i64 c.head.kind,.int .i64 c.head.n,.string c.head.name,kv,ks] ac)) (.blk B (.cells #[.int .i64 0,.int .i64 0,.string ⟨#[]⟩,.slice none 0 0,.slice none 0 0] ac)) (.blk B (.cells #[.int .i64 c.head.kind,.int .i64 c.head.n,.string c.head.name,g,l] ac)) M1 M2 (D 2) (D 5) true) S G:=by
   rw [‹D 2=true›,‹D 5=true›];exact f
  exact ⟨i.set 7 trivial,⟨M1,M2,g,e2,m,o,t,q,r,f⟩⟩
 obtain ⟨rfl,rfl,Yy,rfl,D9,Hj,L6,_,_⟩:=i.all;have a0:D 2=true:=by assumption
 have XW:D 5=true:=by assumption
 have vp:D 7=true:=by assumption
 clear i cJ cH cI cD cM cO cq dg;have Y:=(e2 a0).2;have q5:=m XW;rw [a0,XW,vp] at f;refine bB f 1 aH rfl rfl ?_;refine ⟨_,_,_,rfl,f.sub (dJ [_,_] (aV M1++aV M2)),Ext.refl _ _ _,rfl,_,M1++M2,rfl,by rw [cK],_,l,M1,M2,rfl,rfl,Y,q5⟩
end
end
section
open Go Go.RowKit
theorem RdC.one {S:ae} {cs:List Value} {c:C} (h:RdC S cs c):∀ u∈cs,u.oneCell'=true:=by
 obtain ⟨hd,ks,rfl,g,a,cap,rfl,_⟩:=h;intro u f;rcases bF.1 f with f|f
 ·exact g.one u f
 ·simp at f; subst f; rfl
section
attribute [local irreducible] Run CondV aq aK
theorem Inv.rowSlice {w0 w:World} {X:List Nat} {L:List Item} {S:ae} {v:Value} {e:TypeId} {k n:Nat} {xs:List Value} (h:Inv w0 X L S w) (i:Nat) (f:L[i]?=some (.row v e k n xs)):∃ a m c,v=.slice a m c:=by
 have l:w.ownsRow 0 e k v n xs:=h.its (.row v e k n xs) (cA f);rcases l.2 with ⟨rfl,_⟩|⟨g,cap,o,rfl,_⟩
 ·exact ⟨_,_,_,rfl⟩
 ·exact ⟨_,_,_,rfl⟩
def aP (B1 B2 B3 B3' r r':Item) (rest:List Item) (M:bh) (B27:Item) (d7 d8 d9 d11:Bool):List Item:=
 B1::B2::(match d11 with|true=>B3'|false=>B3)::(match d9 with|true=>r'|false=>r)::(rest++((match d7 with|true=>aV M|false=>[])++(match d8 with|true=>[B27]|false=>[])))

theorem iv:∀ (t:T) (S:ae) (cs:List Value),RdT S cs t->wT t<=1048576->Tri Tryz.prog wR [.agg cs.toArray] [] S (CB S t):=by
 refine T.ind fun k n s ks ih S cs h hw=>?_;intro w f;obtain ⟨kv,rfl,h1,h2,hs,a0⟩:=RdT.iff.1 h;simp only [T.name,T.kids,T.kind,T.n] at h1 h2 hs a0 ⊢;simp only [wT] at hw;refine oe.2 ?_;dsimp only[oe,aO];refine bJ f fun b1 w' f=>?_;refine aQ f bj fun b2 w' f=>?_;refine af f 0 rfl aW aG rfl ?_;refine af f 0 rfl bi aG rfl ?_;refine af f 0 rfl bl be rfl ?_;refine ja ?_;refine aQ f bj fun b3 w' f=>?_;refine au f 2 rfl ad rfl rfl (by simp [Value.oneCell']) fun w' f=>?_;have f:=f.rowNil ab 4;refine ⟨fun i w'=>∃ (j:Nat) (g:Value) (Ls:List bh) (css:List (List Value)),j<=ks.length/\i=.int .i64 j/\Grown 4 TrT Ls css (ks.take j)/\
   Inv w [] (.blk b1 (.cells #[.int .i64 k,.int .i64 n,.string s,kv] ab)::.blk b2 (.cells #[.int .i64 0,.int .i64 0,.string ⟨#[]⟩,.slice none 0 0] ab)::.blk b3 (.cells #[.int .i64 k,.int .i64 n,.string s,g] ab)::aA g ab 4 css::aV Ls.flatten) S w',
  fun i _=>ks.length - (intOf i).toNat,⟨0,_,[],[],bk _,rfl,Grown.nil _ _,f⟩,?_⟩
 intro t4 _ _ _ _ _ _ _ _ _ _ _ _ _ _ _ _ _ _ w';rintro ⟨j,g,Ls,css,hj,rfl,hg,f⟩;refine af f 0 rfl ar al rfl ?_;refine aJ a0 ah ?_;refine bT ?_;refine aL (fun a6=>?_) (fun a6=>?_)
 ·have Y:j<ks.length:=by omega
  have a9:(ks.take j).length=j:=by simp; omega
  have b0:=hg.hc;have hm:=bG Y;have b4:=iL hm;obtain ⟨b,o,cap,c,E,fz,rfl,hS,hR⟩:=a0.at_ Y;refine ⟨fun D ji U oP kT fN lK rW qb oJ ju ld w_=>Fx D 0 [ld=.pointer (some ⟨b3,3,none⟩),ju=g,oJ=.pointer (some ⟨b1,3,none⟩),qb=.slice (some ⟨b,o,none⟩) (ks).length cap,rW=.int .i64 j,lK=.pointer (some ⟨b,o+j * 4,none⟩),fN=.agg (aX c (o+j * 4) 4).toArray,True,True,True,ji=.pointer (some ⟨b3,3,none⟩),True]/\∃ M a r,(D 7=true->kT=.agg a.toArray/\TrT M a (ks)[j])/\(D 8=true->oP=.slice (some ⟨r,0,none⟩) 1 1)/\(D 8=true->D 7=true)/\(D 9=true->D 8=true)/\(D 11=true->D 9=true)/\(D 11=true->D 1=true)/\Inv w [] (aP (.blk b1 (.cells #[.int .i64 k,.int .i64 n,.string s,.slice (some ⟨b,o,none⟩) ks.length cap] ab)) (.blk b2 (.cells #[.int .i64 0,.int .i64 0,.string ⟨#[]⟩,.slice none 0 0] ab)) (.blk b3 (.cells #[.int .i64 k,.int .i64 n,.string s,g] ab)) (.blk b3 (.cells #[.int .i64 k,.int .i64 n,.string s,U] ab)) (aA g ab 4 css) (aA U ab 4 (css++[a])) (aV Ls.flatten) M (.blk r (.cells a.toArray ab)) (D 7) (D 8) (D 9) (D 11)) S w_,⟨Fx.nil _ _,⟨[],[],0,aI,aI,aI,aI,aI,aI,by simpa [aP,aV] using f.draw⟩⟩,⟨?_,?_,?_,?_,?_,?_,?_,?_,?_,?_,?_,?_,trivial⟩,?_⟩;all_goals (intro D Z; intros; rename_i ji U oP kT fN lK rW qb oJ ju ld w_ a2; have q:=a2.1; obtain ⟨⟨cJ,cH,cI,cD,cM,cO,cq,dg,dF,dL,cT,dl,_⟩,⟨M,a,r,G,V,N,J,l,O,f⟩⟩:=a2)
  ·refine aw ar ?_;exact ⟨q.set 0 rfl,⟨M,a,r,G,V,N,J,l,O,f⟩⟩
  ·obtain rfl:=cJ ‹_›;have B:D 11=false:=bx.2 fun h=>by rw [O h] at Z; cases Z
   refine aU (b:=b3) f 2 (c:=(#[.int .i64 k,.int .i64 n,.string s,g])) al (by rw [B]; rfl) rfl ?_;have O:=fun (_:ao D 1 11=true)=>(rfl:ao D 1 1=true)
   exact ⟨q.set 1 rfl,⟨M,a,r,G,V,N,J,l,O,f⟩⟩
  ·refine aw ar ?_;exact ⟨q.set 2 rfl,⟨M,a,r,G,V,N,J,l,O,f⟩⟩
  ·obtain rfl:=cI ‹_›;refine aU f 0 al rfl rfl ?_;exact ⟨q.set 3 rfl,⟨M,a,r,G,V,N,J,l,O,f⟩⟩
  ·exact ⟨q.set 4 rfl,⟨M,a,r,G,V,N,J,l,O,f⟩⟩
  ·obtain rfl:=cD ‹_›;obtain rfl:=cM ‹_›;refine az ah Y ?_;exact ⟨q.set 5 rfl,⟨M,a,r,G,V,N,J,l,O,f⟩⟩
  ·obtain rfl:=cO ‹_›;refine ci ad hR.length (fun j v hj=>by rw [f.cellS hS]; exact aF rfl j v hj) ?_;exact ⟨q.set 6 rfl,⟨M,a,r,G,V,N,J,l,O,f⟩⟩
  ·obtain rfl:=cq ‹_›;have f8:D 8=false:=bx.2 fun h=>by rw [N h] at Z; cases Z
   have f9:D 9=false:=bx.2 fun h=>by rw [J h] at f8; cases f8
   have B:D 11=false:=bx.2 fun h=>by rw [l h] at f9; cases f9
   rw [Z,f8,f9,B] at f;refine Run.call0 fR fO f (ih _ (bG Y) S _ hR (by omega)) fun v' I' S w_=>?_;rintro ⟨rfl,a,M,rfl,rfl,hT⟩ _ f;have G:ao D 7 7=true->Value.agg a.toArray=Value.agg a.toArray/\TrT M a (ks)[j]:=fun _=>⟨rfl,hT⟩
   have N:=fun (_:ao D 7 8=true)=>(rfl:ao D 7 7=true)
   have f:Inv w [] (aP (.blk b1 (.cells #[.int .i64 k,.int .i64 n,.string s,.slice (some ⟨b,o,none⟩) ks.length cap] ab)) (.blk b2 (.cells #[.int .i64 0,.int .i64 0,.string ⟨#[]⟩,.slice none 0 0] ab)) (.blk b3 (.cells #[.int .i64 k,.int .i64 n,.string s,g] ab)) (.blk b3 (.cells #[.int .i64 k,.int .i64 n,.string s,U] ab)) (aA g ab 4 css) (aA U ab 4 (css++[a])) (aV Ls.flatten) M (.blk r (.cells a.toArray ab)) true (D 8) (D 9) (D 11)) S w_:=by
    rw [f8,f9,B];simpa [aP] using f
   exact ⟨q.set 7 (by first|assumption|trivial),⟨M,a,r,G,V,N,J,l,O,f⟩⟩
  ·have WA:=dg ‹_›;have f9:D 9=false:=bx.2 fun h=>by rw [J h] at Z; cases Z
   have B:D 11=false:=bx.2 fun h=>by rw [l h] at f9; cases f9
   obtain ⟨q7,hT⟩:=G ‹D 7=true›;subst q7;rw [‹D 7=true›,Z,f9,B] at f;refine dC f bn (by simp [Value.cells,hT.length]) (by omega) (by omega) fun r w_ f=>?_;have G:ao D 8 7=true->Value.agg a.toArray=Value.agg a.toArray/\TrT M a (ks)[j]:=fun _=>⟨rfl,hT⟩
   have V:=fun (_:ao D 8 8=true)=>(rfl:Value.slice (some ⟨r,0,none⟩) 1 1=_)
   have N:=fun (_:ao D 8 8=true)=>‹D 7=true›;have J:=fun (_:ao D 8 9=true)=>(rfl:ao D 8 8=true)
   have f:Inv w [] (aP (.blk b1 (.cells #[.int .i64 k,.int .i64 n,.string s,.slice (some ⟨b,o,none⟩) ks.length cap] ab)) (.blk b2 (.cells #[.int .i64 0,.int .i64 0,.string ⟨#[]⟩,.slice none 0 0] ab)) (.blk b3 (.cells #[.int .i64 k,.int .i64 n,.string s,g] ab)) (.blk b3 (.cells #[.int .i64 k,.int .i64 n,.string s,U] ab)) (aA g ab 4 css) (aA U ab 4 (css++[a])) (aV Ls.flatten) M (.blk r (.cells a.toArray ab)) (D 7) true (D 9) (D 11)) S w_:=by
    rw [‹D 7=true›,f9,B];simpa [aP,Value.cells] using f
   exact ⟨q.set 8 (by first|assumption|trivial),⟨M,a,r,G,V,N,J,l,O,f⟩⟩
  ·obtain rfl:=cH ‹_›;have Dx:=dF ‹_›;have B:D 11=false:=bx.2 fun h=>by rw [l h] at Z; cases Z
   have q8:=V ‹D 8=true›;subst q8;obtain ⟨_,hT⟩:=G ‹D 7=true›;rw [‹D 7=true›,‹D 8=true›,Z,B] at f;have a3:((aP (.blk b1 (.cells #[.int .i64 k,.int .i64 n,.string s,.slice (some ⟨b,o,none⟩) ks.length cap] ab)) (.blk b2 (.cells #[.int .i64 0,.int .i64 0,.string ⟨#[]⟩,.slice none 0 0] ab)) (.blk b3 (.cells #[.int .i64 k,.int .i64 n,.string s,ju] ab)) (.blk b3 (.cells #[.int .i64 k,.int .i64 n,.string s,U] ab)) (aA ju ab 4 css) (aA U ab 4 (css++[a])) (aV Ls.flatten) M (.blk r (.cells a.toArray ab)) true true false false))[4+(aV Ls.flatten).length+(aV M).length]?=some (.blk r (.cells a.toArray ab)):=by
    have e4:4+(aV Ls.flatten).length+(aV M).length=((aV Ls.flatten).length+(aV M).length)+1+1+1+1:=by omega
    rw [e4];simp only [aP,kU];rw [gC (by omega),mM,gC (aS _),ew]; rfl
   refine dD f 3 a bn (by omega) rfl (by rw [hT.length]) (m:=1) (o:=0) ?_ hT.one (by omega) (by omega) fun v' w_ f=>?_
   ·intro i u hi;rw [f.cellL a3,cQ];simpa using hi
   rw [eC] at f;have J:=fun (_:ao D 9 9=true)=>‹D 8=true›;have l:=fun (_:ao D 9 11=true)=>(rfl:ao D 9 9=true)
   have f:Inv w [] (aP (.blk b1 (.cells #[.int .i64 k,.int .i64 n,.string s,.slice (some ⟨b,o,none⟩) ks.length cap] ab)) (.blk b2 (.cells #[.int .i64 0,.int .i64 0,.string ⟨#[]⟩,.slice none 0 0] ab)) (.blk b3 (.cells #[.int .i64 k,.int .i64 n,.string s,ju] ab)) (.blk b3 (.cells #[.int .i64 k,.int .i64 n,.string s,v'] ab)) (aA ju ab 4 css) (aA v' ab 4 (css++[a])) (aV Ls.flatten) M (.blk r (.cells a.toArray ab)) (D 7) (D 8) true (D 11)) S w_:=by
    rw [‹D 7=true›,‹D 8=true›,B];exact f
   exact ⟨q.set 9 (by first|assumption|trivial),⟨M,a,r,G,V,N,J,l,O,f⟩⟩
  ·refine aw ar ?_;exact ⟨q.set 10 rfl,⟨M,a,r,G,V,N,J,l,O,f⟩⟩
  ·obtain rfl:=cT ‹_›;have D1:=dL ‹_›;rw [‹D 7=true›,‹D 8=true›,‹D 9=true›,Z] at f;obtain ⟨va,vn,vc,a1⟩:=Inv.rowSlice f 3 rfl;refine dA f 2 (n:=1) (by rw [a1]; rfl) (by decide +kernel) rfl (by simp) (by rw [a1]; simp [Value.cells,Value.oneCell']) fun w_ f=>?_;have a4:Value.cells U=#[U]:=by rw [a1]; rfl
   rw [a4] at f;have O:=fun (_:ao D 11 11=true)=>‹D 1=true›;have l:=fun (_:ao D 11 11=true)=>‹D 9=true›;have f:Inv w [] (aP (.blk b1 (.cells #[.int .i64 k,.int .i64 n,.string s,.slice (some ⟨b,o,none⟩) ks.length cap] ab)) (.blk b2 (.cells #[.int .i64 0,.int .i64 0,.string ⟨#[]⟩,.slice none 0 0] ab)) (.blk b3 (.cells #[.int .i64 k,.int .i64 n,.string s,g] ab)) (.blk b3 (.cells #[.int .i64 k,.int .i64 n,.string s,U] ab)) (aA g ab 4 css) (aA U ab 4 (css++[a])) (aV Ls.flatten) M (.blk r (.cells a.toArray ab)) (D 7) (D 8) (D 9) true) S w_:=by
    rw [‹D 7=true›,‹D 8=true›,‹D 9=true›];exact f
   exact ⟨q.set 11 trivial,⟨M,a,r,G,V,N,J,l,O,f⟩⟩
  obtain ⟨rfl,rfl,rfl,rfl,rfl,rfl,rfl,WA,Dx,D1,rfl,_,_⟩:=q.all;have vp:D 7=true:=by assumption
  have EB:D 8=true:=by assumption
  have Nw:D 9=true:=by assumption
  have Ac:D 11=true:=by assumption
  clear q cJ cH cI cD cM cO cq dg dF dL cT dl;obtain ⟨_,hT⟩:=G vp;rw [vp,EB,Nw,Ac] at f;refine bC (by omega) ?_;refine ⟨⟨j+1,U,Ls++[M],css++[a],Y,rfl,?_,?_⟩,by simp [intOf]; omega⟩
  ·rw [eT Y];exact hg.snoc hT hT.length
  ·simp only [mI,fi,kO,bU,cK];refine f.sub ?_;simp only [aP];rw [<- dx];exact (((dw _ _).cons_cons _).cons_cons _).cons_cons _ |>.cons_cons _
 ·have:j=ks.length:=by omega
  subst this;rw [ed] at hg;obtain ⟨va,vn,vc,a7⟩:=f.rowSlice 3 rfl;have a8:g.oneCell'=true:=by rw [a7]; rfl
  refine aC f 2 ad rfl rfl ?_;refine au f 1 rfl ad rfl rfl ?_ fun w' f=>?_
  ·intro u hu;have a5:u∈([.int .i64 k,.int .i64 n,.string s,g]:List Value):=hu;simp at a5;rcases a5 with rfl|rfl|rfl|rfl <;> first|rfl|exact a8
  refine bB f 1 ad rfl rfl ?_;have f:Inv w [] ([]++(aA g ab 4 css::aV Ls.flatten)) S w':=f.sub (dJ [_,_,_] _);obtain ⟨L,hT,f⟩:=Inv.rowTree f hg;exact ⟨_,_,_,rfl,f,Ext.refl _ _ _,rfl,_,L,rfl,rfl,TrT.iff.2 ⟨g,rfl,h1,h2,hs,hT⟩⟩
end
end
section
open Go Go.RowKit
attribute [local irreducible] Run CondV aq aK

def pV (t u:T):Bool:=decide (t.kind=u.kind) && (decide (t.n=u.n) && (decide (t.name=u.name) && decide (t.kids.length=u.kids.length)))
theorem nZ (k n k' n':Int) (s f:ByteArray) (ks a:List T):pV (.mk k n s ks) (.mk k' n' f a)=(decide (k=k') && (decide (n=n') && (decide (s=f) && decide (ks.length=a.length)))):=rfl
theorem X2 {α β:Type} (a:List α) (b:List β):decide (a.length=b.length)=decide ((a.length:Int)=(b.length:Int)):=by
 rw [oh];simp only [bD];omega
end
section
open Go Go.RowKit
attribute [local irreducible] Run CondV aq aK

theorem qt {xs:List T} (U:∀ t∈xs,∀ (u:T) (S:ae) (cs ds:List Value),RdT S cs t->RdT S ds u->Pure Tryz.prog qU [.agg cs.toArray,.agg ds.toArray] S (.bool (eqT t u)))
  {ys:List T} {S:ae} {v u:Value} (h:RdSl S 4 (RdT S) v xs) (N:RdSl S 4 (RdT S) u ys):Pure Tryz.prog wQ [v,u,.func (.func qU) #[] #[]] S (.bool (eqL xs ys)):=by
 intro w a;have O:(xs.length:Int)<=9223372036854775807:=by have:=h.le; simp only [maxLen] at this; omega
 refine lL.2 ?_;dsimp only[lL,fV];refine aJ h ah ?_;refine aJ N ah ?_;refine fQ ?_;refine aD (fun l=>?_) (fun J=>?_)
 ·exact done a (by rw [Xh (by simp at l; omega)])
 have J:xs.length=ys.length:=by simp at J; omega
 refine aJ h ah ?_;refine ⟨fun i w'=>∃ (k:Nat),k<=xs.length/\i=.int .i64 k/\eqL (xs.drop k) (ys.drop k)=eqL xs ys/\Inv w [] [] S w',fun i _=>xs.length - (intOf i).toNat,⟨0,bk _,rfl,rfl,a⟩,?_⟩;intro V _ _ _ _ _ _ _ _ _ _ _ _ _ _ _ _ _ _ w';rintro ⟨k,hk,rfl,f,a⟩;refine bT ?_;refine aL (fun M=>?_) (fun M=>?_)
 ·have m:k<xs.length:=by omega
  have B:k<ys.length:=by omega
  have g:eqL (xs.drop k) (ys.drop k)=(eqT xs[k] ys[k] && eqL (xs.drop (k+1)) (ys.drop (k+1))):=by
   rw [dY m,dY B,eqL]
  refine cn a h ah ad m (fun _ _=>RdT.length) fun cs o=>?_;have D:=o.length;refine aQ a bj fun Y w' a=>?_;refine au a 0 rfl ad (by simpa using D) rfl (by simpa using o.one) fun w' a=>?_;refine cn a N ah ad B (fun _ _=>RdT.length) fun ds q=>?_;have G:=q.length;refine aQ a bj fun Z w' a=>?_;refine au a 1 rfl ad (by simpa using G) rfl (by simpa using q.one) fun w' a=>?_;refine aC a 0 ad rfl (by simpa using D) ?_;refine aC a 1 ad rfl (by simpa using G) ?_;refine Run.callPure ow oH a (U _ (bG m) _ S _ _ o q) fun w' a=>?_;refine cw ?_;refine aD (fun l=>?_) (fun r=>?_)
  ·exact done a (by rw [<- f,g]; simp at l; rw [l]; rfl)
  ·refine bC (by omega) ?_;refine ⟨⟨k+1,m,rfl,?_,a.nil⟩,by simp [intOf]; omega⟩;rw [<- f,g];simp at r;rw [r,eH]
 ·have:k=xs.length:=by omega
  subst this;refine done a ?_;rw [<- f,eD,J,eD];rfl
theorem iq:∀ (t u:T) (S:ae) (cs ds:List Value),RdT S cs t->RdT S ds u->Pure Tryz.prog qU [.agg cs.toArray,.agg ds.toArray] S (.bool (eqT t u)):=by
 refine T.ind fun k n s ks l u S cs ds h m=>?_;intro w a;obtain ⟨kv,rfl,_,_,_,g⟩:=RdT.iff.1 h;obtain ⟨o,rfl,_,_,_,f⟩:=RdT.iff.1 m;obtain ⟨k',n',q,r⟩:=u;simp only [T.name,T.kids,T.kind,T.n] at g f ⊢;refine vH.2 ?_;dsimp only[vH,bm];refine bJ a fun B w' a=>?_;refine bJ a fun D w' a=>?_;refine af a 0 rfl aW aG rfl ?_;refine af a 1 rfl aW aG rfl ?_;refine bw ?_;by_cases e1:k=k'
 ·rw [aN e1];refine rpG ?_;refine af a 0 rfl bi aG rfl ?_;refine af a 1 rfl bi aG rfl ?_;refine bw ?_;by_cases e2:n=n'
  ·rw [aN e2];refine rpG ?_;refine af a 0 rfl bl be rfl ?_;refine af a 1 rfl bl be rfl ?_;refine bR ?_;by_cases i:s=q
   ·rw [aN i];refine rpG ?_;refine af a 0 rfl ar al rfl ?_;refine af a 1 rfl ar al rfl ?_;refine Run.callPure iK iF a (qt l g f) fun w' a=>?_;refine rpG ?_;exact done a (by rw [eqT,aN e1,aN e2,aN i]; rfl)
   ·rw [aZ i];refine rpG ?_;exact done a (by rw [eqT,aN e1,aN e2,aZ i]; rfl)
  ·rw [aZ e2];refine rpG ?_;exact done a (by rw [eqT,aN e1,aZ e2]; rfl)
 ·rw [aZ e1];refine rpG ?_;exact done a (by rw [eqT,aZ e1]; rfl)
end
section
open Go Go.RowKit

theorem tj {n:Int}:∀ (l:List MapEntry) (i:Nat),(∀ e∈l,∃ m,e.key=.int .i64 m)->
  (∃ j,∃ e∈l,e.key=.int .i64 n/\Instr.findNow (.int .i64) (.int .i64 n) l i=some (some (j,e.val))) ∨ ((∀ e∈l,e.key≠.int .i64 n)/\Instr.findNow (.int .i64) (.int .i64 n) l i=some none)
 | [],i,_=>.inr ⟨by simp,rfl⟩
 | e::l,i,h=>by
  obtain ⟨m,o⟩:=h e (aM ..);have q:Instr.sameNow (.int .i64) (.int .i64 n) e.key=some (n == m):=by rw [o]; rfl
  by_cases a:n=m
  ·refine .inl ⟨i,e,aM ..,by rw [o,a],?_⟩;have:(n == m)=true:=by simpa using a
   rw [Instr.findNow,q,this]
  ·have t:(n == m)=false:=by simpa using a
   rcases tj l (i+1) (fun e B=>h e (aR _ B)) with ⟨j,f,r,hk,hf⟩|⟨hk,hf⟩
   ·exact .inl ⟨j,f,aR _ r,hk,by rw [Instr.findNow,q,t]; exact hf⟩
   ·refine .inr ⟨fun x g=>?_,by rw [Instr.findNow,q,t]; exact hf⟩;rcases bY.1 g with rfl|g
    ·rw [o];intro f;simp only [Value.int.injEq,iZ] at f;exact a f.symm
    ·exact hk x g
section
variable {P:Program} {w w0:World} {X:List Nat} {L:List Item} {S:ae} {K:Value->World->Prop}
attribute [local irreducible] Run CondV aq aK
theorem l5 {f:TypeId} {d:TypeDesc} {k:Value} {l:List MapEntry} {a:Option (Nat × Value)} (hd:P.underlying f=some d) (h:Instr.findNow d k l 0=some a):(Instr.findKey f k l).run P w=.ok a w:=by
 simp [Instr.findKey,run_underlying hd,Result.andThen,h]
theorem JW (h:Inv w0 X L S w) {T ty:TypeId} (hk:∀ b w',Inv w0 X (L++[.blk b (.map #[] 0)]) S w'->K (.map (some b)) w'):Run P (sOp (.makeMap T none) ty) w K:=by
 refine Run.of (v:=.map (some w.heap.size)) (w':={ w with heap:=w.heap.push (.map #[] 0) }) ?_ (hk _ _ (h.alloc _));simp [sOp,execOp,Instr.makeMap,newObj,Sem.run]
theorem Mm (h:Inv w0 X L S w) {T l B ty:TypeId} {b a:Nat} {f:Array MapEntry} {n:Int} {v:Value} (i:Nat) (D:P.underlying T=some (.map l B)) (g:P.underlying l=some (.int .i64))
  (r:L[i]?=some (.blk b (.map f a))) (hf:Instr.findNow (.int .i64) (.int .i64 n) f.toList 0=some none)
  (hk:∀ w',Inv w0 X (L.set i (.blk b (.map (f.push { key:=.int .i64 n,val:=v,born:=a }) (a+1)))) S w'->K undef w') :
  Run P (sOp (.mapUpdate T (.const (.map (some b))) (.const (.int .i64 n)) (.const v)) ty) w K:=by
 have t:w.heap[b]?=some (.map f a):=h.its _ (cA r);have m:∀ e,(Instr.checkKey e 10000 l (.int .i64 n)).run P w=.ok () w:=fun e=>by
  rw [show (10000:Nat)=9999+1 from rfl,Instr.checkKey];simp [run_underlying g]
 have G:(getObj b).run P w=.ok (.map f a) w:=by simp [getObj,Sem.run,t]
 have o:=l5 (P:=P) (w:=w) g hf;refine Run.ofSkip (w':={ w with heap:=w.heap.setIfInBounds b (.map (f.push { key:=.int .i64 n,val:=v,born:=a }) (a+1)) }) ?_ (hk _ (h.setBlk r _ rfl));have q:(setObj b (.map (f.push { key:=.int .i64 n,val:=v,born:=a }) (a+1))).run P w=.ok () { w with heap:=w.heap.setIfInBounds b (.map (f.push { key:=.int .i64 n,val:=v,born:=a }) (a+1)) }:=by simp [setObj,Sem.run,t]
 simp [sOp,execOp,ev0,evE,Instr.mapUpdate,run_underlying D,G,m,o,q]
end
end
section
open Go Go.RowKit

abbrev aj:=List (Option T)
mutual
def qs:T->T->aj->Bool × aj
 | .mk k n s ks,u,st=>if k=1 then (match st[n.toNat]? with
   | some (some t)=>(eqT t u,st)
   | _=>(true,st.set n.toNat (some u)))
  else if pV (.mk k n s ks) u=true then TP ks u.kids st else (false,st)
def TP:List T->List T->aj->Bool × aj
 | [],_,st=>(true,st)
 | _::_,[],st=>(true,st)
 | t::ts,u::us,st=>if (qs t u st).1=true then TP ts us (qs t u st).2 else (false,(qs t u st).2)
end
mutual
def okV:T->Prop
 | .mk k n _ ks=>(k=1->0<=n/\n<=25)/\Au ks
def Au:List T->Prop
 | []=>True
 | t::ts=>okV t/\Au ts
end
theorem Of:∀ {ts:List T},Au ts->∀ t∈ts,okV t
 | _::_,h,t,a=>by
  rcases bY.1 a with rfl|a
  ·exact h.1
  ·exact Of h.2 t a
mutual
def okK:T->Prop
 | .mk k _ _ ks=>k≠0/\QP ks
def QP:List T->Prop
 | []=>True
 | t::ts=>okK t/\QP ts
end
theorem PT {t:T} (h:eB t=true):(t.kind=1->0<=t.n/\t.n<=25)/\t.kind≠0:=by
 unfold eB at h;refine ⟨fun hk=>?_,fun hk=>?_⟩
 ·rw [ai hk] at h;simp only [bM,bD] at h;exact ⟨h.1,h.2.1⟩
 ·rw [ag (by omega),ag (by omega),ag (by omega)] at h;cases h
def aa1 (st:aj):Prop:=st.length=26/\∀ t,some t∈st->okK t
def qh:List Value:=[.int .i64 0,.int .i64 0,.string ⟨#[]⟩,.slice none 0 0]
def KnownC (S:ae) (c:Array Value) (st:aj):Prop:=104<=c.size/\∀ i (h:i<st.length),(st[i]=none->aX c (i * 4) 4=qh)/\(∀ t,st[i]=some t->RdT S (aX c (i * 4) 4) t)
theorem KnownC.set {S:ae} {c:Array Value} {st:aj} (h:KnownC S c st) {n:Nat} (hn:n<26) {cs:List Value} {u:T} (f:RdT S cs u):KnownC S (cB c (n * 4) cs) (st.set n (some u)):=by
 have a:=f.length;have m:=h.1;have q:104<=(cB c (n * 4) cs).size:=by rw [kF _ _ _ (by omega)]; exact m
 refine ⟨q,fun i g=>?_⟩;rw [lB] at g;by_cases e:n=i
 ·subst e;rw [Nj];refine ⟨fun h=>(by cases h),fun t l=>?_⟩;simp only [aY] at l;subst l;have:=ir (c:=c) (o:=n * 4) (vs:=cs) (by omega);rw [a] at this;rw [this];exact f
 ·rw [Sr e,g8 (by omega) (by omega)];exact h.2 i g
section
attribute [local irreducible] Run CondV aq aK
abbrev kvn (kb kp:Nat):Value:=.slice (some ⟨kb,0,none⟩) 26 kp
abbrev kv0 (kb:Nat):Value:=kvn kb 26
end
end
section
open Go Go.RowKit

def k0:List Int->Int->Int->Nat->Int
 | [],_,cur,_=>cur
 | x::xs,n,cur,k=>k0 xs n (if x=n then (k:Int) else cur) (k+1)
def ou (vs:List Int) (n:Int):Int:=(cm (σ:=Unit) (fun _ x=>(decide (n=x),())) () vs 0).1
mutual
def dq (vs:List Int):T->T
 | .mk k n s ks=>.mk k (if k=1 then k0 vs n n 0 else n) s (er vs ks)
def er (vs:List Int):List T->List T
 | []=>[]
 | t::ts=>dq vs t::er vs ts
end
mutual
def jN (vs:List Int):T->T
 | .mk k n s ks=>if k=1 then .mk 1 (ou vs n) ⟨#[]⟩ [] else .mk k n s (fB vs ks)
def fB (vs:List Int):List T->List T
 | []=>[]
 | t::ts=>jN vs t::fB vs ts
end
theorem JH:∀ (xs:List Int) (n a:Int) (k:Nat),n ∉ xs->k0 xs n a k=a
 | [],n,a,k,_=>rfl
 | x::xs,n,a,k,h=>by
  rw [k0,ag (fun e=>h (by rw [e]; exact aM ..)),JH xs n a (k+1) fun e=>h (aR _ e)]
theorem BE:∀ (xs:List Int) (n a:Int) (k:Nat),n∈xs->xs.Nodup->k0 xs n a k=(cm (σ:=Unit) (fun _ x=>(decide (n=x),())) () xs k).1
 | x::xs,n,a,k,h,hd=>by
  rw [Gt] at hd;rw [k0,cm];by_cases e:x=n
  ·subst e;rw [ai rfl,JH _ _ _ _ hd.1];simp
  ·rw [ag e];have f:n∈xs:=by
    rcases bY.1 h with h|h
    ·exact absurd h.symm e
    ·exact h
   have:decide (n=x)=false:=aZ fun q=>e q.symm;simp only [this,FY,if_false];exact BE xs n a (k+1) f hd.2
theorem JK:∀ (xs:List Int) (n a:Int) (k:Nat),k0 xs n a k=a ∨ (0<=k0 xs n a k/\k0 xs n a k<k+xs.length)
 | [],n,a,k=>.inl rfl
 | x::xs,n,a,k=>by
  rw [k0];rcases JK xs n (if x=n then (k:Int) else a) (k+1) with h|h
  ·split at h
   ·right; rw [ai (by assumption),h]; simp; omega
   ·left; rw [ag (by assumption)]; exact h
  ·right;simp only [bq];omega
theorem VQ (vs:List Int) (n:Int):-1<=ou vs n/\ou vs n<vs.length+1:=by
 have:∀ (xs:List Int) (k:Nat),-1<=(cm (σ:=Unit) (fun _ x=>(decide (n=x),())) () xs k).1/\(cm (σ:=Unit) (fun _ x=>(decide (n=x),())) () xs k).1<k+xs.length+1:=by
  intro xs;induction xs with
  | nil=>intro k; simp [cm]; omega
  | cons x xs a=>
   intro k;rw [cm];have:=a (k+1);split
   ·simp; omega
   ·simp only [bq]; omega
 have h:=this vs 0;rw [ou];omega
mutual
def inT (vs:List Int):T->Prop
 | .mk k n _ ks=>(k=1->n∈vs)/\inL vs ks
def inL (vs:List Int):List T->Prop
 | []=>True
 | t::ts=>inT vs t/\inL vs ts
end
theorem tT (l:List Int) (n:Int):vt l n=true↔n∈l:=by
 simp [vt]
theorem N5 (l:List Int) (n:Int):n∈jk l n/\∀ m∈l,m∈jk l n:=by
 unfold jk;split
 ·rename_i h; exact ⟨(tT l n).1 h,fun m h=>h⟩
 ·exact ⟨by simp,fun m h=>by simp [h]⟩
theorem GF {l:List Int} (n:Int) (h:l.Nodup):(jk l n).Nodup:=by
 unfold jk;split
 ·exact h
 ·rename_i hn
  rw [oD];refine ⟨h,by simp,fun a g b f e=>hn ((tT l n).2 ?_)⟩;simp at f;rw [<- f,<- e];exact g
mutual
theorem TK:∀ (t:T) (l:List Int),∀ m∈l,m∈iA t l
 | .mk k n s ks,l,m,h=>by
  rw [iA];refine uR ks _ m ?_;split
  ·exact (N5 l n).2 m h
  ·exact h
theorem uR:∀ (ts:List T) (l:List Int),∀ m∈l,m∈cU ts l
 | [],l,m,h=>h
 | t::ts,l,m,h=>by
  rw [cU];exact uR ts _ m (TK t l m h)
end
mutual
theorem MG:∀ (t:T) (l:List Int),l.Nodup->(iA t l).Nodup
 | .mk k n s ks,l,h=>by
  rw [iA];refine nL ks _ ?_;split
  ·exact GF n h
  ·exact h
theorem nL:∀ (ts:List T) (l:List Int),l.Nodup->(cU ts l).Nodup
 | [],l,h=>h
 | t::ts,l,h=>by
  rw [cU];exact nL ts _ (MG t l h)
end
mutual
theorem N1 {vs a:List Int} (h:∀ m∈vs,m∈a):∀ t:T,inT vs t->inT a t
 | .mk k n s ks,hi=>by
  rw [inT] at hi ⊢;exact ⟨fun e=>h _ (hi.1 e),Oj h ks hi.2⟩
theorem Oj {vs a:List Int} (h:∀ m∈vs,m∈a):∀ ts:List T,inL vs ts->inL a ts
 | [],_=>by simp [inL]
 | t::ts,hi=>by
  rw [inL] at hi ⊢;exact ⟨N1 h t hi.1,Oj h ts hi.2⟩
end
mutual
theorem Uf:∀ (t:T) (l:List Int),inT (iA t l) t
 | .mk k n s ks,l=>by
  rw [iA,inT];refine ⟨fun e=>uR ks _ n ?_,pX ks _⟩;rw [ai e];exact (N5 l n).1
theorem pX:∀ (ts:List T) (l:List Int),inL (cU ts l) ts
 | [],l=>by simp [inL]
 | t::ts,l=>by
  rw [cU,inL];exact ⟨N1 (uR ts _) t (Uf t l),pX ts _⟩
end
theorem VY {t:T} (h:eB t=true) (hk:t.kind=1):t.name=emptyB/\t.kids.length=0:=by
 unfold eB at h;rw [ai hk] at h;simp only [bM,bD] at h;exact ⟨h.2.2.1,h.2.2.2⟩
theorem l9 (vs:List Int):∀ ts:List T,(er vs ts).length=ts.length
 | []=>rfl
 | t::ts=>by rw [er]; simp [l9 vs ts]
theorem pO (vs:List Int):∀ ts:List T,(fB vs ts).length=ts.length
 | []=>rfl
 | t::ts=>by rw [fB]; simp [pO vs ts]
theorem Fw (vs:List Int) (ts:List T) (j:Nat) (h:j<ts.length):er vs (ts.take (j+1))=er vs (ts.take j)++[dq vs ts[j]]:=by
 have:∀ (xs ys:List T),er vs (xs++ys)=er vs xs++er vs ys:=by
  intro xs ys;induction xs with
  | nil=>rfl
  | cons x xs a=>simp [er,a]
 rw [eT h,this]; rfl
theorem Hc (vs:List Int) (ts:List T) (j:Nat) (h:j<ts.length):fB vs (ts.take (j+1))=fB vs (ts.take j)++[jN vs ts[j]]:=by
 have:∀ (xs ys:List T),fB vs (xs++ys)=fB vs xs++fB vs ys:=by
  intro xs ys;induction xs with
  | nil=>rfl
  | cons x xs a=>simp [fB,a]
 rw [eT h,this]; rfl
def vq (vs:List Int) (c:C):C:=⟨dq vs c.head,er vs c.body⟩
def bX (c:C):List Int:=c7 (c.head::c.body) []
end
section
open Go Go.RowKit
section
attribute [local irreducible] Run CondV aq aK
theorem yO {a:C} {S:ae} {cs:List Value} (h:RdC S cs a) (hw:wC a<=1048576):Tri Tryz.prog E0 [.agg cs.toArray] [] S (Wx S a):=by
 intro w f;obtain ⟨hd,ks,rfl,h1,h2⟩:=h;have a9:=h1;obtain ⟨kv,rfl,g1,g2,g3,g4⟩:=RdT.iff.1 h1;unfold wC at hw;refine og.2 ?_;dsimp only[og,aO];refine bJ f fun b1 w' f=>?_;refine aQ f cV fun b2 w' f=>?_;refine aw bO ?_;refine dB f 0 [.int .i64 a.head.kind,.int .i64 a.head.n,.string a.head.name,kv] ad rfl rfl Bz ?_;refine Run.call0 fR fO f (iv _ S _ a9 (by omega)) fun v' I' S w'=>?_;rintro ⟨rfl,b4,N,rfl,rfl,a2⟩ _ f;obtain ⟨B,rfl,_⟩:=TrT.iff.1 a2;refine kY ?_;refine aQ f cV fun b3 w' f=>?_;have f:=f.perm (M:=.blk b1 _::.blk b2 _::.blk b3 _::aV N) (((cj (l₁:=[_])).cons _).cons _);refine au f 2 rfl aH rfl rfl ?_ fun w' f=>?_
 ·intro u hu;have a0:u∈([.int .i64 a.head.kind,.int .i64 a.head.n,.string a.head.name,B,.slice none 0 0]:List Value):=hu;simp at a0;have o1:B.oneCell'=true:=a2.one B (by simp);rcases a0 with rfl|rfl|rfl|rfl|rfl <;> first|rfl|exact o1
 have f:=f.rowNil ab 4;have f:=f.perm (M:=.blk b1 (.cells #[.int .i64 a.head.kind,.int .i64 a.head.n,.string a.head.name,kv,ks] ac)::.blk b2 (.cells #[.int .i64 0,.int .i64 0,.string ⟨#[]⟩,.slice none 0 0,.slice none 0 0] ac)::.blk b3 (.cells #[.int .i64 a.head.kind,.int .i64 a.head.n,.string a.head.name,B,.slice none 0 0] ac)::aA (.slice none 0 0) ab 4 []::aV N) ((((cj (l₁:=[_])).cons _).cons _).cons _);refine ⟨fun i w'=>∃ (j:Nat) (l:Value) (Ls:List bh) (css:List (List Value)),j<=a.body.length/\i=.int .i64 j/\Grown 4 TrT Ls css (a.body.take j)/\
   Inv w [] (.blk b1 (.cells #[.int .i64 a.head.kind,.int .i64 a.head.n,.string a.head.name,kv,ks] ac)::.blk b2 (.cells #[.int .i64 0,.int .i64 0,.string ⟨#[]⟩,.slice none 0 0,.slice none 0 0] ac)::.blk b3 (.cells #[.int .i64 a.head.kind,.int .i64 a.head.n,.string a.head.name,B,l] ac)::aA l ab 4 css::aV (N::Ls).flatten) S w',
  fun i _=>a.body.length - (intOf i).toNat,⟨0,_,[],[],bk _,rfl,Grown.nil _ _,by simp only [fi,kO,bU]; exact f⟩,?_⟩
 intro t4 _ _ _ _ _ _ _ _ _ _ _ _ _ _ _ _ _ _ w';rintro ⟨j,l,Ls,css,hj,rfl,hg,f⟩;refine af f 0 rfl aT al rfl ?_;refine aJ h2 ah ?_;refine bT ?_;refine aL (fun a7=>?_) (fun a7=>?_)
 ·have a1:j<a.body.length:=by omega
  have b5:(a.body.take j).length=j:=by simp; omega
  have b6:=hg.hc;have hm:=bG a1;have b7:=iL hm;obtain ⟨b,o,cap,c,E,fz,rfl,hS,hR⟩:=h2.at_ a1;refine ⟨fun D kT Y lK rW qb oJ ju ld rv j8 ri w_=>Fx D 0 [ri=.pointer (some ⟨b3,4,none⟩),j8=l,rv=.pointer (some ⟨b1,4,none⟩),ld=.slice (some ⟨b,o,none⟩) (a.body).length cap,ju=.int .i64 j,oJ=.pointer (some ⟨b,o+j * 4,none⟩),qb=.agg (aX c (o+j * 4) 4).toArray,True,True,True,kT=.pointer (some ⟨b3,4,none⟩),True]/\∃ M g t,(D 7=true->rW=.agg g.toArray/\TrT M g (a.body)[j])/\(D 8=true->lK=.slice (some ⟨t,0,none⟩) 1 1)/\(D 8=true->D 7=true)/\(D 9=true->D 8=true)/\(D 11=true->D 9=true)/\(D 11=true->D 1=true)/\Inv w [] (aP (.blk b1 (.cells #[.int .i64 a.head.kind,.int .i64 a.head.n,.string a.head.name,kv,.slice (some ⟨b,o,none⟩) a.body.length cap] ac)) (.blk b2 (.cells #[.int .i64 0,.int .i64 0,.string ⟨#[]⟩,.slice none 0 0,.slice none 0 0] ac)) (.blk b3 (.cells #[.int .i64 a.head.kind,.int .i64 a.head.n,.string a.head.name,B,l] ac)) (.blk b3 (.cells #[.int .i64 a.head.kind,.int .i64 a.head.n,.string a.head.name,B,Y] ac)) (aA l ab 4 css) (aA Y ab 4 (css++[g])) (aV (N::Ls).flatten) M (.blk t (.cells g.toArray ab)) (D 7) (D 8) (D 9) (D 11)) S w_,⟨Fx.nil _ _,⟨[],[],0,aI,aI,aI,aI,aI,aI,by simpa [aP,aV] using f.draw⟩⟩,⟨?_,?_,?_,?_,?_,?_,?_,?_,?_,?_,?_,?_,trivial⟩,?_⟩;all_goals (intro D bI; intros; rename_i kT Y lK rW qb oJ ju ld rv j8 ri w_ a4; have r:=a4.1; obtain ⟨⟨cJ,cH,cI,cD,cM,cO,cq,dg,dF,dL,cT,dl,_⟩,⟨M,g,t,J,Z,U,O,q,V,f⟩⟩:=a4)
  ·refine aw aT ?_;exact ⟨r.set 0 rfl,⟨M,g,t,J,Z,U,O,q,V,f⟩⟩
  ·obtain rfl:=cJ ‹_›;have G:D 11=false:=bx.2 fun h=>by rw [V h] at bI; cases bI
   refine aU (b:=b3) f 2 (c:=(#[.int .i64 a.head.kind,.int .i64 a.head.n,.string a.head.name,B,l])) al (by rw [G]; rfl) rfl ?_;have V:=fun (_:ao D 1 11=true)=>(rfl:ao D 1 1=true)
   exact ⟨r.set 1 rfl,⟨M,g,t,J,Z,U,O,q,V,f⟩⟩
  ·refine aw aT ?_;exact ⟨r.set 2 rfl,⟨M,g,t,J,Z,U,O,q,V,f⟩⟩
  ·obtain rfl:=cI ‹_›;refine aU f 0 al rfl rfl ?_;exact ⟨r.set 3 rfl,⟨M,g,t,J,Z,U,O,q,V,f⟩⟩
  ·exact ⟨r.set 4 rfl,⟨M,g,t,J,Z,U,O,q,V,f⟩⟩
  ·obtain rfl:=cD ‹_›;obtain rfl:=cM ‹_›;refine az ah a1 ?_;exact ⟨r.set 5 rfl,⟨M,g,t,J,Z,U,O,q,V,f⟩⟩
  ·obtain rfl:=cO ‹_›;refine ci ad hR.length (fun j v hj=>by rw [f.cellS hS]; exact aF rfl j v hj) ?_;exact ⟨r.set 6 rfl,⟨M,g,t,J,Z,U,O,q,V,f⟩⟩
  ·obtain rfl:=cq ‹_›;have f8:D 8=false:=bx.2 fun h=>by rw [U h] at bI; cases bI
   have f9:D 9=false:=bx.2 fun h=>by rw [O h] at f8; cases f8
   have G:D 11=false:=bx.2 fun h=>by rw [q h] at f9; cases f9
   rw [bI,f8,f9,G] at f;refine Run.call0 fR fO f (iv _ S _ hR (by omega)) fun v' I' S w_=>?_;rintro ⟨rfl,g,M,rfl,rfl,hT⟩ _ f;have J:ao D 7 7=true->Value.agg g.toArray=Value.agg g.toArray/\TrT M g (a.body)[j]:=fun _=>⟨rfl,hT⟩
   have U:=fun (_:ao D 7 8=true)=>(rfl:ao D 7 7=true)
   have f:Inv w [] (aP (.blk b1 (.cells #[.int .i64 a.head.kind,.int .i64 a.head.n,.string a.head.name,kv,.slice (some ⟨b,o,none⟩) a.body.length cap] ac)) (.blk b2 (.cells #[.int .i64 0,.int .i64 0,.string ⟨#[]⟩,.slice none 0 0,.slice none 0 0] ac)) (.blk b3 (.cells #[.int .i64 a.head.kind,.int .i64 a.head.n,.string a.head.name,B,l] ac)) (.blk b3 (.cells #[.int .i64 a.head.kind,.int .i64 a.head.n,.string a.head.name,B,Y] ac)) (aA l ab 4 css) (aA Y ab 4 (css++[g])) (aV (N::Ls).flatten) M (.blk t (.cells g.toArray ab)) true (D 8) (D 9) (D 11)) S w_:=by
    rw [f8,f9,G];simpa [aP] using f
   exact ⟨r.set 7 (by first|assumption|trivial),⟨M,g,t,J,Z,U,O,q,V,f⟩⟩
  ·have WA:=dg ‹_›;have f9:D 9=false:=bx.2 fun h=>by rw [O h] at bI; cases bI
   have G:D 11=false:=bx.2 fun h=>by rw [q h] at f9; cases f9
   obtain ⟨q7,hT⟩:=J ‹D 7=true›;subst q7;rw [‹D 7=true›,bI,f9,G] at f;refine dC f bn (by simp [Value.cells,hT.length]) (by omega) (by omega) fun t w_ f=>?_;have J:ao D 8 7=true->Value.agg g.toArray=Value.agg g.toArray/\TrT M g (a.body)[j]:=fun _=>⟨rfl,hT⟩
   have Z:=fun (_:ao D 8 8=true)=>(rfl:Value.slice (some ⟨t,0,none⟩) 1 1=_)
   have U:=fun (_:ao D 8 8=true)=>‹D 7=true›;have O:=fun (_:ao D 8 9=true)=>(rfl:ao D 8 8=true)
   have f:Inv w [] (aP (.blk b1 (.cells #[.int .i64 a.head.kind,.int .i64 a.head.n,.string a.head.name,kv,.slice (some ⟨b,o,none⟩) a.body.length cap] ac)) (.blk b2 (.cells #[.int .i64 0,.int .i64 0,.string ⟨#[]⟩,.slice none 0 0,.slice none 0 0] ac)) (.blk b3 (.cells #[.int .i64 a.head.kind,.int .i64 a.head.n,.string a.head.name,B,l] ac)) (.blk b3 (.cells #[.int .i64 a.head.kind,.int .i64 a.head.n,.string a.head.name,B,Y] ac)) (aA l ab 4 css) (aA Y ab 4 (css++[g])) (aV (N::Ls).flatten) M (.blk t (.cells g.toArray ab)) (D 7) true (D 9) (D 11)) S w_:=by
    rw [‹D 7=true›,f9,G];simpa [aP,Value.cells] using f
   exact ⟨r.set 8 (by first|assumption|trivial),⟨M,g,t,J,Z,U,O,q,V,f⟩⟩
  ·obtain rfl:=cH ‹_›;have Dx:=dF ‹_›;have G:D 11=false:=bx.2 fun h=>by rw [q h] at bI; cases bI
   have q8:=Z ‹D 8=true›;subst q8;obtain ⟨_,hT⟩:=J ‹D 7=true›;rw [‹D 7=true›,‹D 8=true›,bI,G] at f;have a5:((aP (.blk b1 (.cells #[.int .i64 a.head.kind,.int .i64 a.head.n,.string a.head.name,kv,.slice (some ⟨b,o,none⟩) a.body.length cap] ac)) (.blk b2 (.cells #[.int .i64 0,.int .i64 0,.string ⟨#[]⟩,.slice none 0 0,.slice none 0 0] ac)) (.blk b3 (.cells #[.int .i64 a.head.kind,.int .i64 a.head.n,.string a.head.name,B,j8] ac)) (.blk b3 (.cells #[.int .i64 a.head.kind,.int .i64 a.head.n,.string a.head.name,B,Y] ac)) (aA j8 ab 4 css) (aA Y ab 4 (css++[g])) (aV (N::Ls).flatten) M (.blk t (.cells g.toArray ab)) true true false false))[4+(aV (N::Ls).flatten).length+(aV M).length]?=some (.blk t (.cells g.toArray ab)):=by
    have e4:4+(aV (N::Ls).flatten).length+(aV M).length=((aV (N::Ls).flatten).length+(aV M).length)+1+1+1+1:=by omega
    rw [e4];simp only [aP,kU];rw [gC (by omega),mM,gC (aS _),ew]; rfl
   refine dD f 3 g bn (by omega) rfl (by rw [hT.length]) (m:=1) (o:=0) ?_ hT.one (by omega) (by omega) fun v' w_ f=>?_
   ·intro i u hi;rw [f.cellL a5,cQ];simpa using hi
   rw [eC] at f;have O:=fun (_:ao D 9 9=true)=>‹D 8=true›;have q:=fun (_:ao D 9 11=true)=>(rfl:ao D 9 9=true)
   have f:Inv w [] (aP (.blk b1 (.cells #[.int .i64 a.head.kind,.int .i64 a.head.n,.string a.head.name,kv,.slice (some ⟨b,o,none⟩) a.body.length cap] ac)) (.blk b2 (.cells #[.int .i64 0,.int .i64 0,.string ⟨#[]⟩,.slice none 0 0,.slice none 0 0] ac)) (.blk b3 (.cells #[.int .i64 a.head.kind,.int .i64 a.head.n,.string a.head.name,B,j8] ac)) (.blk b3 (.cells #[.int .i64 a.head.kind,.int .i64 a.head.n,.string a.head.name,B,v'] ac)) (aA j8 ab 4 css) (aA v' ab 4 (css++[g])) (aV (N::Ls).flatten) M (.blk t (.cells g.toArray ab)) (D 7) (D 8) true (D 11)) S w_:=by
    rw [‹D 7=true›,‹D 8=true›,G];exact f
   exact ⟨r.set 9 (by first|assumption|trivial),⟨M,g,t,J,Z,U,O,q,V,f⟩⟩
  ·refine aw aT ?_;exact ⟨r.set 10 rfl,⟨M,g,t,J,Z,U,O,q,V,f⟩⟩
  ·obtain rfl:=cT ‹_›;have D1:=dL ‹_›;rw [‹D 7=true›,‹D 8=true›,‹D 9=true›,bI] at f;obtain ⟨va,vn,vc,a3⟩:=Inv.rowSlice f 3 rfl;refine dA f 2 (n:=1) (by rw [a3]; rfl) (by decide +kernel) rfl (by simp) (by rw [a3]; simp [Value.cells,Value.oneCell']) fun w_ f=>?_;have a6:Value.cells Y=#[Y]:=by rw [a3]; rfl
   rw [a6] at f;have V:=fun (_:ao D 11 11=true)=>‹D 1=true›;have q:=fun (_:ao D 11 11=true)=>‹D 9=true›;have f:Inv w [] (aP (.blk b1 (.cells #[.int .i64 a.head.kind,.int .i64 a.head.n,.string a.head.name,kv,.slice (some ⟨b,o,none⟩) a.body.length cap] ac)) (.blk b2 (.cells #[.int .i64 0,.int .i64 0,.string ⟨#[]⟩,.slice none 0 0,.slice none 0 0] ac)) (.blk b3 (.cells #[.int .i64 a.head.kind,.int .i64 a.head.n,.string a.head.name,B,l] ac)) (.blk b3 (.cells #[.int .i64 a.head.kind,.int .i64 a.head.n,.string a.head.name,B,Y] ac)) (aA l ab 4 css) (aA Y ab 4 (css++[g])) (aV (N::Ls).flatten) M (.blk t (.cells g.toArray ab)) (D 7) (D 8) (D 9) true) S w_:=by
    rw [‹D 7=true›,‹D 8=true›,‹D 9=true›];exact f
   exact ⟨r.set 11 trivial,⟨M,g,t,J,Z,U,O,q,V,f⟩⟩
  obtain ⟨rfl,rfl,rfl,rfl,rfl,rfl,rfl,WA,Dx,D1,rfl,_,_⟩:=r.all;have vp:D 7=true:=by assumption
  have EB:D 8=true:=by assumption
  have Nw:D 9=true:=by assumption
  have Ac:D 11=true:=by assumption
  clear r cJ cH cI cD cM cO cq dg dF dL cT dl;obtain ⟨_,hT⟩:=J vp;rw [vp,EB,Nw,Ac] at f;refine bC (by omega) ?_;refine ⟨⟨j+1,Y,Ls++[M],css++[g],a1,rfl,?_,?_⟩,by simp [intOf]; omega⟩
  ·rw [eT a1];exact hg.snoc hT hT.length
  ·rw [<- dV,mI,cK];simp only [fi,kO,bU];refine f.sub ?_;simp only [aP,fi];rw [<- dx];exact (((dw _ _).cons_cons _).cons_cons _).cons_cons _ |>.cons_cons _
 ·have:j=a.body.length:=by omega
  subst this;rw [ed] at hg;obtain ⟨va,vn,vc,a8⟩:=f.rowSlice 3 rfl;have b0:l.oneCell'=true:=by rw [a8]; rfl
  have o1:B.oneCell'=true:=a2.one B (by simp);refine aC f 2 aH rfl rfl ?_;refine au f 1 rfl aH rfl rfl ?_ fun w' f=>?_
  ·intro u hu;have a0:u∈([.int .i64 a.head.kind,.int .i64 a.head.n,.string a.head.name,B,l]:List Value):=hu;simp at a0;rcases a0 with rfl|rfl|rfl|rfl|rfl <;> first|rfl|exact o1|exact b0
  refine bB f 1 aH rfl rfl ?_;have f:Inv w [] (aA l ab 4 css::aV (N::Ls).flatten) S w':=f.sub (dJ [_,_,_] _);rw [fi,cK] at f;have f:=f.perm (M:=aV N++(aA l ab 4 css::aV Ls.flatten)) (zal132);obtain ⟨L,hT,f⟩:=Inv.rowTree f hg;exact ⟨_,_,_,rfl,f,Ext.refl _ _ _,rfl,_,N++L,rfl,by rw [cK],_,l,N,L,rfl,rfl,a2,hT⟩
theorem Ic {p:List C} {S:ae} {v:Value} (h:RdSl S 5 (RdC S) v p) (M:p.length+wP p<=1048576):Tri Tryz.prog MU [v] [] S (N9 5 TrC S p):=by
 intro w a;refine xN.2 ?_;dsimp only[xN,aO];refine ei a dd fun v0 w' a=>?_;refine ⟨fun i t w'=>∃ (k:Nat) (Ls:List bh) (css:List (List Value)),k<=p.length/\i=.int .i64 k/\Grown 5 TrC Ls css (p.take k)/\Inv w [] (aA t ac 5 css::aV Ls.flatten) S w',
  fun i _ _=>p.length - (intOf i).toNat,⟨0,[],[],bk _,rfl,Grown.nil _ _,a⟩,?_⟩
 intro N _ _ O _ _ _ _ _ _ _ _ _ _ _ _ w';rintro ⟨k,Ls,css,hk,rfl,m,a⟩;refine aJ h bf ?_;refine bT ?_;refine aL (fun o=>?_) (fun o=>?_)
 ·have f:k<p.length:=by omega
  have B:(p.take k).length=k:=by simp; omega
  have D:=m.hc;refine cn a h bf aH f (fun _ _=>RdC.length) fun cs q=>?_;have G:=bG f;have J:=K9 G;refine Run.call0 uy tY a (yO q (by omega)) fun r I' S' w'=>?_;rintro ⟨rfl,l,L,rfl,rfl,g⟩ _ a;refine de a 0 l dd (by omega) (by omega) rfl g.length g.one (by omega) (by omega) fun r w' a=>?_;refine bC (by omega) ?_;refine ⟨⟨k+1,Ls++[L],css++[l],f,rfl,?_,?_⟩,by simp [intOf]; omega⟩
  ·rw [eT f];exact m.snoc g g.length
  ·simp only [mI,fi,kO,bU,cK];exact a
 ·have:k=p.length:=by omega
  subst this;rw [ed] at m;obtain ⟨L,g,a⟩:=Inv.rowTree (A:=[]) a m;exact ⟨_,_,_,rfl,a,Ext.refl _ _ _,rfl,_,rfl,g⟩
end
end
section
open Go Go.RowKit
section
variable {P:Program} {w w0:World} {X:List Nat} {L:List Item} {S:ae} {K:Value->World->Prop}
theorem Ja (h:Inv w0 X L S w) {T ty e:TypeId} {k by_ n q:Nat} {z v:Value} {cs:List Bool} {xs:List Value} {a:Option Addr} (i:Nat)
  (r:oy P T=some (e,k,by_,z)) (t:L[i]?=some (.row v e k n xs)) (hk:K v w) :
  Run P (co .append #[T,T] ty cs [v,.slice a 0 q]) w K:=by
 obtain ⟨o,B,l,N,O,U,D⟩:=pC r;have f:=h.its _ (cA t);simp only [Item.holds] at f;refine Run.of (v:=v) (w':=w) ?_ hk;rcases f.2 with ⟨rfl,rfl⟩|⟨g,cap,G,rfl,_,V,m,J,M,Y⟩
 ·cases a <;> simp [co,builtin,Builtin.append_,run_underlying o,sizeOf,typeInfo,l,Builtin.lenOf,Builtin.firstCells,loadCells,loadCellsFrom]
 ·cases a <;> simp [co,builtin,Builtin.append_,run_underlying o,sizeOf,typeInfo,l,storeCells,m,Builtin.lenOf,Builtin.firstCells,loadCells,loadCellsFrom]
end
end
end Go.Proofs.YtgllldjiaglkcaaGreatDoor

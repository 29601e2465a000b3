/- spec: terms resolved where an argument may be lacking; l8Full. -/
import Derived.Test.YtjbcdmheajljpaaGreatZRdA
import Derived.Test.YtjbcdmheajljpaaGreatZRd17
namespace Go.Proofs.YtjbcdmheajljpaaGreat
attribute [local irreducible] Run CondV aI bg
section
open Go Go.RowKit
section
theorem vu {N kp:Nat} {st:bb} {t:T} (o:t.kind≠1) {S:ai} {cs:nA} {i:Nat} {j:Array Value} (h:RdT S cs t) (_:KnU S j st) :
  nB vz [.agg cs.toArray,kvU i N kp] [ei i j ac] S fun r I' S'=>S'=S/\I'=[ei i j ac]/\∃ l,r=.agg l.toArray/\RdT S l t:=by
 intro w g;obtain ⟨X,G⟩:∃ X,X=cg [Item.blk i (.cells j ac)]:=⟨_,rfl⟩
 rw [<- G] at g ⊢;obtain ⟨kv,rfl,_⟩:=RdT.iff.1 h;obtain ⟨O,U,C⟩:∃ a m,kv=.slice a t.kids.length m:=by
  obtain ⟨J,e,_,_,_,a,m,M,_⟩:=RdT.iff.1 h;cases e;exact ⟨a,m,M⟩
 refine nV.2 ?_;dsimp only[nV,bv];refine bH g fun p w' g=>?_;refine aE g aQ fun B w' g=>?_;have g:Inv w X [ei i j ac,ei p (ku t kv) ac,ei B et ac] S w':=g;refine ⟨fun w'=>Inv w X [ei i j ac,ei p (ku t kv) ac,ei B et ac] S w',fun _=>0,g,?_⟩;intro _ _ _ _ _ _ _ _ _ _ _ _ _ _ _ _ _ _ _ _ _ _ _ _ w';intro g;refine ⟨fun q w'=>q=.bool false/\Inv w X [ei i j ac,ei p (ku t kv) ac,ei B et ac] S w',?_,?_⟩
 ·refine ah g 1 rfl aW au rfl ?_;refine a9 ?_;rw [aM o];refine rpG ?_;exact ⟨rfl,g⟩
 intro q _ _ _ _ _ _ _ _ _ _ _ _ _ _ _ _ _ _ w';rintro ⟨rfl,g⟩;refine aL (fun D=>by cases D) (fun _=>?_);refine aq (c:=(ku t kv)) g 1 af rfl rfl ?_;refine aj g 2 rfl af rfl rfl (by simp [Value.oneCell',C]) fun w' g=>?_;refine be g 2 af rfl rfl ?_;exact ⟨_,_,S,rfl,g.pick [true],Ext.refl _ _ _,rfl,rfl,(kB t kv),rfl,h⟩
theorem yK {N kp:Nat} {st:bb} {t v:T} {us:List T} (a0:∀ (S:ai) (cs:nA) (m:Nat) (o:Array Value),RdT S cs t->KnU S o st->nB vz [.agg cs.toArray,kvU m N kp] [ei m o ac] S fun r I' S'=>S'=S/\I'=[ei m o ac]/\∃ a1,r=.agg a1.toArray/\RdT S a1 v) (c8:v.kids.length<=1048576) (c9:us.length=v.kids.length)
  (hk:∀ i (h:i<us.length) (h':i<v.kids.length),FC N kp st v.kids[i] us[i]):FC N kp st t (.mk v.kind v.n v.name us):=by
 intro S cs m o p h a4 d0 d1 w a;have b1:=h.length;obtain ⟨X,hX⟩:∃ X,X=cg [Item.blk m (.cells o ac)]:=⟨_,rfl⟩
 rw [<- hX] at a ⊢;have d4:=ch us;refine nX.2 ?_;dsimp only[nX,eX];refine bH a fun b3 w' a=>?_;refine aE a aQ fun Y w' a=>?_;have a:Inv w X ([ei b3 cs.toArray ac,ei Y et ac]++[ei m o ac]) S w':=a.perm (bD (l₁:=[_,_]) (l₂:=[_]));refine cd ?_;refine aJ (fun b5=>?_) (fun b5=>?_)
 ·refine j5 ?_;refine aj a 1 rfl af rfl rfl jh fun w' a=>?_;refine be a 1 af rfl rfl ?_;refine ⟨_,_,_,rfl,a.pick [false,false,true],Ext.refl _ _ _,rfl,_,rfl,jh,?_,fun h=>?_⟩
  ·rw [iV,ae (by omega)]
  ·rw [iV] at h;omega
 refine aq a 0 af rfl (by simpa using b1) ?_;refine Run.call om n5 a (a0 S cs m o h a4) fun v' I' S' w'=>?_;rintro ⟨eS,rfl,a1,rfl,D⟩ _ a;rw [eS] at a;clear eS;refine aj a 0 rfl af (by simpa using D.length) (by simpa using b1) (by simpa using D.one) fun w' a=>?_;obtain ⟨kv,rfl,c1,c2,hs,a3⟩:=RdT.iff.1 D;have a:Inv w X [ei b3 (ku v kv) ac,ei Y et ac,ei m o ac] S w':=a;have c5:=a3.le;refine ah a 0 rfl aW au rfl ?_;refine ah a 0 rfl aR au rfl ?_;refine ah a 0 rfl bu aV rfl ?_;refine jO ?_;refine aE a aQ fun O w' a=>?_;have a:Inv w X [ei b3 (ku v kv) ac,ei Y et ac,.blk O _,ei m o ac] S w':=a.perm (((bD (l₁:=[_]) (l₂:=[_])).cons _).cons _);refine aj a 2 rfl af rfl rfl (by simp [Value.oneCell']) fun w' a=>?_;refine jl (by omega) ?_;have a:=a.rowNil ac 4;have a:Inv w X [ei b3 (ku v kv) ac,ei Y et ac,ei O (ku v (nx)) ac,aB (nx) ac 4 [],ei m o ac] S w':=a.perm ((((bD (l₁:=[_]) (l₂:=[_])).cons _).cons _).cons _);refine ⟨fun i l w'=>∃ (j:Nat) (left:Int) (g:Value) (css:List (nA)) (S1:ai),j<=us.length/\i=ee j/\l=ee left/\Ext w.heap.size X S S1/\css.length=j/\
   ((left=p - 1 - bo (us.take j)/\0<=left/\Rows 4 (RdT S1) css (us.take j)) ∨ (left=-1/\p - 1<bo us))/\
   Inv w X [ei b3 (ku v kv) ac,ei Y et ac,ei O (ku v g) ac,aB g ac 4 css,ei m o ac] S1 w',
  fun i _ _=>us.length - (intOf i).toNat,⟨0,p - 1,_,[],S,aT _,rfl,rfl,Ext.refl _ _ _,rfl,.inl ⟨by simp [bo],by omega,Rows.nil _ _⟩,a⟩,?_⟩
 intro d2 _ _ t9 _ _ _ _ _ _ _ _ _ _ _ _ _ _ _ _ _ _ _ _ _ _ _ _ _ _ _ _ _ w';rintro ⟨j,left,g,css,S1,hj,rfl,rfl,hE,b4,a5,a⟩;refine ⟨fun q w'=>q=.bool (decide (j<us.length/\0<=left))/\Inv w X [ei b3 (ku v kv) ac,ei Y et ac,ei O (ku v g) ac,aB g ac 4 css,ei m o ac] S1 w',?_,?_⟩
 ·refine ah a 0 rfl az aw rfl ?_;refine aO a3 ao ?_;refine cd ?_;by_cases e1:(j:Int)<(v.kids.length:Nat)
  ·rw [aD e1];refine rpG ?_;refine iK ?_;refine rpG ?_;refine ⟨?_,a⟩
   congr 1
   rw [sD,bK,bK];omega
  ·rw [aM e1];refine rpG ?_;refine ⟨?_,a⟩;rw [aM (by omega)]
 intro q _ _ _ _ _ _ _ _ w';rintro ⟨rfl,a⟩;refine aJ (fun a8=>?_) (fun a8=>?_)
 ·obtain ⟨Z,d3⟩:=a8;have b2:j<v.kids.length:=by omega
  obtain ⟨hleft,_,hR⟩:left=p - 1 - bo (us.take j)/\0<=left/\Rows 4 (RdT S1) css (us.take j):=by
   rcases a5 with h1|⟨h1,_⟩
   ·exact h1
   ·omega
  have c6:=ch (us.take j);refine ah a 0 rfl az aw rfl ?_;refine dj a (a3.monoT hE.1) ao af b2 (fun _ _=>RdT.length) fun b7 a9=>?_;have a:Inv w X ([ei b3 (ku v kv) ac,ei Y et ac,ei O (ku v g) ac,aB g ac 4 css]++[ei m o ac]) S1 _:=a;refine Run.callE tA rS a (hk j Z b2 S1 b7 m o left a9 (a4.mono hE.1) (by omega) (by omega)) fun v' I' S2 w'=>?_;rintro ⟨rfl,U,V,a6,rfl,a2⟩ a7 a;refine aA rfl ?_;refine aA rfl ?_;refine aE a aQ fun b9 w' a=>?_;have a:=a.perm (M:=.blk b9 _::[ei b3 (ku v kv) ac,ei Y et ac,ei O (ku v g) ac,aB g ac 4 css,ei m o ac]) (bD (l₁:=[_]));refine aj a 0 rfl af (by simpa using V) rfl (by simpa using a6) fun w' a=>?_;refine ah (b:=O) (c:=(ku v g)) a 3 rfl az aw rfl ?_;refine aq a 0 af rfl (by simpa using V) ?_;refine dB a 4 U bi (by omega) (by omega) rfl V a6 (by omega) (by omega) fun B w' a=>?_;have C:=fP (a.its (aB B ac 4 (css++[U])) (by simp));refine cq (b:=O) (c:=(ku v g)) a 3 rfl az aw rfl C.1 C.2 fun w' a=>?_;have a:Inv w X [ei b3 (ku v kv) ac,ei Y et ac,ei O (ku v B) ac,aB B ac 4 (css++[U]),ei m o ac] S2 w':=a.pick [false,true,true,true,true,true];refine bL (by omega) ?_;have d6:=Ay us j Z;have c7:=qG us (j+1);have d7:=dw us[j];refine ⟨⟨j+1,_,B,css++[U],S2,Z,rfl,rfl,hE.trans a7,by simp [b4],?_,a⟩,by simp [intOf];omega⟩;by_cases J:bR us[j]<=left
  ·left;rw [ag J];refine ⟨by omega,by omega,?_⟩;rw [gt Z];exact (hR.monoR fun _ _ h=>RdT.mono a7.1 h).snoc (a2 J) V
  ·right;rw [ae J];exact ⟨rfl,by omega⟩
 ·refine aq (b:=O) (c:=(ku v g)) a 2 af rfl rfl ?_;have C:=fP (a.its (aB g ac 4 css) (by simp));have G:∀ x∈((kB v g):nA),x.oneCell'=true:=by
   intro x hx;simp at hx;rcases hx with rfl|rfl|rfl|rfl <;> first|rfl|exact C.2
  refine aj a 1 rfl af rfl rfl G fun w' a=>?_;refine be (c:=(ku v g)) a 1 af rfl rfl ?_;have a:Inv w X ([ei m o ac]++[aB g ac 4 css]) S1 w':=(a.pick [false,false,false,true,true]).perm (List.Perm.swap ..);rcases a5 with ⟨h1,h2,hR⟩|⟨h1,h2⟩
  ·have c3:j=us.length:=by omega
   rw [c3,g7] at h1 hR;obtain ⟨S3,b0,a2,a⟩:=a.lendExt;have c4:=RowRd.rows (hR.monoR fun _ _ h=>RdT.mono b0.1 h) a2;refine ⟨_,_,_,rfl,a,hE.trans b0,rfl,(kB v g),rfl,G,?_,fun _=>RdT.iff.2 ⟨g,rfl,c1,c2,hs,c4⟩⟩;rw [iV,ag (by omega),show left=p - (1+bo us) by omega]
  ·refine ⟨_,_,_,rfl,a.sub (gV _ _),hE,rfl,(kB v g),rfl,G,?_,fun h=>?_⟩
   ·rw [iV,ae (by omega),h1]
   ·rw [iV] at h;omega
theorem XW {N kp:Nat} {st:bb}:FC N kp st zT0 zT0:=
 yK (v:=zT0) (us:=[]) (fun S cs a g h hk=>vu (by decide) h hk) (aT _) rfl fun i h=>absurd h (Nat.not_lt_zero _)
theorem V6 {N kp:Nat} {st:bb} {nm:ByteArray} {ks us:List T} (a:us.length=ks.length) (hk:ks.length<=1048576) (h:∀ i (h:i<us.length) (g:i<ks.length),FC N kp st ks[i] us[i]):FC N kp st (fnT nm ks) (fnT nm us):=
 yK (v:=fnT nm ks) (us:=us) (fun S cs j l h hk=>vu (by show (3:Int)≠1;decide) h hk) hk a h
theorem P2 {N kp:Nat} {st:bb} {t u:T} (B:FC N kp st t u) {S:ai} {cs:nA} {o:Nat} {p:Array Value} (h:RdT S cs t) (a1:KnU S p st) :
  nB Nn [.agg cs.toArray,kvU o N kp] [ei o p ac] S (Xn o p u):=by
 intro w a;have a3:=h.length;obtain ⟨X,hX⟩:∃ X,X=cg [Item.blk o (.cells p ac)]:=⟨_,rfl⟩
 rw [<- hX] at a ⊢;refine zB.2 ?_;dsimp only[zB,bv];refine bH a fun V w' a=>?_;refine aE a aQ fun Y w' a=>?_;have a:Inv w X ([ei V cs.toArray ac,ei Y et ac]++[ei o p ac]) S w':=a.perm (bD (l₁:=[_,_]) (l₂:=[_]));refine aq a 0 af rfl (by simpa using a3) ?_;refine Run.callE tA rS a (B S cs o p 120 h a1 (by omega) (by omega)) fun v' I' S1 w'=>?_;rintro ⟨rfl,i,j,l,rfl,a2⟩ hE a;refine aA rfl ?_;refine aA rfl ?_;refine aE a aQ fun b6 w' a=>?_;have a:Inv w X [ei V cs.toArray ac,ei Y et ac,ei o p ac,.blk b6 _] S1 w':=a;refine aj a 3 rfl af (by simpa using j) rfl (by simpa using l) fun w' a=>?_;have a:Inv w X [ei V cs.toArray ac,ei Y et ac,ei o p ac,ei b6 i.toArray ac] S1 w':=a;by_cases hc:bR u<=120
 ·rw [ag hc];have a4:=dw u;have a0:=a2 hc;refine ⟨fun D C G J M O U DS L7 r=>Fx D 0 [L7=.agg i.toArray,DS=ee (120 - bR u),U=.bool true,O=.bool true,M=.agg i.toArray,J=.bool (nc u 30),G=.bool (nc u 30),True,C=.bool (nc u 30)]/\Inv w X [ei V cs.toArray ac,ei Y (cond (D 7) i.toArray et) ac,ei o p ac,ei b6 i.toArray ac] S1 r,⟨Fx.nil _ _,a.draw⟩,⟨?_,?_,?_,?_,?_,?_,?_,?_,?_,trivial⟩,?_⟩;all_goals (intro D bp;intros;rename_i C G J M O U DS L7 r m;have g:=m.1;obtain ⟨⟨Z,ci,cG,q,bU,cH,cj,cR,dJ,_⟩,a⟩:=m)
  ·refine aq a 3 af rfl (by simpa using j) ?_;exact ⟨g.set 0 rfl,a⟩
  ·exact ⟨g.set 1 rfl,a⟩
  ·obtain rfl:=ci ‹_›;refine iK ?_;rw [aD (by omega)];exact ⟨g.set 2 rfl,a⟩
  ·obtain rfl:=cG ‹_›;exact ⟨g.set 3 rfl,a⟩
  ·obtain rfl:=q ‹_›;refine rpG ?_;refine aq a 3 af rfl (by simpa using j) ?_;exact ⟨g.set 4 rfl,a⟩
  ·obtain rfl:=bU ‹_›;obtain rfl:=q ‹_›;refine rpG ?_;refine Run.callPure CD C2 a (KP u 30 S1 i a0 (by omega) (by omega)) fun r a=>?_;exact ⟨g.set 5 rfl,a⟩
  ·obtain rfl:=q ‹_›;obtain rfl:=cH ‹_›;refine rpG ?_;exact ⟨g.set 6 rfl,a⟩
  ·obtain rfl:=Z ‹_›;rw [bp] at a;refine aj a 1 rfl af (by simpa using j) rfl (by simpa using l) fun r a=>?_;exact ⟨g.set 7 trivial,a⟩
  ·obtain rfl:=cj ‹_›;exact ⟨g.set 8 rfl,a⟩
  obtain ⟨rfl,rfl,rfl,rfl,rfl,rfl,rfl,_,rfl,_⟩:=g.all;have nI:D 7=true:=by assumption
  clear g Z ci cG q bU cH cj cR dJ;rw [nI] at a;refine be a 1 af rfl (by simpa using j) ?_;have e:dt u=nc u 30:=by rw [dt,aD hc,fk]
  exact ⟨_,_,_,rfl,a.pick [false,false,true,false],hE,rfl,i,j,l,by rw [e];rfl,fun _=>a0⟩
 ·rw [ae hc];refine ⟨fun D C G J M O U DS L7 r=>Fx D 0 [L7=.agg i.toArray,DS=ee (-1),U=.bool false,O=.bool false,M=undef,J=undef,G=.bool false,True,C=.bool false]/\Inv w X [ei V cs.toArray ac,ei Y (cond (D 7) i.toArray et) ac,ei o p ac,ei b6 i.toArray ac] S1 r,⟨Fx.nil _ _,a.draw⟩,⟨?_,?_,?_,?_,?_,?_,?_,?_,?_,trivial⟩,?_⟩;all_goals (intro D bp;intros;rename_i C G J M O U DS L7 r m;have g:=m.1;obtain ⟨⟨Z,ci,cG,q,bU,cH,cj,cR,dJ,_⟩,a⟩:=m)
  ·refine aq a 3 af rfl (by simpa using j) ?_;exact ⟨g.set 0 rfl,a⟩
  ·exact ⟨g.set 1 rfl,a⟩
  ·obtain rfl:=ci ‹_›;refine iK ?_;rw [aM (by omega)];exact ⟨g.set 2 rfl,a⟩
  ·obtain rfl:=cG ‹_›;exact ⟨g.set 3 rfl,a⟩
  ·obtain rfl:=q ‹_›;refine rpG ?_;exact ⟨g.set 4 rfl,a⟩
  ·obtain rfl:=bU ‹_›;obtain rfl:=q ‹_›;refine rpG ?_;exact ⟨g.set 5 rfl,a⟩
  ·obtain rfl:=q ‹_›;obtain rfl:=cH ‹_›;refine rpG ?_;exact ⟨g.set 6 rfl,a⟩
  ·obtain rfl:=Z ‹_›;rw [bp] at a;refine aj a 1 rfl af (by simpa using j) rfl (by simpa using l) fun r a=>?_;exact ⟨g.set 7 trivial,a⟩
  ·obtain rfl:=cj ‹_›;exact ⟨g.set 8 rfl,a⟩
  obtain ⟨rfl,rfl,rfl,rfl,rfl,rfl,rfl,_,rfl,_⟩:=g.all;have nI:D 7=true:=by assumption
  clear g Z ci cG q bU cH cj cR dJ;rw [nI] at a;refine be a 1 af rfl (by simpa using j) ?_;have e:dt u=false:=by rw [dt,aM hc,jm]
  exact ⟨_,_,_,rfl,a.pick [false,false,true,false],hE,rfl,i,j,l,by rw [e];rfl,fun h=>by rw [e] at h;cases h⟩
theorem Mg {ts:List T} {S:ai} {v:Value} (h:RdSl S 4 (RdT S) v ts) (hc:∀ t∈ts,bR t<=4611686018427387904):ru SZ [v] S (.bool (ts.all bY)):=by
 intro w l;have m:=h.le;simp only [maxLen] at m;refine Em.2 ?_;dsimp only[Em,bd];refine ⟨fun i w'=>∃ k:Nat,k<=ts.length/\i=ee k/\(ts.drop k).all bY=ts.all bY/\Inv w [] [] S w',fun i _=>ts.length - (intOf i).toNat,⟨0,aT _,rfl,rfl,l⟩,?_⟩;intro i _ _ _ _ _ _ _ _ _ _ _ _ _ w';rintro ⟨k,hk,rfl,a,l⟩;refine aO h ao ?_;refine cd ?_;refine aJ (fun p=>?_) (fun p=>?_)
 ·have j:k<ts.length:=by omega
  have g:=zF bY ts k j;refine dj l h ao af j (fun _ _=>RdT.length) fun cs q=>?_;refine Run.callPure nG mN l (kV q (hc _ (cO j))) fun w' l=>?_;refine c8 ?_;refine aL (fun r=>done l ?_) (fun C=>?_)
  ·have o:bY ts[k]=false:=by simpa using r
   rw [<- a,g,o];rfl
  ·have B:bY ts[k]=true:=by simpa using C
   refine bL (by omega) ?_;exact ⟨⟨k+1,j,rfl,by rw [<- a,g,B];rfl,l⟩,by simp [intOf];omega⟩
 ·have:k=ts.length:=by omega
  subst this;exact done l (by rw [<- a,eL];rfl)
theorem FJ:∀ {us:List T},(∀ u∈us,wT u<=840)->wL us<=us.length * 840
 | [],_=>by simp [wL]
 | u::us,h=>by
  have g:=h u (bF ..);have i:=FJ (us:=us) fun x a=>h x (bI _ a);rw [wL,aP,ip];omega
theorem KY {N kp:Nat} {st:bb} {ts g:List T} (hl:g.length=ts.length) (a0:∀ i (h:i<g.length) (h':i<ts.length),FC N kp st ts[i] g[i]) (hw:∀ u∈g,(wT u:Int)+1<=7 * bR u) (a9:ts.length<=1200)
  {S:ai} {v:Value} {B:Nat} {C:Array Value} (h:RdSl S 4 (RdT S) v ts) (hk:KnU S C st) :
  nB PZ [v,kvU B N kp] [ei B C ac] S fun r I' S'=>I'=[ei B C ac]/\∃ u,r=.tuple #[u,.bool (g.all dt && (dP (cE g []) g).all bY)]/\((g.all dt && (dP (cE g []) g).all bY)=true->RdSl S' 4 (RdT S') u (dP (cE g []) g)):=by
 intro w a;obtain ⟨X,hX⟩:∃ X,X=cg [Item.blk B (.cells C ac)]:=⟨_,rfl⟩
 rw [<- hX] at a ⊢;refine Ce.2 ?_;dsimp only[Ce,bv];refine eZ a bi fun ve w' a=>?_;have a:Inv w X ([aB ve ac 4 []]++[ei B C ac]) S w':=a.perm (List.Perm.swap ..);refine ⟨fun i o w'=>∃ (j:Nat) (css:List (nA)) (S1:ai),j<=ts.length/\i=ee j/\Ext w.heap.size X S S1/\Rows 4 (RdT S1) css (g.take j)/\(g.take j).all dt=true/\Inv w X ([aB o ac 4 css]++[ei B C ac]) S1 w',
  fun i _ _=>ts.length - (intOf i).toNat,⟨0,[],S,aT _,rfl,Ext.refl _ _ _,Rows.nil _ _,rfl,a⟩,?_⟩
 clear a;intro i _ _ o _ _ _ _ _ _ _ _ _ _ _ _ _ _ _ _ _ _ _ _ _ _ _ w';rintro ⟨j,css,S1,hj,rfl,J,hR,l,a⟩;have a6:=hR.hc;rw [ig] at a6;refine aO (h.monoT J.1) ao ?_;refine cd ?_;refine aJ (fun a3=>?_) (fun a3=>?_)
 ·have D:j<ts.length:=by omega
  have q:j<g.length:=by omega
  refine dj a (h.monoT J.1) ao af D (fun _ _=>RdT.length) fun cs a4=>?_;refine Run.callE JR Jn a (P2 (kp:=kp) (a0 j q D) a4 (hk.mono J.1)) fun v' I' S2 w'=>?_;rintro ⟨rfl,cn,p,O,rfl,a1⟩ m a;refine aA (v:=.agg cn.toArray) rfl ?_;refine aA (v:=.bool (dt g[j])) rfl ?_;refine aE a aQ fun b8 w' a=>?_;refine aj a 2 rfl af (by simpa using p) rfl (by simpa using O) fun w' a=>?_;have a:Inv w X [aB o ac 4 css,ei B C ac,ei b8 cn.toArray ac] S2 w':=a;refine c8 ?_;cases G:dt g[j] with
  | false=>
   refine aL (fun _=>?_) (fun h=>by cases h);have a7:(g.all dt && (dP (cE g []) g).all bY)=false:=by
    rw [SH];refine .inl (L3.2 ⟨_,cO q,by rw [G];decide⟩)
   rw [a7];exact ⟨_,_,S2,rfl,a.pick [false,true],J.trans m,rfl,_,rfl,fun e=>by cases e⟩
  | true=>
   refine aL (fun h=>by cases h) (fun _=>?_);refine aq a 2 af rfl (by simpa using p) ?_;refine dB a 0 cn bi (by omega) (by omega) rfl p O (by omega) (by omega) fun v' w' a=>?_;refine bL (by omega) ?_;refine ⟨⟨j+1,css++[cn],S2,D,rfl,J.trans m,?_,?_,a.pick [true,true,false]⟩,by simp only [intOf,dH];omega⟩
   ·rw [gt q];exact (hR.monoR fun _ _=>RdT.mono m.1).snoc (a1 G) p
   ·rw [gt q,List.all_append,l];simp [G]
 have a8:j=g.length:=by omega
 rw [a8,g7] at hR l;have a:Inv w X ([ei B C ac]++[aB o ac 4 css]) S1 _:=a.perm (List.Perm.swap ..);obtain ⟨S2,m,U,a⟩:=a.lendExt;have Y:RdSl S2 4 (RdT S2) o g:=RowRd.rows (hR.monoR fun _ _ h=>h.mono m.1) U;have b0:=FJ (us:=g) fun u hu=>by
  have h1:=hw u hu;have h2:=fF.1 l u hu;rw [dt,bQ,bK] at h2;omega
 have b1:g.length * 840<=1200 * 840:=fK _ (by omega);refine Run.call0E C7 Di a (AM Y (by omega)) fun v2 I' S3 w'=>?_;rintro ⟨rfl,M,rfl,hT⟩ a2 a;obtain ⟨S4,a,a5,V⟩:=a.pubExt;have Z:=hT.rd V fun _ _ _ hi h=>h.rd hi;refine Run.callPure OJ Qm a (Mg Z fun t ht=>by
  have h1:=wj t;have h2:=ni ht;rw [yV] at h2;omega) fun w' a=>?_
 rw [l,fk];exact ⟨_,_,S4,rfl,a,((J.trans m).trans a2).trans a5,rfl,_,rfl,fun _=>Z⟩
end
end
section
open Go Go.RowKit
theorem DD {M:Nat} {code:List Ist}:∀ (n:Nat) {s:RI} {p:Nat} {ok:Bool} {out:List T},p<=(fE M code n s p ok out).2.1/\(fE M code n s p ok out).2.1<=max p code.length
 | 0,_,p,_,_=>⟨aY _,Nat.le_max_left _ _⟩
 | n+1,s,p,ok,out=>by
  rw [fE];split
  ·exact ⟨aY _,Nat.le_max_left _ _⟩
  split
  ·exact ⟨aY _,Nat.le_max_left _ _⟩
  ·rename_i x g
   have h:=(ie.1 g).1;split
   ·have:=DD (M:=M) (code:=code) n (s:=s) (p:=p+1) (ok:=ok) (out:=out++[eH x.a]);omega
   split
   ·have:=DD (M:=M) (code:=code) n (s:=(bG M s x.a).1) (p:=p+1) (ok:=ok && (bG M s x.a).2.2) (out:=out++[(bG M s x.a).2.1]);omega
   ·have:=DD (M:=M) (code:=code) n (s:=s) (p:=p+1) (ok:=false) (out:=out);omega
theorem mF {M:Nat} {s:RI} {k:Int} (h:(bG M s k).2.2=false):lE M s k=none:=by
 unfold bG at h;split at h
 ·cases h
 ·assumption
theorem Ew {M:Nat} {code:List Ist}:∀ (n:Nat) {s:RI} {p:Nat} {out:List T},g9 M s->p+n<=code.length->(fE M code n s p true out).2.2.1=false->we M s ((code.drop p).take n)=none
 | 0,s,p,out,_,_,h=>by cases h
 | n+1,s,p,out,hs,hl,he=>by
  have g:p<code.length:=by omega
  rw [fE,ae (by decide),me g] at he;rw [ef g,En,we];simp only at he;by_cases i:code[p].op=6
  ·rw [ag i] at he;rw [ag i,Ew n hs (by omega) he];rfl
  ·rw [ae i] at he;rw [ae i];by_cases j:code[p].op=4 ∨ code[p].op=5
   ·rw [ag j] at he;rw [ag j];cases l:(bG M s code[p].a).2.2 with
    | false=>rw [mF l];rfl
    | true=>
     rw [l,OS] at he;rw [(dT hs _ l).2.2.2,dq,Ew n (ic hs _) (by omega) he];rfl
   ·rw [ae j]
theorem pg {s:RI} {a b:T} {p:Nat}:uniW s a b p true=(⟨s.sl,s.ar,s.fr,(uniV s.st a b).2⟩,p,(uniV s.st a b).1):=by rw [uniW,ag rfl]
theorem LP {s:RI} {b:Int} {t:T} (h:(kl s b t).2=true):Ao s b t=some (kl s b t).1:=by
 unfold kl at h ⊢;split
 ·assumption
 ·rename_i e
  rw [e] at h;cases h
theorem Q3 {s:RI} {b:Int} {t:T} (h:(kl s b t).2=false):Ao s b t=none:=by
 unfold kl at h;split at h
 ·cases h
 ·assumption
theorem Rz {M:Nat} {s:RI} (h:g9 M s) {b:Int} {t:T} (a:okU s.fr t/\wB t):g9 M (kl s b t).1:=by
 unfold kl;split
 ·rename_i g e
  exact (KI h a e).1
 ·exact h
theorem KS {M:Nat} {s:RI} {a b:T} {p:Nat} {ok:Bool} (h:g9 M s) (i:ok=true->(okU s.fr a/\wB a)/\(okU s.fr b/\wB b)):g9 M (uniW s a b p ok).1/\(uniW s a b p ok).1.fr=s.fr/\(uniW s a b p ok).2.1=p:=by
 cases ok with
 | false=>rw [yP];exact ⟨h,rfl,rfl⟩
 | true=>
  obtain ⟨j,l⟩:=i rfl;rw [pg];have m:okJ (M+1) (.one a b):=⟨⟨cP h.ok.le a j.1,j.2⟩,⟨cP h.ok.le b l.1,l.2⟩⟩
  have g:=lN h.ok.good m;exact ⟨⟨⟨(g.good h.ok.good m).1,g.low h.ok.low ⟨j.1,l.1⟩,h.ok.le,h.ok.sl,h.ok.ar⟩,h.rng,h.cnt⟩,rfl,rfl⟩
theorem P0 {s:RI} {a b:T} {p:Nat}:(uniW s a b p true).2.2=true->unI s a b=some (uniW s a b p true).1:=fun h=>by
 rw [pg] at h ⊢;rw [unI,ag h]
theorem OO {s:RI} {a b:T} {p:Nat}:(uniW s a b p true).2.2=false->unI s a b=none:=fun h=>by
 rw [pg] at h;rw [unI,ae (by rw [show (uniV s.st a b).1=false from h];decide)]
theorem z8 {s:RI} {a b:T} {p:Nat} {ok:Bool} (h:(uniW s a b p ok).2.2=true):ok=true:=by
 cases ok with
 | true=>rfl
 | false=>rw [yP] at h;cases h
theorem VE {M:Nat} {code:List Ist} {s:RI} {p:Nat} {x:Ist} (h:g9 M s) (hn:x.name.size<=6) (hc:code.length<=1000000) (V:p<=code.length) :
  ((oneV M code s p x).2.2=true->g9 M (oneV M code s p x).1)/\p<=(oneV M code s p x).2.1/\(oneV M code s p x).2.1<=code.length/\
  ((oneV M code s p x).2.2=true->insS M s x ((code.drop p).take (iA x))=some (oneV M code s p x).1/\(oneV M code s p x).2.1=p+iA x/\p+iA x<=code.length)/\
  ((oneV M code s p x).2.2=false->p+iA x<=code.length->insS M s x ((code.drop p).take (iA x))=none):=by
 unfold oneV;by_cases m:x.op=2
 ·rw [ag m];have D:iA x=0:=by rw [iA,ae (by omega)]
  have j:=ic h x.b;have J:(bG M s x.b).2.2=true->(okU (bG M s x.b).1.fr (bG M s x.b).2.1/\wB (bG M s x.b).2.1)/\(okU (bG M s x.b).1.fr (eH x.a)/\wB (eH x.a)):=fun e=>⟨(dT h x.b e).1,g8 _ _⟩
  obtain ⟨Y,u2,G⟩:=KS (p:=p) j J;refine ⟨fun _=>Y,by rw [G];exact aY _,by rw [G];exact V,fun e=>?_,fun e _=>?_⟩
  ·have g:=z8 e;rw [insS,ae (by omega),ag m,(dT h x.b g).2.2.2,dq];rw [g] at e ⊢;exact ⟨P0 e,by rw [D,pg];rfl,by omega⟩
  ·rw [insS,ae (by omega),ag m];cases g:(bG M s x.b).2.2 with
   | false=>rw [mF g];rfl
   | true=>
    rw [g] at e;rw [(dT h x.b g).2.2.2,dq];exact OO e
 rw [ae m];by_cases o:x.op=1
 ·rw [ag o];have D:iA x=0:=by rw [iA,ae (by omega)]
  have j:=ic h x.b;have a1:=ic j x.a;have J:((bG M s x.b).2.2 && (bG M (bG M s x.b).1 x.a).2.2)=true->(okU (bG M (bG M s x.b).1 x.a).1.fr (bG M s x.b).2.1/\wB (bG M s x.b).2.1)/\(okU (bG M (bG M s x.b).1 x.a).1.fr (bG M (bG M s x.b).1 x.a).2.1/\wB (bG M (bG M s x.b).1 x.a).2.1):=fun e=>by
   rw [bQ] at e;have U:=dT h x.b e.1;have B:=dT j x.a e.2;exact ⟨⟨cP B.2.1 _ U.1.1,U.1.2⟩,B.1⟩
  obtain ⟨Y,u2,G⟩:=KS (p:=p) a1 J;refine ⟨fun _=>Y,by rw [G];exact aY _,by rw [G];exact V,fun e=>?_,fun e _=>?_⟩
  ·have g:=z8 e;rw [g] at e ⊢;rw [bQ] at g;rw [insS,ag o,(dT h x.b g.1).2.2.2,dq,(dT j x.a g.2).2.2.2,dq];exact ⟨P0 e,by rw [D,pg];rfl,by omega⟩
  ·rw [insS,ag o];cases g:(bG M s x.b).2.2 with
   | false=>rw [mF g];rfl
   | true=>
    rw [(dT h x.b g).2.2.2,dq];cases O:(bG M (bG M s x.b).1 x.a).2.2 with
    | false=>rw [mF O];rfl
    | true=>
     rw [g,O] at e;rw [(dT j x.a O).2.2.2,dq];exact OO e
 rw [ae o];by_cases r:x.op=3 ∨ x.op=7
 ·rw [ag r];have D:iA x=x.a.toNat:=by rw [iA,ag r]
  have j:=ic h x.b;obtain ⟨q,i⟩:∃ q,q=bG M s x.b:=⟨_,rfl⟩
  obtain ⟨l,C⟩:∃ l,l=fE M code x.a.toNat q.1 p q.2.2 []:=⟨_,rfl⟩
  rw [<- i] at j ⊢;rw [<- C];obtain ⟨Z,a3⟩:=r8 (code:=code) x.a.toNat (p:=p) (ok:=q.2.2) (out:=[]) j;have a0:=DD (M:=M) (code:=code) x.a.toNat (s:=q.1) (p:=p) (ok:=q.2.2) (out:=[]);rw [<- C] at Z a0;have N:l.2.2.1=true->q.2.2=true/\we M q.1 ((code.drop p).take x.a.toNat)=some (l.1,l.2.2.2)/\l.2.1=p+x.a.toNat/\p+x.a.toNat<=code.length/\(okU l.1.fr q.2.1/\wB q.2.1)/\(okU l.1.fr (fnT x.name l.2.2.2)/\wB (fnT x.name l.2.2.2)):=fun e=>by
   rw [C] at e ⊢;cases B:q.2.2 with
   | false=>rw [B,nP] at e;cases e
   | true=>
    rw [B] at e;obtain ⟨us,d1,d2,d3,d4⟩:=tI _ j e;obtain ⟨f1,f2,_,_,f5,f6⟩:=Gi _ j d1;have U:=dT h x.b (by rw [<- i];exact B);rw [<- i] at U;rw [d2,gW];refine ⟨rfl,d1,d3,by omega,⟨cP f2 _ U.1.1,U.1.2⟩,gT hn ?_ f6⟩;rw [f5,ig];omega
  obtain ⟨Y,u2,G⟩:=KS (p:=l.2.1) (a:=q.2.1) (b:=fnT x.name l.2.2.2) Z fun e=>(N e).2.2.2.2;refine ⟨fun _=>Y,by rw [G];exact a0.1,by rw [G];omega,fun e=>?_,fun e a2=>?_⟩
  ·have g:=z8 e;obtain ⟨g1,g2,g3,g4,_⟩:=N g;have g0:=dT h x.b (by rw [<- i];exact g1);rw [<- i] at g0;rw [insS,ae o,ae m,ag r,g0.2.2.2,dq,D,g2,dq];rw [g] at e ⊢;exact ⟨P0 e,by rw [pg];exact g3,g4⟩
  ·rw [insS,ae o,ae m,ag r];cases B:q.2.2 with
   | false=>rw [mF (by rw [<- i];exact B)];rfl
   | true=>
    have g0:=dT h x.b (by rw [<- i];exact B);rw [<- i] at g0;rw [g0.2.2.2,dq,D];cases g:l.2.2.1 with
    | false=>
     rw [C,B] at g;rw [Ew _ j (by omega) g];rfl
    | true=>
     rw [(N g).2.1,dq];rw [g] at e;exact OO e
 rw [ae r];have D:iA x=0:=by rw [iA,ae r]
 by_cases t:x.op=10
 ·rw [ag t];refine ⟨fun _=>Rz h (g8 _ _),aY _,V,fun e=>?_,fun e _=>?_⟩
  ·rw [insS,ae o,ae m,ae r,ae (by omega),ag t];exact ⟨LP e,by rw [D];rfl,by omega⟩
  ·rw [insS,ae o,ae m,ae r,ae (by omega),ag t];exact Q3 e
 rw [ae t];by_cases h8:x.op=8 ∨ x.op=9
 ·rw [ag h8];have j:=ic h x.a;refine ⟨fun e=>?_,aY _,V,fun e=>?_,fun e _=>?_⟩
  ·rw [bQ] at e;exact Rz j (dT h x.a e.1).1
  ·rw [bQ] at e;rw [insS,ae o,ae m,ae r,ag h8,(dT h x.a e.1).2.2.2,dq];exact ⟨LP e.2,by rw [D];rfl,by omega⟩
  ·rw [insS,ae o,ae m,ae r,ag h8];cases g:(bG M s x.a).2.2 with
   | false=>rw [mF g];rfl
   | true=>
    rw [g,fk] at e;rw [(dT h x.a g).2.2.2,dq];exact Q3 e
 rw [ae h8];refine ⟨fun _=>h,aY _,V,fun e=>(by cases e),fun _ _=>?_⟩;rw [insS,ae o,ae m,ae r,ae h8,ae t]
end
section
open Go Go.RowKit
theorem vP {vs:List Int}:∀ {ts:List T} {t:T},t∈ts->dE vs t∈dP vs ts
 | x::xs,t,h=>by
  rw [dP];rcases dK.1 h with rfl|h
  ·exact bF ..
  ·exact bI _ (vP h)
theorem VI {vs:List Int} {nm:ByteArray} {us:List T} (h:zT0∈us):bY (dE vs (fnT nm us))=false:=by
 rw [bA];intro a;have g:=(jI a).kids;have i:dE vs zT0∈(dE vs (fnT nm us)).kids:=vP h;have j:=(Nd g _ i).kind;have l:(dE vs zT0).kind=0:=rfl;omega
theorem Xj {N kp:Nat} {st:bb} (g:Good N st) {k:T} (h:k=zT0 ∨ (okU N k/\wB k)):∃ u,FC N kp st k u/\((wT u:Int)+1<=7 * bR u)/\(k.kind=0->u=zT0):=by
 rcases h with rfl|⟨a,m⟩
 ·exact ⟨zT0,XW,by decide,fun _=>rfl⟩
 ·obtain ⟨u,l⟩:=OK g k a;have i:(okU N k/\wB k)->FC N kp st k u:=zz g l;have j:okU N k->okU N u:=Dz g l;exact ⟨u,i ⟨a,m⟩,Fy u (j a),fun e=>absurd e a.kind⟩
theorem Vq {N kp:Nat} {st:bb} (j:Good N st):∀ ks:List T,(∀ k∈ks,k=zT0 ∨ (okU N k/\wB k))->∃ us:List T,us.length=ks.length/\(∀ i (h:i<us.length) (t:i<ks.length),FC N kp st ks[i] us[i])/\(wL us:Int)+us.length<=7 * bo us/\((∃ k∈ks,k.kind=0)->zT0∈us)
 | [],_=>⟨[],rfl,fun i h=>absurd h (Nat.not_lt_zero _),by decide,fun ⟨k,hk,_⟩=>(by cases hk)⟩
 | k::ks,h=>by
  obtain ⟨u,m,B,o⟩:=Xj (kp:=kp) j (h k (bF ..));obtain ⟨us,p,q,C,r⟩:=Vq j ks fun x a=>h x (bI _ a);refine ⟨u::us,by simp [p],fun i l g=>?_,?_,fun ⟨x,a,e⟩=>?_⟩
  ·cases i with
   | zero=>exact m
   | succ i=>exact q i (by simpa using l) (by simpa using g)
  ·rw [wL,bo,aP];omega
  ·rcases dK.1 a with rfl|a
   ·rw [o e];exact bF ..
   ·exact bI _ (r ⟨x,a,e⟩)
theorem Zg {N kp:Nat} {st:bb} (a:Good N st) {t:T} (g:gz N t):∃ u,FC N kp st t u/\((wT u:Int)+1<=7 * bR u)/\((∃ k∈t.kids,k.kind=0)->∀ vs,bY (dE vs u)=false):=by
 obtain ⟨nm,ks,rfl,m,o,h⟩:=g;obtain ⟨us,i,j,p,l⟩:=Vq (kp:=kp) a ks h;refine ⟨fnT nm us,V6 i (by omega) j,?_,fun hk vs=>VI (l hk)⟩;rw [fnT,wT,bR];omega
theorem TC {N kp:Nat} {st:bb} (j:Good N st):∀ ts:List T,(∀ t∈ts,gz N t)->∃ us:List T,us.length=ts.length/\(∀ i (h:i<us.length) (M:i<ts.length),FC N kp st ts[i] us[i])/\(∀ u∈us,(wT u:Int)+1<=7 * bR u)/\((∃ t∈ts,∃ k∈t.kids,k.kind=0)->∃ u∈us,∀ vs,bY (dE vs u)=false)
 | [],_=>⟨[],rfl,fun i h=>absurd h (Nat.not_lt_zero _),fun u l=>(by cases l),fun ⟨k,hk,_⟩=>(by cases hk)⟩
 | t::ts,h=>by
  obtain ⟨u,o,p,q⟩:=Zg (kp:=kp) j (h t (bF ..));obtain ⟨us,r,B,C,D⟩:=TC j ts fun x a=>h x (bI _ a);refine ⟨u::us,by simp [r],fun i m g=>?_,fun x a=>?_,fun ⟨x,a,e⟩=>?_⟩
  ·cases i with
   | zero=>exact o
   | succ i=>exact B i (by simpa using m) (by simpa using g)
  ·rcases dK.1 a with rfl|a
   ·exact p
   ·exact C x a
  ·rcases dK.1 a with rfl|a
   ·exact ⟨u,bF ..,q e⟩
   ·obtain ⟨y,G,J⟩:=D ⟨x,a,e⟩;exact ⟨y,bI _ G,J⟩
def Yf (N:Nat) (st:bb) (ts out rs:List T):Prop:=(noZ out=true/\rs=resV st ts/\cM N rs) ∨ (noZ out=false/\∃ u∈rs,∀ vs,bY (dE vs u)=false)
theorem Yr {M kp:Nat} {s:RI} {nm:ByteArray} {j:Nat} {out:List T} (Y:g9 M s) (hj:j<=4) (hM:4<=M) (B:nm.size<=6) (C:∀ t∈out,gz s.fr t) :
  ∃ q:List T,q.length=(eI nm j::out).length/\(∀ i (h:i<q.length) (h':i<(eI nm j::out).length),FC (M+1) kp s.st (eI nm j::out)[i] q[i])/\(∀ u∈q,(wT u:Int)+1<=7 * bR u)/\Yf (M+1) s.st (eI nm j::out) out q:=by
 have m:=Y.ok.good;have g:∀ t∈out,gz (M+1) t:=fun t a=>(C t a).le Y.ok.le;have hh:=pm (N:=M+1) (n:=j) (by omega) B (by omega);cases r:noZ out with
 | true=>
  have o:∀ t∈eI nm j::out,okU (M+1) t/\wB t:=fun t a=>by
   rcases dK.1 a with rfl|a
   ·exact hh
   ·exact Xe g r t a
  have p:cM (M+1) (eI nm j::out):=ix fun t a=>(o t a).1;have l:=pi m p;have U:(∀ t∈eI nm j::out,okU (M+1) t/\wB t)->(resV s.st (eI nm j::out)).length=(eI nm j::out).length/\∀ i (h:i<(resV s.st (eI nm j::out)).length) (h':i<(eI nm j::out).length),FC (M+1) kp s.st (eI nm j::out)[i] (resV s.st (eI nm j::out))[i]:=zz m l;have V:cM (M+1) (eI nm j::out)->cM (M+1) (resV s.st (eI nm j::out))/\(resV s.st (eI nm j::out)).length=(eI nm j::out).length:=Dz m l;obtain ⟨J,O⟩:=U o;obtain ⟨Z,_⟩:=V p;exact ⟨_,J,O,fun u hu=>Fy u (iQ Z u hu),.inl ⟨r,rfl,Z⟩⟩
 | false=>
  obtain ⟨u,J,O,_⟩:=Xj (kp:=kp) m (.inr hh);obtain ⟨us,g1,g2,g3,g4⟩:=TC (kp:=kp) m out g;refine ⟨u::us,by simp [g1],fun i hi D=>?_,fun x G=>?_,.inr ⟨r,?_⟩⟩
  ·cases i with
   | zero=>exact J
   | succ i=>exact g2 i (by simpa using hi) (by simpa using D)
  ·rcases dK.1 G with rfl|G
   ·exact O
   ·exact g3 x G
  ·obtain ⟨t,a,e⟩:=L3.1 r;obtain ⟨k,hk,e2⟩:=L3.1 (bA.2 e);obtain ⟨y,hy,e3⟩:=g4 ⟨t,a,k,hk,by simpa using e2⟩;exact ⟨y,bI _ hy,e3⟩
def lV (rs:List T):Bool:=rs.all dt && (dP (cE rs []) rs).all bY
theorem PI {ts:List T} (h:aZ (ofL ts)=true):ts.all bY=true:=by
 cases ts with
 | nil=>rfl
 | cons t ts=>
  rw [aZ] at h;simp only [bQ,fF,bK] at h;rw [fF];intro x a;rcases dK.1 a with rfl|a
  ·exact h.2.2.1
  ·have:=h.2.1 x a;rw [fa,bQ] at this;exact this.1
theorem U1 {code:List Ist} {nm:ByteArray} {j N:Nat} {s:RI} {out a:List T} (h:Yf N s.st (eI nm j::out) out a) :
  finS code nm j s out=if lV a=true/\aZ (ofL (dP (cE a []) a))=true/\dV (ofL (dP (cE a []) a))=code then some (ofL (dP (cE a []) a)) else none:=by
 rcases h with ⟨o,G,p⟩|⟨o,u,J,M⟩
 ·have l:=qp a [] p;have r:(cE a []).Nodup:=by rw [l];exact lK _ _ Az
  have t:inL (cE a []) a:=by rw [l];exact pO _ _
  have i:nt a=dP (cE a []) a:=by rw [nt,<- l];exact D2 _ r a p t
  rw [finS,<- G,i];by_cases hc:aZ (ofL (dP (cE a []) a))=true
  ·have B:=PI hc;have e:lV a=a.all dt:=by rw [lV,B,OS]
   rw [e];by_cases g:a.all dt=true/\dV (ofL (dP (cE a []) a))=code
   ·rw [ag ⟨o,g.1,hc,g.2⟩,ag ⟨g.1,hc,g.2⟩]
   ·rw [ae fun q=>g ⟨q.2.1,q.2.2.2⟩,ae fun q=>g ⟨q.1,q.2.2⟩]
  ·rw [ae fun q=>hc q.2.2.1,ae fun q=>hc q.2.1]
 ·have m:lV a=false:=by
   rw [lV,SH];exact .inr (L3.2 ⟨_,vP J,by rw [M];decide⟩)
  have C:¬ noZ out=true:=by rw [o];decide
  have D:¬ lV a=true:=by rw [m];decide
  rw [finS,ae fun q=>C q.1,ae fun q=>D q.1]
theorem Wt {a:List T} {h:T} {g:List T} (o:∀ u∈a,(wT u:Int)+1<=7 * bR u) (j:lV a=true) (r:a.length<=1200) (e:dP (cE a []) a=h::g):wC ⟨h,g⟩<=1048576:=by
 rw [lV,bQ] at j;have p:=FJ (us:=a) fun u l=>by
  have m:=o u l;have i:=fF.1 j.1 u l;rw [dt,bQ,bK] at i;omega
 have q:a.length * 840<=1200 * 840:=fK _ (by omega);have m:wL (h::g)=wL a:=by rw [<- e,yV]
 have i:(h::g).length=a.length:=by rw [<- e,kP]
 rw [wL] at m;rw [aP] at i;rw [wC];show wT h+g.length+wL g<=_;omega
section
variable {w:World} {S:ai}
theorem Ho {l m:List Ist} {u v:Value} (h:RdSl S 4 (cZ S) u l) (g:RdSl S 4 (cZ S) v m):ru LU [u,v] S (.bool (decide (l=m))):=by
 intro w p;have J:=h.le;simp only [maxLen] at J;refine ye.2 ?_;dsimp only[ye,bv];refine aO h bx ?_;refine aO g bx ?_;refine jN ?_;refine aL (fun r=>?_) (fun r=>?_)
 ·exact done p (by rw [aM (fun e=>by rw [e] at r;simp at r)])
 have Y:l.length=m.length:=by
  have:(l.length:Int)=(m.length:Int):=by simpa using r
  omega
 refine ⟨fun i w'=>∃ k:Nat,k<=l.length/\i=ee k/\l.take k=m.take k/\Inv w [] [] S w',fun i _=>l.length - (intOf i).toNat,⟨0,aT _,rfl,rfl,p⟩,?_⟩;intro i _ _ _ a2 a3 a4 a5 a6 a7 a8 a9 b0 _ _ _ _ w';rintro ⟨k,hk,rfl,M,p⟩;refine aO h bx ?_;refine cd ?_;refine aJ (fun N=>?_) (fun N=>?_)
 rotate_left
 ·have e:k=l.length:=by omega
  subst e;rw [g7,Y,g7] at M;exact done p (by rw [aD M])
 have q:k<l.length:=by omega
 have B:k<m.length:=by omega
 obtain ⟨b,o,cap,c,E,fz,rfl,hS,hR⟩:=h.at_ q;have Z:bJ c (o+k * 4) 4=l[k].cells:=hR;obtain ⟨b2,U,G,c2,E2,b1,rfl,V,t⟩:=g.at_ B;have t:bJ c2 (U+k * 4) 4=m[k].cells:=t;refine ⟨fun D ja oO rj pr oM lT mY oX lS w_=>Fx D 0 [lS=kt b o l.length cap,oX=ee k,mY=kh b (o+k * 4),lT=.agg l[k].cells.toArray,oM=kt b2 U m.length G,pr=ee k,rj=kh b2 (U+k * 4),oO=.agg m[k].cells.toArray,ja=.bool (!decide (l[k]=m[k]))]/\Inv w [] [] S w_,⟨Fx.nil _ _,p.draw⟩,⟨?_,?_,?_,?_,?_,?_,?_,?_,?_,trivial⟩,?_⟩;all_goals (intro D bp;intros;rename_i ja oO rj pr oM lT mY oX lS w_ C;have a:=C.1;obtain ⟨⟨cF,ci,cG,cD,bU,cH,cj,cR,dJ,_⟩,p⟩:=C)
 ·exact ⟨a.set 0 rfl,p⟩
 ·exact ⟨a.set 1 rfl,p⟩
 ·obtain rfl:=cF ‹_›;obtain rfl:=ci ‹_›;refine aN bx q ?_;exact ⟨a.set 2 rfl,p⟩
 ·obtain rfl:=cG ‹_›;refine eE (cs:=l[k].cells) dF rfl (fun j v O=>by rw [p.cellS hS];exact bf Z j v O) ?_;exact ⟨a.set 3 rfl,p⟩
 ·exact ⟨a.set 4 rfl,p⟩
 ·exact ⟨a.set 5 rfl,p⟩
 ·obtain rfl:=bU ‹_›;obtain rfl:=cH ‹_›;refine aN bx B ?_;exact ⟨a.set 6 rfl,p⟩
 ·obtain rfl:=cj ‹_›;refine eE (cs:=m[k].cells) dF rfl (fun j v O=>by rw [p.cellS V];exact bf t j v O) ?_;exact ⟨a.set 7 rfl,p⟩
 ·obtain rfl:=cD ‹_›;obtain rfl:=cR ‹_›;refine Run.of (IF _ _) ?_;exact ⟨a.set 8 rfl,p⟩
 obtain ⟨rfl,rfl,rfl,rfl,rfl,rfl,rfl,rfl,rfl,_⟩:=a.all;clear a cF ci cG cD bU cH cj cR dJ;refine aL (fun r=>?_) (fun r=>?_)
 ·have a0:¬ l[k]=m[k]:=by simpa using r
  refine done p ?_;rw [aM];intro e;subst e;exact a0 rfl
 ·have a1:l[k]=m[k]:=by simpa using r
  refine bL (by omega) ?_;exact ⟨⟨k+1,q,rfl,by rw [gt q,gt B,M,a1],p⟩,by simp [intOf];omega⟩
end
end
end Go.Proofs.YtjbcdmheajljpaaGreat

/- spec.l1Draw, l4Clause: what is drawn is valid. -/
import Derived.Test.YtjbcdmheajljpaaGreatZRdA
import Derived.Test.YtjbcdmheajljpaaGreatZRd6
namespace Go.Proofs.YtjbcdmheajljpaaGreat
attribute [local irreducible] Run CondV aI bg
section
open Go Go.RowKit
mutual
theorem zS:∀ (t:T) {d e:Int},d<=e->dC t d=true->dC t e=true
 | .mk k n s ks,d,e,h,hs=>by
  rw [dC] at hs ⊢;by_cases a:d<1
  ·rw [ag a] at hs; cases hs
  rw [ae a,bQ] at hs;rw [ae (by omega),bQ];exact ⟨hs.1,H1 ks (by omega) hs.2⟩
theorem H1:∀ (ts:List T) {d e:Int},d<=e->de ts d=true->de ts e=true
 | [],_,_,_,_=>by rw [de]
 | t::ts,d,e,h,hs=>by
  rw [de,bQ] at hs ⊢;exact ⟨zS t h hs.1,H1 ts h hs.2⟩
end
theorem Gq {d:Int}:∀ {ts:List T},(∀ t∈ts,dC t d=true)->de ts d=true
 | [],_=>by rw [de]
 | t::ts,h=>by
  rw [de,bQ];exact ⟨h t (bF ..),Gq fun x a=>h x (bI _ a)⟩
def okD (e:Nat) (t:T):Prop:=dC t ((e:Int)+1)=true
theorem Jt {e:Nat} {k n:Int} {s:ByteArray} (h:fR (.mk k n s [])=true):okD e (.mk k n s []):=by
 rw [okD,dC,ae (by omega),h,de];rfl
theorem ID {s:ByteArray} {ts:List T} (a:fw s=true) (g:ts.length<=4):fR (.mk 3 0 s ts)=true:=by
 rw [fR,ae (show ¬ (T.mk 3 0 s ts).kind=1 from (by decide:¬ (3:Int)=1)),ae (show ¬ (T.mk 3 0 s ts).kind=2 from (by decide:¬ (3:Int)=2)),ag (show (T.mk 3 0 s ts).kind=3 from rfl)];show (decide ((0:Int)=0) && (fw s && decide (ts.length<=4)))=true;rw [a,aD g];rfl
theorem Wz {e:Nat} {n:Int} (h:0<=n/\n<26):okD e (.mk 1 n emptyB []):=Jt (by
 rw [fR,ag (show (T.mk 1 n emptyB []).kind=1 from rfl)];show (decide (0<=n) && (decide (n<=25) && (decide (emptyB=emptyB) && decide (([]:List T).length=0))))=true;rw [aD h.1,aD (show n<=25 by omega),aD rfl];rfl)
theorem V1 {e:Nat} {n:Int} (h:-999<=n/\n<=999):okD e (.mk 2 n emptyB []):=Jt (by
 rw [fR,ae (show ¬ (T.mk 2 n emptyB []).kind=1 from (by decide:¬ (2:Int)=1)),ag (show (T.mk 2 n emptyB []).kind=2 from rfl)];show (decide (-999<=n) && (decide (n<=999) && (decide (emptyB=emptyB) && decide (([]:List T).length=0))))=true;rw [aD h.1,aD h.2,aD rfl];rfl)
theorem VU {e:Nat} {s:ByteArray} (a:fw s=true):okD e (.mk 3 0 s []):=Jt (ID a (aT _))
theorem Lc {e:Nat} {s:ByteArray} {ts:List T} (a:fw s=true) (g:ts.length<=4) (h:∀ t∈ts,okD e t):okD (e+1) (.mk 3 0 s ts):=by
 have i:de ts ((e:Int)+1)=true:=Gq h;rw [okD,dC,ae (by omega),ID a g,show (((e+1:Nat):Int)+1 - 1)=(e:Int)+1 by omega,i];rfl
theorem RM {e:Nat} {s:ByteArray} {t u:T} (g:fw s=true) (h:okD e t) (i:okD e u):okD (e+1) (.mk 3 0 s [t,u]):=Lc g (by simp) fun x a=>by
 simp only [dK,vR,vY] at a;rcases a with rfl|rfl
 ·exact h
 ·exact i
theorem Rx {l:List ByteArray} {s:ByteArray} (a:s∈l) (h:l.all fw=true):fw s=true:=fF.1 h s a
theorem MO {α:Type} {P:α->Prop} {ts:List α} {t:α} (h:∀ y∈ts,P y) (g:P t):∀ y∈ts++[t],P y:=fun y a=>by
 rcases cU.1 a with a|a
 ·exact h y a
 ·rw [bM.1 a];exact g
def gn3 (s:ByteArray):Bool:=decide (s.size<=3) && (fw s && ((mf s && (!gJ s 2 && decide (dA s=0))) || gJ s 2))
def hn1 (s:ByteArray):Bool:=fw s && (mf s && (!gJ s 1 && decide (dA s=0)))
theorem X3 {l:List ByteArray} {s:ByteArray} (a:s∈l) (h:l.all gn3=true):gn3 s=true:=fF.1 h s a
theorem Xq {l:List ByteArray} {s:ByteArray} (a:s∈l) (h:l.all hn1=true):hn1 s=true:=fF.1 h s a
theorem Wy {s:ByteArray} (h:gn3 s=true):s.size<=3:=by
 rw [gn3,bQ,bK] at h;exact h.1
theorem OU {s:ByteArray} {t u:T} (a:gn3 s=true) (h:okD 2 t/\okD 2 u) (j:wT t+3<=54) (l:wT u+3<=54):fa (.mk 3 0 s [t,u])=true:=by
 rw [gn3,bQ,bQ] at a;have g:=RM a.2.1 h.1 h.2;have m:=wj t;have o:=wj u;have i:bY (.mk 3 0 s [t,u])=true:=by
  rw [bY,bQ,bK];refine ⟨zS _ (by decide) g,?_⟩;simp only [bR,bo];omega
 rw [fa,i,fk,na];exact .inr a.2.2
theorem JF {s:ByteArray} {t:T} {ks:List T} (a:hn1 s=true) (h:okD 2 t) (o:wT t+3<=54) (g:ks.length<=6) (hk:∀ y∈ks,fa y=true):aZ ⟨.mk 3 0 s [t],ks⟩=true:=by
 rw [hn1,bQ] at a;have j:okD 3 (.mk 3 0 s [t]):=Lc a.1 (by simp) fun x i=>by
  rw [bM.1 i];exact h
 have p:=wj t;have l:bY (.mk 3 0 s [t])=true:=by
  rw [bY,bQ,bK];refine ⟨zS _ (by decide) j,?_⟩;simp only [bR,bo];omega
 have m:hH (.mk 3 0 s [t])=true:=a.2;rw [aZ];show (decide (ks.length<=6) && (ks.all fa && (bY (.mk 3 0 s [t]) && hH (.mk 3 0 s [t]))))=true;rw [l,m,aD g,fF.2 hk];rfl
section
variable {br:Nat} {sl:Value} {ys:List Nat}
abbrev Xr (br:Nat) (sl:Value) (p d:Nat):Value->List Item->ai->Prop:=fun v I' S'=>∃ p',p'+2<=p+dW d/\I'=[rdI br sl p']/\∃ cs t,v=.agg cs.toArray/\RdT S' cs t/\wT t+3<=dW d/\okD d t
abbrev Ya (br:Nat) (sl:Value) (p k m:Nat):Value->List Item->ai->Prop:=fun v I' S'=>∃ p',p'<=p+k/\I'=[rdI br sl p']/\∃ cs c,v=.agg cs.toArray/\RdC S' cs c/\wC c<=m/\aZ c=true
abbrev KJ (br:Nat) (sl:Value) (ys:List Nat) (d:Nat):Prop:=∀ (p:Nat) (S:ai),RdSl S 1 lY sl ys->p+3 * dW d<=1000000000->Tri Tryz.prog D7 [rdP br,ee (d:Int)] [rdI br sl p] S (Xr br sl p d)
theorem Fc {d:Nat} (d3:d<=4) (ih:∀ O,O+1=d->KJ br sl ys O):KJ br sl ys d:=by
 intro p S M hp w g;have hW:=K0 d;refine oa.2 ?_;dsimp only[oa,bv];refine aE g aQ fun b4 w' g=>?_;have g:Inv w [br] [ei b4 et ac,rdI br sl p] S w':=g.last 0 rfl;refine ⟨fun v w'=>∃ (c:Bool) (p1:Nat),v=.bool c/\p1<=p+1/\(c=false->2<=d)/\Inv w [br] [ei b4 et ac,rdI br sl p1] S w',?_,?_⟩
 ·refine cd ?_;by_cases hd:(d:Int)<2
  ·rw [aD hd];refine rpG ?_;exact ⟨true,p,rfl,by omega,(fun h=>by cases h),g⟩
  ·rw [aM hd];refine rpG ?_;refine Run.callL bW bX g (dD (n:=4) M (by omega) (by omega)) rfl fun v' I' S' w'=>?_;rintro ⟨rfl,rfl,k,hk,rfl⟩ _ g;refine a9 ?_;refine rpG ?_;exact ⟨_,p+1,rfl,by omega,fun _=>by omega,g⟩
 intro d4 _ _ _ _ _ _ w';rintro ⟨c,p1,rfl,d6,c7,g⟩;refine aL (fun _=>?_) (fun hc=>?_)
 ·refine Run.callL bW bX g (dD (n:=4) M (by omega) (by omega)) rfl fun v' I' S' w'=>?_;rintro ⟨rfl,rfl,k,hk,rfl⟩ _ g;have g:Inv w [br] [ei b4 et ac,rdI br sl (p1+1)] S' w':=g;refine a9 ?_;refine aJ (fun _=>?_) (fun _=>?_)
  ·refine Run.callL bW bX g (dD (n:=4) M (by omega) (by omega)) rfl fun v' I' S1 w'=>?_;rintro ⟨rfl,rfl,k,hk,rfl⟩ _ g;refine Run.callPure qM qh g (lo k S1) fun w' g=>?_;refine aj g 0 rfl af rfl rfl (by simp [Value.oneCell']) fun w' g=>?_;refine be g 0 af rfl rfl ?_;exact ⟨_,_,S1,rfl,g.pick [false,true],Ext.refl _ _ _,p1+2,by omega,rfl,_,_,rfl,pf (by simp [inI]) (by simp only [inI];omega),by have e:emptyB.size=0:=rfl;simp only [wT,wL,ce,e];omega,Wz (by omega)⟩
  refine a9 ?_;refine aJ (fun _=>?_) (fun _=>?_)
  ·refine nq g (by kernel_rfl) rfl (by omega) fun v S1 w' B hv g=>?_;refine Run.callL er eo g (gG (p:=p1+1) (M.monoU B.1) hv (by decide) (by omega)) rfl fun v' I' S2 w'=>?_;rintro ⟨rfl,rfl,n,hn,rfl⟩ _ g;have hn:=li (a:=-999) (b:=999) hn (by decide);refine Run.callPure jy jG g (gv n S2) fun w' g=>?_;refine aj g 0 rfl af rfl rfl (by simp [Value.oneCell']) fun w' g=>?_;refine be g 0 af rfl rfl ?_;exact ⟨_,_,S2,rfl,g.pick [false,true],B,p1+2,by omega,rfl,_,_,rfl,pf (by simp [inI]) (by simp only [inI];omega),by have e:emptyB.size=0:=rfl;simp only [wT,wL,ce,e];omega,V1 (by omega)⟩
  ·refine oF g (by kernel_rfl) rfl (by omega) fun v S1 w' B hv g=>?_;refine Run.callL fG fH g (ko (p:=p1+1) (M.monoU B.1) hv (by decide) (by omega)) rfl fun v' I' S2 w'=>?_;rintro ⟨rfl,rfl,s,hs,rfl⟩ _ g;have b6:=Rx hs (by decide +kernel);have hs:=n8 (m:=3) hs (by decide);refine Run.call0E dl dr g (eF s (by simp only [maxLen];omega) (ll S2) (by simp)) fun v' I' S3 w'=>?_;rintro ⟨rfl,cs,rfl,l⟩ Z g;refine aj g 0 rfl af (by simpa using l.length) rfl (by simpa using l.one) fun w' g=>?_;refine be g 0 af rfl (by simpa using l.length) ?_;exact ⟨_,_,S3,rfl,g.pick [false,true],B.trans Z,p1+2,by omega,rfl,_,_,rfl,l,by simp only [wT,wL,ce];omega,VU b6⟩
 obtain ⟨O,rfl⟩:∃ O,d=O+1:=⟨d - 1,by have:=c7 hc;omega⟩
 have ih:=ih O rfl;have hD:=K0 O;have f3:=Q9 O;have h3:dW O<=486:=by
  have:3 ^ O<=3 ^ 4:=JT (by omega) (by omega);simp only [dW];omega
 refine Run.callL bW bX g (dD (n:=3) M (by omega) (by omega)) rfl fun v' I' S w'=>?_;rintro ⟨rfl,rfl,k,hk,rfl⟩ _ g;refine a9 ?_;refine aJ (fun _=>?_) (fun _=>?_)
 ·refine pZ (by omega) ?_;refine Run.callL fX fW g (ih (p1+1) S M (by omega)) rfl fun v' I' S1 w'=>?_;rintro ⟨p2,b0,rfl,d7,t1,rfl,a6,d9,c8⟩ B g;refine pZ (by omega) ?_;refine Run.callL fX fW g (ih p2 S1 (M.monoU B.1) (by omega)) rfl fun v' I' S2 w'=>?_;rintro ⟨p3,b1,rfl,e0,t2,rfl,b7,e1,c9⟩ b8 g;have a6:=RdT.mono b8.1 a6;obtain ⟨f1,rfl,_,_,_,a1,q1,rfl,_⟩:=RdT.iff.1 a6;obtain ⟨f2,rfl,_,_,_,a2,q2,rfl,_⟩:=RdT.iff.1 b7;refine oK (v:=fun b=>.slice (some ⟨b,0,none⟩) 2 2) (o:=.cells #[ee t1.kind,ee t1.n,.string t1.name,.slice a1 t1.kids.length q1,ee t2.kind,ee t2.n,.string t2.name,.slice a2 t2.kids.length q2] ac) g (by kernel_rfl) fun b w' g=>?_;have g:Inv w [br] ([ei b4 et ac,rdI br sl p3]++[_]) S2 w':=g;obtain ⟨S3,g,Z,U⟩:=g.pub1;refine Run.call0E dl dr g (eF ⟨#[46]⟩ (by decide) (EV U (a6.mono Z.1) (b7.mono Z.1)) (by simp)) fun v' I' S4 w'=>?_;rintro ⟨rfl,cs,rfl,l⟩ a5 g;refine aj g 0 rfl af (by simpa using l.length) rfl (by simpa using l.one) fun w' g=>?_;refine be g 0 af rfl (by simpa using l.length) ?_;refine ⟨_,_,S4,rfl,g.pick [false,true],(B.trans b8).trans (Z.trans a5),p3,by omega,rfl,_,_,rfl,l,?_,RM (by decide +kernel) c8 c9⟩;have e:(ByteArray.mk #[46]).size=1:=rfl;simp only [wT,wL,aP,ce,e];omega
 ·refine oF g (by kernel_rfl) rfl (by omega) fun v S1 w' B hv g=>?_;refine Run.callL fG fH g (ko (p:=p1+1) (M.monoU B.1) hv (by decide) (by omega)) rfl fun v' I' S2 w'=>?_;rintro ⟨rfl,rfl,s,hs,rfl⟩ _ g;have b6:=Rx hs (by decide +kernel);have hs:=n8 (m:=3) hs (by decide);refine Run.call0E dl dr g (pY s (ll S2) (by simp)) fun v' I' S3 w'=>?_;rintro ⟨rfl,kv0,a7,rfl,rfl,d0⟩ Z g;refine aE g aQ fun b5 w' g=>?_;obtain ⟨a0,n0,q0,rfl⟩:=g.rowSlice 2 rfl;refine aj g 3 rfl af rfl rfl (by simp [Value.oneCell']) fun w' g=>?_;obtain ⟨B4,c3⟩:∃ B4,B4=Item.blk b4 (.cells et ac):=⟨_,rfl⟩
  have g:Inv w [br] [ei b5 #[ee 3,ee 0,.string s,.slice a0 n0 q0] ac,aB (.slice a0 n0 q0) ac 4 a7,B4,rdI br sl (p1+2)] S3 w':=by
   rw [c3];exact ((g.last 2 rfl).last 0 rfl).last 0 rfl
  refine nq g (by kernel_rfl) rfl (by omega) fun v S4 w' a5 hv g=>?_;refine Run.callL er eo g (gG (p:=p1+2) (M.monoU ((B.trans Z).trans a5).1) hv (by decide) (by omega)) rfl fun v' I' S5 w'=>?_;rintro ⟨rfl,rfl,n,hn,rfl⟩ _ g;have hn:=li (a:=1) (b:=3) hn (by decide);have d2:Ext w.heap.size [br] S S5:=(B.trans Z).trans a5;refine ⟨fun t w'=>∃ (j p2:Nat) (S6:ai) (kv:Value) (css:List (nA)) (ts:List T),(∀ y∈ts,okD O y)/\t=ee (j:Int)/\ts.length+j<=3/\Rows 4 (RdT S6) css ts/\wL ts+3 * ts.length<=ts.length * dW O/\p2+2 * ts.length<=p1+3+ts.length * dW O/\Ext w.heap.size [br] S S6/\
   Inv w [br] [ei b5 #[ee 3,ee 0,.string s,kv] ac,aB kv ac 4 css,B4,rdI br sl p2] S6 w',fun t _=>(intOf t).toNat,
   ⟨n.toNat,p1+3,S5,_,a7,[],fun y hy=>(by cases hy),by rw [pw (by omega)],by simp;omega,d0.monoR fun _ _ h=>RdT.mono a5.1 h,by simp [wL],by simp,d2,g⟩,?_⟩
  intro t6 _ _ e2 e3 e4 e5 e6 e7 e8 e9 f0 _ _ w';rintro ⟨j,p2,S6,kv,css,ts,b9,rfl,hj,hR,a8,b0,b2,g⟩;have f4:=hR.hc;have hm:ts.length * dW O<=3 * dW O:=fK _ (by omega);refine fL ?_;refine aJ (fun d1=>?_) (fun d1=>?_)
  ·obtain ⟨j',rfl⟩:∃ j',j=j'+1:=⟨j - 1,by omega⟩
   refine ⟨fun D zh yD uL tq sT qU tw pW qN w_=>Fx D 0 [qN=kh b5 3,pW=kv,tw=rdP br,qU=ee ((O+1:Nat):Int),sT=ee (O:Int),True,True,True,zh=kh b5 3,True]/\∃ Y:Nat,Y<=4/\D 5=decide (1<=Y)/\D 6=decide (2<=Y)/\D 7=decide (3<=Y)/\D 9=decide (4<=Y)/\(D 9=true->D 1=true)/\(l0 (Inv w [br] [ei b5 #[ee 3,ee 0,.string s,kv] ac,aB kv ac 4 css,B4,rdI br sl p2] S6 w_) (wV w [br] b5 #[ee 3,ee 0,.string s,kv] 3 ac kv css (fun p=>[B4,rdI br sl p]) (fun cs p' S'=>∃ t,okD O t/\RdT S' cs t/\wT t+3<=dW O/\p'+2<=p2+dW O/\Ext w.heap.size [br] S6 S') tq uL yD w_) Y),⟨Fx.nil _ _,⟨0,aT _,rfl,rfl,rfl,rfl,(aU),g.draw⟩⟩,⟨?_,?_,?_,?_,?_,?_,?_,?_,?_,?_,trivial⟩,?_⟩;all_goals (intro D bp;intros;rename_i zh yD uL tq sT qU tw pW qN w_ c1;have N:=c1.1;obtain ⟨⟨cF,ci,cG,cD,bU,cH,cj,cR,dJ,dQ,_⟩,⟨Y,a4,C,G,J,r,V,U⟩⟩:=c1)
   ·refine ax az ?_;exact ⟨N.set 0 rfl,⟨Y,a4,C,G,J,r,V,U⟩⟩
   ·obtain rfl:=cF ‹_›;have c5:=MC r V bp;refine eD aw ((Kz (fun h=>h.cellL (i:=0) rfl) (fun n hn h=>Am h hn) U c5).trans rfl) ?_;exact ⟨N.set 1 rfl,⟨Y,a4,C,G,J,r,(fun _=>rfl),U⟩⟩
   ·exact ⟨N.set 2 rfl,⟨Y,a4,C,G,J,r,V,U⟩⟩
   ·exact ⟨N.set 3 rfl,⟨Y,a4,C,G,J,r,V,U⟩⟩
   ·obtain rfl:=cD ‹_›;refine pZ (by omega) ?_;exact ⟨N.set 4 rfl,⟨Y,a4,C,G,J,r,V,U⟩⟩
   ·obtain rfl:=cG ‹_›;obtain rfl:=bU ‹_›;obtain rfl:Y=0:=jv C bp;refine Run.callL fX fW (L:=[.blk b5 _,aB _ ac 4 css,B4,rdI br sl p2]) U (ih p2 S6 (M.monoU b2.1) (by omega)) rfl fun v' I' S7 w_=>?_;rintro ⟨p3,b1,rfl,cs,t,rfl,l,c2,b3⟩ a3 g;exact ⟨N.set 5 (by first|assumption|trivial),⟨1,by decide,rfl,(by first|exact G|rfl),(by first|exact J|rfl),(by first|exact r|rfl),V,Ah ⟨t,b3,l,c2,b1,a3⟩ l g⟩⟩
   ·have zM:=cH ‹_›;obtain rfl:Y=1:=gg C ‹D 5=true› G bp;refine ap1 U fun u w_ U=>?_;exact ⟨N.set 6 (by first|assumption|trivial),⟨2,by decide,(by first|exact C|rfl),rfl,(by first|exact J|rfl),(by first|exact r|rfl),V,U⟩⟩
   ·obtain rfl:=ci ‹_›;have vV:=cj ‹_›;obtain rfl:Y=2:=gg G ‹D 6=true› J bp;refine ap2 U (by omega) fun u w_ U=>?_;exact ⟨N.set 7 (by first|assumption|trivial),⟨3,by decide,(by first|exact C|rfl),(by first|exact G|rfl),rfl,(by first|exact r|rfl),V,U⟩⟩
   ·refine ax az ?_;exact ⟨N.set 8 rfl,⟨Y,a4,C,G,J,r,V,U⟩⟩
   ·obtain rfl:=dJ ‹_›;have Ch:=cR ‹_›;obtain rfl:Y=3:=gg J ‹D 7=true› r bp;refine ap3 U (by simp) fun w_ U=>?_;exact ⟨N.set 9 trivial,⟨4,by decide,(by first|exact C|rfl),(by first|exact G|rfl),(by first|exact J|rfl),rfl,(fun _=>‹D 1=true›),U⟩⟩
   obtain rfl:Y=4:=jD a4 r ‹D 9=true›;clear C G J r;obtain ⟨p3,S7,cs,⟨t,b3,l,c2,b1,a3⟩,hl,g⟩:=U;refine pZ (by omega) ?_;refine ⟨⟨j',p3,S7,_,_,ts++[t],MO b9 b3,rfl,by rw [bt];simp only [aP,ce];omega,(hR.monoR fun _ _ h=>RdT.mono a3.1 h).snoc l hl.1,?_,?_,b2.trans a3,g⟩,by simp only [intOf,dH];omega⟩
   ·rw [kJ,bt,aP,ce,hY];simp only [wL];omega
   ·rw [bt,aP,ce,hY];omega
  ·have g:Inv w [br] ([ei b5 #[ee 3,ee 0,.string s,kv] ac,B4,rdI br sl p2]++[aB kv ac 4 css]) S6 w':=g.last 1 rfl;refine aq g 0 af rfl rfl ?_;obtain ⟨S7,a3,c4,g⟩:=Inv.lendExt g;have c6:=RowRd.rows (hR.monoR fun _ _ h=>RdT.mono a3.1 h) c4;obtain ⟨a,q,rfl,_⟩:=id c6;subst c3;refine aj g 1 rfl af rfl rfl (by simp [Value.oneCell']) fun w' g=>?_;refine be g 1 af rfl rfl ?_;refine ⟨_,_,S7,rfl,g.pick [false,false,true],b2.trans a3,p2,?_,rfl,[ee 3,ee 0,.string s,_],.mk 3 0 s ts,rfl,RdT.iff.2 ⟨_,rfl,by simp [inI,T.kind],by simp [inI,T.n],by simp only [T.name,maxLen];omega,c6⟩,?_,Lc b6 (by omega) b9⟩
   ·have:ts.length=0 ∨ ts.length=1 ∨ ts.length=2 ∨ ts.length=3:=by omega
    rcases this with h|h|h|h <;> rw [h] at b0 a8 <;> omega
   ·simp only [wT];have:ts.length=0 ∨ ts.length=1 ∨ ts.length=2 ∨ ts.length=3:=by omega
    rcases this with h|h|h|h <;> rw [h] at b0 a8 ⊢ <;> omega
theorem lq:∀ d:Nat,d<=4->KJ br sl ys d
 | 0,h=>Fc h fun a e=>by omega
 | d+1,h=>Fc h fun a e=>by
  obtain rfl:a=d:=by omega
  exact lq _ (by omega)
theorem rg {p:Nat} {S:ai} (a6:RdSl S 1 lY sl ys) (hp:p<=50000000):nB Lp [rdP br] [rdI br sl p] S (Ya br sl p 500 500):=by
 intro w g;refine uV.2 ?_;dsimp only[uV,bd];refine aE g cI fun b2 w' g=>?_;obtain ⟨B2,c7⟩:∃ B2,B2=Item.blk b2 (.cells eu ad):=⟨_,rfl⟩
 have g:Inv w [br] [B2,rdI br sl p] S w':=by rw [c7];exact g.last 0 rfl
 refine Run.callL Fh FQ g (C4 a6 (by omega)) rfl fun v1 I' S1 w'=>?_;rintro ⟨p1,c5,q,e9,rfl,d6,d7,h1,d9⟩ e0 g;have g:Inv w [br] [B2,aB v1 ad 5 c5,rdI br sl p1] S1 w':=g;have g:Inv w [br] [aB v1 ad 5 c5,rdI br sl p1,B2] S1 w':=g.last 0 rfl;obtain ⟨S2,b1,g,hr⟩:=TU g d6;have g:Inv w [br] [B2,rdI br sl p1] S2 w':=g.last 0 rfl;have b1:=e0.trans b1;refine Run.callL bW bX g (dD (n:=4) (a6.monoU b1.1) (by omega) (by omega)) rfl fun v' I' S2 w'=>?_;rintro ⟨rfl,rfl,kk,f0,rfl⟩ _ g;have g:Inv w [br] [B2,rdI br sl (p1+1)] S2 w':=g;refine fL ?_;refine aJ (fun _=>?_) (fun _=>?_)
 ·refine aO hr CZ ?_;refine Run.callL bW bX g (dD (n:=q.length) (a6.monoU b1.1) (by omega) (by omega)) rfl fun v' I' S2 w'=>?_;rintro ⟨rfl,rfl,k,hk,rfl⟩ _ g;have g:Inv w [br] [B2,rdI br sl (p1+2)] S2 w':=g;refine dj g hr CZ aK hk (fun _ _=>RdC.length) fun cs a8=>?_;subst c7;refine aj g 0 rfl aK (by simpa using a8.length) rfl (by simpa using a8.one) fun w' g=>?_;refine be g 0 aK rfl (by simpa using a8.length) ?_;exact ⟨_,_,S2,rfl,g.pick [false,true],b1,p1+2,by omega,rfl,cs,_,rfl,a8,by have:=d7.2 _ (cO hk);omega,d9 _ (cO hk)⟩
 ·refine oF g (by kernel_rfl) rfl (by omega) fun v S3 w' b9 hv g=>?_;refine Run.callL fG fH g (ko (p:=p1+1) (a6.monoU (b1.trans b9).1) hv (by decide) (by omega)) rfl fun v' I' S3 w'=>?_;rintro ⟨rfl,rfl,s,hs,rfl⟩ _ g;have e8:=Xq hs (by decide +kernel);have hs:=n8 (m:=3) hs (by decide);have g:Inv w [br] [B2,rdI br sl (p1+2)] S3 w':=g;have b9:=b1.trans b9;refine Run.callL fX fW g (lq 2 (by omega) (p1+2) S3 (a6.monoU b9.1) (by rw [AP];omega)) rfl fun v' I' S4 w'=>?_;rintro ⟨p2,e1,rfl,f1,t1,rfl,a7,a5,a9⟩ e2 g;rw [AP] at e1 a5;refine eO g bi (by simp [Value.cells,a7.length]) (by omega) (by omega) fun b8 w' g=>?_;have g:Inv w [br] ([B2,rdI br sl p2]++[_]) S4 w':=g;obtain ⟨S5,g,d1,hS⟩:=g.pub1;refine Run.call0E dl dr g (eF s (by simp only [maxLen];omega) (U5 hS (a7.mono d1.1)) (by simp)) fun v' I' S6 w'=>?_;rintro ⟨rfl,hd,rfl,b6⟩ c3 g;have c3:=b9.trans (e2.trans (d1.trans c3));have d3:=b6;obtain ⟨k3,rfl,_,_,_,a3,q3,rfl,_⟩:=RdT.iff.1 b6;refine n9 ?_;refine aE g cI fun b4 w' g=>?_;have g:Inv w [br] [B2,rdI br sl p2,ei b4 eu ad] S6 w':=g;refine aj g 2 rfl aK rfl rfl (by simp [Value.oneCell']) fun w' g=>?_;have g:=g.rowNil ac 4;have g:Inv w [br] [ei b4 #[ee 3,ee 0,.string s,.slice a3 1 q3,nx] ad,aB (nx) ac 4 [],B2,rdI br sl p2] S6 w':=((g.last 1 rfl).last 0 rfl).perm (by
   exact List.Perm.trans (List.Perm.symm (List.Perm.refl _)) (rA [_,_] (List.Perm.swap _ _ [])))
  refine Run.callL bW bX g (dD (n:=3) (a6.monoU c3.1) (by omega) (by omega)) rfl fun v' I' S6 w'=>?_;rintro ⟨rfl,rfl,n,hn,rfl⟩ _ g;have h4:wT (T.mk 3 0 s [t1])=s.size+1+wT t1:=by simp only [wT,wL,aP,ce];omega
  refine ⟨fun a w'=>∃ (j p3:Nat) (S7:ai) (kv:Value) (css:List (nA)) (ks:List T),(∀ y∈ks,fa y=true)/\a=ee (j:Int)/\ks.length+j<=2/\p3<=p2+1+120 * ks.length/\wL ks<=120 * ks.length/\Ext w.heap.size [br] S S7/\RdT S7 [ee 3,ee 0,.string s,.slice a3 1 q3] (.mk 3 0 s [t1])/\Rows 4 (RdT S7) css ks/\
   Inv w [br] [ei b4 #[ee 3,ee 0,.string s,.slice a3 1 q3,kv] ad,aB kv ac 4 css,B2,rdI br sl p3] S7 w',fun a _=>(intOf a).toNat,
   ⟨n,p2+1,S6,_,[],[],fun y hy=>(by cases hy),rfl,by simp;omega,by simp,by simp [wL],c3,d3,Rows.nil _ _,g⟩,?_⟩
  intro t5 _ _ f2 f3 f4 f5 f6 f7 f8 f9 g0 g1 g2 g3 g4 g5 _ _ w';rintro ⟨j,p3,S7,kv,css,ks,c8,rfl,g6,g7,g8,b7,b6,hR,g⟩;have h5:=hR.hc;refine fL ?_;refine aJ (fun g9=>?_) (fun _=>?_)
  ·obtain ⟨j',rfl⟩:∃ j',j=j'+1:=⟨j - 1,by omega⟩
   refine ⟨fun D ny m8 kI mx nH yS uC qg uh oN uq xG CJ zb w_=>Fx D 0 [zb=kh b4 4,CJ=kv,xG=rdP br,True,True,uh=rdP br,True,uC=rdP br,True,True,True,True,True,ny=kh b4 4,True]/\∃ n_:Nat,n_<=9/\D 3=decide (1<=n_)/\D 4=decide (2<=n_)/\D 6=decide (3<=n_)/\D 8=decide (4<=n_)/\D 9=decide (5<=n_)/\D 10=decide (6<=n_)/\D 11=decide (7<=n_)/\D 12=decide (8<=n_)/\D 14=decide (9<=n_)/\(D 14=true->D 1=true)/\(l0 (Inv w [br] [ei b4 #[ee 3,ee 0,.string s,.slice a3 1 q3,kv] ad,aB kv ac 4 css,B2,rdI br sl p3] S7 w_) (l0 (∃ S8 l,RdSl S8 1 xK uq l/\0<l.length/\l.all gn3=true/\Ext w.heap.size [br] S7 S8/\Inv w [br] [ei b4 #[ee 3,ee 0,.string s,.slice a3 1 q3,kv] ad,aB kv ac 4 css,B2,rdI br sl p3] S8 w_) (l0 (∃ S8 s2,oN=.string s2/\gn3 s2=true/\Ext w.heap.size [br] S7 S8/\Inv w [br] [ei b4 #[ee 3,ee 0,.string s,.slice a3 1 q3,kv] ad,aB kv ac 4 css,B2,rdI br sl (p3+1)] S8 w_) (l0 (∃ S8 s2 p4 c1 t1,oN=.string s2/\gn3 s2=true/\qg=.agg c1.toArray/\RdT S8 c1 t1/\okD 2 t1/\wT t1+3<=54/\p4+2<=p3+1+54/\Ext w.heap.size [br] S7 S8/\Inv w [br] [ei b4 #[ee 3,ee 0,.string s,.slice a3 1 q3,kv] ad,aB kv ac 4 css,B2,rdI br sl p4] S8 w_) (l0 (∃ S8 s2 p4 c1 t1 c2 t2,oN=.string s2/\gn3 s2=true/\qg=.agg c1.toArray/\RdT S8 c1 t1/\okD 2 t1/\wT t1+3<=54/\yS=.agg c2.toArray/\RdT S8 c2 t2/\okD 2 t2/\wT t2+3<=54/\p4<=p3+110/\Ext w.heap.size [br] S7 S8/\Inv w [br] [ei b4 #[ee 3,ee 0,.string s,.slice a3 1 q3,kv] ad,aB kv ac 4 css,B2,rdI br sl p4] S8 w_) (l0 (∃ S8 s2 p4 t1 t2,oN=.string s2/\gn3 s2=true/\RdSl S8 4 (RdT S8) nH [t1,t2]/\(okD 2 t1/\okD 2 t2)/\wT t1+3<=54/\wT t2+3<=54/\p4<=p3+110/\Ext w.heap.size [br] S7 S8/\Inv w [br] [ei b4 #[ee 3,ee 0,.string s,.slice a3 1 q3,kv] ad,aB kv ac 4 css,B2,rdI br sl p4] S8 w_) (wV w [br] b4 #[ee 3,ee 0,.string s,.slice a3 1 q3,kv] 4 ad kv css (fun p=>[B2,rdI br sl p]) (fun cs p' S'=>∃ t,fa t=true/\RdT S' cs t/\wT t<=110/\p'<=p3+110/\Ext w.heap.size [br] S7 S') mx kI m8 w_)))))) n_),⟨Fx.nil _ _,⟨0,aT _,rfl,rfl,rfl,rfl,rfl,rfl,rfl,rfl,rfl,(aU),g.draw⟩⟩,⟨?_,?_,?_,?_,?_,?_,?_,?_,?_,?_,?_,?_,?_,?_,?_,trivial⟩,?_⟩;all_goals (intro D bp;intros;rename_i ny m8 kI mx nH yS uC qg uh oN uq xG CJ zb w_ c9;have Y:=c9.1;obtain ⟨⟨cF,ci,cG,cD,bU,cH,cj,cR,dJ,dQ,cJ,dv,eG,gL,kz,_⟩,⟨n_,b3,B,C,G,J,M,N,O,U,r,a0,hS⟩⟩:=c9)
   ·refine ax bS ?_;exact ⟨Y.set 0 rfl,⟨n_,b3,B,C,G,J,M,N,O,U,r,a0,hS⟩⟩
   ·obtain rfl:=cF ‹_›;have d4:=MC r a0 bp;refine eD aw ((Sp (fun h=>h.cellL (i:=0) rfl) (Sp (fun ⟨_,_,_,_,_,_,h⟩=>h.cellL (i:=0) rfl) (Sp (fun ⟨_,_,_,_,_,h⟩=>h.cellL (i:=0) rfl) (Sp (fun ⟨_,_,_,_,_,_,_,_,_,_,_,_,_,h⟩=>h.cellL (i:=0) rfl) (Sp (fun ⟨_,_,_,_,_,_,_,_,_,_,_,_,_,_,_,_,_,_,_,h⟩=>h.cellL (i:=0) rfl) (Sp (fun ⟨_,_,_,_,_,_,_,_,_,_,_,_,_,h⟩=>h.cellL (i:=0) rfl) (fun n hn h=>Am h hn)))))) n_ d4 hS).trans rfl) ?_;exact ⟨Y.set 1 rfl,⟨n_,b3,B,C,G,J,M,N,O,U,r,(fun _=>rfl),hS⟩⟩
   ·exact ⟨Y.set 2 rfl,⟨n_,b3,B,C,G,J,M,N,O,U,r,a0,hS⟩⟩
   ·obtain rfl:n_=0:=jv B bp;refine oF (L:=[.blk b4 _,aB _ ac 4 css,B2,rdI br sl p3]) hS (by kernel_rfl) rfl (by omega) fun v S8 w_ V hv g=>?_;exact ⟨Y.set 3 (by first|assumption|trivial),⟨1,by decide,rfl,(by first|exact C|rfl),(by first|exact G|rfl),(by first|exact J|rfl),(by first|exact M|rfl),(by first|exact N|rfl),(by first|exact O|rfl),(by first|exact U|rfl),(by first|exact r|rfl),a0,⟨S8,_,hv,by decide,by decide +kernel,V,g⟩⟩⟩
   ·obtain rfl:=cG ‹_›;have OA:=cD ‹_›;obtain rfl:n_=1:=gg B ‹D 3=true› C bp;obtain ⟨S8,l,hv,e3,e4,V,g⟩:=eW hS;refine Run.callL fG fH (L:=[.blk b4 _,aB _ ac 4 css,B2,rdI br sl p3]) g (ko (p:=p3) (a6.monoU (b7.trans V).1) hv e3 (by omega)) rfl fun v' I' S8 w_=>?_;rintro ⟨rfl,rfl,s2,a4,rfl⟩ _ g;have a4:=X3 a4 e4;exact ⟨Y.set 4 (by first|assumption|trivial),⟨2,by decide,(by first|exact B|rfl),rfl,(by first|exact G|rfl),(by first|exact J|rfl),(by first|exact M|rfl),(by first|exact N|rfl),(by first|exact O|rfl),(by first|exact U|rfl),(by first|exact r|rfl),a0,⟨S8,s2,rfl,a4,V,g⟩⟩⟩
   ·exact ⟨Y.set 5 rfl,⟨n_,b3,B,C,G,J,M,N,O,U,r,a0,hS⟩⟩
   ·obtain rfl:=cH ‹_›;obtain rfl:n_=2:=gg C ‹D 4=true› G bp;obtain ⟨S8,s2,rfl,a4,V,g⟩:=eW (eW hS);refine Run.callL fX fW (L:=[.blk b4 _,aB _ ac 4 css,B2,rdI br sl (p3+1)]) g (lq 2 (by omega) (p3+1) S8 (a6.monoU (b7.trans V).1) (by rw [AP];omega)) rfl fun v' I' S9 w_=>?_;rintro ⟨p4,b0,rfl,c1,u1,rfl,a7,a5,a9⟩ Z g;rw [AP] at b0 a5;exact ⟨Y.set 6 (by first|assumption|trivial),⟨3,by decide,(by first|exact B|rfl),(by first|exact C|rfl),rfl,(by first|exact J|rfl),(by first|exact M|rfl),(by first|exact N|rfl),(by first|exact O|rfl),(by first|exact U|rfl),(by first|exact r|rfl),a0,⟨S9,s2,p4,c1,u1,rfl,a4,rfl,a7,a9,a5,b0,V.trans Z,g⟩⟩⟩
   ·exact ⟨Y.set 7 rfl,⟨n_,b3,B,C,G,J,M,N,O,U,r,a0,hS⟩⟩
   ·obtain rfl:=cR ‹_›;obtain rfl:n_=3:=gg G ‹D 6=true› J bp;obtain ⟨S8,s2,p4,c1,u1,rfl,a4,rfl,a7,a9,a5,b0,V,g⟩:=eW (eW (eW hS));refine Run.callL fX fW (L:=[.blk b4 _,aB _ ac 4 css,B2,rdI br sl p4]) g (lq 2 (by omega) p4 S8 (a6.monoU (b7.trans V).1) (by rw [AP];omega)) rfl fun v' I' S9 w_=>?_;rintro ⟨p5,d0,rfl,c2,u2,rfl,c4,b5,c6⟩ Z g;rw [AP] at d0 b5;exact ⟨Y.set 8 (by first|assumption|trivial),⟨4,by decide,(by first|exact B|rfl),(by first|exact C|rfl),(by first|exact G|rfl),rfl,(by first|exact M|rfl),(by first|exact N|rfl),(by first|exact O|rfl),(by first|exact U|rfl),(by first|exact r|rfl),a0,⟨S9,s2,p5,c1,u1,c2,u2,rfl,a4,rfl,a7.mono Z.1,a9,a5,rfl,c4,c6,b5,by omega,V.trans Z,g⟩⟩⟩
   ·have vV:=cj ‹_›;have z4:=dJ ‹_›;obtain rfl:n_=4:=gg J ‹D 8=true› M bp;obtain ⟨S8,s2,p4,c1,u1,c2,u2,rfl,a4,rfl,a7,a9,a5,rfl,c4,c6,b5,b0,V,g⟩:=eW (eW (eW (eW hS)));obtain ⟨h0,rfl,_,_,_,a1,q1,rfl,_⟩:=RdT.iff.1 a7;obtain ⟨h2,rfl,_,_,_,a2,q2,rfl,_⟩:=RdT.iff.1 c4;refine oK (v:=fun b=>.slice (some ⟨b,0,none⟩) 2 2) (o:=.cells #[ee u1.kind,ee u1.n,.string u1.name,.slice a1 u1.kids.length q1,ee u2.kind,ee u2.n,.string u2.name,.slice a2 u2.kids.length q2] ac) g (by kernel_rfl) fun b w_ g=>?_;obtain ⟨S9,g,Z,e5⟩:=g.pub1;exact ⟨Y.set 9 (by first|assumption|trivial),⟨5,by decide,(by first|exact B|rfl),(by first|exact C|rfl),(by first|exact G|rfl),(by first|exact J|rfl),rfl,(by first|exact N|rfl),(by first|exact O|rfl),(by first|exact U|rfl),(by first|exact r|rfl),a0,⟨S9,s2,p4,u1,u2,rfl,a4,EV e5 (a7.mono Z.1) (c4.mono Z.1),⟨a9,c6⟩,a5,b5,b0,V.trans Z,g⟩⟩⟩
   ·have Dr:=bU ‹_›;have Ds:=dQ ‹_›;obtain rfl:n_=5:=gg M ‹D 9=true› N bp;obtain ⟨S8,s2,p4,u1,u2,rfl,a4,e6,d2,a5,b5,b0,V,g⟩:=eW (eW (eW (eW (eW hS))));have h6:=Wy a4;refine Run.call0E dl dr (L:=[.blk b4 _,aB _ ac 4 css,B2,rdI br sl p4]) g (eF s2 (by simp only [maxLen];omega) e6 (by simp)) fun v' I' S9 w_=>?_;rintro ⟨rfl,cs,rfl,a8⟩ Z g;exact ⟨Y.set 10 (by first|assumption|trivial),⟨6,by decide,(by first|exact B|rfl),(by first|exact C|rfl),(by first|exact G|rfl),(by first|exact J|rfl),(by first|exact M|rfl),rfl,(by first|exact O|rfl),(by first|exact U|rfl),(by first|exact r|rfl),a0,iq (iq (iq (iq (iq (Ah ⟨_,OU a4 d2 a5 b5,a8,by have e:wT (T.mk 3 0 s2 [u1,u2])=s2.size+2+(wT u1+(wT u2+0)):=(by simp only [wT,wL,aP,ce]);omega,b0,V.trans Z⟩ a8 g)))))⟩⟩
   ·have xg:=cJ ‹_›;obtain rfl:n_=6:=gg N ‹D 10=true› O bp;refine ap1 (eW (eW (eW (eW (eW hS))))) fun u w_ hS=>?_;exact ⟨Y.set 11 (by first|assumption|trivial),⟨7,by decide,(by first|exact B|rfl),(by first|exact C|rfl),(by first|exact G|rfl),(by first|exact J|rfl),(by first|exact M|rfl),(by first|exact N|rfl),rfl,(by first|exact U|rfl),(by first|exact r|rfl),a0,iq (iq (iq (iq (iq hS))))⟩⟩
   ·obtain rfl:=ci ‹_›;have SR:=dv ‹_›;obtain rfl:n_=7:=gg O ‹D 11=true› U bp;refine ap2 (eW (eW (eW (eW (eW hS))))) (by omega) fun u w_ hS=>?_;exact ⟨Y.set 12 (by first|assumption|trivial),⟨8,by decide,(by first|exact B|rfl),(by first|exact C|rfl),(by first|exact G|rfl),(by first|exact J|rfl),(by first|exact M|rfl),(by first|exact N|rfl),(by first|exact O|rfl),rfl,(by first|exact r|rfl),a0,iq (iq (iq (iq (iq hS))))⟩⟩
   ·refine ax bS ?_;exact ⟨Y.set 13 rfl,⟨n_,b3,B,C,G,J,M,N,O,U,r,a0,hS⟩⟩
   ·obtain rfl:=gL ‹_›;have Y3:=eG ‹_›;obtain rfl:n_=8:=gg U ‹D 12=true› r bp;refine ap3 (eW (eW (eW (eW (eW hS))))) (by simp) fun w_ hS=>?_;exact ⟨Y.set 14 trivial,⟨9,by decide,(by first|exact B|rfl),(by first|exact C|rfl),(by first|exact G|rfl),(by first|exact J|rfl),(by first|exact M|rfl),(by first|exact N|rfl),(by first|exact O|rfl),(by first|exact U|rfl),rfl,(fun _=>‹D 1=true›),iq (iq (iq (iq (iq hS))))⟩⟩
   obtain rfl:n_=9:=jD b3 r ‹D 14=true›;clear B C G J M N O U r;obtain ⟨p5,S9,cs,⟨t,e7,a8,h3,d0,Z⟩,hl,g⟩:=eW (eW (eW (eW (eW (eW hS)))));refine pZ (by omega) ?_;refine ⟨⟨j',p5,S9,_,_,ks++[t],MO c8 e7,rfl,by rw [bt];simp only [aP,ce];omega,by rw [bt];simp only [aP,ce];omega,by rw [kJ,bt];simp only [wL,aP,ce];omega,b7.trans Z,b6.mono Z.1,(hR.monoR fun _ _ h=>RdT.mono Z.1 h).snoc a8 hl.1,g⟩,by simp only [intOf,dH];omega⟩
  ·obtain ⟨S8,V,g,hr,_⟩:=zo g hR b6;refine aq g 0 aK rfl rfl ?_;subst c7;have h7:=hr.length;refine aj g 1 rfl aK rfl rfl (by simpa using hr.one) fun w' g=>?_;refine be g 1 aK rfl rfl ?_;refine ⟨_,_,S8,rfl,g.pick [false,false,true],b7.trans V,p3,by omega,rfl,_,_,rfl,hr,?_,JF e8 a9 a5 (by omega) c8⟩;show wT (T.mk 3 0 s [t1])+ks.length+wL ks<=500;omega
end
end
section
open Go Go.RowKit

section
variable {P:Program} {w w0:World} {X:List Nat} {L:List Item} {S:ai} {K:Value->World->Prop}
theorem Run.callVPure {f:FuncId} {fn:Func} {cap args:nA} {r:Value} (hf:P.funcs[f]?=some fn) (hn:(fn.name == "runtime.NumGoroutine" || fn.body.isNone)=false) (h:Inv w0 X L S w) (hc:Pure P f (args++cap) S r)
  (hk:∀ w',Inv w0 X L S w'->K r w'):Run P (gn (fv f cap) args) w K:=by
 refine Run.callV (A:=L) (I:=[]) hf hn (by simpa using h) (Post:=fun v I' S'=>v=r/\I'=[]/\S'=S) ?_ fun v' I' S' w'=>?_
 ·intro g a;exact (hc g a).mono fun e w' ⟨i,a⟩=>⟨_,_,_,i,a,Ext.refl _ _ _,rfl,rfl,rfl⟩
 ·rintro ⟨rfl,rfl,rfl⟩ _ a;exact hk _ (by simpa using a)
end
end
section
open Go Go.RowKit
section
variable {P:Program} {w:World} {K:Value->World->Prop}
theorem UD {T ty e:TypeId} {k h m len cap:Nat} {a:Option Addr} (g:dI P T=some (e,k)) (j:h<=m) (l:m<=cap) (hk:K (.slice (if m=0 then a else a.map (·.add (0 * k))) h m) w) :
  Run P (sOp (.slice T (.const (.slice a len cap)) none (some (.const (ee h))) (some (.const (ee m)))) ty) w K:=by
 obtain ⟨o,i,p,q⟩:=mt g;refine Run.of ?_ hk;simp [sOp,execOp,ev0,evE,Instr.sliceAt,Instr.slice,Instr.sliceBounds,run_underlying o,jJ j,jJ l,sizeOf,typeInfo,p]
end
section
theorem PR {α:Type} {R:nA->α->Prop} {S:ai} {v:Value} {xs:List α} (h:RdSl S 4 R v xs):∃ r,RdSl S 4 R r xs/\ru Hi [v] S r:=by
 obtain ⟨a,cap,rfl,i,hc,j⟩:=id h;have l:∀ m:Nat,(if m=0 then a else a.map (·.add (0 * 4)))=a:=by
  intro m;split
  ·rfl
  ·cases a <;> simp [Addr.add]
 refine ⟨.slice a xs.length xs.length,⟨a,xs.length,rfl,aY _,by omega,j⟩,fun w g=>?_⟩;refine sa.2 ?_;dsimp only[sa,bd];refine aO h ao ?_;refine aO h ao ?_;refine UD ao (aY _) i ?_;rw [l];exact done g rfl
theorem s5 (n:Int) (S:ai):ru Jy [ee n] S (.agg #[ee 1,ee n,.string ⟨#[]⟩,nx]):=by
 intro w a;refine uF.2 ?_;dsimp only[uF,bd];refine aE a aQ fun h w' a=>?_;have g:∀ {K:Value->World->Prop} {w':World},K (.agg #[ee 1,ee n,.string ⟨#[]⟩,nx]) w'->Run Tryz.prog (cr ac [(0,ee 1),(1,ee n)]) w' K:=by
  intro K w' hk;refine Run.of (v:=.agg #[ee 1,ee n,.string ⟨#[]⟩,nx]) (w':=w') ?_ hk;unfold cr;rw [Sem.run_bind,run_build w' ac _ #[ee 1,ee n,.string ⟨#[]⟩,nx] (by kernel_rfl),Result.andThen_ok];rfl
 refine g ?_;refine aj a 0 rfl af rfl rfl (by simp [Value.oneCell']) fun w' a=>?_;refine be a 0 af rfl rfl ?_;exact done a rfl
theorem vM {vs:List Int} {S:ai} {g:Nat} {h:Value} {E:TypeId} (n:Int) (i:S g=some (.cells #[h] E)) (j:RdSl S 1 kH h vs) :
  ru iZ [ee n,hV g] S (.agg #[ee 1,ee (pE vs n),.string ⟨#[]⟩,nx]):=by
 intro w a;refine nS.2 ?_;dsimp only[nS,bv];refine aE a aQ fun l w' a=>?_;refine eD gU (by rw [a.cellS i];rfl) ?_;refine Run.callPure sZ sA a (rl n j) fun w' a=>?_;refine Run.callPure uH u4 a (s5 _ S) fun w' a=>?_;refine aj a 0 rfl af rfl rfl (by simp [Value.oneCell']) fun w' a=>?_;refine be a 0 af rfl rfl ?_;exact done a rfl
theorem G2 (vs:List Int) (b6:vs.length<=1000000000):∀ (t:T) (S:ai) (cs:nA) (g:Nat) (vv:Value) (E:TypeId),RdT S cs t->S g=some (.cells #[vv] E)->RdSl S 1 kH vv vs->wT t<=1048576->
  nB Cj [.agg cs.toArray,fv iZ [hV g]] [] S (Fv S (jR vs t)):=by
 refine T.ind fun k n s ks a5 S cs g vv E h hS hv hw=>?_;have ih:∀ t∈ks,∀ (S:ai) (cs:nA),RdT S cs t->S g=some (.cells #[vv] E)->RdSl S 1 kH vv vs->wT t<=1048576->
  nB Cj [.agg cs.toArray,fv iZ [hV g]] [] S (Fv S (jR vs t)):=fun t ht S cs h1 h2 h3 h4=>a5 t ht S cs g vv E h1 h2 h3 h4
 clear a5;intro w a;obtain ⟨kv,rfl,h1,h2,hs,a2⟩:=RdT.iff.1 h;simp only [T.name,T.kids,T.kind,T.n] at h1 h2 hs a2 ⊢;simp only [wT] at hw;have c1:=VS vs n;refine ym.2 ?_;dsimp only[ym,bv];refine bH a fun G w' a=>?_;refine aE a aQ fun b4 w' a=>?_;refine ah a 0 rfl aW au rfl ?_;refine a9 ?_;rw [jR];refine aJ (fun a1=>?_) (fun a1=>?_)
 ·rw [ag a1];refine ah a 0 rfl aR au rfl ?_;refine Run.callVPure yW yN a (vM n hS hv) fun w' a=>?_;refine aj a 1 rfl af rfl rfl (by simp [Value.oneCell']) fun w' a=>?_;refine be a 1 af rfl rfl ?_;exact ⟨_,_,_,rfl,a.pick [false,false],Ext.refl _ _ _,rfl,[_,_,_,_],[],rfl,rfl,TrT.iff.2 ⟨_,rfl,by simp [inI,T.kind],by simp only [inI,T.n];omega,by rw [T.name];decide +kernel,TrSl.nil (by simp [maxLen])⟩⟩
 rw [ae a1];refine ah a 0 rfl az aw rfl ?_;refine cq a 0 rfl az aw rfl rfl rfl fun w' a=>?_;refine aO a2 ao ?_;have a:Inv w [] [ei b4 et ac,ei G #[ee k,ee n,.string s,nx] ac] S w':=a.perm (List.Perm.swap _ _ _);have a:=a.rowNil ac 4;refine ⟨fun i w'=>∃ (j:Nat) (p:Value) (Ls:List bN) (css:List (nA)),j<=ks.length/\i=ee j/\Grown 4 TrT Ls css (iu vs (ks.take j))/\
   Inv w [] (ei b4 et ac::.blk G (.cells #[ee k,ee n,.string s,p] ac)::aB p ac 4 css::bO Ls.flatten) S w',
  fun i _=>ks.length - (intOf i).toNat,⟨0,_,[],[],aT _,rfl,Grown.nil _ _,a⟩,?_⟩
 intro b9 _ _ _ _ _ _ _ _ _ _ _ _ _ w';rintro ⟨j,p,Ls,css,hj,rfl,hg,a⟩;refine cd ?_;refine aJ (fun b0=>?_) (fun b0=>?_)
 ·have a0:j<ks.length:=by omega
  have c2:(ks.take j).length=j:=by simp;omega
  have b3:=hg.hc;rw [pG] at b3;have hm:=cO a0;have c3:=ni hm;refine dj a a2 ao af a0 (fun _ _=>RdT.length) fun J O=>?_;refine aE a aQ fun b7 w' a=>?_;have a:=a.perm (M:=.blk b7 _::(ei b4 et ac::.blk G (.cells #[ee k,ee n,.string s,p] ac)::aB p ac 4 css::bO Ls.flatten)) (bD (l₁:=[_]));refine aj a 0 rfl af (by simpa using O.length) rfl (by simpa using O.one) fun w' a=>?_;refine ⟨fun D uQ N wz lW BJ rP ja oO w_=>Fx D 0 [oO=kh G 3,ja=p,rP=.agg J.toArray,BJ=fv iZ [hV g],True,True,True,uQ=kh G 3,True]/\∃ M l C,(D 4=true->lW=.agg l.toArray/\TrT M l (jR vs ks[j]))/\(D 5=true->wz=kt C 0 1 1)/\(D 5=true->D 4=true)/\(D 6=true->D 5=true)/\(D 8=true->D 6=true)/\(D 8=true->D 1=true)/\Inv w [] (bC (ei b7 J.toArray ac) (ei b4 et ac) (ei G #[ee k,ee n,.string s,p] ac) (ei G #[ee k,ee n,.string s,N] ac) (aB p ac 4 css) (aB N ac 4 (css++[l])) (bO Ls.flatten) M (ei C l.toArray ac) (D 4) (D 5) (D 6) (D 8)) S w_,⟨Fx.nil _ _,⟨[],[],0,aU,aU,aU,aU,aU,aU,by simpa [bC,bO] using a.draw⟩⟩,⟨?_,?_,?_,?_,?_,?_,?_,?_,?_,trivial⟩,?_⟩;all_goals (intro D Y;intros;rename_i uQ N wz lW BJ rP ja oO w_ a4;have r:=a4.1;obtain ⟨⟨cF,ci,cG,cD,bU,cH,cj,cR,dJ,_⟩,⟨M,l,C,U,e8,k8,V,q,k1,a⟩⟩:=a4)
  ·refine ax az ?_;exact ⟨r.set 0 rfl,⟨M,l,C,U,e8,k8,V,q,k1,a⟩⟩
  ·obtain rfl:=cF ‹_›;have B:D 8=false:=bA.2 fun h=>by rw [k1 h] at Y;cases Y
   refine aG (b:=G) a 2 (c:=(#[ee k,ee n,.string s,p])) aw (by rw [B];rfl) rfl ?_;have k1:=fun (_:aF D 1 8=true)=>(rfl:aF D 1 1=true)
   exact ⟨r.set 1 rfl,⟨M,l,C,U,e8,k8,V,q,k1,a⟩⟩
  ·refine aq a 0 af rfl (by simpa using O.length) ?_;exact ⟨r.set 2 rfl,⟨M,l,C,U,e8,k8,V,q,k1,a⟩⟩
  ·exact ⟨r.set 3 rfl,⟨M,l,C,U,e8,k8,V,q,k1,a⟩⟩
  ·obtain rfl:=cG ‹_›;obtain rfl:=cD ‹_›;have f8:D 5=false:=bA.2 fun h=>by rw [k8 h] at Y;cases Y
   have f9:D 6=false:=bA.2 fun h=>by rw [V h] at f8;cases f8
   have B:D 8=false:=bA.2 fun h=>by rw [q h] at f9;cases f9
   rw [Y,f8,f9,B] at a;refine Run.call0 yd yw a (ih _ (cO a0) S J O hS hv (by omega)) fun v' I' S w_=>?_;rintro ⟨rfl,l,M,rfl,rfl,Z⟩ _ a;have U:aF D 4 4=true->Value.agg l.toArray=Value.agg l.toArray/\TrT M l (jR vs ks[j]):=fun _=>⟨rfl,Z⟩
   have k8:=fun (_:aF D 4 5=true)=>(rfl:aF D 4 4=true)
   have a:Inv w [] (bC (ei b7 J.toArray ac) (ei b4 et ac) (ei G #[ee k,ee n,.string s,p] ac) (ei G #[ee k,ee n,.string s,N] ac) (aB p ac 4 css) (aB N ac 4 (css++[l])) (bO Ls.flatten) M (ei C l.toArray ac) true (D 5) (D 6) (D 8)) S w_:=by
    rw [f8,f9,B];simpa [bC] using a
   exact ⟨r.set 4 (by first|assumption|trivial),⟨M,l,C,U,e8,k8,V,q,k1,a⟩⟩
  ·have Dr:=bU ‹_›;have f9:D 6=false:=bA.2 fun h=>by rw [V h] at Y;cases Y
   have B:D 8=false:=bA.2 fun h=>by rw [q h] at f9;cases f9
   obtain ⟨q7,Z⟩:=U ‹D 4=true›;subst q7;rw [‹D 4=true›,Y,f9,B] at a;refine eO a bi (by simp [Value.cells,Z.length]) (by omega) (by omega) fun C w_ a=>?_;have U:aF D 5 4=true->Value.agg l.toArray=Value.agg l.toArray/\TrT M l (jR vs ks[j]):=fun _=>⟨rfl,Z⟩
   have e8:=fun (_:aF D 5 5=true)=>(rfl:Value.slice (some ⟨C,0,none⟩) 1 1=_)
   have k8:=fun (_:aF D 5 5=true)=>‹D 4=true›;have V:=fun (_:aF D 5 6=true)=>(rfl:aF D 5 5=true)
   have a:Inv w [] (bC (ei b7 J.toArray ac) (ei b4 et ac) (ei G #[ee k,ee n,.string s,p] ac) (ei G #[ee k,ee n,.string s,N] ac) (aB p ac 4 css) (aB N ac 4 (css++[l])) (bO Ls.flatten) M (ei C l.toArray ac) (D 4) true (D 6) (D 8)) S w_:=by
    rw [‹D 4=true›,f9,B];simpa [bC,Value.cells] using a
   exact ⟨r.set 5 (by first|assumption|trivial),⟨M,l,C,U,e8,k8,V,q,k1,a⟩⟩
  ·obtain rfl:=ci ‹_›;have zM:=cH ‹_›;have B:D 8=false:=bA.2 fun h=>by rw [q h] at Y;cases Y
   have q8:=e8 ‹D 5=true›;subst q8;obtain ⟨_,Z⟩:=U ‹D 4=true›;rw [‹D 4=true›,‹D 5=true›,Y,B] at a;have a6:((bC (ei b7 J.toArray ac) (ei b4 et ac) (ei G #[ee k,ee n,.string s,ja] ac) (ei G #[ee k,ee n,.string s,N] ac) (aB ja ac 4 css) (aB N ac 4 (css++[l])) (bO Ls.flatten) M (ei C l.toArray ac) true true false false))[4+(bO Ls.flatten).length+(bO M).length]?=some (ei C l.toArray ac):=by
    have e4:4+(bO Ls.flatten).length+(bO M).length=((bO Ls.flatten).length+(bO M).length)+1+1+1+1:=by omega
    rw [e4];simp only [bC,mG];rw [jV (by omega),qx,jV (aY _),fB];rfl
   refine fl a 3 l bi (by omega) rfl (by rw [Z.length]) (m:=1) (o:=0) ?_ Z.one (by omega) (by omega) fun v' w_ a=>?_
   ·intro i u hi;rw [a.cellL a6,cS];simpa using hi
   rw [fO] at a;have V:=fun (_:aF D 6 6=true)=>‹D 5=true›;have q:=fun (_:aF D 6 8=true)=>(rfl:aF D 6 6=true)
   have a:Inv w [] (bC (ei b7 J.toArray ac) (ei b4 et ac) (ei G #[ee k,ee n,.string s,ja] ac) (ei G #[ee k,ee n,.string s,v'] ac) (aB ja ac 4 css) (aB v' ac 4 (css++[l])) (bO Ls.flatten) M (ei C l.toArray ac) (D 4) (D 5) true (D 8)) S w_:=by
    rw [‹D 4=true›,‹D 5=true›,B];exact a
   exact ⟨r.set 6 (by first|assumption|trivial),⟨M,l,C,U,e8,k8,V,q,k1,a⟩⟩
  ·refine ax az ?_;exact ⟨r.set 7 rfl,⟨M,l,C,U,e8,k8,V,q,k1,a⟩⟩
  ·obtain rfl:=cR ‹_›;have vV:=cj ‹_›;rw [‹D 4=true›,‹D 5=true›,‹D 6=true›,Y] at a;obtain ⟨va,vn,vc,a3⟩:=Inv.rowSlice a 3 rfl;refine eV a 2 (n:=1) (by rw [a3];rfl) (by decide +kernel) rfl (by simp) (by rw [a3];simp [Value.cells,Value.oneCell']) fun w_ a=>?_;have a7:Value.cells N=#[N]:=by rw [a3];rfl
   rw [a7] at a;have k1:=fun (_:aF D 8 8=true)=>‹D 1=true›;have q:=fun (_:aF D 8 8=true)=>‹D 6=true›;have a:Inv w [] (bC (ei b7 J.toArray ac) (ei b4 et ac) (ei G #[ee k,ee n,.string s,p] ac) (ei G #[ee k,ee n,.string s,N] ac) (aB p ac 4 css) (aB N ac 4 (css++[l])) (bO Ls.flatten) M (ei C l.toArray ac) (D 4) (D 5) (D 6) true) S w_:=by
    rw [‹D 4=true›,‹D 5=true›,‹D 6=true›];exact a
   exact ⟨r.set 8 trivial,⟨M,l,C,U,e8,k8,V,q,k1,a⟩⟩
  obtain ⟨rfl,rfl,rfl,rfl,Dr,zM,vV,rfl,_,_⟩:=r.all;have Z0:D 4=true:=by assumption
  have UE:D 5=true:=by assumption
  have F5:D 6=true:=by assumption
  have H7:D 8=true:=by assumption
  clear r cF ci cG cD bU cH cj cR dJ;obtain ⟨_,Z⟩:=U Z0;rw [Z0,UE,F5,H7] at a;refine bL (by omega) ?_;refine ⟨⟨j+1,N,Ls++[M],css++[l],a0,rfl,?_,?_⟩,by simp [intOf];omega⟩
  ·rw [E3 vs ks j a0];exact hg.snoc Z Z.length
  ·simp only [y5,gR,sU,dk,ft];refine a.sub ?_;simp only [bC];rw [<- cN];exact ((((gV _ _).cons_cons _).cons_cons _).cons_cons _).cons _
 ·have:j=ks.length:=by omega
  subst this;rw [g7] at hg;obtain ⟨va,vn,vc,b1⟩:=a.rowSlice 2 rfl;have b5:p.oneCell'=true:=by rw [b1];rfl
  refine aq a 1 af rfl rfl ?_;refine aj a 0 rfl af rfl rfl ?_ fun w' a=>?_
  ·intro u hu;have a8:u∈([ee k,ee n,.string s,p]:nA):=hu;simp at a8;rcases a8 with rfl|rfl|rfl|rfl <;> first|rfl|exact b5
  refine be a 0 af rfl rfl ?_;have a:Inv w [] ([]++(aB p ac 4 css::bO Ls.flatten)) S w':=a.sub (fj [_,_] _);obtain ⟨L,Z,a⟩:=Inv.rowTree a hg;exact ⟨_,_,_,rfl,a,Ext.refl _ _ _,rfl,_,L,rfl,rfl,TrT.iff.2 ⟨p,rfl,h1,h2,hs,Z⟩⟩
theorem o9 {ts:List T} {S:ai} {v:Value} (h:RdSl S 4 (RdT S) v ts) (hw:ts.length+wL ts<=1048577):nB FH [v] [] S (RN 4 TrT S (iu (ek ts []) ts)):=by
 intro w a;have D:=h.le;simp only [maxLen] at D;have G:=Ej ts;have V:=FZ ts [];simp only [ce] at V;refine rn.2 ?_;dsimp only[rn,bd];refine Run.call0 MF Od a (Kx h (by omega)) fun v1 I' S w'=>?_;rintro ⟨rfl,rfl⟩ _ a;have J:(ek ts []).length<=1000000000:=by omega
 generalize ek ts []=vs at a J ⊢;refine aE a VW fun b3 w' a=>?_;have l:v1.cells=#[v1]/\v1.oneCell'=true:=by
  have:=a.its (cA v1 vs) (by simp);rcases this.2 with ⟨rfl,_⟩|⟨g,cap,a3,rfl,_⟩ <;> exact ⟨rfl,rfl⟩
 refine eV a 1 (n:=1) (by rw [l.1];rfl) (by rw [gU];rfl) rfl (D1 rfl) (by rw [l.1];simpa using l.2) fun w' a=>?_;have Y:cu (Value.slice none 0 0).cells 0 v1.cells.toList=#[v1]:=by
  rw [l.1];rfl
 have a:Inv w [] [cA v1 vs,ei b3 #[v1] sP] S w':=by
  have:=a;simp only [dg,gW] at this;rw [Y] at this;exact this
 have a:=a.perm (M:=[ei b3 #[v1] sP]++[cA v1 vs]) (List.Perm.swap _ _ _);obtain ⟨S1,B,C,a,_⟩:=Inv.lend (A:=[_]) a;obtain ⟨a,j⟩:=Inv.publishLast (L:=[]) a;have hb:oJ S1 b3 (.cells #[v1] sP) b3=some (.cells #[v1] sP):=by simp [oJ]
 generalize oJ S1 b3 (.cells #[v1] sP)=S2 at a j hb;have Z:=C.ints.mono j fun _ _ h=>h;have p:=B.trans j;have h:=h.mono p fun _ _ h=>h.mono p;refine aO h ao ?_;refine ⟨fun i t w'=>∃ (k:Nat) (Ls:List bN) (css:List (nA)),k<=ts.length/\i=ee k/\Grown 4 TrT Ls css (iu vs (ts.take k))/\Inv w [] (aB t ac 4 css::bO Ls.flatten) S2 w',
  fun i _ _=>ts.length - (intOf i).toNat,⟨0,[],[],aT _,rfl,Grown.nil _ _,a.rowNil ac 4⟩,?_⟩
 intro a0 _ t4 _ _ _ _ _ _ _ _ _ _ w';rintro ⟨k,Ls,css,hk,rfl,O,a⟩;refine cd ?_;refine aJ (fun U=>?_) (fun U=>?_)
 ·have m:k<ts.length:=by omega
  have a1:(ts.take k).length=k:=by simp;omega
  have G:=O.hc;rw [pG] at G;have hm:=cO m;have a2:=ni hm;refine dj a h ao af m (fun _ _=>RdT.length) fun cs o=>?_;have N:=o.length;refine aE a aQ fun b6 w' a=>?_;have a:=a.perm (M:=.blk b6 _::(aB t4 ac 4 css::bO Ls.flatten)) (bD (l₁:=[_]));refine aj a 0 rfl af (by simpa using N) rfl (by simpa using o.one) fun w' a=>?_;refine aq a 0 af rfl (by simpa using N) ?_;have a:Inv w [] (aB t4 ac 4 css::bO Ls.flatten) S2 w':=a.sub (jd _ _);refine vN ?_;refine Run.call0 yd yw a (G2 vs J _ S2 cs b3 v1 sP o hb Z (by omega)) fun v' I' S' w'=>?_;rintro ⟨rfl,r,L,rfl,rfl,q⟩ _ a;refine dB a 0 r bi (by omega) (by omega) rfl q.length q.one (by omega) (by omega) fun v' w' a=>?_;refine bL (by omega) ?_;refine ⟨⟨k+1,Ls++[L],css++[r],m,rfl,?_,?_⟩,by simp [intOf];omega⟩
  ·rw [E3 vs ts k m];exact O.snoc q q.length
  ·simp only [y5,gR,sU,dk,ft];exact a
 ·have:k=ts.length:=by omega
  subst this;rw [g7] at O;obtain ⟨L,q,a⟩:=Inv.rowTree (A:=[]) a O;exact ⟨_,_,_,rfl,a.less p,Ext.refl _ _ _,rfl,_,rfl,q⟩
end
end
section
open Go Go.RowKit
mutual
theorem Rb (vs:List Int):∀ t:T,wT (dE vs t)=wT t
 | .mk k n s ks=>by rw [dE,wT,wT,kP,yV vs ks]
theorem yV (vs:List Int):∀ ts:List T,wL (dP vs ts)=wL ts
 | []=>rfl
 | t::ts=>by rw [dP,wL,wL,Rb vs t,yV vs ts]
end
theorem XZ (vs:List Int) (c:C):wC (vD vs c)=wC c:=by
 simp only [wC,vD,Rb,yV,kP]
section
theorem M8 {c:C} {S:ai} {cs:nA} (h:RdC S cs c) (U:ek (c.head::c.body) []=cC c/\jR (cC c) c.head=dE (cC c) c.head/\iu (cC c) c.body=dP (cC c) c.body) (hw:wC c<=1048576) :
  nB yc [.agg cs.toArray] [] S (W6 (vD (cC c) c)):=by
 intro w g;obtain ⟨e1,e2,e3⟩:=U;obtain ⟨hd,ks,rfl,h1,h2⟩:=h;have Z:=h1;obtain ⟨kv,rfl,g1,g2,g3,g4⟩:=RdT.iff.1 h1;have a0:=h2.le;simp only [maxLen] at a0;unfold wC at hw;refine uJ.2 ?_;dsimp only[uJ,bd];refine bH g fun b1 w' g=>?_;refine aE g cI fun b2 w' g=>?_;refine ax cV ?_;refine gd g 0 (kB c.head kv) af rfl rfl ON ?_;refine eO g bi (by simp [Value.cells]) (by omega) (by omega) fun b7 w' g=>?_;refine ah g 0 rfl bS aw rfl ?_;have g:=Inv.closeRow (A:=[_,_]) (cap:=1) (k:=4) (n:=1) g (by omega) (by simp [maxLen]) (by simp [Value.cells]);refine ge g 2 (css:=[(kB c.head kv)]) bi (by omega) rfl h2 (fun _ _=>RdT.length) (fun _ _=>RdT.one) (by simp;omega) (by omega) fun v' w' a5 hR g=>?_;have hR:=(Rows.one Z Z.length).append hR;obtain ⟨S1,O,a1,g,_⟩:=Inv.lend (A:=[_,_]) g;have a3:RdSl S1 4 (RdT S1) v' (c.head::c.body):=(RowRd.rows hR a1).mono (Sle.refl _) fun _ _ h=>h.mono O;refine Run.call0 rD re g (o9 a3 (by simp only [wL,aP];omega)) fun a7 I' S' w'=>?_;rintro ⟨rfl,M,rfl,hT⟩ _ g;obtain ⟨S2,g,hE,Y⟩:=(g.less O).pubExt;have hr:=hT.rd Y fun _ _ _ hi h=>h.rd hi;rw [e1,iu,e2,e3] at hr;have a4:=fun (v:Value) (h:RdSl S2 4 (RdT S2) v ((dE (cC c) c.head::dP (cC c) c.body).drop 1))=>h;obtain ⟨b,o,cap,cc,E,fz,rfl,hS,N⟩:=hr.at_ (i:=0) (by simp);rw [pQ] at N;obtain ⟨q,ec,f1,f2,f3,f4⟩:=RdT.iff.1 N;rw [ec] at N;obtain ⟨ka,kn,kc,a2⟩:∃ a n m,q=.slice a n m:=by
  obtain ⟨a,m,e,_⟩:=f4;exact ⟨_,_,_,e⟩
 refine ⟨fun D lS p8 DS L7 QJ GI my w_=>Fx D 0 [my=kt b o ((dP (cC c) c.body).length+1) cap,GI=kh b (o+0 * 4),QJ=.agg (ku ((dE (cC c) c.head)) q),L7=kt b o ((dP (cC c) c.body).length+1) cap,RdSl S2 4 (RdT S2) DS (dP (cC c) c.body),RdSl S2 4 (RdT S2) p8 (dP (cC c) c.body),∃ t,lS=.agg #[ee (dE (cC c) c.head).kind,ee (dE (cC c) c.head).n,.string (dE (cC c) c.head).name,q,t]/\RdSl S2 4 (RdT S2) t (dP (cC c) c.body),True]/\∃ B2,B2.size=5/\(D 7=true->∃ t,B2=#[ee (dE (cC c) c.head).kind,ee (dE (cC c) c.head).n,.string (dE (cC c) c.head).name,q,t]/\RdSl S2 4 (RdT S2) t (dP (cC c) c.body))/\Inv w [] [ei b1 #[ee c.head.kind,ee c.head.n,.string c.head.name,kv,ks] ad,ei b2 B2 ad] S2 w_,⟨Fx.nil _ _,⟨_,rfl,aU,g.draw⟩⟩,⟨?_,?_,?_,?_,?_,?_,?_,?_,trivial⟩,?_⟩;all_goals (intro D bp;intros;rename_i lS p8 DS L7 QJ GI my w_ V;have p:=V.1;obtain ⟨⟨cF,ci,cG,cD,bU,cH,cj,cR,_⟩,⟨B2,G,J,g⟩⟩:=V)
 ·exact ⟨p.set 0 rfl,⟨B2,G,J,g⟩⟩
 ·obtain rfl:=cF ‹_›;refine aN (i:=0) ao (by simp) ?_;exact ⟨p.set 1 rfl,⟨B2,G,J,g⟩⟩
 ·obtain rfl:=ci ‹_›;refine eE (cs:=(kB ((dE (cC c) c.head)) q)) af rfl (fun j v hj=>by rw [g.cellS hS];exact bf ec j v hj) ?_;exact ⟨p.set 2 rfl,⟨B2,G,J,g⟩⟩
 ·exact ⟨p.set 3 rfl,⟨B2,G,J,g⟩⟩
 ·obtain rfl:=cD ‹_›;refine tB (l:=1) ao hr (by simp) fun t B=>?_;rw [Vp,fe] at B;exact ⟨p.set 4 (by first|assumption|trivial),⟨B2,G,J,g⟩⟩
 ·have Dr:=bU ‹_›;obtain ⟨r,a8,hp⟩:=PR Dr;refine Run.callPure EA Gg g hp fun w_ g=>?_;exact ⟨p.set 5 (by first|assumption|trivial),⟨B2,G,J,g⟩⟩
 ·obtain rfl:=cG ‹_›;have zM:=cH ‹_›;refine lg ?_ ?_
  ·obtain ⟨a,m,e,_⟩:=zM;exact ⟨_,_,_,e⟩
  have a6:∃ t,Value.agg #[ee (dE (cC c) c.head).kind,ee (dE (cC c) c.head).n,.string (dE (cC c) c.head).name,q,p8]=.agg #[ee (dE (cC c) c.head).kind,ee (dE (cC c) c.head).n,.string (dE (cC c) c.head).name,q,t]/\RdSl S2 4 (RdT S2) t (dP (cC c) c.body):=⟨_,rfl,zM⟩
  exact ⟨p.set 6 (by first|assumption|trivial),⟨B2,G,J,g⟩⟩
 ·have vV:=cj ‹_›;obtain ⟨t,rfl,B⟩:=vV;obtain ⟨a,m,e,_⟩:=id B;subst e;refine aj g 1 rfl aK rfl G (by simp [Value.oneCell',a2]) fun w_ g=>?_;obtain ⟨B2,hq⟩:∃ B2,B2=(#[ee (dE (cC c) c.head).kind,ee (dE (cC c) c.head).n,.string (dE (cC c) c.head).name,q,.slice a (dP (cC c) c.body).length m]:Array Value):=⟨_,rfl⟩
  rw [<- hq] at g;have G:B2.size=5:=by rw [hq];rfl
  have J:=fun (_:aF D 7 7=true)=>(⟨_,hq,B⟩:∃ t,B2=#[ee (dE (cC c) c.head).kind,ee (dE (cC c) c.head).n,.string (dE (cC c) c.head).name,q,t]/\RdSl S2 4 (RdT S2) t (dP (cC c) c.body))
  exact ⟨p.set 7 trivial,⟨B2,G,J,g⟩⟩
 obtain ⟨rfl,rfl,rfl,rfl,Dr,zM,vV,_,_⟩:=p.all;have nI:D 7=true:=by assumption
 clear p cF ci cG cD bU cH cj cR;obtain ⟨t,rfl,B⟩:=J nI;refine be g 1 aK rfl rfl ?_;exact ⟨_,_,_,rfl,g.pick [false,false],hE,rfl,_,rfl,⟨_,_,rfl,N,B⟩⟩
theorem FI {c:C} {S:ai} {cs:nA} (h:RdC S cs c) (a:aZ c=true) (g:wC c<=1048576):nB yc [.agg cs.toArray] [] S (W6 (vD (cC c) c)):=M8 h (Jk a) g
abbrev VH (c:C) (ok:Bool):Value->List Item->ai->Prop:=fun v I' _=>∃ cs L,v=.tuple #[.agg cs.toArray,.bool ok]/\I'=bO L/\TrC L cs c
theorem TrC.zero:TrC [] [ee 0,ee 0,.string ⟨#[]⟩,nx,nx] ⟨⟨0,0,⟨#[]⟩,[]⟩,[]⟩:=
 ⟨[ee 0,ee 0,.string ⟨#[]⟩,nx],nx,[],[],rfl,rfl,TrT.iff.2 ⟨_,rfl,by simp [inI,T.kind],by simp [inI,T.n],by rw [T.name];decide +kernel,TrSl.nil (by simp [maxLen])⟩,TrSl.nil (by simp [maxLen])⟩
theorem qt {c:C} {S:ai} {cs:nA} (h:RdC S cs c) (m:wC c<=1048576):nB vU [.agg cs.toArray] [] S (VH (Wp c) (aZ c)):=by
 intro w a;have o:=h;have g:=h.length;have r:=h.one;refine ml.2 ?_;dsimp only[ml,bd];refine bH a fun B w' a=>?_;refine aE a cI fun D w' a=>?_;refine aq a 0 aK rfl (by simpa [Value.cells] using g) ?_;refine Run.callPure kL kW a (jC o) fun w' a=>?_;refine c8 ?_;rw [Wp];cases t:aZ c
 ·refine aL (fun _=>?_) (fun l=>by cases l);refine Gh ?_;refine aj a 1 rfl aK rfl rfl (by simp [Value.oneCell']) fun w' a=>?_;refine be a 1 aK rfl rfl ?_;exact ⟨_,_,_,rfl,a.pick [false,false],Ext.refl _ _ _,_,[],rfl,rfl,TrC.zero⟩
 refine aL (fun l=>by cases l) (fun _=>?_);refine aq a 0 aK rfl (by simpa [Value.cells] using g) ?_;refine Run.call0E GS Hb a (FI o t m) fun v I' S' w'=>?_;rintro ⟨rfl,p,rfl,hR⟩ q a;refine Run.call0 tz rW a (rv hR (by rw [XZ];exact m)) fun v I' S2 w'=>?_;rintro ⟨rfl,j,L,rfl,rfl,i⟩ _ a;refine aj a 1 rfl aK (by simpa using i.length) rfl (by simpa using i.one) fun w' a=>?_;refine be a 1 aK rfl (by simpa using i.length) ?_;have a:Inv w [] (bO L) S2 w':=a.sub (fj [_,_] _);exact ⟨_,_,_,rfl,a,q,j,L,rfl,rfl,i⟩
end
end
section
open Go Go.RowKit

def KnownM (S:ai) (es:Array MapEntry) (st:bb):Prop:=
 (∀ e∈es.toList,∃ (n:Nat) (t:T) (cs:List Value),e.key=ee n/\e.val=.agg cs.toArray/\RdT S cs t/\st[n]?=some (some t))/\(∀ (n:Nat) (t:T),st[n]?=some (some t)->∃ e∈es.toList,e.key=ee n)/\(es.toList.map (·.key)).Nodup
theorem KnownM.find {S:ai} {i:Array MapEntry} {st:bb} (h:KnownM S i st) (n:Nat) :
  (∃ j v t cs,Instr.findNow (.int .i64) (ee n) i.toList 0=some (some (j,v))/\v=.agg cs.toArray/\RdT S cs t/\st[n]?=some (some t)) ∨
  ((∀ t,st[n]?≠some (some t))/\Instr.findNow (.int .i64) (ee n) i.toList 0=some none):=by
 rcases oi (n:=n) i.toList 0 (fun e g=>by obtain ⟨m,_,_,hk,_⟩:=h.1 e g;exact ⟨m,hk⟩) with ⟨j,e,g,hk,hf⟩|⟨hk,hf⟩
 ·obtain ⟨m,t,cs,a,o,hR,p⟩:=h.1 e g;rw [hk] at a;simp only [Value.int.injEq,v6] at a;have:n=m:=by omega
  subst this;exact .inl ⟨j,e.val,t,cs,hf,o,hR,p⟩
 ·refine .inr ⟨fun t l=>?_,hf⟩;obtain ⟨e,g,a⟩:=h.2.1 n t l;exact hk e g a
theorem KnownM.push {S:ai} {p:Array MapEntry} {st:bb} (h:KnownM S p st) {n:Nat} (hn:n<st.length) (i:∀ t,st[n]?≠some (some t)) {cs:nA} {u:T} (B:RdT S cs u) (C:Nat) :
  KnownM S (p.push { key:=ee n,val:=.agg cs.toArray,born:=C }) (st.set n (some u)):=by
 refine ⟨fun e g=>?_,fun m t q=>?_,?_⟩
 ·rw [Jv] at g;rcases cU.1 g with g|g
  ·obtain ⟨m,t,j,hk,G,hR,l⟩:=h.1 e g;refine ⟨m,t,j,hk,G,hR,?_⟩;have:n≠m:=fun e=>i t (by rw [e];exact l);rw [M7 this];exact l
  ·simp at g;subst g;exact ⟨n,u,cs,rfl,rfl,B,by rw [Nl hn]⟩
 ·rw [Jv];by_cases e:n=m
  ·exact ⟨_,gy _ (bM.2 rfl),by rw [e]⟩
  ·rw [M7 e] at q;obtain ⟨x,o,hk⟩:=h.2.1 m t q;exact ⟨x,gf _ o,hk⟩
 ·rw [Jv,zA,mK];refine ⟨h.2.2,by simp,fun a D b r e=>?_⟩;simp only [Gx,NW,bM] at r;subst r;obtain ⟨x,o,rfl⟩:=ob.1 D;obtain ⟨m,t,j,hk,_,_,l⟩:=h.1 x o;rw [hk] at e;simp only [Value.int.injEq,v6] at e;have:m=n:=by omega
  subst this;exact i t l
end
section
open Go Go.RowKit

def st0:bb:=List.replicate 26 none
theorem KnownM.empty (S:ai):KnownM S #[] st0:=by
 refine ⟨by simp,fun n t a=>?_,by simp⟩;rw [st0,LK] at a;split at a <;> cases a
theorem QB:∀ {ts:List T},(∀ t∈ts,okV t)->C5 ts
 | [],_=>by simp [C5]
 | t::ts,h=>by rw [C5];exact ⟨h t (bF ..),QB fun u a=>h u (bI _ a)⟩
theorem RA:∀ {ts:List T},(∀ t∈ts,okK t)->JV ts
 | [],_=>by simp [JV]
 | t::ts,h=>by rw [JV];exact ⟨h t (bF ..),RA fun u a=>h u (bI _ a)⟩
theorem Ta {c:C} (h:aZ c=true):(okV c.head/\okK c.head)/\C5 c.body/\JV c.body:=by
 rw [aZ] at h;simp only [bQ,fF] at h;obtain ⟨_,i,j,_⟩:=h;have g:∀ t∈c.body,okV t/\okK t:=fun t a=>by
  have:=i t a;rw [fa,bQ] at this;exact N2 this.1
 exact ⟨N2 j,QB fun t a=>(g t a).1,RA fun t a=>(g t a).2⟩
section
variable {P:Program} {w w0:World} {X:List Nat} {L:List Item} {S:ai} {K:Value->World->Prop}
theorem qB (h:Inv w0 X L S w) {T ty e:TypeId} {k a n:Nat} {z:Value} (m:jX P T=some (e,k,a,z)) (hn:n<=4294967296) (g:a<=65536) (j:n * k≠0)
  (hk:∀ b w',Inv w0 X (L++[ei b ((Array.range (n * k)).map (z.cells[· % z.cells.size]!)) e]) S w'->K (.slice (some ⟨b,0,none⟩) n n) w') :
  Run P (sOp (.makeSlice T (.const (ee n)) (.const (ee n))) ty) w K:=by
 obtain ⟨o,i,p,q,r,t,B⟩:=kN m;have C:IntKind.i64.wrap (n:Int)=n:=IntWalk.i64_in _ (by omega);have l:a * n<=2 ^ 48:=il (Kl g hn) (by decide);have D:¬ ((n:Int)<0):=by omega
 have G:¬ (281474976710656<(i.bytes:Int) * (n:Int)):=by
  rw [t];have:((a * n:Nat):Int)<=((2 ^ 48:Nat):Int):=by exact_mod_cast l
  have e:(((2 ^ 48:Nat)):Int)=281474976710656:=by decide
  rw [e,Int.natCast_mul] at this;omega
 refine Run.of (v:=.slice (some ⟨w.heap.size,0,none⟩) n n) (w':={ w with heap:=w.heap.push (.cells ((Array.range (n * k)).map (z.cells[· % z.cells.size]!)) e) }) ?_ (hk _ _ (h.alloc _));simp [sOp,execOp,ev0,evE,Instr.makeSlice,run_underlying o,asInt,asIntOf,typeInfo,p,C,D,G,sizeOf,r,newRow,newObj,Sem.run,j,zeroValue,q]
end
end
section
open Go Go.RowKit
mutual
def mvT (f:Int->Int):T->T
 | .mk k n s ks=>.mk k (if k=1 then f n else n) s (mvL f ks)
def mvL (f:Int->Int):List T->List T
 | []=>[]
 | t::ts=>mvT f t::mvL f ts
end
theorem ld (f:Int->Int):∀ ts:List T,(mvL f ts).length=ts.length
 | []=>rfl
 | t::ts=>by rw [mvL,aP,aP,ld f ts]
theorem Kn (f:Int->Int):∀ ts:List T,mvL f ts=ts.map (mvT f)
 | []=>rfl
 | t::ts=>by rw [mvL,Gx,Kn f ts]
mutual
theorem On (vs:List Int):∀ t:T,dE vs t=mvT (fun n=>ly vs n n 0) t
 | .mk k n s ks=>by rw [dE,mvT,Fs vs ks]
theorem Fs (vs:List Int):∀ ts:List T,dP vs ts=mvL (fun n=>ly vs n n 0) ts
 | []=>rfl
 | t::ts=>by rw [dP,mvL,On vs t,Fs vs ts]
end
mutual
theorem RR {f g:Int->Int} {ws:List Int} (h:∀ n∈ws,f n=g n):∀ t:T,inT ws t->mvT f t=mvT g t
 | .mk k n s ks,hi=>by
  rw [inT] at hi;rw [mvT,mvT,DG h ks hi.2];split
  ·rename_i hk; rw [h n (hi.1 hk)]
  ·rfl
theorem DG {f g:Int->Int} {ws:List Int} (h:∀ n∈ws,f n=g n):∀ ts:List T,inL ws ts->mvL f ts=mvL g ts
 | [],_=>rfl
 | t::ts,hi=>by
  rw [inL] at hi;rw [mvL,mvL,RR h t hi.1,DG h ts hi.2]
end
mutual
theorem Vd (f g:Int->Int):∀ t:T,mvT f (mvT g t)=mvT (fun n=>f (g n)) t
 | .mk k n s ks=>by
  rw [mvT,mvT,mvT,EJ f g ks];split <;> rfl
theorem EJ (f g:Int->Int):∀ ts:List T,mvL f (mvL g ts)=mvL (fun n=>f (g n)) ts
 | []=>rfl
 | t::ts=>by rw [mvL,mvL,mvL,Vd f g t,EJ f g ts]
end
theorem TL {f:Int->Int} {l:List Int} {n:Int} (h:∀ m∈l,f m=f n->m=n):jw (l.map f) (f n)=(jw l n).map f:=by
 have e:Do (l.map f) (f n)=Do l n:=by
  rw [sD,sJ,sJ,ob];constructor
  ·rintro ⟨m,a,e⟩;rw [<- h m a e];exact a
  ·intro hn;exact ⟨n,hn,rfl⟩
 unfold jw;rw [e];split
 ·rfl
 ·simp
mutual
theorem VO {f:Int->Int} {ws:List Int} (hf:∀ a∈ws,∀ b∈ws,f a=f b->a=b):∀ (t:T) (l:List Int),(∀ m∈l,m∈ws)->inT ws t->ii (mvT f t) (l.map f)=(ii t l).map f/\∀ m∈ii t l,m∈ws
 | .mk k n s ks,l,hl,hi=>by
  rw [inT] at hi;rw [mvT,ii,ii];by_cases hk:k=1
  ·rw [ag hk,ag hk,ag hk,TL fun m g e=>hf m (hl m g) n (hi.1 hk) e];refine zf hf ks _ (fun m g=>?_) hi.2;unfold jw at g;split at g
   ·exact hl m g
   ·rcases cU.1 g with g|g
    ·exact hl m g
    ·rw [bM.1 g]; exact hi.1 hk
  ·rw [ae hk,ae hk];exact zf hf ks l hl hi.2
theorem zf {f:Int->Int} {ws:List Int} (hf:∀ a∈ws,∀ b∈ws,f a=f b->a=b):∀ (ts:List T) (l:List Int),(∀ m∈l,m∈ws)->inL ws ts->ek (mvL f ts) (l.map f)=(ek ts l).map f/\∀ m∈ek ts l,m∈ws
 | [],l,hl,_=>⟨rfl,hl⟩
 | t::ts,l,hl,hi=>by
  rw [inL] at hi;obtain ⟨e,g⟩:=VO hf t l hl hi.1;rw [mvL,ek,ek,e];exact zf hf ts _ g hi.2
end
theorem Of:∀ (xs:List Int) (n:Int) (k:Nat),n∈xs->∃ i,xs[i]?=some n/\(dZ (σ:=Unit) (fun _ x=>(decide (n=x),())) () xs k).1=((k+i:Nat):Int)
 | x::xs,n,k,h=>by
  rw [dZ];by_cases e:n=x
  ·subst e;exact ⟨0,rfl,by simp⟩
  ·have j:n∈xs:=by
    rcases dK.1 h with h|h
    ·exact absurd h e
    ·exact h
   obtain ⟨i,a,g⟩:=Of xs n (k+1) j;refine ⟨i+1,a,?_⟩;rw [aM e];simp only [ta,if_false];rw [g];omega
theorem zT {xs:List Int} {n:Int} (h:n∈xs):∃ i:Nat,xs[i]?=some n/\pE xs n=(i:Int)/\i<xs.length:=by
 obtain ⟨i,a,g⟩:=Of xs n 0 h;exact ⟨i,a,by rw [pE,g,cS],(ie.1 a).1⟩
theorem Vg {xs:List Int}:∀ a∈xs,∀ b∈xs,pE xs a=pE xs b->a=b:=by
 intro a h b l e;obtain ⟨i,m,o,_⟩:=zT h;obtain ⟨j,g,p,_⟩:=zT l;have:i=j:=by omega
 subst this;rw [m] at g;exact JK g
theorem QS {f:Int->Int} {n:Int}:∀ (xs:List Int) (k:Nat),(∀ m∈xs,f m=f n->m=n)->(dZ (σ:=Unit) (fun _ x=>(decide (f n=x),())) () (xs.map f) k).1=(dZ (σ:=Unit) (fun _ x=>(decide (n=x),())) () xs k).1
 | [],_,_=>rfl
 | x::xs,k,h=>by
  rw [Gx,dZ,dZ];have:decide (f n=f x)=decide (n=x):=by
   rw [cW];exact ⟨fun e=>(h x (bF ..) e.symm).symm,fun e=>by rw [e]⟩
  rw [this];have g:=QS xs (k+1) fun m a=>h m (bI _ a);split
  ·rfl
  ·exact g
theorem TH {f:Int->Int} {xs:List Int} {n:Int} (h:∀ m∈xs,f m=f n->m=n):pE (xs.map f) (f n)=pE xs n:=QS xs 0 h
mutual
theorem IY {f:Int->Int} {ws:List Int} (h:∀ n∈ws,0<=f n/\f n<=25):∀ (t:T) (d:Int),inT ws t->dC t d=true->dC (mvT f t) d=true
 | .mk k n s ks,d,hi,hs=>by
  rw [inT] at hi;rw [dC] at hs;rw [mvT,dC];split at hs
  ·cases hs
  rename_i i
  rw [ae i];rw [bQ] at hs ⊢;refine ⟨?_,Id h ks _ hi.2 hs.2⟩;have a:=hs.1;by_cases hk:k=1
  ·subst hk;have g:=h n (hi.1 rfl);rw [ag rfl];have a:(decide (0<=n) && (decide (n<=25) && (decide (s=emptyB) && decide (ks.length=0))))=true:=a;show (decide (0<=f n) && (decide (f n<=25) && (decide (s=emptyB) && decide ((mvL f ks).length=0))))=true;rw [ld,aD g.1,aD g.2];simp only [bQ] at a ⊢;exact ⟨trivial,trivial,a.2.2⟩
  ·rw [ae hk];unfold fR at a ⊢;simp only [T.kind,T.n,T.name,T.kids,ld] at a ⊢;exact a
theorem Id {f:Int->Int} {ws:List Int} (h:∀ n∈ws,0<=f n/\f n<=25):∀ (ts:List T) (d:Int),inL ws ts->de ts d=true->de (mvL f ts) d=true
 | [],_,_,_=>rfl
 | t::ts,d,hi,hs=>by
  rw [inL] at hi;rw [de,bQ] at hs;rw [mvL,de,IY h t d hi.1 hs.1,Id h ts d hi.2 hs.2];rfl
end
mutual
theorem DF (f:Int->Int):∀ t:T,bR (mvT f t)=bR t
 | .mk k n s ks=>by rw [mvT,bR,bR,QG f ks]
theorem QG (f:Int->Int):∀ ts:List T,bo (mvL f ts)=bo ts
 | []=>rfl
 | t::ts=>by rw [mvL,bo,bo,DF f t,QG f ts]
end
theorem Ny {f:Int->Int} {ws:List Int} (h:∀ n∈ws,0<=f n/\f n<=25) {t:T} (g:inT ws t) (a:bY t=true):bY (mvT f t)=true:=by
 rw [bY,bQ] at a ⊢;rw [DF];exact ⟨IY h t 30 g a.1,a.2⟩
theorem Ma (f:Int->Int) (t:T):(mvT f t).kind=t.kind/\(mvT f t).name=t.name/\(mvT f t).kids.length=t.kids.length:=by
 obtain ⟨k,n,s,ks⟩:=t;rw [mvT];exact ⟨rfl,rfl,ld f ks⟩
theorem V7 {f:Int->Int} {ws:List Int} (h:∀ n∈ws,0<=f n/\f n<=25) {t:T} (g:inT ws t) (a:fa t=true):fa (mvT f t)=true:=by
 obtain ⟨i,j,l⟩:=Ma f t;rw [fa,bQ] at a ⊢;refine ⟨Ny h g a.1,?_⟩;have:=a.2;unfold rM hH gi at this ⊢;rw [i,j,l];exact this
theorem Rq {ws:List Int}:∀ {ts:List T},inL ws ts->∀ t∈ts,inT ws t
 | t::ts,h,x,a=>by
  rw [inL] at h;rcases dK.1 a with rfl|a
  ·exact h.1
  ·exact Rq h.2 x a
theorem Kf {c:C} (h:aZ c=true):vD (cC c) c=⟨mvT (pE (cC c)) c.head,mvL (pE (cC c)) c.body⟩/\inT (cC c) c.head/\inL (cC c) c.body/\(cC c).Nodup:=by
 obtain ⟨g,_,_⟩:=Jk h;have a:=pO (c.head::c.body) [];rw [g,inL] at a;have i:(cC c).Nodup:=by rw [<- g];exact lK _ _ Az
 refine ⟨?_,a.1,a.2,i⟩;have j:∀ n∈cC c,ly (cC c) n n 0=pE (cC c) n:=fun n hn=>tE _ n n 0 hn i;rw [vD,On,Fs,RR j _ a.1,DG j _ a.2]
mutual
theorem SQ:∀ (t:T) (l:List Int),okV t->(∀ m∈l,0<=m/\m<26)->∀ m∈ii t l,0<=m/\m<26
 | .mk k n s ks,l,ho,hl=>by
  rw [okV] at ho;rw [ii];refine zZ ks _ ho.2 fun m a=>?_;split at a
  ·rename_i hk
   unfold jw at a;split at a
   ·exact hl m a
   ·rcases cU.1 a with a|a
    ·exact hl m a
    ·have:=ho.1 hk;rw [bM.1 a];omega
  ·exact hl m a
theorem zZ:∀ (ts:List T) (l:List Int),C5 ts->(∀ m∈l,0<=m/\m<26)->∀ m∈ek ts l,0<=m/\m<26
 | [],l,_,hl=>hl
 | t::ts,l,ho,hl=>by
  rw [C5] at ho;rw [ek];exact zZ ts _ ho.2 (SQ t l ho.1 hl)
end
theorem Jd {c:C} (h:aZ c=true):∀ x∈cC c,0<=x/\x<26:=by
 rw [<- (Jk h).1];have a:=Ta h;exact zZ _ [] (by rw [C5];exact ⟨a.1.1,a.2.1⟩) (by simp)
theorem L8 {c:C} (h:aZ c=true):∀ n∈cC c,0<=pE (cC c) n/\pE (cC c) n<=25:=by
 obtain ⟨_,_,_,j⟩:=Kf h;have a:(cC c).length<=26:=by
  refine Dy 26 _ j fun x g=>?_;exact Jd h x g
 intro n hn;obtain ⟨i,_,e,l⟩:=zT hn;omega
theorem I8 {c:C} (h:aZ c=true):aZ (vD (cC c) c)=true:=by
 obtain ⟨e,o,p,_⟩:=Kf h;have m:=L8 h;rw [e];rw [aZ] at h ⊢;simp only [bQ,fF] at h ⊢;obtain ⟨q,r,hc,j⟩:=h;refine ⟨by simpa [ld] using q,fun g i=>?_,Ny m o hc,?_⟩
 ·simp only [Kn,ob] at i;obtain ⟨l,a,rfl⟩:=i;exact V7 m (Rq p l a) (r l a)
 ·obtain ⟨t,B,D⟩:=Ma (pE (cC c)) c.head;unfold hH at j ⊢;simp only [t,B,D];exact j
end
section
open Go Go.RowKit
structure Ist where
 op:Int
 a:Int
 b:Int
 name:ByteArray
deriving DecidableEq
def Ist.cells (x:Ist):List Value:=[ee x.op,ee x.a,ee x.b,.string x.name]
structure CS where
 sl:List Int
 next:Int
 code:List Ist
namespace CS
def emit (s:CS) (x:Ist):CS:=⟨s.sl,s.next,s.code++[x]⟩
def at_ (s:CS) (n:Int):Int:=s.sl[n.toNat]?.getD (-1)
def put (s:CS) (n v:Int):CS:=⟨s.sl.set n.toNat v,s.next,s.code⟩
def inc (s:CS):CS:=⟨s.sl,s.next+1,s.code⟩
end CS
def fy (s:CS) (t:T):CS:=
 if t.kind=2 then s.emit ⟨6,t.n,0,emptyB⟩
 else if 0<=s.at_ t.n then s.emit ⟨5,s.at_ t.n,0,emptyB⟩
 else ((s.put t.n s.next).emit ⟨4,s.next,0,emptyB⟩).inc
def cT (s:CS) (t:T):CS × List (T × Int):=
 if t.kind=3 then ((s.emit ⟨4,s.next,0,emptyB⟩).inc,[(t,s.next)]) else (fy s t,[])
def bE:CS->List T->CS × List (T × Int)
 | s,[]=>(s,[])
 | s,t::ts=>((bE (cT s t).1 ts).1,(cT s t).2++(bE (cT s t).1 ts).2)
def bP (s:CS) (i:Int) (t:T):CS × List (T × Int):=
 if t.kind=2 then (s.emit ⟨2,t.n,i,emptyB⟩,[])
 else if t.kind=1 then (if 0<=s.at_ t.n then s.emit ⟨1,s.at_ t.n,i,emptyB⟩ else s.put t.n i,[])
 else (s,[(t,i)])
def bz:CS->Int->List T->CS × List (T × Int)
 | s,_,[]=>(s,[])
 | s,i,t::ts=>((bz (bP s i t).1 (i+1) ts).1,(bP s i t).2++(bz (bP s i t).1 (i+1) ts).2)
def fC:Nat->CS->List (T × Int)->CS
 | 0,s,_=>s
 | _+1,s,[]=>s
 | f+1,s,x::q=>fC f (bE (s.emit ⟨3,x.1.kids.length,x.2,x.1.name⟩) x.1.kids).1 (q++(bE (s.emit ⟨3,x.1.kids.length,x.2,x.1.name⟩) x.1.kids).2)
def dd:CS->List T->List Int->CS
 | s,t::ts,v::vs=>dd (if t.kind=3 then s.emit ⟨5,v,0,emptyB⟩ else fy s t) ts vs
 | s,_,_=>s
mutual
def bn:T->CS->CS × Int
 | .mk _ _ nm ks,s=>(dd (((bw ks s).1.emit ⟨7,ks.length,(bw ks s).1.next,nm⟩).inc) ks (bw ks s).2,(bw ks s).1.next)
def bw:List T->CS->CS × List Int
 | [],s=>(s,[])
 | t::ts,s=>((bw ts (if t.kind=3 then bn t s else (s,-1)).1).1,(if t.kind=3 then bn t s else (s,-1)).2::(bw ts (if t.kind=3 then bn t s else (s,-1)).1).2)
end
def gb (s:CS) (i:Int) (t:T):CS:=
 if t.kind=2 then s.emit ⟨10,t.n,i,emptyB⟩
 else if t.kind=1 then (if 0<=s.at_ t.n then s.emit ⟨9,s.at_ t.n,i,emptyB⟩ else (s.put t.n s.next).inc.emit ⟨8,s.next,i,emptyB⟩)
 else (bn t s).1.emit ⟨9,(bn t s).2,i,emptyB⟩
def eP:CS->Int->List T->CS
 | s,_,[]=>s
 | s,i,t::ts=>eP (gb s i t) (i+1) ts
def fM (s:CS) (g:T):CS:=
 if rM g=true then s.emit ⟨13,0,0,emptyB⟩ else (eP s 0 g.kids).emit ⟨if gi g=true then 12 else 11,g.kids.length,0,g.name⟩
def dR:CS->List T->CS
 | s,[]=>s
 | s,g::gs=>dR (fM s g) gs
def startC:CS:=⟨List.replicate 26 (-1),4,[]⟩
def cQ:List (T × Int)->Nat
 | []=>0
 | x::q=>(bR x.1).toNat+cQ q
def gq (s:CS) (ks:List T):CS:=fC (cQ (bz s 0 ks).2) (bz s 0 ks).1 (bz s 0 ks).2
def dV (c:C):List Ist:=((dR (gq startC c.head.kids) c.body).emit ⟨14,0,0,emptyB⟩).code

section
variable {f:Int->Int} {ws:List Int}
structure RelC (f:Int->Int) (ws:List Int) (s s':CS):Prop where
 next:s'.next=s.next
 code:s'.code=s.code
 len:s.sl.length=26
 len':s'.sl.length=26
 slots:∀ n∈ws,s'.at_ (f n)=s.at_ n
structure vG (f:Int->Int) (ws:List Int):Prop where
 inj:∀ a∈ws,∀ b∈ws,f a=f b->a=b
 rng:∀ a∈ws,0<=a/\a<26
 rng':∀ a∈ws,0<=f a/\f a<26
theorem RelC.emit {s s':CS} (h:RelC f ws s s') (x:Ist):RelC f ws (s.emit x) (s'.emit x):=
 ⟨h.next,by show s'.code++[x]=s.code++[x];rw [h.code],h.len,h.len',h.slots⟩
theorem RelC.inc {s s':CS} (h:RelC f ws s s'):RelC f ws s.inc s'.inc:=
 ⟨by show s'.next+1=s.next+1;rw [h.next],h.code,h.len,h.len',h.slots⟩
theorem RelC.put (hf:vG f ws) {s s':CS} (h:RelC f ws s s') {n:Int} (hn:n∈ws) (v:Int):RelC f ws (s.put n v) (s'.put (f n) v):=by
 refine ⟨h.next,h.code,(jj ..).trans h.len,(jj ..).trans h.len',fun m a=>?_⟩;show (s'.sl.set (f n).toNat v)[(f m).toNat]?.getD (-1)=(s.sl.set n.toNat v)[m.toNat]?.getD (-1);have i:=hf.rng n hn;have j:=hf.rng m a;have l:=hf.rng' n hn;have o:=hf.rng' m a;rw [BN,BN];by_cases e:n=m
 ·subst e;rw [ag rfl,ag rfl,ag (by rw [h.len'];omega),ag (by rw [h.len];omega)]
 ·have p:¬ f n=f m:=fun g=>e (hf.inj n hn m a g);rw [ae (by omega),ae (by omega)];exact h.slots m a
theorem oj (f:Int->Int) (t:T):(mvT f t).kind=t.kind:=by cases t; rfl
theorem DM (f:Int->Int) (t:T):(mvT f t).name=t.name:=by cases t; rfl
theorem xT (f:Int->Int) (t:T):(mvT f t).kids=mvL f t.kids:=by cases t; rfl
theorem T2 (f:Int->Int) {t:T} (h:t.kind=1):(mvT f t).n=f t.n:=by
 cases t;rename_i k n s ks;have:k=1:=h;subst this;rfl
theorem Tu (f:Int->Int) {t:T} (h:¬ t.kind=1):(mvT f t).n=t.n:=by
 cases t;rename_i k n s ks;have:¬ k=1:=h;rw [mvT,ae this];rfl
theorem So {ws:List Int} {t:T} (h:inT ws t) (hk:t.kind=1):t.n∈ws:=by
 cases t;rw [inT] at h;exact h.1 hk
theorem JJ {ws:List Int} {t:T} (h:inT ws t):inL ws t.kids:=by
 cases t;rw [inT] at h;exact h.2
mutual
def kOk:T->Prop
 | .mk k _ _ ks=>(k=1 ∨ k=2 ∨ k=3)/\nJ ks
def nJ:List T->Prop
 | []=>True
 | t::ts=>kOk t/\nJ ts
end
theorem kOk.kind {t:T} (h:kOk t):t.kind=1 ∨ t.kind=2 ∨ t.kind=3:=by
 cases t;rw [kOk] at h;exact h.1
theorem kOk.kids {t:T} (h:kOk t):nJ t.kids:=by
 cases t;rw [kOk] at h;exact h.2
mutual
theorem HQ:∀ (t:T) (d:Int),dC t d=true->kOk t
 | .mk k n s ks,d,h=>by
  rw [dC] at h;split at h
  ·cases h
  ·rw [bQ] at h;rw [kOk];refine ⟨?_,GA ks _ h.2⟩;have a:=h.1;by_cases g:k=1
   ·exact .inl g
   ·by_cases i:k=2
    ·exact .inr (.inl i)
    ·by_cases j:k=3
     ·exact .inr (.inr j)
     ·exfalso;unfold fR at a;rw [ae (show ¬ (T.mk k n s ks).kind=1 from g),ae (show ¬ (T.mk k n s ks).kind=2 from i),ae (show ¬ (T.mk k n s ks).kind=3 from j)] at a;cases a
theorem GA:∀ (ts:List T) (d:Int),de ts d=true->nJ ts
 | [],_,_=>trivial
 | t::ts,d,h=>by
  rw [de,bQ] at h;rw [nJ];exact ⟨HQ t d h.1,GA ts d h.2⟩
end
theorem I6 {t:T} (h:bY t=true):kOk t:=by
 rw [bY,bQ] at h;exact HQ t _ h.1
theorem MB (hf:vG f ws) {s s':CS} (h:RelC f ws s s') {t:T} (i:inT ws t) (hk:t.kind=1 ∨ t.kind=2):RelC f ws (fy s t) (fy s' (mvT f t)):=by
 unfold fy;rw [oj];by_cases a:t.kind=2
 ·rw [ag a,ag a,Tu f (by omega)];exact h.emit _
 ·have g:t.kind=1:=by omega
  rw [ae a,ae a,T2 f g,h.slots _ (So i g),h.next];split
  ·exact h.emit _
  ·exact ((h.put hf (So i g) _).emit _).inc
def mvQ (f:Int->Int) (q:List (T × Int)):List (T × Int):=q.map fun x=>(mvT f x.1,x.2)
def inQ (ws:List Int) (q:List (T × Int)):Prop:=∀ x∈q,inT ws x.1/\kOk x.1
theorem U9 (hf:vG f ws) {s s':CS} (h:RelC f ws s s') {t:T} (i:inT ws t) (hk:kOk t) :
  RelC f ws (cT s t).1 (cT s' (mvT f t)).1/\(cT s' (mvT f t)).2=mvQ f (cT s t).2/\inQ ws (cT s t).2:=by
 unfold cT;rw [oj];by_cases a:t.kind=3
 ·rw [ag a,ag a,h.next];refine ⟨(h.emit _).inc,rfl,fun x g=>?_⟩;rw [bM.1 g];exact ⟨i,hk⟩
 ·rw [ae a,ae a];exact ⟨MB hf h i (by have:=hk.kind;omega),rfl,fun x g=>by cases g⟩
theorem II (hf:vG f ws):∀ (ts:List T) {s s':CS},RelC f ws s s'->inL ws ts->nJ ts->
  RelC f ws (bE s ts).1 (bE s' (mvL f ts)).1/\(bE s' (mvL f ts)).2=mvQ f (bE s ts).2/\inQ ws (bE s ts).2
 | [],_,_,h,_,_=>⟨h,rfl,fun x a=>by cases a⟩
 | t::ts,s,s',h,hi,hk=>by
  rw [inL] at hi;rw [nJ] at hk;obtain ⟨g,i,j⟩:=U9 hf h hi.1 hk.1;obtain ⟨l,m,b3⟩:=II hf ts g hi.2 hk.2;rw [mvL,bE,bE];refine ⟨l,?_,fun x a=>?_⟩
  ·rw [i,m,mvQ,mvQ,mvQ,zA]
  ·rcases cU.1 a with a|a
   ·exact j x a
   ·exact b3 x a
theorem SF (hf:vG f ws) {s s':CS} (h:RelC f ws s s') (i:Int) {t:T} (l:inT ws t) (hk:kOk t) :
  RelC f ws (bP s i t).1 (bP s' i (mvT f t)).1/\(bP s' i (mvT f t)).2=mvQ f (bP s i t).2/\inQ ws (bP s i t).2:=by
 unfold bP;rw [oj];by_cases j:t.kind=2
 ·rw [ag j,ag j,Tu f (by omega)];exact ⟨h.emit _,rfl,fun x g=>by cases g⟩
 ·rw [ae j,ae j];by_cases a:t.kind=1
  ·rw [ag a,ag a,T2 f a,h.slots _ (So l a)];refine ⟨?_,rfl,fun x g=>by cases g⟩;split
   ·exact h.emit _
   ·exact h.put hf (So l a) _
  ·rw [ae a,ae a];refine ⟨h,rfl,fun x g=>?_⟩;rw [bM.1 g];exact ⟨l,hk⟩
theorem DV (hf:vG f ws):∀ (ts:List T) (i:Int) {s s':CS},RelC f ws s s'->inL ws ts->nJ ts->
  RelC f ws (bz s i ts).1 (bz s' i (mvL f ts)).1/\(bz s' i (mvL f ts)).2=mvQ f (bz s i ts).2/\inQ ws (bz s i ts).2
 | [],_,_,_,h,_,_=>⟨h,rfl,fun x a=>by cases a⟩
 | t::ts,i,s,s',h,hi,hk=>by
  rw [inL] at hi;rw [nJ] at hk;obtain ⟨g,j,l⟩:=SF hf h i hi.1 hk.1;obtain ⟨m,o,b3⟩:=DV hf ts (i+1) g hi.2 hk.2;rw [mvL,bz,bz];refine ⟨m,?_,fun x a=>?_⟩
  ·rw [j,o,mvQ,mvQ,mvQ,zA]
  ·rcases cU.1 a with a|a
   ·exact l x a
   ·exact b3 x a
theorem LH (hf:vG f ws):∀ (k:Nat) (q:List (T × Int)) {s s':CS},RelC f ws s s'->inQ ws q->RelC f ws (fC k s q) (fC k s' (mvQ f q))
 | 0,_,_,_,h,_=>h
 | _+1,[],_,_,h,_=>h
 | k+1,x::q,s,s',h,hq=>by
  obtain ⟨g,hk⟩:=hq x (bF ..);show RelC f ws (fC (k+1) s (x::q)) (fC (k+1) s' ((mvT f x.1,x.2)::mvQ f q));rw [fC,fC];simp only [xT,ld,DM];obtain ⟨i,j,l⟩:=II hf x.1.kids (h.emit ⟨3,x.1.kids.length,x.2,x.1.name⟩) (JJ g) hk.kids;have:=LH hf k (q++(bE (s.emit ⟨3,x.1.kids.length,x.2,x.1.name⟩) x.1.kids).2) i (fun y a=>by
   rcases cU.1 a with a|a
   ·exact hq y (bI _ a)
   ·exact l y a)
  rw [mvQ,zA] at this;rw [j];exact this
theorem Ii (hf:vG f ws):∀ (ts:List T) (vs:List Int) {s s':CS},RelC f ws s s'->inL ws ts->nJ ts->RelC f ws (dd s ts vs) (dd s' (mvL f ts) vs)
 | [],_,_,_,h,_,_=>by rw [mvL,dd,dd];exact h;all_goals simp
 | _::_,[],_,_,h,_,_=>by rw [mvL,dd,dd];exact h;all_goals simp
 | t::ts,v::vs,s,s',h,hi,hk=>by
  rw [inL] at hi;rw [nJ] at hk;rw [mvL,dd,dd,oj];refine Ii hf ts vs ?_ hi.2 hk.2;by_cases a:t.kind=3
  ·rw [ag a,ag a];exact h.emit _
  ·rw [ae a,ae a];exact MB hf h hi.1 (by have:=hk.1.kind;omega)
mutual
theorem Ge (hf:vG f ws):∀ (t:T) {s s':CS},RelC f ws s s'->inT ws t->kOk t->RelC f ws (bn t s).1 (bn (mvT f t) s').1/\(bn (mvT f t) s').2=(bn t s).2
 | .mk k n nm ks,s,s',h,hi,hk=>by
  rw [inT] at hi;rw [kOk] at hk;obtain ⟨a,g⟩:=IA hf ks h hi.2 hk.2;rw [mvT,bn,bn,ld,g,a.next];exact ⟨Ii hf ks _ (a.emit _).inc hi.2 hk.2,rfl⟩
theorem IA (hf:vG f ws):∀ (ts:List T) {s s':CS},RelC f ws s s'->inL ws ts->nJ ts->RelC f ws (bw ts s).1 (bw (mvL f ts) s').1/\(bw (mvL f ts) s').2=(bw ts s).2
 | [],_,_,h,_,_=>by rw [mvL,bw,bw]; exact ⟨h,rfl⟩
 | t::ts,s,s',h,hi,hk=>by
  rw [inL] at hi;rw [nJ] at hk;have g:RelC f ws (if t.kind=3 then bn t s else (s,-1)).1 (if t.kind=3 then bn (mvT f t) s' else (s',-1)).1/\(if t.kind=3 then bn (mvT f t) s' else (s',-1)).2=(if t.kind=3 then bn t s else (s,-1)).2:=by
   by_cases a:t.kind=3
   ·rw [ag a,ag a]; exact Ge hf t h hi.1 hk.1
   ·rw [ae a,ae a]; exact ⟨h,rfl⟩
  rw [mvL,bw,bw,oj];obtain ⟨i,j⟩:=IA hf ts g.1 hi.2 hk.2;exact ⟨i,by rw [g.2,j]⟩
end
theorem Vo (hf:vG f ws) {s s':CS} (h:RelC f ws s s') (i:Int) {t:T} (j:inT ws t) (hk:kOk t):RelC f ws (gb s i t) (gb s' i (mvT f t)):=by
 unfold gb;rw [oj];by_cases g:t.kind=2
 ·rw [ag g,ag g,Tu f (by omega)];exact h.emit _
 ·rw [ae g,ae g];by_cases a:t.kind=1
  ·rw [ag a,ag a,T2 f a,h.slots _ (So j a),h.next];split
   ·exact h.emit _
   ·exact (h.put hf (So j a) _).inc.emit _
  ·rw [ae a,ae a];obtain ⟨l,m⟩:=Ge hf t h j hk;rw [m];exact l.emit _
theorem HF (hf:vG f ws):∀ (ts:List T) (i:Int) {s s':CS},RelC f ws s s'->inL ws ts->nJ ts->RelC f ws (eP s i ts) (eP s' i (mvL f ts))
 | [],_,_,_,h,_,_=>by rw [mvL,eP,eP];exact h
 | t::ts,i,s,s',h,hi,hk=>by
  rw [inL] at hi;rw [nJ] at hk;rw [mvL,eP,eP];exact HF hf ts (i+1) (Vo hf h i hi.1 hk.1) hi.2 hk.2
theorem XJ (f:Int->Int) (t:T):rM (mvT f t)=rM t:=by
 unfold rM;rw [oj,DM,xT,ld]
theorem U7 (f:Int->Int) (t:T):gi (mvT f t)=gi t:=by
 unfold gi;rw [oj,DM,xT,ld]
theorem El (hf:vG f ws):∀ (ts:List T) {s s':CS},RelC f ws s s'->inL ws ts->nJ ts->RelC f ws (dR s ts) (dR s' (mvL f ts))
 | [],_,_,h,_,_=>by rw [mvL,dR,dR];exact h
 | g::ts,s,s',h,hi,hk=>by
  rw [inL] at hi;rw [nJ] at hk;rw [mvL,dR,dR];refine El hf ts ?_ hi.2 hk.2;unfold fM;rw [XJ,U7,xT,ld,DM];split
  ·exact h.emit _
  ·exact (HF hf g.kids 0 h (JJ hi.1) hk.1.kids).emit _
theorem QC (f:Int->Int):∀ q:List (T × Int),cQ (mvQ f q)=cQ q
 | []=>rfl
 | x::q=>by
  show (bR (mvT f x.1)).toNat+cQ (mvQ f q)=_;rw [DF,QC f q];rfl
theorem SJ (hf:vG f ws) {ts:List T} {s s':CS} (h:RelC f ws s s') (a:inL ws ts) (hk:nJ ts):RelC f ws (gq s ts) (gq s' (mvL f ts)):=by
 unfold gq;obtain ⟨g,i,j⟩:=DV hf ts 0 h a hk;rw [i,QC];exact LH hf _ _ g j
theorem SO (hf:vG f ws) {c:C} (a:inT ws c.head) (g:inL ws c.body) (h:kOk c.head) (i:nJ c.body):dV ⟨mvT f c.head,mvL f c.body⟩=dV c:=by
 have j:RelC f ws startC startC:=by
  refine ⟨rfl,rfl,by simp [startC],by simp [startC],fun n hn=>?_⟩;have l:=hf.rng n hn;have m:=hf.rng' n hn;unfold CS.at_ startC;simp only;rw [LK,LK,ag (by omega),ag (by omega)]
 unfold dV;simp only [xT];exact ((El hf c.body (SJ hf j (JJ a) h.kids) g i).emit _).code
end
theorem NP:∀ {ts:List T},(∀ t∈ts,kOk t)->nJ ts
 | [],_=>trivial
 | t::ts,h=>by rw [nJ];exact ⟨h t (bF ..),NP fun x a=>h x (bI _ a)⟩
theorem P7 {c:C} (h:aZ c=true):kOk c.head/\nJ c.body:=by
 rw [aZ] at h;simp only [bQ,fF] at h;refine ⟨I6 h.2.2.1,NP fun t a=>?_⟩;have:=h.2.1 t a;rw [fa,bQ] at this;exact I6 this.1
theorem N9 {c:C} (h:aZ c=true):dV (vD (cC c) c)=dV c:=by
 obtain ⟨e,i,j,_⟩:=Kf h;have hk:=P7 h;rw [e];refine SO (ws:=cC c) ⟨Vg,Jd h,fun a g=>?_⟩ i j hk.1 hk.2;have:=L8 h a g;omega
end
section
open Go Go.RowKit
mutual
def sbT (σ:Int->T):T->T
 | .mk k n s ks=>if k=1 then σ n else .mk k n s (sbL σ ks)
def sbL (σ:Int->T):List T->List T
 | []=>[]
 | t::ts=>sbT σ t::sbL σ ts
end
theorem jp (σ:Int->T):∀ ts:List T,(sbL σ ts).length=ts.length
 | []=>rfl
 | t::ts=>by rw [sbL,aP,jp σ ts,aP]
mutual
theorem Mj (σ τ:Int->T):∀ t:T,sbT σ (sbT τ t)=sbT (fun n=>sbT σ (τ n)) t
 | .mk k n s ks=>by
  by_cases hk:k=1
  ·rw [sbT,ag hk,sbT,ag hk]
  ·rw [sbT,ae hk,sbT,ae hk,sbT,ae hk,yZ σ τ ks]
theorem yZ (σ τ:Int->T):∀ ts:List T,sbL σ (sbL τ ts)=sbL (fun n=>sbT σ (τ n)) ts
 | []=>rfl
 | t::ts=>by rw [sbL,sbL,sbL,Mj σ τ t,yZ σ τ ts]
end
def idS (n:Int):T:=.mk 1 n emptyB []
mutual
theorem X9 {N:Nat}:∀ t:T,okU N t->sbT idS t=t
 | .mk k n s ks,h=>by
  rw [okU] at h;by_cases hk:k=1
  ·obtain ⟨_,_,rfl,rfl⟩:=h.2.1 hk;rw [sbT,ag hk,hk,idS]
  ·rw [sbT,ae hk,Et ks h.2.2.1]
theorem Et {N:Nat}:∀ ts:List T,cM N ts->sbL idS ts=ts
 | [],_=>rfl
 | t::ts,h=>by
  rw [cM] at h;rw [sbL,X9 t h.1,Et ts h.2]
end
theorem VR {t u:T}:qz t u=true↔t.kind=u.kind/\t.n=u.n/\t.name=u.name/\t.kids.length=u.kids.length:=by
 simp [qz]
end
end Go.Proofs.YtjbcdmheajljpaaGreat

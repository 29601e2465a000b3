/- spec.l1Draw, l1Some: a drawn term is readable and light. -/
import Derived.Test.YtgllldjiaglkcaaGreatDoorZUf12
namespace Go.Proofs.YtgllldjiaglkcaaGreatDoor
section
open Go Go.RowKit
theorem uT {l:List Int} {n a b:Int} (f:n∈l) (h:(l.all fun n=>decide (a<=n) && decide (n<=b))=true):a<=n/\n<=b:=by
 rw [dD] at h;have:=h n f;rw [bM,bD,bD] at this;exact this
theorem DY {l:List ByteArray} {s:ByteArray} {m:Nat} (a:s∈l) (h:(l.all fun s=>decide (s.size<=m))=true):s.size<=m:=by
 rw [dD] at h;have:=h s a
 rwa [bD] at this
theorem Po {Q B:Prop} {R:Nat->Prop} (a:Q->B) (f:∀ n,n<3->R n->B):∀ {n:Nat},uE Q R n->n<4->B
 | 0,h,_=>a h
 | n+1,h,hn=>f n (by omega) h
theorem pL:∀ l m:List T,wL (l++m)=wL l+wL m
 | [],m=>by simp [wL]
 | t::l,m=>by simp only [dS,wL,pL l m]; omega
theorem Xm {n:Int} (h:0<=n/\n<26):okU 26 (.mk 1 n emptyB []):=by
 simp only [okU,bL];exact ⟨by decide,fun _=>⟨h.1,h.2,trivial,trivial⟩,trivial,by decide⟩
theorem WR {n:Int}:okU 26 (.mk 2 n emptyB []):=by
 simp only [okU,bL];exact ⟨by decide,(fun h=>by cases h),trivial,by decide⟩
theorem Ln {s:ByteArray} {ts:List T} (a:s.size<=6) (h:bL 26 ts):okU 26 (.mk 3 0 s ts):=by
 simp only [okU];exact ⟨by decide,(fun h=>by cases h),h,a⟩
theorem MS {N:Nat}:∀ {l m:List T},bL N l->bL N m->bL N (l++m)
 | [],_,_,h=>h
 | _::_,_,h,h'=>by
  rw [bL] at h;rw [dS,bL];exact ⟨h.1,MS h.2 h'⟩
theorem pu {S:ae} {k n:Int} (hk:inI k) (hn:inI n):RdT S [.int .i64 k,.int .i64 n,.string ⟨#[]⟩,.slice none 0 0] (.mk k n emptyB []):=
 RdT.iff.2 ⟨_,rfl,hk,hn,bk _,lV S⟩
section
variable {w0 w:World} {X:List Nat} {L:List Item} {S:ae} {K:Value->World->Prop} {P:Program}
attribute [local irreducible] Run CondV aq aK
theorem Run.callL {f:FuncId} {fn:Func} {args:List Value} {I:List Item} {Post:Value->List Item->ae->Prop}
  (hf:P.funcs[f]?=some fn) (hn:(fn.name == "runtime.NumGoroutine" || fn.body.isNone)=false) (h:Inv w0 X L S w) (hc:Tri P f args I S Post) (hL:L=L.dropLast++I)
  (hk:∀ v I' S' w',Post v I' S'->Ext w0.heap.size X S S'->Inv w0 X (L.dropLast++I') S' w'->K v w'):Run P (ff (.func (.func f) #[] #[]) args) w K:=
 Run.callE (A:=L.dropLast) hf hn (hL ▸ h) hc hk
theorem KY {T:TypeId} {a f:Bool} {d:Nat} (hd:d<=1000000) (hk:K (.int .i64 (d:Int)) w):Run P (c9 .sub T a f (.int .i64 ((d+1:Nat):Int)) (.int .i64 1)) w K:=by
 refine kT (by omega) ?_;rw [show ((d+1:Nat):Int) - 1=d by omega];exact hk
theorem LS {B:Prop} {b d:Nat} {c:Array Value} {E:TypeId} {kv xs xa:Value} {css:List (List Value)} {F:Nat->List Item} {Q:List Value->Nat->ae->Prop} {a:Nat} {S1:ae} {cs:List Value} {t:T}
  (g:Q cs a S1) (f:RdT S1 cs t) (h:Inv w0 X (.blk b (.cells c E)::aA kv ab 4 css::F a) S1 w):uE B (DL w0 X b c d E kv css F Q (.agg cs.toArray) xs xa w) 1:=
 ⟨a,S1,cs,g,⟨f.length,f.one⟩,rfl,h⟩
end
section
variable {br:Nat} {sl:Value} {ys:List Nat}
attribute [local irreducible] Run CondV aq aK
abbrev Pa (br:Nat) (sl:Value) (ys:List Nat) (d:Nat):Prop:=∀ (p:Nat) (S:ae),RdSl S 1 oD sl ys->p+3 * dW d<=1000000000->Tri Tryz.prog OX [rdP br,.int .i64 (d:Int)] [rdI br sl p] S (Y9 br sl p d)
theorem JJ {d:Nat} (d0:d<=4) (ih:∀ V,V+1=d->Pa br sl ys V):Pa br sl ys d:=by
 intro p S M hp w f;have hW:=VV d;refine CD.2 ?_;dsimp only[CD,bm];refine aQ f bj fun b4 w' f=>?_;have f:Inv w [br] [.blk b4 (.cells #[.int .i64 0,.int .i64 0,.string ⟨#[]⟩,.slice none 0 0] ab),rdI br sl p] S w':=f.last 0 rfl;refine ⟨fun v w'=>∃ (c:Bool) (p1:Nat),v=.bool c/\p1<=p+1/\(c=false->2<=d)/\Inv w [br] [.blk b4 (.cells #[.int .i64 0,.int .i64 0,.string ⟨#[]⟩,.slice none 0 0] ab),rdI br sl p1] S w',?_,?_⟩
 ·refine bS ?_;by_cases hd:(d:Int)<2
  ·rw [aN hd];refine rpG ?_;exact ⟨true,p,rfl,by omega,(fun h=>by cases h),f⟩
  ·rw [ba hd];refine rpG ?_;refine Run.callL ct cr f (dJ (n:=4) M (by omega) (by omega)) rfl fun v' I' S' w'=>?_;rintro ⟨rfl,rfl,k,hk,rfl⟩ _ f;refine bw ?_;refine rpG ?_;exact ⟨_,p+1,rfl,by omega,fun _=>by omega,f⟩
 intro d1 _ _ _ _ _ _ w';rintro ⟨c,p1,rfl,d2,c4,f⟩;refine aD (fun _=>?_) (fun hc=>?_)
 ·refine Run.callL ct cr f (dJ (n:=4) M (by omega) (by omega)) rfl fun v' I' S' w'=>?_;rintro ⟨rfl,rfl,k,hk,rfl⟩ _ f;have f:Inv w [br] [.blk b4 (.cells #[.int .i64 0,.int .i64 0,.string ⟨#[]⟩,.slice none 0 0] ab),rdI br sl (p1+1)] S' w':=f;refine bw ?_;refine aL (fun _=>?_) (fun _=>?_)
  ·refine Run.callL ct cr f (dJ (n:=4) M (by omega) (by omega)) rfl fun v' I' S1 w'=>?_;rintro ⟨rfl,rfl,k,hk,rfl⟩ _ f;refine Run.callPure GS Et f (vH k S1) fun w' f=>?_;refine au f 0 rfl ad rfl rfl (by simp [Value.oneCell']) fun w' f=>?_;refine bB f 0 ad rfl rfl ?_;exact ⟨_,_,S1,rfl,f.pick [false,true],Ext.refl _ _ _,p1+2,by omega,rfl,_,_,rfl,pu (by simp [inI]) (by simp only [inI]; omega),by have e:emptyB.size=0:=rfl; simp only [wT,wL,bW,e]; omega,Xm (by omega)⟩
  refine bw ?_;refine aL (fun _=>?_) (fun _=>?_)
  ·refine Bg f (by kernel_rfl) rfl (by omega) fun v S1 w' r hv f=>?_;refine Run.callL fK fI f (ma (p:=p1+1) (M.monoU r.1) hv (by decide) (by omega)) rfl fun v' I' S2 w'=>?_;rintro ⟨rfl,rfl,n,hn,rfl⟩ _ f;have hn:=uT (a:=-1000) (b:=1000) hn (by decide);refine Run.callPure wG wJ f (oC n S2) fun w' f=>?_;refine au f 0 rfl ad rfl rfl (by simp [Value.oneCell']) fun w' f=>?_;refine bB f 0 ad rfl rfl ?_;exact ⟨_,_,S2,rfl,f.pick [false,true],r,p1+2,by omega,rfl,_,_,rfl,pu (by simp [inI]) (by simp only [inI]; omega),by have e:emptyB.size=0:=rfl; simp only [wT,wL,bW,e]; omega,WR⟩
  ·refine qA f (by kernel_rfl) rfl (by omega) fun v S1 w' r hv f=>?_;refine Run.callL kF kG f (xH (p:=p1+1) (M.monoU r.1) hv (by decide) (by omega)) rfl fun v' I' S2 w'=>?_;rintro ⟨rfl,rfl,s,hs,rfl⟩ _ f;have hs:=DY (m:=3) hs (by decide);refine Run.call0E dQ dR f (eK s (by simp only [maxLen]; omega) (lV S2) (by simp)) fun v' I' S3 w'=>?_;rintro ⟨rfl,cs,rfl,g⟩ Z f;refine au f 0 rfl ad (by simpa using g.length) rfl (by simpa using g.one) fun w' f=>?_;refine bB f 0 ad rfl (by simpa using g.length) ?_;exact ⟨_,_,S3,rfl,f.pick [false,true],r.trans Z,p1+2,by omega,rfl,_,_,rfl,g,by simp only [wT,wL,bW]; omega,Ln (by omega) (by simp only [bL])⟩
 obtain ⟨V,rfl⟩:∃ V,d=V+1:=⟨d - 1,by have:=c4 hc; omega⟩
 have ih:=ih V rfl;have hD:=VV V;have f0:=Xv V;have h3:dW V<=486:=by
  have:3 ^ V<=3 ^ 4:=PM (by omega) (by omega);simp only [dW]; omega
 refine Run.callL ct cr f (dJ (n:=3) M (by omega) (by omega)) rfl fun v' I' S w'=>?_;rintro ⟨rfl,rfl,k,hk,rfl⟩ _ f;refine bw ?_;refine aL (fun _=>?_) (fun _=>?_)
 ·refine KY (by omega) ?_;refine Run.callL nX ol f (ih (p1+1) S M (by omega)) rfl fun v' I' S1 w'=>?_;rintro ⟨p2,a9,rfl,d3,t1,rfl,a6,d4,c5⟩ r f;refine KY (by omega) ?_;refine Run.callL nX ol f (ih p2 S1 (M.monoU r.1) (by omega)) rfl fun v' I' S2 w'=>?_;rintro ⟨p3,b0,rfl,d6,t2,rfl,b3,d7,c6⟩ b6 f;have a6:=RdT.mono b6.1 a6;obtain ⟨e8,rfl,_,_,_,a1,q1,rfl,_⟩:=RdT.iff.1 a6;obtain ⟨e9,rfl,_,_,_,a2,q2,rfl,_⟩:=RdT.iff.1 b3;refine wD (v:=fun b=>.slice (some ⟨b,0,none⟩) 2 2) (o:=.cells #[.int .i64 t1.kind,.int .i64 t1.n,.string t1.name,.slice a1 t1.kids.length q1,.int .i64 t2.kind,.int .i64 t2.n,.string t2.name,.slice a2 t2.kids.length q2] ab) f (by kernel_rfl) fun b w' f=>?_;have f:Inv w [br] ([.blk b4 (.cells #[.int .i64 0,.int .i64 0,.string ⟨#[]⟩,.slice none 0 0] ab),rdI br sl p3]++[_]) S2 w':=f;obtain ⟨S3,f,Z,O⟩:=f.pub1;refine Run.call0E dQ dR f (eK ⟨#[46]⟩ (by decide) (Qc O (a6.mono Z.1) (b3.mono Z.1)) (by simp)) fun v' I' S4 w'=>?_;rintro ⟨rfl,cs,rfl,g⟩ a5 f;refine au f 0 rfl ad (by simpa using g.length) rfl (by simpa using g.one) fun w' f=>?_;refine bB f 0 ad rfl (by simpa using g.length) ?_;refine ⟨_,_,S4,rfl,f.pick [false,true],(r.trans b6).trans (Z.trans a5),p3,by omega,rfl,_,_,rfl,g,?_,Ln (by decide) (by simp only [bL]; exact ⟨c5,c6,trivial⟩)⟩;have e:(ByteArray.mk #[46]).size=1:=rfl;simp only [wT,wL,bq,bW,e];omega
 ·refine qA f (by kernel_rfl) rfl (by omega) fun v S1 w' r hv f=>?_;refine Run.callL kF kG f (xH (p:=p1+1) (M.monoU r.1) hv (by decide) (by omega)) rfl fun v' I' S2 w'=>?_;rintro ⟨rfl,rfl,s,hs,rfl⟩ _ f;have hs:=DY (m:=3) hs (by decide);refine Run.call0E dQ dR f (z3 s (lV S2) (by simp)) fun v' I' S3 w'=>?_;rintro ⟨rfl,kv0,a7,rfl,rfl,c7⟩ Z f;refine aQ f bj fun b5 w' f=>?_;obtain ⟨a0,n0,q0,rfl⟩:=f.rowSlice 2 rfl;refine au f 3 rfl ad rfl rfl (by simp [Value.oneCell']) fun w' f=>?_;obtain ⟨B4,c0⟩:∃ B4,B4=Item.blk b4 (.cells #[.int .i64 0,.int .i64 0,.string ⟨#[]⟩,.slice none 0 0] ab):=⟨_,rfl⟩
  have f:Inv w [br] [.blk b5 (.cells #[.int .i64 3,.int .i64 0,.string s,.slice a0 n0 q0] ab),aA (.slice a0 n0 q0) ab 4 a7,B4,rdI br sl (p1+2)] S3 w':=by
   rw [c0];exact ((f.last 2 rfl).last 0 rfl).last 0 rfl
  refine Bg f (by kernel_rfl) rfl (by omega) fun v S4 w' a5 hv f=>?_;refine Run.callL fK fI f (ma (p:=p1+2) (M.monoU ((r.trans Z).trans a5).1) hv (by decide) (by omega)) rfl fun v' I' S5 w'=>?_;rintro ⟨rfl,rfl,n,hn,rfl⟩ _ f;have hn:=uT (a:=1) (b:=3) hn (by decide);have c9:Ext w.heap.size [br] S S5:=(r.trans Z).trans a5;refine ⟨fun t w'=>∃ (j p2:Nat) (S6:ae) (kv:Value) (css:List (List Value)) (ts:List T),bL 26 ts/\t=.int .i64 (j:Int)/\ts.length+j<=3/\Rows 4 (RdT S6) css ts/\wL ts+3 * ts.length<=ts.length * dW V/\p2+2 * ts.length<=p1+3+ts.length * dW V/\Ext w.heap.size [br] S S6/\
   Inv w [br] [.blk b5 (.cells #[.int .i64 3,.int .i64 0,.string s,kv] ab),aA kv ab 4 css,B4,rdI br sl p2] S6 w',fun t _=>(intOf t).toNat,
   ⟨n.toNat,p1+3,S5,_,a7,[],by simp only [bL],by rw [nR (by omega)],by simp; omega,c7.monoR fun _ _ h=>RdT.mono a5.1 h,by simp [wL],by simp,c9,f⟩,?_⟩
  intro t6 _ _ d9 e0 e1 e2 e3 e4 e5 e6 e7 _ _ w';rintro ⟨j,p2,S6,kv,css,ts,b7,rfl,hj,hR,a8,a9,b1,f⟩;have f1:=hR.hc;have hm:ts.length * dW V<=3 * dW V:=gM _ (by omega);refine eP ?_;refine aL (fun c8=>?_) (fun c8=>?_)
  ·obtain ⟨j',rfl⟩:∃ j',j=j'+1:=⟨j - 1,by omega⟩
   refine ⟨fun D IK EQ Gi Eh Fa EG E3 GO JR w_=>Fx D 0 [JR=.pointer (some ⟨b5,3,none⟩),GO=kv,E3=rdP br,EG=.int .i64 ((V+1:Nat):Int),Fa=.int .i64 (V:Int),True,True,True,IK=.pointer (some ⟨b5,3,none⟩),True]/\∃ Y:Nat,Y<=4/\D 5=decide (1<=Y)/\D 6=decide (2<=Y)/\D 7=decide (3<=Y)/\D 9=decide (4<=Y)/\(D 9=true->D 1=true)/\(uE (Inv w [br] [.blk b5 (.cells #[.int .i64 3,.int .i64 0,.string s,kv] ab),aA kv ab 4 css,B4,rdI br sl p2] S6 w_) (DL w [br] b5 #[.int .i64 3,.int .i64 0,.string s,kv] 3 ab kv css (fun p=>[B4,rdI br sl p]) (fun cs p' S'=>∃ t,okU 26 t/\RdT S' cs t/\wT t+3<=dW V/\p'+2<=p2+dW V/\Ext w.heap.size [br] S6 S') Eh Gi EQ w_) Y),⟨Fx.nil _ _,⟨0,bk _,rfl,rfl,rfl,rfl,(aI),f.draw⟩⟩,⟨?_,?_,?_,?_,?_,?_,?_,?_,?_,?_,trivial⟩,?_⟩;all_goals (intro D bH; intros; rename_i IK EQ Gi Eh Fa EG E3 GO JR w_ b8; have N:=b8.1; obtain ⟨⟨cI,cJ,cH,cD,cL,cN,cq,dg,dG,dL,_⟩,⟨Y,a4,B,G,J,l,U,O⟩⟩:=b8)
   ·refine aw ar ?_;exact ⟨N.set 0 rfl,⟨Y,a4,B,G,J,l,U,O⟩⟩
   ·obtain rfl:=cI ‹_›;have c2:=WB l U bH;refine cQ al ((Po (fun h=>h.cellL (i:=0) rfl) (fun n hn h=>Kd h hn) O c2).trans rfl) ?_;exact ⟨N.set 1 rfl,⟨Y,a4,B,G,J,l,(fun _=>rfl),O⟩⟩
   ·exact ⟨N.set 2 rfl,⟨Y,a4,B,G,J,l,U,O⟩⟩
   ·exact ⟨N.set 3 rfl,⟨Y,a4,B,G,J,l,U,O⟩⟩
   ·obtain rfl:=cD ‹_›;refine KY (by omega) ?_;exact ⟨N.set 4 rfl,⟨Y,a4,B,G,J,l,U,O⟩⟩
   ·obtain rfl:=cH ‹_›;obtain rfl:=cL ‹_›;obtain rfl:Y=0:=WL B bH;refine Run.callL nX ol (L:=[.blk b5 _,aA _ ab 4 css,B4,rdI br sl p2]) O (ih p2 S6 (M.monoU b1.1) (by omega)) rfl fun v' I' S7 w_=>?_;rintro ⟨p3,b0,rfl,cs,t,rfl,g,b9,b2⟩ a3 f;exact ⟨N.set 5 (by first|assumption|trivial),⟨1,by decide,rfl,(by first|exact G|rfl),(by first|exact J|rfl),(by first|exact l|rfl),U,LS ⟨t,b2,g,b9,b0,a3⟩ g f⟩⟩
   ·have Hj:=cN ‹_›;obtain rfl:Y=1:=At B ‹D 5=true› G bH;refine ap1 O fun u w_ O=>?_;exact ⟨N.set 6 (by first|assumption|trivial),⟨2,by decide,(by first|exact B|rfl),rfl,(by first|exact J|rfl),(by first|exact l|rfl),U,O⟩⟩
   ·obtain rfl:=cJ ‹_›;have Me:=cq ‹_›;obtain rfl:Y=2:=At G ‹D 6=true› J bH;refine ap2 O (by omega) fun u w_ O=>?_;exact ⟨N.set 7 (by first|assumption|trivial),⟨3,by decide,(by first|exact B|rfl),(by first|exact G|rfl),rfl,(by first|exact l|rfl),U,O⟩⟩
   ·refine aw ar ?_;exact ⟨N.set 8 rfl,⟨Y,a4,B,G,J,l,U,O⟩⟩
   ·obtain rfl:=dG ‹_›;have WA:=dg ‹_›;obtain rfl:Y=3:=At J ‹D 7=true› l bH;refine ap3 O (by simp) fun w_ O=>?_;exact ⟨N.set 9 trivial,⟨4,by decide,(by first|exact B|rfl),(by first|exact G|rfl),(by first|exact J|rfl),rfl,(fun _=>‹D 1=true›),O⟩⟩
   obtain rfl:Y=4:=XP a4 l ‹D 9=true›;clear B G J l;obtain ⟨p3,S7,cs,⟨t,b2,g,b9,b0,a3⟩,hl,f⟩:=O;refine KY (by omega) ?_;refine ⟨⟨j',p3,S7,_,_,ts++[t],MS b7 (by simp only [bL]; exact ⟨b2,trivial⟩),rfl,by rw [bA]; simp only [bq,bW]; omega,(hR.monoR fun _ _ h=>RdT.mono a3.1 h).snoc g hl.1,?_,?_,b1.trans a3,f⟩,by simp only [intOf,cu]; omega⟩
   ·rw [pL,bA,bq,bW,AO];simp only [wL];omega
   ·rw [bA,bq,bW,AO];omega
  ·have f:Inv w [br] ([.blk b5 (.cells #[.int .i64 3,.int .i64 0,.string s,kv] ab),B4,rdI br sl p2]++[aA kv ab 4 css]) S6 w':=f.last 1 rfl;refine aC f 0 ad rfl rfl ?_;obtain ⟨S7,a3,c1,f⟩:=Inv.lendExt f;have c3:=RowRd.rows (hR.monoR fun _ _ h=>RdT.mono a3.1 h) c1;obtain ⟨a,q,rfl,_⟩:=id c3;subst c0;refine au f 1 rfl ad rfl rfl (by simp [Value.oneCell']) fun w' f=>?_;refine bB f 1 ad rfl rfl ?_;refine ⟨_,_,S7,rfl,f.pick [false,false,true],b1.trans a3,p2,?_,rfl,[.int .i64 3,.int .i64 0,.string s,_],.mk 3 0 s ts,rfl,RdT.iff.2 ⟨_,rfl,by simp [inI,T.kind],by simp [inI,T.n],by simp only [T.name,maxLen]; omega,c3⟩,?_,Ln (by omega) b7⟩
   ·have:ts.length=0 ∨ ts.length=1 ∨ ts.length=2 ∨ ts.length=3:=by omega
    rcases this with h|h|h|h <;> rw [h] at a9 a8 <;> omega
   ·simp only [wT];have:ts.length=0 ∨ ts.length=1 ∨ ts.length=2 ∨ ts.length=3:=by omega
    rcases this with h|h|h|h <;> rw [h] at a9 a8 ⊢ <;> omega
theorem z2:∀ d:Nat,d<=4->Pa br sl ys d
 | 0,h=>JJ h fun a e=>by omega
 | d+1,h=>JJ h fun a e=>by
  obtain rfl:a=d:=by omega
  exact z2 _ (by omega)
abbrev UQ (br:Nat) (sl:Value) (p k m:Nat):Value->List Item->ae->Prop:=fun v I' S'=>∃ p',p'<=p+k/\I'=[rdI br sl p']/\∃ cs t,v=.agg cs.toArray/\RdT S' cs t/\wT t<=m
theorem yL {p:Nat} {S:ae} (i:RdSl S 1 oD sl ys) (G:p<=400000000):Tri Tryz.prog OU [rdP br] [rdI br sl p] S (UQ br sl p 500 500):=by
 intro w f;refine CM.2 ?_;dsimp only[CM,aO];refine aQ f bj fun r w' f=>?_;have f:Inv w [br] [.blk r (.cells #[.int .i64 0,.int .i64 0,.string ⟨#[]⟩,.slice none 0 0] ab),rdI br sl p] S w':=f.last 0 rfl;refine Bg f (by kernel_rfl) rfl (by omega) fun v S1 w' h B f=>?_;refine Run.callL fK fI f (ma (p:=p) (i.monoU h.1) B (by decide) (by omega)) rfl fun D I' S2 w'=>?_;rintro ⟨rfl,rfl,n,hn,rfl⟩ _ f;have hn:=uT (a:=1) (b:=4) hn (by decide);obtain ⟨m,rfl⟩:∃ m:Nat,n=m:=⟨n.toNat,by rw [nR (by omega)]⟩
 have M:dW m<=486:=by
  have:3 ^ m<=3 ^ 4:=PM (by omega) (by omega);simp only [dW]; omega
 refine Run.callL nX ol f (z2 m (by omega) (p+1) S2 (i.monoU h.1) (by omega)) rfl fun D I' S3 w'=>?_;rintro ⟨o,q,rfl,cs,t,rfl,g,J,_⟩ l f;refine au f 0 rfl ad (by simpa using g.length) rfl (by simpa using g.one) fun w' f=>?_;refine bB f 0 ad rfl (by simpa using g.length) ?_;exact ⟨_,_,S3,rfl,f.pick [false,true],h.trans l,o,by omega,rfl,cs,t,rfl,g,by omega⟩
end
end
section
open Go Go.RowKit
def BN (w:World) (b o:Nat):Nat:=match w.cell? ⟨b,o,none⟩ with
 | some (.slice _ n _)=>n
 | _=>0
theorem WU {Q Q2 B:Prop} {R:Nat->Prop} (a:Q->B) (f:Q2->B) (g:∀ n,n<3->R n->B):∀ {n:Nat},uE Q (uE Q2 R) n->n<5->B
 | 0,h,_=>a h
 | 1,h,_=>f h
 | n+2,h,hn=>g n (by omega) h
theorem R7 {Q:Prop} {R:Nat->Prop} {n:Nat} (h:R n):uE Q R (n+1):=h
theorem JH {Q:Prop} {R:Nat->Prop} {n:Nat} (h:uE Q R (n+1)):R n:=h
section
variable {w0 w:World} {X:List Nat} {L A:List Item} {S:ae} {K:Value->World->Prop} {P:Program}
attribute [local irreducible] Run CondV aq aK
theorem zK (h:Inv w0 X L S w) {i b o:Nat} {c:Array Value} {E:TypeId} {a:Option Addr} {n m:Nat} (f:L[i]?=some (.blk b (.cells c E))) (hc:c[o]?=some (.slice a n m)):BN w b o=n:=by
 rw [BN,h.cellL f,hc]
theorem zW {b:Nat} {k n:Int} {s:ByteArray} {kv:Value} {css:List (List Value)} {ks:List T} {o:Obj}
  (a:Inv w0 X (.blk b o::aA kv ab 4 css::A) S w) (hR:Rows 4 (RdT S) css ks) (hk:inI k) (hn:inI n) (l:s.size<=maxLen) :
  ∃ S',Ext w0.heap.size X S S'/\Inv w0 X (.blk b o::A) S' w/\RdT S' [.int .i64 k,.int .i64 n,.string s,kv] (.mk k n s ks)/\RdSl S' 4 (RdT S') kv ks:=by
 have a:Inv w0 X ((.blk b o::A)++[aA kv ab 4 css]) S w:=a.last 1 rfl;obtain ⟨S',i,g,a⟩:=Inv.lendExt a;have f:=RowRd.rows (hR.monoR fun _ _ h=>RdT.mono i.1 h) g;exact ⟨S',i,a,RdT.iff.2 ⟨_,rfl,hk,hn,l,f⟩,f⟩
end
section
variable {br:Nat} {sl:Value} {ys:List Nat}
attribute [local irreducible] Run CondV aq aK
theorem tJ {p:Nat} {S:ae} {cs:List Value} {t:T} (a5:RdSl S 1 oD sl ys) (h:RdT S cs t) (hw:wT t<=100000) (hp:p<=400000000) :
  Tri Tryz.prog Lh [rdP br,.agg cs.toArray] [rdI br sl p] S (UQ br sl p 2 (wT t+100)):=by
 intro w f;have h0:=h;obtain ⟨kv0,rfl,hk,hn,hs,e2⟩:=RdT.iff.1 h;refine vN.2 ?_;dsimp only[vN,bm];refine bJ f fun b3 w' f=>?_;refine aQ f bj fun b4 w' f=>?_;refine aC f 1 ad rfl rfl ?_;refine Run.call0E fP fO f (TF t S _ h0 (by omega)) fun v' I' S1 w'=>?_;rintro ⟨kv,css,rfl,rfl,hR⟩ r f;have r:Ext w.heap.size [br] S S1:=r;obtain ⟨a0,n0,q0,rfl⟩:=f.rowSlice 3 rfl;refine aQ f bj fun Y w' f=>?_;refine au f 4 rfl ad rfl rfl (by simp [Value.oneCell']) fun w' f=>?_;obtain ⟨B4,b9⟩:∃ B4,B4=Item.blk b4 (.cells #[.int .i64 0,.int .i64 0,.string ⟨#[]⟩,.slice none 0 0] ab):=⟨_,rfl⟩
 obtain ⟨k,a9⟩:∃ k,k=t.kind:=⟨_,rfl⟩
 obtain ⟨n,b0⟩:∃ n,n=t.n:=⟨_,rfl⟩
 obtain ⟨s,a6⟩:∃ s,s=t.name:=⟨_,rfl⟩
 have c9:wT t=s.size+t.kids.length+wL t.kids:=by rw [a6]; cases t; rw [wT]; rfl
 rw [<- a9,<- b0,<- a6] at f;rw [<- a9] at hk;rw [<- b0] at hn;rw [<- a6] at hs;have f:Inv w [br] [.blk Y (.cells #[.int .i64 k,.int .i64 n,.string s,.slice a0 n0 q0] ab),aA (.slice a0 n0 q0) ab 4 css,B4,rdI br sl p] S1 w':=by
  rw [b9];exact (((f.pick [true,false,true,true,true]).last 2 rfl).last 1 rfl).last 0 rfl
 refine ⟨fun w'=>∃ (p1:Nat) (S2:ae) (l:List Value) (t1:T),p1<=p+2/\Ext w.heap.size [br] S S2/\RdT S2 l t1/\wT t1<=wT t+100/\Inv w [br] [.blk Y (.cells l.toArray ab),B4,rdI br sl p1] S2 w',?_,?_⟩
 ·have V:∀ {k n:Int} {s1:ByteArray} {p1:Nat} {w':World} {S1:ae} {css:List (List Value)} {kv:Value} {ks:List T},Ext w.heap.size [br] S S1->p1<=p+2->inI k->inI n->s1.size<=s.size+7->Rows 4 (RdT S1) css ks->ks.length<=t.kids.length+5->wL ks<=wL t.kids->
    Inv w [br] [.blk Y (.cells #[.int .i64 k,.int .i64 n,.string s1,kv] ab),aA kv ab 4 css,B4,rdI br sl p1] S1 w'->
    ∃ (p1:Nat) (S2:ae) (l:List Value) (t1:T),p1<=p+2/\Ext w.heap.size [br] S S2/\RdT S2 l t1/\wT t1<=wT t+100/\Inv w [br] [.blk Y (.cells l.toArray ab),B4,rdI br sl p1] S2 w':=by
   intro k n s1 p1 w' S1 css kv ks hE a8 hk hn d2 hR b1 b2 f;obtain ⟨S2,O,f,G,_⟩:=zW (s:=s1) f hR hk hn (by simp only [maxLen]; omega);exact ⟨p1,S2,_,_,a8,hE.trans O,G,by rw [wT,c9]; omega,f⟩
  refine Run.callL ct cr f (dJ (n:=50) (a5.monoU r.1) (by omega) (by omega)) rfl fun v' I' S1 w'=>?_;rintro ⟨rfl,rfl,kk,d3,rfl⟩ _ f;refine bw ?_;refine aL (fun _=>?_) (fun _=>?_)
  ·refine Bg f (by kernel_rfl) rfl (by omega) fun v S3 w' g hv f=>?_;refine Run.callL fK fI f (ma (p:=p+1) (a5.monoU (r.trans g).1) hv (by decide) (by omega)) rfl fun v' I' S3 w'=>?_;rintro ⟨rfl,rfl,m,hm,rfl⟩ _ f;have hm:=uT (a:=-1000) (b:=1000) hm (by decide);refine dj f 0 rfl aW aG rfl rfl rfl fun w' f=>?_;exact V (r.trans g) (aS _) (by simp only [inI]; omega) hn (by omega) (hR.monoR fun _ _ h=>RdT.mono g.1 h) (by omega) (aS _) f
  refine bw ?_;refine aL (fun _=>?_) (fun _=>?_)
  ·refine Bg f (by kernel_rfl) rfl (by omega) fun v S3 w' g hv f=>?_;refine Run.callL fK fI f (ma (p:=p+1) (a5.monoU (r.trans g).1) hv (by decide) (by omega)) rfl fun v' I' S3 w'=>?_;rintro ⟨rfl,rfl,m,hm,rfl⟩ _ f;have hm:=uT (a:=-1000) (b:=1000) hm (by decide);refine dj f 0 rfl bi aG rfl rfl rfl fun w' f=>?_;exact V (r.trans g) (aS _) hk (by simp only [inI]; omega) (by omega) (hR.monoR fun _ _ h=>RdT.mono g.1 h) (by omega) (aS _) f
  refine bw ?_;refine aL (fun _=>?_) (fun _=>?_)
  ·refine qA f (by kernel_rfl) rfl (by omega) fun v S3 w' g hv f=>?_;refine Run.callL kF kG f (xH (p:=p+1) (a5.monoU (r.trans g).1) hv (by decide) (by omega)) rfl fun v' I' S3 w'=>?_;rintro ⟨rfl,rfl,m,hm,rfl⟩ _ f;have hm:=DY (m:=7) hm (by decide);refine dj f 0 rfl bl be rfl rfl rfl fun w' f=>?_;exact V (r.trans g) (aS _) hk hn (by omega) (hR.monoR fun _ _ h=>RdT.mono g.1 h) (by omega) (aS _) f
  refine bw ?_;refine aL (fun _=>?_) (fun _=>?_)
  ·refine ⟨fun w'=>∃ (S2:ae) (kv:Value) (css:List (List Value)) (ks:List T),Ext w.heap.size [br] S S2/\Rows 4 (RdT S2) css ks/\ks.length<=t.kids.length+5/\wL ks<=wL t.kids/\
     Inv w [br] [.blk Y (.cells #[.int .i64 k,.int .i64 n,.string s,kv] ab),aA kv ab 4 css,B4,rdI br sl (p+1)] S2 w',fun w'=>5 - BN w' Y 3,⟨S1,_,css,t.kids,r,hR,by omega,aS _,f⟩,?_⟩
   intro d4 d6 d7 d9 e0 e1 _ _ _ _ w';rintro ⟨S2,kv,css,ks,O,hR,b1,b2,f⟩;obtain ⟨a1,n1,q1,rfl,c7⟩:∃ a m c,kv=.slice a m c/\m=ks.length:=by
    obtain ⟨S',_,_,_,G⟩:=zW f hR hk hn hs;obtain ⟨a,q,rfl,_⟩:=G;exact ⟨a,_,q,rfl,rfl⟩
   subst c7;have d0:=zK f (i:=0) (o:=3) rfl rfl;have e3:=hR.hc;refine af f 0 rfl ar al rfl ?_;refine iA ah ?_;refine fU ?_;refine aL (fun c5=>?_) (fun c5=>?_)
   ·have f:=f;refine ⟨fun D xC oJ qd vj sy sr w_=>Fx D 0 [sr=.pointer (some ⟨Y,3,none⟩),sy=.slice a1 ks.length q1,True,True,True,xC=.pointer (some ⟨Y,3,none⟩),True]/\∃ Z:Nat,Z<=4/\D 2=decide (1<=Z)/\D 3=decide (2<=Z)/\D 4=decide (3<=Z)/\D 6=decide (4<=Z)/\(D 6=true->D 1=true)/\(uE (Inv w [br] [.blk Y (.cells #[.int .i64 k,.int .i64 n,.string s,.slice a1 ks.length q1] ab),aA (.slice a1 ks.length q1) ab 4 css,B4,rdI br sl (p+1)] S2 w_) (DL w [br] Y #[.int .i64 k,.int .i64 n,.string s,.slice a1 ks.length q1] 3 ab (.slice a1 ks.length q1) css (fun p=>[B4,rdI br sl (p+1)]) (fun cs p' S'=>p'=p/\S'=S2/\RdT S2 cs (.mk 2 1 emptyB [])) vj qd oJ w_) Z),⟨Fx.nil _ _,⟨0,bk _,rfl,rfl,rfl,rfl,(aI),f.draw⟩⟩,⟨?_,?_,?_,?_,?_,?_,?_,trivial⟩,?_⟩;all_goals (intro D bH; intros; rename_i xC oJ qd vj sy sr w_ b6; have a2:=b6.1; obtain ⟨⟨cI,cJ,cH,cD,cL,cN,cq,_⟩,⟨Z,a7,J,M,N,B,a3,U⟩⟩:=b6)
    ·refine aw ar ?_;exact ⟨a2.set 0 rfl,⟨Z,a7,J,M,N,B,a3,U⟩⟩
    ·obtain rfl:=cI ‹_›;have c1:=WB B a3 bH;refine cQ al ((Po (fun h=>h.cellL (i:=0) rfl) (fun n hn h=>Kd h hn) U c1).trans rfl) ?_;exact ⟨a2.set 1 rfl,⟨Z,a7,J,M,N,B,(fun _=>rfl),U⟩⟩
    ·obtain rfl:Z=0:=WL J bH;refine Run.callPure wG wJ (L:=[.blk Y _,aA _ ab 4 css,B4,rdI br sl (p+1)]) U (oC 1 S2) fun w_ f=>?_;exact ⟨a2.set 2 (by first|assumption|trivial),⟨1,by decide,rfl,(by first|exact M|rfl),(by first|exact N|rfl),(by first|exact B|rfl),a3,LS ⟨rfl,rfl,pu (by simp [inI]) (by simp [inI])⟩ (pu (by simp [inI]) (by simp [inI])) f⟩⟩
    ·have YE:=cH ‹_›;obtain rfl:Z=1:=At J ‹D 2=true› M bH;refine ap1 U fun u w_ U=>?_;exact ⟨a2.set 3 (by first|assumption|trivial),⟨2,by decide,(by first|exact J|rfl),rfl,(by first|exact N|rfl),(by first|exact B|rfl),a3,U⟩⟩
    ·obtain rfl:=cJ ‹_›;have e4:=cD ‹_›;obtain rfl:Z=2:=At M ‹D 3=true› N bH;refine ap2 U (by omega) fun u w_ U=>?_;exact ⟨a2.set 4 (by first|assumption|trivial),⟨3,by decide,(by first|exact J|rfl),(by first|exact M|rfl),rfl,(by first|exact B|rfl),a3,U⟩⟩
    ·refine aw ar ?_;exact ⟨a2.set 5 rfl,⟨Z,a7,J,M,N,B,a3,U⟩⟩
    ·obtain rfl:=cN ‹_›;have D1:=cL ‹_›;obtain rfl:Z=3:=At N ‹D 4=true› B bH;refine ap3 U (by simp) fun w_ U=>?_;exact ⟨a2.set 6 trivial,⟨4,by decide,(by first|exact J|rfl),(by first|exact M|rfl),(by first|exact N|rfl),rfl,(fun _=>‹D 1=true›),U⟩⟩
    obtain rfl:Z=4:=XP a7 B ‹D 6=true›;clear J M N B;obtain ⟨p3,S7,cs,⟨rfl,rfl,c8⟩,hl,f⟩:=U;have c2:=hR.snoc c8 hl.1;refine ⟨⟨S7,_,_,_,O,c2,by rw [bA]; simp only [bq,bW]; omega,by rw [pL]; have e:emptyB.size=0:=rfl; simp only [wL,wT,bW,e]; omega,f⟩,?_⟩;obtain ⟨S',_,_,_,G⟩:=zW f c2 hk hn hs;obtain ⟨a,q,e,_⟩:=G;have d1:=zK f (i:=0) (o:=3) (a:=a) (n:=(ks++[T.mk 2 1 emptyB []]).length) (m:=q) rfl (by rw [<- e]; rfl);show 5 - BN w_ Y 3<5 - BN w' Y 3;rw [d0,d1,bA,bq,bW];omega
   ·exact V O (by omega) hk hn (by omega) hR b1 b2 f
  refine bw ?_;refine aL (fun _=>?_) (fun _=>?_)
  ·obtain ⟨S2,O,f,G,_⟩:=zW f hR hk hn hs;have f:Inv w [br] [.blk Y (.cells #[.int .i64 k,.int .i64 n,.string s,.slice a0 n0 q0] ab),B4,rdI br sl (p+1)] S2 w':=f;have ht:T.mk k n s t.kids=t:=by rw [a9,b0,a6]; cases t; rfl
   rw [ht] at G;refine ⟨fun t6 w'=>∃ (j:Nat) (S3:ae) (l:List Value) (t1:T),t6=.int .i64 (j:Int)/\j<=30/\Ext w.heap.size [br] S S3/\RdT S3 l t1/\wT t1<=wT t+2 * j/\Inv w [br] [.blk Y (.cells l.toArray ab),B4,rdI br sl (p+1)] S3 w',fun t6 _=>30 - (intOf t6).toNat,
    ⟨0,S2,_,t,rfl,by omega,r.trans O,G,by omega,f⟩,?_⟩
   intro t6 _ _ _ _ _ _ _ w';rintro ⟨j,S3,l,t1,rfl,hj,g,G,b7,f⟩;refine bS ?_;refine aL (fun c6=>?_) (fun c6=>?_)
   ·refine aC f 0 ad rfl (by simpa using G.length) ?_;refine dB f bn (by simp [Value.cells,G.length]) (by omega) (by omega) fun b8 w' f=>?_;obtain ⟨S4,f,c0,U⟩:=f.pub1;refine Run.call0E dQ dR f (eK ⟨#[115]⟩ (by decide) (UG U (G.mono c0.1)) (by simp)) fun v' I' S5 w'=>?_;rintro ⟨rfl,c3,rfl,a4⟩ c4 f;have f:Inv w [br] [.blk Y (.cells l.toArray ab),B4,rdI br sl (p+1)] S5 w':=by simpa using f
    refine au f 0 rfl ad (by simpa using a4.length) (by simpa using G.length) (by simpa using a4.one) fun w' f=>?_;refine bC (by omega) ?_;have e:(ByteArray.mk #[115]).size=1:=rfl;exact ⟨⟨j+1,S5,c3,_,rfl,by omega,g.trans (c0.trans c4),a4,by simp only [wT,wL,bq,bW,e]; omega,f⟩,by simp only [intOf,cu]; omega⟩
   ·exact ⟨p+1,S3,l,t1,by omega,g,G,by omega,f⟩
  ·exact V r (by omega) hk hn (by omega) hR (by omega) (aS _) f
 intro _ _ _ _ _ _ _ _ _ _ _ _ _ _ _ _ _ _ _ _ _ _ _ _ _ _ _ _ _ _ _ _ _ _ _ _ _ _ _ _ _ _ w';rintro ⟨p1,S2,l,t1,a8,O,G,b7,f⟩;subst b9;refine aC f 0 ad rfl (by simpa using G.length) ?_;refine au f 1 rfl ad (by simpa using G.length) rfl (by simpa using G.one) fun w' f=>?_;refine bB f 1 ad rfl (by simpa using G.length) ?_;exact ⟨_,_,S2,rfl,f.pick [false,false,true],O,p1,a8,rfl,l,t1,rfl,G,b7⟩
end
end
section
open Go Go.RowKit
section
variable {w0 w:World} {X:List Nat} {L A:List Item} {S:ae} {K:Value->World->Prop} {P:Program}
theorem G7 {b:Nat} {hd:List Value} {h:T} {kv:Value} {css:List (List Value)} {ks:List T} {o:Obj}
  (a:Inv w0 X (.blk b o::aA kv ab 4 css::A) S w) (hR:Rows 4 (RdT S) css ks) (l:RdT S hd h) :
  ∃ S',Ext w0.heap.size X S S'/\Inv w0 X (.blk b o::A) S' w/\RdC S' (hd++[kv]) ⟨h,ks⟩/\RdSl S' 4 (RdT S') kv ks:=by
 have a:Inv w0 X ((.blk b o::A)++[aA kv ab 4 css]) S w:=a.last 1 rfl;obtain ⟨S',g,i,a⟩:=Inv.lendExt a;have f:=RowRd.rows (hR.monoR fun _ _ h=>RdT.mono g.1 h) i;exact ⟨S',g,a,⟨hd,kv,rfl,l.mono g.1,f⟩,f⟩
end
abbrev Yt (br:Nat) (sl:Value) (p k m:Nat):Value->List Item->ae->Prop:=fun v I' S'=>∃ p',p'<=p+k/\I'=[rdI br sl p']/\∃ cs c,v=.agg cs.toArray/\RdC S' cs c/\wC c<=m
section
variable {br:Nat} {sl:Value} {ys:List Nat}
attribute [local irreducible] Run CondV aq aK
theorem G5 {p:Nat} {S:ae} {cs:List Value} {c:C} (a8:RdSl S 1 oD sl ys) (h:RdC S cs c) (hw:wC c<=100000) (hp:p<=90000000) :
  Tri Tryz.prog Lb [rdP br,.agg cs.toArray] [rdI br sl p] S (Yt br sl p 600 (wC c+700)):=by
 intro w f;have d6:=h.length;refine vA.2 ?_;dsimp only[vA,bm];refine bJ f fun b3 w' f=>?_;refine aQ f cX fun b4 w' f=>?_;refine aC f 1 aH rfl (by simpa [Value.cells] using d6) ?_;refine Run.call0E um ui f (SL h (by omega)) fun v' I' S1 w'=>?_;rintro ⟨hd,kv,css,rfl,a7,rfl,hR⟩ U f;have U:Ext w.heap.size [br] S S1:=U;obtain ⟨a0,n0,q0,rfl⟩:=f.rowSlice 3 rfl;have a4:=a7;obtain ⟨k4,rfl,hk,hn,hs,_⟩:=RdT.iff.1 a7;obtain ⟨ak,nk,ck,d2⟩:∃ a n c,k4=.slice a n c:=by
  obtain ⟨_,e,_,_,_,a,q,rfl,_⟩:=RdT.iff.1 a4;simp only [dK,gL,i7] at e;exact ⟨_,_,_,e⟩
 subst d2;refine aQ f cX fun b5 w' f=>?_;refine au f 4 rfl aH rfl rfl (by simp [Value.oneCell']) fun w' f=>?_;obtain ⟨B4,c5⟩:∃ B4,B4=Item.blk b4 (.cells #[.int .i64 0,.int .i64 0,.string ⟨#[]⟩,.slice none 0 0,.slice none 0 0] ac):=⟨_,rfl⟩
 have f:Inv w [br] [.blk b5 (.cells #[.int .i64 c.head.kind,.int .i64 c.head.n,.string c.head.name,.slice ak nk ck,.slice a0 n0 q0] ac),aA (.slice a0 n0 q0) ab 4 css,B4,rdI br sl p] S1 w':=by
  rw [c5];exact (((f.pick [true,false,true,true,true]).last 2 rfl).last 1 rfl).last 0 rfl
 have f6:wC c=wT c.head+c.body.length+wL c.body:=rfl;refine ⟨fun w'=>∃ (p1:Nat) (S2:ae) (a6:List Value) (c1:C),p1<=p+600/\Ext w.heap.size [br] S S2/\RdC S2 a6 c1/\wC c1<=wC c+700/\Inv w [br] [.blk b5 (.cells a6.toArray ac),B4,rdI br sl p1] S2 w',?_,?_⟩
 ·have a5:∀ {hd:List Value} {h:T} {p1:Nat} {w':World} {S1:ae} {css:List (List Value)} {kv:Value} {ks:List T},Ext w.heap.size [br] S S1->p1<=p+600->RdT S1 hd h->Rows 4 (RdT S1) css ks->wT h+ks.length+wL ks<=wC c+700->
    Inv w [br] [.blk b5 (.cells (hd++[kv]).toArray ac),aA kv ab 4 css,B4,rdI br sl p1] S1 w'->
    ∃ (p1:Nat) (S2:ae) (a6:List Value) (c1:C),p1<=p+600/\Ext w.heap.size [br] S S2/\RdC S2 a6 c1/\wC c1<=wC c+700/\Inv w [br] [.blk b5 (.cells a6.toArray ac),B4,rdI br sl p1] S2 w':=by
   intro hd h p1 w' S1 css kv ks hE b7 hh hR c8 f;obtain ⟨S2,O,f,hr,_⟩:=G7 f hR hh;exact ⟨p1,S2,_,_,b7,hE.trans O,hr,c8,f⟩
  refine Run.callL ct cr f (dJ (n:=40) (a8.monoU U.1) (by omega) (by omega)) rfl fun v' I' S1 w'=>?_;rintro ⟨rfl,rfl,kk,e5,rfl⟩ _ f;refine bw ?_;refine aL (fun _=>?_) (fun _=>?_)
  ·refine Run.callL Cq CH f (yL (p:=p+1) (a8.monoU U.1) (by omega)) rfl fun v' I' S2 w'=>?_;rintro ⟨p2,c2,rfl,b8,t2,rfl,a9,b9⟩ O f;refine Run.callL wa vS f (tJ (p:=p2) (a8.monoU (U.trans O).1) a9 (by omega) (by omega)) rfl fun v' I' S3 w'=>?_;rintro ⟨p3,c3,rfl,c4,t3,rfl,b0,c9⟩ Y f;have c6:=b0;obtain ⟨k3,rfl,_,_,_,a3,q3,rfl,_⟩:=RdT.iff.1 b0;refine aw bO ?_;refine EL f 0 rfl ad rfl rfl (by simp [Value.cells,Value.oneCell']) fun w' f=>?_;exact a5 ((U.trans O).trans Y) (by omega) c6 (hR.monoR fun _ _ h=>RdT.mono (O.trans Y).1 h) (by omega) f
  refine bw ?_;refine aL (fun _=>?_) (fun _=>?_)
  ·have d7:=hR.hc;have f:=f;refine ⟨fun D pn kV fN lP r4 pR oK jG kZ w_=>Fx D 0 [kZ=.pointer (some ⟨b5,4,none⟩),jG=.slice a0 n0 q0,oK=rdP br,pR=rdP br,True,True,True,True,pn=.pointer (some ⟨b5,4,none⟩),True]/\∃ J:Nat,J<=5/\D 4=decide (1<=J)/\D 5=decide (2<=J)/\D 6=decide (3<=J)/\D 7=decide (4<=J)/\D 9=decide (5<=J)/\(D 9=true->D 1=true)/\(uE (Inv w [br] [.blk b5 (.cells #[.int .i64 c.head.kind,.int .i64 c.head.n,.string c.head.name,.slice ak nk ck,.slice a0 n0 q0] ac),aA (.slice a0 n0 q0) ab 4 css,B4,rdI br sl (p+1)] S1 w_) (uE (∃ p1 S2 cs t,r4=.agg cs.toArray/\RdT S2 cs t/\wT t<=500/\p1<=p+501/\Ext w.heap.size [br] S1 S2/\Inv w [br] [.blk b5 (.cells #[.int .i64 c.head.kind,.int .i64 c.head.n,.string c.head.name,.slice ak nk ck,.slice a0 n0 q0] ac),aA (.slice a0 n0 q0) ab 4 css,B4,rdI br sl p1] S2 w_) (DL w [br] b5 #[.int .i64 c.head.kind,.int .i64 c.head.n,.string c.head.name,.slice ak nk ck,.slice a0 n0 q0] 4 ac (.slice a0 n0 q0) css (fun p=>[B4,rdI br sl p]) (fun cs p' S'=>∃ t,RdT S' cs t/\wT t<=600/\p'<=p+503/\Ext w.heap.size [br] S1 S') lP fN kV w_)) J),⟨Fx.nil _ _,⟨0,bk _,rfl,rfl,rfl,rfl,rfl,(aI),f.draw⟩⟩,⟨?_,?_,?_,?_,?_,?_,?_,?_,?_,?_,trivial⟩,?_⟩;all_goals (intro D bH; intros; rename_i pn kV fN lP r4 pR oK jG kZ w_ b1; have G:=b1.1; obtain ⟨⟨cI,cJ,cH,cD,cL,cN,cq,dg,dG,dL,_⟩,⟨J,Z,l,r,B,g,V,N,M⟩⟩:=b1)
   ·refine aw aU ?_;exact ⟨G.set 0 rfl,⟨J,Z,l,r,B,g,V,N,M⟩⟩
   ·obtain rfl:=cI ‹_›;have b2:=WB V N bH;refine cQ al ((WU (fun h=>h.cellL (i:=0) rfl) (fun ⟨_,_,_,_,_,_,_,_,_,h⟩=>h.cellL (i:=0) rfl) (fun n hn h=>Kd h hn) M b2).trans rfl) ?_;exact ⟨G.set 1 rfl,⟨J,Z,l,r,B,g,V,(fun _=>rfl),M⟩⟩
   ·exact ⟨G.set 2 rfl,⟨J,Z,l,r,B,g,V,N,M⟩⟩
   ·exact ⟨G.set 3 rfl,⟨J,Z,l,r,B,g,V,N,M⟩⟩
   ·obtain rfl:=cD ‹_›;obtain rfl:J=0:=WL l bH;refine Run.callL Cq CH (L:=[.blk b5 _,aA _ ab 4 css,B4,rdI br sl (p+1)]) M (yL (p:=p+1) (a8.monoU U.1) (by omega)) rfl fun v' I' S2 w_=>?_;rintro ⟨p2,c2,rfl,b8,t2,rfl,a9,b9⟩ O f;exact ⟨G.set 4 (by first|assumption|trivial),⟨1,by decide,rfl,(by first|exact r|rfl),(by first|exact B|rfl),(by first|exact g|rfl),(by first|exact V|rfl),N,⟨p2,S2,b8,t2,rfl,a9,b9,by omega,O,f⟩⟩⟩
   ·obtain rfl:=cH ‹_›;have D1:=cL ‹_›;obtain rfl:J=1:=At l ‹D 4=true› r bH;obtain ⟨p2,S2,b8,t2,rfl,a9,b9,c2,O,f⟩:=JH M;refine Run.callL wa vS (L:=[.blk b5 _,aA _ ab 4 css,B4,rdI br sl p2]) f (tJ (p:=p2) (a8.monoU (U.trans O).1) a9 (by omega) (by omega)) rfl fun v' I' S3 w_=>?_;rintro ⟨p3,c3,rfl,c4,t3,rfl,b0,c9⟩ Y f;exact ⟨G.set 5 (by first|assumption|trivial),⟨2,by decide,(by first|exact l|rfl),rfl,(by first|exact B|rfl),(by first|exact g|rfl),(by first|exact V|rfl),N,R7 (LS ⟨t3,b0,by omega,by omega,O.trans Y⟩ b0 f)⟩⟩
   ·have Hj:=cN ‹_›;obtain rfl:J=2:=At r ‹D 5=true› B bH;refine ap1 (JH M) fun u w_ M=>?_;exact ⟨G.set 6 (by first|assumption|trivial),⟨3,by decide,(by first|exact l|rfl),(by first|exact r|rfl),rfl,(by first|exact g|rfl),(by first|exact V|rfl),N,R7 M⟩⟩
   ·obtain rfl:=cJ ‹_›;have Me:=cq ‹_›;obtain rfl:J=3:=At B ‹D 6=true› g bH;refine ap2 (JH M) (by omega) fun u w_ M=>?_;exact ⟨G.set 7 (by first|assumption|trivial),⟨4,by decide,(by first|exact l|rfl),(by first|exact r|rfl),(by first|exact B|rfl),rfl,(by first|exact V|rfl),N,R7 M⟩⟩
   ·refine aw aU ?_;exact ⟨G.set 8 rfl,⟨J,Z,l,r,B,g,V,N,M⟩⟩
   ·obtain rfl:=dG ‹_›;have WA:=dg ‹_›;obtain rfl:J=4:=At g ‹D 7=true› V bH;refine ap3 (JH M) (by simp) fun w_ M=>?_;exact ⟨G.set 9 trivial,⟨5,by decide,(by first|exact l|rfl),(by first|exact r|rfl),(by first|exact B|rfl),(by first|exact g|rfl),rfl,(fun _=>‹D 1=true›),R7 M⟩⟩
   obtain rfl:J=5:=XP Z V ‹D 9=true›;clear l r B g V;obtain ⟨p3,S7,cs,⟨t,c0,f5,c3,a2⟩,hl,f⟩:=JH (JH M);exact a5 (U.trans a2) (by omega) (a4.mono a2.1) ((hR.monoR fun _ _ h=>RdT.mono a2.1 h).snoc c0 hl.1) (by rw [pL,bA,bq,bW]; simp only [wL]; omega) f
  refine bw ?_;refine aL (fun _=>?_) (fun _=>?_)
  ·refine ⟨fun w'=>∃ (S2:ae) (kv:Value) (css:List (List Value)) (ks:List T),Ext w.heap.size [br] S S2/\Rows 4 (RdT S2) css ks/\ks.length<=c.body.length+7/\wL ks+4 * (7 - (ks.length - c.body.length))<=wL c.body+28/\c.body.length<=ks.length/\
     RdT S2 [.int .i64 c.head.kind,.int .i64 c.head.n,.string c.head.name,.slice ak nk ck] c.head/\
     Inv w [br] [.blk b5 (.cells #[.int .i64 c.head.kind,.int .i64 c.head.n,.string c.head.name,.slice ak nk ck,kv] ac),aA kv ab 4 css,B4,rdI br sl (p+1)] S2 w',fun w'=>7 - BN w' b5 4,⟨S1,_,css,c.body,U,hR,by omega,by omega,by omega,a4,f⟩,?_⟩
   intro e6 e7 e8 e9 f0 f1 _ _ _ _ w';rintro ⟨S2,kv,css,ks,O,hR,f2,f3,f4,a7,f⟩;obtain ⟨a1,n1,q1,rfl,d3⟩:∃ a m c,kv=.slice a m c/\m=ks.length:=by
    obtain ⟨S',_,_,_,hr⟩:=G7 f hR a7;obtain ⟨a,q,rfl,_⟩:=hr;exact ⟨a,_,q,rfl,rfl⟩
   subst d3;have d9:=zK f (i:=0) (o:=4) rfl rfl;have d7:=hR.hc;refine af f 0 rfl aU al rfl ?_;refine iA ah ?_;refine fU ?_;refine aL (fun d1=>?_) (fun d1=>?_)
   ·have f:=f;refine ⟨fun D oJ qd vj sy sr Ab w_=>Fx D 0 [Ab=.pointer (some ⟨b5,4,none⟩),sr=.slice a1 ks.length q1,True,True,True,oJ=.pointer (some ⟨b5,4,none⟩),True]/\∃ J:Nat,J<=4/\D 2=decide (1<=J)/\D 3=decide (2<=J)/\D 4=decide (3<=J)/\D 6=decide (4<=J)/\(D 6=true->D 1=true)/\(uE (Inv w [br] [.blk b5 (.cells #[.int .i64 c.head.kind,.int .i64 c.head.n,.string c.head.name,.slice ak nk ck,.slice a1 ks.length q1] ac),aA (.slice a1 ks.length q1) ab 4 css,B4,rdI br sl (p+1)] S2 w_) (DL w [br] b5 #[.int .i64 c.head.kind,.int .i64 c.head.n,.string c.head.name,.slice ak nk ck,.slice a1 ks.length q1] 4 ac (.slice a1 ks.length q1) css (fun p=>[B4,rdI br sl (p+1)]) (fun cs p' S'=>p'=p/\Ext w.heap.size [br] S2 S'/\RdT S' cs (.mk 3 0 ⟨#[116,114,117,101]⟩ [])) sy vj qd w_) J),⟨Fx.nil _ _,⟨0,bk _,rfl,rfl,rfl,rfl,(aI),f.draw⟩⟩,⟨?_,?_,?_,?_,?_,?_,?_,trivial⟩,?_⟩;all_goals (intro D bH; intros; rename_i oJ qd vj sy sr Ab w_ b1; have G:=b1.1; obtain ⟨⟨cI,cJ,cH,cD,cL,cN,cq,_⟩,⟨J,Z,l,r,B,g,N,M⟩⟩:=b1)
    ·refine aw aU ?_;exact ⟨G.set 0 rfl,⟨J,Z,l,r,B,g,N,M⟩⟩
    ·obtain rfl:=cI ‹_›;have b2:=WB g N bH;refine cQ al ((Po (fun h=>h.cellL (i:=0) rfl) (fun n hn h=>Kd h hn) M b2).trans rfl) ?_;exact ⟨G.set 1 rfl,⟨J,Z,l,r,B,g,(fun _=>rfl),M⟩⟩
    ·obtain rfl:J=0:=WL l bH;refine Run.call0E dQ dR (L:=[.blk b5 _,aA _ ab 4 css,B4,rdI br sl (p+1)]) M (eK ⟨#[116,114,117,101]⟩ (by decide) (lV S2) (by simp)) fun v' I' S3 w_=>?_;rintro ⟨rfl,c4,rfl,b6⟩ Y f;exact ⟨G.set 2 (by first|assumption|trivial),⟨1,by decide,rfl,(by first|exact r|rfl),(by first|exact B|rfl),(by first|exact g|rfl),N,LS ⟨rfl,Y,b6⟩ b6 f⟩⟩
    ·have YE:=cH ‹_›;obtain rfl:J=1:=At l ‹D 2=true› r bH;refine ap1 M fun u w_ M=>?_;exact ⟨G.set 3 (by first|assumption|trivial),⟨2,by decide,(by first|exact l|rfl),rfl,(by first|exact B|rfl),(by first|exact g|rfl),N,M⟩⟩
    ·obtain rfl:=cJ ‹_›;have f7:=cD ‹_›;obtain rfl:J=2:=At r ‹D 3=true› B bH;refine ap2 M (by omega) fun u w_ M=>?_;exact ⟨G.set 4 (by first|assumption|trivial),⟨3,by decide,(by first|exact l|rfl),(by first|exact r|rfl),rfl,(by first|exact g|rfl),N,M⟩⟩
    ·refine aw aU ?_;exact ⟨G.set 5 rfl,⟨J,Z,l,r,B,g,N,M⟩⟩
    ·obtain rfl:=cN ‹_›;have D1:=cL ‹_›;obtain rfl:J=3:=At B ‹D 4=true› g bH;refine ap3 M (by simp) fun w_ M=>?_;exact ⟨G.set 6 trivial,⟨4,by decide,(by first|exact l|rfl),(by first|exact r|rfl),(by first|exact B|rfl),rfl,(fun _=>‹D 1=true›),M⟩⟩
    obtain rfl:J=4:=XP Z g ‹D 6=true›;clear l r B g;obtain ⟨p3,S7,cs,⟨rfl,a2,c0⟩,hl,f⟩:=M;have c7:=(hR.monoR fun _ _ h=>RdT.mono a2.1 h).snoc c0 hl.1;have e4:(ByteArray.mk #[116,114,117,101]).size=4:=rfl;refine ⟨⟨S7,_,_,_,O.trans a2,c7,by rw [bA]; simp only [bq,bW]; omega,by rw [pL,bA,bq,bW]; simp only [wL,wT,bW,e4]; omega,by rw [bA]; omega,a7.mono a2.1,f⟩,?_⟩;obtain ⟨S',_,_,_,hr⟩:=G7 f c7 (a7.mono a2.1);obtain ⟨a,q,e,_⟩:=hr;have e0:=zK f (i:=0) (o:=4) (a:=a) (n:=(ks++[T.mk 3 0 ⟨#[116,114,117,101]⟩ []]).length) (m:=q) rfl (by rw [<- e]; rfl);show 7 - BN w_ b5 4<7 - BN w' b5 4;rw [d9,e0,bA,bq,bW];omega
   ·exact a5 O (by omega) a7 hR (by omega) f
  refine bw ?_;refine aL (fun _=>?_) (fun _=>?_)
  ·refine qA f (by kernel_rfl) rfl (by omega) fun v S3 w' Y hv f=>?_;refine Run.callL kF kG f (xH (p:=p+1) (a8.monoU (U.trans Y).1) hv (by decide) (by omega)) rfl fun v' I' S3 w'=>?_;rintro ⟨rfl,rfl,m,hm,rfl⟩ _ f;have hm:=DY (m:=7) hm (by decide);refine aw bO ?_;refine aw bl ?_;refine dy f 0 (n:=1) rfl (by decide +kernel) rfl (by simp) (by simp [Value.cells,Value.oneCell']) fun w' f=>?_;have e1:=a4.mono Y.1;obtain ⟨k3,e3,_,_,_,d4⟩:=RdT.iff.1 e1;have e2:RdT S3 [.int .i64 c.head.kind,.int .i64 c.head.n,.string m,.slice ak nk ck] (.mk c.head.kind c.head.n m c.head.kids):=by
    simp only [dK,gL,i7] at e3;exact RdT.iff.2 ⟨_,rfl,hk,hn,by simp only [T.name,maxLen]; omega,e3 ▸ d4⟩
   refine a5 (U.trans Y) (by omega) e2 (hR.monoR fun _ _ h=>RdT.mono Y.1 h) ?_ f;have:wT c.head=c.head.name.size+c.head.kids.length+wL c.head.kids:=by cases c.head; rw [wT]; rfl
   rw [wT];omega
  ·exact a5 U (by omega) a4 hR (by omega) f
 intro _ _ _ _ _ _ _ _ _ _ _ _ _ _ _ _ _ _ _ _ _ _ _ _ _ _ _ _ _ _ _ _ _ _ _ _ _ _ _ w';rintro ⟨p1,S2,a6,c1,b7,O,hr,d0,f⟩;subst c5;refine aC f 0 aH rfl (by simpa using hr.length) ?_;refine au f 1 rfl aH (by simpa using hr.length) rfl (by simpa using hr.one) fun w' f=>?_;refine bB f 1 aH rfl (by simpa using hr.length) ?_;exact ⟨_,_,S2,rfl,f.pick [false,false,true],O,p1,b7,rfl,a6,c1,rfl,hr,d0⟩
end
end
section
open Go Go.RowKit
def Light (n m:Nat) (q:List C):Prop:=q.length<=n/\∀ c∈q,wC c<=m
theorem Light.le {n m:Nat} {q:List C} (h:Light n m q):q.length+wP q<=n+n * m:=by
 have:∀ q:List C,(∀ c∈q,wC c<=m)->wP q<=q.length * m:=by
  intro q;induction q with
  | nil=>intro _; simp [wP]
  | cons c q g=>
   intro h;have a:=h c (aM ..);have f:=g fun d hd=>h d (aR _ hd);simp only [wP,bq,iX];omega
 have a:=this q h.2;have f:q.length * m<=n * m:=gM _ h.1;have:=h.1;omega
theorem Light.append {n n' m:Nat} {q a:List C} (h:Light n m q) (f:Light n' m a):Light (n+n') m (q++a):=
 ⟨by rw [bA]; exact Nat.add_le_add h.1 f.1,fun c hc=>(bF.1 hc).elim (h.2 c) (f.2 c)⟩
abbrev Ze (br:Nat) (sl:Value) (p k n m:Nat):Value->List Item->ae->Prop:=fun v I' S'=>∃ p',p'<=p+k/\I'=[rdI br sl p']/\∃ q,RdSl S' 5 (RdC S') v q/\Light n m q
abbrev Y8 (br:Nat) (sl:Value) (p k n m:Nat):Value->List Item->ae->Prop:=fun v I' S'=>∃ p' css q,p'<=p+k/\I'=[aA v ac 5 css,rdI br sl p']/\Rows 5 (RdC S') css q/\Light n m q/\0<q.length/\∀ c∈q,bt c=true
section
variable {w0 w:World} {X:List Nat} {L A:List Item} {S:ae}
theorem tx {v:Value} {css:List (List Value)} {q:List C} (a:Inv w0 X (aA v ac 5 css::A) S w) (hR:Rows 5 (RdC S) css q) :
  ∃ S',Ext w0.heap.size X S S'/\Inv w0 X A S' w/\RdSl S' 5 (RdC S') v q:=by
 have a:Inv w0 X (A++[aA v ac 5 css]) S w:=a.last 0 rfl;obtain ⟨S',g,f,a⟩:=Inv.lendExt a;exact ⟨S',g,a,RowRd.rows (hR.monoR fun _ _ h=>RdC.mono g.1 h) f⟩
end
section
variable {br:Nat} {sl:Value} {ys:List Nat}
attribute [local irreducible] Run CondV aq aK
theorem ZN:wC ⟨.mk 3 0 ⟨#[122]⟩ [],[]⟩=1:=by
 have e:(ByteArray.mk #[122]).size=1:=rfl;simp only [wC,wT,wL,bW,e]
theorem yj {p m:Nat} {S:ae} {v:Value} {q:List C} (Y:RdSl S 1 oD sl ys) (h:RdSl S 5 (RdC S) v q) (hq:Light 30 m q) (h0:0<q.length) (hm:m<=2000) (hp:p<=50000000) :
  Tri Tryz.prog DV [rdP br,v] [rdI br sl p] S (Ze br sl p 20000 30 (m+700)):=by
 intro w f;refine pG.2 ?_;dsimp only[pG,bm];have b3:=hq.1;refine ei f dd fun v0 w' f=>?_;have f:Inv w [br] [aA v0 ac 5 [],rdI br sl p] S w':=f.last 0 rfl;refine ⟨fun a b w'=>∃ (j D:Nat) (S1:ae) (css:List (List Value)) (g:List C),a=.int .i64 (j:Int)/\j<=q.length/\g.length=j/\D<=p+600 * j/\Ext w.heap.size [br] S S1/\Rows 5 (RdC S1) css g/\(∀ c∈g,wC c<=m+700)/\Inv w [br] [aA b ac 5 css,rdI br sl D] S1 w',
  fun a _ _=>q.length - (intOf a).toNat,⟨0,p,S,[],[],rfl,bk _,rfl,by omega,Ext.refl _ _ _,Rows.nil _ _,by simp,f⟩,?_⟩
 intro t6 _ _ M _ _ _ _ _ _ _ _ _ _ _ _ _ w';rintro ⟨j,D,S1,css,g,rfl,hj,N,a4,i,hR,o,f⟩;have a8:=hR.hc;have h':=h.monoC i.1;refine aJ h' bf ?_;refine bS ?_;refine aL (fun a5=>?_) (fun a5=>?_)
 ·have U:j<q.length:=by omega
  refine co f h' bf aH U (fun _ _=>RdC.length) fun cs a6=>?_;have b4:=hq.2 _ (bG U);refine Run.callL HR HT f (G5 (p:=D) (Y.monoU i.1) a6 (by omega) (by omega)) rfl fun Z I' S2 w'=>?_;rintro ⟨p2,O,rfl,ds,d,rfl,r,b0⟩ t f;refine de (css:=css) f 0 _ dd (by omega) (by omega) rfl r.length r.one (by omega) (by omega) fun Z w' f=>?_;refine bC (by omega) ?_;have a9:p2<=p+600 * (j+1):=gz O (gz (Nat.add_le_add_right a4 600) (by rw [Nat.mul_add,J0]; exact aS _));exact ⟨⟨j+1,p2,S2,_,g++[d],rfl,U,by simp only [bA,N,bq,bW,cP],a9,i.trans t,(hR.monoR fun _ _ h=>RdC.mono t.1 h).snoc r r.length,fun c hc=>(bF.1 hc).elim (o c) (fun hc=>by simp only [bK] at hc; subst hc; omega),f⟩,
   by simp only [intOf,cu]; omega⟩
 refine ⟨fun v w'=>∃ (D:Nat) (S1:ae) (g:List C),D<=p+20000/\Ext w.heap.size [br] S S1/\RdSl S1 5 (RdC S1) v g/\Light 30 (m+700) g/\Inv w [br] [rdI br sl D] S1 w',?_,?_⟩
 ·refine Run.callL ct cr f (dJ (n:=30) (Y.monoU i.1) (by omega) (by omega)) rfl fun Z I' S1 w'=>?_;rintro ⟨rfl,rfl,kk,b1,rfl⟩ _ f;have f:Inv w [br] [aA M ac 5 css,rdI br sl (D+1)] S1 w':=f;refine bw ?_;refine aL (fun _=>?_) (fun _=>?_)
  ·refine ⟨fun b w'=>∃ (S2:ae) (css:List (List Value)) (g:List C),g.length<=30/\Ext w.heap.size [br] S S2/\Rows 5 (RdC S2) css g/\(∀ c∈g,wC c<=m+700)/\Inv w [br] [aA b ac 5 css,rdI br sl (D+1)] S2 w',
    fun b _=>30 - lenOf b,⟨S1,css,g,by omega,i,hR,o,f⟩,?_⟩
   intro M _ _ _ _ _ _ _ _ w';rintro ⟨S2,css,g,N,t,hR,o,f⟩;have J:∀ {w':World} {S2:ae} {M:Value} {css:List (List Value)} {g:List C},Inv w [br] [aA M ac 5 css,rdI br sl (D+1)] S2 w'->Rows 5 (RdC S2) css g->∃ a m,M=.slice a g.length m:=by
    intro w' S2 M css g f hR;obtain ⟨_,_,_,a,m,e,_⟩:=tx f hR;exact ⟨a,m,e⟩
   obtain ⟨a1,m1,rfl⟩:=J f hR;have a8:=hR.hc;refine iA bf ?_;refine fU ?_;refine aL (fun a7=>?_) (fun a7=>?_)
   ·refine Run.call0E dQ dR f (eK ⟨#[122]⟩ (by decide) (lV S2) (by simp)) fun Z I' S3 w'=>?_;rintro ⟨rfl,b2,rfl,G⟩ B f;obtain ⟨k3,rfl,_,_,_,a3,q3,rfl,_⟩:=RdT.iff.1 G;refine lg ?_;have r:RdC S3 [.int .i64 3,.int .i64 0,.string ⟨#[122]⟩,.slice a3 0 q3,.slice none 0 0] ⟨.mk 3 0 ⟨#[122]⟩ [],[]⟩:=⟨[.int .i64 3,.int .i64 0,.string ⟨#[122]⟩,.slice a3 0 q3],_,rfl,G,lV S3⟩
    refine de (css:=css) f 0 [.int .i64 3,.int .i64 0,.string ⟨#[122]⟩,.slice a3 0 q3,.slice none 0 0] dd (by omega) (by omega) rfl rfl r.one (by omega) (by omega) fun Z w' f=>?_;have f:Inv w [br] [aA Z ac 5 (css++[_]),rdI br sl (D+1)] S3 w':=f;have a0:=(hR.monoR fun _ _ h=>RdC.mono B.1 h).snoc r rfl;obtain ⟨a2,m2,rfl⟩:=J f a0;refine ⟨⟨S3,_,_,by rw [bA]; simp only [bq,bW]; omega,t.trans B,a0,fun c hc=>(bF.1 hc).elim (o c) (fun hc=>by simp only [bK] at hc; subst hc; rw [ZN]; omega),f⟩,?_⟩;simp only [lenOf,bA,bq,bW];omega
   ·obtain ⟨S3,B,f,V⟩:=tx f hR;exact ⟨_,S3,g,by omega,t.trans B,V,⟨N,o⟩,f⟩
  ·obtain ⟨S3,B,f,V⟩:=tx f hR;refine bw ?_;refine aL (fun _=>?_) (fun _=>?_)
   ·refine fk (l:=1) bf V (by omega) fun u hu=>?_;exact ⟨_,S3,_,by omega,i.trans B,hu,⟨by rw [mi]; omega,fun c hc=>o c (xz hc)⟩,f⟩
   ·exact ⟨_,S3,g,by omega,i.trans B,V,⟨by omega,o⟩,f⟩
 intro _ _ _ _ M _ _ _ _ _ _ _ _ _ _ _ _ w';rintro ⟨p2,S2,q2,O,t,V,hl,f⟩;exact ⟨_,_,S2,rfl,f,t,p2,O,rfl,q2,V,hl⟩
end
end
section
open Go Go.RowKit
def okS (s:ByteArray):Bool:=Vx (bs s) && decide (s.size<=1000)
theorem VR {s:ByteArray} (h:okS s=true):∃ q,R2 60 (bs s)=some q/\0<q.length/\Light 8 200 q/\(∀ c∈q,bt c=true)/\s.size<=1000:=by
 rw [okS,bM,bD] at h;obtain ⟨h,f⟩:=h;unfold Vx at h;split at h
 ·rename_i q a
  simp only [bM,bD,dD] at h;exact ⟨q,a,h.1,⟨h.2.1,fun c hc=>(h.2.2 c hc).2⟩,fun c hc=>(h.2.2 c hc).1,f⟩
 ·cases h
section
attribute [local irreducible] Run CondV aq aK
theorem Jj {S:ae} {s:ByteArray} (h:okS s=true):Tri Tryz.prog oO [.string s] [] S fun v I' S'=>∃ u css q,v=.tuple #[u,.bool true]/\I'=[aA u ac 5 css]/\Rows 5 (RdC S') css q/\0<q.length/\Light 8 200 q/\∀ c∈q,bt c=true:=by
 obtain ⟨q,i,l,hl,hc,o⟩:=VR h;intro w a;have m:(bs s).length=s.size:=(nt (bs s)).symm;refine (xB (f:=60) (by omega) i (by rw [m]; omega) w a).mono ?_;rintro e w' ⟨v,I',S',rfl,a,g,u,css,rfl,rfl,hR⟩;exact ⟨_,_,S',rfl,a,g,u,css,q,rfl,rfl,hR,l,hl,hc⟩
theorem HG (S:ae):Tri Tryz.prog Mx [] [] S fun v I' S'=>I'=[]/\∃ l,RdSl S' 1 wv v l/\l.length=11/\l.all okS=true:=by
 intro w a;refine zU.2 ?_;dsimp only[zU,nV];refine qA a (by kernel_rfl) rfl (by omega) fun v S1 w' f g a=>?_;exact ⟨_,[],S1,rfl,a,f,rfl,_,g,rfl,by decide +kernel⟩
variable {br:Nat} {sl:Value} {ys:List Nat}
theorem DW {p:Nat} {S:ae} (h:RdSl S 1 oD sl ys) (G:p<=100000000):Tri Tryz.prog Iv [rdP br] [rdI br sl p] S (Y8 br sl p 1 8 200):=by
 intro w a;refine tR.2 ?_;dsimp only[tR,aO];refine Run.call0E LA Lx a (HG S) fun D I' S1 w'=>?_;rintro ⟨rfl,l,hl,r,f⟩ g a;have a:Inv w [br] [rdI br sl p] S1 w':=a;refine aJ hl cV ?_;refine Run.callL ct cr a (dJ (n:=l.length) (h.monoU g.1) (by omega) (by omega)) rfl fun D I' S1 w'=>?_;rintro ⟨rfl,rfl,k,hk,rfl⟩ _ a;have a:Inv w [br] [rdI br sl (p+1)] S1 w':=a;refine fg a hl cV be hk (fun cs o=>o) ?_;rw [dD] at f;refine Run.call0E nj oj a (Jj (f _ (bG hk))) fun v I' S2 w'=>?_;rintro ⟨u,css,q,rfl,rfl,hR,t,B,i⟩ m a;refine av (v:=u) rfl ?_;refine av (v:=.bool true) rfl ?_;exact ⟨_,_,S2,rfl,a.last 0 rfl,g.trans m,p+1,css,q,aS _,rfl,hR,B,t,i⟩
end
end
section
open Go Go.RowKit
section
variable {br:Nat} {sl:Value} {ys:List Nat}
attribute [local irreducible] Run CondV aq aK
end
end
section
open Go Go.RowKit
attribute [local irreducible] Run CondV aq aK
end
end Go.Proofs.YtgllldjiaglkcaaGreatDoor

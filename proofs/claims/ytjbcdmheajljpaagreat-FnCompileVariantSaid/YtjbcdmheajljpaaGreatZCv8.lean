/- spec.l1Mutate. -/
import Derived.Test.YtjbcdmheajljpaaGreatZCv7
namespace Go.Proofs.YtjbcdmheajljpaaGreat
section
open Go Go.RowKit
def rh (w:World) (b o:Nat):Nat:=match w.cell? ⟨b,o,none⟩ with
 | some (.slice _ n _)=>n
 | _=>0
theorem HN {Q Q2 B:Prop} {R:Nat->Prop} (a:Q->B) (g:Q2->B) (i:∀ n,n<3->R n->B):∀ {n:Nat},g9 Q (g9 Q2 R) n->n<5->B
 | 0,h,_=>a h
 | 1,h,_=>g h
 | n+2,h,hn=>i n (by omega) h
theorem eC {Q:Prop} {R:Nat->Prop} {n:Nat} (h:R n):g9 Q R (n+1):=h
theorem cL {Q:Prop} {R:Nat->Prop} {n:Nat} (h:g9 Q R (n+1)):R n:=h
section
variable {w0 w:World} {X:List Nat} {L A:List Item} {S:af} {K:Value->World->Prop} {P:Program}
attribute [local irreducible] Run CondV aw aI
theorem oa (h:Inv w0 X L S w) {i b o:Nat} {c:Array Value} {E:TypeId} {a:Option Addr} {n m:Nat} (g:L[i]?=some (.blk b (.cells c E))) (hc:c[o]?=some (.slice a n m)):rh w b o=n:=by
 rw [rh,h.cellL g,hc]
theorem pd {b:Nat} {k n:Int} {s:ByteArray} {kv:Value} {css:List (List Value)} {i:List T} {o:Obj}
  (a:Inv w0 X (.blk b o::ax kv ac 4 css::A) S w) (hR:Rows 4 (RdT S) css i) (hk:inI k) (hn:inI n) (m:s.size<=maxLen) :
  ∃ S',Ext w0.heap.size X S S'/\Inv w0 X (.blk b o::A) S' w/\RdT S' [.int .i64 k,.int .i64 n,.string s,kv] (.mk k n s i)/\RdSl S' 4 (RdT S') kv i:=by
 have a:Inv w0 X ((.blk b o::A)++[ax kv ac 4 css]) S w:=a.last 1 rfl;obtain ⟨S',l,j,a⟩:=Inv.lendExt a;have g:=RowRd.rows (hR.monoR fun _ _ h=>RdT.mono l.1 h) j;exact ⟨S',l,a,RdT.iff.2 ⟨_,rfl,hk,hn,m,g⟩,g⟩
end
section
variable {br:Nat} {sl:Value} {ys:List Nat}
attribute [local irreducible] Run CondV aw aI
theorem lZ {p:Nat} {S:af} {cs:List Value} {t:T} (a8:RdSl S 1 jy sl ys) (h:RdT S cs t) (hw:wT t<=100000) (hp:p<=400000000) :
  Tri Tryz.prog zn [rdP br,.agg cs.toArray] [rdI br sl p] S (G0 br sl p 2 (wT t+100)):=by
 intro w g;have h0:=h;obtain ⟨kv0,rfl,hk,hn,hs,e9⟩:=RdT.iff.1 h;refine m8.2 ?_;dsimp only[m8,a6];refine bB g fun b3 w' g=>?_;refine aF g aZ fun b4 w' g=>?_;refine au g 1 ad rfl rfl ?_;refine Run.call0E eQ fa g (FI t S _ h0 (by omega)) fun v' I' S1 w'=>?_;rintro ⟨kv,css,rfl,rfl,hR⟩ B g;have B:Ext w.heap.size [br] S S1:=B;obtain ⟨a0,n0,q0,rfl⟩:=g.rowSlice 3 rfl;refine aF g aZ fun Z w' g=>?_;refine al g 4 rfl ad rfl rfl (by simp [Value.oneCell']) fun w' g=>?_;obtain ⟨B4,c3⟩:∃ B4,B4=Item.blk b4 (.cells #[.int .i64 0,.int .i64 0,.string ⟨#[]⟩,.slice none 0 0] ac):=⟨_,rfl⟩
 obtain ⟨k,b2⟩:∃ k,k=t.kind:=⟨_,rfl⟩
 obtain ⟨n,b6⟩:∃ n,n=t.n:=⟨_,rfl⟩
 obtain ⟨s,a9⟩:∃ s,s=t.name:=⟨_,rfl⟩
 have d7:wT t=s.size+t.kids.length+wL t.kids:=by rw [a9]; cases t; rw [wT]; rfl
 rw [<- b2,<- b6,<- a9] at g;rw [<- b2] at hk;rw [<- b6] at hn;rw [<- a9] at hs;have g:Inv w [br] [.blk Z (.cells #[.int .i64 k,.int .i64 n,.string s,.slice a0 n0 q0] ac),ax (.slice a0 n0 q0) ac 4 css,B4,rdI br sl p] S1 w':=by
  rw [c3];exact (((g.pick [true,false,true,true,true]).last 2 rfl).last 1 rfl).last 0 rfl
 refine ⟨fun w'=>∃ (p1:Nat) (S2:af) (r:List Value) (t1:T),p1<=p+2/\Ext w.heap.size [br] S S2/\RdT S2 r t1/\wT t1<=wT t+100/\Inv w [br] [.blk Z (.cells r.toArray ac),B4,rdI br sl p1] S2 w',?_,?_⟩
 ·have V:∀ {k n:Int} {s1:ByteArray} {p1:Nat} {w':World} {S1:af} {css:List (List Value)} {kv:Value} {Y:List T},Ext w.heap.size [br] S S1->p1<=p+2->inI k->inI n->s1.size<=s.size+7->Rows 4 (RdT S1) css Y->Y.length<=t.kids.length+5->wL Y<=wL t.kids->
    Inv w [br] [.blk Z (.cells #[.int .i64 k,.int .i64 n,.string s1,kv] ac),ax kv ac 4 css,B4,rdI br sl p1] S1 w'->
    ∃ (p1:Nat) (S2:af) (r:List Value) (t1:T),p1<=p+2/\Ext w.heap.size [br] S S2/\RdT S2 r t1/\wT t1<=wT t+100/\Inv w [br] [.blk Z (.cells r.toArray ac),B4,rdI br sl p1] S2 w':=by
   intro k n s1 p1 w' S1 css kv Y hE b1 hk hn e1 hR b7 b9 g;obtain ⟨S2,O,g,G,_⟩:=pd (s:=s1) g hR hk hn (by simp only [maxLen]; omega);exact ⟨p1,S2,_,_,b1,hE.trans O,G,by rw [wT,d7]; omega,g⟩
  refine Run.callL bL bK g (cV (n:=50) (a8.monoU B.1) (by omega) (by omega)) rfl fun v' I' S1 w'=>?_;rintro ⟨rfl,rfl,kk,e2,rfl⟩ _ g;refine bo ?_;refine aR (fun _=>?_) (fun _=>?_)
  ·refine ur g (by kernel_rfl) rfl (by omega) fun v S3 w' l hv g=>?_;refine Run.callL eZ fb g (jl (p:=p+1) (a8.monoU (B.trans l).1) hv (by decide) (by omega)) rfl fun v' I' S3 w'=>?_;rintro ⟨rfl,rfl,m,hm,rfl⟩ _ g;have hm:=oo (a:=-1000) (b:=1000) hm (by decide);refine dl g 0 rfl aV az rfl rfl rfl fun w' g=>?_;exact V (B.trans l) (a7 _) (by simp only [inI]; omega) hn (by omega) (hR.monoR fun _ _ h=>RdT.mono l.1 h) (by omega) (a7 _) g
  refine bo ?_;refine aR (fun _=>?_) (fun _=>?_)
  ·refine ur g (by kernel_rfl) rfl (by omega) fun v S3 w' l hv g=>?_;refine Run.callL eZ fb g (jl (p:=p+1) (a8.monoU (B.trans l).1) hv (by decide) (by omega)) rfl fun v' I' S3 w'=>?_;rintro ⟨rfl,rfl,m,hm,rfl⟩ _ g;have hm:=oo (a:=-1000) (b:=1000) hm (by decide);refine dl g 0 rfl aM az rfl rfl rfl fun w' g=>?_;exact V (B.trans l) (a7 _) hk (by simp only [inI]; omega) (by omega) (hR.monoR fun _ _ h=>RdT.mono l.1 h) (by omega) (a7 _) g
  refine bo ?_;refine aR (fun _=>?_) (fun _=>?_)
  ·refine ne g (by kernel_rfl) rfl (by omega) fun v S3 w' l hv g=>?_;refine Run.callL ez eA g (jP (p:=p+1) (a8.monoU (B.trans l).1) hv (by decide) (by omega)) rfl fun v' I' S3 w'=>?_;rintro ⟨rfl,rfl,m,hm,rfl⟩ _ g;have hm:=mn (m:=7) hm (by decide);refine dl g 0 rfl aW aO rfl rfl rfl fun w' g=>?_;exact V (B.trans l) (a7 _) hk hn (by omega) (hR.monoR fun _ _ h=>RdT.mono l.1 h) (by omega) (a7 _) g
  refine bo ?_;refine aR (fun _=>?_) (fun _=>?_)
  ·refine ⟨fun w'=>∃ (S2:af) (kv:Value) (css:List (List Value)) (Y:List T),Ext w.heap.size [br] S S2/\Rows 4 (RdT S2) css Y/\Y.length<=t.kids.length+5/\wL Y<=wL t.kids/\
     Inv w [br] [.blk Z (.cells #[.int .i64 k,.int .i64 n,.string s,kv] ac),ax kv ac 4 css,B4,rdI br sl (p+1)] S2 w',fun w'=>5 - rh w' Z 3,⟨S1,_,css,t.kids,B,hR,by omega,a7 _,g⟩,?_⟩
   intro e3 e4 e5 e6 e7 e8 _ _ _ _ w';rintro ⟨S2,kv,css,Y,O,hR,b7,b9,g⟩;obtain ⟨a1,n1,q1,rfl,d4⟩:∃ a m c,kv=.slice a m c/\m=Y.length:=by
    obtain ⟨S',_,_,_,G⟩:=pd g hR hk hn hs;obtain ⟨a,q,rfl,_⟩:=G;exact ⟨a,_,q,rfl,rfl⟩
   subst d4;have d9:=oa g (i:=0) (o:=3) rfl rfl;have f0:=hR.hc;refine ag g 0 rfl av ar rfl ?_;refine gg ao ?_;refine fI ?_;refine aR (fun d2=>?_) (fun d2=>?_)
   ·have g:=g;refine ⟨fun D z4 mU th qS iJ nM w_=>Fx D 0 [nM=.pointer (some ⟨Z,3,none⟩),iJ=.slice a1 Y.length q1,True,True,True,z4=.pointer (some ⟨Z,3,none⟩),True]/\∃ n_:Nat,n_<=4/\D 2=decide (1<=n_)/\D 3=decide (2<=n_)/\D 4=decide (3<=n_)/\D 6=decide (4<=n_)/\(D 6=true->D 1=true)/\(g9 (Inv w [br] [.blk Z (.cells #[.int .i64 k,.int .i64 n,.string s,.slice a1 Y.length q1] ac),ax (.slice a1 Y.length q1) ac 4 css,B4,rdI br sl (p+1)] S2 w_) (qP w [br] Z #[.int .i64 k,.int .i64 n,.string s,.slice a1 Y.length q1] 3 ac (.slice a1 Y.length q1) css (fun p=>[B4,rdI br sl (p+1)]) (fun cs p' S'=>p'=p/\S'=S2/\RdT S2 cs (.mk 2 1 emptyB [])) qS th mU w_) n_),⟨Fx.nil _ _,⟨0,aQ _,rfl,rfl,rfl,rfl,(aP),g.draw⟩⟩,⟨?_,?_,?_,?_,?_,?_,?_,trivial⟩,?_⟩;all_goals (intro D bm; intros; rename_i z4 mU th qS iJ nM w_ c1; have a2:=c1.1; obtain ⟨⟨c9,cX,cZ,c4,cY,c8,cB,_⟩,⟨n_,b0,J,M,N,C,a3,U⟩⟩:=c1)
    ·refine ay av ?_;exact ⟨a2.set 0 rfl,⟨n_,b0,J,M,N,C,a3,U⟩⟩
    ·obtain rfl:=c9 ‹_›;have c6:=Ft C a3 bm;refine dq ar ((Dr (fun h=>h.cellL (i:=0) rfl) (fun n hn h=>vI h hn) U c6).trans rfl) ?_;exact ⟨a2.set 1 rfl,⟨n_,b0,J,M,N,C,(fun _=>rfl),U⟩⟩
    ·obtain rfl:n_=0:=s9 J bm;refine Run.callPure nv nc (L:=[.blk Z _,ax _ ac 4 css,B4,rdI br sl (p+1)]) U (jf 1 S2) fun w_ g=>?_;exact ⟨a2.set 2 (by first|assumption|trivial),⟨1,by decide,rfl,(by first|exact M|rfl),(by first|exact N|rfl),(by first|exact C|rfl),a3,tA ⟨rfl,rfl,nX (by simp [inI]) (by simp [inI])⟩ (nX (by simp [inI]) (by simp [inI])) g⟩⟩
    ·have Ka:=cZ ‹_›;obtain rfl:n_=1:=fK J ‹D 2=true› M bm;refine ap1 U fun u w_ U=>?_;exact ⟨a2.set 3 (by first|assumption|trivial),⟨2,by decide,(by first|exact J|rfl),rfl,(by first|exact N|rfl),(by first|exact C|rfl),a3,U⟩⟩
    ·obtain rfl:=cX ‹_›;have KA:=c4 ‹_›;obtain rfl:n_=2:=fK M ‹D 3=true› N bm;refine ap2 U (by omega) fun u w_ U=>?_;exact ⟨a2.set 4 (by first|assumption|trivial),⟨3,by decide,(by first|exact J|rfl),(by first|exact M|rfl),rfl,(by first|exact C|rfl),a3,U⟩⟩
    ·refine ay av ?_;exact ⟨a2.set 5 rfl,⟨n_,b0,J,M,N,C,a3,U⟩⟩
    ·obtain rfl:=c8 ‹_›;have CU:=cY ‹_›;obtain rfl:n_=3:=fK N ‹D 4=true› C bm;refine ap3 U (by simp) fun w_ U=>?_;exact ⟨a2.set 6 trivial,⟨4,by decide,(by first|exact J|rfl),(by first|exact M|rfl),(by first|exact N|rfl),rfl,(fun _=>‹D 1=true›),U⟩⟩
    obtain rfl:n_=4:=qF b0 C ‹D 6=true›;clear J M N C;obtain ⟨p3,S7,cs,⟨rfl,rfl,d6⟩,hl,g⟩:=U;have c7:=hR.snoc d6 hl.1;refine ⟨⟨S7,_,_,_,O,c7,by rw [bv]; simp only [bg,cd]; omega,by rw [hO]; have e:emptyB.size=0:=rfl; simp only [wL,wT,cd,e]; omega,g⟩,?_⟩;obtain ⟨S',_,_,_,G⟩:=pd g c7 hk hn hs;obtain ⟨a,q,e,_⟩:=G;have e0:=oa g (i:=0) (o:=3) (a:=a) (n:=(Y++[T.mk 2 1 emptyB []]).length) (m:=q) rfl (by rw [<- e]; rfl);show 5 - rh w_ Z 3<5 - rh w' Z 3;rw [d9,e0,bv,bg,cd];omega
   ·exact V O (by omega) hk hn (by omega) hR b7 b9 g
  refine bo ?_;refine aR (fun _=>?_) (fun _=>?_)
  ·obtain ⟨S2,O,g,G,_⟩:=pd g hR hk hn hs;have g:Inv w [br] [.blk Z (.cells #[.int .i64 k,.int .i64 n,.string s,.slice a0 n0 q0] ac),B4,rdI br sl (p+1)] S2 w':=g;have ht:T.mk k n s t.kids=t:=by rw [b2,b6,a9]; cases t; rfl
   rw [ht] at G;refine ⟨fun t6 w'=>∃ (j:Nat) (S3:af) (r:List Value) (t1:T),t6=.int .i64 (j:Int)/\j<=30/\Ext w.heap.size [br] S S3/\RdT S3 r t1/\wT t1<=wT t+2 * j/\Inv w [br] [.blk Z (.cells r.toArray ac),B4,rdI br sl (p+1)] S3 w',fun t6 _=>30 - (intOf t6).toNat,
    ⟨0,S2,_,t,rfl,by omega,B.trans O,G,by omega,g⟩,?_⟩
   intro t6 _ _ _ _ _ _ _ w';rintro ⟨j,S3,r,t1,rfl,hj,l,G,c2,g⟩;refine cq ?_;refine aR (fun d3=>?_) (fun d3=>?_)
   ·refine au g 0 ad rfl (by simpa using G.length) ?_;refine dI g bw (by simp [Value.cells,G.length]) (by omega) (by omega) fun b8 w' g=>?_;obtain ⟨S4,g,c5,U⟩:=g.pub1;refine Run.call0E cJ cI g (db ⟨#[115]⟩ (by decide) (Ha U (G.mono c5.1)) (by simp)) fun v' I' S5 w'=>?_;rintro ⟨rfl,d0,rfl,a4⟩ d1 g;have g:Inv w [br] [.blk Z (.cells r.toArray ac),B4,rdI br sl (p+1)] S5 w':=by simpa using g
    refine al g 0 rfl ad (by simpa using a4.length) (by simpa using G.length) (by simpa using a4.one) fun w' g=>?_;refine bz (by omega) ?_;have e:(ByteArray.mk #[115]).size=1:=rfl;exact ⟨⟨j+1,S5,d0,_,rfl,by omega,l.trans (c5.trans d1),a4,by simp only [wT,wL,bg,cd,e]; omega,g⟩,by simp only [intOf,gS]; omega⟩
   ·exact ⟨p+1,S3,r,t1,by omega,l,G,by omega,g⟩
  ·exact V B (by omega) hk hn (by omega) hR (by omega) (a7 _) g
 intro _ _ _ _ _ _ _ _ _ _ _ _ _ _ _ _ _ _ _ _ _ _ _ _ _ _ _ _ _ _ _ _ _ _ _ _ _ _ _ _ _ _ w';rintro ⟨p1,S2,r,t1,b1,O,G,c2,g⟩;subst c3;refine au g 0 ad rfl (by simpa using G.length) ?_;refine al g 1 rfl ad (by simpa using G.length) rfl (by simpa using G.one) fun w' g=>?_;refine a5 g 1 ad rfl (by simpa using G.length) ?_;exact ⟨_,_,S2,rfl,g.pick [false,false,true],O,p1,b1,rfl,r,t1,rfl,G,c2⟩
end
end
section
open Go Go.RowKit
section
variable {w0 w:World} {X:List Nat} {L A:List Item} {S:af} {K:Value->World->Prop} {P:Program}
theorem pH {b:Nat} {i:List Value} {h:T} {kv:Value} {css:List (List Value)} {j:List T} {o:Obj}
  (a:Inv w0 X (.blk b o::ax kv ac 4 css::A) S w) (hR:Rows 4 (RdT S) css j) (p:RdT S i h) :
  ∃ S',Ext w0.heap.size X S S'/\Inv w0 X (.blk b o::A) S' w/\RdC S' (i++[kv]) ⟨h,j⟩/\RdSl S' 4 (RdT S') kv j:=by
 have a:Inv w0 X ((.blk b o::A)++[ax kv ac 4 css]) S w:=a.last 1 rfl;obtain ⟨S',l,m,a⟩:=Inv.lendExt a;have g:=RowRd.rows (hR.monoR fun _ _ h=>RdT.mono l.1 h) m;exact ⟨S',l,a,⟨i,kv,rfl,p.mono l.1,g⟩,g⟩
end
abbrev Jn (br:Nat) (sl:Value) (p k m:Nat):Value->List Item->af->Prop:=fun v I' S'=>∃ p',p'<=p+k/\I'=[rdI br sl p']/\∃ cs c,v=.agg cs.toArray/\RdC S' cs c/\wC c<=m
section
variable {br:Nat} {sl:Value} {ys:List Nat}
attribute [local irreducible] Run CondV aw aI
theorem uO {p:Nat} {S:af} {cs:List Value} {c:C} (b0:RdSl S 1 jy sl ys) (h:RdC S cs c) (hw:wC c<=100000) (hp:p<=90000000) :
  Tri Tryz.prog yG [rdP br,.agg cs.toArray] [rdI br sl p] S (Jn br sl p 600 (wC c+700)):=by
 intro w g;have e5:=h.length;refine m9.2 ?_;dsimp only[m9,a6];refine bB g fun b3 w' g=>?_;refine aF g bZ fun b4 w' g=>?_;refine au g 1 aC rfl (by simpa [Value.cells] using e5) ?_;refine Run.call0E rG r4 g (E3 h (by omega)) fun v' I' S1 w'=>?_;rintro ⟨hd,kv,css,rfl,a9,rfl,hR⟩ U g;have U:Ext w.heap.size [br] S S1:=U;obtain ⟨a0,n0,q0,rfl⟩:=g.rowSlice 3 rfl;have a4:=a9;obtain ⟨k4,rfl,hk,hn,hs,_⟩:=RdT.iff.1 a9;obtain ⟨ak,nk,ck,e0⟩:∃ a n c,k4=.slice a n c:=by
  obtain ⟨_,e,_,_,_,a,q,rfl,_⟩:=RdT.iff.1 a4;simp only [wY,and_true,qt] at e;exact ⟨_,_,_,e⟩
 subst e0;refine aF g bZ fun b5 w' g=>?_;refine al g 4 rfl aC rfl rfl (by simp [Value.oneCell']) fun w' g=>?_;obtain ⟨B4,d1⟩:∃ B4,B4=Item.blk b4 (.cells #[.int .i64 0,.int .i64 0,.string ⟨#[]⟩,.slice none 0 0,.slice none 0 0] ae):=⟨_,rfl⟩
 have g:Inv w [br] [.blk b5 (.cells #[.int .i64 c.head.kind,.int .i64 c.head.n,.string c.head.name,.slice ak nk ck,.slice a0 n0 q0] ae),ax (.slice a0 n0 q0) ac 4 css,B4,rdI br sl p] S1 w':=by
  rw [d1];exact (((g.pick [true,false,true,true,true]).last 2 rfl).last 1 rfl).last 0 rfl
 have g2:wC c=wT c.head+c.body.length+wL c.body:=rfl;refine ⟨fun w'=>∃ (p1:Nat) (S2:af) (a8:List Value) (c1:C),p1<=p+600/\Ext w.heap.size [br] S S2/\RdC S2 a8 c1/\wC c1<=wC c+700/\Inv w [br] [.blk b5 (.cells a8.toArray ae),B4,rdI br sl p1] S2 w',?_,?_⟩
 ·have a7:∀ {hd:List Value} {h:T} {p1:Nat} {w':World} {S1:af} {css:List (List Value)} {kv:Value} {ks:List T},Ext w.heap.size [br] S S1->p1<=p+600->RdT S1 hd h->Rows 4 (RdT S1) css ks->wT h+ks.length+wL ks<=wC c+700->
    Inv w [br] [.blk b5 (.cells (hd++[kv]).toArray ae),ax kv ac 4 css,B4,rdI br sl p1] S1 w'->
    ∃ (p1:Nat) (S2:af) (a8:List Value) (c1:C),p1<=p+600/\Ext w.heap.size [br] S S2/\RdC S2 a8 c1/\wC c1<=wC c+700/\Inv w [br] [.blk b5 (.cells a8.toArray ae),B4,rdI br sl p1] S2 w':=by
   intro hd h p1 w' S1 css kv ks hE b9 hh hR d4 g;obtain ⟨S2,O,g,hr,_⟩:=pH g hR hh;exact ⟨p1,S2,_,_,b9,hE.trans O,hr,d4,g⟩
  refine Run.callL bL bK g (cV (n:=40) (b0.monoU U.1) (by omega) (by omega)) rfl fun v' I' S1 w'=>?_;rintro ⟨rfl,rfl,kk,f1,rfl⟩ _ g;refine bo ?_;refine aR (fun _=>?_) (fun _=>?_)
  ·refine Run.callL rv rA g (oA (p:=p+1) (b0.monoU U.1) (by omega)) rfl fun v' I' S2 w'=>?_;rintro ⟨p2,c6,rfl,c2,t2,rfl,b1,c3⟩ O g;refine Run.callL mY mG g (lZ (p:=p2) (b0.monoU (U.trans O).1) b1 (by omega) (by omega)) rfl fun v' I' S3 w'=>?_;rintro ⟨p3,c7,rfl,d0,t3,rfl,b2,d6⟩ Y g;have d2:=b2;obtain ⟨k3,rfl,_,_,_,a3,q3,rfl,_⟩:=RdT.iff.1 b2;refine ay cn ?_;refine GM g 0 rfl ad rfl rfl (by simp [Value.cells,Value.oneCell']) fun w' g=>?_;exact a7 ((U.trans O).trans Y) (by omega) d2 (hR.monoR fun _ _ h=>RdT.mono (O.trans Y).1 h) (by omega) g
  refine bo ?_;refine aR (fun _=>?_) (fun _=>?_)
  ·have e6:=hR.hc;have g:=g;refine ⟨fun D tl sg gu rV uC vg qB mc sG w_=>Fx D 0 [sG=.pointer (some ⟨b5,4,none⟩),mc=.slice a0 n0 q0,qB=rdP br,vg=rdP br,True,True,True,True,tl=.pointer (some ⟨b5,4,none⟩),True]/\∃ J:Nat,J<=5/\D 4=decide (1<=J)/\D 5=decide (2<=J)/\D 6=decide (3<=J)/\D 7=decide (4<=J)/\D 9=decide (5<=J)/\(D 9=true->D 1=true)/\(g9 (Inv w [br] [.blk b5 (.cells #[.int .i64 c.head.kind,.int .i64 c.head.n,.string c.head.name,.slice ak nk ck,.slice a0 n0 q0] ae),ax (.slice a0 n0 q0) ac 4 css,B4,rdI br sl (p+1)] S1 w_) (g9 (∃ p1 S2 cs t,uC=.agg cs.toArray/\RdT S2 cs t/\wT t<=500/\p1<=p+501/\Ext w.heap.size [br] S1 S2/\Inv w [br] [.blk b5 (.cells #[.int .i64 c.head.kind,.int .i64 c.head.n,.string c.head.name,.slice ak nk ck,.slice a0 n0 q0] ae),ax (.slice a0 n0 q0) ac 4 css,B4,rdI br sl p1] S2 w_) (qP w [br] b5 #[.int .i64 c.head.kind,.int .i64 c.head.n,.string c.head.name,.slice ak nk ck,.slice a0 n0 q0] 4 ae (.slice a0 n0 q0) css (fun p=>[B4,rdI br sl p]) (fun cs p' S'=>∃ t,RdT S' cs t/\wT t<=600/\p'<=p+503/\Ext w.heap.size [br] S1 S') rV gu sg w_)) J),⟨Fx.nil _ _,⟨0,aQ _,rfl,rfl,rfl,rfl,rfl,(aP),g.draw⟩⟩,⟨?_,?_,?_,?_,?_,?_,?_,?_,?_,?_,trivial⟩,?_⟩;all_goals (intro D bm; intros; rename_i tl sg gu rV uC vg qB mc sG w_ b6; have G:=b6.1; obtain ⟨⟨c9,cX,cZ,c4,cY,c8,cB,df,dK,eF,_⟩,⟨J,Z,l,r,B,j,V,N,M⟩⟩:=b6)
   ·refine ay aT ?_;exact ⟨G.set 0 rfl,⟨J,Z,l,r,B,j,V,N,M⟩⟩
   ·obtain rfl:=c9 ‹_›;have b7:=Ft V N bm;refine dq ar ((HN (fun h=>h.cellL (i:=0) rfl) (fun ⟨_,_,_,_,_,_,_,_,_,h⟩=>h.cellL (i:=0) rfl) (fun n hn h=>vI h hn) M b7).trans rfl) ?_;exact ⟨G.set 1 rfl,⟨J,Z,l,r,B,j,V,(fun _=>rfl),M⟩⟩
   ·exact ⟨G.set 2 rfl,⟨J,Z,l,r,B,j,V,N,M⟩⟩
   ·exact ⟨G.set 3 rfl,⟨J,Z,l,r,B,j,V,N,M⟩⟩
   ·obtain rfl:=c4 ‹_›;obtain rfl:J=0:=s9 l bm;refine Run.callL rv rA (L:=[.blk b5 _,ax _ ac 4 css,B4,rdI br sl (p+1)]) M (oA (p:=p+1) (b0.monoU U.1) (by omega)) rfl fun v' I' S2 w_=>?_;rintro ⟨p2,c6,rfl,c2,t2,rfl,b1,c3⟩ O g;exact ⟨G.set 4 (by first|assumption|trivial),⟨1,by decide,rfl,(by first|exact r|rfl),(by first|exact B|rfl),(by first|exact j|rfl),(by first|exact V|rfl),N,⟨p2,S2,c2,t2,rfl,b1,c3,by omega,O,g⟩⟩⟩
   ·obtain rfl:=cZ ‹_›;have CU:=cY ‹_›;obtain rfl:J=1:=fK l ‹D 4=true› r bm;obtain ⟨p2,S2,c2,t2,rfl,b1,c3,c6,O,g⟩:=cL M;refine Run.callL mY mG (L:=[.blk b5 _,ax _ ac 4 css,B4,rdI br sl p2]) g (lZ (p:=p2) (b0.monoU (U.trans O).1) b1 (by omega) (by omega)) rfl fun v' I' S3 w_=>?_;rintro ⟨p3,c7,rfl,d0,t3,rfl,b2,d6⟩ Y g;exact ⟨G.set 5 (by first|assumption|trivial),⟨2,by decide,(by first|exact l|rfl),rfl,(by first|exact B|rfl),(by first|exact j|rfl),(by first|exact V|rfl),N,eC (tA ⟨t3,b2,by omega,by omega,O.trans Y⟩ b2 g)⟩⟩
   ·have FU:=c8 ‹_›;obtain rfl:J=2:=fK r ‹D 5=true› B bm;refine ap1 (cL M) fun u w_ M=>?_;exact ⟨G.set 6 (by first|assumption|trivial),⟨3,by decide,(by first|exact l|rfl),(by first|exact r|rfl),rfl,(by first|exact j|rfl),(by first|exact V|rfl),N,eC M⟩⟩
   ·obtain rfl:=cX ‹_›;have zK:=cB ‹_›;obtain rfl:J=3:=fK B ‹D 6=true› j bm;refine ap2 (cL M) (by omega) fun u w_ M=>?_;exact ⟨G.set 7 (by first|assumption|trivial),⟨4,by decide,(by first|exact l|rfl),(by first|exact r|rfl),(by first|exact B|rfl),rfl,(by first|exact V|rfl),N,eC M⟩⟩
   ·refine ay aT ?_;exact ⟨G.set 8 rfl,⟨J,Z,l,r,B,j,V,N,M⟩⟩
   ·obtain rfl:=dK ‹_›;have zJ:=df ‹_›;obtain rfl:J=4:=fK j ‹D 7=true› V bm;refine ap3 (cL M) (by simp) fun w_ M=>?_;exact ⟨G.set 9 trivial,⟨5,by decide,(by first|exact l|rfl),(by first|exact r|rfl),(by first|exact B|rfl),(by first|exact j|rfl),rfl,(fun _=>‹D 1=true›),eC M⟩⟩
   obtain rfl:J=5:=qF Z V ‹D 9=true›;clear l r B j V;obtain ⟨p3,S7,cs,⟨t,c5,g1,c7,a2⟩,hl,g⟩:=cL (cL M);exact a7 (U.trans a2) (by omega) (a4.mono a2.1) ((hR.monoR fun _ _ h=>RdT.mono a2.1 h).snoc c5 hl.1) (by rw [hO,bv,bg,cd]; simp only [wL]; omega) g
  refine bo ?_;refine aR (fun _=>?_) (fun _=>?_)
  ·refine ⟨fun w'=>∃ (S2:af) (kv:Value) (css:List (List Value)) (ks:List T),Ext w.heap.size [br] S S2/\Rows 4 (RdT S2) css ks/\ks.length<=c.body.length+7/\wL ks+4 * (7 - (ks.length - c.body.length))<=wL c.body+28/\c.body.length<=ks.length/\
     RdT S2 [.int .i64 c.head.kind,.int .i64 c.head.n,.string c.head.name,.slice ak nk ck] c.head/\
     Inv w [br] [.blk b5 (.cells #[.int .i64 c.head.kind,.int .i64 c.head.n,.string c.head.name,.slice ak nk ck,kv] ae),ax kv ac 4 css,B4,rdI br sl (p+1)] S2 w',fun w'=>7 - rh w' b5 4,⟨S1,_,css,c.body,U,hR,by omega,by omega,by omega,a4,g⟩,?_⟩
   intro f2 f3 f4 f5 f6 f7 _ _ _ _ w';rintro ⟨S2,kv,css,ks,O,hR,f8,f9,g0,a9,g⟩;obtain ⟨a1,n1,q1,rfl,e1⟩:∃ a m c,kv=.slice a m c/\m=ks.length:=by
    obtain ⟨S',_,_,_,hr⟩:=pH g hR a9;obtain ⟨a,q,rfl,_⟩:=hr;exact ⟨a,_,q,rfl,rfl⟩
   subst e1;have e7:=oa g (i:=0) (o:=4) rfl rfl;have e6:=hR.hc;refine ag g 0 rfl aT ar rfl ?_;refine gg ao ?_;refine fI ?_;refine aR (fun d9=>?_) (fun d9=>?_)
   ·have g:=g;refine ⟨fun D mU th qS iJ nM ri w_=>Fx D 0 [ri=.pointer (some ⟨b5,4,none⟩),nM=.slice a1 ks.length q1,True,True,True,mU=.pointer (some ⟨b5,4,none⟩),True]/\∃ J:Nat,J<=4/\D 2=decide (1<=J)/\D 3=decide (2<=J)/\D 4=decide (3<=J)/\D 6=decide (4<=J)/\(D 6=true->D 1=true)/\(g9 (Inv w [br] [.blk b5 (.cells #[.int .i64 c.head.kind,.int .i64 c.head.n,.string c.head.name,.slice ak nk ck,.slice a1 ks.length q1] ae),ax (.slice a1 ks.length q1) ac 4 css,B4,rdI br sl (p+1)] S2 w_) (qP w [br] b5 #[.int .i64 c.head.kind,.int .i64 c.head.n,.string c.head.name,.slice ak nk ck,.slice a1 ks.length q1] 4 ae (.slice a1 ks.length q1) css (fun p=>[B4,rdI br sl (p+1)]) (fun cs p' S'=>p'=p/\Ext w.heap.size [br] S2 S'/\RdT S' cs (.mk 3 0 ⟨#[116,114,117,101]⟩ [])) iJ qS th w_) J),⟨Fx.nil _ _,⟨0,aQ _,rfl,rfl,rfl,rfl,(aP),g.draw⟩⟩,⟨?_,?_,?_,?_,?_,?_,?_,trivial⟩,?_⟩;all_goals (intro D bm; intros; rename_i mU th qS iJ nM ri w_ b6; have G:=b6.1; obtain ⟨⟨c9,cX,cZ,c4,cY,c8,cB,_⟩,⟨J,Z,l,r,B,j,N,M⟩⟩:=b6)
    ·refine ay aT ?_;exact ⟨G.set 0 rfl,⟨J,Z,l,r,B,j,N,M⟩⟩
    ·obtain rfl:=c9 ‹_›;have b7:=Ft j N bm;refine dq ar ((Dr (fun h=>h.cellL (i:=0) rfl) (fun n hn h=>vI h hn) M b7).trans rfl) ?_;exact ⟨G.set 1 rfl,⟨J,Z,l,r,B,j,(fun _=>rfl),M⟩⟩
    ·obtain rfl:J=0:=s9 l bm;refine Run.call0E cJ cI (L:=[.blk b5 _,ax _ ac 4 css,B4,rdI br sl (p+1)]) M (db ⟨#[116,114,117,101]⟩ (by decide) (kE S2) (by simp)) fun v' I' S3 w_=>?_;rintro ⟨rfl,d0,rfl,b8⟩ Y g;exact ⟨G.set 2 (by first|assumption|trivial),⟨1,by decide,rfl,(by first|exact r|rfl),(by first|exact B|rfl),(by first|exact j|rfl),N,tA ⟨rfl,Y,b8⟩ b8 g⟩⟩
    ·have Ka:=cZ ‹_›;obtain rfl:J=1:=fK l ‹D 2=true› r bm;refine ap1 M fun u w_ M=>?_;exact ⟨G.set 3 (by first|assumption|trivial),⟨2,by decide,(by first|exact l|rfl),rfl,(by first|exact B|rfl),(by first|exact j|rfl),N,M⟩⟩
    ·obtain rfl:=cX ‹_›;have KA:=c4 ‹_›;obtain rfl:J=2:=fK r ‹D 3=true› B bm;refine ap2 M (by omega) fun u w_ M=>?_;exact ⟨G.set 4 (by first|assumption|trivial),⟨3,by decide,(by first|exact l|rfl),(by first|exact r|rfl),rfl,(by first|exact j|rfl),N,M⟩⟩
    ·refine ay aT ?_;exact ⟨G.set 5 rfl,⟨J,Z,l,r,B,j,N,M⟩⟩
    ·obtain rfl:=c8 ‹_›;have CU:=cY ‹_›;obtain rfl:J=3:=fK B ‹D 4=true› j bm;refine ap3 M (by simp) fun w_ M=>?_;exact ⟨G.set 6 trivial,⟨4,by decide,(by first|exact l|rfl),(by first|exact r|rfl),(by first|exact B|rfl),rfl,(fun _=>‹D 1=true›),M⟩⟩
    obtain rfl:J=4:=qF Z j ‹D 6=true›;clear l r B j;obtain ⟨p3,S7,cs,⟨rfl,a2,c5⟩,hl,g⟩:=M;have d3:=(hR.monoR fun _ _ h=>RdT.mono a2.1 h).snoc c5 hl.1;have e4:(ByteArray.mk #[116,114,117,101]).size=4:=rfl;refine ⟨⟨S7,_,_,_,O.trans a2,d3,by rw [bv]; simp only [bg,cd]; omega,by rw [hO,bv,bg,cd]; simp only [wL,wT,cd,e4]; omega,by rw [bv]; omega,a9.mono a2.1,g⟩,?_⟩;obtain ⟨S',_,_,_,hr⟩:=pH g d3 (a9.mono a2.1);obtain ⟨a,q,e,_⟩:=hr;have e8:=oa g (i:=0) (o:=4) (a:=a) (n:=(ks++[T.mk 3 0 ⟨#[116,114,117,101]⟩ []]).length) (m:=q) rfl (by rw [<- e]; rfl);show 7 - rh w_ b5 4<7 - rh w' b5 4;rw [e7,e8,bv,bg,cd];omega
   ·exact a7 O (by omega) a9 hR (by omega) g
  refine bo ?_;refine aR (fun _=>?_) (fun _=>?_)
  ·refine ne g (by kernel_rfl) rfl (by omega) fun v S3 w' Y hv g=>?_;refine Run.callL ez eA g (jP (p:=p+1) (b0.monoU (U.trans Y).1) hv (by decide) (by omega)) rfl fun v' I' S3 w'=>?_;rintro ⟨rfl,rfl,m,hm,rfl⟩ _ g;have hm:=mn (m:=7) hm (by decide);refine ay cn ?_;refine ay aW ?_;refine di g 0 (n:=1) rfl (by decide +kernel) rfl (by simp) (by simp [Value.cells,Value.oneCell']) fun w' g=>?_;have e9:=a4.mono Y.1;obtain ⟨k3,e3,_,_,_,e2⟩:=RdT.iff.1 e9;have f0:RdT S3 [.int .i64 c.head.kind,.int .i64 c.head.n,.string m,.slice ak nk ck] (.mk c.head.kind c.head.n m c.head.kids):=by
    simp only [wY,and_true,qt] at e3;exact RdT.iff.2 ⟨_,rfl,hk,hn,by simp only [T.name,maxLen]; omega,e3 ▸ e2⟩
   refine a7 (U.trans Y) (by omega) f0 (hR.monoR fun _ _ h=>RdT.mono Y.1 h) ?_ g;have:wT c.head=c.head.name.size+c.head.kids.length+wL c.head.kids:=by cases c.head; rw [wT]; rfl
   rw [wT];omega
  ·exact a7 U (by omega) a4 hR (by omega) g
 intro _ _ _ _ _ _ _ _ _ _ _ _ _ _ _ _ _ _ _ _ _ _ _ _ _ _ _ _ _ _ _ _ _ _ _ _ _ _ _ w';rintro ⟨p1,S2,a8,c1,b9,O,hr,d7,g⟩;subst d1;refine au g 0 aC rfl (by simpa using hr.length) ?_;refine al g 1 rfl aC (by simpa using hr.length) rfl (by simpa using hr.one) fun w' g=>?_;refine a5 g 1 aC rfl (by simpa using hr.length) ?_;exact ⟨_,_,S2,rfl,g.pick [false,false,true],O,p1,b9,rfl,a8,c1,rfl,hr,d7⟩
end
end
section
open Go Go.RowKit
def Light (n m:Nat) (q:List C):Prop:=q.length<=n/\∀ c∈q,wC c<=m
theorem Light.le {n m:Nat} {q:List C} (h:Light n m q):q.length+wP q<=n+n * m:=by
 have:∀ q:List C,(∀ c∈q,wC c<=m)->wP q<=q.length * m:=by
  intro q;induction q with
  | nil=>intro _; simp [wP]
  | cons c q j=>
   intro h;have g:=h c (cQ ..);have i:=j fun d a=>h d (c7 _ a);simp only [wP,bg,ip];omega
 have g:=this q h.2;have i:q.length * m<=n * m:=eV _ h.1;have:=h.1;omega
theorem Light.append {n a m:Nat} {q g:List C} (h:Light n m q) (i:Light a m g):Light (n+a) m (q++g):=
 ⟨by rw [bv]; exact Nat.add_le_add h.1 i.1,fun c hc=>(dh.1 hc).elim (h.2 c) (i.2 c)⟩
abbrev Jd (br:Nat) (sl:Value) (p k n m:Nat):Value->List Item->af->Prop:=fun v I' S'=>∃ p' css q,p'<=p+k/\I'=[ax v ae 5 css,rdI br sl p']/\Rows 5 (RdC S') css q/\Light n m q/\0<q.length/\∀ c∈q,a4 c=true
section
variable {w0 w:World} {X:List Nat} {L A:List Item} {S:af}
theorem He {v:Value} {css:List (List Value)} {q:List C} (a:Inv w0 X (ax v ae 5 css::A) S w) (hR:Rows 5 (RdC S) css q) :
  ∃ S',Ext w0.heap.size X S S'/\Inv w0 X A S' w/\RdSl S' 5 (RdC S') v q:=by
 have a:Inv w0 X (A++[ax v ae 5 css]) S w:=a.last 0 rfl;obtain ⟨S',i,g,a⟩:=Inv.lendExt a;exact ⟨S',i,a,RowRd.rows (hR.monoR fun _ _ h=>RdC.mono i.1 h) g⟩
end
section
variable {br:Nat} {sl:Value} {ys:List Nat}
attribute [local irreducible] Run CondV aw aI
end
end
section
open Go Go.RowKit
def okS (s:ByteArray):Bool:=GU (bs s) && decide (s.size<=1000)
theorem Hb {s:ByteArray} (h:okS s=true):∃ q,Er 60 (bs s)=some q/\0<q.length/\Light 8 200 q/\(∀ c∈q,a4 c=true)/\s.size<=1000:=by
 rw [okS,bJ,bQ] at h;obtain ⟨h,g⟩:=h;unfold GU at h;split at h
 ·rename_i q a
  simp only [bJ,bQ,gR] at h;exact ⟨q,a,h.1,⟨h.2.1,fun c hc=>(h.2.2 c hc).2⟩,fun c hc=>(h.2.2 c hc).1,g⟩
 ·cases h
theorem E9 {Q B:Prop} {R:Nat->Prop} {m:Nat} (a:Q->B) (g:∀ n,n<m->R n->B):∀ n,n<m+1->g9 Q R n->B
 | 0,_,h=>a h
 | n+1,hn,h=>g n (by omega) h
section
attribute [local irreducible] Run CondV aw aI
theorem FM {S:af} {s:ByteArray} (h:okS s=true):Tri Tryz.prog js [.string s] [] S fun v I' S'=>∃ u css q,v=.tuple #[u,.bool true]/\I'=[ax u ae 5 css]/\Rows 5 (RdC S') css q/\0<q.length/\Light 8 200 q/\∀ c∈q,a4 c=true:=by
 obtain ⟨q,i,j,l,hc,o⟩:=Hb h;intro w a;have m:(bs s).length=s.size:=(jW (bs s)).symm;refine (no (f:=60) (by omega) i (by rw [m]; omega) w a).mono ?_;rintro e w' ⟨v,I',S',rfl,a,g,u,css,rfl,rfl,hR⟩;exact ⟨_,_,S',rfl,a,g,u,css,q,rfl,rfl,hR,j,l,hc⟩
theorem wd (S:af):Tri Tryz.prog Bg [] [] S fun v I' S'=>I'=[]/\∃ l,RdSl S' 1 ou v l/\l.length=11/\l.all okS=true:=by
 intro w a;refine ox.2 ?_;dsimp only[ox,mB];refine ne a (by kernel_rfl) rfl (by omega) fun v S1 w' g h a=>?_;exact ⟨_,[],S1,rfl,a,g,rfl,_,h,rfl,by decide +kernel⟩
variable {br:Nat} {sl:Value} {ys:List Nat}
theorem s0 {p:Nat} {S:af} (i:RdSl S 1 jy sl ys) (G:p<=100000000):Tri Tryz.prog wQ [rdP br] [rdI br sl p] S (Jd br sl p 1 8 200):=by
 intro w a;refine l8.2 ?_;dsimp only[l8,aG];refine Run.call0E y7 yv a (wd S) fun D I' S1 w'=>?_;rintro ⟨rfl,l,r,t,g⟩ h a;have a:Inv w [br] [rdI br sl p] S1 w':=a;refine aL r ci ?_;refine Run.callL bL bK a (cV (n:=l.length) (i.monoU h.1) (by omega) (by omega)) rfl fun D I' S1 w'=>?_;rintro ⟨rfl,rfl,k,hk,rfl⟩ _ a;have a:Inv w [br] [rdI br sl (p+1)] S1 w':=a;refine i7 a r ci aO hk (fun cs o=>o) ?_;rw [gR] at g;refine Run.call0E pN oO a (FM (g _ (cr hk))) fun v I' S2 w'=>?_;rintro ⟨u,css,q,rfl,rfl,hR,B,C,j⟩ m a;refine aA (v:=u) rfl ?_;refine aA (v:=.bool true) rfl ?_;exact ⟨_,_,S2,rfl,a.last 0 rfl,h.trans m,p+1,css,q,a7 _,rfl,hR,C,B,j⟩
end
end
section
open Go Go.RowKit
mutual
def dU (m:Int):T->T
 | .mk k n s ks=>.mk k (if k=1 then n+m else n) s (fD m ks)
def fD (m:Int):List T->List T
 | []=>[]
 | t::ts=>dU m t::fD m ts
end
theorem gp (m:Int):∀ a:List T,fD m a=a.map (dU m)
 | []=>rfl
 | t::a=>by rw [fD,gp m a]; rfl
theorem sx (m:Int) (a:List T) (j:Nat) (h:j<a.length):fD m (a.take (j+1))=fD m (a.take j)++[dU m a[j]]:=by
 rw [gp,gp,mK h,ya]; rfl
def Hj (m:Int) (c:C):C:=⟨dU m c.head,fD m c.body⟩
section
attribute [local irreducible] Run CondV aw aI
theorem mX {N:Nat} (hN:N<=1000000) (m:Int) (c2:0<=m) (c3:m<=1000000):∀ (t:T) (S:af) (cs:List Value),RdT S cs t->okU N t->wT t<=1048576->Tri Tryz.prog Bp [.agg cs.toArray,.int .i64 m] [] S (uF S (dU m t)):=by
 refine T.ind fun k n s O ih S cs h a1 hw=>?_;intro w a;obtain ⟨kv,rfl,h1,h2,hs,a3⟩:=RdT.iff.1 h;simp only [T.name,T.kids,T.kind,T.n] at h1 h2 hs a3 ⊢;simp only [wT] at hw;rw [okU] at a1;obtain ⟨_,a2,a1,_⟩:=a1;obtain ⟨l,C⟩:∃ l,l=if k=1 then n+m else n:=⟨_,rfl⟩
 have b7:inI l:=by
  rw [C];split
  ·have:=a2 (by assumption);simp only [inI];omega
  ·exact h2
 refine nW.2 ?_;dsimp only[nW,a6];refine bB a fun b1 w' a=>?_;refine aF a aZ fun b2 w' a=>?_;refine ag a 0 rfl aV az rfl ?_;refine ag a 0 rfl aM az rfl ?_;refine ag a 0 rfl aW aO rfl ?_;refine lm ?_;refine aF a aZ fun b3 w' a=>?_;refine al a 2 rfl ad rfl rfl (by simp [Value.oneCell']) fun w' a=>?_;have a:Inv w [] [.blk b1 (.cells #[.int .i64 k,.int .i64 n,.string s,kv] ac),.blk b2 (.cells #[.int .i64 0,.int .i64 0,.string ⟨#[]⟩,.slice none 0 0] ac),.blk b3 (.cells #[.int .i64 k,.int .i64 n,.string s,.slice none 0 0] ac)] S w':=a;refine ⟨fun w'=>Inv w [] [.blk b1 (.cells #[.int .i64 k,.int .i64 n,.string s,kv] ac),.blk b2 (.cells #[.int .i64 0,.int .i64 0,.string ⟨#[]⟩,.slice none 0 0] ac),.blk b3 (.cells #[.int .i64 k,.int .i64 l,.string s,.slice none 0 0] ac)] S w',?_,?_⟩
 ·refine ag a 0 rfl aV az rfl ?_;refine bo ?_;refine aR (fun he=>?_) (fun he=>?_)
  ·have hv:=a2 he;refine ag a 0 rfl aM az rfl ?_;refine bz (by omega) ?_;rw [ai he] at C;rw [C];exact dl a 2 rfl aM az rfl rfl rfl fun w' a=>a
  ·rw [ah he] at C;rw [C];exact a
 intro _ _ _ _ _ _ _ _ w' a;have a:=a.rowNil ac 4;refine ⟨fun i w'=>∃ (j:Nat) (q:Value) (Ls:List aU) (css:List (List Value)),j<=O.length/\i=.int .i64 j/\Grown 4 TrT Ls css (fD m (O.take j))/\
   Inv w [] (.blk b1 (.cells #[.int .i64 k,.int .i64 n,.string s,kv] ac)::.blk b2 (.cells #[.int .i64 0,.int .i64 0,.string ⟨#[]⟩,.slice none 0 0] ac)::.blk b3 (.cells #[.int .i64 k,.int .i64 l,.string s,q] ac)::ax q ac 4 css::aS Ls.flatten) S w',
  fun i _=>O.length - (intOf i).toNat,⟨0,_,[],[],aQ _,rfl,Grown.nil _ _,a⟩,?_⟩
 intro t7 _ _ _ _ _ _ _ _ _ _ _ _ _ _ _ _ _ _ _ w';rintro ⟨j,q,Ls,css,hj,rfl,hg,a⟩;refine ag a 0 rfl av ar rfl ?_;refine aL a3 ao ?_;refine cq ?_;refine aR (fun b5=>?_) (fun b5=>?_)
 ·have a0:j<O.length:=by omega
  have c5:(O.take j).length=j:=by simp; omega
  have b9:=hg.hc;rw [gp,A6] at b9;have hm:=cr a0;have c6:=ji hm;obtain ⟨b,o,cap,c,E,fz,rfl,hS,hR⟩:=a3.at_ a0;refine ⟨fun D z4 mU th qS iJ nM ri uy uu sK kZ sJ w_=>Fx D 0 [sJ=.pointer (some ⟨b3,3,none⟩),kZ=q,sK=.pointer (some ⟨b1,3,none⟩),uu=.slice (some ⟨b,o,none⟩) O.length cap,uy=.int .i64 j,ri=.pointer (some ⟨b,o+j * 4,none⟩),nM=.agg (bd c (o+j * 4) 4).toArray,iJ=.int .i64 m,True,True,True,z4=.pointer (some ⟨b3,3,none⟩),True]/\∃ M g B,(D 8=true->qS=.agg g.toArray/\TrT M g (dU m O[j]))/\(D 9=true->th=.slice (some ⟨B,0,none⟩) 1 1)/\(D 9=true->D 8=true)/\(D 10=true->D 9=true)/\(D 12=true->D 10=true)/\(D 12=true->D 1=true)/\Inv w [] (aH (.blk b1 (.cells #[.int .i64 k,.int .i64 n,.string s,.slice (some ⟨b,o,none⟩) O.length cap] ac)) (.blk b2 (.cells #[.int .i64 0,.int .i64 0,.string ⟨#[]⟩,.slice none 0 0] ac)) (.blk b3 (.cells #[.int .i64 k,.int .i64 l,.string s,q] ac)) (.blk b3 (.cells #[.int .i64 k,.int .i64 l,.string s,mU] ac)) (ax q ac 4 css) (ax mU ac 4 (css++[g])) (aS Ls.flatten) M (.blk B (.cells g.toArray ac)) (D 8) (D 9) (D 10) (D 12)) S w_,⟨Fx.nil _ _,⟨[],[],0,aP,aP,aP,aP,aP,aP,by simpa [aH,aS] using a.draw⟩⟩,⟨?_,?_,?_,?_,?_,?_,?_,?_,?_,?_,?_,?_,?_,trivial⟩,?_⟩;all_goals (intro D bm; intros; rename_i z4 mU th qS iJ nM ri uy uu sK kZ sJ w_ a8; have r:=a8.1; obtain ⟨⟨c9,cX,cZ,c4,cY,c8,cB,df,dK,eF,cW,dR,gZ,_⟩,⟨M,g,B,J,Z,V,U,p,Y,a⟩⟩:=a8)
  ·refine ay av ?_;exact ⟨r.set 0 rfl,⟨M,g,B,J,Z,V,U,p,Y,a⟩⟩
  ·obtain rfl:=c9 ‹_›;have G:D 12=false:=bS.2 fun h=>by rw [Y h] at bm; cases bm
   refine aJ (b:=b3) a 2 (c:=(#[.int .i64 k,.int .i64 l,.string s,q])) ar (by rw [G]; rfl) rfl ?_;have Y:=fun (_:aB D 1 12=true)=>(rfl:aB D 1 1=true)
   exact ⟨r.set 1 rfl,⟨M,g,B,J,Z,V,U,p,Y,a⟩⟩
  ·refine ay av ?_;exact ⟨r.set 2 rfl,⟨M,g,B,J,Z,V,U,p,Y,a⟩⟩
  ·obtain rfl:=cZ ‹_›;refine aJ a 0 ar rfl rfl ?_;exact ⟨r.set 3 rfl,⟨M,g,B,J,Z,V,U,p,Y,a⟩⟩
  ·exact ⟨r.set 4 rfl,⟨M,g,B,J,Z,V,U,p,Y,a⟩⟩
  ·obtain rfl:=c4 ‹_›;obtain rfl:=cY ‹_›;refine aN ao a0 ?_;exact ⟨r.set 5 rfl,⟨M,g,B,J,Z,V,U,p,Y,a⟩⟩
  ·obtain rfl:=c8 ‹_›;refine dC ad hR.length (fun j v hj=>by rw [a.cellS hS]; exact aX rfl j v hj) ?_;exact ⟨r.set 6 rfl,⟨M,g,B,J,Z,V,U,p,Y,a⟩⟩
  ·exact ⟨r.set 7 rfl,⟨M,g,B,J,Z,V,U,p,Y,a⟩⟩
  ·obtain rfl:=cB ‹_›;obtain rfl:=df ‹_›;have f8:D 9=false:=bS.2 fun h=>by rw [V h] at bm; cases bm
   have f9:D 10=false:=bS.2 fun h=>by rw [U h] at f8; cases f8
   have G:D 12=false:=bS.2 fun h=>by rw [p h] at f9; cases f9
   rw [bm,f8,f9,G] at a;refine Run.call0 kD kf a (ih _ (cr a0) S _ hR (fO a1 _ (cr a0)) (by omega)) fun v' I' S w_=>?_;rintro ⟨rfl,g,M,rfl,rfl,hT⟩ _ a;have J:aB D 8 8=true->Value.agg g.toArray=Value.agg g.toArray/\TrT M g (dU m O[j]):=fun _=>⟨rfl,hT⟩
   have V:=fun (_:aB D 8 9=true)=>(rfl:aB D 8 8=true)
   have a:Inv w [] (aH (.blk b1 (.cells #[.int .i64 k,.int .i64 n,.string s,.slice (some ⟨b,o,none⟩) O.length cap] ac)) (.blk b2 (.cells #[.int .i64 0,.int .i64 0,.string ⟨#[]⟩,.slice none 0 0] ac)) (.blk b3 (.cells #[.int .i64 k,.int .i64 l,.string s,q] ac)) (.blk b3 (.cells #[.int .i64 k,.int .i64 l,.string s,mU] ac)) (ax q ac 4 css) (ax mU ac 4 (css++[g])) (aS Ls.flatten) M (.blk B (.cells g.toArray ac)) true (D 9) (D 10) (D 12)) S w_:=by
    rw [f8,f9,G];simpa [aH] using a
   exact ⟨r.set 8 (by first|assumption|trivial),⟨M,g,B,J,Z,V,U,p,Y,a⟩⟩
  ·have wZ:=dK ‹_›;have f9:D 10=false:=bS.2 fun h=>by rw [U h] at bm; cases bm
   have G:D 12=false:=bS.2 fun h=>by rw [p h] at f9; cases f9
   obtain ⟨q7,hT⟩:=J ‹D 8=true›;subst q7;rw [‹D 8=true›,bm,f9,G] at a;refine dI a bw (by simp [Value.cells,hT.length]) (by omega) (by omega) fun B w_ a=>?_;have J:aB D 9 8=true->Value.agg g.toArray=Value.agg g.toArray/\TrT M g (dU m O[j]):=fun _=>⟨rfl,hT⟩
   have Z:=fun (_:aB D 9 9=true)=>(rfl:Value.slice (some ⟨B,0,none⟩) 1 1=_)
   have V:=fun (_:aB D 9 9=true)=>‹D 8=true›;have U:=fun (_:aB D 9 10=true)=>(rfl:aB D 9 9=true)
   have a:Inv w [] (aH (.blk b1 (.cells #[.int .i64 k,.int .i64 n,.string s,.slice (some ⟨b,o,none⟩) O.length cap] ac)) (.blk b2 (.cells #[.int .i64 0,.int .i64 0,.string ⟨#[]⟩,.slice none 0 0] ac)) (.blk b3 (.cells #[.int .i64 k,.int .i64 l,.string s,q] ac)) (.blk b3 (.cells #[.int .i64 k,.int .i64 l,.string s,mU] ac)) (ax q ac 4 css) (ax mU ac 4 (css++[g])) (aS Ls.flatten) M (.blk B (.cells g.toArray ac)) (D 8) true (D 10) (D 12)) S w_:=by
    rw [‹D 8=true›,f9,G];simpa [aH,Value.cells] using a
   exact ⟨r.set 9 (by first|assumption|trivial),⟨M,g,B,J,Z,V,U,p,Y,a⟩⟩
  ·obtain rfl:=cX ‹_›;have xN:=eF ‹_›;have G:D 12=false:=bS.2 fun h=>by rw [p h] at bm; cases bm
   have q8:=Z ‹D 9=true›;subst q8;obtain ⟨_,hT⟩:=J ‹D 8=true›;rw [‹D 8=true›,‹D 9=true›,bm,G] at a;have a9:((aH (.blk b1 (.cells #[.int .i64 k,.int .i64 n,.string s,.slice (some ⟨b,o,none⟩) O.length cap] ac)) (.blk b2 (.cells #[.int .i64 0,.int .i64 0,.string ⟨#[]⟩,.slice none 0 0] ac)) (.blk b3 (.cells #[.int .i64 k,.int .i64 l,.string s,kZ] ac)) (.blk b3 (.cells #[.int .i64 k,.int .i64 l,.string s,mU] ac)) (ax kZ ac 4 css) (ax mU ac 4 (css++[g])) (aS Ls.flatten) M (.blk B (.cells g.toArray ac)) true true false false))[4+(aS Ls.flatten).length+(aS M).length]?=some (.blk B (.cells g.toArray ac)):=by
    have e4:4+(aS Ls.flatten).length+(aS M).length=((aS Ls.flatten).length+(aS M).length)+1+1+1+1:=by omega
    rw [e4];simp only [aH,iq];rw [fP (by omega),pE,fP (a7 _),dY]; rfl
   refine dH a 3 g bw (by omega) rfl (by rw [hT.length]) (m:=1) (o:=0) ?_ hT.one (by omega) (by omega) fun v' w_ a=>?_
   ·intro i u hi;rw [a.cellL a9,ct];simpa using hi
   rw [dZ] at a;have U:=fun (_:aB D 10 10=true)=>‹D 9=true›;have p:=fun (_:aB D 10 12=true)=>(rfl:aB D 10 10=true)
   have a:Inv w [] (aH (.blk b1 (.cells #[.int .i64 k,.int .i64 n,.string s,.slice (some ⟨b,o,none⟩) O.length cap] ac)) (.blk b2 (.cells #[.int .i64 0,.int .i64 0,.string ⟨#[]⟩,.slice none 0 0] ac)) (.blk b3 (.cells #[.int .i64 k,.int .i64 l,.string s,kZ] ac)) (.blk b3 (.cells #[.int .i64 k,.int .i64 l,.string s,v'] ac)) (ax kZ ac 4 css) (ax v' ac 4 (css++[g])) (aS Ls.flatten) M (.blk B (.cells g.toArray ac)) (D 8) (D 9) true (D 12)) S w_:=by
    rw [‹D 8=true›,‹D 9=true›,G];exact a
   exact ⟨r.set 10 (by first|assumption|trivial),⟨M,g,B,J,Z,V,U,p,Y,a⟩⟩
  ·refine ay av ?_;exact ⟨r.set 11 rfl,⟨M,g,B,J,Z,V,U,p,Y,a⟩⟩
  ·obtain rfl:=dR ‹_›;have Dp:=cW ‹_›;rw [‹D 8=true›,‹D 9=true›,‹D 10=true›,bm] at a;obtain ⟨va,vn,vc,a4⟩:=Inv.rowSlice a 3 rfl;refine di a 2 (n:=1) (by rw [a4]; rfl) (by decide +kernel) rfl (by simp) (by rw [a4]; simp [Value.cells,Value.oneCell']) fun w_ a=>?_;have b0:Value.cells mU=#[mU]:=by rw [a4]; rfl
   rw [b0] at a;have Y:=fun (_:aB D 12 12=true)=>‹D 1=true›;have p:=fun (_:aB D 12 12=true)=>‹D 10=true›;have a:Inv w [] (aH (.blk b1 (.cells #[.int .i64 k,.int .i64 n,.string s,.slice (some ⟨b,o,none⟩) O.length cap] ac)) (.blk b2 (.cells #[.int .i64 0,.int .i64 0,.string ⟨#[]⟩,.slice none 0 0] ac)) (.blk b3 (.cells #[.int .i64 k,.int .i64 l,.string s,q] ac)) (.blk b3 (.cells #[.int .i64 k,.int .i64 l,.string s,mU] ac)) (ax q ac 4 css) (ax mU ac 4 (css++[g])) (aS Ls.flatten) M (.blk B (.cells g.toArray ac)) (D 8) (D 9) (D 10) true) S w_:=by
    rw [‹D 8=true›,‹D 9=true›,‹D 10=true›];exact a
   exact ⟨r.set 12 trivial,⟨M,g,B,J,Z,V,U,p,Y,a⟩⟩
  obtain ⟨rfl,rfl,rfl,rfl,rfl,rfl,rfl,rfl,wZ,xN,Dp,rfl,_,_⟩:=r.all;have wl:D 8=true:=by assumption
  have FO:D 9=true:=by assumption
  have CZ:D 10=true:=by assumption
  have Gi:D 12=true:=by assumption
  clear r c9 cX cZ c4 cY c8 cB df dK eF cW dR gZ;obtain ⟨_,hT⟩:=J wl;rw [wl,FO,CZ,Gi] at a;refine bz (by omega) ?_;refine ⟨⟨j+1,mU,Ls++[M],css++[g],a0,rfl,?_,?_⟩,by simp [intOf]; omega⟩
  ·rw [sx m O j a0];exact hg.snoc hT hT.length
  ·simp only [oc,eP,kH,cS,cG];refine a.sub ?_;simp only [aH];rw [<- d4];exact (((ii _ _).cons_cons _).cons_cons _).cons_cons _ |>.cons_cons _
 ·have:j=O.length:=by omega
  subst this;rw [mS] at hg;obtain ⟨va,vn,vc,b6⟩:=a.rowSlice 3 rfl;have c1:q.oneCell'=true:=by rw [b6]; rfl
  refine au a 2 ad rfl rfl ?_;refine al a 1 rfl ad rfl rfl ?_ fun w' a=>?_
  ·intro u hu;have b4:u∈([.int .i64 k,.int .i64 l,.string s,q]:List Value):=hu;simp at b4;rcases b4 with rfl|rfl|rfl|rfl <;> first|rfl|exact c1
  refine a5 a 1 ad rfl rfl ?_;have a:Inv w [] ([]++(ax q ac 4 css::aS Ls.flatten)) S w':=a.sub (fF [_,_,_] _);obtain ⟨L,hT,a⟩:=Inv.rowTree a hg;exact ⟨_,_,_,rfl,a,Ext.refl _ _ _,rfl,_,L,rfl,rfl,TrT.iff.2 ⟨q,by rw [dU,<- C]; rfl,by rw [dU]; exact h1,by rw [dU,<- C]; exact b7,by rw [dU]; exact hs,by rw [dU]; exact hT⟩⟩
end
end
section
open Go Go.RowKit
theorem BG {s:ByteArray} (h:gE s=true):s.size<=6:=by
 rw [gE,iV] at h;rcases h with h|h
 ·rw [i4] at h;simp only [bJ,bQ] at h;exact h.2.2
 ·simp only [List.any_eq_true,bQ] at h;obtain ⟨x,a,rfl⟩:=h;have:∀ y∈signs,y.size<=6:=by decide +kernel
  exact this x a
theorem CP {t:T} (h:dA t=true):t.name.size<=6:=by
 unfold dA at h;have j:emptyB.size=0:=by decide +kernel
 by_cases a:t.kind=1
 ·rw [ai a] at h;simp only [bJ,bQ] at h;rw [h.2.2.1]; omega
 ·rw [ah a] at h;by_cases g:t.kind=2
  ·rw [ai g] at h;simp only [bJ,bQ] at h;rw [h.2.2.1]; omega
  ·rw [ah g] at h;by_cases i:t.kind=3
   ·rw [ai i] at h;simp only [bJ,bQ] at h;exact BG h.2.1
   ·rw [ah i] at h;cases h
theorem Dl {t:T} (h:dA t=true):t.kind=1 ∨ t.kind=2 ∨ t.kind=3:=by
 by_cases a:t.kind=1
 ·exact .inl a
 ·by_cases g:t.kind=2
  ·exact .inr (.inl g)
  ·by_cases i:t.kind=3
   ·exact .inr (.inr i)
   ·exfalso;unfold dA at h;rw [ah a,ah g,ah i] at h;cases h
mutual
theorem xG:∀ (t:T) (d:Int),cP t d=true->okU 26 t
 | .mk k n s ks,d,h=>by
  rw [cP] at h;split at h
  ·cases h
  ·rw [bJ] at h;have i:=GH h.1;have j:=fun hk=>zP h.1 hk;have l:=CP h.1;rw [okU];refine ⟨Dl h.1,fun hk=>?_,tG ks _ h.2,l⟩;have g:=i.1 hk;have a:=j hk;simp only [T.n] at g;simp only [T.name,T.kids] at a;exact ⟨g.1,by omega,a.1,kP a.2⟩
theorem tG:∀ (a:List T) (d:Int),cK a d=true->gh 26 a
 | [],_,_=>by rw [gh]; trivial
 | t::a,d,h=>by
  rw [cK,bJ] at h;rw [gh];exact ⟨xG t d h.1,tG a d h.2⟩
end
theorem yi {t:T} (h:cD t=true):okU 26 t:=xG t 30 (lG h)
theorem nh {c:C} (h:a4 c=true):okU 26 c.head/\(∀ t∈c.body,okU 26 t)/\c.body.length<=6:=by
 rw [a4] at h;simp only [bJ,gR,bQ] at h;refine ⟨yi h.2.2.1,fun t a=>?_,h.1⟩;have:=h.2.1 t a;rw [dF,bJ] at this;exact yi this.1
mutual
theorem Bi (m:Int):∀ t:T,wT (dU m t)=wT t
 | .mk k n s ks=>by
  rw [dU,wT,wT,tI m ks];rw [gp,A6]
theorem tI (m:Int):∀ a:List T,wL (fD m a)=wL a
 | []=>rfl
 | t::a=>by rw [fD,wL,wL,Bi m t,tI m a]
end
end
section
open Go Go.RowKit
section
variable {br:Nat} {sl:Value} {ys:List Nat}
attribute [local irreducible] Run CondV aw aI
abbrev Ju (br:Nat) (sl:Value) (p k m:Nat):Value->List Item->af->Prop:=fun v I' S'=>∃ p',p'<=p+k/\I'=[rdI br sl p']/\∃ cs c,v=.agg cs.toArray/\RdC S' cs c/\wC c<=m/\okU 26 c.head/\∀ t∈c.body,okU 26 t
theorem qI:dW 2=54:=rfl
theorem uA {p:Nat} {S:af} (a6:RdSl S 1 jy sl ys) (hp:p<=50000000):Tri Tryz.prog zz [rdP br] [rdI br sl p] S (Ju br sl p 500 500):=by
 intro w g;refine mW.2 ?_;dsimp only[mW,aG];refine aF g bZ fun b2 w' g=>?_;obtain ⟨B2,d1⟩:∃ B2,B2=Item.blk b2 (.cells #[.int .i64 0,.int .i64 0,.string ⟨#[]⟩,.slice none 0 0,.slice none 0 0] ae):=⟨_,rfl⟩
 have g:Inv w [br] [B2,rdI br sl p] S w':=by rw [d1]; exact g.last 0 rfl
 refine Run.callL uP ud g (s0 a6 (by omega)) rfl fun v1 I' S1 w'=>?_;rintro ⟨p1,c7,q,f2,rfl,e2,e3,h1,d2⟩ e4 g;have g:Inv w [br] [B2,ax v1 ae 5 c7,rdI br sl p1] S1 w':=g;have g:Inv w [br] [ax v1 ae 5 c7,rdI br sl p1,B2] S1 w':=g.last 0 rfl;obtain ⟨S2,b3,g,hr⟩:=He g e2;have g:Inv w [br] [B2,rdI br sl p1] S2 w':=g.last 0 rfl;have b3:=e4.trans b3;refine Run.callL bL bK g (cV (n:=4) (a6.monoU b3.1) (by omega) (by omega)) rfl fun v' I' S2 w'=>?_;rintro ⟨rfl,rfl,kk,f3,rfl⟩ _ g;have g:Inv w [br] [B2,rdI br sl (p1+1)] S2 w':=g;refine eD ?_;refine aR (fun _=>?_) (fun _=>?_)
 ·refine aL hr ry ?_;refine Run.callL bL bK g (cV (n:=q.length) (a6.monoU b3.1) (by omega) (by omega)) rfl fun v' I' S2 w'=>?_;rintro ⟨rfl,rfl,k,hk,rfl⟩ _ g;have g:Inv w [br] [B2,rdI br sl (p1+2)] S2 w':=g;refine dx g hr ry aC hk (fun _ _=>RdC.length) fun cs a9=>?_;subst d1;refine al g 0 rfl aC (by simpa using a9.length) rfl (by simpa using a9.one) fun w' g=>?_;refine a5 g 0 aC rfl (by simpa using a9.length) ?_;exact ⟨_,_,S2,rfl,g.pick [false,true],b3,p1+2,by omega,rfl,cs,_,rfl,a9,by have:=e3.2 _ (cr hk); omega,(nh (d2 _ (cr hk))).1,(nh (d2 _ (cr hk))).2.1⟩
 ·refine ne g (by kernel_rfl) rfl (by omega) fun v S3 w' c3 hv g=>?_;refine Run.callL ez eA g (jP (p:=p1+1) (a6.monoU (b3.trans c3).1) hv (by decide) (by omega)) rfl fun v' I' S3 w'=>?_;rintro ⟨rfl,rfl,s,hs,rfl⟩ _ g;have hs:=mn (m:=3) hs (by decide);have g:Inv w [br] [B2,rdI br sl (p1+2)] S3 w':=g;have c3:=b3.trans c3;refine Run.callL eW eH g (fN 2 (by omega) (p1+2) S3 (a6.monoU c3.1) (by rw [qI]; omega)) rfl fun v' I' S4 w'=>?_;rintro ⟨p2,e5,rfl,f4,t1,rfl,a7,a8,b0⟩ e6 g;rw [qI] at e5 a8;refine dI g bw (by simp [Value.cells,a7.length]) (by omega) (by omega) fun b8 w' g=>?_;have g:Inv w [br] ([B2,rdI br sl p2]++[_]) S4 w':=g;obtain ⟨S5,g,d7,hS⟩:=g.pub1;refine Run.call0E cJ cI g (db s (by simp only [maxLen]; omega) (Ha hS (a7.mono d7.1)) (by simp)) fun v' I' S6 w'=>?_;rintro ⟨rfl,hd,rfl,b6⟩ c5 g;have c5:=c3.trans (e6.trans (d7.trans c5));have e0:=b6;obtain ⟨k3,rfl,_,_,_,a3,q3,rfl,_⟩:=RdT.iff.1 b6;refine gF ?_;refine aF g bZ fun b4 w' g=>?_;have g:Inv w [br] [B2,rdI br sl p2,.blk b4 (.cells #[.int .i64 0,.int .i64 0,.string ⟨#[]⟩,.slice none 0 0,.slice none 0 0] ae)] S6 w':=g;refine al g 2 rfl aC rfl rfl (by simp [Value.oneCell']) fun w' g=>?_;have g:=g.rowNil ac 4;have g:Inv w [br] [.blk b4 (.cells #[.int .i64 3,.int .i64 0,.string s,.slice a3 1 q3,.slice none 0 0] ae),ax (.slice none 0 0) ac 4 [],B2,rdI br sl p2] S6 w':=((g.last 1 rfl).last 0 rfl).perm (by
   exact List.Perm.trans (List.Perm.symm (List.Perm.refl _)) (rB [_,_] (List.Perm.swap _ _ [])))
  refine Run.callL bL bK g (cV (n:=3) (a6.monoU c5.1) (by omega) (by omega)) rfl fun v' I' S6 w'=>?_;rintro ⟨rfl,rfl,n,hn,rfl⟩ _ g;have h8:wT (T.mk 3 0 s [t1])=s.size+1+wT t1:=by simp only [wT,wL,bg,cd]; omega
  refine ⟨fun a w'=>∃ (j p3:Nat) (S7:af) (kv:Value) (css:List (List Value)) (ks:List T),gh 26 ks/\a=.int .i64 (j:Int)/\ks.length+j<=2/\p3<=p2+1+120 * ks.length/\wL ks<=120 * ks.length/\Ext w.heap.size [br] S S7/\RdT S7 [.int .i64 3,.int .i64 0,.string s,.slice a3 1 q3] (.mk 3 0 s [t1])/\Rows 4 (RdT S7) css ks/\
   Inv w [br] [.blk b4 (.cells #[.int .i64 3,.int .i64 0,.string s,.slice a3 1 q3,kv] ae),ax kv ac 4 css,B2,rdI br sl p3] S7 w',fun a _=>(intOf a).toNat,
   ⟨n,p2+1,S6,_,[],[],by simp only [gh],rfl,by simp; omega,by simp,by simp [wL],c5,e0,Rows.nil _ _,g⟩,?_⟩
  intro t5 _ _ f5 f6 f7 f8 f9 g0 g1 g2 g3 g4 g5 g6 g7 g8 _ _ w';rintro ⟨j,p3,S7,kv,css,ks,d3,rfl,h0,h2,h3,b7,b6,hR,g⟩;have h9:=hR.hc;refine eD ?_;refine aR (fun h4=>?_) (fun _=>?_)
  ·obtain ⟨j',rfl⟩:∃ j',j=j'+1:=⟨j - 1,by omega⟩
   refine ⟨fun D wX xd wU Cm BW z4 mU th qS iJ nM ri uy uu w_=>Fx D 0 [uu=.pointer (some ⟨b4,4,none⟩),uy=kv,ri=rdP br,True,True,qS=rdP br,True,mU=rdP br,True,True,True,True,True,wX=.pointer (some ⟨b4,4,none⟩),True]/\∃ n_:Nat,n_<=9/\D 3=decide (1<=n_)/\D 4=decide (2<=n_)/\D 6=decide (3<=n_)/\D 8=decide (4<=n_)/\D 9=decide (5<=n_)/\D 10=decide (6<=n_)/\D 11=decide (7<=n_)/\D 12=decide (8<=n_)/\D 14=decide (9<=n_)/\(D 14=true->D 1=true)/\(g9 (Inv w [br] [.blk b4 (.cells #[.int .i64 3,.int .i64 0,.string s,.slice a3 1 q3,kv] ae),ax kv ac 4 css,B2,rdI br sl p3] S7 w_) (g9 (∃ S8 l,RdSl S8 1 ou nM l/\0<l.length/\(l.all fun s=>decide (s.size<=3))=true/\Ext w.heap.size [br] S7 S8/\Inv w [br] [.blk b4 (.cells #[.int .i64 3,.int .i64 0,.string s,.slice a3 1 q3,kv] ae),ax kv ac 4 css,B2,rdI br sl p3] S8 w_) (g9 (∃ S8 s2,iJ=.string s2/\s2.size<=3/\Ext w.heap.size [br] S7 S8/\Inv w [br] [.blk b4 (.cells #[.int .i64 3,.int .i64 0,.string s,.slice a3 1 q3,kv] ae),ax kv ac 4 css,B2,rdI br sl (p3+1)] S8 w_) (g9 (∃ S8 s2 p4 c1 t1,iJ=.string s2/\s2.size<=3/\th=.agg c1.toArray/\RdT S8 c1 t1/\okU 26 t1/\wT t1+3<=54/\p4+2<=p3+1+54/\Ext w.heap.size [br] S7 S8/\Inv w [br] [.blk b4 (.cells #[.int .i64 3,.int .i64 0,.string s,.slice a3 1 q3,kv] ae),ax kv ac 4 css,B2,rdI br sl p4] S8 w_) (g9 (∃ S8 s2 p4 c1 t1 c2 t2,iJ=.string s2/\s2.size<=3/\th=.agg c1.toArray/\RdT S8 c1 t1/\okU 26 t1/\wT t1+3<=54/\z4=.agg c2.toArray/\RdT S8 c2 t2/\okU 26 t2/\wT t2+3<=54/\p4<=p3+110/\Ext w.heap.size [br] S7 S8/\Inv w [br] [.blk b4 (.cells #[.int .i64 3,.int .i64 0,.string s,.slice a3 1 q3,kv] ae),ax kv ac 4 css,B2,rdI br sl p4] S8 w_) (g9 (∃ S8 s2 p4 t1 t2,iJ=.string s2/\s2.size<=3/\RdSl S8 4 (RdT S8) BW [t1,t2]/\gh 26 [t1,t2]/\wT t1+3<=54/\wT t2+3<=54/\p4<=p3+110/\Ext w.heap.size [br] S7 S8/\Inv w [br] [.blk b4 (.cells #[.int .i64 3,.int .i64 0,.string s,.slice a3 1 q3,kv] ae),ax kv ac 4 css,B2,rdI br sl p4] S8 w_) (qP w [br] b4 #[.int .i64 3,.int .i64 0,.string s,.slice a3 1 q3,kv] 4 ae kv css (fun p=>[B2,rdI br sl p]) (fun cs p' S'=>∃ t,okU 26 t/\RdT S' cs t/\wT t<=110/\p'<=p3+110/\Ext w.heap.size [br] S7 S') Cm wU xd w_)))))) n_),⟨Fx.nil _ _,⟨0,aQ _,rfl,rfl,rfl,rfl,rfl,rfl,rfl,rfl,rfl,(aP),g.draw⟩⟩,⟨?_,?_,?_,?_,?_,?_,?_,?_,?_,?_,?_,?_,?_,?_,?_,trivial⟩,?_⟩;all_goals (intro D bm; intros; rename_i wX xd wU Cm BW z4 mU th qS iJ nM ri uy uu w_ d4; have Y:=d4.1; obtain ⟨⟨c9,cX,cZ,c4,cY,c8,cB,df,dK,eF,cW,dR,gZ,kX,nE,_⟩,⟨n_,b5,B,C,G,J,M,N,O,U,r,a0,hS⟩⟩:=d4)
   ·refine ay aT ?_;exact ⟨Y.set 0 rfl,⟨n_,b5,B,C,G,J,M,N,O,U,r,a0,hS⟩⟩
   ·obtain rfl:=c9 ‹_›;have e1:=Ft r a0 bm;refine dq ar ((E9 (fun h=>h.cellL (i:=0) rfl) (E9 (fun ⟨_,_,_,_,_,_,h⟩=>h.cellL (i:=0) rfl) (E9 (fun ⟨_,_,_,_,_,h⟩=>h.cellL (i:=0) rfl) (E9 (fun ⟨_,_,_,_,_,_,_,_,_,_,_,_,_,h⟩=>h.cellL (i:=0) rfl) (E9 (fun ⟨_,_,_,_,_,_,_,_,_,_,_,_,_,_,_,_,_,_,_,h⟩=>h.cellL (i:=0) rfl) (E9 (fun ⟨_,_,_,_,_,_,_,_,_,_,_,_,_,h⟩=>h.cellL (i:=0) rfl) (fun n hn h=>vI h hn)))))) n_ e1 hS).trans rfl) ?_;exact ⟨Y.set 1 rfl,⟨n_,b5,B,C,G,J,M,N,O,U,r,(fun _=>rfl),hS⟩⟩
   ·exact ⟨Y.set 2 rfl,⟨n_,b5,B,C,G,J,M,N,O,U,r,a0,hS⟩⟩
   ·obtain rfl:n_=0:=s9 B bm;refine ne (L:=[.blk b4 _,ax _ ac 4 css,B2,rdI br sl p3]) hS (by kernel_rfl) rfl (by omega) fun v S8 w_ V hv g=>?_;exact ⟨Y.set 3 (by first|assumption|trivial),⟨1,by decide,rfl,(by first|exact C|rfl),(by first|exact G|rfl),(by first|exact J|rfl),(by first|exact M|rfl),(by first|exact N|rfl),(by first|exact O|rfl),(by first|exact U|rfl),(by first|exact r|rfl),a0,⟨S8,_,hv,by decide,by decide,V,g⟩⟩⟩
   ·obtain rfl:=cZ ‹_›;have KA:=c4 ‹_›;obtain rfl:n_=1:=fK B ‹D 3=true› C bm;obtain ⟨S8,l,hv,e7,e8,V,g⟩:=cL hS;refine Run.callL ez eA (L:=[.blk b4 _,ax _ ac 4 css,B2,rdI br sl p3]) g (jP (p:=p3) (a6.monoU (b7.trans V).1) hv e7 (by omega)) rfl fun v' I' S8 w_=>?_;rintro ⟨rfl,rfl,s2,a4,rfl⟩ _ g;have a4:=mn a4 e8;exact ⟨Y.set 4 (by first|assumption|trivial),⟨2,by decide,(by first|exact B|rfl),rfl,(by first|exact G|rfl),(by first|exact J|rfl),(by first|exact M|rfl),(by first|exact N|rfl),(by first|exact O|rfl),(by first|exact U|rfl),(by first|exact r|rfl),a0,⟨S8,s2,rfl,a4,V,g⟩⟩⟩
   ·exact ⟨Y.set 5 rfl,⟨n_,b5,B,C,G,J,M,N,O,U,r,a0,hS⟩⟩
   ·obtain rfl:=c8 ‹_›;obtain rfl:n_=2:=fK C ‹D 4=true› G bm;obtain ⟨S8,s2,rfl,a4,V,g⟩:=cL (cL hS);refine Run.callL eW eH (L:=[.blk b4 _,ax _ ac 4 css,B2,rdI br sl (p3+1)]) g (fN 2 (by omega) (p3+1) S8 (a6.monoU (b7.trans V).1) (by rw [qI]; omega)) rfl fun v' I' S9 w_=>?_;rintro ⟨p4,b1,rfl,c1,u1,rfl,a7,a8,b0⟩ Z g;rw [qI] at b1 a8;exact ⟨Y.set 6 (by first|assumption|trivial),⟨3,by decide,(by first|exact B|rfl),(by first|exact C|rfl),rfl,(by first|exact J|rfl),(by first|exact M|rfl),(by first|exact N|rfl),(by first|exact O|rfl),(by first|exact U|rfl),(by first|exact r|rfl),a0,⟨S9,s2,p4,c1,u1,rfl,a4,rfl,a7,b0,a8,b1,V.trans Z,g⟩⟩⟩
   ·exact ⟨Y.set 7 rfl,⟨n_,b5,B,C,G,J,M,N,O,U,r,a0,hS⟩⟩
   ·obtain rfl:=df ‹_›;obtain rfl:n_=3:=fK G ‹D 6=true› J bm;obtain ⟨S8,s2,p4,c1,u1,rfl,a4,rfl,a7,b0,a8,b1,V,g⟩:=cL (cL (cL hS));refine Run.callL eW eH (L:=[.blk b4 _,ax _ ac 4 css,B2,rdI br sl p4]) g (fN 2 (by omega) p4 S8 (a6.monoU (b7.trans V).1) (by rw [qI]; omega)) rfl fun v' I' S9 w_=>?_;rintro ⟨p5,d6,rfl,c2,u2,rfl,c6,b9,d0⟩ Z g;rw [qI] at d6 b9;exact ⟨Y.set 8 (by first|assumption|trivial),⟨4,by decide,(by first|exact B|rfl),(by first|exact C|rfl),(by first|exact G|rfl),rfl,(by first|exact M|rfl),(by first|exact N|rfl),(by first|exact O|rfl),(by first|exact U|rfl),(by first|exact r|rfl),a0,⟨S9,s2,p5,c1,u1,c2,u2,rfl,a4,rfl,a7.mono Z.1,b0,a8,rfl,c6,d0,b9,by omega,V.trans Z,g⟩⟩⟩
   ·have zK:=cB ‹_›;have wZ:=dK ‹_›;obtain rfl:n_=4:=fK J ‹D 8=true› M bm;obtain ⟨S8,s2,p4,c1,u1,c2,u2,rfl,a4,rfl,a7,b0,a8,rfl,c6,d0,b9,b1,V,g⟩:=cL (cL (cL (cL hS)));obtain ⟨h5,rfl,_,_,_,a1,q1,rfl,_⟩:=RdT.iff.1 a7;obtain ⟨h6,rfl,_,_,_,a2,q2,rfl,_⟩:=RdT.iff.1 c6;refine l0 (v:=fun b=>.slice (some ⟨b,0,none⟩) 2 2) (o:=.cells #[.int .i64 u1.kind,.int .i64 u1.n,.string u1.name,.slice a1 u1.kids.length q1,.int .i64 u2.kind,.int .i64 u2.n,.string u2.name,.slice a2 u2.kids.length q2] ac) g (by kernel_rfl) fun b w_ g=>?_;obtain ⟨S9,g,Z,e9⟩:=g.pub1;exact ⟨Y.set 9 (by first|assumption|trivial),⟨5,by decide,(by first|exact B|rfl),(by first|exact C|rfl),(by first|exact G|rfl),(by first|exact J|rfl),rfl,(by first|exact N|rfl),(by first|exact O|rfl),(by first|exact U|rfl),(by first|exact r|rfl),a0,⟨S9,s2,p4,u1,u2,rfl,a4,yL e9 (a7.mono Z.1) (c6.mono Z.1),(by simp only [gh]; exact ⟨b0,d0,trivial⟩),a8,b9,b1,V.trans Z,g⟩⟩⟩
   ·have CU:=cY ‹_›;have xN:=eF ‹_›;obtain rfl:n_=5:=fK M ‹D 9=true› N bm;obtain ⟨S8,s2,p4,u1,u2,rfl,a4,f0,d9,a8,b9,b1,V,g⟩:=cL (cL (cL (cL (cL hS))));refine Run.call0E cJ cI (L:=[.blk b4 _,ax _ ac 4 css,B2,rdI br sl p4]) g (db s2 (by simp only [maxLen]; omega) f0 (by simp)) fun v' I' S9 w_=>?_;rintro ⟨rfl,cs,rfl,a9⟩ Z g;exact ⟨Y.set 10 (by first|assumption|trivial),⟨6,by decide,(by first|exact B|rfl),(by first|exact C|rfl),(by first|exact G|rfl),(by first|exact J|rfl),(by first|exact M|rfl),rfl,(by first|exact O|rfl),(by first|exact U|rfl),(by first|exact r|rfl),a0,eC (eC (eC (eC (eC (tA ⟨_,pF (by omega) d9,a9,by have e:wT (T.mk 3 0 s2 [u1,u2])=s2.size+2+(wT u1+(wT u2+0)):=(by simp only [wT,wL,bg,cd]); omega,b1,V.trans Z⟩ a9 g)))))⟩⟩
   ·have Dp:=cW ‹_›;obtain rfl:n_=6:=fK N ‹D 10=true› O bm;refine ap1 (cL (cL (cL (cL (cL hS))))) fun u w_ hS=>?_;exact ⟨Y.set 11 (by first|assumption|trivial),⟨7,by decide,(by first|exact B|rfl),(by first|exact C|rfl),(by first|exact G|rfl),(by first|exact J|rfl),(by first|exact M|rfl),(by first|exact N|rfl),rfl,(by first|exact U|rfl),(by first|exact r|rfl),a0,eC (eC (eC (eC (eC hS))))⟩⟩
   ·obtain rfl:=cX ‹_›;have II:=dR ‹_›;obtain rfl:n_=7:=fK O ‹D 11=true› U bm;refine ap2 (cL (cL (cL (cL (cL hS))))) (by omega) fun u w_ hS=>?_;exact ⟨Y.set 12 (by first|assumption|trivial),⟨8,by decide,(by first|exact B|rfl),(by first|exact C|rfl),(by first|exact G|rfl),(by first|exact J|rfl),(by first|exact M|rfl),(by first|exact N|rfl),(by first|exact O|rfl),rfl,(by first|exact r|rfl),a0,eC (eC (eC (eC (eC hS))))⟩⟩
   ·refine ay aT ?_;exact ⟨Y.set 13 rfl,⟨n_,b5,B,C,G,J,M,N,O,U,r,a0,hS⟩⟩
   ·obtain rfl:=kX ‹_›;have KS:=gZ ‹_›;obtain rfl:n_=8:=fK U ‹D 12=true› r bm;refine ap3 (cL (cL (cL (cL (cL hS))))) (by simp) fun w_ hS=>?_;exact ⟨Y.set 14 trivial,⟨9,by decide,(by first|exact B|rfl),(by first|exact C|rfl),(by first|exact G|rfl),(by first|exact J|rfl),(by first|exact M|rfl),(by first|exact N|rfl),(by first|exact O|rfl),(by first|exact U|rfl),rfl,(fun _=>‹D 1=true›),eC (eC (eC (eC (eC hS))))⟩⟩
   obtain rfl:n_=9:=qF b5 r ‹D 14=true›;clear B C G J M N O U r;obtain ⟨p5,S9,cs,⟨t,f1,a9,h7,d6,Z⟩,hl,g⟩:=cL (cL (cL (cL (cL (cL hS)))));refine vm (by omega) ?_;refine ⟨⟨j',p5,S9,_,_,ks++[t],tR d3 (by simp only [gh]; exact ⟨f1,trivial⟩),rfl,by rw [bv]; simp only [bg,cd]; omega,by rw [bv]; simp only [bg,cd]; omega,by rw [hO,bv]; simp only [wL,bg,cd]; omega,b7.trans Z,b6.mono Z.1,(hR.monoR fun _ _ h=>RdT.mono Z.1 h).snoc a9 hl.1,g⟩,by simp only [intOf,gS]; omega⟩
  ·obtain ⟨S8,V,g,hr,_⟩:=pH g hR b6;refine au g 0 aC rfl rfl ?_;subst d1;have i0:=hr.length;refine al g 1 rfl aC rfl rfl (by simpa using hr.one) fun w' g=>?_;refine a5 g 1 aC rfl rfl ?_;refine ⟨_,_,S8,rfl,g.pick [false,false,true],b7.trans V,p3,by omega,rfl,_,_,rfl,hr,?_,pF (by omega) (by simp only [gh]; exact ⟨b0,trivial⟩),fO d3⟩;show wT (T.mk 3 0 s [t1])+ks.length+wL ks<=500;omega
end
end
section
open Go Go.RowKit
attribute [local irreducible] Run CondV aw aI
end
section
open Go Go.RowKit
attribute [local irreducible] Run CondV aw aI

def Jo (l:List Pd) (ts:List T):List Pd:=ts.foldl (fun l t=>if fe t=true then KB l (Ip t) else l) l
def FH (l:List Pd) (p:List C) (x:Pd):List Pd:=p.foldl (fun l c=>if JB (Ip c.head) x=true then Jo l c.body else l) l
def IQ (p:List C) (x:Pd):List Pd:=FH [] p x
section
variable {P:Program} {w w0:World} {X:List Nat} {L:List Item} {S:af} {K:Value->World->Prop}
end
end
section
open Go Go.RowKit
attribute [local irreducible] Run CondV aw aI
end
section
open Go Go.RowKit
attribute [local irreducible] Run CondV aw aI
end
section
open Go Go.RowKit
attribute [local irreducible] Run CondV aw aI
end
section
open Go Go.RowKit
attribute [local irreducible] Run CondV aw aI
end
section
open Go Go.ChangeShapes Go.WideShapes Go.ChangeAt Go.RowKit
section
attribute [local irreducible] Run CondV aw aI
end
theorem two {cs:List Value} (h:cs.length=2):∃ a b,cs=[a,b]:=by
 match cs,h with
 | [a,b],_=>exact ⟨a,b,rfl⟩
end
section
open Go Go.RowKit
section
variable {br:Nat} {sl:Value} {ys:List Nat}
attribute [local irreducible] Run CondV aw aI
theorem Pd.one (x:Pd):∀ u∈x.cells,u.oneCell'=true:=by
 intro u g;have a:u∈([.string x.name,.int .i64 x.arity]:List Value):=g;simp at a;rcases a with rfl|rfl <;> rfl
end
end
section
open Go Go.ChangeShapes Go.WideShapes Go.ChangeAt Go.RowKit
theorem JP:Tryz.prog.underlying yD=some (.int .u8):=by kernel_rfl
theorem HM {H:Type} {enc:TypeId × Value->H} {W:World} {sp:Nat->Bool} {held:Bool} {a:Nat} {cs:List Value} {x:DataW H × List MemPlace} (h:DataW.trod enc Tryz.prog W 0 sp held a yD cs=some x) :
  ∃ n,jy cs n:=by
 cases a with
 | zero=>simp [DataW.trod] at h
 | succ n=>
  unfold DataW.trod at h;rw [JP] at h;split at h <;> simp_all
  rename_i i j m g
  subst g;obtain ⟨⟨_,h⟩,_⟩:=h;simp only [Lit.wf,bJ,bQ] at h;have l:0<=m/\m<=255:=h;exact ⟨m.toNat,by rw [jy,F4 (by omega)]; exact ⟨rfl,by omega⟩⟩
theorem Dd {H:Type} {enc:TypeId × Value->H} {W:World} {sp:Nat->Bool} {held:Bool} {a:Nat} {v:Value} {x:DataW H × List MemPlace} (h:DataW.trod enc Tryz.prog W 0 sp held a z9 [v]=some x) :
  ∃ ys,RdSl (D0 W) 1 jy v ys:=H6 dv (by omega) h fun _ _ _ _ g=>HM g
section
variable {w0 w:World} {X:List Nat} {L:List Item} {S:af} {K:Value->World->Prop}
attribute [local irreducible] Run CondV aw aI
theorem I8 {P:Program} {T:TypeId} {g h:Bool} {a b:Bool} (i:P.underlying T=some .bool) (hk:K (.bool (a == b)) w):Run P (cw .eql T g h (.bool a) (.bool b)) w K:=
 Run.of (by
  have j:(Op.equal T (.bool a) (.bool b)).run P w=.ok (a == b) w:=by
   rw [Op.equal,Op.maxDepth,Op.equalIn.eq_def];simp [run_underlying i]
  simp only [cw,binOp,Sem.run_bind,oy,Result.andThen_ok,j,Sem.run_pure]) hk
end
end
section
open Go Go.RowKit
attribute [local irreducible] Run CondV aw aI
end
section
open Go Go.RowKit

inductive Star (p:List C) (x:Pd):Pd->Prop
 | refl:Star p x x
 | step {y z:Pd}:Star p x y->z∈IQ p y->Star p x z
theorem Star.trans {p:List C} {x y z:Pd} (h:Star p x y) (a:Star p y z):Star p x z:=by
 induction a with
 | refl=>exact h
 | step _ g i=>exact .step i g
end
section
open Go Go.RowKit
section
variable {w w0:World} {X:List Nat} {L A:List Item} {S:af} {K:Value->World->Prop}
attribute [local irreducible] Run CondV aw aI
end
end
section
open Go Go.RowKit
section
variable {w0 w:World} {X:List Nat} {L:List Item} {S:af} {K:Value->World->Prop} {ys:List Nat} {v:Value}
attribute [local irreducible] Run CondV aw aI
end
end
section
open Go Go.RowKit
def LightT (n m:Nat) (q:List T):Prop:=q.length<=n/\∀ t∈q,wT t<=m
theorem LightT.le {n m:Nat} {q:List T} (h:LightT n m q):q.length+wL q<=n+n * m:=by
 have:∀ q:List T,(∀ c∈q,wT c<=m)->wL q<=q.length * m:=by
  intro q;induction q with
  | nil=>intro _; simp [wL]
  | cons c q j=>
   intro h;have g:=h c (cQ ..);have i:=j fun d a=>h d (c7 _ a);simp only [wL,bg,ip];omega
 have g:=this q h.2;have i:q.length * m<=n * m:=eV _ h.1;have:=h.1;omega
section
variable {w0 w:World} {X:List Nat} {L A:List Item} {S:af}
end
section
variable {br:Nat} {sl:Value} {ys:List Nat} {S:af}
attribute [local irreducible] Run CondV aw aI
end
end
section
open Go Go.RowKit
section
attribute [local irreducible] Run CondV aw aI
end
end
section
open Go Go.RowKit
section
variable {S:af} {ys:List Nat} {v:Value} {w:World} {K:Value->World->Prop}
attribute [local irreducible] Run CondV aw aI
theorem CD {α:Type} {R:List Value->α->Prop} {xs:List α} {u:Value} {T ty e:TypeId} {k l h:Nat} {P:Program} (m:cf P T=some (e,k)) (g:RdSl S k R u xs) (o:l<=h) (p:h<=xs.length)
  (hk:∀ j,RdSl S k R j ((xs.take h).drop l)->K j w):Run P (sOp (.slice T (.const u) (some (.const (.int .i64 l))) (some (.const (.int .i64 h))) none) ty) w K:=by
 obtain ⟨a,cap,rfl,q,hc,r⟩:=id g;have i:=g.to p;have e:(if cap=0 then a else a.map (·.add (0 * k)))=a:=by
  split
  ·rfl
  ·cases a <;> simp [Addr.add]
 rw [e] at i;have t:(xs.take h).length=h:=by rw [mL]; omega
 have B:=i.from (l:=l) (by omega);exact HO m o (by omega) (hk _ B)
end
end
end Go.Proofs.YtjbcdmheajljpaaGreat

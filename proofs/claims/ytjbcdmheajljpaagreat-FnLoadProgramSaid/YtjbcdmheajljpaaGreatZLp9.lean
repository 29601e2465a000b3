/- impl's compiler: heads. -/
import Derived.Test.YtjbcdmheajljpaaGreatZLp8
namespace Go.Proofs.YtjbcdmheajljpaaGreat
section
open Go Go.RowKit
theorem xC (ks:List T) (s:CS) (j:Nat) (i:Int) (h:j<ks.length):bj s i (ks.drop j)=((bj (bx s i ks[j]).1 (i+1) (ks.drop (j+1))).1,(bx s i ks[j]).2++(bj (bx s i ks[j]).1 (i+1) (ks.drop (j+1))).2):=by
 rw [dR h,bj]
theorem Be (ks:List T) (s:CS) (j:Nat) (h:j<ks.length):bo s (ks.drop j)=((bo (ch s ks[j]).1 (ks.drop (j+1))).1,(ch s ks[j]).2++(bo (ch s ks[j]).1 (ks.drop (j+1))).2):=by
 rw [dR h,bo]
def RdQ (S:ag) (cs:List Value) (x:T × Int):Prop:=∃ ds,cs=ds++[.int .i64 x.2]/\RdT S ds x.1
theorem RdQ.length {S:ag} {cs:List Value} {x:T × Int} (h:RdQ S cs x):cs.length=5:=by
 obtain ⟨ds,rfl,a⟩:=h;rw [bv,a.length]; rfl
theorem RdQ.one {S:ag} {cs:List Value} {x:T × Int} (h:RdQ S cs x):∀ u∈cs,u.oneCell'=true:=by
 obtain ⟨ds,rfl,g⟩:=h;intro u a;rcases cI.1 a with a|a
 ·exact g.one u a
 ·rw [cO.1 a]; rfl
theorem M8 {α:Type} {k:Nat} {R:List Value->α->Prop} {cs:List Value} {css:List (List Value)} {y:α} {ys:List α} (h:Rows k R (cs::css) (y::ys)):Rows k R css ys:=
 ⟨by simpa using h.hc,fun c hc=>h.hk c (bV _ hc),fun i a g=>by have:=h.hR (i+1) (by simpa using a) (by simpa using g); simpa using this⟩
def uw (cb:Nat) (w:World):Nat:=match w.heap[cb]? with
 | some (Obj.cells c _ _)=>(match c[2]? with
  | some (Value.slice _ n _)=>n
  | _=>0)
 | _=>0
theorem B0 {w0 w:World} {X:List Nat} {A:List Item} {S:ag} {i j m:Nat} {o:Array MapEntry} {s:CS} {cv:Value} (h:Inv w0 X (A++dd i j o m s cv) S w):uw i w=s.code.length:=by
 have p:w.heap[i]?=some (.cells #[.map (some j),.int .i64 s.next,cv] gz):=h.its (.blk i _) (by simp);obtain ⟨a,n,cap,l⟩:∃ a n cap,cv=.slice a n cap/\n=s.code.length:=by
  have q:(aB cv aF 4 (l5 s)).holds w:=h.its _ (by simp);rcases q.2 with ⟨rfl,r⟩|⟨g,cap,t,rfl,_⟩
  ·exact ⟨none,0,0,rfl,by rw [<- vG,r]⟩
  ·exact ⟨_,_,cap,rfl,vG s⟩
 unfold uw;rw [p,l.1];exact l.2
section
attribute [local irreducible] Run CondV aC aU
theorem yA {w:World} {K:Value->World->Prop} {a b k:Int} {s:ByteArray} {x:Value} (hk:K (.agg #[.int .i64 a,.int .i64 b,.string s,x,.int .i64 k]) w) :
  Run Tryz.prog (bR er [(0,.agg #[.int .i64 a,.int .i64 b,.string s,x]),(1,.int .i64 k)]) w K:=by
 refine Run.of (v:=.agg #[.int .i64 a,.int .i64 b,.string s,x,.int .i64 k]) (w':=w) ?_ hk;unfold bR;rw [Sem.run_bind,run_build w er _ #[.int .i64 a,.int .i64 b,.string s,x,.int .i64 k] (by kernel_rfl),Result.andThen_ok];rfl
set_option maxHeartbeats 1000000 in
theorem Gh {G Y N:Nat} {U:Array MapEntry} {s:CS} {cv v:Value} {ks:List T} {S:ag} (h:RdSl S 4 (RdT S) v ks) (hw:Wf s) (hm:SlM U s) (ht:dL ks) (hl:s.sz+16 * bi ks<=800000000) (h4:ks.length<=s.next) :
  Tri Tryz.prog zf [.pointer (some ⟨G,0,none⟩),v] (dd G Y U N s cv) S fun _ I' S'=>AE G Y S (fp s ks) I' S':=by
 intro w l;obtain ⟨X,hX⟩:∃ X,X=bT (dd G Y U N s cv):=⟨_,rfl⟩
 rw [<- hX] at l ⊢;have e7:=h.le;simp only [maxLen] at e7;have g7:=hw.four;have e8:=iM ks;have f9:0<=s.sz:=by unfold CS.sz; omega
 refine mI.2 ?_;dsimp only[mI,bm];refine aG h ao ?_;have l:=l.rowNil er 5;have l:Inv w X ([aB (.slice none 0 0) er 5 []]++dd G Y U N s cv) S w:=l.perm (bK (l₁:=[_]));refine ⟨fun i qv w'=>∃ (j:Nat) (m:CS) (o:Array MapEntry) (t:Nat) (B:Value) (css:List (List Value)) (q:List (T × Int)),j<=ks.length/\i=.int .i64 j/\Wf m/\SlM o m/\m.next=s.next/\m.sz<=s.sz+j/\q.length<=j/\bj s 0 ks=((bj m j (ks.drop j)).1,q++(bj m j (ks.drop j)).2)/\Rows 5 (RdQ S) css q/\
   Inv w X ([aB qv er 5 css]++dd G Y o t m B) S w',fun i _ _=>ks.length - (intOf i).toNat,
   ⟨0,s,U,N,cv,[],[],aK _,rfl,hw,hm,rfl,by omega,by simp,by rw [dT,rC]; rfl,Rows.nil _ _,l⟩,?_⟩
 intro i _ qv _ _ _ _ _ _ i5 i6 i7 i8 i9 j0 j1 _ _ _ _ _ _ t8 t7 j2 j3 j4 j5 j6 j7 j8 j9 k0 k1 _ _ _ _ _ _ _ _ _ _ _ _ _ _ _ _ _ _ w';rintro ⟨j,m,U,N,cv,css,q,hj,rfl,b8,hm,f6,f7,e0,a2,hR,l⟩;refine cu ?_;refine aS (fun a4=>?_) (fun a4=>?_)
 ·have a1:j<ks.length:=by omega
  obtain ⟨u,hu⟩:∃ u,u=ks[j]:=⟨_,rfl⟩
  have b7:okG u:=by rw [hu]; exact kF ht _ (cH a1)
  rw [xC ks m j j a1,<- hu] at a2;have k4:=b8.four;have i1:m.next<=900000000/\m.code.length<=900000000:=by
   have hb:m.sz<=900000000:=by omega
   unfold CS.sz at hb;omega
  obtain ⟨x1,x2,x3⟩:=s6 b8 (i:=j) ⟨by omega,by omega⟩ b7;have hz:=(BS m j u).2;refine ⟨fun qv w'=>∃ (o:Array MapEntry) (t:Nat) (B:Value) (css:List (List Value)),SlM o (bx m j u).1/\Rows 5 (RdQ S) css (q++(bx m j u).2)/\
   Inv w X ([aB qv er 5 css]++dd G Y o t (bx m j u).1 B) S w',?_,?_⟩
  ·refine dy l h ao ad a1 (fun _ _=>RdT.length) fun ds J=>?_;rw [<- hu] at J;have d0:=J.length;refine aH l aM fun b6 w' l=>?_;have l:=l.perm (M:=.blk b6 _::([aB qv er 5 css]++dd G Y U N m cv)) (bK (l₁:=[_]));refine al l 0 rfl ad (by simpa using d0) rfl (by simpa using J.one) fun w' l=>?_;have a7:=J;obtain ⟨Z,rfl,_,_,_,e4⟩:=RdT.iff.1 J;have l:Inv w X ([.blk b6 (.cells #[.int .i64 u.kind,.int .i64 u.n,.string u.name,Z] ac),aB qv er 5 css]++dd G Y U N m cv) S w':=l;have fin:∀ (o:Array MapEntry) (t:Nat) (B:Value) (O:CS) (w':World),bx m j u=(O,[])->SlM o O->Inv w X ([.blk b6 (.cells #[.int .i64 u.kind,.int .i64 u.n,.string u.name,Z] ac),aB qv er 5 css]++dd G Y o t O B) S w'->∃ (o:Array MapEntry) (t:Nat) (B:Value) (css:List (List Value)),SlM o (bx m j u).1/\Rows 5 (RdQ S) css (q++(bx m j u).2)/\
     Inv w X ([aB qv er 5 css]++dd G Y o t (bx m j u).1 B) S w':=fun o t B O w' e h1 h2=>by
    rw [e];exact ⟨o,t,B,css,h1,by rw [dc]; exact hR,h2.sub (gS _ _)⟩
   refine ah l 0 rfl bb aw rfl ?_;refine bn ?_;refine aS (fun h2=>?_) (fun h2=>?_)
   ·refine ah l 0 rfl aV aw rfl ?_;refine jL ?_;refine Run.call bX bW l (dS ⟨2,u.n,j,emptyB⟩ hm (by omega)) fun v' I' S' w'=>?_;rintro ⟨eS,a8,a9,b0,rfl,a3⟩ _ l;rw [eS] at l;exact fin _ _ _ _ _ (by rw [bx,af h2]) a3 l
   refine bn ?_;refine aS (fun h1=>?_) (fun h1=>?_)
   ·have a5:0<=u.n/\u.n<26:=by
     rcases b7.kind with e|e|e
     ·exact e.2
     ·exact absurd e.1 h2
     ·have:=e.1; omega
    have e8:=hm.look a5.1 a5.2;refine ⟨fun D x8 x7 mG oH qe oE oe oa pd py Aq xZ w_=>Fx D 0 [xZ=.pointer (some ⟨G,0,none⟩),Aq=.pointer (some ⟨G,0,none⟩),py=.pointer (some ⟨G,0,none⟩),pd=.map (some Y),oa=.pointer (some ⟨b6,1,none⟩),oe=.int .i64 u.n,oE=.tuple #[.int .i64 (atV m u.n),.bool (decide (0<=m.at_ u.n))],qe=.tuple #[.int .i64 (atV m u.n),.bool (decide (0<=m.at_ u.n))],oH=.int .i64 (atV m u.n),mG=.bool (decide (0<=m.at_ u.n)),x7=.int .i64 (atV m u.n),x8=.bool (decide (0<=m.at_ u.n))]/\Inv w X ([.blk b6 (.cells #[.int .i64 u.kind,.int .i64 u.n,.string u.name,Z] ac),aB qv er 5 css]++dd G Y U N m cv) S w_,⟨Fx.nil _ _,l.draw⟩,⟨?_,?_,?_,?_,?_,?_,?_,?_,?_,?_,?_,?_,trivial⟩,?_⟩;all_goals (intro D bw; intros; rename_i x8 x7 mG oH qe oE oe oa pd py Aq xZ w_ b1; have r:=b1.1; obtain ⟨⟨cG,cf,cD,cF,bQ,cE,bZ,cL,dw,dl,ci,c8,_⟩,l⟩:=b1)
    ·exact ⟨r.set 0 rfl,l⟩
    ·obtain rfl:=cG ‹_›;refine aL ?_;exact ⟨r.set 1 rfl,l⟩
    ·obtain rfl:=cf ‹_›;refine au eZ ?_;exact ⟨r.set 2 rfl,l⟩
    ·obtain rfl:=cD ‹_›;refine aD l 2 fy rfl rfl ?_;exact ⟨r.set 3 rfl,l⟩
    ·refine au aV ?_;exact ⟨r.set 4 rfl,l⟩
    ·obtain rfl:=bQ ‹_›;refine aD l 0 aw rfl rfl ?_;exact ⟨r.set 5 rfl,l⟩
    ·obtain rfl:=cF ‹_›;obtain rfl:=cE ‹_›;refine Co l 3 fx c7 wS rfl e8 ?_;exact ⟨r.set 6 rfl,l⟩
    ·obtain rfl:=bZ ‹_›;exact ⟨r.set 7 rfl,l⟩
    ·obtain rfl:=cL ‹_›;refine aA rfl ?_;exact ⟨r.set 8 rfl,l⟩
    ·obtain rfl:=cL ‹_›;refine aA rfl ?_;exact ⟨r.set 9 rfl,l⟩
    ·obtain rfl:=dw ‹_›;exact ⟨r.set 10 rfl,l⟩
    ·obtain rfl:=dl ‹_›;exact ⟨r.set 11 rfl,l⟩
    obtain ⟨rfl,rfl,rfl,rfl,rfl,rfl,rfl,rfl,rfl,rfl,rfl,rfl,_⟩:=r.all;clear r cG cf cD cF bQ cE bZ cL dw dl ci c8;refine aS (fun h0=>?_) (fun h0=>?_)
    ·rw [show atV m u.n=m.at_ u.n from af h0];refine jL ?_;refine Run.call bX bW l (dS ⟨1,m.at_ u.n,j,emptyB⟩ hm (by omega)) fun v' I' S' w'=>?_;rintro ⟨eS,a8,a9,b0,rfl,a3⟩ _ l;rw [eS] at l;exact fin _ _ _ _ _ (by rw [bx,ae h2,af h1,af h0]) a3 l
    have hf:Instr.findNow (.int .i64) (.int .i64 u.n) U.toList 0=some none:=by
     rcases hm.find a5.1 a5.2 with ⟨q,_⟩|⟨_,q⟩
     ·exact absurd q h0
     ·exact q
    have b2:=hm.push b8.len a5 h0 (v:=j) (by omega) N;generalize f5:U.push { key:=.int .i64 u.n,val:=.int .i64 (j:Int),born:=N }=c1 at b2;refine ⟨fun D rr rT pE rY oG oR s3 w_=>Fx D 0 [s3=.pointer (some ⟨G,0,none⟩),oR=.pointer (some ⟨G,0,none⟩),oG=.pointer (some ⟨G,0,none⟩),rY=.map (some Y),pE=.pointer (some ⟨b6,1,none⟩),rT=.int .i64 u.n,rr=.int .i64 j,True]/\Inv w X ([.blk b6 (.cells #[.int .i64 u.kind,.int .i64 u.n,.string u.name,Z] ac),aB qv er 5 css]++dd G Y (cond (D 7) c1 U) (cond (D 7) (N+1) N) m cv) S w_,⟨Fx.nil _ _,l.draw⟩,⟨?_,?_,?_,?_,?_,?_,?_,?_,trivial⟩,?_⟩;all_goals (intro D bw; intros; rename_i rr rT pE rY oG oR s3 w_ b1; have r:=b1.1; obtain ⟨⟨cG,cf,cD,cF,bQ,cE,bZ,cL,_⟩,l⟩:=b1)
    ·exact ⟨r.set 0 rfl,l⟩
    ·obtain rfl:=cG ‹_›;refine aL ?_;exact ⟨r.set 1 rfl,l⟩
    ·obtain rfl:=cf ‹_›;refine au eZ ?_;exact ⟨r.set 2 rfl,l⟩
    ·obtain rfl:=cD ‹_›;refine aD l 2 fy rfl rfl ?_;exact ⟨r.set 3 rfl,l⟩
    ·refine au aV ?_;exact ⟨r.set 4 rfl,l⟩
    ·obtain rfl:=bQ ‹_›;refine aD l 0 aw rfl rfl ?_;exact ⟨r.set 5 rfl,l⟩
    ·exact ⟨r.set 6 rfl,l⟩
    ·obtain rfl:=cF ‹_›;obtain rfl:=cE ‹_›;obtain rfl:=bZ ‹_›;rw [bw] at l;refine nb l 3 fx c7 rfl hf fun w_ l=>?_;dsimp only [cond_false] at l;rw [f5] at l;exact ⟨r.set 7 trivial,l⟩
    obtain ⟨rfl,rfl,rfl,rfl,rfl,rfl,rfl,_,_⟩:=r.all;have sZ:D 7=true:=by assumption
    clear r cG cf cD cF bQ cE bZ cL;rw [sZ] at l;exact fin c1 (N+1) cv (m.put u.n j) _ (by rw [bx,ae h2,af h1,ae h0]) b2 l
   have e:bx m j u=(m,[(u,(j:Int))]):=by rw [bx,ae h2,ae h1]
   refine aq l 0 ad rfl rfl ?_;refine yA ?_;have k5:=hR.hc;refine dC (css:=css) l 1 [.int .i64 u.kind,.int .i64 u.n,.string u.name,Z,.int .i64 j] v7 (by omega) (by omega) rfl rfl ?_ (by omega) (by omega) fun g2 w' l=>?_
   ·exact RdQ.one (S:=S) (x:=(u,(j:Int))) ⟨[.int .i64 u.kind,.int .i64 u.n,.string u.name,Z],rfl,a7⟩
   rw [e];refine ⟨U,N,cv,css++[[.int .i64 u.kind,.int .i64 u.n,.string u.name,Z,.int .i64 j]],hm,hR.snoc ⟨_,rfl,a7⟩ rfl,?_⟩;exact l.sub (gS _ _)
  intro qv _ _ _ _ _ _ _ _ _ _ _ _ _ _ _ _ _ _ _ _ _ _ _ _ _ _ _ _ _ _ _ _ _ _ _ _ _ _ _ _ _ _ _ _ _ _ _ _ w';rintro ⟨o,t,B,css,V,hR,l⟩;refine bF (by omega) ?_;refine ⟨⟨j+1,_,o,t,B,css,q++(bx m j u).2,a1,rfl,x1.wf,V,by omega,by omega,?_,?_,hR,l⟩,by simp [intOf]; omega⟩
  ·have:(bx m j u).2.length<=1:=by
    unfold bx;split
    ·exact aK _
    ·split
     ·exact aK _
     ·exact be _
   rw [bv]; omega
  ·rw [a2,cN]; rfl
 have d4:j=ks.length:=by omega
 subst d4;rw [ew,bj,dc] at a2;have a2:bj s 0 ks=(m,q):=a2;have e9:=qz ks s 0;rw [a2] at e9;obtain ⟨c5,g4,e5,g5⟩:=e9;have c5:s.sz<=m.sz:=c5;have e5:((ce q:Nat):Int)<=bi ks:=e5;obtain ⟨y1,y2,y3⟩:=lc ks hw (eP 0) (by omega) ht;rw [a2] at y2;have y2:PdW q m.next:=y2;have g8:fp s ks=eD (ce q) m q:=by rw [fp,a2]
 rw [g8];obtain ⟨a6,e6⟩:∃ a6,a6=(eD (ce q) m q).code.length:=⟨_,rfl⟩
 obtain ⟨it,c6,l⟩:=l.toQ (i:=0) rfl hR.hk;have l:Inv w X ([it]++dd G Y U N m cv) S _:=l;have hB:m.sz+8 * ce q<=800000000/\0<=m.sz:=by omega
 clear c5 g4 g5 y1 y3 f7 e0 f6;refine ⟨fun qv w'=>∃ (f:Nat) (O:CS) (o:Array MapEntry) (t:Nat) (B:Value) (css:List (List Value)) (V:List (T × Int)) (it:Item),ce V<=f/\eD (ce q) m q=eD f O V/\Wf O/\SlM o O/\PdW V O.next/\O.sz+8 * ce V<=800000000+2 * V.length/\0<=O.sz/\Rows 5 (RdQ S) css V/\QOK er 5 qv it css/\
   Inv w X ([it]++dd G Y o t O B) S w',fun _ w'=>a6 - uw G w',
   ⟨ce q,m,U,N,cv,css,q,it,be _,rfl,b8,hm,y2,by omega,by omega,hR,c6,l⟩,?_⟩
 intro _ _ _ _ _ _ _ _ _ _ _ _ _ _ _ _ _ _ _ _ _ _ _ _ _ _ _ _ _ _ _ _ _ _ _ _ _ _ _ _ _ qv _ _ _ _ _ _ _ _ _ w';rintro ⟨f,O,U,N,cv,css,V,it,hf,a0,e1,hm,e2,f8,f9,hR,hq,l⟩;obtain ⟨qa,i0,g6⟩:=hq.slice;have f0:=hR.hc;subst g6;refine iN wV ?_;refine fC ?_;refine aS (fun a4=>?_) (fun a4=>?_)
 ·obtain ⟨cs,css,rfl⟩:∃ cs f4,css=cs::f4:=by
   cases css with
   | nil=>simp at a4
   | cons a b=>exact ⟨a,b,rfl⟩
  obtain ⟨x,V,rfl⟩:∃ x q3,V=x::q3:=by
   cases V with
   | nil=>simp at f0
   | cons a b=>exact ⟨a,b,rfl⟩
  have hx:=e2 x (bL ..);have g9:RdQ S cs x:=hR.hR 0 (by simp) (by simp);have h6:Rows 5 (RdQ S) css V:=M8 hR;obtain ⟨ds,rfl,J⟩:=g9;obtain ⟨kx,rfl,_,_,_,c3⟩:=RdT.iff.1 J;have h7:=c3.le;simp only [maxLen] at h7;rw [ce,aO] at f8;have f1:(bM x.1).toNat=1+(bi x.1.kids).toNat:=by
   have:=bU x.1.kids;obtain ⟨x1,x2⟩:=x;cases x1;simp only [bM,T.kids] at this ⊢;omega
  have k6:=bU x.1.kids;have i2:=iM x.1.kids;have k7:=e1.four;have k8:O.next<=810000000/\O.code.length<=810000000:=by
   have hb:O.sz<=810000000:=by have:=gU V; omega
   unfold CS.sz at hb;omega
  obtain ⟨f,rfl⟩:∃ g,f=g+1:=⟨f - 1,by rw [ce,f1] at hf; omega⟩
  have k9:ce V+(bi x.1.kids).toNat<=f:=by rw [ce,f1] at hf; omega
  rw [eD] at a0;have d7:=B0 l;refine P7 l 0 rfl wV H4 hq fun p=>?_;refine aH l OV fun b9 w' l=>?_;have l:=l.perm (M:=.blk b9 _::([it]++dd G Y U N O cv)) (bK (l₁:=[_]));refine al l 0 rfl H4 rfl rfl (by simpa using RdQ.one (S:=S) (x:=x) ⟨_,rfl,J⟩) fun w' l=>?_;have l:Inv w X ([.blk b9 (.cells #[.int .i64 x.1.kind,.int .i64 x.1.n,.string x.1.name,kx,.int .i64 x.2] er),it]++dd G Y U N O cv) S w':=l;refine O1 wV hq fun qv hq=>?_;refine au r5 ?_;refine au ay ?_;refine aD l 0 ax rfl rfl ?_;refine aG c3 ao ?_;refine ah l 0 rfl Jy aw rfl ?_;refine au r5 ?_;refine au bk ?_;refine aD l 0 aZ rfl rfl ?_;refine ES ?_;refine Run.call bX bW l (dS ⟨3,x.1.kids.length,x.2,x.1.name⟩ hm (by omega)) fun v' I' S' w'=>?_;rintro ⟨eS,c1,g0,g1,rfl,b2⟩ _ l;rw [eS] at l;refine au r5 ?_;refine au ay ?_;refine aD l 0 ax rfl rfl ?_;refine aG c3 ao ?_;obtain ⟨se,b4⟩:∃ se,se=O.emit ⟨3,x.1.kids.length,x.2,x.1.name⟩:=⟨_,rfl⟩
  have f2:Wf se:=by rw [b4]; exact e1.emit _
  have l0:se.sz=O.sz+1:=by rw [b4,d6]
  have l1:se.code.length=O.code.length+1:=by rw [b4]; show (O.code++[_]).length=_; rw [bv]; rfl
  rw [<- b4] at a0 b2 l;obtain ⟨c9,b5⟩:=kO x.1.kids f2 hx.1.kids;have f3:=ta x.1.kids se;have c4:=nw x.1.kids se;obtain ⟨A,hA⟩:∃ A,A=bo se x.1.kids:=⟨_,rfl⟩
  rw [<- hA] at a0 c9 b5 f3 c4;have l2:O.next<=se.next:=by rw [b4]; exact eP _
  refine ⟨fun i qv w'=>∃ (j:Nat) (m:CS) (o:Array MapEntry) (t:Nat) (B:Value) (css:List (List Value)) (qj:List (T × Int)) (it:Item),j<=x.1.kids.length/\i=.int .i64 j/\Wf m/\SlM o m/\se.sz<=m.sz/\m.sz<=se.sz+2 * j/\se.code.length<=m.code.length/\qj.length<=j/\A=((bo m (x.1.kids.drop j)).1,qj++(bo m (x.1.kids.drop j)).2)/\Rows 5 (RdQ S) css (V++qj)/\QOK er 5 qv it css/\
   Inv w X ([.blk b9 (.cells #[.int .i64 x.1.kind,.int .i64 x.1.n,.string x.1.name,kx,.int .i64 x.2] er),it]++dd G Y o t m B) S w',fun i _ _=>x.1.kids.length - (intOf i).toNat,
   ⟨0,se,c1,g0,g1,css,[],it,aK _,rfl,f2,b2,by omega,by omega,be _,be _,by rw [dT,hA]; rfl,by rw [dc]; exact h6,hq,l⟩,?_⟩
  intro i _ qv _ _ _ _ _ _ _ _ _ _ _ _ _ _ _ _ _ _ _ _ _ _ _ w';rintro ⟨j,C,U,N,cv,css,qj,it,hj,rfl,c2,hm,k2,a5,k3,e0,b3,hR,hq,l⟩;refine cu ?_;refine aS (fun a4=>?_) (fun a4=>?_)
  ·have a1:j<x.1.kids.length:=by omega
   obtain ⟨u,hu⟩:∃ u,u=x.1.kids[j]:=⟨_,rfl⟩
   have b7:okG u:=by rw [hu]; exact kF hx.1.kids _ (cH a1)
   rw [Be _ C j a1,<- hu] at b3;have l3:=c2.four;have i3:C.next<=820000000/\C.code.length<=820000000:=by
    have hb:C.sz<=820000000:=by have:=gU V; omega
    unfold CS.sz at hb;omega
   have i4:css.length=V.length+qj.length:=by rw [hR.hc,bv]
   have l5:=gU V;refine ⟨fun qv w'=>∃ (o:Array MapEntry) (t:Nat) (B:Value) (css:List (List Value)) (it:Item),SlM o (ch C u).1/\Rows 5 (RdQ S) css (V++(qj++(ch C u).2))/\QOK er 5 qv it css/\
    Inv w X ([.blk b9 (.cells #[.int .i64 x.1.kind,.int .i64 x.1.n,.string x.1.name,kx,.int .i64 x.2] er),it]++dd G Y o t (ch C u).1 B) S w',?_,?_⟩
   ·refine dy l c3 ao ad a1 (fun _ _=>RdT.length) fun ds J=>?_;rw [<- hu] at J;have d0:=J.length;refine aH l aM fun e3 w' l=>?_;have l:=l.perm (M:=.blk e3 _::([.blk b9 (.cells #[.int .i64 x.1.kind,.int .i64 x.1.n,.string x.1.name,kx,.int .i64 x.2] er),it]++dd G Y U N C cv)) (bK (l₁:=[_]));refine al l 0 rfl ad (by simpa using d0) rfl (by simpa using J.one) fun w' l=>?_;have a7:=J;obtain ⟨Z,rfl,_,_,_,e4⟩:=RdT.iff.1 J;have l:Inv w X ([.blk e3 (.cells #[.int .i64 u.kind,.int .i64 u.n,.string u.name,Z] ac),.blk b9 (.cells #[.int .i64 x.1.kind,.int .i64 x.1.n,.string x.1.name,kx,.int .i64 x.2] er),it]++dd G Y U N C cv) S w':=l;refine ah l 0 rfl bb aw rfl ?_;refine pu ?_;refine aI (fun h3=>?_) (fun h3=>?_)
    ·have h3:u.kind≠3:=by simpa using h3
     have e:ch C u=(eq C u,[]):=by rw [ch,ae h3]
     refine aq l 0 ad rfl rfl ?_;refine Run.call iT iV l (n7 a7 c2 hm b7 h3 (by
      have:=gU V;omega)) fun v' I' S' w'=>?_
     rintro ⟨eS,a8,a9,b0,rfl,a3⟩ _ l;rw [eS] at l;rw [e];exact ⟨a8,a9,b0,css,it,a3,by rw [dc]; exact hR,hq,l.sub (gS _ _)⟩
    ·have h3:u.kind=3:=by simpa using h3
     have e:ch C u=((C.emit ⟨4,C.next,0,emptyB⟩).inc,[(u,C.next)]):=by rw [ch,af h3]
     refine Run.call gH gy l (nv (s:=C) (by omega)) fun v' I' S' w'=>?_;rintro ⟨eS,rfl,rfl⟩ _ l;rw [eS] at l;refine l4 ?_;refine Run.call bX bW l (dS (s:=C.inc) ⟨4,C.next,0,emptyB⟩ hm (by show C.code.length<=_; omega)) fun v' I' S' w'=>?_;rintro ⟨eS,a8,a9,b0,rfl,a3⟩ _ l;rw [eS] at l;refine aq l 0 ad rfl rfl ?_;refine yA ?_;refine mW l v7 rfl (by omega) (by omega) fun w2 l=>?_;refine Nc (o':=0) l 2 [.int .i64 u.kind,.int .i64 u.n,.string u.name,Z,.int .i64 C.next] v7 (by omega) rfl hq rfl (fun j v hj=>by
      rw [df,l.cellL (i:=6) rfl];simpa [Value.cells] using hj) (RdQ.one (S:=S) (x:=(u,C.next)) ⟨[.int .i64 u.kind,.int .i64 u.n,.string u.name,Z],rfl,a7⟩) (by omega) (by omega) fun g2 g3 w' hq l=>?_
     rw [e];refine ⟨a8,a9,b0,_,g3,a3,?_,hq,?_⟩
     ·rw [<- cN];exact hR.snoc ⟨_,rfl,a7⟩ rfl
     ·exact l.pick [false,true,true,true,true,true,false]
   intro qv _ _ _ _ _ _ _ _ _ _ _ _ _ _ _ _ _ _ _ _ _ _ w';rintro ⟨o,t,B,css,it,h5,hR,hq,l⟩;refine bF (by omega) ?_;have hz:=FL C u;have l6:(ch C u).1.code.length=C.code.length+1:=by
    unfold ch;split
    ·show (C.code++[_]).length=_;rw [bv]; rfl
    ·show (eq C u).code.length=_;rw [vU,bv]; rfl
   refine ⟨⟨j+1,_,o,t,B,css,qj++(ch C u).2,it,a1,rfl,(ul c2 b7).1.wf,h5,by omega,by omega,by omega,?_,?_,hR,hq,l⟩,by simp [intOf]; omega⟩
   ·have:(ch C u).2.length<=1:=by
     unfold ch;split
     ·exact be _
     ·exact aK _
    rw [bv]; omega
   ·rw [b3,cN]
  have d4:j=x.1.kids.length:=by omega
  subst d4;rw [ew,bo,dc] at b3;rw [b3] at a0 c9 b5 f3 c4;have a0:eD (ce q) m q=eD f C (V++qj):=a0;have b5:PdW qj C.next:=b5;have l7:se.next<=C.next:=c9.next;have c4:(x.1.kids.length:Int)+4 * ce qj<=4 * bi x.1.kids+qj.length:=c4;have l:Inv w X ([it]++dd G Y U N C cv) S _:=l.sub (gS _ _);have d9:=B0 l;have l8:=gU qj;have h8:C.code.length<=a6:=by
   rw [e6,a0,wX,bv]; omega
  refine ⟨⟨f,C,U,N,cv,css,V++qj,it,?_,a0,c2,hm,fun p hp=>?_,?_,by omega,hR,hq,l⟩,?_⟩
  ·rw [eA];have:=qD x.1.kids se;rw [<- hA,b3] at this;have this:ce qj<=_:=this;omega
  ·rcases cI.1 hp with hp|hp
   ·obtain ⟨d1,d2,d3⟩:=e2 p (bV _ hp);exact ⟨d1,d2,by omega⟩
   ·exact b5 p hp
  ·rw [eA,bv];omega
  ·show a6 - uw G _<a6 - uw G _;rw [d9,d7];omega
 ·have h9:css=[]:=by
   cases css with
   | nil=>rfl
   | cons a b=>simp at a4
  subst h9;have c6:V=[]:=jK (by rw [<- f0]; rfl);subst c6;have e:eD f O []=O:=by cases f <;> rfl
  rw [a0,e];exact ⟨_,_,_,rfl,l.sub (dU _ _),Ext.refl _ _ _,rfl,U,N,cv,rfl,hm⟩
end
end
section
open Go Go.RowKit
theorem RdQ.mono {S S':ag} {cs:List Value} {x:T × Int} (a:Sle S S') (h:RdQ S cs x):RdQ S' cs x:=by
 obtain ⟨ds,e,g⟩:=h;exact ⟨ds,e,g.mono a⟩
def emS (w:World) (X:List Nat) (F:Array Value->List Item) (S:ag) (c0:Array Value) (s:CS) (xr:Value) (w':World):Nat->Prop
 | 0=>Inv w X (F c0) S w'
 | 1=>∃ S2 cs2,xr=.agg cs2.toArray/\MkS S2 cs2 s/\Ext w.heap.size X S S2/\Inv w X (F c0) S2 w'
 | _=>∃ S2 cs2,MkS S2 cs2 s/\Ext w.heap.size X S S2/\Inv w X (F cs2.toArray) S2 w'
section
variable {w w':World} {X:List Nat} {F:Array Value->List Item} {S:ag} {c0:Array Value} {s:CS} {xr:Value}
theorem emS.inv:∀ {n:Nat},n<2->emS w X F S c0 s xr w' n->∃ S2,Sle S S2/\Inv w X (F c0) S2 w'
 | 0,_,h=>⟨S,Sle.refl S,h⟩
 | 1,_,⟨S2,_,_,_,hE,h⟩=>⟨S2,hE.1,h⟩
 | _+2,h,_=>absurd h (by omega)
theorem emS.any:∀ {n:Nat},emS w X F S c0 s xr w' n->∃ S2 c,Sle S S2/\Inv w X (F c) S2 w'
 | 0,h=>⟨S,c0,Sle.refl S,h⟩
 | 1,⟨S2,_,_,_,hE,h⟩=>⟨S2,c0,hE.1,h⟩
 | _+2,⟨S2,_,_,hE,h⟩=>⟨S2,_,hE.1,h⟩
theorem ML {b:Bool} {n:Nat} (h:b=decide (2<=n)) (a:b=false):n<2:=by
 rw [a] at h;have:=of_decide_eq_false h.symm;omega
end
theorem wt {s:CS} {m:Nat} (h:m<s.sl.length):s.at_ (m:Int)=s.sl[m]:=by
 show s.sl[(m:Int).toNat]?.getD (-1)=_;rw [eB,z9 h]; rfl
section
attribute [local irreducible] Run CondV aC aU
theorem yG {w:World} {K:Value->World->Prop} {a b k:Int} {s:ByteArray} {x:Value} (hk:K (.agg #[.int .i64 a,.int .i64 b,.string s,x,.int .i64 k]) w) :
  Run Tryz.prog (bR co [(0,.agg #[.int .i64 a,.int .i64 b,.string s,x]),(1,.int .i64 k)]) w K:=by
 refine Run.of (v:=.agg #[.int .i64 a,.int .i64 b,.string s,x,.int .i64 k]) (w':=w) ?_ hk;unfold bR;rw [Sem.run_bind,run_build w co _ #[.int .i64 a,.int .i64 b,.string s,x,.int .i64 k] (by kernel_rfl),Result.andThen_ok];rfl
set_option maxHeartbeats 1000000 in
theorem vO {s:CS} {ts:List T} {S:ag} {cs:List Value} {v:Value} (h:MkS S cs s) (b1:RdSl S 4 (RdT S) v ts) (ho:∀ t∈ts,okU 26 t) (hl:s.sl.length=26) (c4:0<=s.next) (e3:s.sz+2 * ts.length<=900000000) :
  Tri Tryz.prog KT [.agg cs.toArray,v] [] S fun r I' S'=>I'=[]/\∃ c3 u,r=.tuple #[.agg c3.toArray,u]/\MkS S' c3 (bo s ts).1/\RdSl S' 5 (RdQ S') u (bo s ts).2:=by
 intro w a;have f8:=h.length;have b9:=b1.le;simp only [maxLen] at b9;have f9:0<=s.sz:=by unfold CS.sz; omega
 refine yx.2 ?_;dsimp only[yx,bm];refine bH a fun b2 w' a=>?_;refine aH a eo fun b4 w' a=>?_;refine fc a jJ fun Z w' a=>?_;obtain ⟨B4,b6⟩:∃ B4,B4=Item.blk b4 (.cells #[.slice none 0 0,.int .i64 0,.slice none 0 0] av):=⟨_,rfl⟩
 have e4:=congrArg some b6;have a:Inv w [] [.blk b2 (.cells cs.toArray av),B4,aB Z co 5 []] S w':=by rw [b6]; exact a
 refine ⟨fun i Z w'=>∃ (j:Nat) (g:CS) (U:List Value) (Sj:ag) (css:List (List Value)) (q:List (T × Int)),j<=ts.length/\i=.int .i64 j/\Ext w.heap.size [] S Sj/\MkS Sj U g/\g.sl.length=26/\0<=g.next/\g.sz<=s.sz+2 * j/\q.length<=j/\bo s ts=((bo g (ts.drop j)).1,q++(bo g (ts.drop j)).2)/\Rows 5 (RdQ Sj) css q/\
   Inv w [] [.blk b2 (.cells U.toArray av),B4,aB Z co 5 css] Sj w',fun i _ _=>ts.length - (intOf i).toNat,
   ⟨0,s,cs,S,[],[],aK _,rfl,Ext.refl _ _ _,h,hl,c4,by omega,by simp,by rw [dT,rC],Rows.nil _ _,a⟩,?_⟩
 intro i _ _ _ _ _ _ _ _ _ _ _ Z _ _ _ _ _ _ _ _ _ _ _ _ _ _ _ _ _ _ _ _ _ _ _ _ _ _ e5 e6 e7 e9 f0 f1 f2 f3 f4 _ _ _ _ _ _ _ _ _ _ _ _ _ _ _ _ _ _ _ _ _ _ _ _ _ _ _ _ _ _ _ w';rintro ⟨j,g,U,Sj,css,q,hj,rfl,a8,G,b3,f5,f6,f7,hA,hR,a⟩;have a7:=b1.monoT a8.1;have Y:=G.length;refine aG a7 ao ?_;refine cu ?_;refine aS (fun d0=>?_) (fun d0=>?_)
 ·have a5:j<ts.length:=by omega
  obtain ⟨u,hu⟩:∃ u,u=ts[j]:=⟨_,rfl⟩
  have a6:okU 26 u:=by rw [hu]; exact ho _ (cH a5)
  rw [Be ts g j a5,<- hu] at hA;have g0:=hR.hc;have hb:g.sz<=900000000:=by omega
  have e2:g.next<=900000000/\g.code.length<=900000000:=by
   unfold CS.sz at hb;omega
  refine ⟨fun Z w'=>∃ (p:List Value) (Sn:ag) (css:List (List Value)),Ext w.heap.size [] Sj Sn/\MkS Sn p (ch g u).1/\Rows 5 (RdQ Sn) css (q++(ch g u).2)/\
    Inv w [] [.blk b2 (.cells p.toArray av),B4,aB Z co 5 css] Sn w',?_,?_⟩
  ·refine dy a a7 ao ad a5 (fun _ _=>RdT.length) fun ds a2=>?_;rw [<- hu] at a2;have d7:=a2.length;refine aH a aM fun b8 w' a=>?_;refine al a 3 rfl ad (by simpa using d7) rfl (by simpa using a2.one) fun w' a=>?_;have c1:=a2;obtain ⟨a3,rfl,_,_,_,e1⟩:=RdT.iff.1 a2;obtain ⟨B8,b7⟩:∃ B8,B8=Item.blk b8 (.cells #[.int .i64 u.kind,.int .i64 u.n,.string u.name,a3] ac):=⟨_,rfl⟩
   have e8:=congrArg some b7;have a:Inv w [] [.blk b2 (.cells U.toArray av),B4,aB Z co 5 css,B8] Sj w':=by rw [b7]; exact a
   have fin:∀ (p:List Value) (Sn:ag) (sn:CS) (w':World),ch g u=(sn,[])->Ext w.heap.size [] Sj Sn->MkS Sn p sn->Inv w [] [.blk b2 (.cells p.toArray av),B4,aB Z co 5 css,B8] Sn w'->∃ (p:List Value) (Sn:ag) (css:List (List Value)),Ext w.heap.size [] Sj Sn/\MkS Sn p (ch g u).1/\Rows 5 (RdQ Sn) css (q++(ch g u).2)/\
     Inv w [] [.blk b2 (.cells p.toArray av),B4,aB Z co 5 css] Sn w':=fun p Sn sn w' e h1 h2 h3=>by
    rw [e];exact ⟨p,Sn,css,h1,h2,by rw [dc]; exact hR.monoR fun _ _ h=>h.mono h1.1,h3.pick [true,true,true,false]⟩
   refine ah a 3 e8 bb aw rfl ?_;refine bn ?_;refine aS (fun h2=>?_) (fun h2=>?_)
   ·refine aq a 0 az rfl (by simpa using Y) ?_;refine ah a 3 e8 aV aw rfl ?_;refine l4 ?_;refine Run.call0E c9 db a (cP ⟨6,u.n,0,emptyB⟩ G (by omega)) fun v' I' S2 w'=>?_;rintro ⟨rfl,J,rfl,l⟩ N a;refine al a 0 rfl az (by simpa using l.length) (by simpa using Y) (by simpa using l.one) fun w' a=>?_;exact fin J S2 _ _ (by rw [ch,ae (by omega),eq,af h2]) N l a
   refine ⟨fun q w'=>q=.bool (decide (u.kind=1/\0<=g.at_ u.n))/\Inv w [] [.blk b2 (.cells U.toArray av),B4,aB Z co 5 css,B8] Sj w',?_,?_⟩
   ·refine ah a 3 e8 bb aw rfl ?_;refine bn ?_;by_cases h1:u.kind=1
    ·rw [aP h1];refine rpG ?_;obtain ⟨v1,v2,rfl,g1,g2⟩:=id G;have hv:=a6.var h1;obtain ⟨m,hm⟩:∃ m:Nat,u.n=(m:Int):=⟨u.n.toNat,by omega⟩
     have a1:m<g.sl.length:=by omega
     refine ah a 0 rfl dF fG rfl ?_;refine ah a 3 e8 aV aw rfl ?_;rw [hm,wt a1];refine lr a g1 fI aw a1 (fun cs d1=>d1) ?_;refine lj ?_;refine rpG ?_;refine ⟨?_,a⟩;simp [h1]
    ·rw [bf h1];refine rpG ?_;refine ⟨?_,a⟩;simp [h1]
   intro z _ _ _ _ _ _ _ _ _ _ _ _ w';rintro ⟨rfl,a⟩;refine aS (fun a9=>?_) (fun a9=>?_)
   ·obtain ⟨h1,h0⟩:=a9;have e:ch g u=(g.emit ⟨5,g.at_ u.n,0,emptyB⟩,[]):=by rw [ch,ae (by omega),eq,ae h2,af h0]
    have hv:=a6.var h1;obtain ⟨m,hm⟩:∃ m:Nat,u.n=(m:Int):=⟨u.n.toNat,by omega⟩
    have a1:m<g.sl.length:=by omega
    obtain ⟨v1,v2,rfl,g1,g2⟩:=id G;obtain ⟨bq,oq,cap,c,E,fz,rfl,d3,d4⟩:=g1.at_ a1;have d9:=wt a1;refine ⟨fun D Lw Bz BT yU yk tU rr rT pE w_=>Fx D 0 [pE=.agg #[.slice (some ⟨bq,oq,none⟩) g.sl.length cap,.int .i64 g.next,v2],rT=.pointer (some ⟨b2,0,none⟩),rr=.slice (some ⟨bq,oq,none⟩) g.sl.length cap,tU=.pointer (some ⟨b8,1,none⟩),yk=.int .i64 (m:Int),yU=.pointer (some ⟨bq,oq+m * 1,none⟩),BT=.int .i64 (g.at_ u.n),Bz=.agg (Ist.cells ⟨5,g.at_ u.n,0,emptyB⟩).toArray,True,True]/\∃ n_:Nat,n_<=2/\D 8=decide (1<=n_)/\D 9=decide (2<=n_)/\(emS w [] (fun c=>[.blk b2 (.cells c av),B4,aB Z co 5 css,B8]) Sj #[.slice (some ⟨bq,oq,none⟩) g.sl.length cap,.int .i64 g.next,v2] (g.emit ⟨5,g.at_ u.n,0,emptyB⟩) Lw w_ n_/\(D 9=true->D 0=true/\D 2=true)),⟨Fx.nil _ _,⟨0,aK _,rfl,rfl,⟨a.draw,aY⟩⟩⟩,⟨?_,?_,?_,?_,?_,?_,?_,?_,?_,?_,trivial⟩,?_⟩;all_goals (intro D bw; intros; rename_i Lw Bz BT yU yk tU rr rT pE w_ b5; have M:=b5.1; obtain ⟨⟨cG,cf,cD,cF,bQ,cE,bZ,cL,dw,dl,_⟩,⟨n_,O,B,o,C⟩⟩:=b5)
    ·have dl:D 9=false:=cS.2 fun h=>by rw [(C.2 h).1] at bw; cases bw
     obtain ⟨S5,a4,a⟩:=C.1.inv (ML o dl);refine aq a 0 az rfl rfl ?_;have C:=And.intro C.1 (fun (h:aE D 0 9=true)=>(⟨rfl,(C.2 h).2⟩:aE D 0 0=true/\aE D 0 2=true));exact ⟨M.set 0 rfl,⟨n_,O,B,o,C⟩⟩
    ·refine au dF ?_;exact ⟨M.set 1 rfl,⟨n_,O,B,o,C⟩⟩
    ·obtain rfl:=cf ‹_›;have dl:D 9=false:=cS.2 fun h=>by rw [(C.2 h).2] at bw; cases bw
     obtain ⟨S5,a4,a⟩:=C.1.inv (ML o dl);refine aD a 0 fG rfl rfl ?_;have C:=And.intro C.1 (fun (h:aE D 2 9=true)=>(⟨(C.2 h).1,rfl⟩:aE D 2 0=true/\aE D 2 2=true));exact ⟨M.set 2 rfl,⟨n_,O,B,o,C⟩⟩
    ·refine au aV ?_;exact ⟨M.set 3 rfl,⟨n_,O,B,o,C⟩⟩
    ·obtain rfl:=cF ‹_›;obtain ⟨S5,c5,a4,a⟩:=C.1.any;refine aD (v:=.int .i64 (m:Int)) a 3 aw e8 (by rw [<- hm]; rfl) ?_;exact ⟨M.set 4 rfl,⟨n_,O,B,o,C⟩⟩
    ·obtain rfl:=cD ‹_›;obtain rfl:=bQ ‹_›;refine aT fI a1 ?_;exact ⟨M.set 5 rfl,⟨n_,O,B,o,C⟩⟩
    ·obtain rfl:=cE ‹_›;obtain ⟨S5,c5,a4,a⟩:=C.1.any;refine dE (v:=.int .i64 (g.at_ u.n)) aw (by rw [a.cellS (a4 _ _ d3),hm,d9]; exact bd d4 0 _ rfl) ?_;exact ⟨M.set 6 rfl,⟨n_,O,B,o,C⟩⟩
    ·obtain rfl:=bZ ‹_›;refine l4 ?_;exact ⟨M.set 7 rfl,⟨n_,O,B,o,C⟩⟩
    ·obtain rfl:=cG ‹_›;obtain rfl:=cL ‹_›;obtain rfl:n_=0:=iI B bw;refine Run.call0E c9 db C.1 (cP ⟨5,g.at_ u.n,0,emptyB⟩ G (by omega)) fun v' I' S2 w_=>?_;rintro ⟨rfl,J,rfl,l⟩ N a;have b0:emS w [] (fun c=>[.blk b2 (.cells c av),B4,aB Z co 5 css,B8]) Sj #[.slice (some ⟨bq,oq,none⟩) g.sl.length cap,.int .i64 g.next,v2] (g.emit ⟨5,g.at_ u.n,0,emptyB⟩) (.agg J.toArray) w_ 1:=⟨S2,J,rfl,l,N,a⟩
     exact ⟨M.set 8 (by first|assumption|trivial),⟨1,by decide,rfl,(by first|exact o|rfl),⟨b0,C.2⟩⟩⟩
    ·have GD:=dw ‹_›;obtain rfl:n_=1:=gF B ‹D 8=true› o bw;obtain ⟨S2,J,rfl,l,N,a⟩:=C.1;refine al a 0 rfl az (by simpa using l.length) rfl (by simpa using l.one) fun w_ a=>?_;have b0:emS w [] (fun c=>[.blk b2 (.cells c av),B4,aB Z co 5 css,B8]) Sj #[.slice (some ⟨bq,oq,none⟩) g.sl.length cap,.int .i64 g.next,v2] (g.emit ⟨5,g.at_ u.n,0,emptyB⟩) (.agg J.toArray) w_ 2:=⟨S2,J,l,N,a⟩
     exact ⟨M.set 9 trivial,⟨2,by decide,(by first|exact B|rfl),rfl,⟨b0,fun _=>⟨‹D 0=true›,‹D 2=true›⟩⟩⟩⟩
    obtain rfl:n_=2:=iH O o ‹D 9=true›;clear B o;obtain ⟨S2,J,l,N,a⟩:=C.1;exact fin J S2 _ _ e N l a
   refine ah a 3 e8 bb aw rfl ?_;refine bn ?_;obtain ⟨v1,v2,rfl,g1,g2⟩:=id G;refine aS (fun h1=>?_) (fun h1=>?_)
   ·have hv:=a6.var h1;have h0:¬ 0<=g.at_ u.n:=fun h0=>a9 ⟨h1,h0⟩;have e:ch g u=(((g.put u.n g.next).emit ⟨4,g.next,0,emptyB⟩).inc,[]):=by rw [ch,ae (by omega),eq,ae h2,ae h0]
    refine aq a 0 az rfl rfl ?_;refine ah a 3 e8 aV aw rfl ?_;refine ah a 0 rfl cT aw rfl ?_;refine Run.call0E pr o8 a (ny (n:=u.n) (k:=g.next) G b3 (by omega)) fun v' I' S2 w'=>?_;rintro ⟨rfl,J,rfl,l⟩ N a;refine al a 0 rfl az (by simpa using l.length) rfl (by simpa using l.one) fun w' a=>?_;obtain ⟨p1,p2,rfl,q1,q2⟩:=id l;refine aq a 0 az rfl rfl ?_;refine ah a 0 rfl cT aw rfl ?_;refine l4 ?_;refine Run.call0E c9 db a (cP ⟨4,g.next,0,emptyB⟩ l (by show g.code.length<=_; omega)) fun v' I' S3 w'=>?_;rintro ⟨rfl,c6,rfl,a0⟩ V a;refine al a 0 rfl az (by simpa using a0.length) rfl (by simpa using a0.one) fun w' a=>?_;obtain ⟨z1,z2,rfl,y1,y2⟩:=id a0;refine ah a 0 rfl cT aw rfl ?_;have en:((g.put u.n g.next).emit ⟨4,g.next,0,emptyB⟩).next=g.next:=rfl;rw [en];refine bF (by omega) ?_;refine dG a 0 rfl cT aw rfl rfl rfl fun w' a=>?_;exact fin [z1,.int .i64 (g.next+1),z2] S3 _ _ e (N.trans V) ⟨z1,z2,rfl,y1,y2⟩ a
   ·have h3:u.kind=3:=by have:=a6.three; omega
    have e:ch g u=((g.emit ⟨4,g.next,0,emptyB⟩).inc,[(u,g.next)]):=by rw [ch,af h3]
    refine aq a 3 ad e8 rfl ?_;refine ah a 0 rfl cT aw rfl ?_;refine yG ?_;refine dC (css:=css) a 2 [.int .i64 u.kind,.int .i64 u.n,.string u.name,a3,.int .i64 g.next] jJ (by omega) (by omega) rfl rfl ?_ (by omega) (by omega) fun d2 w' a=>?_
    ·exact RdQ.one (S:=Sj) (x:=(u,g.next)) ⟨[.int .i64 u.kind,.int .i64 u.n,.string u.name,a3],rfl,c1⟩
    have c2:Rows 5 (RdQ Sj) (css++[[.int .i64 u.kind,.int .i64 u.n,.string u.name,a3,.int .i64 g.next]]) (q++[(u,g.next)]):=hR.snoc ⟨_,rfl,c1⟩ rfl;generalize css++[[.int .i64 u.kind,.int .i64 u.n,.string u.name,a3,.int .i64 g.next]]=css2 at a c2;have a:Inv w [] [.blk b2 (.cells #[v1,.int .i64 g.next,v2] av),B4,aB d2 co 5 css2,B8] Sj w':=a.pick [true,true,true,true,false];refine aq a 0 az rfl rfl ?_;refine ah a 0 rfl cT aw rfl ?_;refine l4 ?_;refine Run.call0E c9 db a (cP ⟨4,g.next,0,emptyB⟩ G (by omega)) fun v' I' S3 w'=>?_;rintro ⟨rfl,c6,rfl,a0⟩ V a;refine al a 0 rfl az (by simpa using a0.length) rfl (by simpa using a0.one) fun w' a=>?_;obtain ⟨z1,z2,rfl,y1,y2⟩:=id a0;refine ah a 0 rfl cT aw rfl ?_;have en:(g.emit ⟨4,g.next,0,emptyB⟩).next=g.next:=rfl;rw [en];refine bF (by omega) ?_;refine dG a 0 rfl cT aw rfl rfl rfl fun w' a=>?_;rw [e];exact ⟨[z1,.int .i64 (g.next+1),z2],S3,css2,V,⟨z1,z2,rfl,y1,y2⟩,c2.monoR fun _ _ h=>h.mono V.1,a.pick [true,true,true,false]⟩
  intro _ _ _ _ _ _ _ _ _ Z _ _ _ _ _ _ _ _ _ _ _ _ _ _ _ _ _ _ _ _ _ _ _ _ _ _ _ _ _ _ _ _ _ _ _ _ _ _ _ _ _ _ _ _ _ _ _ _ _ _ _ _ _ _ _ _ _ _ _ _ _ _ w';rintro ⟨p,Sn,css,c7,c8,hR,a⟩;refine bF (by omega) ?_;have hg:=LC g u;have hz:=(FL g u).2;refine ⟨⟨j+1,(ch g u).1,p,Sn,css,q++(ch g u).2,a5,rfl,a8.trans c7,c8,by rw [hg.len]; exact b3,by have:=hg.next; omega,by omega,?_,?_,hR,a⟩,by simp [intOf]; omega⟩
  ·have:(ch g u).2.length<=1:=by
    unfold ch;split
    ·exact be _
    ·exact aK _
   rw [bv]; omega
  ·rw [hA,cN]
 have e0:j=ts.length:=by omega
 subst e0;rw [ew,bo,dc] at hA;rw [hA];refine aq a 0 az rfl (by simpa using Y) ?_;refine al a 1 e4 az (by simpa using Y) rfl (by simpa using G.one) fun w' a=>?_;refine bp a 1 az rfl (by simpa using Y) ?_;have a:Inv w [] ([.blk b2 (.cells U.toArray av),.blk b4 (.cells U.toArray av)]++[aB Z co 5 css]) Sj w':=a;obtain ⟨S3,V,d6,a⟩:=a.lendExt;exact ⟨_,_,S3,rfl,a.nil,a8.trans V,rfl,U,Z,rfl,G.mono V.1,RowRd.rows (hR.monoR fun _ _ h=>h.mono V.1) d6⟩
end
end
section
open Go Go.RowKit
theorem uk {l:List Int} {n a b:Int} (g:n∈l) (h:(l.all fun n=>decide (a<=n) && decide (n<=b))=true):a<=n/\n<=b:=by
 rw [fS] at h;have:=h n g;rw [bJ,bE,bE] at this;exact this
theorem zI {l:List ByteArray} {s:ByteArray} {m:Nat} (a:s∈l) (h:(l.all fun s=>decide (s.size<=m))=true):s.size<=m:=by
 rw [fS] at h;have:=h s a
 rwa [bE] at this
theorem JY {Q B:Prop} {R:Nat->Prop} (a:Q->B) (g:∀ n,n<3->R n->B):∀ {n:Nat},ph Q R n->n<4->B
 | 0,h,_=>a h
 | n+1,h,hn=>g n (by omega) h
theorem mX:∀ l m:List T,wL (l++m)=wL l+wL m
 | [],m=>by simp [wL]
 | t::l,m=>by simp only [dQ,wL,mX l m]; omega
theorem PQ {n:Int} (h:0<=n/\n<26):okU 26 (.mk 1 n emptyB []):=by
 simp only [okU,cz];exact ⟨by decide,fun _=>⟨h.1,h.2,trivial,trivial⟩,trivial,by decide⟩
theorem Qn {n:Int}:okU 26 (.mk 2 n emptyB []):=by
 simp only [okU,cz];exact ⟨by decide,(fun h=>by cases h),trivial,by decide⟩
theorem FG {s:ByteArray} {ts:List T} (a:s.size<=6) (h:cz 26 ts):okU 26 (.mk 3 0 s ts):=by
 simp only [okU];exact ⟨by decide,(fun h=>by cases h),h,a⟩
theorem Ia {N:Nat}:∀ {l m:List T},cz N l->cz N m->cz N (l++m)
 | [],_,_,h=>h
 | _::_,_,h,h'=>by
  rw [cz] at h;rw [dQ,cz];exact ⟨h.1,Ia h.2 h'⟩
theorem uU {S:ag} {k n:Int} (hk:inI k) (hn:inI n):RdT S [.int .i64 k,.int .i64 n,.string ⟨#[]⟩,.slice none 0 0] (.mk k n emptyB []):=
 RdT.iff.2 ⟨_,rfl,hk,hn,aK _,kq S⟩
section
variable {w0 w:World} {X:List Nat} {L:List Item} {S:ag} {K:Value->World->Prop} {P:Program}
attribute [local irreducible] Run CondV aC aU
theorem Run.callL {f:FuncId} {fn:Func} {args:List Value} {I:List Item} {Post:Value->List Item->ag->Prop}
  (hf:P.funcs[f]?=some fn) (hn:(fn.name == "runtime.NumGoroutine" || fn.body.isNone)=false) (h:Inv w0 X L S w) (hc:Tri P f args I S Post) (hL:L=L.dropLast++I)
  (hk:∀ v I' S' w',Post v I' S'->Ext w0.heap.size X S S'->Inv w0 X (L.dropLast++I') S' w'->K v w'):Run P (fa (.func (.func f) #[] #[]) args) w K:=
 Run.callE (A:=L.dropLast) hf hn (hL ▸ h) hc hk
theorem Gg {T:TypeId} {a g:Bool} {d:Nat} (h:d<=1000000) (hk:K (.int .i64 (d:Int)) w):Run P (dh .sub T a g (.int .i64 ((d+1:Nat):Int)) (.int .i64 1)) w K:=by
 refine jx (by omega) ?_;rw [show ((d+1:Nat):Int) - 1=d by omega];exact hk
theorem Gm {B:Prop} {b d:Nat} {c:Array Value} {E:TypeId} {kv xs xa:Value} {css:List (List Value)} {F:Nat->List Item} {Q:List Value->Nat->ag->Prop} {a:Nat} {S1:ag} {cs:List Value} {t:T}
  (h:Q cs a S1) (g:RdT S1 cs t) (i:Inv w0 X (.blk b (.cells c E)::aB kv ac 4 css::F a) S1 w):ph B (y8 w0 X b c d E kv css F Q (.agg cs.toArray) xs xa w) 1:=
 ⟨a,S1,cs,h,⟨g.length,g.one⟩,rfl,i⟩
end
section
variable {br:Nat} {sl:Value} {ys:List Nat}
attribute [local irreducible] Run CondV aC aU
abbrev K4 (br:Nat) (sl:Value) (ys:List Nat) (d:Nat):Prop:=∀ (p:Nat) (S:ag),RdSl S 1 mc sl ys->p+3 * dW d<=1000000000->Tri Tryz.prog Jz [rdP br,.int .i64 (d:Int)] [rdI br sl p] S (RS br sl p d)
theorem Dw {d:Nat} (d1:d<=4) (ih:∀ V,V+1=d->K4 br sl ys V):K4 br sl ys d:=by
 intro p S M hp w g;have hW:=Pt d;refine yc.2 ?_;dsimp only[yc,bm];refine aH g aM fun b4 w' g=>?_;have g:Inv w [br] [.blk b4 (.cells #[.int .i64 0,.int .i64 0,.string ⟨#[]⟩,.slice none 0 0] ac),rdI br sl p] S w':=g.last 0 rfl;refine ⟨fun v w'=>∃ (c:Bool) (p1:Nat),v=.bool c/\p1<=p+1/\(c=false->2<=d)/\Inv w [br] [.blk b4 (.cells #[.int .i64 0,.int .i64 0,.string ⟨#[]⟩,.slice none 0 0] ac),rdI br sl p1] S w',?_,?_⟩
 ·refine cu ?_;by_cases hd:(d:Int)<2
  ·rw [aP hd];refine rpG ?_;exact ⟨true,p,rfl,by omega,(fun h=>by cases h),g⟩
  ·rw [bf hd];refine rpG ?_;refine Run.callL dt dv g (fi (n:=4) M (by omega) (by omega)) rfl fun v' I' S' w'=>?_;rintro ⟨rfl,rfl,k,hk,rfl⟩ _ g;refine bn ?_;refine rpG ?_;exact ⟨_,p+1,rfl,by omega,fun _=>by omega,g⟩
 intro d2 _ _ _ _ _ _ w';rintro ⟨c,p1,rfl,d3,c5,g⟩;refine aI (fun _=>?_) (fun hc=>?_)
 ·refine Run.callL dt dv g (fi (n:=4) M (by omega) (by omega)) rfl fun v' I' S' w'=>?_;rintro ⟨rfl,rfl,k,hk,rfl⟩ _ g;have g:Inv w [br] [.blk b4 (.cells #[.int .i64 0,.int .i64 0,.string ⟨#[]⟩,.slice none 0 0] ac),rdI br sl (p1+1)] S' w':=g;refine bn ?_;refine aS (fun _=>?_) (fun _=>?_)
  ·refine Run.callL dt dv g (fi (n:=4) M (by omega) (by omega)) rfl fun v' I' S1 w'=>?_;rintro ⟨rfl,rfl,k,hk,rfl⟩ _ g;refine Run.callPure Ci Bt g (rv k S1) fun w' g=>?_;refine al g 0 rfl ad rfl rfl (by simp [Value.oneCell']) fun w' g=>?_;refine bp g 0 ad rfl rfl ?_;exact ⟨_,_,S1,rfl,g.pick [false,true],Ext.refl _ _ _,p1+2,by omega,rfl,_,_,rfl,uU (by simp [inI]) (by simp only [inI]; omega),by have e:emptyB.size=0:=rfl; simp only [wT,wL,cq,e]; omega,PQ (by omega)⟩
  refine bn ?_;refine aS (fun _=>?_) (fun _=>?_)
  ·refine Al g (by kernel_rfl) rfl (by omega) fun v S1 w' B hv g=>?_;refine Run.callL gb gt g (mz (p:=p1+1) (M.monoU B.1) hv (by decide) (by omega)) rfl fun v' I' S2 w'=>?_;rintro ⟨rfl,rfl,n,hn,rfl⟩ _ g;have hn:=uk (a:=-1000) (b:=1000) hn (by decide);refine Run.callPure sH sD g (l6 n S2) fun w' g=>?_;refine al g 0 rfl ad rfl rfl (by simp [Value.oneCell']) fun w' g=>?_;refine bp g 0 ad rfl rfl ?_;exact ⟨_,_,S2,rfl,g.pick [false,true],B,p1+2,by omega,rfl,_,_,rfl,uU (by simp [inI]) (by simp only [inI]; omega),by have e:emptyB.size=0:=rfl; simp only [wT,wL,cq,e]; omega,Qn⟩
  ·refine AZ g (by kernel_rfl) rfl (by omega) fun v S1 w' B hv g=>?_;refine Run.callL jj jf g (ur (p:=p1+1) (M.monoU B.1) hv (by decide) (by omega)) rfl fun v' I' S2 w'=>?_;rintro ⟨rfl,rfl,s,hs,rfl⟩ _ g;have hs:=zI (m:=3) hs (by decide);refine Run.call0E dP dO g (eE s (by simp only [maxLen]; omega) (kq S2) (by simp)) fun v' I' S3 w'=>?_;rintro ⟨rfl,cs,rfl,l⟩ Z g;refine al g 0 rfl ad (by simpa using l.length) rfl (by simpa using l.one) fun w' g=>?_;refine bp g 0 ad rfl (by simpa using l.length) ?_;exact ⟨_,_,S3,rfl,g.pick [false,true],B.trans Z,p1+2,by omega,rfl,_,_,rfl,l,by simp only [wT,wL,cq]; omega,FG (by omega) (by simp only [cz])⟩
 obtain ⟨V,rfl⟩:∃ V,d=V+1:=⟨d - 1,by have:=c5 hc; omega⟩
 have ih:=ih V rfl;have hD:=Pt V;have f1:=Qq V;have h3:dW V<=486:=by
  have:3 ^ V<=3 ^ 4:=Ke (by omega) (by omega);simp only [dW]; omega
 refine Run.callL dt dv g (fi (n:=3) M (by omega) (by omega)) rfl fun v' I' S w'=>?_;rintro ⟨rfl,rfl,k,hk,rfl⟩ _ g;refine bn ?_;refine aS (fun _=>?_) (fun _=>?_)
 ·refine Gg (by omega) ?_;refine Run.callL lZ lz g (ih (p1+1) S M (by omega)) rfl fun v' I' S1 w'=>?_;rintro ⟨p2,a9,rfl,d4,t1,rfl,a6,d6,c6⟩ B g;refine Gg (by omega) ?_;refine Run.callL lZ lz g (ih p2 S1 (M.monoU B.1) (by omega)) rfl fun v' I' S2 w'=>?_;rintro ⟨p3,b0,rfl,d7,t2,rfl,b3,d9,c7⟩ b6 g;have a6:=RdT.mono b6.1 a6;obtain ⟨e9,rfl,_,_,_,a1,q1,rfl,_⟩:=RdT.iff.1 a6;obtain ⟨f0,rfl,_,_,_,a2,q2,rfl,_⟩:=RdT.iff.1 b3;refine sW (v:=fun b=>.slice (some ⟨b,0,none⟩) 2 2) (o:=.cells #[.int .i64 t1.kind,.int .i64 t1.n,.string t1.name,.slice a1 t1.kids.length q1,.int .i64 t2.kind,.int .i64 t2.n,.string t2.name,.slice a2 t2.kids.length q2] ac) g (by kernel_rfl) fun b w' g=>?_;have g:Inv w [br] ([.blk b4 (.cells #[.int .i64 0,.int .i64 0,.string ⟨#[]⟩,.slice none 0 0] ac),rdI br sl p3]++[_]) S2 w':=g;obtain ⟨S3,g,Z,O⟩:=g.pub1;refine Run.call0E dP dO g (eE ⟨#[46]⟩ (by decide) (K7 O (a6.mono Z.1) (b3.mono Z.1)) (by simp)) fun v' I' S4 w'=>?_;rintro ⟨rfl,cs,rfl,l⟩ a5 g;refine al g 0 rfl ad (by simpa using l.length) rfl (by simpa using l.one) fun w' g=>?_;refine bp g 0 ad rfl (by simpa using l.length) ?_;refine ⟨_,_,S4,rfl,g.pick [false,true],(B.trans b6).trans (Z.trans a5),p3,by omega,rfl,_,_,rfl,l,?_,FG (by decide) (by simp only [cz]; exact ⟨c6,c7,trivial⟩)⟩;have e:(ByteArray.mk #[46]).size=1:=rfl;simp only [wT,wL,aO,cq,e];omega
 ·refine AZ g (by kernel_rfl) rfl (by omega) fun v S1 w' B hv g=>?_;refine Run.callL jj jf g (ur (p:=p1+1) (M.monoU B.1) hv (by decide) (by omega)) rfl fun v' I' S2 w'=>?_;rintro ⟨rfl,rfl,s,hs,rfl⟩ _ g;have hs:=zI (m:=3) hs (by decide);refine Run.call0E dP dO g (uV s (kq S2) (by simp)) fun v' I' S3 w'=>?_;rintro ⟨rfl,kv0,a7,rfl,rfl,c8⟩ Z g;refine aH g aM fun b5 w' g=>?_;obtain ⟨a0,n0,q0,rfl⟩:=g.rowSlice 2 rfl;refine al g 3 rfl ad rfl rfl (by simp [Value.oneCell']) fun w' g=>?_;obtain ⟨B4,c1⟩:∃ B4,B4=Item.blk b4 (.cells #[.int .i64 0,.int .i64 0,.string ⟨#[]⟩,.slice none 0 0] ac):=⟨_,rfl⟩
  have g:Inv w [br] [.blk b5 (.cells #[.int .i64 3,.int .i64 0,.string s,.slice a0 n0 q0] ac),aB (.slice a0 n0 q0) ac 4 a7,B4,rdI br sl (p1+2)] S3 w':=by
   rw [c1];exact ((g.last 2 rfl).last 0 rfl).last 0 rfl
  refine Al g (by kernel_rfl) rfl (by omega) fun v S4 w' a5 hv g=>?_;refine Run.callL gb gt g (mz (p:=p1+2) (M.monoU ((B.trans Z).trans a5).1) hv (by decide) (by omega)) rfl fun v' I' S5 w'=>?_;rintro ⟨rfl,rfl,n,hn,rfl⟩ _ g;have hn:=uk (a:=1) (b:=3) hn (by decide);have d0:Ext w.heap.size [br] S S5:=(B.trans Z).trans a5;refine ⟨fun t w'=>∃ (j p2:Nat) (S6:ag) (kv:Value) (css:List (List Value)) (ts:List T),cz 26 ts/\t=.int .i64 (j:Int)/\ts.length+j<=3/\Rows 4 (RdT S6) css ts/\wL ts+3 * ts.length<=ts.length * dW V/\p2+2 * ts.length<=p1+3+ts.length * dW V/\Ext w.heap.size [br] S S6/\
   Inv w [br] [.blk b5 (.cells #[.int .i64 3,.int .i64 0,.string s,kv] ac),aB kv ac 4 css,B4,rdI br sl p2] S6 w',fun t _=>(intOf t).toNat,
   ⟨n.toNat,p1+3,S5,_,a7,[],by simp only [cz],by rw [ol (by omega)],by simp; omega,c8.monoR fun _ _ h=>RdT.mono a5.1 h,by simp [wL],by simp,d0,g⟩,?_⟩
  intro t6 _ _ e0 e1 e2 e3 e4 e5 e6 e7 e8 _ _ w';rintro ⟨j,p2,S6,kv,css,ts,b7,rfl,hj,hR,a8,a9,b1,g⟩;have f2:=hR.hc;have hm:ts.length * dW V<=3 * dW V:=fH _ (by omega);refine fC ?_;refine aS (fun c9=>?_) (fun c9=>?_)
  ·obtain ⟨j',rfl⟩:∃ j',j=j'+1:=⟨j - 1,by omega⟩
   refine ⟨fun D yU yk tU rr rT pE rY oG oR w_=>Fx D 0 [oR=.pointer (some ⟨b5,3,none⟩),oG=kv,rY=rdP br,pE=.int .i64 ((V+1:Nat):Int),rT=.int .i64 (V:Int),True,True,True,yU=.pointer (some ⟨b5,3,none⟩),True]/\∃ Y:Nat,Y<=4/\D 5=decide (1<=Y)/\D 6=decide (2<=Y)/\D 7=decide (3<=Y)/\D 9=decide (4<=Y)/\(D 9=true->D 1=true)/\(ph (Inv w [br] [.blk b5 (.cells #[.int .i64 3,.int .i64 0,.string s,kv] ac),aB kv ac 4 css,B4,rdI br sl p2] S6 w_) (y8 w [br] b5 #[.int .i64 3,.int .i64 0,.string s,kv] 3 ac kv css (fun p=>[B4,rdI br sl p]) (fun cs p' S'=>∃ t,okU 26 t/\RdT S' cs t/\wT t+3<=dW V/\p'+2<=p2+dW V/\Ext w.heap.size [br] S6 S') rr tU yk w_) Y),⟨Fx.nil _ _,⟨0,aK _,rfl,rfl,rfl,rfl,(aY),g.draw⟩⟩,⟨?_,?_,?_,?_,?_,?_,?_,?_,?_,?_,trivial⟩,?_⟩;all_goals (intro D bw; intros; rename_i yU yk tU rr rT pE rY oG oR w_ b8; have N:=b8.1; obtain ⟨⟨cG,cf,cD,cF,bQ,cE,bZ,cL,dw,dl,_⟩,⟨Y,a4,C,G,J,r,U,O⟩⟩:=b8)
   ·refine au ay ?_;exact ⟨N.set 0 rfl,⟨Y,a4,C,G,J,r,U,O⟩⟩
   ·obtain rfl:=cG ‹_›;have c3:=Nx r U bw;refine dE ax ((JY (fun h=>h.cellL (i:=0) rfl) (fun n hn h=>F9 h hn) O c3).trans rfl) ?_;exact ⟨N.set 1 rfl,⟨Y,a4,C,G,J,r,(fun _=>rfl),O⟩⟩
   ·exact ⟨N.set 2 rfl,⟨Y,a4,C,G,J,r,U,O⟩⟩
   ·exact ⟨N.set 3 rfl,⟨Y,a4,C,G,J,r,U,O⟩⟩
   ·obtain rfl:=cF ‹_›;refine Gg (by omega) ?_;exact ⟨N.set 4 rfl,⟨Y,a4,C,G,J,r,U,O⟩⟩
   ·obtain rfl:=cD ‹_›;obtain rfl:=bQ ‹_›;obtain rfl:Y=0:=iI C bw;refine Run.callL lZ lz (L:=[.blk b5 _,aB _ ac 4 css,B4,rdI br sl p2]) O (ih p2 S6 (M.monoU b1.1) (by omega)) rfl fun v' I' S7 w_=>?_;rintro ⟨p3,b0,rfl,cs,t,rfl,l,b9,b2⟩ a3 g;exact ⟨N.set 5 (by first|assumption|trivial),⟨1,by decide,rfl,(by first|exact G|rfl),(by first|exact J|rfl),(by first|exact r|rfl),U,Gm ⟨t,b2,l,b9,b0,a3⟩ l g⟩⟩
   ·have Gv:=cE ‹_›;obtain rfl:Y=1:=gF C ‹D 5=true› G bw;refine ap1 O fun u w_ O=>?_;exact ⟨N.set 6 (by first|assumption|trivial),⟨2,by decide,(by first|exact C|rfl),rfl,(by first|exact J|rfl),(by first|exact r|rfl),U,O⟩⟩
   ·obtain rfl:=cf ‹_›;have BB:=bZ ‹_›;obtain rfl:Y=2:=gF G ‹D 6=true› J bw;refine ap2 O (by omega) fun u w_ O=>?_;exact ⟨N.set 7 (by first|assumption|trivial),⟨3,by decide,(by first|exact C|rfl),(by first|exact G|rfl),rfl,(by first|exact r|rfl),U,O⟩⟩
   ·refine au ay ?_;exact ⟨N.set 8 rfl,⟨Y,a4,C,G,J,r,U,O⟩⟩
   ·obtain rfl:=dw ‹_›;have Cs:=cL ‹_›;obtain rfl:Y=3:=gF J ‹D 7=true› r bw;refine ap3 O (by simp) fun w_ O=>?_;exact ⟨N.set 9 trivial,⟨4,by decide,(by first|exact C|rfl),(by first|exact G|rfl),(by first|exact J|rfl),rfl,(fun _=>‹D 1=true›),O⟩⟩
   obtain rfl:Y=4:=iH a4 r ‹D 9=true›;clear C G J r;obtain ⟨p3,S7,cs,⟨t,b2,l,b9,b0,a3⟩,hl,g⟩:=O;refine Gg (by omega) ?_;refine ⟨⟨j',p3,S7,_,_,ts++[t],Ia b7 (by simp only [cz]; exact ⟨b2,trivial⟩),rfl,by rw [bv]; simp only [aO,cq]; omega,(hR.monoR fun _ _ h=>RdT.mono a3.1 h).snoc l hl.1,?_,?_,b1.trans a3,g⟩,by simp only [intOf,eB]; omega⟩
   ·rw [mX,bv,aO,cq,gq];simp only [wL];omega
   ·rw [bv,aO,cq,gq];omega
  ·have g:Inv w [br] ([.blk b5 (.cells #[.int .i64 3,.int .i64 0,.string s,kv] ac),B4,rdI br sl p2]++[aB kv ac 4 css]) S6 w':=g.last 1 rfl;refine aq g 0 ad rfl rfl ?_;obtain ⟨S7,a3,c2,g⟩:=Inv.lendExt g;have c4:=RowRd.rows (hR.monoR fun _ _ h=>RdT.mono a3.1 h) c2;obtain ⟨a,q,rfl,_⟩:=id c4;subst c1;refine al g 1 rfl ad rfl rfl (by simp [Value.oneCell']) fun w' g=>?_;refine bp g 1 ad rfl rfl ?_;refine ⟨_,_,S7,rfl,g.pick [false,false,true],b1.trans a3,p2,?_,rfl,[.int .i64 3,.int .i64 0,.string s,_],.mk 3 0 s ts,rfl,RdT.iff.2 ⟨_,rfl,by simp [inI,T.kind],by simp [inI,T.n],by simp only [T.name,maxLen]; omega,c4⟩,?_,FG (by omega) b7⟩
   ·have:ts.length=0 ∨ ts.length=1 ∨ ts.length=2 ∨ ts.length=3:=by omega
    rcases this with h|h|h|h <;> rw [h] at a9 a8 <;> omega
   ·simp only [wT];have:ts.length=0 ∨ ts.length=1 ∨ ts.length=2 ∨ ts.length=3:=by omega
    rcases this with h|h|h|h <;> rw [h] at a9 a8 ⊢ <;> omega
theorem tP:∀ d:Nat,d<=4->K4 br sl ys d
 | 0,h=>Dw h fun a e=>by omega
 | d+1,h=>Dw h fun a e=>by
  obtain rfl:a=d:=by omega
  exact tP _ (by omega)
abbrev O8 (br:Nat) (sl:Value) (p k m:Nat):Value->List Item->ag->Prop:=fun v I' S'=>∃ p',p'<=p+k/\I'=[rdI br sl p']/\∃ cs t,v=.agg cs.toArray/\RdT S' cs t/\wT t<=m
theorem vz {p:Nat} {S:ag} (j:RdSl S 1 mc sl ys) (B:p<=400000000):Tri Tryz.prog Ky [rdP br] [rdI br sl p] S (O8 br sl p 500 500):=by
 intro w g;refine yh.2 ?_;dsimp only[yh,aQ];refine aH g aM fun r w' g=>?_;have g:Inv w [br] [.blk r (.cells #[.int .i64 0,.int .i64 0,.string ⟨#[]⟩,.slice none 0 0] ac),rdI br sl p] S w':=g.last 0 rfl;refine Al g (by kernel_rfl) rfl (by omega) fun v S1 w' i u g=>?_;refine Run.callL gb gt g (mz (p:=p) (j.monoU i.1) u (by decide) (by omega)) rfl fun v' I' S2 w'=>?_;rintro ⟨rfl,rfl,n,hn,rfl⟩ _ g;have hn:=uk (a:=1) (b:=4) hn (by decide);obtain ⟨m,rfl⟩:∃ m:Nat,n=m:=⟨n.toNat,by rw [ol (by omega)]⟩
 have D:dW m<=486:=by
  have:3 ^ m<=3 ^ 4:=Ke (by omega) (by omega);simp only [dW]; omega
 refine Run.callL lZ lz g (tP m (by omega) (p+1) S2 (j.monoU i.1) (by omega)) rfl fun v' I' S3 w'=>?_;rintro ⟨o,q,rfl,cs,t,rfl,h,C,_⟩ l g;refine al g 0 rfl ad (by simpa using h.length) rfl (by simpa using h.one) fun w' g=>?_;refine bp g 0 ad rfl (by simpa using h.length) ?_;exact ⟨_,_,S3,rfl,g.pick [false,true],i.trans l,o,by omega,rfl,cs,t,rfl,h,by omega⟩
end
end
section
open Go Go.RowKit
def xL (w:World) (b o:Nat):Nat:=match w.cell? ⟨b,o,none⟩ with
 | some (.slice _ n _)=>n
 | _=>0
theorem P3 {Q Q2 B:Prop} {R:Nat->Prop} (a:Q->B) (g:Q2->B) (i:∀ n,n<3->R n->B):∀ {n:Nat},ph Q (ph Q2 R) n->n<5->B
 | 0,h,_=>a h
 | 1,h,_=>g h
 | n+2,h,hn=>i n (by omega) h
theorem L5 {Q:Prop} {R:Nat->Prop} {n:Nat} (h:R n):ph Q R (n+1):=h
theorem Dy {Q:Prop} {R:Nat->Prop} {n:Nat} (h:ph Q R (n+1)):R n:=h
section
variable {w0 w:World} {X:List Nat} {L A:List Item} {S:ag} {K:Value->World->Prop} {P:Program}
attribute [local irreducible] Run CondV aC aU
theorem uy (h:Inv w0 X L S w) {i b o:Nat} {c:Array Value} {E:TypeId} {a:Option Addr} {n m:Nat} (g:L[i]?=some (.blk b (.cells c E))) (hc:c[o]?=some (.slice a n m)):xL w b o=n:=by
 rw [xL,h.cellL g,hc]
theorem tn {b:Nat} {k n:Int} {s:ByteArray} {kv:Value} {css:List (List Value)} {ks:List T} {o:Obj}
  (a:Inv w0 X (.blk b o::aB kv ac 4 css::A) S w) (hR:Rows 4 (RdT S) css ks) (hk:inI k) (hn:inI n) (l:s.size<=maxLen) :
  ∃ S',Ext w0.heap.size X S S'/\Inv w0 X (.blk b o::A) S' w/\RdT S' [.int .i64 k,.int .i64 n,.string s,kv] (.mk k n s ks)/\RdSl S' 4 (RdT S') kv ks:=by
 have a:Inv w0 X ((.blk b o::A)++[aB kv ac 4 css]) S w:=a.last 1 rfl;obtain ⟨S',j,i,a⟩:=Inv.lendExt a;have g:=RowRd.rows (hR.monoR fun _ _ h=>RdT.mono j.1 h) i;exact ⟨S',j,a,RdT.iff.2 ⟨_,rfl,hk,hn,l,g⟩,g⟩
end
section
variable {br:Nat} {sl:Value} {ys:List Nat}
attribute [local irreducible] Run CondV aC aU
theorem pB {p:Nat} {S:ag} {cs:List Value} {t:T} (a5:RdSl S 1 mc sl ys) (h:RdT S cs t) (hw:wT t<=100000) (hp:p<=400000000) :
  Tri Tryz.prog EL [rdP br,.agg cs.toArray] [rdI br sl p] S (O8 br sl p 2 (wT t+100)):=by
 intro w g;have h0:=h;obtain ⟨kv0,rfl,hk,hn,hs,e3⟩:=RdT.iff.1 h;refine ro.2 ?_;dsimp only[ro,bm];refine bH g fun b3 w' g=>?_;refine aH g aM fun b4 w' g=>?_;refine aq g 1 ad rfl rfl ?_;refine Run.call0E gv gd g (MP t S _ h0 (by omega)) fun v' I' S1 w'=>?_;rintro ⟨kv,css,rfl,rfl,hR⟩ B g;have B:Ext w.heap.size [br] S S1:=B;obtain ⟨a0,n0,q0,rfl⟩:=g.rowSlice 3 rfl;refine aH g aM fun Y w' g=>?_;refine al g 4 rfl ad rfl rfl (by simp [Value.oneCell']) fun w' g=>?_;obtain ⟨B4,b9⟩:∃ B4,B4=Item.blk b4 (.cells #[.int .i64 0,.int .i64 0,.string ⟨#[]⟩,.slice none 0 0] ac):=⟨_,rfl⟩
 obtain ⟨k,a9⟩:∃ k,k=t.kind:=⟨_,rfl⟩
 obtain ⟨n,b0⟩:∃ n,n=t.n:=⟨_,rfl⟩
 obtain ⟨s,a6⟩:∃ s,s=t.name:=⟨_,rfl⟩
 have d0:wT t=s.size+t.kids.length+wL t.kids:=by rw [a6]; cases t; rw [wT]; rfl
 rw [<- a9,<- b0,<- a6] at g;rw [<- a9] at hk;rw [<- b0] at hn;rw [<- a6] at hs;have g:Inv w [br] [.blk Y (.cells #[.int .i64 k,.int .i64 n,.string s,.slice a0 n0 q0] ac),aB (.slice a0 n0 q0) ac 4 css,B4,rdI br sl p] S1 w':=by
  rw [b9];exact (((g.pick [true,false,true,true,true]).last 2 rfl).last 1 rfl).last 0 rfl
 refine ⟨fun w'=>∃ (p1:Nat) (S2:ag) (r:List Value) (t1:T),p1<=p+2/\Ext w.heap.size [br] S S2/\RdT S2 r t1/\wT t1<=wT t+100/\Inv w [br] [.blk Y (.cells r.toArray ac),B4,rdI br sl p1] S2 w',?_,?_⟩
 ·have V:∀ {k n:Int} {s1:ByteArray} {p1:Nat} {w':World} {S1:ag} {css:List (List Value)} {kv:Value} {ks:List T},Ext w.heap.size [br] S S1->p1<=p+2->inI k->inI n->s1.size<=s.size+7->Rows 4 (RdT S1) css ks->ks.length<=t.kids.length+5->wL ks<=wL t.kids->
    Inv w [br] [.blk Y (.cells #[.int .i64 k,.int .i64 n,.string s1,kv] ac),aB kv ac 4 css,B4,rdI br sl p1] S1 w'->
    ∃ (p1:Nat) (S2:ag) (r:List Value) (t1:T),p1<=p+2/\Ext w.heap.size [br] S S2/\RdT S2 r t1/\wT t1<=wT t+100/\Inv w [br] [.blk Y (.cells r.toArray ac),B4,rdI br sl p1] S2 w':=by
   intro k n s1 p1 w' S1 css kv ks hE a8 hk hn d3 hR b1 b2 g;obtain ⟨S2,O,g,G,_⟩:=tn (s:=s1) g hR hk hn (by simp only [maxLen]; omega);exact ⟨p1,S2,_,_,a8,hE.trans O,G,by rw [wT,d0]; omega,g⟩
  refine Run.callL dt dv g (fi (n:=50) (a5.monoU B.1) (by omega) (by omega)) rfl fun v' I' S1 w'=>?_;rintro ⟨rfl,rfl,kk,d4,rfl⟩ _ g;refine bn ?_;refine aS (fun _=>?_) (fun _=>?_)
  ·refine Al g (by kernel_rfl) rfl (by omega) fun v S3 w' l hv g=>?_;refine Run.callL gb gt g (mz (p:=p+1) (a5.monoU (B.trans l).1) hv (by decide) (by omega)) rfl fun v' I' S3 w'=>?_;rintro ⟨rfl,rfl,m,hm,rfl⟩ _ g;have hm:=uk (a:=-1000) (b:=1000) hm (by decide);refine dG g 0 rfl bb aw rfl rfl rfl fun w' g=>?_;exact V (B.trans l) (be _) (by simp only [inI]; omega) hn (by omega) (hR.monoR fun _ _ h=>RdT.mono l.1 h) (by omega) (be _) g
  refine bn ?_;refine aS (fun _=>?_) (fun _=>?_)
  ·refine Al g (by kernel_rfl) rfl (by omega) fun v S3 w' l hv g=>?_;refine Run.callL gb gt g (mz (p:=p+1) (a5.monoU (B.trans l).1) hv (by decide) (by omega)) rfl fun v' I' S3 w'=>?_;rintro ⟨rfl,rfl,m,hm,rfl⟩ _ g;have hm:=uk (a:=-1000) (b:=1000) hm (by decide);refine dG g 0 rfl aV aw rfl rfl rfl fun w' g=>?_;exact V (B.trans l) (be _) hk (by simp only [inI]; omega) (by omega) (hR.monoR fun _ _ h=>RdT.mono l.1 h) (by omega) (be _) g
  refine bn ?_;refine aS (fun _=>?_) (fun _=>?_)
  ·refine AZ g (by kernel_rfl) rfl (by omega) fun v S3 w' l hv g=>?_;refine Run.callL jj jf g (ur (p:=p+1) (a5.monoU (B.trans l).1) hv (by decide) (by omega)) rfl fun v' I' S3 w'=>?_;rintro ⟨rfl,rfl,m,hm,rfl⟩ _ g;have hm:=zI (m:=7) hm (by decide);refine dG g 0 rfl bk aZ rfl rfl rfl fun w' g=>?_;exact V (B.trans l) (be _) hk hn (by omega) (hR.monoR fun _ _ h=>RdT.mono l.1 h) (by omega) (be _) g
  refine bn ?_;refine aS (fun _=>?_) (fun _=>?_)
  ·refine ⟨fun w'=>∃ (S2:ag) (kv:Value) (css:List (List Value)) (ks:List T),Ext w.heap.size [br] S S2/\Rows 4 (RdT S2) css ks/\ks.length<=t.kids.length+5/\wL ks<=wL t.kids/\
     Inv w [br] [.blk Y (.cells #[.int .i64 k,.int .i64 n,.string s,kv] ac),aB kv ac 4 css,B4,rdI br sl (p+1)] S2 w',fun w'=>5 - xL w' Y 3,⟨S1,_,css,t.kids,B,hR,by omega,be _,g⟩,?_⟩
   intro d6 d7 d9 e0 e1 e2 _ _ _ _ w';rintro ⟨S2,kv,css,ks,O,hR,b1,b2,g⟩;obtain ⟨a1,n1,q1,rfl,c8⟩:∃ a m c,kv=.slice a m c/\m=ks.length:=by
    obtain ⟨S',_,_,_,G⟩:=tn g hR hk hn hs;obtain ⟨a,q,rfl,_⟩:=G;exact ⟨a,_,q,rfl,rfl⟩
   subst c8;have d1:=uy g (i:=0) (o:=3) rfl rfl;have e4:=hR.hc;refine ah g 0 rfl ay ax rfl ?_;refine iN ao ?_;refine fY ?_;refine aS (fun c6=>?_) (fun c6=>?_)
   ·have g:=g;refine ⟨fun D Aq xZ qe s0 ra xp w_=>Fx D 0 [xp=.pointer (some ⟨Y,3,none⟩),ra=.slice a1 ks.length q1,True,True,True,Aq=.pointer (some ⟨Y,3,none⟩),True]/\∃ Z:Nat,Z<=4/\D 2=decide (1<=Z)/\D 3=decide (2<=Z)/\D 4=decide (3<=Z)/\D 6=decide (4<=Z)/\(D 6=true->D 1=true)/\(ph (Inv w [br] [.blk Y (.cells #[.int .i64 k,.int .i64 n,.string s,.slice a1 ks.length q1] ac),aB (.slice a1 ks.length q1) ac 4 css,B4,rdI br sl (p+1)] S2 w_) (y8 w [br] Y #[.int .i64 k,.int .i64 n,.string s,.slice a1 ks.length q1] 3 ac (.slice a1 ks.length q1) css (fun p=>[B4,rdI br sl (p+1)]) (fun cs p' S'=>p'=p/\S'=S2/\RdT S2 cs (.mk 2 1 emptyB [])) s0 qe xZ w_) Z),⟨Fx.nil _ _,⟨0,aK _,rfl,rfl,rfl,rfl,(aY),g.draw⟩⟩,⟨?_,?_,?_,?_,?_,?_,?_,trivial⟩,?_⟩;all_goals (intro D bw; intros; rename_i Aq xZ qe s0 ra xp w_ b6; have a2:=b6.1; obtain ⟨⟨cG,cf,cD,cF,bQ,cE,bZ,_⟩,⟨Z,a7,J,M,N,C,a3,U⟩⟩:=b6)
    ·refine au ay ?_;exact ⟨a2.set 0 rfl,⟨Z,a7,J,M,N,C,a3,U⟩⟩
    ·obtain rfl:=cG ‹_›;have c2:=Nx C a3 bw;refine dE ax ((JY (fun h=>h.cellL (i:=0) rfl) (fun n hn h=>F9 h hn) U c2).trans rfl) ?_;exact ⟨a2.set 1 rfl,⟨Z,a7,J,M,N,C,(fun _=>rfl),U⟩⟩
    ·obtain rfl:Z=0:=iI J bw;refine Run.callPure sH sD (L:=[.blk Y _,aB _ ac 4 css,B4,rdI br sl (p+1)]) U (l6 1 S2) fun w_ g=>?_;exact ⟨a2.set 2 (by first|assumption|trivial),⟨1,by decide,rfl,(by first|exact M|rfl),(by first|exact N|rfl),(by first|exact C|rfl),a3,Gm ⟨rfl,rfl,uU (by simp [inI]) (by simp [inI])⟩ (uU (by simp [inI]) (by simp [inI])) g⟩⟩
    ·have RP:=cD ‹_›;obtain rfl:Z=1:=gF J ‹D 2=true› M bw;refine ap1 U fun u w_ U=>?_;exact ⟨a2.set 3 (by first|assumption|trivial),⟨2,by decide,(by first|exact J|rfl),rfl,(by first|exact N|rfl),(by first|exact C|rfl),a3,U⟩⟩
    ·obtain rfl:=cf ‹_›;have Sx:=cF ‹_›;obtain rfl:Z=2:=gF M ‹D 3=true› N bw;refine ap2 U (by omega) fun u w_ U=>?_;exact ⟨a2.set 4 (by first|assumption|trivial),⟨3,by decide,(by first|exact J|rfl),(by first|exact M|rfl),rfl,(by first|exact C|rfl),a3,U⟩⟩
    ·refine au ay ?_;exact ⟨a2.set 5 rfl,⟨Z,a7,J,M,N,C,a3,U⟩⟩
    ·obtain rfl:=cE ‹_›;have GE:=bQ ‹_›;obtain rfl:Z=3:=gF N ‹D 4=true› C bw;refine ap3 U (by simp) fun w_ U=>?_;exact ⟨a2.set 6 trivial,⟨4,by decide,(by first|exact J|rfl),(by first|exact M|rfl),(by first|exact N|rfl),rfl,(fun _=>‹D 1=true›),U⟩⟩
    obtain rfl:Z=4:=iH a7 C ‹D 6=true›;clear J M N C;obtain ⟨p3,S7,cs,⟨rfl,rfl,c9⟩,hl,g⟩:=U;have c3:=hR.snoc c9 hl.1;refine ⟨⟨S7,_,_,_,O,c3,by rw [bv]; simp only [aO,cq]; omega,by rw [mX]; have e:emptyB.size=0:=rfl; simp only [wL,wT,cq,e]; omega,g⟩,?_⟩;obtain ⟨S',_,_,_,G⟩:=tn g c3 hk hn hs;obtain ⟨a,q,e,_⟩:=G;have d2:=uy g (i:=0) (o:=3) (a:=a) (n:=(ks++[T.mk 2 1 emptyB []]).length) (m:=q) rfl (by rw [<- e]; rfl);show 5 - xL w_ Y 3<5 - xL w' Y 3;rw [d1,d2,bv,aO,cq];omega
   ·exact V O (by omega) hk hn (by omega) hR b1 b2 g
  refine bn ?_;refine aS (fun _=>?_) (fun _=>?_)
  ·obtain ⟨S2,O,g,G,_⟩:=tn g hR hk hn hs;have g:Inv w [br] [.blk Y (.cells #[.int .i64 k,.int .i64 n,.string s,.slice a0 n0 q0] ac),B4,rdI br sl (p+1)] S2 w':=g;have ht:T.mk k n s t.kids=t:=by rw [a9,b0,a6]; cases t; rfl
   rw [ht] at G;refine ⟨fun t6 w'=>∃ (j:Nat) (S3:ag) (r:List Value) (t1:T),t6=.int .i64 (j:Int)/\j<=30/\Ext w.heap.size [br] S S3/\RdT S3 r t1/\wT t1<=wT t+2 * j/\Inv w [br] [.blk Y (.cells r.toArray ac),B4,rdI br sl (p+1)] S3 w',fun t6 _=>30 - (intOf t6).toNat,
    ⟨0,S2,_,t,rfl,by omega,B.trans O,G,by omega,g⟩,?_⟩
   intro t6 _ _ _ _ _ _ _ w';rintro ⟨j,S3,r,t1,rfl,hj,l,G,b7,g⟩;refine cu ?_;refine aS (fun c7=>?_) (fun c7=>?_)
   ·refine aq g 0 ad rfl (by simpa using G.length) ?_;refine eQ g bA (by simp [Value.cells,G.length]) (by omega) (by omega) fun b8 w' g=>?_;obtain ⟨S4,g,c1,U⟩:=g.pub1;refine Run.call0E dP dO g (eE ⟨#[115]⟩ (by decide) (RB U (G.mono c1.1)) (by simp)) fun v' I' S5 w'=>?_;rintro ⟨rfl,c4,rfl,a4⟩ c5 g;have g:Inv w [br] [.blk Y (.cells r.toArray ac),B4,rdI br sl (p+1)] S5 w':=by simpa using g
    refine al g 0 rfl ad (by simpa using a4.length) (by simpa using G.length) (by simpa using a4.one) fun w' g=>?_;refine bF (by omega) ?_;have e:(ByteArray.mk #[115]).size=1:=rfl;exact ⟨⟨j+1,S5,c4,_,rfl,by omega,l.trans (c1.trans c5),a4,by simp only [wT,wL,aO,cq,e]; omega,g⟩,by simp only [intOf,eB]; omega⟩
   ·exact ⟨p+1,S3,r,t1,by omega,l,G,by omega,g⟩
  ·exact V B (by omega) hk hn (by omega) hR (by omega) (be _) g
 intro _ _ _ _ _ _ _ _ _ _ _ _ _ _ _ _ _ _ _ _ _ _ _ _ _ _ _ _ _ _ _ _ _ _ _ _ _ _ _ _ _ _ w';rintro ⟨p1,S2,r,t1,a8,O,G,b7,g⟩;subst b9;refine aq g 0 ad rfl (by simpa using G.length) ?_;refine al g 1 rfl ad (by simpa using G.length) rfl (by simpa using G.one) fun w' g=>?_;refine bp g 1 ad rfl (by simpa using G.length) ?_;exact ⟨_,_,S2,rfl,g.pick [false,false,true],O,p1,a8,rfl,r,t1,rfl,G,b7⟩
end
end
section
open Go Go.RowKit
section
variable {w0 w:World} {X:List Nat} {L A:List Item} {S:ag} {K:Value->World->Prop} {P:Program}
theorem BK {b:Nat} {i:List Value} {h:T} {kv:Value} {css:List (List Value)} {ks:List T} {o:Obj}
  (a:Inv w0 X (.blk b o::aB kv ac 4 css::A) S w) (hR:Rows 4 (RdT S) css ks) (m:RdT S i h) :
  ∃ S',Ext w0.heap.size X S S'/\Inv w0 X (.blk b o::A) S' w/\RdC S' (i++[kv]) ⟨h,ks⟩/\RdSl S' 4 (RdT S') kv ks:=by
 have a:Inv w0 X ((.blk b o::A)++[aB kv ac 4 css]) S w:=a.last 1 rfl;obtain ⟨S',j,l,a⟩:=Inv.lendExt a;have g:=RowRd.rows (hR.monoR fun _ _ h=>RdT.mono j.1 h) l;exact ⟨S',j,a,⟨i,kv,rfl,m.mono j.1,g⟩,g⟩
end
abbrev R0 (br:Nat) (sl:Value) (p k m:Nat):Value->List Item->ag->Prop:=fun v I' S'=>∃ p',p'<=p+k/\I'=[rdI br sl p']/\∃ cs c,v=.agg cs.toArray/\RdC S' cs c/\wC c<=m
section
variable {br:Nat} {sl:Value} {ys:List Nat}
attribute [local irreducible] Run CondV aC aU
theorem Bv {p:Nat} {S:ag} {cs:List Value} {c:C} (a8:RdSl S 1 mc sl ys) (h:RdC S cs c) (hw:wC c<=100000) (hp:p<=90000000) :
  Tri Tryz.prog FW [rdP br,.agg cs.toArray] [rdI br sl p] S (R0 br sl p 600 (wC c+700)):=by
 intro w g;have d7:=h.length;refine rK.2 ?_;dsimp only[rK,bm];refine bH g fun b3 w' g=>?_;refine aH g dn fun b4 w' g=>?_;refine aq g 1 aN rfl (by simpa [Value.cells] using d7) ?_;refine Run.call0E xF yv g (Ne h (by omega)) fun v' I' S1 w'=>?_;rintro ⟨hd,kv,css,rfl,a7,rfl,hR⟩ U g;have U:Ext w.heap.size [br] S S1:=U;obtain ⟨a0,n0,q0,rfl⟩:=g.rowSlice 3 rfl;have a4:=a7;obtain ⟨k4,rfl,hk,hn,hs,_⟩:=RdT.iff.1 a7;obtain ⟨ak,nk,ck,d3⟩:∃ a n c,k4=.slice a n c:=by
  obtain ⟨_,e,_,_,_,a,q,rfl,_⟩:=RdT.iff.1 a4;simp only [rD,and_true,sa] at e;exact ⟨_,_,_,e⟩
 subst d3;refine aH g dn fun b5 w' g=>?_;refine al g 4 rfl aN rfl rfl (by simp [Value.oneCell']) fun w' g=>?_;obtain ⟨B4,c6⟩:∃ B4,B4=Item.blk b4 (.cells #[.int .i64 0,.int .i64 0,.string ⟨#[]⟩,.slice none 0 0,.slice none 0 0] ai):=⟨_,rfl⟩
 have g:Inv w [br] [.blk b5 (.cells #[.int .i64 c.head.kind,.int .i64 c.head.n,.string c.head.name,.slice ak nk ck,.slice a0 n0 q0] ai),aB (.slice a0 n0 q0) ac 4 css,B4,rdI br sl p] S1 w':=by
  rw [c6];exact (((g.pick [true,false,true,true,true]).last 2 rfl).last 1 rfl).last 0 rfl
 have f7:wC c=wT c.head+c.body.length+wL c.body:=rfl;refine ⟨fun w'=>∃ (p1:Nat) (S2:ag) (a6:List Value) (c1:C),p1<=p+600/\Ext w.heap.size [br] S S2/\RdC S2 a6 c1/\wC c1<=wC c+700/\Inv w [br] [.blk b5 (.cells a6.toArray ai),B4,rdI br sl p1] S2 w',?_,?_⟩
 ·have a5:∀ {hd:List Value} {h:T} {p1:Nat} {w':World} {S1:ag} {css:List (List Value)} {kv:Value} {ks:List T},Ext w.heap.size [br] S S1->p1<=p+600->RdT S1 hd h->Rows 4 (RdT S1) css ks->wT h+ks.length+wL ks<=wC c+700->
    Inv w [br] [.blk b5 (.cells (hd++[kv]).toArray ai),aB kv ac 4 css,B4,rdI br sl p1] S1 w'->
    ∃ (p1:Nat) (S2:ag) (a6:List Value) (c1:C),p1<=p+600/\Ext w.heap.size [br] S S2/\RdC S2 a6 c1/\wC c1<=wC c+700/\Inv w [br] [.blk b5 (.cells a6.toArray ai),B4,rdI br sl p1] S2 w':=by
   intro hd h p1 w' S1 css kv ks hE b7 hh hR c9 g;obtain ⟨S2,O,g,hr,_⟩:=BK g hR hh;exact ⟨p1,S2,_,_,b7,hE.trans O,hr,c9,g⟩
  refine Run.callL dt dv g (fi (n:=40) (a8.monoU U.1) (by omega) (by omega)) rfl fun v' I' S1 w'=>?_;rintro ⟨rfl,rfl,kk,e6,rfl⟩ _ g;refine bn ?_;refine aS (fun _=>?_) (fun _=>?_)
  ·refine Run.callL xM yj g (vz (p:=p+1) (a8.monoU U.1) (by omega)) rfl fun v' I' S2 w'=>?_;rintro ⟨p2,c3,rfl,b8,t2,rfl,a9,b9⟩ O g;refine Run.callL rM rL g (pB (p:=p2) (a8.monoU (U.trans O).1) a9 (by omega) (by omega)) rfl fun v' I' S3 w'=>?_;rintro ⟨p3,c4,rfl,c5,t3,rfl,b0,d0⟩ Y g;have c7:=b0;obtain ⟨k3,rfl,_,_,_,a3,q3,rfl,_⟩:=RdT.iff.1 b0;refine au cC ?_;refine N8 g 0 rfl ad rfl rfl (by simp [Value.cells,Value.oneCell']) fun w' g=>?_;exact a5 ((U.trans O).trans Y) (by omega) c7 (hR.monoR fun _ _ h=>RdT.mono (O.trans Y).1 h) (by omega) g
  refine bn ?_;refine aS (fun _=>?_) (fun _=>?_)
  ·have d9:=hR.hc;have g:=g;refine ⟨fun D DL tq io pT rU ry oQ nq pX w_=>Fx D 0 [pX=.pointer (some ⟨b5,4,none⟩),nq=.slice a0 n0 q0,oQ=rdP br,ry=rdP br,True,True,True,True,DL=.pointer (some ⟨b5,4,none⟩),True]/\∃ J:Nat,J<=5/\D 4=decide (1<=J)/\D 5=decide (2<=J)/\D 6=decide (3<=J)/\D 7=decide (4<=J)/\D 9=decide (5<=J)/\(D 9=true->D 1=true)/\(ph (Inv w [br] [.blk b5 (.cells #[.int .i64 c.head.kind,.int .i64 c.head.n,.string c.head.name,.slice ak nk ck,.slice a0 n0 q0] ai),aB (.slice a0 n0 q0) ac 4 css,B4,rdI br sl (p+1)] S1 w_) (ph (∃ p1 S2 cs t,rU=.agg cs.toArray/\RdT S2 cs t/\wT t<=500/\p1<=p+501/\Ext w.heap.size [br] S1 S2/\Inv w [br] [.blk b5 (.cells #[.int .i64 c.head.kind,.int .i64 c.head.n,.string c.head.name,.slice ak nk ck,.slice a0 n0 q0] ai),aB (.slice a0 n0 q0) ac 4 css,B4,rdI br sl p1] S2 w_) (y8 w [br] b5 #[.int .i64 c.head.kind,.int .i64 c.head.n,.string c.head.name,.slice ak nk ck,.slice a0 n0 q0] 4 ai (.slice a0 n0 q0) css (fun p=>[B4,rdI br sl p]) (fun cs p' S'=>∃ t,RdT S' cs t/\wT t<=600/\p'<=p+503/\Ext w.heap.size [br] S1 S') pT io tq w_)) J),⟨Fx.nil _ _,⟨0,aK _,rfl,rfl,rfl,rfl,rfl,(aY),g.draw⟩⟩,⟨?_,?_,?_,?_,?_,?_,?_,?_,?_,?_,trivial⟩,?_⟩;all_goals (intro D bw; intros; rename_i DL tq io pT rU ry oQ nq pX w_ b1; have G:=b1.1; obtain ⟨⟨cG,cf,cD,cF,bQ,cE,bZ,cL,dw,dl,_⟩,⟨J,Z,l,r,B,j,V,N,M⟩⟩:=b1)
   ·refine au bC ?_;exact ⟨G.set 0 rfl,⟨J,Z,l,r,B,j,V,N,M⟩⟩
   ·obtain rfl:=cG ‹_›;have b2:=Nx V N bw;refine dE ax ((P3 (fun h=>h.cellL (i:=0) rfl) (fun ⟨_,_,_,_,_,_,_,_,_,h⟩=>h.cellL (i:=0) rfl) (fun n hn h=>F9 h hn) M b2).trans rfl) ?_;exact ⟨G.set 1 rfl,⟨J,Z,l,r,B,j,V,(fun _=>rfl),M⟩⟩
   ·exact ⟨G.set 2 rfl,⟨J,Z,l,r,B,j,V,N,M⟩⟩
   ·exact ⟨G.set 3 rfl,⟨J,Z,l,r,B,j,V,N,M⟩⟩
   ·obtain rfl:=cF ‹_›;obtain rfl:J=0:=iI l bw;refine Run.callL xM yj (L:=[.blk b5 _,aB _ ac 4 css,B4,rdI br sl (p+1)]) M (vz (p:=p+1) (a8.monoU U.1) (by omega)) rfl fun v' I' S2 w_=>?_;rintro ⟨p2,c3,rfl,b8,t2,rfl,a9,b9⟩ O g;exact ⟨G.set 4 (by first|assumption|trivial),⟨1,by decide,rfl,(by first|exact r|rfl),(by first|exact B|rfl),(by first|exact j|rfl),(by first|exact V|rfl),N,⟨p2,S2,b8,t2,rfl,a9,b9,by omega,O,g⟩⟩⟩
   ·obtain rfl:=cD ‹_›;have GE:=bQ ‹_›;obtain rfl:J=1:=gF l ‹D 4=true› r bw;obtain ⟨p2,S2,b8,t2,rfl,a9,b9,c3,O,g⟩:=Dy M;refine Run.callL rM rL (L:=[.blk b5 _,aB _ ac 4 css,B4,rdI br sl p2]) g (pB (p:=p2) (a8.monoU (U.trans O).1) a9 (by omega) (by omega)) rfl fun v' I' S3 w_=>?_;rintro ⟨p3,c4,rfl,c5,t3,rfl,b0,d0⟩ Y g;exact ⟨G.set 5 (by first|assumption|trivial),⟨2,by decide,(by first|exact l|rfl),rfl,(by first|exact B|rfl),(by first|exact j|rfl),(by first|exact V|rfl),N,L5 (Gm ⟨t3,b0,by omega,by omega,O.trans Y⟩ b0 g)⟩⟩
   ·have Gv:=cE ‹_›;obtain rfl:J=2:=gF r ‹D 5=true› B bw;refine ap1 (Dy M) fun u w_ M=>?_;exact ⟨G.set 6 (by first|assumption|trivial),⟨3,by decide,(by first|exact l|rfl),(by first|exact r|rfl),rfl,(by first|exact j|rfl),(by first|exact V|rfl),N,L5 M⟩⟩
   ·obtain rfl:=cf ‹_›;have BB:=bZ ‹_›;obtain rfl:J=3:=gF B ‹D 6=true› j bw;refine ap2 (Dy M) (by omega) fun u w_ M=>?_;exact ⟨G.set 7 (by first|assumption|trivial),⟨4,by decide,(by first|exact l|rfl),(by first|exact r|rfl),(by first|exact B|rfl),rfl,(by first|exact V|rfl),N,L5 M⟩⟩
   ·refine au bC ?_;exact ⟨G.set 8 rfl,⟨J,Z,l,r,B,j,V,N,M⟩⟩
   ·obtain rfl:=dw ‹_›;have Cs:=cL ‹_›;obtain rfl:J=4:=gF j ‹D 7=true› V bw;refine ap3 (Dy M) (by simp) fun w_ M=>?_;exact ⟨G.set 9 trivial,⟨5,by decide,(by first|exact l|rfl),(by first|exact r|rfl),(by first|exact B|rfl),(by first|exact j|rfl),rfl,(fun _=>‹D 1=true›),L5 M⟩⟩
   obtain rfl:J=5:=iH Z V ‹D 9=true›;clear l r B j V;obtain ⟨p3,S7,cs,⟨t,c2,f6,c4,a2⟩,hl,g⟩:=Dy (Dy M);exact a5 (U.trans a2) (by omega) (a4.mono a2.1) ((hR.monoR fun _ _ h=>RdT.mono a2.1 h).snoc c2 hl.1) (by rw [mX,bv,aO,cq]; simp only [wL]; omega) g
  refine bn ?_;refine aS (fun _=>?_) (fun _=>?_)
  ·refine ⟨fun w'=>∃ (S2:ag) (kv:Value) (css:List (List Value)) (ks:List T),Ext w.heap.size [br] S S2/\Rows 4 (RdT S2) css ks/\ks.length<=c.body.length+7/\wL ks+4 * (7 - (ks.length - c.body.length))<=wL c.body+28/\c.body.length<=ks.length/\
     RdT S2 [.int .i64 c.head.kind,.int .i64 c.head.n,.string c.head.name,.slice ak nk ck] c.head/\
     Inv w [br] [.blk b5 (.cells #[.int .i64 c.head.kind,.int .i64 c.head.n,.string c.head.name,.slice ak nk ck,kv] ai),aB kv ac 4 css,B4,rdI br sl (p+1)] S2 w',fun w'=>7 - xL w' b5 4,⟨S1,_,css,c.body,U,hR,by omega,by omega,by omega,a4,g⟩,?_⟩
   intro e7 e8 e9 f0 f1 f2 _ _ _ _ w';rintro ⟨S2,kv,css,ks,O,hR,f3,f4,f5,a7,g⟩;obtain ⟨a1,n1,q1,rfl,d4⟩:∃ a m c,kv=.slice a m c/\m=ks.length:=by
    obtain ⟨S',_,_,_,hr⟩:=BK g hR a7;obtain ⟨a,q,rfl,_⟩:=hr;exact ⟨a,_,q,rfl,rfl⟩
   subst d4;have e0:=uy g (i:=0) (o:=4) rfl rfl;have d9:=hR.hc;refine ah g 0 rfl bC ax rfl ?_;refine iN ao ?_;refine fY ?_;refine aS (fun d2=>?_) (fun d2=>?_)
   ·have g:=g;refine ⟨fun D xZ qe s0 ra xp z4 w_=>Fx D 0 [z4=.pointer (some ⟨b5,4,none⟩),xp=.slice a1 ks.length q1,True,True,True,xZ=.pointer (some ⟨b5,4,none⟩),True]/\∃ J:Nat,J<=4/\D 2=decide (1<=J)/\D 3=decide (2<=J)/\D 4=decide (3<=J)/\D 6=decide (4<=J)/\(D 6=true->D 1=true)/\(ph (Inv w [br] [.blk b5 (.cells #[.int .i64 c.head.kind,.int .i64 c.head.n,.string c.head.name,.slice ak nk ck,.slice a1 ks.length q1] ai),aB (.slice a1 ks.length q1) ac 4 css,B4,rdI br sl (p+1)] S2 w_) (y8 w [br] b5 #[.int .i64 c.head.kind,.int .i64 c.head.n,.string c.head.name,.slice ak nk ck,.slice a1 ks.length q1] 4 ai (.slice a1 ks.length q1) css (fun p=>[B4,rdI br sl (p+1)]) (fun cs p' S'=>p'=p/\Ext w.heap.size [br] S2 S'/\RdT S' cs (.mk 3 0 ⟨#[116,114,117,101]⟩ [])) ra s0 qe w_) J),⟨Fx.nil _ _,⟨0,aK _,rfl,rfl,rfl,rfl,(aY),g.draw⟩⟩,⟨?_,?_,?_,?_,?_,?_,?_,trivial⟩,?_⟩;all_goals (intro D bw; intros; rename_i xZ qe s0 ra xp z4 w_ b1; have G:=b1.1; obtain ⟨⟨cG,cf,cD,cF,bQ,cE,bZ,_⟩,⟨J,Z,l,r,B,j,N,M⟩⟩:=b1)
    ·refine au bC ?_;exact ⟨G.set 0 rfl,⟨J,Z,l,r,B,j,N,M⟩⟩
    ·obtain rfl:=cG ‹_›;have b2:=Nx j N bw;refine dE ax ((JY (fun h=>h.cellL (i:=0) rfl) (fun n hn h=>F9 h hn) M b2).trans rfl) ?_;exact ⟨G.set 1 rfl,⟨J,Z,l,r,B,j,(fun _=>rfl),M⟩⟩
    ·obtain rfl:J=0:=iI l bw;refine Run.call0E dP dO (L:=[.blk b5 _,aB _ ac 4 css,B4,rdI br sl (p+1)]) M (eE ⟨#[116,114,117,101]⟩ (by decide) (kq S2) (by simp)) fun v' I' S3 w_=>?_;rintro ⟨rfl,c5,rfl,b6⟩ Y g;exact ⟨G.set 2 (by first|assumption|trivial),⟨1,by decide,rfl,(by first|exact r|rfl),(by first|exact B|rfl),(by first|exact j|rfl),N,Gm ⟨rfl,Y,b6⟩ b6 g⟩⟩
    ·have RP:=cD ‹_›;obtain rfl:J=1:=gF l ‹D 2=true› r bw;refine ap1 M fun u w_ M=>?_;exact ⟨G.set 3 (by first|assumption|trivial),⟨2,by decide,(by first|exact l|rfl),rfl,(by first|exact B|rfl),(by first|exact j|rfl),N,M⟩⟩
    ·obtain rfl:=cf ‹_›;have Sx:=cF ‹_›;obtain rfl:J=2:=gF r ‹D 3=true› B bw;refine ap2 M (by omega) fun u w_ M=>?_;exact ⟨G.set 4 (by first|assumption|trivial),⟨3,by decide,(by first|exact l|rfl),(by first|exact r|rfl),rfl,(by first|exact j|rfl),N,M⟩⟩
    ·refine au bC ?_;exact ⟨G.set 5 rfl,⟨J,Z,l,r,B,j,N,M⟩⟩
    ·obtain rfl:=cE ‹_›;have GE:=bQ ‹_›;obtain rfl:J=3:=gF B ‹D 4=true› j bw;refine ap3 M (by simp) fun w_ M=>?_;exact ⟨G.set 6 trivial,⟨4,by decide,(by first|exact l|rfl),(by first|exact r|rfl),(by first|exact B|rfl),rfl,(fun _=>‹D 1=true›),M⟩⟩
    obtain rfl:J=4:=iH Z j ‹D 6=true›;clear l r B j;obtain ⟨p3,S7,cs,⟨rfl,a2,c2⟩,hl,g⟩:=M;have c8:=(hR.monoR fun _ _ h=>RdT.mono a2.1 h).snoc c2 hl.1;have e4:(ByteArray.mk #[116,114,117,101]).size=4:=rfl;refine ⟨⟨S7,_,_,_,O.trans a2,c8,by rw [bv]; simp only [aO,cq]; omega,by rw [mX,bv,aO,cq]; simp only [wL,wT,cq,e4]; omega,by rw [bv]; omega,a7.mono a2.1,g⟩,?_⟩;obtain ⟨S',_,_,_,hr⟩:=BK g c8 (a7.mono a2.1);obtain ⟨a,q,e,_⟩:=hr;have e1:=uy g (i:=0) (o:=4) (a:=a) (n:=(ks++[T.mk 3 0 ⟨#[116,114,117,101]⟩ []]).length) (m:=q) rfl (by rw [<- e]; rfl);show 7 - xL w_ b5 4<7 - xL w' b5 4;rw [e0,e1,bv,aO,cq];omega
   ·exact a5 O (by omega) a7 hR (by omega) g
  refine bn ?_;refine aS (fun _=>?_) (fun _=>?_)
  ·refine AZ g (by kernel_rfl) rfl (by omega) fun v S3 w' Y hv g=>?_;refine Run.callL jj jf g (ur (p:=p+1) (a8.monoU (U.trans Y).1) hv (by decide) (by omega)) rfl fun v' I' S3 w'=>?_;rintro ⟨rfl,rfl,m,hm,rfl⟩ _ g;have hm:=zI (m:=7) hm (by decide);refine au cC ?_;refine au bk ?_;refine ef g 0 (n:=1) rfl (by decide +kernel) rfl (by simp) (by simp [Value.cells,Value.oneCell']) fun w' g=>?_;have e2:=a4.mono Y.1;obtain ⟨k3,e3,_,_,_,d6⟩:=RdT.iff.1 e2;have e5:RdT S3 [.int .i64 c.head.kind,.int .i64 c.head.n,.string m,.slice ak nk ck] (.mk c.head.kind c.head.n m c.head.kids):=by
    simp only [rD,and_true,sa] at e3;exact RdT.iff.2 ⟨_,rfl,hk,hn,by simp only [T.name,maxLen]; omega,e3 ▸ d6⟩
   refine a5 (U.trans Y) (by omega) e5 (hR.monoR fun _ _ h=>RdT.mono Y.1 h) ?_ g;have:wT c.head=c.head.name.size+c.head.kids.length+wL c.head.kids:=by cases c.head; rw [wT]; rfl
   rw [wT];omega
  ·exact a5 U (by omega) a4 hR (by omega) g
 intro _ _ _ _ _ _ _ _ _ _ _ _ _ _ _ _ _ _ _ _ _ _ _ _ _ _ _ _ _ _ _ _ _ _ _ _ _ _ _ w';rintro ⟨p1,S2,a6,c1,b7,O,hr,d1,g⟩;subst c6;refine aq g 0 aN rfl (by simpa using hr.length) ?_;refine al g 1 rfl aN (by simpa using hr.length) rfl (by simpa using hr.one) fun w' g=>?_;refine bp g 1 aN rfl (by simpa using hr.length) ?_;exact ⟨_,_,S2,rfl,g.pick [false,false,true],O,p1,b7,rfl,a6,c1,rfl,hr,d1⟩
end
end
section
open Go Go.RowKit
def Light (n m:Nat) (q:List C):Prop:=q.length<=n/\∀ c∈q,wC c<=m
theorem Light.le {n m:Nat} {q:List C} (h:Light n m q):q.length+wP q<=n+n * m:=by
 have:∀ q:List C,(∀ c∈q,wC c<=m)->wP q<=q.length * m:=by
  intro q;induction q with
  | nil=>intro _; simp [wP]
  | cons c q j=>
   intro h;have g:=h c (bL ..);have i:=j fun d a=>h d (bV _ a);simp only [wP,aO,jc];omega
 have g:=this q h.2;have i:q.length * m<=n * m:=fH _ h.1;have:=h.1;omega
theorem Light.append {n a m:Nat} {q g:List C} (h:Light n m q) (i:Light a m g):Light (n+a) m (q++g):=
 ⟨by rw [bv]; exact Nat.add_le_add h.1 i.1,fun c hc=>(cI.1 hc).elim (h.2 c) (i.2 c)⟩
abbrev Re (br:Nat) (sl:Value) (p k n m:Nat):Value->List Item->ag->Prop:=fun v I' S'=>∃ p',p'<=p+k/\I'=[rdI br sl p']/\∃ q,RdSl S' 5 (RdC S') v q/\Light n m q
abbrev RX (br:Nat) (sl:Value) (p k n m:Nat):Value->List Item->ag->Prop:=fun v I' S'=>∃ p' css q,p'<=p+k/\I'=[aB v ai 5 css,rdI br sl p']/\Rows 5 (RdC S') css q/\Light n m q/\0<q.length/\∀ c∈q,a9 c=true
section
variable {w0 w:World} {X:List Nat} {L A:List Item} {S:ag}
theorem uj {v:Value} {css:List (List Value)} {q:List C} (a:Inv w0 X (aB v ai 5 css::A) S w) (hR:Rows 5 (RdC S) css q) :
  ∃ S',Ext w0.heap.size X S S'/\Inv w0 X A S' w/\RdSl S' 5 (RdC S') v q:=by
 have a:Inv w0 X (A++[aB v ai 5 css]) S w:=a.last 0 rfl;obtain ⟨S',i,g,a⟩:=Inv.lendExt a;exact ⟨S',i,a,RowRd.rows (hR.monoR fun _ _ h=>RdC.mono i.1 h) g⟩
end
section
variable {br:Nat} {sl:Value} {ys:List Nat}
attribute [local irreducible] Run CondV aC aU
theorem SK:wC ⟨.mk 3 0 ⟨#[122]⟩ [],[]⟩=1:=by
 have e:(ByteArray.mk #[122]).size=1:=rfl;simp only [wC,wT,wL,cq,e]
theorem tL {p m:Nat} {S:ag} {v:Value} {q:List C} (Z:RdSl S 1 mc sl ys) (h:RdSl S 5 (RdC S) v q) (hq:Light 30 m q) (h0:0<q.length) (hm:m<=2000) (hp:p<=50000000) :
  Tri Tryz.prog zh [rdP br,v] [rdI br sl p] S (Re br sl p 20000 30 (m+700)):=by
 intro w g;refine ni.2 ?_;dsimp only[ni,bm];have b3:=hq.1;refine fc g jw fun v0 w' g=>?_;have g:Inv w [br] [aB v0 ai 5 [],rdI br sl p] S w':=g.last 0 rfl;refine ⟨fun a b w'=>∃ (j G:Nat) (S1:ag) (css:List (List Value)) (i:List C),a=.int .i64 (j:Int)/\j<=q.length/\i.length=j/\G<=p+600 * j/\Ext w.heap.size [br] S S1/\Rows 5 (RdC S1) css i/\(∀ c∈i,wC c<=m+700)/\Inv w [br] [aB b ai 5 css,rdI br sl G] S1 w',
  fun a _ _=>q.length - (intOf a).toNat,⟨0,p,S,[],[],rfl,aK _,rfl,by omega,Ext.refl _ _ _,Rows.nil _ _,by simp,g⟩,?_⟩
 intro t6 _ _ N _ _ _ _ _ _ _ _ _ _ _ _ _ w';rintro ⟨j,G,S1,css,i,rfl,hj,O,a4,o,hR,r,g⟩;have a8:=hR.hc;have h':=h.monoC o.1;refine aG h' ct ?_;refine cu ?_;refine aS (fun a5=>?_) (fun a5=>?_)
 ·have V:j<q.length:=by omega
  refine dy g h' ct aN V (fun _ _=>RdC.length) fun cs a6=>?_;have b4:=hq.2 _ (cH V);refine Run.callL CF CG g (Bv (p:=G) (Z.monoU o.1) a6 (by omega) (by omega)) rfl fun v' I' S2 w'=>?_;rintro ⟨p2,U,rfl,ds,d,rfl,t,b0⟩ B g;refine dC (css:=css) g 0 _ jw (by omega) (by omega) rfl t.length t.one (by omega) (by omega) fun v' w' g=>?_;refine bF (by omega) ?_;have a9:p2<=p+600 * (j+1):=g9 U (g9 (Nat.add_le_add_right a4 600) (by rw [Nat.mul_add,Nat.add_assoc]; exact be _));exact ⟨⟨j+1,p2,S2,_,i++[d],rfl,V,by simp only [bv,O,aO,cq,df],a9,o.trans B,(hR.monoR fun _ _ h=>RdC.mono B.1 h).snoc t t.length,fun c hc=>(cI.1 hc).elim (r c) (fun hc=>by simp only [cO] at hc; subst hc; omega),g⟩,
   by simp only [intOf,eB]; omega⟩
 refine ⟨fun v w'=>∃ (G:Nat) (S1:ag) (i:List C),G<=p+20000/\Ext w.heap.size [br] S S1/\RdSl S1 5 (RdC S1) v i/\Light 30 (m+700) i/\Inv w [br] [rdI br sl G] S1 w',?_,?_⟩
 ·refine Run.callL dt dv g (fi (n:=30) (Z.monoU o.1) (by omega) (by omega)) rfl fun v' I' S1 w'=>?_;rintro ⟨rfl,rfl,kk,b1,rfl⟩ _ g;have g:Inv w [br] [aB N ai 5 css,rdI br sl (G+1)] S1 w':=g;refine bn ?_;refine aS (fun _=>?_) (fun _=>?_)
  ·refine ⟨fun b w'=>∃ (S2:ag) (css:List (List Value)) (i:List C),i.length<=30/\Ext w.heap.size [br] S S2/\Rows 5 (RdC S2) css i/\(∀ c∈i,wC c<=m+700)/\Inv w [br] [aB b ai 5 css,rdI br sl (G+1)] S2 w',
    fun b _=>30 - lenOf b,⟨S1,css,i,by omega,o,hR,r,g⟩,?_⟩
   intro N _ _ _ _ _ _ _ _ w';rintro ⟨S2,css,i,O,B,hR,r,g⟩;have M:∀ {w':World} {S2:ag} {N:Value} {css:List (List Value)} {i:List C},Inv w [br] [aB N ai 5 css,rdI br sl (G+1)] S2 w'->Rows 5 (RdC S2) css i->∃ a m,N=.slice a i.length m:=by
    intro w' S2 N css i g hR;obtain ⟨_,_,_,a,m,e,_⟩:=uj g hR;exact ⟨a,m,e⟩
   obtain ⟨a1,m1,rfl⟩:=M g hR;have a8:=hR.hc;refine iN ct ?_;refine fY ?_;refine aS (fun a7=>?_) (fun a7=>?_)
   ·refine Run.call0E dP dO g (eE ⟨#[122]⟩ (by decide) (kq S2) (by simp)) fun v' I' S3 w'=>?_;rintro ⟨rfl,b2,rfl,J⟩ D g;obtain ⟨k3,rfl,_,_,_,a3,q3,rfl,_⟩:=RdT.iff.1 J;refine lA ?_;have t:RdC S3 [.int .i64 3,.int .i64 0,.string ⟨#[122]⟩,.slice a3 0 q3,.slice none 0 0] ⟨.mk 3 0 ⟨#[122]⟩ [],[]⟩:=⟨[.int .i64 3,.int .i64 0,.string ⟨#[122]⟩,.slice a3 0 q3],_,rfl,J,kq S3⟩
    refine dC (css:=css) g 0 [.int .i64 3,.int .i64 0,.string ⟨#[122]⟩,.slice a3 0 q3,.slice none 0 0] jw (by omega) (by omega) rfl rfl t.one (by omega) (by omega) fun v' w' g=>?_;have g:Inv w [br] [aB v' ai 5 (css++[_]),rdI br sl (G+1)] S3 w':=g;have a0:=(hR.monoR fun _ _ h=>RdC.mono D.1 h).snoc t rfl;obtain ⟨a2,m2,rfl⟩:=M g a0;refine ⟨⟨S3,_,_,by rw [bv]; simp only [aO,cq]; omega,B.trans D,a0,fun c hc=>(cI.1 hc).elim (r c) (fun hc=>by simp only [cO] at hc; subst hc; rw [SK]; omega),g⟩,?_⟩;simp only [lenOf,bv,aO,cq];omega
   ·obtain ⟨S3,D,g,Y⟩:=uj g hR;exact ⟨_,S3,i,by omega,B.trans D,Y,⟨O,r⟩,g⟩
  ·obtain ⟨S3,D,g,Y⟩:=uj g hR;refine bn ?_;refine aS (fun _=>?_) (fun _=>?_)
   ·refine ql (l:=1) ct Y (by omega) fun u hu=>?_;exact ⟨_,S3,_,by omega,o.trans D,hu,⟨by rw [tu]; omega,fun c hc=>r c (N9 hc)⟩,g⟩
   ·exact ⟨_,S3,i,by omega,o.trans D,Y,⟨by omega,r⟩,g⟩
 intro _ _ _ _ N _ _ _ _ _ _ _ _ _ _ _ _ w';rintro ⟨p2,S2,q2,U,B,Y,hl,g⟩;exact ⟨_,_,S2,rfl,g,B,p2,U,rfl,q2,Y,hl⟩
end
end
end Go.Proofs.YtjbcdmheajljpaaGreat

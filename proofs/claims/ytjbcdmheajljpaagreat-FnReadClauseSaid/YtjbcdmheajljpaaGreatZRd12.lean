/- impl's compiler: heads. -/
import Derived.Test.YtjbcdmheajljpaaGreatZRdA
import Derived.Test.YtjbcdmheajljpaaGreatZRd11
namespace Go.Proofs.YtjbcdmheajljpaaGreat
attribute [local irreducible] Run CondV aI bg
section
open Go Go.RowKit
theorem CH (ks:List T) (s:CS) (j:Nat) (i:Int) (h:j<ks.length):bz s i (ks.drop j)=((bz (bP s i ks[j]).1 (i+1) (ks.drop (j+1))).1,(bP s i ks[j]).2++(bz (bP s i ks[j]).1 (i+1) (ks.drop (j+1))).2):=by
 rw [ef h,bz]
theorem Ft (ks:List T) (s:CS) (j:Nat) (h:j<ks.length):bE s (ks.drop j)=((bE (cT s ks[j]).1 (ks.drop (j+1))).1,(cT s ks[j]).2++(bE (cT s ks[j]).1 (ks.drop (j+1))).2):=by
 rw [ef h,bE]
def RdQ (S:ai) (cs:List Value) (x:T × Int):Prop:=∃ ds,cs=ds++[ee x.2]/\RdT S ds x.1
theorem RdQ.length {S:ai} {cs:nA} {x:T × Int} (h:RdQ S cs x):cs.length=5:=by
 obtain ⟨ds,rfl,a⟩:=h;rw [bt,a.length];rfl
theorem RdQ.one {S:ai} {cs:nA} {x:T × Int} (h:RdQ S cs x):∀ u∈cs,u.oneCell'=true:=by
 obtain ⟨ds,rfl,g⟩:=h;intro u a;rcases cU.1 a with a|a
 ·exact g.one u a
 ·rw [bM.1 a];rfl
theorem SL {α:Type} {k:Nat} {R:nA->α->Prop} {cs:nA} {css:List (nA)} {y:α} {ys:List α} (h:Rows k R (cs::css) (y::ys)):Rows k R css ys:=
 ⟨by simpa using h.hc,fun c hc=>h.hk c (bI _ hc),fun i a g=>by have:=h.hR (i+1) (by simpa using a) (by simpa using g);simpa using this⟩
def yR (cb:Nat) (w:World):Nat:=match w.heap[cb]? with
 | some (Obj.cells c _ _)=>(match c[2]? with
  | some (Value.slice _ n _)=>n
  | _=>0)
 | _=>0
theorem DW {w0 w:World} {X:List Nat} {A:List Item} {S:ai} {i j m:Nat} {o:Array MapEntry} {s:CS} {cv:Value} (h:Inv w0 X (A++d6 i j o m s cv) S w):yR i w=s.code.length:=by
 have p:w.heap[i]?=some (.cells #[.map (some j),ee s.next,cv] iW):=h.its (.blk i _) (by simp);obtain ⟨a,n,cap,l⟩:∃ a n cap,cv=.slice a n cap/\n=s.code.length:=by
  have q:(aB cv ay 4 (oy s)).holds w:=h.its _ (by simp);rcases q.2 with ⟨rfl,r⟩|⟨g,cap,t,rfl,_⟩
  ·exact ⟨none,0,0,rfl,by rw [<- xR,r]⟩
  ·exact ⟨_,_,cap,rfl,xR s⟩
 unfold yR;rw [p,l.1];exact l.2
section
theorem Cx {w:World} {K:Value->World->Prop} {a b k:Int} {s:ByteArray} {x:Value} (hk:K (.agg #[ee a,ee b,.string s,x,ee k]) w) :
  Run Tryz.prog (cr fN [(0,.agg #[ee a,ee b,.string s,x]),(1,ee k)]) w K:=by
 refine Run.of (v:=.agg #[ee a,ee b,.string s,x,ee k]) (w':=w) ?_ hk;unfold cr;rw [Sem.run_bind,run_build w fN _ #[ee a,ee b,.string s,x,ee k] (by kernel_rfl),Result.andThen_ok];rfl
set_option maxHeartbeats 1000000 in
theorem La {G Y N:Nat} {U:Array MapEntry} {s:CS} {cv v:Value} {ks:List T} {S:ai} (h:RdSl S 4 (RdT S) v ks) (hw:Wf s) (hm:SlM U s) (ht:fc ks) (hl:s.sz+16 * bo ks<=800000000) (h4:ks.length<=s.next) :
  nB Dk [hV G,v] (d6 G Y U N s cv) S fun _ I' S'=>Ec G Y S (gq s ks) I' S':=by
 intro w l;obtain ⟨X,hX⟩:∃ X,X=cg (d6 G Y U N s cv):=⟨_,rfl⟩
 rw [<- hX] at l ⊢;have e6:=h.le;simp only [maxLen] at e6;have g6:=hw.four;have e7:=kq ks;have f8:0<=s.sz:=by unfold CS.sz;omega
 refine pH.2 ?_;dsimp only[pH,bv];refine aO h ao ?_;have l:=l.rowNil fN 5;have l:Inv w X ([aB (nx) fN 5 []]++d6 G Y U N s cv) S w:=l.perm (bD (l₁:=[_]));refine ⟨fun i qv w'=>∃ (j:Nat) (m:CS) (o:Array MapEntry) (t:Nat) (B:Value) (css:List (nA)) (q:List (T × Int)),j<=ks.length/\i=ee j/\Wf m/\SlM o m/\m.next=s.next/\m.sz<=s.sz+j/\q.length<=j/\bz s 0 ks=((bz m j (ks.drop j)).1,q++(bz m j (ks.drop j)).2)/\Rows 5 (RdQ S) css q/\
   Inv w X ([aB qv fN 5 css]++d6 G Y o t m B) S w',fun i _ _=>ks.length - (intOf i).toNat,
   ⟨0,s,U,N,cv,[],[],aT _,rfl,hw,hm,rfl,by omega,by simp,by rw [fe,gW];rfl,Rows.nil _ _,l⟩,?_⟩
 intro i _ qv _ _ _ _ _ _ i4 i6 i7 i8 i9 j0 j1 _ _ _ _ _ _ t8 t7 j2 j3 j4 j5 j6 j7 j8 j9 k0 k1 _ _ _ _ _ _ _ _ _ _ _ _ _ _ _ _ _ _ w';rintro ⟨j,m,U,N,cv,css,q,hj,rfl,c1,hm,f5,f6,d9,a2,hR,l⟩;refine cd ?_;refine aJ (fun a4=>?_) (fun a4=>?_)
 ·have a1:j<ks.length:=by omega
  obtain ⟨u,hu⟩:∃ u,u=ks[j]:=⟨_,rfl⟩
  have b8:okG u:=by rw [hu];exact nr ht _ (cO a1)
  rw [CH ks m j j a1,<- hu] at a2;have k4:=c1.four;have i0:m.next<=900000000/\m.code.length<=900000000:=by
   have hb:m.sz<=900000000:=by omega
   unfold CS.sz at hb;omega
  obtain ⟨x1,x2,x3⟩:=y8 c1 (i:=j) ⟨by omega,by omega⟩ b8;have hz:=(FD m j u).2;refine ⟨fun qv w'=>∃ (o:Array MapEntry) (t:Nat) (B:Value) (css:List (nA)),SlM o (bP m j u).1/\Rows 5 (RdQ S) css (q++(bP m j u).2)/\
   Inv w X ([aB qv fN 5 css]++d6 G Y o t (bP m j u).1 B) S w',?_,?_⟩
  ·refine dj l h ao af a1 (fun _ _=>RdT.length) fun ds J=>?_;rw [<- hu] at J;have c9:=J.length;refine aE l aQ fun b6 w' l=>?_;have l:=l.perm (M:=.blk b6 _::([aB qv fN 5 css]++d6 G Y U N m cv)) (bD (l₁:=[_]));refine aj l 0 rfl af (by simpa using c9) rfl (by simpa using J.one) fun w' l=>?_;have a7:=J;obtain ⟨Z,rfl,_,_,_,e3⟩:=RdT.iff.1 J;have l:Inv w X ([ei b6 (ku u Z) ac,aB qv fN 5 css]++d6 G Y U N m cv) S w':=l;have fin:∀ (o:Array MapEntry) (t:Nat) (B:Value) (O:CS) (w':World),bP m j u=(O,[])->SlM o O->Inv w X ([ei b6 (ku u Z) ac,aB qv fN 5 css]++d6 G Y o t O B) S w'->∃ (o:Array MapEntry) (t:Nat) (B:Value) (css:List (nA)),SlM o (bP m j u).1/\Rows 5 (RdQ S) css (q++(bP m j u).2)/\
     Inv w X ([aB qv fN 5 css]++d6 G Y o t (bP m j u).1 B) S w':=fun o t B O w' e h1 h2=>by
    rw [e];exact ⟨o,t,B,css,h1,by rw [dk];exact hR,h2.sub (jd _ _)⟩
   refine ah l 0 rfl aW au rfl ?_;refine a9 ?_;refine aJ (fun h2=>?_) (fun h2=>?_)
   ·refine ah l 0 rfl aR au rfl ?_;refine lZ ?_;refine Run.call cL cK l (fq ⟨2,u.n,j,emptyB⟩ hm (by omega)) fun v' I' S' w'=>?_;rintro ⟨eS,a8,b0,b1,rfl,a3⟩ _ l;rw [eS] at l;exact fin _ _ _ _ _ (by rw [bP,ag h2]) a3 l
   refine a9 ?_;refine aJ (fun h1=>?_) (fun h1=>?_)
   ·have a5:0<=u.n/\u.n<26:=by
     rcases b8.kind with e|e|e
     ·exact e.2
     ·exact absurd e.1 h2
     ·have:=e.1;omega
    have e7:=hm.look a5.1 a5.2;refine ⟨fun D x8 x7 nL ov qg ny m8 kI mx nH yS uC w_=>Fx D 0 [uC=hV G,yS=hV G,nH=hV G,mx=.map (some Y),kI=kh b6 1,m8=ee u.n,ny=.tuple #[ee (atV m u.n),.bool (decide (0<=m.at_ u.n))],qg=.tuple #[ee (atV m u.n),.bool (decide (0<=m.at_ u.n))],ov=ee (atV m u.n),nL=.bool (decide (0<=m.at_ u.n)),x7=ee (atV m u.n),x8=.bool (decide (0<=m.at_ u.n))]/\Inv w X ([ei b6 (ku u Z) ac,aB qv fN 5 css]++d6 G Y U N m cv) S w_,⟨Fx.nil _ _,l.draw⟩,⟨?_,?_,?_,?_,?_,?_,?_,?_,?_,?_,?_,?_,trivial⟩,?_⟩;all_goals (intro D bp;intros;rename_i x8 x7 nL ov qg ny m8 kI mx nH yS uC w_ b2;have r:=b2.1;obtain ⟨⟨cF,ci,cG,cD,bU,cH,cj,cR,dJ,dQ,cJ,dv,_⟩,l⟩:=b2)
    ·exact ⟨r.set 0 rfl,l⟩
    ·obtain rfl:=cF ‹_›;refine bh ?_;exact ⟨r.set 1 rfl,l⟩
    ·obtain rfl:=ci ‹_›;refine ax gr ?_;exact ⟨r.set 2 rfl,l⟩
    ·obtain rfl:=cG ‹_›;refine aG l 2 gP rfl rfl ?_;exact ⟨r.set 3 rfl,l⟩
    ·refine ax aR ?_;exact ⟨r.set 4 rfl,l⟩
    ·obtain rfl:=bU ‹_›;refine aG l 0 au rfl rfl ?_;exact ⟨r.set 5 rfl,l⟩
    ·obtain rfl:=cD ‹_›;obtain rfl:=cH ‹_›;refine Gs l 3 gO dS AN rfl e7 ?_;exact ⟨r.set 6 rfl,l⟩
    ·obtain rfl:=cj ‹_›;exact ⟨r.set 7 rfl,l⟩
    ·obtain rfl:=cR ‹_›;refine aA rfl ?_;exact ⟨r.set 8 rfl,l⟩
    ·obtain rfl:=cR ‹_›;refine aA rfl ?_;exact ⟨r.set 9 rfl,l⟩
    ·obtain rfl:=dJ ‹_›;exact ⟨r.set 10 rfl,l⟩
    ·obtain rfl:=dQ ‹_›;exact ⟨r.set 11 rfl,l⟩
    obtain ⟨rfl,rfl,rfl,rfl,rfl,rfl,rfl,rfl,rfl,rfl,rfl,rfl,_⟩:=r.all;clear r cF ci cG cD bU cH cj cR dJ dQ cJ dv;refine aJ (fun h0=>?_) (fun h0=>?_)
    ·rw [show atV m u.n=m.at_ u.n from ag h0];refine lZ ?_;refine Run.call cL cK l (fq ⟨1,m.at_ u.n,j,emptyB⟩ hm (by omega)) fun v' I' S' w'=>?_;rintro ⟨eS,a8,b0,b1,rfl,a3⟩ _ l;rw [eS] at l;exact fin _ _ _ _ _ (by rw [bP,ae h2,ag h1,ag h0]) a3 l
    have hf:Instr.findNow (.int .i64) (ee u.n) U.toList 0=some none:=by
     rcases hm.find a5.1 a5.2 with ⟨q,_⟩|⟨_,q⟩
     ·exact absurd q h0
     ·exact q
    have b3:=hm.push c1.len a5 h0 (v:=j) (by omega) N;generalize f4:U.push { key:=ee u.n,val:=ee (j:Int),born:=N }=c2 at b3;refine ⟨fun D tq sT qU tw pW qN wt w_=>Fx D 0 [wt=hV G,qN=hV G,pW=hV G,tw=.map (some Y),qU=kh b6 1,sT=ee u.n,tq=ee j,True]/\Inv w X ([ei b6 (ku u Z) ac,aB qv fN 5 css]++d6 G Y (cond (D 7) c2 U) (cond (D 7) (N+1) N) m cv) S w_,⟨Fx.nil _ _,l.draw⟩,⟨?_,?_,?_,?_,?_,?_,?_,?_,trivial⟩,?_⟩;all_goals (intro D bp;intros;rename_i tq sT qU tw pW qN wt w_ b2;have r:=b2.1;obtain ⟨⟨cF,ci,cG,cD,bU,cH,cj,cR,_⟩,l⟩:=b2)
    ·exact ⟨r.set 0 rfl,l⟩
    ·obtain rfl:=cF ‹_›;refine bh ?_;exact ⟨r.set 1 rfl,l⟩
    ·obtain rfl:=ci ‹_›;refine ax gr ?_;exact ⟨r.set 2 rfl,l⟩
    ·obtain rfl:=cG ‹_›;refine aG l 2 gP rfl rfl ?_;exact ⟨r.set 3 rfl,l⟩
    ·refine ax aR ?_;exact ⟨r.set 4 rfl,l⟩
    ·obtain rfl:=bU ‹_›;refine aG l 0 au rfl rfl ?_;exact ⟨r.set 5 rfl,l⟩
    ·exact ⟨r.set 6 rfl,l⟩
    ·obtain rfl:=cD ‹_›;obtain rfl:=cH ‹_›;obtain rfl:=cj ‹_›;rw [bp] at l;refine pA l 3 gO dS rfl hf fun w_ l=>?_;dsimp only [cond_false] at l;rw [f4] at l;exact ⟨r.set 7 trivial,l⟩
    obtain ⟨rfl,rfl,rfl,rfl,rfl,rfl,rfl,_,_⟩:=r.all;have nI:D 7=true:=by assumption
    clear r cF ci cG cD bU cH cj cR;rw [nI] at l;exact fin c2 (N+1) cv (m.put u.n j) _ (by rw [bP,ae h2,ag h1,ae h0]) b3 l
   have e:bP m j u=(m,[(u,(j:Int))]):=by rw [bP,ae h2,ae h1]
   refine aq l 0 af rfl rfl ?_;refine Cx ?_;have k5:=hR.hc;refine dB (css:=css) l 1 [ee u.kind,ee u.n,.string u.name,Z,ee j] zV (by omega) (by omega) rfl rfl ?_ (by omega) (by omega) fun g1 w' l=>?_
   ·exact RdQ.one (S:=S) (x:=(u,(j:Int))) ⟨(kB u Z),rfl,a7⟩
   rw [e];refine ⟨U,N,cv,css++[[ee u.kind,ee u.n,.string u.name,Z,ee j]],hm,hR.snoc ⟨_,rfl,a7⟩ rfl,?_⟩;exact l.sub (jd _ _)
  intro qv _ _ _ _ _ _ _ _ _ _ _ _ _ _ _ _ _ _ _ _ _ _ _ _ _ _ _ _ _ _ _ _ _ _ _ _ _ _ _ _ _ _ _ _ _ _ _ _ w';rintro ⟨o,t,B,css,V,hR,l⟩;refine bL (by omega) ?_;refine ⟨⟨j+1,_,o,t,B,css,q++(bP m j u).2,a1,rfl,x1.wf,V,by omega,by omega,?_,?_,hR,l⟩,by simp [intOf];omega⟩
  ·have:(bP m j u).2.length<=1:=by
    unfold bP;split
    ·exact aT _
    ·split
     ·exact aT _
     ·exact aY _
   rw [bt];omega
  ·rw [a2,cN];rfl
 have d0:j=ks.length:=by omega
 subst d0;rw [eL,bz,dk] at a2;have a2:bz s 0 ks=(m,q):=a2;have e8:=tM ks s 0;rw [a2] at e8;obtain ⟨c6,g3,e4,g4⟩:=e8;have c6:s.sz<=m.sz:=c6;have e4:((cQ q:Nat):Int)<=bo ks:=e4;obtain ⟨y1,y2,y3⟩:=lP ks hw (fT 0) (by omega) ht;rw [a2] at y2;have y2:PdW q m.next:=y2;have g7:gq s ks=fC (cQ q) m q:=by rw [gq,a2]
 rw [g7];obtain ⟨a6,e5⟩:∃ a6,a6=(fC (cQ q) m q).code.length:=⟨_,rfl⟩
 obtain ⟨it,c7,l⟩:=l.toQ (i:=0) rfl hR.hk;have l:Inv w X ([it]++d6 G Y U N m cv) S _:=l;have hB:m.sz+8 * cQ q<=800000000/\0<=m.sz:=by omega
 clear c6 g3 g4 y1 y3 f6 d9 f5;refine ⟨fun qv w'=>∃ (f:Nat) (O:CS) (o:Array MapEntry) (t:Nat) (B:Value) (css:List (nA)) (V:List (T × Int)) (it:Item),cQ V<=f/\fC (cQ q) m q=fC f O V/\Wf O/\SlM o O/\PdW V O.next/\O.sz+8 * cQ V<=800000000+2 * V.length/\0<=O.sz/\Rows 5 (RdQ S) css V/\QOK fN 5 qv it css/\
   Inv w X ([it]++d6 G Y o t O B) S w',fun _ w'=>a6 - yR G w',
   ⟨cQ q,m,U,N,cv,css,q,it,aY _,rfl,c1,hm,y2,by omega,by omega,hR,c7,l⟩,?_⟩
 intro _ _ _ _ _ _ _ _ _ _ _ _ _ _ _ _ _ _ _ _ _ _ _ _ _ _ _ _ _ _ _ _ _ _ _ _ _ _ _ _ _ qv _ _ _ _ _ _ _ _ _ w';rintro ⟨f,O,U,N,cv,css,V,it,hf,a0,e0,hm,e1,f7,f8,hR,hq,l⟩;obtain ⟨qa,h9,g5⟩:=hq.slice;have e9:=hR.hc;subst g5;refine iP AZ ?_;refine fL ?_;refine aJ (fun a4=>?_) (fun a4=>?_)
 ·obtain ⟨cs,css,rfl⟩:∃ cs f3,css=cs::f3:=by
   cases css with
   | nil=>simp at a4
   | cons a b=>exact ⟨a,b,rfl⟩
  obtain ⟨x,V,rfl⟩:∃ x q3,V=x::q3:=by
   cases V with
   | nil=>simp at e9
   | cons a b=>exact ⟨a,b,rfl⟩
  have hx:=e1 x (bF ..);have g8:RdQ S cs x:=hR.hR 0 (by simp) (by simp);have g9:Rows 5 (RdQ S) css V:=SL hR;obtain ⟨ds,rfl,J⟩:=g8;obtain ⟨kx,rfl,_,_,_,c4⟩:=RdT.iff.1 J;have h6:=c4.le;simp only [maxLen] at h6;rw [cQ,aP] at f7;have f0:(bR x.1).toNat=1+(bo x.1.kids).toNat:=by
   have:=ch x.1.kids;obtain ⟨x1,x2⟩:=x;cases x1;simp only [bR,T.kids] at this ⊢;omega
  have k6:=ch x.1.kids;have i1:=kq x.1.kids;have k7:=e0.four;have k8:O.next<=810000000/\O.code.length<=810000000:=by
   have hb:O.sz<=810000000:=by have:=jg V;omega
   unfold CS.sz at hb;omega
  obtain ⟨f,rfl⟩:∃ g,f=g+1:=⟨f - 1,by rw [cQ,f0] at hf;omega⟩
  have k9:cQ V+(bo x.1.kids).toNat<=f:=by rw [cQ,f0] at hf;omega
  rw [fC] at a0;have d4:=DW l;refine WH l 0 rfl AZ Nw hq fun p=>?_;refine aE l Ul fun b9 w' l=>?_;have l:=l.perm (M:=.blk b9 _::([it]++d6 G Y U N O cv)) (bD (l₁:=[_]));refine aj l 0 rfl Nw rfl rfl (by simpa using RdQ.one (S:=S) (x:=x) ⟨_,rfl,J⟩) fun w' l=>?_;have l:Inv w X ([ei b9 #[ee x.1.kind,ee x.1.n,.string x.1.name,kx,ee x.2] fN,it]++d6 G Y U N O cv) S w':=l;refine Up AZ hq fun qv hq=>?_;refine ax wm ?_;refine ax az ?_;refine aG l 0 aw rfl rfl ?_;refine aO c4 ao ?_;refine ah l 0 rfl PB au rfl ?_;refine ax wm ?_;refine ax bu ?_;refine aG l 0 aV rfl rfl ?_;refine Lu ?_;refine Run.call cL cK l (fq ⟨3,x.1.kids.length,x.2,x.1.name⟩ hm (by omega)) fun v' I' S' w'=>?_;rintro ⟨eS,c2,f9,g0,rfl,b3⟩ _ l;rw [eS] at l;refine ax wm ?_;refine ax az ?_;refine aG l 0 aw rfl rfl ?_;refine aO c4 ao ?_;obtain ⟨se,b5⟩:∃ se,se=O.emit ⟨3,x.1.kids.length,x.2,x.1.name⟩:=⟨_,rfl⟩
  have f1:Wf se:=by rw [b5];exact e0.emit _
  have l0:se.sz=O.sz+1:=by rw [b5,fI]
  have l1:se.code.length=O.code.length+1:=by rw [b5];show (O.code++[_]).length=_;rw [bt];rfl
  rw [<- b5] at a0 b3 l;obtain ⟨c8,b7⟩:=mP x.1.kids f1 hx.1.kids;have f2:=yT x.1.kids se;have c5:=qF x.1.kids se;obtain ⟨A,hA⟩:∃ A,A=bE se x.1.kids:=⟨_,rfl⟩
  rw [<- hA] at a0 c8 b7 f2 c5;have l2:O.next<=se.next:=by rw [b5];exact fT _
  refine ⟨fun i qv w'=>∃ (j:Nat) (m:CS) (o:Array MapEntry) (t:Nat) (B:Value) (css:List (nA)) (qj:List (T × Int)) (it:Item),j<=x.1.kids.length/\i=ee j/\Wf m/\SlM o m/\se.sz<=m.sz/\m.sz<=se.sz+2 * j/\se.code.length<=m.code.length/\qj.length<=j/\A=((bE m (x.1.kids.drop j)).1,qj++(bE m (x.1.kids.drop j)).2)/\Rows 5 (RdQ S) css (V++qj)/\QOK fN 5 qv it css/\
   Inv w X ([ei b9 #[ee x.1.kind,ee x.1.n,.string x.1.name,kx,ee x.2] fN,it]++d6 G Y o t m B) S w',fun i _ _=>x.1.kids.length - (intOf i).toNat,
   ⟨0,se,c2,f9,g0,css,[],it,aT _,rfl,f1,b3,by omega,by omega,aY _,aY _,by rw [fe,hA];rfl,by rw [dk];exact g9,hq,l⟩,?_⟩
  intro i _ qv _ _ _ _ _ _ _ _ _ _ _ _ _ _ _ _ _ _ _ _ _ _ _ w';rintro ⟨j,C,U,N,cv,css,qj,it,hj,rfl,c3,hm,k2,a5,k3,d9,b4,hR,hq,l⟩;refine cd ?_;refine aJ (fun a4=>?_) (fun a4=>?_)
  ·have a1:j<x.1.kids.length:=by omega
   obtain ⟨u,hu⟩:∃ u,u=x.1.kids[j]:=⟨_,rfl⟩
   have b8:okG u:=by rw [hu];exact nr hx.1.kids _ (cO a1)
   rw [Ft _ C j a1,<- hu] at b4;have l3:=c3.four;have i2:C.next<=820000000/\C.code.length<=820000000:=by
    have hb:C.sz<=820000000:=by have:=jg V;omega
    unfold CS.sz at hb;omega
   have i3:css.length=V.length+qj.length:=by rw [hR.hc,bt]
   have l4:=jg V;refine ⟨fun qv w'=>∃ (o:Array MapEntry) (t:Nat) (B:Value) (css:List (nA)) (it:Item),SlM o (cT C u).1/\Rows 5 (RdQ S) css (V++(qj++(cT C u).2))/\QOK fN 5 qv it css/\
    Inv w X ([ei b9 #[ee x.1.kind,ee x.1.n,.string x.1.name,kx,ee x.2] fN,it]++d6 G Y o t (cT C u).1 B) S w',?_,?_⟩
   ·refine dj l c4 ao af a1 (fun _ _=>RdT.length) fun ds J=>?_;rw [<- hu] at J;have c9:=J.length;refine aE l aQ fun e2 w' l=>?_;have l:=l.perm (M:=.blk e2 _::([ei b9 #[ee x.1.kind,ee x.1.n,.string x.1.name,kx,ee x.2] fN,it]++d6 G Y U N C cv)) (bD (l₁:=[_]));refine aj l 0 rfl af (by simpa using c9) rfl (by simpa using J.one) fun w' l=>?_;have a7:=J;obtain ⟨Z,rfl,_,_,_,e3⟩:=RdT.iff.1 J;have l:Inv w X ([ei e2 (ku u Z) ac,ei b9 #[ee x.1.kind,ee x.1.n,.string x.1.name,kx,ee x.2] fN,it]++d6 G Y U N C cv) S w':=l;refine ah l 0 rfl aW au rfl ?_;refine jN ?_;refine aL (fun h3=>?_) (fun h3=>?_)
    ·have h3:u.kind≠3:=by simpa using h3
     have e:cT C u=(fy C u,[]):=by rw [cT,ae h3]
     refine aq l 0 af rfl rfl ?_;refine Run.call kF kE l (rF a7 c3 hm b8 h3 (by
      have:=jg V;omega)) fun v' I' S' w'=>?_
     rintro ⟨eS,a8,b0,b1,rfl,a3⟩ _ l;rw [eS] at l;rw [e];exact ⟨a8,b0,b1,css,it,a3,by rw [dk];exact hR,hq,l.sub (jd _ _)⟩
    ·have h3:u.kind=3:=by simpa using h3
     have e:cT C u=((C.emit ⟨4,C.next,0,emptyB⟩).inc,[(u,C.next)]):=by rw [cT,ag h3]
     refine Run.call i5 iU l (qL (s:=C) (by omega)) fun v' I' S' w'=>?_;rintro ⟨eS,rfl,rfl⟩ _ l;rw [eS] at l;refine oz ?_;refine Run.call cL cK l (fq (s:=C.inc) ⟨4,C.next,0,emptyB⟩ hm (by show C.code.length<=_;omega)) fun v' I' S' w'=>?_;rintro ⟨eS,a8,b0,b1,rfl,a3⟩ _ l;rw [eS] at l;refine aq l 0 af rfl rfl ?_;refine Cx ?_;refine pa l zV rfl (by omega) (by omega) fun w2 l=>?_;refine Se (o':=0) l 2 [ee u.kind,ee u.n,.string u.name,Z,ee C.next] zV (by omega) rfl hq rfl (fun j v hj=>by
      rw [cS,l.cellL (i:=6) rfl];simpa [Value.cells] using hj) (RdQ.one (S:=S) (x:=(u,C.next)) ⟨(kB u Z),rfl,a7⟩) (by omega) (by omega) fun g1 g2 w' hq l=>?_
     rw [e];refine ⟨a8,b0,b1,_,g2,a3,?_,hq,?_⟩
     ·rw [<- cN];exact hR.snoc ⟨_,rfl,a7⟩ rfl
     ·exact l.pick [false,true,true,true,true,true,false]
   intro qv _ _ _ _ _ _ _ _ _ _ _ _ _ _ _ _ _ _ _ _ _ _ w';rintro ⟨o,t,B,css,it,h5,hR,hq,l⟩;refine bL (by omega) ?_;have hz:=K2 C u;have l5:(cT C u).1.code.length=C.code.length+1:=by
    unfold cT;split
    ·show (C.code++[_]).length=_;rw [bt];rfl
    ·show (fy C u).code.length=_;rw [Ab,bt];rfl
   refine ⟨⟨j+1,_,o,t,B,css,qj++(cT C u).2,it,a1,rfl,(zy c3 b8).1.wf,h5,by omega,by omega,by omega,?_,?_,hR,hq,l⟩,by simp [intOf];omega⟩
   ·have:(cT C u).2.length<=1:=by
     unfold cT;split
     ·exact aY _
     ·exact aT _
    rw [bt];omega
   ·rw [b4,cN]
  have d0:j=x.1.kids.length:=by omega
  subst d0;rw [eL,bE,dk] at b4;rw [b4] at a0 c8 b7 f2 c5;have a0:fC (cQ q) m q=fC f C (V++qj):=a0;have b7:PdW qj C.next:=b7;have l6:se.next<=C.next:=c8.next;have c5:(x.1.kids.length:Int)+4 * cQ qj<=4 * bo x.1.kids+qj.length:=c5;have l:Inv w X ([it]++d6 G Y U N C cv) S _:=l.sub (jd _ _);have d7:=DW l;have l7:=jg qj;have h7:C.code.length<=a6:=by
   rw [e5,a0,Au,bt];omega
  refine ⟨⟨f,C,U,N,cv,css,V++qj,it,?_,a0,c3,hm,fun p hp=>?_,?_,by omega,hR,hq,l⟩,?_⟩
  ·rw [fS];have:=tP x.1.kids se;rw [<- hA,b4] at this;have this:cQ qj<=_:=this;omega
  ·rcases cU.1 hp with hp|hp
   ·obtain ⟨d1,d2,d3⟩:=e1 p (bI _ hp);exact ⟨d1,d2,by omega⟩
   ·exact b7 p hp
  ·rw [fS,bt];omega
  ·show a6 - yR G _<a6 - yR G _;rw [d7,d4];omega
 ·have h8:css=[]:=by
   cases css with
   | nil=>rfl
   | cons a b=>simp at a4
  subst h8;have c7:V=[]:=jM (by rw [<- e9];rfl);subst c7;have e:fC f O []=O:=by cases f <;> rfl
  rw [a0,e];exact ⟨_,_,_,rfl,l.sub (fj _ _),Ext.refl _ _ _,rfl,U,N,cv,rfl,hm⟩
end
end
section
open Go Go.RowKit
theorem RdQ.mono {S S':ai} {cs:nA} {x:T × Int} (a:Sle S S') (h:RdQ S cs x):RdQ S' cs x:=by
 obtain ⟨ds,e,g⟩:=h;exact ⟨ds,e,g.mono a⟩
def emS (w:World) (X:List Nat) (F:Array Value->List Item) (S:ai) (c0:Array Value) (s:CS) (xr:Value) (w':World):Nat->Prop
 | 0=>Inv w X (F c0) S w'
 | 1=>∃ S2 cs2,xr=.agg cs2.toArray/\MkS S2 cs2 s/\Ext w.heap.size X S S2/\Inv w X (F c0) S2 w'
 | _=>∃ S2 cs2,MkS S2 cs2 s/\Ext w.heap.size X S S2/\Inv w X (F cs2.toArray) S2 w'
section
variable {w w':World} {X:List Nat} {F:Array Value->List Item} {S:ai} {c0:Array Value} {s:CS} {xr:Value}
theorem emS.inv:∀ {n:Nat},n<2->emS w X F S c0 s xr w' n->∃ S2,Sle S S2/\Inv w X (F c0) S2 w'
 | 0,_,h=>⟨S,Sle.refl S,h⟩
 | 1,_,⟨S2,_,_,_,hE,h⟩=>⟨S2,hE.1,h⟩
 | _+2,h,_=>absurd h (by omega)
theorem emS.any:∀ {n:Nat},emS w X F S c0 s xr w' n->∃ S2 c,Sle S S2/\Inv w X (F c) S2 w'
 | 0,h=>⟨S,c0,Sle.refl S,h⟩
 | 1,⟨S2,_,_,_,hE,h⟩=>⟨S2,c0,hE.1,h⟩
 | _+2,⟨S2,_,_,hE,h⟩=>⟨S2,_,hE.1,h⟩
theorem SP {b:Bool} {n:Nat} (h:b=decide (2<=n)) (a:b=false):n<2:=by
 rw [a] at h;have:=of_decide_eq_false h.symm;omega
end
theorem A4 {s:CS} {m:Nat} (h:m<s.sl.length):s.at_ (m:Int)=s.sl[m]:=by
 show s.sl[(m:Int).toNat]?.getD (-1)=_;rw [dH,me h];rfl
section
theorem BL {w:World} {K:Value->World->Prop} {a b k:Int} {s:ByteArray} {x:Value} (hk:K (.agg #[ee a,ee b,.string s,x,ee k]) w) :
  Run Tryz.prog (cr cY [(0,.agg #[ee a,ee b,.string s,x]),(1,ee k)]) w K:=by
 refine Run.of (v:=.agg #[ee a,ee b,.string s,x,ee k]) (w':=w) ?_ hk;unfold cr;rw [Sem.run_bind,run_build w cY _ #[ee a,ee b,.string s,x,ee k] (by kernel_rfl),Result.andThen_ok];rfl
set_option maxHeartbeats 1000000 in
theorem zC {s:CS} {ts:List T} {S:ai} {cs:List Value} {v:Value} (h:MkS S cs s) (b3:RdSl S 4 (RdT S) v ts) (ho:∀ t∈ts,okU 26 t) (hl:s.sl.length=26) (c6:0<=s.next) (e3:s.sz+2 * ts.length<=900000000) :
  Tri Tryz.prog PV [.agg cs.toArray,v] [] S fun r I' S'=>I'=[]/\∃ c4 u,r=.tuple #[.agg c4.toArray,u]/\MkS S' c4 (bE s ts).1/\RdSl S' 5 (RdQ S') u (bE s ts).2:=by
 intro w a;have f8:=h.length;have c1:=b3.le;simp only [maxLen] at c1;have f9:0<=s.sz:=by unfold CS.sz; omega
 refine CX.2 ?_;dsimp only[CX,bv];refine bH a fun b2 w' a=>?_;refine aE a fJ fun b4 w' a=>?_;refine eZ a lL fun Z w' a=>?_;obtain ⟨B4,b7⟩:∃ B4,B4=Item.blk b4 (.cells #[.slice none 0 0,.int .i64 0,.slice none 0 0] aC):=⟨_,rfl⟩
 have e4:=congrArg some b7;have a:Inv w [] [.blk b2 (.cells cs.toArray aC),B4,aB Z cY 5 []] S w':=by rw [b7]; exact a
 refine ⟨fun i Z w'=>∃ (j:Nat) (g:CS) (U:List Value) (Sj:ai) (css:List (List Value)) (q:List (T × Int)),j<=ts.length/\i=.int .i64 j/\Ext w.heap.size [] S Sj/\MkS Sj U g/\g.sl.length=26/\0<=g.next/\g.sz<=s.sz+2 * j/\q.length<=j/\bE s ts=((bE g (ts.drop j)).1,q++(bE g (ts.drop j)).2)/\Rows 5 (RdQ Sj) css q/\
   Inv w [] [.blk b2 (.cells U.toArray aC),B4,aB Z cY 5 css] Sj w',fun i _ _=>ts.length - (intOf i).toNat,
   ⟨0,s,cs,S,[],[],aT _,rfl,Ext.refl _ _ _,h,hl,c6,by omega,by simp,by rw [fe,gW],Rows.nil _ _,a⟩,?_⟩
 intro i _ _ _ _ _ _ _ _ _ _ _ Z _ _ _ _ _ _ _ _ _ _ _ _ _ _ _ _ _ _ _ _ _ _ _ _ _ _ e5 e6 e7 e9 f0 f1 f2 f3 f4 _ _ _ _ _ _ _ _ _ _ _ _ _ _ _ _ _ _ _ _ _ _ _ _ _ _ _ _ _ _ _ w';rintro ⟨j,g,U,Sj,css,q,hj,rfl,a8,G,b5,f5,f6,f7,hA,hR,a⟩;have a7:=b3.monoT a8.1;have Y:=G.length;refine aO a7 ao ?_;refine cd ?_;refine aJ (fun d0=>?_) (fun d0=>?_)
 ·have a5:j<ts.length:=by omega
  obtain ⟨u,hu⟩:∃ u,u=ts[j]:=⟨_,rfl⟩
  have a6:okU 26 u:=by rw [hu]; exact ho _ (cO a5)
  rw [Ft ts g j a5,<- hu] at hA;have g0:=hR.hc;have hb:g.sz<=900000000:=by omega
  have e2:g.next<=900000000/\g.code.length<=900000000:=by
   unfold CS.sz at hb;omega
  refine ⟨fun Z w'=>∃ (p:List Value) (Sn:ai) (css:List (List Value)),Ext w.heap.size [] Sj Sn/\MkS Sn p (cT g u).1/\Rows 5 (RdQ Sn) css (q++(cT g u).2)/\
    Inv w [] [.blk b2 (.cells p.toArray aC),B4,aB Z cY 5 css] Sn w',?_,?_⟩
  ·refine dj a a7 ao af a5 (fun _ _=>RdT.length) fun ds a2=>?_;rw [<- hu] at a2;have d7:=a2.length;refine aE a aQ fun b8 w' a=>?_;refine aj a 3 rfl af (by simpa using d7) rfl (by simpa using a2.one) fun w' a=>?_;have c2:=a2;obtain ⟨a3,rfl,_,_,_,e1⟩:=RdT.iff.1 a2;obtain ⟨B8,b9⟩:∃ B8,B8=Item.blk b8 (.cells #[.int .i64 u.kind,.int .i64 u.n,.string u.name,a3] ac):=⟨_,rfl⟩
   have e8:=congrArg some b9;have a:Inv w [] [.blk b2 (.cells U.toArray aC),B4,aB Z cY 5 css,B8] Sj w':=by rw [b9]; exact a
   have fin:∀ (p:List Value) (Sn:ai) (sn:CS) (w':World),cT g u=(sn,[])->Ext w.heap.size [] Sj Sn->MkS Sn p sn->Inv w [] [.blk b2 (.cells p.toArray aC),B4,aB Z cY 5 css,B8] Sn w'->∃ (p:List Value) (Sn:ai) (css:List (List Value)),Ext w.heap.size [] Sj Sn/\MkS Sn p (cT g u).1/\Rows 5 (RdQ Sn) css (q++(cT g u).2)/\
     Inv w [] [.blk b2 (.cells p.toArray aC),B4,aB Z cY 5 css] Sn w':=fun p Sn sn w' e h1 h2 h3=>by
    rw [e];exact ⟨p,Sn,css,h1,h2,by rw [dk]; exact hR.monoR fun _ _ h=>h.mono h1.1,h3.pick [true,true,true,false]⟩
   refine ah a 3 e8 aW au rfl ?_;refine a9 ?_;refine aJ (fun h2=>?_) (fun h2=>?_)
   ·refine aq a 0 aH rfl (by simpa using Y) ?_;refine ah a 3 e8 aR au rfl ?_;refine oz ?_;refine Run.call0E dX dY a (dy ⟨6,u.n,0,emptyB⟩ G (by omega)) fun v' I' S2 w'=>?_;rintro ⟨rfl,J,rfl,l⟩ N a;refine aj a 0 rfl aH (by simpa using l.length) (by simpa using Y) (by simpa using l.one) fun w' a=>?_;exact fin J S2 _ _ (by rw [cT,ae (by omega),fy,ag h2]) N l a
   refine ⟨fun q w'=>q=.bool (decide (u.kind=1/\0<=g.at_ u.n))/\Inv w [] [.blk b2 (.cells U.toArray aC),B4,aB Z cY 5 css,B8] Sj w',?_,?_⟩
   ·refine ah a 3 e8 aW au rfl ?_;refine a9 ?_;by_cases h1:u.kind=1
    ·rw [aD h1];refine rpG ?_;obtain ⟨v1,v2,rfl,g1,g2⟩:=id G;have hv:=a6.var h1;obtain ⟨m,hm⟩:∃ m:Nat,u.n=(m:Int):=⟨u.n.toNat,by omega⟩
     have a1:m<g.sl.length:=by omega
     refine ah a 0 rfl eQ gU rfl ?_;refine ah a 3 e8 aR au rfl ?_;rw [hm,A4 a1];refine jq a g1 ff au a1 (fun cs d1=>d1) ?_;refine iK ?_;refine rpG ?_;refine ⟨?_,a⟩;simp [h1]
    ·rw [aM h1];refine rpG ?_;refine ⟨?_,a⟩;simp [h1]
   intro z _ _ _ _ _ _ _ _ _ _ _ _ w';rintro ⟨rfl,a⟩;refine aJ (fun b0=>?_) (fun b0=>?_)
   ·obtain ⟨h1,h0⟩:=b0;have e:cT g u=(g.emit ⟨5,g.at_ u.n,0,emptyB⟩,[]):=by rw [cT,ae (by omega),fy,ae h2,ag h0]
    have hv:=a6.var h1;obtain ⟨m,hm⟩:∃ m:Nat,u.n=(m:Int):=⟨u.n.toNat,by omega⟩
    have a1:m<g.sl.length:=by omega
    obtain ⟨v1,v2,rfl,g1,g2⟩:=id G;obtain ⟨bq,oq,cap,c,E,fz,rfl,d3,d4⟩:=g1.at_ a1;have d9:=A4 a1;refine ⟨fun D NO CW Cf zh yD uL tq sT qU w_=>Fx D 0 [qU=.agg #[.slice (some ⟨bq,oq,none⟩) g.sl.length cap,.int .i64 g.next,v2],sT=.pointer (some ⟨b2,0,none⟩),tq=.slice (some ⟨bq,oq,none⟩) g.sl.length cap,uL=.pointer (some ⟨b8,1,none⟩),yD=.int .i64 (m:Int),zh=.pointer (some ⟨bq,oq+m * 1,none⟩),Cf=.int .i64 (g.at_ u.n),CW=.agg (Ist.cells ⟨5,g.at_ u.n,0,emptyB⟩).toArray,True,True]/\∃ n_:Nat,n_<=2/\D 8=decide (1<=n_)/\D 9=decide (2<=n_)/\(emS w [] (fun c=>[.blk b2 (.cells c aC),B4,aB Z cY 5 css,B8]) Sj #[.slice (some ⟨bq,oq,none⟩) g.sl.length cap,.int .i64 g.next,v2] (g.emit ⟨5,g.at_ u.n,0,emptyB⟩) NO w_ n_/\(D 9=true->D 0=true/\D 2=true)),⟨Fx.nil _ _,⟨0,aT _,rfl,rfl,⟨a.draw,aU⟩⟩⟩,⟨?_,?_,?_,?_,?_,?_,?_,?_,?_,?_,trivial⟩,?_⟩;all_goals (intro D bp; intros; rename_i NO CW Cf zh yD uL tq sT qU w_ b6; have M:=b6.1; obtain ⟨⟨cF,ci,cG,cD,bU,cH,cj,cR,dJ,dQ,_⟩,⟨n_,O,B,o,C⟩⟩:=b6)
    ·have dQ:D 9=false:=bA.2 fun h=>by rw [(C.2 h).1] at bp; cases bp
     obtain ⟨S5,a4,a⟩:=C.1.inv (SP o dQ);refine aq a 0 aH rfl rfl ?_;have C:=And.intro C.1 (fun (h:aF D 0 9=true)=>(⟨rfl,(C.2 h).2⟩:aF D 0 0=true/\aF D 0 2=true));exact ⟨M.set 0 rfl,⟨n_,O,B,o,C⟩⟩
    ·refine ax eQ ?_;exact ⟨M.set 1 rfl,⟨n_,O,B,o,C⟩⟩
    ·obtain rfl:=ci ‹_›;have dQ:D 9=false:=bA.2 fun h=>by rw [(C.2 h).2] at bp; cases bp
     obtain ⟨S5,a4,a⟩:=C.1.inv (SP o dQ);refine aG a 0 gU rfl rfl ?_;have C:=And.intro C.1 (fun (h:aF D 2 9=true)=>(⟨(C.2 h).1,rfl⟩:aF D 2 0=true/\aF D 2 2=true));exact ⟨M.set 2 rfl,⟨n_,O,B,o,C⟩⟩
    ·refine ax aR ?_;exact ⟨M.set 3 rfl,⟨n_,O,B,o,C⟩⟩
    ·obtain rfl:=cD ‹_›;obtain ⟨S5,c5,a4,a⟩:=C.1.any;refine aG (v:=.int .i64 (m:Int)) a 3 au e8 (by rw [<- hm]; rfl) ?_;exact ⟨M.set 4 rfl,⟨n_,O,B,o,C⟩⟩
    ·obtain rfl:=cG ‹_›;obtain rfl:=bU ‹_›;refine aN ff a1 ?_;exact ⟨M.set 5 rfl,⟨n_,O,B,o,C⟩⟩
    ·obtain rfl:=cH ‹_›;obtain ⟨S5,c5,a4,a⟩:=C.1.any;refine eD (v:=.int .i64 (g.at_ u.n)) au (by rw [a.cellS (a4 _ _ d3),hm,d9]; exact bf d4 0 _ rfl) ?_;exact ⟨M.set 6 rfl,⟨n_,O,B,o,C⟩⟩
    ·obtain rfl:=cj ‹_›;refine oz ?_;exact ⟨M.set 7 rfl,⟨n_,O,B,o,C⟩⟩
    ·obtain rfl:=cF ‹_›;obtain rfl:=cR ‹_›;obtain rfl:n_=0:=jv B bp;refine Run.call0E dX dY C.1 (dy ⟨5,g.at_ u.n,0,emptyB⟩ G (by omega)) fun v' I' S2 w_=>?_;rintro ⟨rfl,J,rfl,l⟩ N a;have b1:emS w [] (fun c=>[.blk b2 (.cells c aC),B4,aB Z cY 5 css,B8]) Sj #[.slice (some ⟨bq,oq,none⟩) g.sl.length cap,.int .i64 g.next,v2] (g.emit ⟨5,g.at_ u.n,0,emptyB⟩) (.agg J.toArray) w_ 1:=⟨S2,J,rfl,l,N,a⟩
     exact ⟨M.set 8 (by first|assumption|trivial),⟨1,by decide,rfl,(by first|exact o|rfl),⟨b1,C.2⟩⟩⟩
    ·have z4:=dJ ‹_›;obtain rfl:n_=1:=gg B ‹D 8=true› o bp;obtain ⟨S2,J,rfl,l,N,a⟩:=C.1;refine aj a 0 rfl aH (by simpa using l.length) rfl (by simpa using l.one) fun w_ a=>?_;have b1:emS w [] (fun c=>[.blk b2 (.cells c aC),B4,aB Z cY 5 css,B8]) Sj #[.slice (some ⟨bq,oq,none⟩) g.sl.length cap,.int .i64 g.next,v2] (g.emit ⟨5,g.at_ u.n,0,emptyB⟩) (.agg J.toArray) w_ 2:=⟨S2,J,l,N,a⟩
     exact ⟨M.set 9 trivial,⟨2,by decide,(by first|exact B|rfl),rfl,⟨b1,fun _=>⟨‹D 0=true›,‹D 2=true›⟩⟩⟩⟩
    obtain rfl:n_=2:=jD O o ‹D 9=true›;clear B o;obtain ⟨S2,J,l,N,a⟩:=C.1;exact fin J S2 _ _ e N l a
   refine ah a 3 e8 aW au rfl ?_;refine a9 ?_;obtain ⟨v1,v2,rfl,g1,g2⟩:=id G;refine aJ (fun h1=>?_) (fun h1=>?_)
   ·have hv:=a6.var h1;have h0:¬ 0<=g.at_ u.n:=fun h0=>b0 ⟨h1,h0⟩;have e:cT g u=(((g.put u.n g.next).emit ⟨4,g.next,0,emptyB⟩).inc,[]):=by rw [cT,ae (by omega),fy,ae h2,ae h0]
    refine aq a 0 aH rfl rfl ?_;refine ah a 3 e8 aR au rfl ?_;refine ah a 0 rfl dG au rfl ?_;refine Run.call0E te s8 a (qw (n:=u.n) (k:=g.next) G b5 (by omega)) fun v' I' S2 w'=>?_;rintro ⟨rfl,J,rfl,l⟩ N a;refine aj a 0 rfl aH (by simpa using l.length) rfl (by simpa using l.one) fun w' a=>?_;obtain ⟨p1,p2,rfl,q1,q2⟩:=id l;refine aq a 0 aH rfl rfl ?_;refine ah a 0 rfl dG au rfl ?_;refine oz ?_;refine Run.call0E dX dY a (dy ⟨4,g.next,0,emptyB⟩ l (by show g.code.length<=_; omega)) fun v' I' S3 w'=>?_;rintro ⟨rfl,c7,rfl,a0⟩ V a;refine aj a 0 rfl aH (by simpa using a0.length) rfl (by simpa using a0.one) fun w' a=>?_;obtain ⟨z1,z2,rfl,y1,y2⟩:=id a0;refine ah a 0 rfl dG au rfl ?_;have en:((g.put u.n g.next).emit ⟨4,g.next,0,emptyB⟩).next=g.next:=rfl;rw [en];refine bL (by omega) ?_;refine cq a 0 rfl dG au rfl rfl rfl fun w' a=>?_;exact fin [z1,.int .i64 (g.next+1),z2] S3 _ _ e (N.trans V) ⟨z1,z2,rfl,y1,y2⟩ a
   ·have h3:u.kind=3:=by have:=a6.three; omega
    have e:cT g u=((g.emit ⟨4,g.next,0,emptyB⟩).inc,[(u,g.next)]):=by rw [cT,ag h3]
    refine aq a 3 af e8 rfl ?_;refine ah a 0 rfl dG au rfl ?_;refine BL ?_;refine dB (css:=css) a 2 [.int .i64 u.kind,.int .i64 u.n,.string u.name,a3,.int .i64 g.next] lL (by omega) (by omega) rfl rfl ?_ (by omega) (by omega) fun d2 w' a=>?_
    ·exact RdQ.one (S:=Sj) (x:=(u,g.next)) ⟨[.int .i64 u.kind,.int .i64 u.n,.string u.name,a3],rfl,c2⟩
    have c3:Rows 5 (RdQ Sj) (css++[[.int .i64 u.kind,.int .i64 u.n,.string u.name,a3,.int .i64 g.next]]) (q++[(u,g.next)]):=hR.snoc ⟨_,rfl,c2⟩ rfl;generalize css++[[.int .i64 u.kind,.int .i64 u.n,.string u.name,a3,.int .i64 g.next]]=css2 at a c3;have a:Inv w [] [.blk b2 (.cells #[v1,.int .i64 g.next,v2] aC),B4,aB d2 cY 5 css2,B8] Sj w':=a.pick [true,true,true,true,false];refine aq a 0 aH rfl rfl ?_;refine ah a 0 rfl dG au rfl ?_;refine oz ?_;refine Run.call0E dX dY a (dy ⟨4,g.next,0,emptyB⟩ G (by omega)) fun v' I' S3 w'=>?_;rintro ⟨rfl,c7,rfl,a0⟩ V a;refine aj a 0 rfl aH (by simpa using a0.length) rfl (by simpa using a0.one) fun w' a=>?_;obtain ⟨z1,z2,rfl,y1,y2⟩:=id a0;refine ah a 0 rfl dG au rfl ?_;have en:(g.emit ⟨4,g.next,0,emptyB⟩).next=g.next:=rfl;rw [en];refine bL (by omega) ?_;refine cq a 0 rfl dG au rfl rfl rfl fun w' a=>?_;rw [e];exact ⟨[z1,.int .i64 (g.next+1),z2],S3,css2,V,⟨z1,z2,rfl,y1,y2⟩,c3.monoR fun _ _ h=>h.mono V.1,a.pick [true,true,true,false]⟩
  intro _ _ _ _ _ _ _ _ _ Z _ _ _ _ _ _ _ _ _ _ _ _ _ _ _ _ _ _ _ _ _ _ _ _ _ _ _ _ _ _ _ _ _ _ _ _ _ _ _ _ _ _ _ _ _ _ _ _ _ _ _ _ _ _ _ _ _ _ _ _ _ _ w';rintro ⟨p,Sn,css,c8,c9,hR,a⟩;refine bL (by omega) ?_;have hg:=Rf g u;have hz:=(K2 g u).2;refine ⟨⟨j+1,(cT g u).1,p,Sn,css,q++(cT g u).2,a5,rfl,a8.trans c8,c9,by rw [hg.len]; exact b5,by have:=hg.next; omega,by omega,?_,?_,hR,a⟩,by simp [intOf]; omega⟩
  ·have:(cT g u).2.length<=1:=by
    unfold cT;split
    ·exact aY _
    ·exact aT _
   rw [bt]; omega
  ·rw [hA,cN]
 have e0:j=ts.length:=by omega
 subst e0;rw [eL,bE,dk] at hA;rw [hA];refine aq a 0 aH rfl (by simpa using Y) ?_;refine aj a 1 e4 aH (by simpa using Y) rfl (by simpa using G.one) fun w' a=>?_;refine be a 1 aH rfl (by simpa using Y) ?_;have a:Inv w [] ([.blk b2 (.cells U.toArray aC),.blk b4 (.cells U.toArray aC)]++[aB Z cY 5 css]) Sj w':=a;obtain ⟨S3,V,d6,a⟩:=a.lendExt;exact ⟨_,_,S3,rfl,a.nil,a8.trans V,rfl,U,Z,rfl,G.mono V.1,RowRd.rows (hR.monoR fun _ _ h=>h.mono V.1) d6⟩
end
end
section
open Go Go.RowKit
end
section
open Go Go.RowKit

def XR (l:List Pd) (ts:List T):List Pd:=ts.foldl (fun l t=>if hH t=true then ZQ l (Xf t) else l) l
def SB (l:List Pd) (p:List C) (x:Pd):List Pd:=p.foldl (fun l c=>if YV (Xf c.head) x=true then XR l c.body else l) l
def XG (p:List C) (x:Pd):List Pd:=SB [] p x
section
variable {P:Program} {w w0:World} {X:List Nat} {L:List Item} {S:ai} {K:Value->World->Prop}
end
end
section
open Go Go.RowKit
end
section
open Go Go.RowKit
end
section
open Go Go.RowKit
end
section
open Go Go.RowKit
end
section
open Go Go.ChangeShapes Go.WideShapes Go.ChangeAt Go.RowKit
theorem two {cs:nA} (h:cs.length=2):∃ a b,cs=[a,b]:=by
 match cs,h with
 | [a,b],_=>exact ⟨a,b,rfl⟩
end
section
open Go Go.RowKit
section
variable {br:Nat} {sl:Value} {ys:List Nat}
theorem Pd.one (x:Pd):∀ u∈x.cells,u.oneCell'=true:=by
 intro u g;have a:u∈([.string x.name,ee x.arity]:nA):=g;simp at a;rcases a with rfl|rfl <;> rfl
end
end
section
open Go Go.ChangeShapes Go.WideShapes Go.ChangeAt Go.RowKit
theorem Yw:Tryz.prog.underlying Lr=some (.int .u8):=by kernel_rfl
theorem Wn {H:Type} {enc:TypeId × Value->H} {W:World} {sp:Nat->Bool} {held:Bool} {a:Nat} {cs:nA} {x:DataW H × List MemPlace} (h:DataW.trod enc Tryz.prog W 0 sp held a Lr cs=some x) :
  ∃ n,lY cs n:=by
 cases a with
 | zero=>simp [DataW.trod] at h
 | succ n=>
  unfold DataW.trod at h;rw [Yw] at h;split at h <;> simp_all
  rename_i i j m g
  subst g;obtain ⟨⟨_,h⟩,_⟩:=h;simp only [Lit.wf,bQ,bK] at h;have l:0<=m/\m<=255:=h;exact ⟨m.toNat,by rw [lY,pw (by omega)];exact ⟨rfl,by omega⟩⟩
theorem Gc {H:Type} {enc:TypeId × Value->H} {W:World} {sp:Nat->Bool} {held:Bool} {a:Nat} {v:Value} {x:DataW H × List MemPlace} (h:DataW.trod enc Tryz.prog W 0 sp held a MT [v]=some x) :
  ∃ ys,RdSl (QW W) 1 lY v ys:=WU fD (by omega) h fun _ _ _ _ g=>Wn g
section
variable {w0 w:World} {X:List Nat} {L:List Item} {S:ai} {K:Value->World->Prop}
theorem Ua (t:T):eqT t t=true:=(Rr t t).2 rfl
theorem vA {c0 i:C} {cs ds:nA} (h:RdC S cs c0) (g:RdC S ds i):ru sd [.agg cs.toArray,.agg ds.toArray] S (.bool (eqT c0.head i.head && eqL c0.body i.body)):=by
 intro w a;obtain ⟨N,D,rfl,p,G⟩:=h;obtain ⟨J,l,rfl,q,M⟩:=g;have m:=p;have o:=q;obtain ⟨kv,rfl,_⟩:=RdT.iff.1 p;obtain ⟨j,rfl,_⟩:=RdT.iff.1 q;refine rh.2 ?_;dsimp only[rh,bv];refine bH a fun r w' a=>?_;refine bH a fun B w' a=>?_;have a:Inv w [] [ei r #[ee c0.head.kind,ee c0.head.n,.string c0.head.name,kv,D] ad,ei B #[ee i.head.kind,ee i.head.n,.string i.head.name,j,l] ad] S w':=a;refine ax cV ?_;refine gd a 0 (kB c0.head kv) af rfl rfl ON ?_;refine ax cV ?_;refine gd a 1 (kB i.head j) af rfl rfl ON ?_;refine Run.callPure vk uZ a (pd _ _ S _ _ m o) fun w' a=>?_;cases O:eqT c0.head i.head
 ·refine rpG ?_;exact done a (by rw [jm])
 ·refine rpG ?_;refine ah a 0 rfl bS aw rfl ?_;refine ah a 1 rfl bS aw rfl ?_;refine Run.callPure mh l6 a (xW (fun t _=>pd t) G M) fun w' a=>?_;refine rpG ?_;exact done a (by rw [fk])
theorem qT {c0:C} {cs ds:nA} (h:RdC S cs c0) (g:RdC S ds c0):ru sd [.agg cs.toArray,.agg ds.toArray] S (.bool true):=by
 have:=vA h g
 rwa [Ua,(DE _ _).2 rfl] at this
end
end
section
open Go Go.RowKit
end
section
open Go Go.RowKit

inductive Star (p:List C) (x:Pd):Pd->Prop
 | refl:Star p x x
 | step {y z:Pd}:Star p x y->z∈XG p y->Star p x z
theorem Star.trans {p:List C} {x y z:Pd} (h:Star p x y) (a:Star p y z):Star p x z:=by
 induction a with
 | refl=>exact h
 | step _ g i=>exact .step i g
end
section
open Go Go.RowKit
section
variable {w w0:World} {X:List Nat} {L A:List Item} {S:ai} {K:Value->World->Prop}
end
end
section
open Go Go.RowKit
section
variable {w0 w:World} {X:List Nat} {L:List Item} {S:ai} {K:Value->World->Prop} {ys:List Nat} {v:Value}
end
end
section
open Go Go.RowKit
def LightT (n m:Nat) (q:List T):Prop:=q.length<=n/\∀ t∈q,wT t<=m
theorem LightT.le {n m:Nat} {q:List T} (h:LightT n m q):q.length+wL q<=n+n * m:=by
 have:∀ q:List T,(∀ c∈q,wT c<=m)->wL q<=q.length * m:=by
  intro q;induction q with
  | nil=>intro _;simp [wL]
  | cons c q j=>
   intro h;have g:=h c (bF ..);have i:=j fun d a=>h d (bI _ a);simp only [wL,aP,ip];omega
 have g:=this q h.2;have i:q.length * m<=n * m:=fK _ h.1;have:=h.1;omega
section
variable {w0 w:World} {X:List Nat} {L A:List Item} {S:ai}
end
section
variable {br:Nat} {sl:Value} {ys:List Nat} {S:ai}
end
end
section
open Go Go.RowKit
end
section
open Go Go.RowKit
section
variable {S:ai} {ys:List Nat} {v:Value} {w:World} {K:Value->World->Prop}
theorem Fe {α:Type} {R:nA->α->Prop} {xs:List α} {u:Value} {T ty e:TypeId} {k l h:Nat} {P:Program} (j:dI P T=some (e,k)) (g:RdSl S k R u xs) (m:l<=h) (o:h<=xs.length)
  (hk:∀ v',RdSl S k R v' ((xs.take h).drop l)->K v' w):Run P (sOp (.slice T (.const u) (some (.const (ee l))) (some (.const (ee h))) none) ty) w K:=by
 obtain ⟨a,cap,rfl,p,hc,q⟩:=id g;have i:=g.to o;have e:(if cap=0 then a else a.map (·.add (0 * k)))=a:=by
  split
  ·rfl
  ·cases a <;> simp [Addr.add]
 rw [e] at i;have r:(xs.take h).length=h:=by rw [ig];omega
 have t:=i.from (l:=l) (by omega);exact Ws j m (by omega) (hk _ t)
end
end
section
open Go Go.RowKit
section
abbrev Yb (s:CS × Int):Value->List Item->ai->Prop:=fun r I' S'=>I'=[]/\∃ cs',r=.tuple #[.agg cs'.toArray,ee s.2]/\MkS S' cs' s.1
theorem VL (s:CS) (t:T):(bE s [t]).1=(cT s t).1:=by rw [bE,bE]
set_option maxHeartbeats 2000000 in
theorem Hk:∀ (t:T) (S:ai) (cs ds:nA) (s:CS),MkS S cs s->RdT S ds t->okU 26 t->s.sl.length=26->0<=s.next->s.sz+8 * bR t<=800000000->nB Og [.agg cs.toArray,.agg ds.toArray] [] S (Yb (bn t s)):=by
 refine T.ind fun k n nm ks ih S cs ds s h hd ho hl g5 i4=>?_;intro w g;have n9:=h.length;obtain ⟨kv,rfl,_,_,_,c3⟩:=RdT.iff.1 hd;have h2:∀ t∈ks,okU 26 t:=iQ ho.kids;simp only [T.name,T.kids,T.kind,T.n] at c3 ⊢;have h4:=c3.le;simp only [maxLen] at h4;have i6:bR (.mk k n nm ks)=1+bo ks:=by rw [bR]
 rw [i6] at i4;have o0:=kq ks;have o1:0<=s.sz:=by unfold CS.sz;omega
 refine xE.2 ?_;dsimp only[xE,bv];refine bH g fun b2 w' g=>?_;refine bH g fun b3 w' g=>?_;refine aE g fJ fun b4 w' g=>?_;refine eZ g iX fun lv w' g=>?_;obtain ⟨B3,g6⟩:∃ B3,B3=Item.blk b3 (.cells #[ee k,ee n,.string nm,kv] ac):=⟨_,rfl⟩
 have e3:=congrArg some g6;obtain ⟨B4,g7⟩:∃ B4,B4=Item.blk b4 (.cells #[nx,ee 0,nx] aC):=⟨_,rfl⟩
 have e4:=congrArg some g7;have g:Inv w [] [ei b2 cs.toArray aC,B3,B4,aB lv bV 1 []] S w':=by rw [g6,g7];exact g
 obtain ⟨vs,d4⟩:∃ vs,vs=(bw ks s).2:=⟨_,rfl⟩
 have o2:vs.length=ks.length:=by rw [d4];exact i7 ..
 have i8:∀ i (h:i<ks.length) (h':i<vs.length),(ks[i].kind=3->0<=vs[i])/\(ks[i].kind≠3->vs[i]=-1):=by subst d4;exact (Ga ks s).2 g5
 refine ⟨fun i lv w'=>∃ (j:Nat) (o:CS) (a0:nA) (Sj:ai) (css:List (nA)),j<=ks.length/\i=ee j/\Ext w.heap.size [] S Sj/\MkS Sj a0 o/\o.sl.length=26/\0<=o.next/\o.sz+8 * bo (ks.drop j)<=s.sz+8 * bo ks/\bw ks s=((bw (ks.drop j) o).1,vs)/\vs.drop j=(bw (ks.drop j) o).2/\Rows 1 kH css (vs.take j)/\
   Inv w [] [ei b2 a0.toArray aC,B3,B4,aB lv bV 1 css] Sj w',fun i _ _=>ks.length - (intOf i).toNat,
   ⟨0,s,cs,S,[],aT _,rfl,Ext.refl _ _ _,h,hl,g5,by rw [fe];omega,by rw [fe,d4],by rw [fe,fe,d4],Rows.nil _ _,g⟩,?_⟩
 intro i _ _ lv _ _ _ _ k2 k3 k4 k5 k8 k9 l0 l1 l2 l3 _ _ _ _ _ _ _ _ _ _ _ _ _ w';rintro ⟨j,o,a0,Sj,css,hj,rfl,d1,a7,e7,i0,g0,b7,a8,hR,g⟩;have c8:=c3.monoT d1.1;have e2:=a7.length;refine ah g 1 e3 az aw rfl ?_;refine aO c8 ao ?_;refine cd ?_;refine aJ (fun f2=>?_) (fun f2=>?_)
 ·have Y:j<ks.length:=by omega
  have a6:j<vs.length:=by omega
  obtain ⟨u,hu⟩:∃ u,u=ks[j]:=⟨_,rfl⟩
  have d9:okU 26 u:=by rw [hu];exact h2 _ (cO Y)
  have i9:=ih u (by rw [hu];exact cO Y);have o3:=ch (ks.drop (j+1));rw [mz ks j Y,<- hu] at g0;rw [Fj ks o j Y,<- hu] at b7 a8;simp only [ef a6,uW] at a8;have o4:=dw u;refine ⟨fun z w'=>z=ee vs[j]/\∃ (J:nA) (Sn:ai),Ext w.heap.size [] Sj Sn/\MkS Sn J (if u.kind=3 then bn u o else (o,-1)).1/\Inv w [] [ei b2 J.toArray aC,B3,B4,aB lv bV 1 css] Sn w',?_,?_⟩
  ·refine ah g 1 e3 az aw rfl ?_;refine WE g c8 ao aW au Y (u:=ee u.kind) (fun cs d3=>by
    rw [<- hu] at d3;obtain ⟨_,rfl,_⟩:=RdT.iff.1 d3;rfl) ?_
   refine a9 ?_;refine aJ (fun h3=>?_) (fun h3=>?_)
   ·rw [ag h3] at b7 a8 ⊢;have hJ:=g;obtain ⟨bq,oq,cap,c,E,fz,rfl,f3,c1⟩:=c8.at_ Y;have g:=hJ;clear hJ;rw [<- hu] at c1;obtain ⟨du,g8⟩:∃ du,du=bJ c (oq+j * 4) 4:=⟨_,rfl⟩
    rw [<- g8] at c1;refine ⟨fun D x8 uh oN lW uq xG CJ zb uQ sM wz w_=>Fx D 0 [wz=.agg a0.toArray,sM=kh b3 3,uQ=kt bq oq ks.length cap,zb=ee (j:Int),CJ=kh bq (oq+j * 4),xG=.agg du.toArray,True,True,True,True,True,True]/\∃ S2 a,Ext w.heap.size [] Sj S2/\(D 6=false->S2=Sj)/\(D 6=true->uq=.tuple #[.agg (List.toArray a),ee (bn u o).2]/\MkS S2 a (bn u o).1)/\(D 7=true->D 6=true/\lW=.tuple #[.agg (List.toArray a),ee (bn u o).2])/\(D 8=true->D 6=true/\oN=.agg (List.toArray a))/\(D 9=true->uh=ee (bn u o).2)/\(D 10=true->D 0=true/\D 6=true)/\(D 11=true->x8=ee (bn u o).2)/\Inv w [] [ei b2 (cond (D 10) (List.toArray a) a0.toArray) aC,B3,B4,aB lv bV 1 css] S2 w_,⟨Fx.nil _ _,⟨Sj,[],Ext.refl _ _ _,fun _=>rfl,aU,aU,aU,aU,aU,aU,g.draw⟩⟩,⟨?_,?_,?_,?_,?_,?_,?_,?_,?_,?_,?_,?_,trivial⟩,?_⟩;all_goals (intro D bp;intros;rename_i x8 uh oN lW uq xG CJ zb uQ sM wz w_ a4;have m:=a4.1;obtain ⟨⟨cF,ci,cG,cD,bU,cH,cj,cR,dJ,dQ,cJ,dv,_⟩,⟨S2,a,O,k6,M,r,C,N,p,V,g⟩⟩:=a4)
    ·have cJ:D 10=false:=bA.2 fun h=>by rw [(p h).1] at bp;cases bp
     refine aq (c:=a0.toArray) g 0 aH (by rw [cJ];rfl) (by simpa using e2) ?_;have p:=fun (h:aF D 0 10=true)=>(⟨rfl,(p h).2⟩:aF D 0 0=true/\aF D 0 6=true)
     exact ⟨m.set 0 rfl,⟨S2,a,O,k6,M,r,C,N,p,V,g⟩⟩
    ·refine ax az ?_;exact ⟨m.set 1 rfl,⟨S2,a,O,k6,M,r,C,N,p,V,g⟩⟩
    ·obtain rfl:=ci ‹_›;refine aG g 1 aw e3 rfl ?_;exact ⟨m.set 2 rfl,⟨S2,a,O,k6,M,r,C,N,p,V,g⟩⟩
    ·exact ⟨m.set 3 rfl,⟨S2,a,O,k6,M,r,C,N,p,V,g⟩⟩
    ·obtain rfl:=cG ‹_›;obtain rfl:=cD ‹_›;refine aN ao Y ?_;exact ⟨m.set 4 rfl,⟨S2,a,O,k6,M,r,C,N,p,V,g⟩⟩
    ·obtain rfl:=bU ‹_›;refine eE (cs:=du) af c1.length (fun f v hf=>by rw [g.cellS (O.1 _ _ f3)];exact bf g8.symm f v hf) ?_;exact ⟨m.set 5 rfl,⟨S2,a,O,k6,M,r,C,N,p,V,g⟩⟩
    ·obtain rfl:=cF ‹_›;obtain rfl:=cH ‹_›;have cJ:D 10=false:=bA.2 fun h=>by rw [(p h).2] at bp;cases bp
     rw [k6 bp,cJ] at g;refine Run.call0E yg yY g (i9 Sj a0 du o a7 c1 d9 e7 i0 (by omega)) fun v' I' S2 w_=>?_;rintro ⟨rfl,a,rfl,e8⟩ f0 g;have g:Inv w [] [ei b2 (cond (aF D 6 10) (List.toArray a) a0.toArray) aC,B3,B4,aB lv bV 1 css] S2 w_:=by
      show Inv w [] [ei b2 (cond (D 10) (List.toArray a) a0.toArray) aC,B3,B4,aB lv bV 1 css] S2 w_;rw [cJ];exact g
     have k6:aF D 6 6=false->S2=Sj:=fun h=>absurd (show true=false from h) (by decide);have M:=fun (_:aF D 6 6=true)=>(⟨rfl,e8⟩:Value.tuple #[.agg (List.toArray a),ee (bn u o).2]=.tuple #[.agg (List.toArray a),ee (bn u o).2]/\MkS S2 a (bn u o).1)
     have r:=fun (h:aF D 6 7=true)=>(absurd (r h).1 (by rw [bp];decide):aF D 6 6=true/\lW=.tuple #[.agg (List.toArray a),ee (bn u o).2])
     have C:=fun (h:aF D 6 8=true)=>(absurd (C h).1 (by rw [bp];decide):aF D 6 6=true/\oN=.agg (List.toArray a))
     have p:=fun (h:aF D 6 10=true)=>(absurd (p h).2 (by rw [bp];decide):aF D 6 0=true/\aF D 6 6=true)
     have O:=f0;exact ⟨m.set 6 (by first|assumption|trivial),⟨S2,a,O,k6,M,r,C,N,p,V,g⟩⟩
    ·have vV:=cj ‹_›;have r:=fun (_:aF D 7 7=true)=>(⟨‹D 6=true›,(M ‹D 6=true›).1⟩:aF D 7 6=true/\uq=.tuple #[.agg (List.toArray a),ee (bn u o).2])
     exact ⟨m.set 7 (by first|assumption|trivial),⟨S2,a,O,k6,M,r,C,N,p,V,g⟩⟩
    ·have Ch:=cR ‹_›;obtain ⟨d6,c4⟩:=r ‹D 7=true›;subst c4;refine aA rfl ?_;have C:=fun (_:aF D 8 8=true)=>(⟨d6,rfl⟩:aF D 8 6=true/\Value.agg (List.toArray a)=.agg (List.toArray a))
     exact ⟨m.set 8 (by first|assumption|trivial),⟨S2,a,O,k6,M,r,C,N,p,V,g⟩⟩
    ·have Ch:=cR ‹_›;obtain ⟨d6,c4⟩:=r ‹D 7=true›;subst c4;refine aA rfl ?_;have N:=fun (_:aF D 9 9=true)=>(rfl:Value.int .i64 (bn u o).2=ee (bn u o).2)
     exact ⟨m.set 9 (by first|assumption|trivial),⟨S2,a,O,k6,M,r,C,N,p,V,g⟩⟩
    ·have z4:=dJ ‹_›;obtain ⟨d6,g9⟩:=C ‹D 8=true›;subst g9;have hM:=(M d6).2;rw [bp] at g;refine aj g 0 rfl aH (by simpa using hM.length) (by simpa using e2) (by simpa using hM.one) fun w_ g=>?_;have p:=fun (_:aF D 10 10=true)=>(⟨‹D 0=true›,‹D 6=true›⟩:aF D 10 0=true/\aF D 10 6=true)
     exact ⟨m.set 10 trivial,⟨S2,a,O,k6,M,r,C,N,p,V,g⟩⟩
    ·have Ds:=dQ ‹_›;have V:=fun (_:aF D 11 11=true)=>(N ‹D 9=true›:uh=ee (bn u o).2)
     exact ⟨m.set 11 (by first|assumption|trivial),⟨S2,a,O,k6,M,r,C,N,p,V,g⟩⟩
    obtain ⟨rfl,rfl,rfl,rfl,rfl,rfl,vV,Ch,z4,Ds,_,SR,_⟩:=m.all;have F5:D 6=true:=by assumption
    have C3:D 10=true:=by assumption
    have qb:D 11=true:=by assumption
    clear m cF ci cG cD bU cH cj cR dJ dQ cJ dv;rw [C3] at g;obtain ⟨_,hM⟩:=M F5;rw [V qb];exact ⟨by rw [a8.1],a,S2,O,hM,g⟩
   ·rw [ae h3] at b7 a8 ⊢;exact ⟨by rw [a8.1],a0,Sj,Ext.refl _ _ _,a7,g⟩
  intro z _ _ _ _ _ _ _ _ _ _ _ _ _ _ _ _ _ w';rintro ⟨rfl,J,Sn,b8,b0,g⟩;have h5:=hR.hc;rw [ig] at h5;refine vy (css:=css) g 3 iX rfl rfl rfl (by omega) (by omega) fun n5 w' g=>?_;refine bL (by omega) ?_;have hg:Gn o (if u.kind=3 then bn u o else (o,-1)).1/\(if u.kind=3 then bn u o else (o,-1)).1.sz<=o.sz+8 * bR u:=by
   split
   ·exact ⟨(tG u o).1,by have:=(mE u o).2;omega⟩
   ·exact ⟨.refl o,by show o.sz<=_;omega⟩
  refine ⟨⟨j+1,_,J,Sn,_,Y,rfl,d1.trans b8,b0,by rw [hg.1.len];exact e7,by have:=hg.1.next;omega,by have:=hg.2;omega,b7,a8.2,?_,g⟩,by simp [intOf];omega⟩;rw [gt a6];exact hR.snoc (cs:=[ee vs[j]]) rfl rfl
 have f5:j=ks.length:=by omega
 subst f5;have f6:ks.drop ks.length=[]:=eL;rw [f6,bw] at b7;rw [f6,bo] at g0;have h6:bw ks s=(o,vs):=b7;rw [wd (by omega)] at hR;have f7:=(xt ks s).2;rw [h6] at f7;have f7:o.sz+2 * ks.length<=s.sz+8 * bo ks:=f7;have j0:o.sz<=900000000:=by omega
 have k0:o.next<=900000000/\o.code.length<=900000000:=by
  have hb:=j0;unfold CS.sz at hb;omega
 have g:Inv w [] ([ei b2 a0.toArray aC,B3,B4]++[aB lv bV 1 css]) Sj _:=g;obtain ⟨S4,f4,i5,g⟩:=g.lendExt;have f8:RdSl S4 1 kH lv vs:=RowRd.rows hR i5;have a7:=a7.mono f4.1;obtain ⟨v1,v2,rfl,g1,g2⟩:=id a7;refine ah g 0 rfl dG au rfl ?_;refine bL (by omega) ?_;refine cq g 0 rfl dG au rfl rfl rfl fun w' g=>?_;have g:Inv w [] [ei b2 #[v1,ee (o.next+1),v2] aC,B3,B4] S4 w':=g;refine aq g 0 aH rfl rfl ?_;refine ah g 1 e3 az aw rfl ?_;have h7:=c3.monoT (d1.trans f4).1;refine aO h7 ao ?_;refine ah g 1 e3 bu aV rfl ?_;refine Lu ?_;have h8:MkS S4 [v1,ee (o.next+1),v2] o.inc:=⟨v1,v2,rfl,g1,g2⟩
 refine Run.call0E dX dY g (dy (s:=o.inc) ⟨7,ks.length,o.next,nm⟩ h8 (by show o.code.length<=_;omega)) fun v' I' S5 w'=>?_;rintro ⟨rfl,f1,rfl,c2⟩ g3 g;refine aj g 0 rfl aH (by simpa using c2.length) rfl (by simpa using c2.one) fun w' g=>?_;have g:Inv w [] [ei b2 f1.toArray aC,B3,B4] S5 w':=g;have e5:=(d1.trans f4).trans g3;have f8:=f8.monoN g3.1;obtain ⟨sf,c5⟩:∃ sf,sf=(o.emit ⟨7,ks.length,o.next,nm⟩).inc:=⟨_,rfl⟩
 have o5:sf.sz=o.sz+2:=by rw [c5,zQ,fI];omega
 have j1:bn (.mk k n nm ks) s=(dd sf ks vs,o.next):=by rw [bn,h6,c5]
 have c2:MkS S5 f1 sf:=by rw [c5];exact c2
 have j2:sf.sl.length=26:=by rw [c5];exact e7
 have j3:0<=sf.next:=by rw [c5];show 0<=o.next+1;omega
 rw [j1];clear a7 h8 hR;refine ⟨fun i w'=>∃ (j:Nat) (U:CS) (J:nA) (Sn:ai),j<=ks.length/\i=ee j/\Ext w.heap.size [] S5 Sn/\MkS Sn J U/\U.sl.length=26/\0<=U.next/\U.sz<=sf.sz+2 * j/\dd sf ks vs=dd U (ks.drop j) (vs.drop j)/\
   Inv w [] [ei b2 J.toArray aC,B3,B4] Sn w',fun i _=>ks.length - (intOf i).toNat,
   ⟨0,sf,f1,S5,aT _,rfl,Ext.refl _ _ _,c2,j2,j3,by omega,by rw [fe,fe],g⟩,?_⟩
 intro i _ _ _ l4 l5 l6 l7 l8 l9 m0 m1 m2 m3 m4 m5 m6 m7 m8 m9 n0 n1 n2 n3 _ _ _ _ _ _ _ _ _ _ w';rintro ⟨j,U,J,Sn,hj,rfl,b8,b0,g4,i1,n4,d2,g⟩;have c9:=c3.monoT (e5.trans b8).1;have e6:=f8.monoN b8.1;have a2:=b0.length;refine ah g 1 e3 az aw rfl ?_;refine aO c9 ao ?_;refine cd ?_;refine aJ (fun f2=>?_) (fun f2=>?_)
 ·have Y:j<ks.length:=by omega
  have a6:j<vs.length:=by omega
  obtain ⟨u,hu⟩:∃ u,u=ks[j]:=⟨_,rfl⟩
  have d9:okU 26 u:=by rw [hu];exact h2 _ (cO Y)
  have e1:=i8 j Y a6;rw [<- hu] at e1;rw [DZ ks vs U j Y a6,<- hu] at d2;have j4:U.sz<=900000000:=by omega
  have k1:U.next<=900000000/\U.code.length<=900000000:=by
   have hb:=j4;unfold CS.sz at hb;omega
  refine ⟨fun w'=>∃ (d0:nA) (Sm:ai),Ext w.heap.size [] Sn Sm/\MkS Sm d0 (if u.kind=3 then U.emit ⟨5,vs[j],0,emptyB⟩ else fy U u)/\Inv w [] [ei b2 d0.toArray aC,B3,B4] Sm w',?_,?_⟩
  ·refine jq g e6 ff au a6 (fun cs d3=>d3) ?_;refine iK ?_;refine aJ (fun h0=>?_) (fun h0=>?_)
   ·have h3:u.kind=3:=by
     rcases d9.three with e|e|e
     ·have:=e1.2 (by omega);omega
     ·have:=e1.2 (by omega);omega
     ·exact e
    rw [ag h3];have hJ:=g;obtain ⟨bq,oq,cap,c,E,fz,rfl,f3,c1⟩:=e6.at_ a6;have g:=hJ;clear hJ;refine ⟨fun D Vl Uy To SE TQ TM Tq w_=>Fx D 0 [Tq=.agg J.toArray,TM=kt bq oq vs.length cap,TQ=ee (j:Int),SE=kh bq (oq+j * 1),To=ee vs[j],Uy=.agg (Ist.cells ⟨5,vs[j],0,emptyB⟩).toArray,True,True]/\∃ n_:Nat,n_<=2/\D 6=decide (1<=n_)/\D 7=decide (2<=n_)/\(emS w [] (fun c=>[ei b2 c aC,B3,B4]) Sn J.toArray (U.emit ⟨5,vs[j],0,emptyB⟩) Vl w_ n_/\(D 7=true->D 0=true)),⟨Fx.nil _ _,⟨0,aT _,rfl,rfl,⟨g.draw,aU⟩⟩⟩,⟨?_,?_,?_,?_,?_,?_,?_,?_,trivial⟩,?_⟩;all_goals (intro D bp;intros;rename_i Vl Uy To SE TQ TM Tq w_ a4;have m:=a4.1;obtain ⟨⟨cF,ci,cG,cD,bU,cH,cj,cR,_⟩,⟨n_,b6,a3,a1,hS⟩⟩:=a4)
    ·have cR:D 7=false:=bA.2 fun h=>by rw [hS.2 h] at bp;cases bp
     obtain ⟨S6,a5,g⟩:=hS.1.inv (SP a1 cR);refine aq g 0 aH rfl (by simpa using a2) ?_;have hS:=And.intro hS.1 (fun (_:aF D 0 7=true)=>(rfl:aF D 0 0=true));exact ⟨m.set 0 rfl,⟨n_,b6,a3,a1,hS⟩⟩
    ·exact ⟨m.set 1 rfl,⟨n_,b6,a3,a1,hS⟩⟩
    ·exact ⟨m.set 2 rfl,⟨n_,b6,a3,a1,hS⟩⟩
    ·obtain rfl:=ci ‹_›;obtain rfl:=cG ‹_›;refine aN ff a6 ?_;exact ⟨m.set 3 rfl,⟨n_,b6,a3,a1,hS⟩⟩
    ·obtain rfl:=cD ‹_›;obtain ⟨S6,c6,a5,g⟩:=hS.1.any;refine eD (v:=ee vs[j]) au (by rw [g.cellS (a5 _ _ f3)];exact bf c1 0 _ rfl) ?_;exact ⟨m.set 4 rfl,⟨n_,b6,a3,a1,hS⟩⟩
    ·obtain rfl:=bU ‹_›;refine oz ?_;exact ⟨m.set 5 rfl,⟨n_,b6,a3,a1,hS⟩⟩
    ·obtain rfl:=cF ‹_›;obtain rfl:=cH ‹_›;obtain rfl:n_=0:=jv a3 bp;refine Run.call0E dX dY hS.1 (dy ⟨5,vs[j],0,emptyB⟩ b0 (by omega)) fun v' I' S6 w_=>?_;rintro ⟨rfl,b1,rfl,b5⟩ a5 g;have f9:emS w [] (fun c=>[ei b2 c aC,B3,B4]) Sn J.toArray (U.emit ⟨5,vs[j],0,emptyB⟩) (.agg b1.toArray) w_ 1:=⟨S6,b1,rfl,b5,a5,g⟩
     exact ⟨m.set 6 (by first|assumption|trivial),⟨1,by decide,rfl,(by first|exact a1|rfl),⟨f9,hS.2⟩⟩⟩
    ·have vV:=cj ‹_›;obtain rfl:n_=1:=gg a3 ‹D 6=true› a1 bp;obtain ⟨S6,b1,rfl,b5,a5,g⟩:=hS.1;refine aj g 0 rfl aH (by simpa using b5.length) (by simpa using a2) (by simpa using b5.one) fun w_ g=>?_;have f9:emS w [] (fun c=>[ei b2 c aC,B3,B4]) Sn J.toArray (U.emit ⟨5,vs[j],0,emptyB⟩) (.agg b1.toArray) w_ 2:=⟨S6,b1,b5,a5,g⟩
     exact ⟨m.set 7 trivial,⟨2,by decide,(by first|exact a3|rfl),rfl,⟨f9,fun _=>‹D 0=true›⟩⟩⟩
    obtain rfl:n_=2:=jD b6 a1 ‹D 7=true›;clear a3 a1;obtain ⟨S6,b1,b5,a5,g⟩:=hS.1;exact ⟨b1,S6,a5,b5,g⟩
   ·have h3:u.kind≠3:=fun e=>h0 (e1.1 e);rw [ae h3];have hJ:=g;obtain ⟨ka,kc,rfl,n6,n7,n8⟩:=id c9;have g:=hJ;clear hJ;have j5:(bE U [u]).1=fy U u:=by rw [VL,cT,ae h3]
    refine ⟨fun D GI my GH DL WO G1 NY Ly RQ Rv Rd OD L4 w_=>Fx D 0 [L4=.agg J.toArray,OD=kh b3 3,Rd=.slice ka ks.length kc,Rv=ee (j:Int),RQ=ee (j:Int),Ly=ee ((j+1:Nat):Int),True,True,True,True,True,True,True,True]/\∃ S2 a u2,Ext w.heap.size [] Sn S2/\(D 7=false->S2=Sn)/\(D 6=true->RdSl Sn 4 (RdT Sn) NY [u])/\(D 7=true->G1=.tuple #[.agg (List.toArray a),u2]/\MkS S2 a (bE U [u]).1)/\(D 8=true->D 7=true/\WO=.tuple #[.agg (List.toArray a),u2])/\(D 9=true->D 7=true/\DL=.agg (List.toArray a))/\(D 12=true->D 7=true)/\nwP w [] [ei b2 J.toArray aC,B3,B4] aC #[nx,ee 0,nx] (fun _ q=>q=List.toArray a) (D 11) (D 12) my S2 w_,⟨Fx.nil _ _,⟨Sn,[],undef,Ext.refl _ _ _,fun _=>rfl,aU,aU,aU,aU,aU,nwP.mk g.draw _⟩⟩,⟨?_,?_,?_,?_,?_,?_,?_,?_,?_,?_,?_,?_,?_,?_,trivial⟩,?_⟩;all_goals (intro D bp;intros;rename_i GI my GH DL WO G1 NY Ly RQ Rv Rd OD L4 w_ a4;have m:=a4.1;obtain ⟨⟨cF,ci,cG,cD,bU,cH,cj,cR,dJ,dQ,cJ,dv,eG,gL,_⟩,⟨S2,a,u2,O,k7,M,r,C,N,G,Z⟩⟩:=a4)
    ·obtain ⟨B,g⟩:=Z.inv;refine aq g 0 aH rfl (by simpa using a2) ?_;exact ⟨m.set 0 rfl,⟨S2,a,u2,O,k7,M,r,C,N,G,Z⟩⟩
    ·refine ax az ?_;exact ⟨m.set 1 rfl,⟨S2,a,u2,O,k7,M,r,C,N,G,Z⟩⟩
    ·obtain rfl:=ci ‹_›;obtain ⟨B,g⟩:=Z.inv;refine aG g 1 aw e3 rfl ?_;exact ⟨m.set 2 rfl,⟨S2,a,u2,O,k7,M,r,C,N,G,Z⟩⟩
    ·exact ⟨m.set 3 rfl,⟨S2,a,u2,O,k7,M,r,C,N,G,Z⟩⟩
    ·exact ⟨m.set 4 rfl,⟨S2,a,u2,O,k7,M,r,C,N,G,Z⟩⟩
    ·obtain rfl:=bU ‹_›;refine bL (by omega) ?_;exact ⟨m.set 5 rfl,⟨S2,a,u2,O,k7,M,r,C,N,G,Z⟩⟩
    ·obtain rfl:=cG ‹_›;obtain rfl:=cD ‹_›;obtain rfl:=cH ‹_›;refine Fe ao c9 (l:=j) (h:=j+1) (by omega) (by omega) fun v9 h9=>?_;have e9:(ks.take (j+1)).drop j=[u]:=by rw [gt Y,List.drop_left' (by rw [ig];omega),hu]
     rw [e9] at h9;have M:=fun (_:aF D 6 6=true)=>h9;exact ⟨m.set 6 (by first|assumption|trivial),⟨S2,a,u2,O,k7,M,r,C,N,G,Z⟩⟩
    ·obtain rfl:=cF ‹_›;have vV:=cj ‹_›;have eG:D 12=false:=bA.2 fun h=>by rw [G h] at bp;cases bp
     obtain ⟨b9,q9,y1,y2,y3,y4,g⟩:=Z;rw [k7 bp] at g;refine Run.call0E Bq CM g (zC b0 (M ‹D 6=true›) (fun t ht=>by rw [bM.1 ht];exact d9) g4 i1 (by simp only [lG];omega)) fun v' I' S2 w_=>?_;rintro ⟨rfl,a,u2,rfl,e8,_⟩ f0 g;rw [dk] at g;have Z:nwP w [] [ei b2 J.toArray aC,B3,B4] aC #[nx,ee 0,nx] (fun _ q=>q=List.toArray a) (aF D 7 11) (aF D 7 12) my S2 w_:=⟨b9,q9,y1,y2,y3,fun h=>(by have h:D 12=true:=h;rw [eG] at h;cases h),g⟩
     have k7:aF D 7 7=false->S2=Sn:=fun h=>absurd (show true=false from h) (by decide);have r:=fun (_:aF D 7 7=true)=>(⟨rfl,e8⟩:Value.tuple #[.agg (List.toArray a),u2]=.tuple #[.agg (List.toArray a),u2]/\MkS S2 a (bE U [u]).1)
     have C:=fun (h:aF D 7 8=true)=>(absurd (C h).1 (by rw [bp];decide):aF D 7 7=true/\WO=.tuple #[.agg (List.toArray a),u2])
     have N:=fun (h:aF D 7 9=true)=>(absurd (N h).1 (by rw [bp];decide):aF D 7 7=true/\DL=.agg (List.toArray a))
     have G:=fun (_:aF D 7 12=true)=>(rfl:aF D 7 7=true)
     have O:=f0;exact ⟨m.set 7 (by first|assumption|trivial),⟨S2,a,u2,O,k7,M,r,C,N,G,Z⟩⟩
    ·have Ch:=cR ‹_›;have C:=fun (_:aF D 8 8=true)=>(⟨‹D 7=true›,(r ‹D 7=true›).1⟩:aF D 8 7=true/\G1=.tuple #[.agg (List.toArray a),u2])
     exact ⟨m.set 8 (by first|assumption|trivial),⟨S2,a,u2,O,k7,M,r,C,N,G,Z⟩⟩
    ·have z4:=dJ ‹_›;obtain ⟨d7,c7⟩:=C ‹D 8=true›;subst c7;refine aA rfl ?_;have N:=fun (_:aF D 9 9=true)=>(⟨d7,rfl⟩:aF D 9 7=true/\Value.agg (List.toArray a)=.agg (List.toArray a))
     exact ⟨m.set 9 (by first|assumption|trivial),⟨S2,a,u2,O,k7,M,r,C,N,G,Z⟩⟩
    ·have z4:=dJ ‹_›;obtain ⟨d7,c7⟩:=C ‹D 8=true›;subst c7;refine aA rfl ?_;exact ⟨m.set 10 (by first|assumption|trivial),⟨S2,a,u2,O,k7,M,r,C,N,G,Z⟩⟩
    ·refine Z.alloc bp fJ rfl fun v9 w_ Z=>?_;exact ⟨m.set 11 (by first|assumption|trivial),⟨S2,a,u2,O,k7,M,r,C,N,G,Z⟩⟩
    ·have SR:=dv ‹_›;have Ds:=dQ ‹_›;obtain ⟨d7,h1⟩:=N ‹D 9=true›;subst h1;have hM:=(r d7).2;refine Z.store ‹D 11=true› bp aH (by simpa using hM.length) rfl (by simpa using hM.one) rfl fun w_ Z=>?_;have G:=fun (_:aF D 12 12=true)=>(‹D 7=true›:aF D 12 7=true)
     exact ⟨m.set 12 trivial,⟨S2,a,u2,O,k7,M,r,C,N,G,Z⟩⟩
    ·have xg:=cJ ‹_›;exact ⟨m.set 13 (by first|assumption|trivial),⟨S2,a,u2,O,k7,M,r,C,N,G,Z⟩⟩
    obtain ⟨rfl,rfl,rfl,rfl,rfl,rfl,vV,Ch,z4,Ds,xg,SR,_,ZW,_⟩:=m.all;have nI:D 7=true:=by assumption
    have qb:D 11=true:=by assumption
    have r4:D 12=true:=by assumption
    clear m cF ci cG cD bU cH cj cR dJ dQ cJ dv eG gL;rw [qb,r4] at Z;obtain ⟨_,hM⟩:=r nI;obtain ⟨b9,q9,rfl,rfl,g⟩:=Z.fin;rw [j5] at hM;refine aq g 3 aH rfl (by simpa using hM.length) ?_;refine aj g 0 rfl aH (by simpa using hM.length) (by simpa using a2) (by simpa using hM.one) fun w' g=>?_;exact ⟨a,S2,O,hM,g.pick [true,true,true,false]⟩
  intro _ _ _ _ _ _ _ _ _ _ _ _ _ _ _ _ _ _ _ _ _ _ _ _ _ _ w';rintro ⟨d0,Sm,i2,i3,g⟩;refine bL (by omega) ?_;have hg:Gn U (if u.kind=3 then U.emit ⟨5,vs[j],0,emptyB⟩ else fy U u)/\(if u.kind=3 then U.emit ⟨5,vs[j],0,emptyB⟩ else fy U u).sz<=U.sz+2:=by
   split
   ·exact ⟨.emit U _,by rw [fI];omega⟩
   ·exact ⟨Ll U u,(DC U u).2⟩
  exact ⟨⟨j+1,_,d0,Sm,Y,rfl,b8.trans i2,i3,by rw [hg.1.len];exact g4,by have:=hg.1.next;omega,by have:=hg.2;omega,d2,g⟩,by simp [intOf];omega⟩
 have f5:j=ks.length:=by omega
 subst f5;have e0:dd U [] (vs.drop ks.length)=U:=by rw [dd];all_goals simp
 rw [f6,e0] at d2;rw [d2];refine aq g 0 aH rfl (by simpa using a2) ?_;refine aj g 2 e4 aH (by simpa using a2) rfl (by simpa using b0.one) fun w' g=>?_;refine be g 2 aH rfl (by simpa using a2) ?_;exact ⟨_,_,Sn,rfl,g.nil,e5.trans b8,rfl,J,rfl,b0⟩
end
end
end Go.Proofs.YtjbcdmheajljpaaGreat

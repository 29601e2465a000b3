/- impl's reader: code read. -/
import Derived.Test.YtjbcdmheajljpaaGreatZRdA
import Derived.Test.YtjbcdmheajljpaaGreatZRd15
namespace Go.Proofs.YtjbcdmheajljpaaGreat
attribute [local irreducible] Run CondV aI bg
section
open Go Go.RowKit
def Xm (rb sb mb lb ab:Nat) (o:Option (RI × List T)):Value->List Item->ai->Prop:=fun q I' S'=>match o with
 | none=>∃ u,q=.tuple #[u,.bool false]
 | some (s',us)=>∃ u,q=.tuple #[u,.bool true]/\RdSl S' 4 (RdT S') u us/\RdI rb sb mb lb ab S' s' I'
theorem RdM.up {S S':ai} {s:RI} {a g j:Array MapEntry} {tr:List Int} (h:RdM S s a g j tr) (i:Sle S S'):RdM S' s a g j tr:=⟨h.sl.up i,h.ar.up i,h.st.up i,h.tr⟩
theorem H2 (a:Sl) {k:Nat} (h:r2 a k=none):∀ m,k<=m->r2 a m=none
 | 0,hm=>by
  obtain rfl:k=0:=by omega
  exact h
 | m+1,hm=>by
  by_cases e:k=m+1
  ·rw [<- e];exact h
  ·rw [r2,H2 a h m (by omega)];rfl
def Vy (w:World) (X:List Nat) (S:ai) (N rb sb mb lb ab:Nat) (s:RI) (xs:List Ist) (J:Nat) (lv:Value) (w':World):Prop:=
 ∃ (sj:RI) (f:Nat) (out:List T) (css:List (List Value)) (Sj:ai) (esL:Array MapEntry) (ckL:Nat) (esA:Array MapEntry) (ckA:Nat) (es:Array MapEntry) (ck:Nat) (tv:Value) (tr:List Int),readI xs.length s xs []=readI f sj (xs.drop J) out/\(xs.drop J).length<=f/\okRd N sj/\sj.fr+(xs.length - J)<=N/\out.length<=J/\Ext w.heap.size X S Sj/\RdM Sj sj esL esA es tr/\Rows 4 (RdT Sj) css out/\
  Inv w X (xb rb sb mb lb ab sj.fr esL ckL esA ckA es ck tv tr++[aB lv ac 4 css]) Sj w'
theorem Ub {a g i j l:Nat} {o:Option RI} {q:Value} {I':List Item} {S':ai} (h:vS a g i j l o q I' S'):q=.bool o.isSome:=by
 cases o with
 | none=>exact h
 | some s=>exact h.1
def inS (w:World) (X:List Nat) (S:ai) (I:List Item) (R:List Item) (P:Value->List Item->ai->Prop) (x:Value) (w':World):Nat->Prop
 | 0=>Inv w X (R++I) S w'
 | _=>∃ S2 I',P x I' S2/\Ext w.heap.size X S S2/\Inv w X (R++I') S2 w'
theorem inS.any {w:World} {X:List Nat} {S:ai} {I R:List Item} {P:Value->List Item->ai->Prop} {x:Value} {w':World}:∀ {n:Nat},inS w X S I R P x w' n->∃ S2 I',Inv w X (R++I') S2 w'
 | 0,h=>⟨_,_,h⟩
 | _+1,⟨_,_,_,_,h⟩=>⟨_,_,h⟩
section
variable {w:World} {K:Value->World->Prop} {P:Program}
theorem JU {T:TypeId} {g h:Bool} {a b c:Int} (e:a+b=c) (i:-9223372036854775808<=c/\c<=9223372036854775807) (hk:K (ee c) w):Run P (el .add T g h (ee a) (ee b)) w K:=by
 subst e;exact bL i hk
theorem TA {cs:List Bool} {a b c:Int} (e:(if b<a then b else a)=c) (hk:K (ee c) w):Run Tryz.prog (co .min #[bV,bV] bV cs [ee a,ee b]) w K:=by
 subst e;refine Run.of ?_ hk;simp [co,builtin,Builtin.min_,Builtin.min2]
theorem tV {a:Int} {s:ByteArray} (hk:K (.agg #[ee a,ee 0,.string s,nx]) w):Run Tryz.prog (cr ac [(0,ee a),(2,.string s)]) w K:=by
 refine Run.of (v:=.agg #[ee a,ee 0,.string s,nx]) (w':=w) ?_ hk;unfold cr;rw [Sem.run_bind,run_build w ac _ #[ee a,ee 0,.string s,nx] (by kernel_rfl),Result.andThen_ok];rfl
theorem Np (nm:ByteArray) (S:ai):ru Tx [.string nm] S (.agg #[ee 3,ee 0,.string nm,nx]):=by
 intro w a;refine IH.2 ?_;dsimp only[IH,bd];refine aE a aQ fun g w' a=>?_;refine tV ?_;refine aj a 0 rfl af rfl rfl (by simp [Value.oneCell']) fun w' a=>?_;refine be a 0 af rfl rfl ?_;exact done a rfl
end
theorem Rk (S:ai) (nm:ByteArray) (h:nm.size<=maxLen):RdT S [ee 3,ee 0,.string nm,nx] (.mk 3 0 nm []):=
 RdT.iff.2 ⟨_,rfl,by simp [inI,T.kind],by simp [inI,T.n],h,⟨none,0,rfl,aY _,aT _,.inl rfl⟩⟩
section
variable {S:ai}
set_option maxHeartbeats 4000000 in
theorem PM {N rb V Y Z U:Nat} (hN:N<=1000000) {s:RI} (hs:okRd N s) {xs:List Ist} {v:Value} (h:RdSl S 4 (cZ S) v xs) (f6:s.fr+xs.length<=N) (b7:∀ y∈xs,inI y.a/\y.name.size<=6) {C:Array MapEntry} {J:Nat} {B:Array MapEntry} {G:Nat} {es:Array MapEntry} {ck:Nat} {tv:Value} {tr:List Int} (hm:RdM S s C B es tr) :
  nB AD [hV rb,v] (xb rb V Y Z U s.fr C J B G es ck tv tr) S (Xm rb V Y Z U (readI xs.length s xs [])):=by
 intro w l;obtain ⟨X,hX⟩:∃ X,X=cg (xb rb V Y Z U s.fr C J B G es ck tv tr):=⟨_,rfl⟩
 rw [<- hX] at l ⊢;have e6:=h.le;simp only [maxLen] at e6;refine oo.2 ?_;dsimp only[oo,bv];have l:=l.rowNil ac 4;refine ⟨fun i lv w'=>∃ j:Nat,j<=xs.length/\i=ee j/\Vy w X S N rb V Y Z U s xs j lv w',fun i _ _=>xs.length - (intOf i).toNat,
  ⟨0,aT _,rfl,s,xs.length,[],[],S,C,J,B,G,es,ck,tv,tr,by rw [fe],by rw [fe];exact aY _,hs,f6,aY _,Ext.refl _ _ _,hm,Rows.nil _ _,l⟩,?_⟩
 intro _ _ i _ _ _ h0 h4 h5 h6 h7 h8 h9 i0 i1 i2 i3 i4 i5 i6 i7 i8 i9 j0 j1 j3 j4 j5 j6 _ _ _ _ _ _ _ _ _ _ _ _ _ _ _ _ _ _ _ _ _ _ _ _ _ _ _ _ _ _ _ _ _ _ _ _ _ _ _ _ _ _ _ _ _ _ _ _ _ _ _ _ lv _ _ _ _ _ _ _ _ _ _ _ _ _ _ _ _ _ _ _ _ _ _ _ _ _ _ _ w';rintro ⟨j,hj,rfl,sj,f,out,css,Sj,C,J,B,G,es,ck,tv,tr,p,d7,b0,j7,j8,a1,a3,hR,l⟩;have hk:=h.monoK a1.1;have k4:=hR.hc;refine aO hk bx ?_;refine cd ?_;refine aJ (fun f8=>?_) (fun f8=>?_)
 ·have a7:j<xs.length:=by omega
  obtain ⟨x,hx⟩:∃ x,x=xs[j]:=⟨_,rfl⟩
  have d1:inI x.a/\x.name.size<=6:=by rw [hx];exact b7 _ (cO a7)
  have g5:xs.drop j=x::xs.drop (j+1):=by rw [hx,ef a7]
  have a8:(xs.drop (j+1)).length=xs.length - (j+1):=mj ..;rw [g5] at p d7;rw [aP] at d7;obtain ⟨g,rfl⟩:∃ g,f=g+1:=⟨f - 1,by omega⟩
  rw [readI] at p;have k5:¬ xs.length<=j:=by omega
  refine ⟨fun i lv w'=>∃ j':Nat,j<=j'/\j'<xs.length/\i=ee j'/\Vy w X S N rb V Y Z U s xs (j'+1) lv w',?_,?_⟩
  ·refine dj l hk bx dF a7 (fun cs x h=>UY Sj cs x h) fun ds d9=>?_;rw [<- hx] at d9;obtain rfl:ds=x.cells:=d9;refine aE l tO fun b8 w' l=>?_;refine aj l 7 rfl dF rfl rfl (by simpa using x.one) fun w' l=>?_;obtain ⟨B8,e0⟩:∃ B8,B8=Item.blk b8 (.cells #[ee x.op,ee x.a,ee x.b,.string x.name] ay):=⟨_,rfl⟩
   have e8:=congrArg some e0;have l:Inv w X ([ei rb #[hV V,.map (some Z),.map (some U),ee (sj.fr:Int)] av,.blk Z (.map C J),.blk U (.map B G),ei V #[.map (some Y),tv] aX,.blk Y (.map es ck),cA tv tr]++[aB lv ac 4 css,B8]) Sj w':=by rw [e0];exact l
   refine ah l 7 e8 ew au rfl ?_;refine a9 ?_;refine aJ (fun c3=>?_) (fun c3=>?_)
   ·rw [ag c3] at p;refine aO hk bx ?_;refine jl (by omega) ?_;refine a9 ?_;have l:Inv w X ([ei rb #[hV V,.map (some Z),.map (some U),ee (sj.fr:Int)] av,.blk Z (.map C J),.blk U (.map B G),ei V #[.map (some Y),tv] aX,.blk Y (.map es ck),cA tv tr]++[aB lv ac 4 css]) Sj w':=l.pick [true,true,true,true,true,true,true,false];obtain ⟨S3,a2,a6,l⟩:=l.lendExt;refine ⟨_,_,S3,rfl,l,a1.trans a2,?_⟩;rw [p];by_cases hr:xs.drop (j+1)=[]
    ·rw [ag hr];have k6:xs.length=j+1:=by rw [hr] at a8;simp at a8;omega
     exact ⟨lv,by rw [aD (by omega)],RowRd.rows (hR.monoR fun _ _ h=>h.mono a2.1) a6,C,J,B,G,es,ck,tv,tr,rfl,a3.up a2.1⟩
    ·rw [ae hr];have k7:xs.length≠j+1:=fun e=>hr (jM (by omega));exact ⟨lv,by rw [aM (by omega)]⟩
   rw [ae c3] at p;refine a9 ?_;refine aJ (fun c4=>?_) (fun c4=>?_)
   ·rw [ag c4] at p;refine Run.callPure St ST l (Np _ Sj) fun w' l=>?_;refine dB (css:=css) l 6 [ee 3,ee 0,.string ⟨#[33]⟩,nx] bi (by omega) (by omega) rfl rfl (Rk Sj ⟨#[33]⟩ (by decide +kernel)).one (by omega) (by omega) fun f9 w' l=>?_;exact ⟨j,aY _,a7,rfl,sj,g,out++[oG],_,Sj,C,J,B,G,es,ck,tv,tr,p,by omega,b0,by omega,by rw [bt,lG];omega,a1,a3,hR.snoc (Rk Sj ⟨#[33]⟩ (by decide +kernel)) rfl,l.pick [true,true,true,true,true,true,true,false,false]⟩
   rw [ae c4] at p;refine ⟨fun z w'=>z=.bool (decide (x.op=11 ∨ x.op=12))/\Inv w X ([ei rb #[hV V,.map (some Z),.map (some U),ee (sj.fr:Int)] av,.blk Z (.map C J),.blk U (.map B G),ei V #[.map (some Y),tv] aX,.blk Y (.map es ck),cA tv tr]++[aB lv ac 4 css,B8]) Sj w',?_,?_⟩
   ·refine a9 ?_;refine aJ (fun c5=>⟨by simp [c5],l⟩) (fun c5=>?_);refine a9 ?_;exact ⟨by simp [c5],l⟩
   intro _ z _ w';rintro ⟨rfl,l⟩;refine aJ (fun hg=>?_) (fun hg=>?_)
   ·rw [ag hg] at p;refine ah l 7 e8 bZ au rfl ?_;refine Run.callPure iE iR l (hO _ _ _ Sj) fun w' l=>?_;refine c8 ?_;refine aL (fun hb=>?_) (fun hb=>?_)
    ·have hb:¬ (0<=x.a/\x.a<=4):=by
      intro hc;rw [aD hc.1,aD hc.2] at hb;cases hb
     rw [ae hb] at p;exact ⟨_,_,Sj,rfl,l,a1,by rw [p];exact ⟨_,rfl⟩⟩
    have hb:0<=x.a/\x.a<=4:=by
     rw [RT,bQ,bK,bK] at hb;exact hb
    rw [ag hb] at p;refine ah l 7 e8 fu aV rfl ?_;refine tV ?_;refine aE l aQ fun b9 w' l=>?_;refine aj l 8 rfl af rfl rfl (by simp [Value.oneCell']) fun w' l=>?_;refine ah l 7 e8 bZ au rfl ?_;have l:=l.rowNil ac 4;have l:Inv w X ([ei rb #[hV V,.map (some Z),.map (some U),ee (sj.fr:Int)] av,.blk Z (.map C J),.blk U (.map B G),ei V #[.map (some Y),tv] aX,.blk Y (.map es ck),cA tv tr]++[aB lv ac 4 css,B8,ei b9 #[ee 3,ee 0,.string x.name,nx] ac,aB (nx) ac 4 []]) Sj w':=l;obtain ⟨n,hn⟩:∃ n:Nat,x.a=(n:Int):=⟨x.a.toNat,by omega⟩
    rw [hn] at hb;rw [hn,dH] at p;refine ⟨fun i w'=>∃ (k:Nat) (ks:List T) (a0:List (nA)) (kv:Value),k<=n/\i=ee k/\r2 sj.ar k=some ks/\ks.length=k/\Rows 4 (RdT Sj) a0 ks/\Inv w X ([ei rb #[hV V,.map (some Z),.map (some U),ee (sj.fr:Int)] av,.blk Z (.map C J),.blk U (.map B G),ei V #[.map (some Y),tv] aX,.blk Y (.map es ck),cA tv tr]++[aB lv ac 4 css,B8,ei b9 #[ee 3,ee 0,.string x.name,kv] ac,aB kv ac 4 a0]) Sj w',fun i _=>n - (intOf i).toNat,
     ⟨0,[],[],_,aT _,rfl,rfl,rfl,Rows.nil _ _,l⟩,?_⟩
    intro i _ _ _ _ _ _ _ _ _ _ _ _ _ _ _ _ _ _ _ _ _ _ _ _ _ w';rintro ⟨k,ks,a0,kv,j9,rfl,c1,f7,c2,l⟩;have k8:=c2.hc;rw [hn];refine cd ?_;refine aJ (fun g0=>?_) (fun g0=>?_)
    ·obtain ⟨vv,ok,t,c9,b1,e1,g2,g3⟩:=a3.ar.look2 (k:Int);refine bh ?_;refine ax lm ?_;refine aG l 0 dp rfl rfl ?_;refine fA (c:=true) (ok:=ok) (v:=.agg vv.toArray) (l.its (.blk U (.map B G)) (by simp)) cX dS aQ c9 ?_;refine aA rfl ?_;refine aA rfl ?_;refine aE l aQ fun k0 w' l=>?_;refine aj l 10 rfl af (by simpa using b1) rfl (by simpa using e1) fun w' l=>?_;refine c8 ?_;rcases g3 with ⟨rfl,d6⟩|⟨rfl,d6⟩
     ·refine aL (fun hb=>by cases hb) (fun _=>?_);refine ah l 8 rfl az aw rfl ?_;refine aq l 10 af rfl (by simpa using b1) ?_;refine dB (css:=a0) l 9 vv bi (by omega) (by omega) rfl b1 e1 (by omega) (by omega) fun c6 w' l=>?_;have l:Inv w X ([ei rb #[hV V,.map (some Z),.map (some U),ee (sj.fr:Int)] av,.blk Z (.map C J),.blk U (.map B G),ei V #[.map (some Y),tv] aX,.blk Y (.map es ck),cA tv tr]++[aB lv ac 4 css,B8,ei b9 #[ee 3,ee 0,.string x.name,kv] ac,aB c6 ac 4 (a0++[vv])]) Sj w':=l.pick [true,true,true,true,true,true,true,true,true,true,false,false];have e7:=fP (l.its (aB c6 ac 4 (a0++[vv])) (by simp));refine cq l 8 rfl az aw rfl e7.1 e7.2 fun w' l=>?_;refine bL (by omega) ?_;refine ⟨⟨k+1,ks++[t],a0++[vv],c6,by omega,rfl,?_,by rw [bt,f7];rfl,c2.snoc g2 b1,l⟩,by simp [intOf];omega⟩;rw [r2,c1];show (sj.ar (k:Int)).map _=_;rw [d6];rfl
     ·refine aL (fun _=>?_) (fun hb=>by cases hb);have d2:r2 sj.ar n=none:=H2 sj.ar (k:=k+1) (by rw [r2,c1];show (sj.ar (k:Int)).map _=_;rw [d6];rfl) n (by omega);rw [d2] at p;exact ⟨_,_,Sj,rfl,l,a1,by rw [p];exact ⟨_,rfl⟩⟩
    ·have g6:k=n:=by omega
     subst g6;rw [c1] at p;have p:readI xs.length s xs []=readI g sj (xs.drop (j+1)) (out++[fnT x.name ks]):=p;have l:Inv w X (([ei rb #[hV V,.map (some Z),.map (some U),ee (sj.fr:Int)] av,.blk Z (.map C J),.blk U (.map B G),ei V #[.map (some Y),tv] aX,.blk Y (.map es ck),cA tv tr]++[aB lv ac 4 css,B8,ei b9 #[ee 3,ee 0,.string x.name,kv] ac])++[aB kv ac 4 a0]) Sj _:=l;obtain ⟨S3,a2,a6,l⟩:=l.lendExt;have e9:=RowRd.rows (c2.monoR fun _ _ h=>h.mono a2.1) a6;obtain ⟨ua,uc,rfl,_⟩:=id e9;have f0:=wn (nm:=x.name) e9 (by simp only [maxLen];omega);refine aq l 8 af rfl rfl ?_;refine dB (css:=css) l 6 [ee 3,ee 0,.string x.name,.slice ua ks.length uc] bi (by omega) (by omega) rfl rfl f0.one (by omega) (by omega) fun f9 w' l=>?_;exact ⟨j,aY _,a7,rfl,sj,g,out++[fnT x.name ks],_,S3,C,J,B,G,es,ck,tv,tr,p,by omega,b0,by omega,by rw [bt,lG];omega,a1.trans a2,a3.up a2.1,(hR.monoR fun _ _ h=>h.mono a2.1).snoc f0 rfl,l.pick [true,true,true,true,true,true,true,false,false,false]⟩
   rw [ae hg] at p;refine ⟨fun m w'=>m=ee (gQ x)/\Inv w X ([ei rb #[hV V,.map (some Z),.map (some U),ee (sj.fr:Int)] av,.blk Z (.map C J),.blk U (.map B G),ei V #[.map (some Y),tv] aX,.blk Y (.map es ck),cA tv tr]++[aB lv ac 4 css,B8]) Sj w',?_,?_⟩
   ·refine ⟨fun z w'=>z=.bool (decide (x.op=3 ∨ x.op=7))/\Inv w X ([ei rb #[hV V,.map (some Z),.map (some U),ee (sj.fr:Int)] av,.blk Z (.map C J),.blk U (.map B G),ei V #[.map (some Y),tv] aX,.blk Y (.map es ck),cA tv tr]++[aB lv ac 4 css,B8]) Sj w',?_,?_⟩
    ·refine ah l 7 e8 ew au rfl ?_;refine a9 ?_;by_cases h3:x.op=3
     ·rw [aD h3];refine rpG ?_;exact ⟨by simp [h3],l⟩
     ·rw [aM h3];refine rpG ?_;refine ah l 7 e8 ew au rfl ?_;refine a9 ?_;refine rpG ?_;exact ⟨by simp [h3],l⟩
    intro z _ _ _ _ _ _ _ w';rintro ⟨rfl,l⟩;refine aJ (fun c7=>?_) (fun c7=>?_)
    ·refine ah l 7 e8 bZ au rfl ?_;exact ⟨by rw [gQ,ag c7];rfl,l⟩
    ·exact ⟨by rw [gQ,ae c7],l⟩
   intro m _ _ _ _ _ _ _ _ _ _ w';rintro ⟨rfl,l⟩;obtain ⟨va,vc,rfl,_⟩:=id h;have k9:inI (gQ x):=by
    unfold gQ;split
    ·exact d1.1
    ·simp [inI]
   obtain ⟨mn,d0⟩:∃ mn:Int,(if (xs.length:Int) - 1 - j<4 then (xs.length:Int) - 1 - j else 4)=mn:=⟨_,rfl⟩
   have g9:mn<=4/\mn<=(xs.length:Int) - 1 - j/\(mn=4 ∨ mn=(xs.length:Int) - 1 - j):=by
    rw [<- d0];split <;> omega
   by_cases hc:0<=gQ x/\gQ x<=mn
   ·obtain ⟨M,hM⟩:∃ M:Nat,gQ x=(M:Int):=⟨(gQ x).toNat,by omega⟩
    rw [hM] at hc ⊢;rw [hM,ag (by rw [a8];omega),dH] at p;have d3:∀ S,ru vX [ee (M:Int),ee 0,ee mn] S (.bool true):=fun S=>by
     have:=hO (M:Int) 0 mn S
     rwa [aD hc.1,aD hc.2] at this
    obtain ⟨more,b2⟩:∃ more,more=(xs.drop (j+1)).take M:=⟨_,rfl⟩
    have l0:more.length=M:=by rw [b2,ig,a8];omega
    have f1:(xs.take (j+1+M)).drop (j+1)=more:=by rw [b2,IQ];congr 1;omega
    have f2:∀ y∈more,y∈xs:=fun y hy=>by rw [b2] at hy;exact QA (O6 hy)
    rw [<- b2] at p;have f3:∀ y∈more,okI y:=fun y hy=>⟨(b7 y (f2 y hy)).1,by have:=(b7 y (f2 y hy)).2;simp only [maxLen];omega⟩
    have l:Inv w X ([aB lv ac 4 css,B8]++xb rb V Y Z U sj.fr C J B G es ck tv tr) Sj _:=l.perm (bD (l₁:=[_,_]) (l₂:=[_,_,_,_,_,_]));refine ⟨fun D qU tw pW qN wt rp lM rB pN pq oV nL ov ny m8 kI mx nH yS uC qg uh oN w_=>Fx D 0 [oN=ee (M:Int),uh=.slice va xs.length vc,qg=ee (xs.length:Int),uC=ee ((xs.length:Int) - 1),yS=ee (j:Int),nH=ee ((xs.length:Int) - 1 - j),mx=ee mn,kI=.bool true,m8=.bool false,ny=.bool false,ov=hV rb,nL=.agg #[ee x.op,ee x.a,ee x.b,.string x.name],oV=.slice va xs.length vc,pq=ee (j:Int),pN=ee ((j+1:Nat):Int),rB=ee (j:Int),lM=ee ((j+1:Nat):Int),rp=ee (M:Int),wt=ee ((j+1+M:Nat):Int),RdSl S 4 (cZ S) qN more,True,tw=.bool (!(insI sj x more).isSome),qU=.bool (!(insI sj x more).isSome)]/\∃ n_:Nat,n_<=1/\D 20=decide (1<=n_)/\(inS w X Sj (xb rb V Y Z U sj.fr C J B G es ck tv tr) [aB lv ac 4 css,B8] (vS rb V Y Z U (insI sj x more)) pW w_ n_/\(D 9=true->D 7=true)/\(D 20=true->D 7=true)/\(D 20=true->pW=.bool (insI sj x more).isSome)),⟨Fx.nil _ _,⟨0,aT _,rfl,⟨l.draw,aU,aU,aU⟩⟩⟩,⟨?_,?_,?_,?_,?_,?_,?_,?_,?_,?_,?_,?_,?_,?_,?_,?_,?_,?_,?_,?_,?_,?_,?_,trivial⟩,?_⟩;all_goals (intro D bp;intros;rename_i qU tw pW qN wt rp lM rB pN pq oV nL ov ny m8 kI mx nH yS uC qg uh oN w_ a4;have o:=a4.1;obtain ⟨⟨cF,ci,cG,cD,bU,cH,cj,cR,dJ,dQ,cJ,dv,eG,gL,kz,kX,lU,qe,rL,ky,uf,uy,wk,_⟩,⟨n_,O,r,hS⟩⟩:=a4)
    ·exact ⟨o.set 0 rfl,⟨n_,O,r,hS⟩⟩
    ·exact ⟨o.set 1 rfl,⟨n_,O,r,hS⟩⟩
    ·obtain rfl:=ci ‹_›;refine aO h bx ?_;exact ⟨o.set 2 rfl,⟨n_,O,r,hS⟩⟩
    ·obtain rfl:=cG ‹_›;refine jl (by omega) ?_;exact ⟨o.set 3 rfl,⟨n_,O,r,hS⟩⟩
    ·exact ⟨o.set 4 rfl,⟨n_,O,r,hS⟩⟩
    ·obtain rfl:=cD ‹_›;obtain rfl:=bU ‹_›;refine jl (by omega) ?_;exact ⟨o.set 5 rfl,⟨n_,O,r,hS⟩⟩
    ·obtain rfl:=cH ‹_›;refine TA d0 ?_;exact ⟨o.set 6 rfl,⟨n_,O,r,hS⟩⟩
    ·obtain rfl:=cF ‹_›;obtain rfl:=cj ‹_›;have g7:D 20=false:=bA.2 fun h=>by rw [hS.2.2.1 h] at bp;cases bp
     have f4:n_=0:=jv r g7;have f5:=hS.1;rw [f4] at f5;have l:Inv w X ([aB lv ac 4 css,B8]++xb rb V Y Z U sj.fr C J B G es ck tv tr) Sj w_:=f5;refine Run.callPure iE iR l (d3 Sj) fun w_ l=>?_;have d4:inS w X Sj (xb rb V Y Z U sj.fr C J B G es ck tv tr) [aB lv ac 4 css,B8] (vS rb V Y Z U (insI sj x more)) pW w_ n_:=by rw [f4];exact l
     have hS:=And.intro d4 (And.intro (fun (_:aF D 7 9=true)=>(rfl:aF D 7 7=true)) (And.intro (fun (_:aF D 7 20=true)=>(rfl:aF D 7 7=true)) hS.2.2.2));exact ⟨o.set 7 rfl,⟨n_,O,r,hS⟩⟩
    ·obtain rfl:=cR ‹_›;refine c8 ?_;exact ⟨o.set 8 rfl,⟨n_,O,r,hS⟩⟩
    ·obtain rfl:=dJ ‹_›;have hS:=And.intro hS.1 (And.intro (fun (_:aF D 9 9=true)=>(‹D 7=true›:aF D 9 7=true)) hS.2.2);exact ⟨o.set 9 rfl,⟨n_,O,r,hS⟩⟩
    ·obtain rfl:=dQ ‹_›;refine rpG ?_;exact ⟨o.set 10 rfl,⟨n_,O,r,hS⟩⟩
    ·obtain rfl:=dQ ‹_›;refine rpG ?_;obtain ⟨S5,I5,l⟩:=hS.1.any;refine aq l 1 dF e8 rfl ?_;exact ⟨o.set 11 rfl,⟨n_,O,r,hS⟩⟩
    ·obtain rfl:=dQ ‹_›;refine rpG ?_;exact ⟨o.set 12 rfl,⟨n_,O,r,hS⟩⟩
    ·obtain rfl:=dQ ‹_›;refine rpG ?_;exact ⟨o.set 13 rfl,⟨n_,O,r,hS⟩⟩
    ·obtain rfl:=gL ‹_›;obtain rfl:=dQ ‹_›;refine rpG ?_;refine JU (c:=((j+1:Nat):Int)) (by omega) (by omega) ?_;exact ⟨o.set 14 rfl,⟨n_,O,r,hS⟩⟩
    ·obtain rfl:=dQ ‹_›;refine rpG ?_;exact ⟨o.set 15 rfl,⟨n_,O,r,hS⟩⟩
    ·obtain rfl:=kX ‹_›;obtain rfl:=dQ ‹_›;refine rpG ?_;refine JU (c:=((j+1:Nat):Int)) (by omega) (by omega) ?_;exact ⟨o.set 16 rfl,⟨n_,O,r,hS⟩⟩
    ·obtain rfl:=dQ ‹_›;refine rpG ?_;exact ⟨o.set 17 rfl,⟨n_,O,r,hS⟩⟩
    ·obtain rfl:=lU ‹_›;obtain rfl:=qe ‹_›;obtain rfl:=dQ ‹_›;refine rpG ?_;refine JU (c:=((j+1+M:Nat):Int)) (by omega) (by omega) ?_;exact ⟨o.set 18 rfl,⟨n_,O,r,hS⟩⟩
    ·obtain rfl:=eG ‹_›;obtain rfl:=kz ‹_›;obtain rfl:=rL ‹_›;obtain rfl:=dQ ‹_›;refine rpG ?_;refine Fe bx h (by omega) (by omega) fun v5 g1=>?_;rw [f1] at g1;exact ⟨o.set 19 (by first|assumption|trivial),⟨n_,O,r,hS⟩⟩
    ·obtain rfl:=cJ ‹_›;obtain rfl:=dv ‹_›;have ZT:=ky ‹_›;obtain rfl:=dQ ‹_›;obtain rfl:n_=0:=jv r bp;refine rpG ?_;have l:Inv w X ([aB lv ac 4 css,B8]++xb rb V Y Z U sj.fr C J B G es ck tv tr) Sj w_:=hS.1;refine Run.callE vF wq l (N1 hN b0 d1 (ZT.monoK a1.1) (by omega) (by omega) f3 a3) fun q I2 S2 w_=>?_;rintro hP a5 l;obtain rfl:=Ub hP;have d4:inS w X Sj (xb rb V Y Z U sj.fr C J B G es ck tv tr) [aB lv ac 4 css,B8] (vS rb V Y Z U (insI sj x more)) (.bool (insI sj x more).isSome) w_ 1:=⟨S2,I2,hP,a5,l⟩
     exact ⟨o.set 20 (by first|assumption|trivial),⟨1,by decide,rfl,⟨d4,hS.2.1,fun _=>hS.2.1 ‹D 9=true›,fun _=>rfl⟩⟩⟩
    ·have Z2:=uf ‹_›;obtain rfl:=dQ ‹_›;obtain rfl:=hS.2.2.2 ‹D 20=true›;refine rpG ?_;refine c8 ?_;exact ⟨o.set 21 rfl,⟨n_,O,r,hS⟩⟩
    ·obtain rfl:=dQ ‹_›;obtain rfl:=uy ‹_›;refine rpG ?_;exact ⟨o.set 22 rfl,⟨n_,O,r,hS⟩⟩
    obtain rfl:n_=1:=jD O r ‹D 20=true›;have ZJ:D 22=true:=by assumption
    clear r;obtain rfl:=wk ZJ;obtain ⟨S2,I2,hP,a5,l⟩:=hS.1;cases ho:insI sj x more with
    | none=>
     rw [ho] at p;refine aL (fun _=>?_) (fun hb=>by cases hb);exact ⟨_,_,S2,rfl,l,a1.trans a5,by rw [p];exact ⟨_,rfl⟩⟩
    | some s2=>
     rw [ho] at p hP;refine aL (fun hb=>by cases hb) (fun _=>?_);have p:readI xs.length s xs []=readI g s2 ((xs.drop (j+1)).drop M) out:=p;rw [Jc] at p;obtain ⟨_,b3,b4,b5,b6,e2,e3,e4,e5,rfl,g4⟩:=hP;obtain ⟨k1,k2,k3⟩:=mr b0 (by omega) (by omega) d1.2 ho;refine JU (c:=((j+M:Nat):Int)) (by omega) (by omega) ?_;have l:Inv w X (xb rb V Y Z U s2.fr b3 b4 b5 b6 e2 e3 e4 e5++[aB lv ac 4 css,B8]) S2 _:=l.perm (bD (l₁:=[_,_,_,_,_,_]) (l₂:=[_,_]));have ed:j+1+M=j+M+1:=by omega
     rw [ed] at p;have l1:(xs.drop (j+M+1)).length=xs.length - (j+M+1):=mj ..;exact ⟨j+M,by omega,by omega,rfl,s2,g,out,css,S2,b3,b4,b5,b6,e2,e3,e4,e5,p,by omega,k1,by omega,by omega,a1.trans a5,g4,hR.monoR fun _ _ h=>h.mono a5.1,l.pick [true,true,true,true,true,true,true,false]⟩
   ·rw [ae (by rw [a8];omega)] at p;have d3:∀ S,ru vX [ee (gQ x),ee 0,ee mn] S (.bool false):=fun S=>by
     have:=hO (gQ x) 0 mn S;have e:(decide ((0:Int)<=gQ x) && decide (gQ x<=mn))=false:=by
      rw [<- Bool.decide_and];exact aM hc
     rwa [e] at this
    refine ⟨fun D qU tw pW qN wt rp lM rB pN pq oV nL ov ny m8 kI mx nH yS uC qg uh oN w_=>Fx D 0 [oN=ee (gQ x),uh=.slice va xs.length vc,qg=ee (xs.length:Int),uC=ee ((xs.length:Int) - 1),yS=ee (j:Int),nH=ee ((xs.length:Int) - 1 - j),mx=ee mn,kI=.bool false,m8=.bool true,ny=.bool true,ov=undef,nL=undef,oV=undef,pq=undef,pN=undef,rB=undef,lM=undef,rp=undef,wt=undef,qN=undef,pW=undef,tw=undef,qU=.bool true]/\Inv w X ([ei rb #[hV V,.map (some Z),.map (some U),ee (sj.fr:Int)] av,.blk Z (.map C J),.blk U (.map B G),ei V #[.map (some Y),tv] aX,.blk Y (.map es ck),cA tv tr]++[aB lv ac 4 css,B8]) Sj w_,⟨Fx.nil _ _,l.draw⟩,⟨?_,?_,?_,?_,?_,?_,?_,?_,?_,?_,?_,?_,?_,?_,?_,?_,?_,?_,?_,?_,?_,?_,?_,trivial⟩,?_⟩;all_goals (intro D bp;intros;rename_i qU tw pW qN wt rp lM rB pN pq oV nL ov ny m8 kI mx nH yS uC qg uh oN w_ a4;have o:=a4.1;obtain ⟨⟨cF,ci,cG,cD,bU,cH,cj,cR,dJ,dQ,cJ,dv,eG,gL,kz,kX,lU,qe,rL,ky,uf,uy,wk,_⟩,l⟩:=a4)
    ·exact ⟨o.set 0 rfl,l⟩
    ·exact ⟨o.set 1 rfl,l⟩
    ·obtain rfl:=ci ‹_›;refine aO h bx ?_;exact ⟨o.set 2 rfl,l⟩
    ·obtain rfl:=cG ‹_›;refine jl (by omega) ?_;exact ⟨o.set 3 rfl,l⟩
    ·exact ⟨o.set 4 rfl,l⟩
    ·obtain rfl:=cD ‹_›;obtain rfl:=bU ‹_›;refine jl (by omega) ?_;exact ⟨o.set 5 rfl,l⟩
    ·obtain rfl:=cH ‹_›;refine TA d0 ?_;exact ⟨o.set 6 rfl,l⟩
    ·obtain rfl:=cF ‹_›;obtain rfl:=cj ‹_›;refine Run.callPure iE iR l (d3 Sj) fun w_ l=>?_;exact ⟨o.set 7 rfl,l⟩
    ·obtain rfl:=cR ‹_›;refine c8 ?_;exact ⟨o.set 8 rfl,l⟩
    ·obtain rfl:=dJ ‹_›;exact ⟨o.set 9 rfl,l⟩
    ·obtain rfl:=dQ ‹_›;refine rpG ?_;exact ⟨o.set 10 rfl,l⟩
    ·obtain rfl:=dQ ‹_›;refine rpG ?_;exact ⟨o.set 11 rfl,l⟩
    ·obtain rfl:=dQ ‹_›;refine rpG ?_;exact ⟨o.set 12 rfl,l⟩
    ·obtain rfl:=dQ ‹_›;refine rpG ?_;exact ⟨o.set 13 rfl,l⟩
    ·obtain rfl:=gL ‹_›;obtain rfl:=dQ ‹_›;refine rpG ?_;exact ⟨o.set 14 rfl,l⟩
    ·obtain rfl:=dQ ‹_›;refine rpG ?_;exact ⟨o.set 15 rfl,l⟩
    ·obtain rfl:=kX ‹_›;obtain rfl:=dQ ‹_›;refine rpG ?_;exact ⟨o.set 16 rfl,l⟩
    ·obtain rfl:=dQ ‹_›;refine rpG ?_;exact ⟨o.set 17 rfl,l⟩
    ·obtain rfl:=lU ‹_›;obtain rfl:=qe ‹_›;obtain rfl:=dQ ‹_›;refine rpG ?_;exact ⟨o.set 18 rfl,l⟩
    ·obtain rfl:=eG ‹_›;obtain rfl:=kz ‹_›;obtain rfl:=rL ‹_›;obtain rfl:=dQ ‹_›;refine rpG ?_;exact ⟨o.set 19 rfl,l⟩
    ·obtain rfl:=cJ ‹_›;obtain rfl:=dv ‹_›;obtain rfl:=ky ‹_›;obtain rfl:=dQ ‹_›;refine rpG ?_;exact ⟨o.set 20 rfl,l⟩
    ·obtain rfl:=uf ‹_›;obtain rfl:=dQ ‹_›;refine rpG ?_;exact ⟨o.set 21 rfl,l⟩
    ·obtain rfl:=dQ ‹_›;obtain rfl:=uy ‹_›;refine rpG ?_;exact ⟨o.set 22 rfl,l⟩
    obtain ⟨rfl,rfl,rfl,rfl,rfl,rfl,rfl,rfl,rfl,rfl,rfl,rfl,rfl,rfl,rfl,rfl,rfl,rfl,rfl,rfl,rfl,rfl,rfl,_⟩:=o.all;clear o cF ci cG cD bU cH cj cR dJ dQ cJ dv eG gL kz kX lU qe rL ky uf uy wk;refine aL (fun _=>?_) (fun hb=>by cases hb);exact ⟨_,_,Sj,rfl,l,a1,by rw [p];exact ⟨_,rfl⟩⟩
  intro i _ _ _ _ _ _ _ _ _ _ _ _ _ _ _ _ _ _ _ _ _ _ _ _ _ _ _ _ _ _ _ _ _ _ _ _ _ _ _ _ _ _ _ _ _ _ _ _ _ _ _ _ _ _ _ _ _ _ _ _ _ _ _ _ _ _ _ _ _ _ _ _ _ _ _ _ _ _ lv _ _ _ _ _ _ _ _ _ _ _ _ _ _ _ _ _ _ _ _ _ _ _ w';rintro ⟨j2,h1,h2,rfl,hL⟩;refine bL (by omega) ?_;exact ⟨⟨j2+1,h2,rfl,hL⟩,by simp [intOf];omega⟩
 have g8:j=xs.length:=by omega
 subst g8;rw [eL] at p;have d2:readI f sj [] out=none:=by cases f <;> rfl
 rw [d2] at p;exact ⟨_,_,Sj,rfl,l,a1,by rw [p];exact ⟨_,rfl⟩⟩
end
end
section
open Go Go.RowKit
theorem Un {w:World} (x y:Ist) :
  (Op.equalIn 10000 ay (.agg x.cells.toArray) (.agg y.cells.toArray)).run Tryz.prog w=.ok (decide (x=y)) w:=by
 by_cases g:x=y
 ·subst g;rw [aD rfl];exact Q8 x
 rw [aM g];obtain ⟨a,b,c,s⟩:=x;obtain ⟨o,p,q,s'⟩:=y;rw [show (10000:Nat)=9999+1 from rfl,run_equalIn_struct w 9999 ay _ _ Cv H6];have hf:(Tryz.prog.fieldsOf ay).toList=[(Tryz.prog.fieldsOf ay)[0]!,(Tryz.prog.fieldsOf ay)[1]!,(Tryz.prog.fieldsOf ay)[2]!,(Tryz.prog.fieldsOf ay)[3]!]:=by kernel_rfl
 have t:((Tryz.prog.fieldsOf ay)[0]!).type=bV:=by kernel_rfl
 have B:((Tryz.prog.fieldsOf ay)[1]!).type=bV:=by kernel_rfl
 have C:((Tryz.prog.fieldsOf ay)[2]!).type=bV:=by kernel_rfl
 have D:((Tryz.prog.fieldsOf ay)[3]!).type=fx:=by kernel_rfl
 have G:((Tryz.prog.fieldsOf ay)[0]!).offset=0:=by kernel_rfl
 have J:((Tryz.prog.fieldsOf ay)[1]!).offset=1:=by kernel_rfl
 have M:((Tryz.prog.fieldsOf ay)[2]!).offset=2:=by kernel_rfl
 have N:((Tryz.prog.fieldsOf ay)[3]!).offset=3:=by kernel_rfl
 have O:((Tryz.prog.fieldsOf ay)[0]!).name≠"_" := by decide +kernel
 have U:((Tryz.prog.fieldsOf ay)[1]!).name≠"_" := by decide +kernel
 have V:((Tryz.prog.fieldsOf ay)[2]!).name≠"_" := by decide +kernel
 have Y:((Tryz.prog.fieldsOf ay)[3]!).name≠"_" := by decide +kernel
 rw [hf];have Z:(Op.equalIn (9998+1) fx (.string s) (.string s')).run Tryz.prog w=.ok (decide (s=s')) w:=by
  rw [run_equalIn_string w 9998 fx s s' bm,zI]
 have i:∀ n h:Int,(Op.equalIn (9998+1) bV (ee n) (ee h)).run Tryz.prog w=.ok (decide (n=h)) w:=fun n h=>by
  rw [run_equalIn_int w 9998 bV .i64 .i64 n h dS];rfl
 rw [show (9999:Nat)=9998+1 from rfl];generalize a0:(Tryz.prog.fieldsOf ay)[0]! = g0 at *;generalize a1:(Tryz.prog.fieldsOf ay)[1]! = g1 at *;generalize a2:(Tryz.prog.fieldsOf ay)[2]! = g2 at *;generalize a3:(Tryz.prog.fieldsOf ay)[3]! = g3 at *;simp only [Op.eqFields,O,U,V,Y,ne_eq,not_false_eq_true,if_true,Sem.run_bind,t,B,C,D,G,J,M,N];rw [eJ au (v:=ee a) rfl,Result.andThen_ok,eJ au (v:=ee o) rfl,Result.andThen_ok,i,Result.andThen_ok];by_cases j:a=o
 rotate_left
 ·rw [aM j];rfl
 rw [aD j];simp only [Ih,ta,if_false,Sem.run_bind];rw [eJ au (v:=ee b) rfl,Result.andThen_ok,eJ au (v:=ee p) rfl,Result.andThen_ok,i,Result.andThen_ok];by_cases l:b=p
 rotate_left
 ·rw [aM l];rfl
 rw [aD l];simp only [Ih,ta,if_false,Sem.run_bind];rw [eJ au (v:=ee c) rfl,Result.andThen_ok,eJ au (v:=ee q) rfl,Result.andThen_ok,i,Result.andThen_ok];by_cases m:c=q
 rotate_left
 ·rw [aM m];rfl
 rw [aD m];simp only [Ih,ta,if_false,Sem.run_bind];rw [eJ aV (v:=.string s) rfl,Result.andThen_ok,eJ aV (v:=.string s') rfl,Result.andThen_ok,Z,Result.andThen_ok];by_cases r:s=s'
 rotate_left
 ·rw [aM r];rfl
 exact absurd (by rw [j,l,m,r]) g
section
variable {w:World} {S:ai}
theorem IF {a g:Bool} (x y:Ist):(el .neq ay a g (.agg x.cells.toArray) (.agg y.cells.toArray)).run Tryz.prog w=.ok (.value (.bool (!decide (x=y)))) w:=by
 unfold el;have e:(binOp .neq ay (.agg x.cells.toArray) (.agg y.cells.toArray)).run Tryz.prog w=.ok (.bool (!decide (x=y))) w:=by
  have h:=Un (w:=w) x y;simp only [binOp,Op.equal,Op.maxDepth,Sem.run_bind];rw [h];rfl
 rw [Sem.run_bind,run_eqGuard_agg w .neq ay _ _ _ _ F2,Result.andThen_ok,Sem.run_bind,e,Result.andThen_ok];rfl
theorem Lo {l m:List Ist} {u v:Value} (h:RdSl S 4 (cZ S) u l) (g:RdSl S 4 (cZ S) v m):ru Dc [u,v] S (.bool (decide (l=m))):=by
 intro w p;have J:=h.le;simp only [maxLen] at J;refine pt.2 ?_;dsimp only[pt,bv];refine aO h bx ?_;refine aO g bx ?_;refine jN ?_;refine aL (fun r=>?_) (fun r=>?_)
 ·exact done p (by rw [aM (fun e=>by rw [e] at r;simp at r)])
 have Y:l.length=m.length:=by
  have:(l.length:Int)=(m.length:Int):=by simpa using r
  omega
 refine aO h bx ?_;refine ⟨fun i w'=>∃ k:Nat,k<=l.length/\i=ee k/\l.take k=m.take k/\Inv w [] [] S w',fun i _=>l.length - (intOf i).toNat,⟨0,aT _,rfl,rfl,p⟩,?_⟩;intro i _ _ a2 a3 a4 a5 a6 a7 a8 a9 b0 _ _ _ w';rintro ⟨k,hk,rfl,M,p⟩;refine cd ?_;refine aJ (fun N=>?_) (fun N=>?_)
 rotate_left
 ·have e:k=l.length:=by omega
  subst e;rw [g7,Y,g7] at M;exact done p (by rw [aD M])
 have q:k<l.length:=by omega
 have B:k<m.length:=by omega
 obtain ⟨b,o,cap,c,E,fz,rfl,hS,hR⟩:=h.at_ q;have Z:bJ c (o+k * 4) 4=l[k].cells:=hR;obtain ⟨b2,U,G,c2,E2,b1,rfl,V,t⟩:=g.at_ B;have t:bJ c2 (U+k * 4) 4=m[k].cells:=t;refine ⟨fun D oO rj pr oM lT mY oX lS p8 w_=>Fx D 0 [p8=kt b o l.length cap,lS=ee k,oX=kh b (o+k * 4),mY=.agg l[k].cells.toArray,lT=kt b2 U m.length G,oM=ee k,pr=kh b2 (U+k * 4),rj=.agg m[k].cells.toArray,oO=.bool (!decide (l[k]=m[k]))]/\Inv w [] [] S w_,⟨Fx.nil _ _,p.draw⟩,⟨?_,?_,?_,?_,?_,?_,?_,?_,?_,trivial⟩,?_⟩;all_goals (intro D bp;intros;rename_i oO rj pr oM lT mY oX lS p8 w_ C;have a:=C.1;obtain ⟨⟨cF,ci,cG,cD,bU,cH,cj,cR,dJ,_⟩,p⟩:=C)
 ·exact ⟨a.set 0 rfl,p⟩
 ·exact ⟨a.set 1 rfl,p⟩
 ·obtain rfl:=cF ‹_›;obtain rfl:=ci ‹_›;refine aN bx q ?_;exact ⟨a.set 2 rfl,p⟩
 ·obtain rfl:=cG ‹_›;refine eE (cs:=l[k].cells) dF rfl (fun j v O=>by rw [p.cellS hS];exact bf Z j v O) ?_;exact ⟨a.set 3 rfl,p⟩
 ·exact ⟨a.set 4 rfl,p⟩
 ·exact ⟨a.set 5 rfl,p⟩
 ·obtain rfl:=bU ‹_›;obtain rfl:=cH ‹_›;refine aN bx B ?_;exact ⟨a.set 6 rfl,p⟩
 ·obtain rfl:=cj ‹_›;refine eE (cs:=m[k].cells) dF rfl (fun j v O=>by rw [p.cellS V];exact bf t j v O) ?_;exact ⟨a.set 7 rfl,p⟩
 ·obtain rfl:=cD ‹_›;obtain rfl:=cR ‹_›;refine Run.of (IF _ _) ?_;exact ⟨a.set 8 rfl,p⟩
 obtain ⟨rfl,rfl,rfl,rfl,rfl,rfl,rfl,rfl,rfl,_⟩:=a.all;clear a cF ci cG cD bU cH cj cR dJ;refine aL (fun r=>?_) (fun r=>?_)
 ·have a0:¬ l[k]=m[k]:=by simpa using r
  refine done p ?_;rw [aM];intro e;subst e;exact a0 rfl
 ·have a1:l[k]=m[k]:=by simpa using r
  refine bL (by omega) ?_;exact ⟨⟨k+1,q,rfl,by rw [gt q,gt B,M,a1],p⟩,by simp [intOf];omega⟩
theorem OG {K:Value->World->Prop} {m:Nat} (hk:K (.agg #[.map (some m),nx]) w):Run Tryz.prog (cr aX [(0,.map (some m))]) w K:=by
 refine Run.of (v:=.agg #[.map (some m),nx]) (w':=w) ?_ hk;unfold cr;rw [Sem.run_bind,run_build w aX _ #[.map (some m),nx] (by kernel_rfl),Result.andThen_ok];rfl
theorem K6 {S:ai}:nB KT [] [] S fun r I' S'=>S'=S/\∃ h g,r=hV h/\I'=dz h g #[] 0 (nx) []:=by
 intro w a;refine vi.2 ?_;dsimp only[vi,nR];refine pp a fun g w' a=>?_;refine OG ?_;refine bH a fun h w' a=>?_;have a:=a.rowNil bV 1;have a:Inv w [] ([.blk g (.map #[] 0)]++[ei h #[.map (some g),nx] aX]++[cA (nx) []]) S w':=a;have a:Inv w [] (dz h g #[] 0 (nx) []) S w':=a.perm (bD (l₁:=[_]) (l₂:=[_]) |>.append_right _);exact ⟨_,_,S,rfl,a,Ext.refl _ _ _,rfl,h,g,rfl,rfl⟩
end
end
section
open Go Go.RowKit
def RdCode (S:ai) (cs:List Value) (l:List Ist):Prop:=∃ v,cs=[v]/\RdSl S 4 (cZ S) v l
theorem RdCode.mono {S S':ai} {cs:nA} {l:List Ist} (a:Sle S S') (h:RdCode S cs l):RdCode S' cs l:=by
 obtain ⟨v,e,g⟩:=h;exact ⟨v,e,g.monoK a⟩
section
variable {S:ai}
end
end
section
open Go Go.RowKit
theorem A7 (k:Nat):upS (dO k) (k:Int) (dx k)=dO (k+1):=by
 funext m
 unfold upS dO;by_cases e:m=(k:Int)
 ·rw [ag e,ag (by omega),e,dH]
 ·rw [ae e];by_cases h:0<=m/\m<(k:Int)
  ·rw [ag h,ag (by omega)]
  ·rw [ae h,ae (by omega)]
theorem Gr:dO 0=fun _=>none:=by
 funext m
 unfold dO;rw [ae (by omega)]
theorem PH (S:ai) (N:Nat):KnownM S #[] (List.replicate N Option.none):=by
 refine ⟨fun e a=>by simp at a,fun n t g=>?_,by simp⟩;have:=f0 g;simp at this
theorem DT (k:Nat):(List.range (k+1)).map dx=(List.range k).map dx++[dx k]:=by
 rw [List.range_succ,zA];rfl
theorem WG (M:Nat):okU M oG/\wB oG:=gT (nm:=⟨#[33]⟩) (ks:=[]) (by decide) (by decide) fun t a=>(by cases a)
theorem rX {N:Nat}:∀ (f:Nat) {s s':RI} {xs:List Ist} {out us:List T},okRd N s->s.fr+xs.length<=N->(∀ y∈xs,y.name.size<=6)->(∀ t∈out,okU N t/\wB t)->readI f s xs out=some (s',us)->okRd N s'/\∀ t∈us,okU N t/\wB t
 | 0,_,_,_,_,_,_,_,_,_,h=>by rw [readI] at h;cases h
 | f+1,s,s',[],out,us,_,_,_,_,h=>by rw [readI] at h;cases h
 | f+1,s,s',x::xs,out,us,hs,hf,hn,ho,h=>by
  rw [aP] at hf;have l:=hn x (bF ..);have i:∀ y∈xs,y.name.size<=6:=fun y m=>hn y (bI _ m);rw [readI] at h;split at h
  ·split at h
   ·rw [bj,c9] at h;obtain ⟨rfl,rfl⟩:=h;exact ⟨hs,ho⟩
   ·cases h
  split at h
  ·refine rX f hs (by omega) i (fun t g=>?_) h;rcases cU.1 g with g|g
   ·exact ho t g
   ·rw [bM.1 g];exact WG N
  split at h
  ·split at h
   ·rename_i p
    rw [fi] at h;obtain ⟨ks,hk,h⟩:=h;obtain ⟨C,j⟩:=DA hs.ar x.a.toNat hk;refine rX f hs (by omega) i (fun t g=>?_) h;rcases cU.1 g with g|g
    ·exact ho t g
    ·rw [bM.1 g];exact gT l (by omega) fun t g=>⟨cP hs.le t (j t g).1,(j t g).2⟩
   ·cases h
  split at h
  ·rename_i p
   rw [fi] at h;obtain ⟨D,q,h⟩:=h;have o:(xs.take (gQ x).toNat).length=(gQ x).toNat:=by rw [ig];omega
   obtain ⟨r,G,J⟩:=mr hs (by omega) (by omega) l q;have B:(xs.drop (gQ x).toNat).length=xs.length - (gQ x).toNat:=mj ..;exact rX f r (by omega) (fun y m=>i y (QA m)) ho h
  ·cases h
def QI:C:=⟨⟨0,0,⟨#[]⟩,[]⟩,[]⟩
section
theorem H3 {w:World} {K:Value->World->Prop} (hk:K (.agg eu) w):Run Tryz.prog (cr ad []) w K:=by
 refine Run.of (v:=.agg eu) (w':=w) ?_ hk;unfold cr;rw [Sem.run_bind,run_build w ad _ eu (by kernel_rfl),Result.andThen_ok];rfl
theorem P8 {w:World} {K:Value->World->Prop} {a b c:Nat} (hk:K (.agg #[hV a,.map (some b),.map (some c),ee 0]) w):Run Tryz.prog (cr av [(0,hV a),(1,.map (some b)),(2,.map (some c))]) w K:=by
 refine Run.of (v:=.agg #[hV a,.map (some b),.map (some c),ee 0]) (w':=w) ?_ hk;unfold cr;rw [Sem.run_bind,run_build w av _ #[hV a,.map (some b),.map (some c),ee 0] (by kernel_rfl),Result.andThen_ok];rfl
end
end
section
open Go Go.RowKit
def lmS (x:Ist):Prop:=(-999<=x.a/\x.a<=999/\0<=x.b/\x.b<=999)/\
 (((x.op=1 ∨ x.op=2 ∨ x.op=8 ∨ x.op=9 ∨ x.op=10)/\x.name=emptyB) ∨ ((x.op=3 ∨ x.op=7)/\fw x.name=true) ∨
   ((x.op=4 ∨ x.op=5 ∨ x.op=6)/\x.b=0/\x.name=emptyB) ∨ ((x.op=11 ∨ x.op=12)/\x.b=0/\fw x.name=true) ∨ ((x.op=13 ∨ x.op=14)/\x.a=0/\x.b=0/\x.name=emptyB))
instance (x:Ist):Decidable (lmS x):=by unfold lmS; infer_instance
theorem Xo {x:Ist} (h:Lm x):lmS x:=by
 obtain ⟨a,h|h|h|h|h⟩:=h
 ·exact ⟨a,.inl h⟩
 ·exact ⟨a,.inr (.inl ⟨h.1,h.2.1⟩)⟩
 ·exact ⟨a,.inr (.inr (.inl h))⟩
 ·exact ⟨a,.inr (.inr (.inr (.inl ⟨h.1,h.2.1,h.2.2.1⟩)))⟩
 ·exact ⟨a,.inr (.inr (.inr (.inr h)))⟩
theorem lmS.size {x:Ist} (h:lmS x):x.name.size<=6:=by
 obtain ⟨_,h|h|h|h|h⟩:=h
 ·rw [h.2];decide
 ·exact iO h.2
 ·rw [h.2.2];decide
 ·exact iO h.2.2
 ·rw [h.2.2.2];decide
def i9 (x:Ist):Int:=if x.op=4 ∨ x.op=5 ∨ x.op=8 ∨ x.op=9 ∨ x.op=1 then x.a else if x.op=7 then x.b else -1
def gD:List Ist->Nat->Nat
 | [],m=>m
 | x::xs,m=>gD xs (if (m:Int)<=i9 x then (i9 x).toNat+1 else m)
theorem pV:∀ (xs:List Ist) (m:Nat),m<=gD xs m
 | [],_=>aY _
 | x::xs,m=>by
  rw [gD];refine il ?_ (pV xs _);split <;> omega
theorem Cy:∀ (xs:List Ist) (m:Nat) (x:Ist),x∈xs->i9 x<gD xs m
 | y::xs,m,x,h=>by
  rw [gD];rcases dK.1 h with rfl|h
  ·have:=pV xs (if (m:Int)<=i9 x then (i9 x).toNat+1 else m);split at this <;> rename_i a <;> simp only [a,if_true,if_false] <;> omega
  ·exact Cy xs _ x h
theorem Ia:∀ (xs:List Ist) (m:Nat),m<=1000->(∀ x∈xs,lmS x)->gD xs m<=1000
 | [],m,h,_=>h
 | x::xs,m,h,hx=>by
  rw [gD];refine Ia xs _ ?_ fun y a=>hx y (bI _ a);have:=(hx x (bF ..)).1;have g:i9 x<=999:=by
   unfold i9;split
   ·omega
   ·split <;> omega
  split <;> omega
theorem Q7:∀ {xs:List Ist} {k:Int},k∈dfL xs->∃ x∈xs,i9 x=k
 | x::xs,k,h=>by
  rw [dfL] at h;rcases cU.1 h with h|h
  ·refine ⟨x,bF ..,?_⟩;unfold dfI at h;split at h
   ·rename_i a
    rw [i9,ag (by omega),bM.1 h]
   ·split at h
    ·rename_i a g
     rw [i9,ae (by omega),ag g,bM.1 h]
    ·cases h
  ·obtain ⟨y,i,e⟩:=Q7 h;exact ⟨y,bI _ i,e⟩
def noZ (us:List T):Bool:=us.all fun t=>t.kids.all fun k=>decide (k.kind≠0)
noncomputable def finS (code:List Ist) (nm:ByteArray) (n:Nat) (s:RI) (us:List T):Option C:=
 if noZ us=true/\(resV s.st (eI nm n::us)).all dt=true/\aZ (ofL (nt (resV s.st (eI nm n::us))))=true/\dV (ofL (nt (resV s.st (eI nm n::us))))=code then some (ofL (nt (resV s.st (eI nm n::us)))) else none
noncomputable def rdCS (code:List Ist) (nm:ByteArray) (n:Int):Option C:=
 if 0<=n/\n<=4/\code.length<=2000/\code≠[]/\∀ x∈code,lmS x then
  (readS (gD code 4) (code.length+1) (gh (gD code 4+1) n.toNat) code []).bind fun r=>if (code.getLast?.map (·.op))=some 14 then finS code nm n.toNat r.1 r.2 else none
 else none
theorem HZ {N n:Nat} (h:n<=N):okRd N (gh N n):=⟨NN N,DJ n N,h,HU n,fun k t hk=>(by cases hk)⟩
theorem XP {N:Nat} {us:List T} (h:∀ t∈us,okU N t):noZ us=true:=by
 rw [noZ,fF];intro t a;rw [fF];intro k hk;rw [bK];exact (iQ (h t a).kids k hk).kind
theorem Tc {c:C} (h:aZ c=true):rdCS (dV c) c.head.name c.head.kids.length=some (vD (cC c) c):=by
 obtain ⟨l1,l2⟩:=K7 h;obtain ⟨t1,t3,t2⟩:=eU h;obtain ⟨⟨q,o⟩,O⟩:=Qx h;have a2:c.head.name.size<=6:=by
  have hh:=h;rw [aZ] at hh;simp only [bQ] at hh;have:=jI hh.2.2.1;rcases this.kind with e|e|e
  ·omega
  ·omega
  ·exact iO e.2.1
 have a3:∀ x∈pC c,lim x:=fun x m=>PS (l1 x (by rw [gI];exact gf _ m));obtain ⟨M,U⟩:∃ M,M=gD (dV c) 4:=⟨_,rfl⟩
 have a9:4<=M:=by rw [U];exact pV _ _
 have l:dfL (pC c)=AH q:=by
  rw [<- o,gI,lp];exact (dk _).symm
 have p:∀ k∈AH q,4<=k/\k<M:=fun k hk=>by
  refine ⟨(KG _ _ hk).1,?_⟩;rw [<- o] at hk;obtain ⟨x,m,e⟩:=Q7 hk;rw [U,<- e];exact Cy _ _ _ m
 have a4:q+4<=M:=by
  cases q with
  | zero=>omega
  | succ j=>
   have:=(p ((j:Int)+4) (by rw [AH];exact gy _ (bM.2 rfl))).2;omega
 have b0:dn (pC c)=q:=by
  rw [dn,l];clear l p a4 o;induction q with
  | zero=>rfl
  | succ j ih=>rw [AH,bt,ih];rfl
 have a5:FrS M (gh (M+1) c.head.kids.length) (pC c):=by
  refine ⟨fun k t hk=>?_,fun k hk=>?_,by rw [l];exact Fq _⟩
  ·have hk:dO c.head.kids.length k=some t:=hk;unfold dO at hk;split at hk
   ·omega
   ·cases hk
  ·rw [l] at hk;have:=p k hk;refine ⟨?_,by omega,by omega⟩;show dO c.head.kids.length k=none;rw [dO,ae (by omega)]
 have r:∀ x∈pC c,pbI x:=fun x m=>O x (by rw [gI];exact gf _ m);have h0:=HZ (N:=M+1) (n:=c.head.kids.length) (by omega);have key:∀ θ:Int->T,∃ s' us,readS M ((dV c).length+1) (gh (M+1) c.head.kids.length) (dV c) []=some (s',us)/\okRd (M+1) s'/\(∀ t∈us,okU s'.fr t/\wB t)/\(∃ σ,io σ s'.st/\sbL σ (eI c.head.name c.head.kids.length::us)=sbL θ (c.head::c.body))/\
   ∀ τ,io τ s'.st->∃ θ',sbL τ (eI c.head.name c.head.kids.length::us)=sbL θ' (c.head::c.body):=by
  intro θ
  let σ:Int->T:=fun n=>match c.head.kids[n.toNat]? with|some t=>sbT θ t|none=>oG
  have hσ:∀ j (i:j<c.head.kids.length),σ (j:Int)=sbT θ c.head.kids[j]:=fun j i=>by
   show (match c.head.kids[(j:Int).toNat]? with|some t=>sbT θ t|none=>oG)=_;rw [dH,me i]
  have hA:Args θ 0 c.head.kids (env σ (dO c.head.kids.length)):=fun j i=>by
   rw [BI];show (dO c.head.kids.length (j:Int)).map _=_;rw [dO,ag (by omega),jz,dH,fp,hσ j i]
  obtain ⟨e',hd⟩:=Vw h θ (a:=env σ fun _=>none) hA;obtain ⟨V,s',us,b1,Y,b3,b4,b5,⟨σ',b6,b7,b8⟩,b9⟩:=Td (M:=M) hd (s:=gh (M+1) c.head.kids.length) (σ:=σ) h0 rfl (fun n u hn=>absurd (DJ 0 (M+1) n u hn).1 (Nat.not_lt_zero _)) (by show c.head.kids.length+_<=M+1;omega) a3 a5 r [⟨14,0,0,emptyB⟩] [] ((dV c).length+1) (by rw [<- gI];exact vQ _);rw [<- gI] at Y;obtain ⟨V,rfl⟩:∃ g,V=g+1:=⟨V - 1,by simp only [lG] at b1;omega⟩
  rw [readS,ag rfl,ag rfl,gW] at Y;refine ⟨s',us,Y,b3,b5,⟨σ',b7,?_⟩,fun τ J=>?_⟩
  ·rw [sbL,sbL,<- b8,DB h,xI fun j i=>?_];rw [<- b6 j (by omega) (by show (j:Int)<(c.head.kids.length:Int);omega),hσ j i]
  ·obtain ⟨_,a8,Z⟩:=b9 τ J;obtain ⟨θ',a0,a1⟩:=NA h (fun j i=>by
    refine ⟨τ (j:Int),?_⟩;show (dO c.head.kids.length (j:Int)).map _=_;rw [dO,ag (by omega),jz,dH,fp]) Z
   refine ⟨θ',?_⟩;rw [sbL,sbL,a1,DB h,xI fun j i=>?_];have:=a0 j i;rw [BI] at this;have this:(dO c.head.kids.length (j:Int)).map (sbT τ)=_:=this;rw [dO,ag (by omega),jz,dH,fp,bj] at this;exact this
 obtain ⟨s',us,e1,e2,e3,e4,e5⟩:=key idS;obtain ⟨o1,o2,_⟩:=jx h;have hc:cM 26 (c.head::c.body):=by rw [cM];exact ⟨o1,ix o2⟩
 rw [Et _ hc] at e4;have B:∀ t∈us,okU (M+1) t:=fun t J=>cP e2.le _ (e3 t J).1;have D:cM (M+1) (eI c.head.name c.head.kids.length::us):=by
  rw [cM];exact ⟨(pm (by omega) a2 (by omega)).1,ix B⟩
 have G:=pi e2.good D;obtain ⟨f,v1,v2,v3⟩:=DY h e2.good D G e5 e4;obtain ⟨w1,w2⟩:=Vr h v1 v2 v3;have a6:dV c≠[]:=by rw [gI];simp
 have a7:(dV c).getLast?.map (·.op)=some 14:=by rw [gI,List.getLast?_append];rfl
 rw [rdCS,ag ⟨by omega,by omega,l2,a6,fun x m=>Xo (l1 x m)⟩,dH,<- U,e1,dq,ag a7,finS,ag ⟨XP B,w1,by rw [w2];exact I8 h,by rw [w2];exact N9 h⟩,w2]
def rz (f:Sl):Nat->Nat
 | 0=>0
 | m+1=>rz f m+(if (f (m:Int)).isSome then 1 else 0)
theorem Nz (f:Sl):∀ m,rz f m<=m
 | 0=>aY _
 | m+1=>by
  rw [rz];have:=Nz f m;split <;> omega
theorem MV {f:Sl} {k:Int} {t:T} (h:f k=none):∀ m:Nat,rz (upS f k t) m=rz f m+(if 0<=k/\k<(m:Int) then 1 else 0)
 | 0=>by rw [ae (show ¬ (0<=k/\k<((0:Nat):Int)) by omega)];rfl
 | m+1=>by
  rw [rz,rz,MV h m];by_cases e:(m:Int)=k
  ·subst e;rw [fb,h,ae (show ¬ (0<=(m:Int)/\(m:Int)<(m:Int)) by omega),ag (show 0<=(m:Int)/\(m:Int)<((m+1:Nat):Int) by omega)];rfl
  ·rw [gj _ _ e];by_cases a:0<=k/\k<(m:Int)
   ·rw [ag a,ag (show 0<=k/\k<((m+1:Nat):Int) by omega)];omega
   ·rw [ae a,ae (show ¬ (0<=k/\k<((m+1:Nat):Int)) by omega)];omega
theorem D5 (n:Nat):∀ m:Nat,rz (dO n) m=min n m
 | 0=>by simp [rz]
 | m+1=>by
  rw [rz,D5 n m];unfold dO;by_cases e:m<n
  ·rw [ag (show 0<=(m:Int)/\(m:Int)<(n:Int) by omega),Option.isSome_some,ag rfl];omega
  ·rw [ae (show ¬ (0<=(m:Int)/\(m:Int)<(n:Int)) by omega),Option.isSome_none,ae (by decide)];omega
structure g9 (M:Nat) (s:RI):Prop where
 ok:okRd (M+1) s
 rng:∀ k t,s.sl k=some t->0<=k/\k<M
 cnt:s.fr=rz s.sl M
theorem wi {M n:Nat} (h:n<=4) (a:4<=M):g9 M (gh (M+1) n):=
 ⟨HZ (by omega),fun k t hk=>(by
  have hk:dO n k=some t:=hk;unfold dO at hk;split at hk
  ·omega
  ·cases hk),by show n=rz (dO n) M;rw [D5];omega⟩
theorem nZ {M:Nat} {s s':RI} {k:Int} {t:T} (h:g9 M s) (a:lE M s k=some (s',t)):g9 M s'/\(okU s'.fr t/\wB t)/\s.fr<=s'.fr/\s'.ar=s.ar/\s'.st=s.st:=by
 unfold lE at a;split at a
 ·rename_i hk
  rw [bj] at a;cases i:s.sl k with
  | some u=>
   rw [i] at a;obtain ⟨rfl,rfl⟩:=Prod.mk.inj a;exact ⟨h,h.ok.sl _ _ i,aY _,rfl,rfl⟩
  | none=>
   rw [i] at a;obtain ⟨rfl,rfl⟩:=Prod.mk.inj a;have hc:=MV (t:=dx s.fr) i M;rw [ag hk,<- h.cnt] at hc;have l:=Nz (upS s.sl k (dx s.fr)) M;refine ⟨⟨h.ok.fresh (by omega) k,fun j u g=>?_,hc.symm⟩,gp _,vQ _,rfl,rfl⟩;by_cases e:j=k
   ·subst e;exact hk
   ·have g:upS s.sl k (dx s.fr) j=some u:=g;rw [gj _ _ e] at g;exact h.rng _ _ g
 ·cases a
theorem Gi {M:Nat}:∀ (xs:List Ist) {s s':RI} {us:List T},g9 M s->we M s xs=some (s',us)->g9 M s'/\s.fr<=s'.fr/\s'.st=s.st/\s'.ar=s.ar/\us.length=xs.length/\∀ t∈us,okU s'.fr t/\wB t
 | [],s,s',us,h,a=>by
  rw [we,bj,c9] at a;obtain ⟨rfl,rfl⟩:=a;exact ⟨h,aY _,rfl,rfl,rfl,fun t g=>(by cases g)⟩
 | x::xs,s,s',us,h,a=>by
  rw [we] at a;split at a
  ·rw [fV] at a;obtain ⟨⟨D,j⟩,l,m⟩:=a;obtain ⟨rfl,rfl⟩:=Prod.mk.inj m;obtain ⟨o,i,p,q,r,B⟩:=Gi xs h l;refine ⟨o,i,p,q,by rw [aP,aP,r],fun t g=>?_⟩;rcases dK.1 g with rfl|g
   ·exact g8 _ _
   ·exact B t g
  ·split at a
   ·rw [fi] at a;obtain ⟨⟨U,V⟩,G,a⟩:=a;rw [fV] at a;obtain ⟨⟨D,j⟩,l,m⟩:=a;obtain ⟨rfl,rfl⟩:=Prod.mk.inj m;obtain ⟨J,C,b3,N,O⟩:=nZ h G;obtain ⟨o,i,p,q,r,B⟩:=Gi xs J l;refine ⟨o,il b3 i,p.trans O,q.trans N,by rw [aP,aP,r],fun t g=>?_⟩;rcases dK.1 g with rfl|g
    ·exact ⟨cP i _ C.1,C.2⟩
    ·exact B t g
   ·cases a
theorem JM {M:Nat} {s s':RI} {t u:T} (h:g9 M s) (i:okU s.fr t/\wB t) (j:okU s.fr u/\wB u) (l:unI s t u=some s'):g9 M s'/\s'.fr=s.fr:=by
 obtain ⟨m,a,g,o⟩:=sy h.ok i j l;exact ⟨⟨m,by rw [g];exact h.rng,by rw [a,g];exact h.cnt⟩,a⟩
theorem KI {M:Nat} {s s':RI} {b:Int} {t:T} (h:g9 M s) (g:okU s.fr t/\wB t) (a:Ao s b t=some s'):g9 M s'/\s'.fr=s.fr:=by
 unfold Ao at a;split at a
 ·rw [bj] at a;subst a;exact ⟨⟨⟨h.ok.good,h.ok.low,h.ok.le,h.ok.sl,h.ok.ar.upS g b⟩,h.rng,h.cnt⟩,rfl⟩
 ·cases a
theorem QE {M:Nat} {s s':RI} {x:Ist} {more:List Ist} (h:g9 M s) (G:more.length<=1048576) (hn:x.name.size<=6) (a:insS M s x more=some s'):g9 M s'/\s.fr<=s'.fr:=by
 unfold insS at a;split at a
 ·rw [fi] at a;obtain ⟨⟨o,p⟩,l,a⟩:=a;rw [fi] at a;obtain ⟨⟨C,J⟩,q,a⟩:=a;obtain ⟨m,g,b3,_⟩:=nZ h l;obtain ⟨r,t,B,_⟩:=nZ m q;obtain ⟨i,j⟩:=JM r ⟨cP B _ g.1,g.2⟩ t a;exact ⟨i,by rw [j];omega⟩
 split at a
 ·rw [fi] at a;obtain ⟨⟨o,p⟩,l,a⟩:=a;obtain ⟨m,g,b3,_⟩:=nZ h l;obtain ⟨i,j⟩:=JM m g (g8 _ _) a;exact ⟨i,by rw [j];omega⟩
 split at a
 ·rw [fi] at a;obtain ⟨⟨o,p⟩,l,a⟩:=a;rw [fi] at a;obtain ⟨⟨C,us⟩,q,a⟩:=a;obtain ⟨m,g,b3,_⟩:=nZ h l;obtain ⟨r,t,B,N,O,D⟩:=Gi more m q;obtain ⟨i,j⟩:=JM r ⟨cP t _ g.1,g.2⟩ (gT hn (by omega) D) a;exact ⟨i,by rw [j];omega⟩
 split at a
 ·rw [fi] at a;obtain ⟨⟨o,p⟩,l,a⟩:=a;obtain ⟨m,g,b3,_⟩:=nZ h l;obtain ⟨i,j⟩:=KI m g a;exact ⟨i,by rw [j];omega⟩
 split at a
 ·obtain ⟨i,j⟩:=KI h (g8 _ _) a;exact ⟨i,by rw [j];omega⟩
 ·cases a
def gz (N:Nat) (t:T):Prop:=∃ nm ks,t=fnT nm ks/\nm.size<=6/\ks.length<=4/\∀ k∈ks,k=zT0 ∨ (okU N k/\wB k)
theorem gz.le {N M:Nat} (h:N<=M) {t:T} (a:gz N t):gz M t:=by
 obtain ⟨nm,ks,e,g,i,j⟩:=a;refine ⟨nm,ks,e,g,i,fun k hk=>?_⟩;rcases j k hk with e|e
 ·exact .inl e
 ·exact .inr ⟨cP h _ e.1,e.2⟩
theorem Xe {N:Nat} {us:List T} (h:∀ t∈us,gz N t) (a:noZ us=true):∀ t∈us,okU N t/\wB t:=fun t g=>by
 obtain ⟨nm,ks,rfl,i,l,j⟩:=h t g;rw [noZ,fF] at a;have a:=a _ g;rw [fF] at a;refine gT i (by omega) fun k hk=>?_;rcases j k hk with e|e
 ·have:=a k hk;rw [e] at this;exact absurd this (by decide)
 ·exact e
theorem QF {N:Nat} {a:Sl} (h:okSl N a) (k:Nat):∀ t∈sH a k,t=zT0 ∨ (okU N t/\wB t):=fun t g=>by
 obtain ⟨i,_,rfl⟩:=ob.1 g;cases e:a (i:Int) with
 | none=>exact .inl rfl
 | some u=>exact .inr (h _ _ e)
theorem xn {M:Nat}:∀ (f:Nat) {s s':RI} {xs:List Ist} {out us:List T},g9 M s->xs.length<=1048576->(∀ y∈xs,y.name.size<=6)->(∀ t∈out,gz s.fr t)->readS M f s xs out=some (s',us)->g9 M s'/\∀ t∈us,gz s'.fr t
 | 0,_,_,_,_,_,_,_,_,_,h=>by rw [readS] at h;cases h
 | f+1,s,s',[],out,us,hs,_,_,ho,h=>by
  rw [readS,bj,c9] at h;obtain ⟨rfl,rfl⟩:=h;exact ⟨hs,ho⟩
 | f+1,s,s',x::xs,out,us,hs,hl,hn,ho,h=>by
  rw [aP] at hl;have i:=hn x (bF ..);have g:∀ y∈xs,y.name.size<=6:=fun y j=>hn y (bI _ j);rw [readS] at h;split at h
  ·split at h
   ·rw [bj,c9] at h;obtain ⟨rfl,rfl⟩:=h;exact ⟨hs,ho⟩
   ·cases h
  split at h
  ·refine xn f hs (by omega) g (fun t a=>?_) h;rcases cU.1 a with a|a
   ·exact ho t a
   ·rw [bM.1 a];exact ⟨⟨#[33]⟩,[],rfl,by decide,by decide,fun k hk=>(by cases hk)⟩
  split at h
  ·split at h
   ·rename_i l
    refine xn f hs (by omega) g (fun t a=>?_) h;rcases cU.1 a with a|a
    ·exact ho t a
    ·rw [bM.1 a];exact ⟨_,_,rfl,i,by rw [sH,ro,List.length_range];omega,QF hs.ok.ar _⟩
   ·cases h
  split at h
  ·rename_i l
   rw [fi] at h;obtain ⟨r,m,h⟩:=h;obtain ⟨o,p⟩:=QE hs (by rw [ig];omega) i m;have q:(xs.drop (iA x)).length=xs.length - iA x:=mj ..;exact xn f o (by omega) (fun y j=>g y (QA j)) (fun t a=>(ho t a).le p) h
  ·cases h
theorem Nu {st:bb} {nm:ByteArray} {n:Nat} {us i:List T} (h:Res st (.list (eI nm n::us) i)):(ofL (nt i)).head.name=nm/\(ofL (nt i)).head.kids.length=n:=by
 cases h with
 | cons l r=>
  rename_i u q
  cases l with
  | one m o=>
   rename_i v g
   cases m with
   | stop _=>
    have a:g.length=n:=by
     have j:∀ {ts vs:List T},Res st (.list ts vs)->vs.length=ts.length:=fun {ts}=>by
      induction ts with
      | nil=>intro vs h;cases h;rfl
      | cons t ts p=>intro vs h;cases h with|cons _ h=>rw [aP,aP,p h]
     rw [j o];show ((List.range n).map dx).length=n;simp
    unfold nt;rw [iu];show (jR _ (.mk 3 0 nm g)).name=nm/\(jR _ (.mk 3 0 nm g)).kids.length=n;rw [jR,ae (by decide)];exact ⟨rfl,(pG _ g).trans a⟩
   | step hk _=>exact absurd (dU.1 hk).1 (by show ¬ (3:Int)=1;decide)
theorem R2 {code:List Ist} {nm:ByteArray} {n:Int} {c:C} (a:nm.size<=6) (hc:∀ y∈code,y.name.size<=6) (h:rdCI code nm n=some c):c.head.name=nm/\(c.head.kids.length:Int)=n:=by
 unfold rdCI at h;split at h
 ·rename_i q
  rw [fi] at h;obtain ⟨⟨s',us⟩,j,h⟩:=h;unfold finI at h;split at h
  ·rw [bj] at h;subst h;obtain ⟨l,m⟩:=rX (N:=4096) code.length (tT (N:=4096) (n:=n.toNat) (by omega)) (by show n.toNat+code.length<=4096;omega) hc (fun t g=>(by cases g)) j;have i:cM 4096 (eI nm n.toNat::us):=by
    rw [cM];exact ⟨(pm (by omega) a (by omega)).1,ix fun t g=>(m t g).1⟩
   obtain ⟨o,p⟩:=Nu (pi l.good i);exact ⟨o,by rw [p];omega⟩
  ·cases h
 ·cases h
theorem Sd {code:List Ist} {nm:ByteArray} {n:Int} {c:C} (a:nm.size<=6) (h:rdCS code nm n=some c):(aZ c=true/\dV c=code)/\c.head.name=nm/\(c.head.kids.length:Int)=n:=by
 unfold rdCS at h;split at h
 ·rename_i m
  rw [fi] at h;obtain ⟨⟨s',us⟩,p,h⟩:=h;split at h
  ·unfold finS at h;split at h
   ·rename_i hf
    rw [bj] at h;subst h;have i:=pV code 4;obtain ⟨l,q⟩:=xn (code.length+1) (wi (M:=gD code 4) (n:=n.toNat) (by omega) i) (by omega) (fun y o=>(m.2.2.2.2 y o).size) (fun t g=>(by cases g)) p;have D:=Xe q hf.1;have j:cM (gD code 4+1) (eI nm n.toNat::us):=by
     rw [cM];exact ⟨(pm (by omega) a (by omega)).1,ix fun t g=>cP l.ok.le _ (D t g).1⟩
    obtain ⟨r,B⟩:=Nu (pi l.ok.good j);exact ⟨⟨hf.2.2.1,hf.2.2.2⟩,r,by rw [B];omega⟩
   ·cases h
  ·cases h
 ·cases h
theorem YS {code:List Ist} {nm:ByteArray} {n:Int} (a:nm.size<=6) (hc:∀ y∈code,y.name.size<=6):rdCS code nm n=rdCI code nm n:=by
 cases h:rdCI code nm n with
 | some c=>
  obtain ⟨g,i⟩:=HJ h;obtain ⟨j,l⟩:=R2 a hc h;subst i j l;rw [z3 g,bj] at h;rw [Tc g,h]
 | none=>
  cases m:rdCS code nm n with
  | none=>rfl
  | some c=>
   obtain ⟨⟨g,i⟩,j,l⟩:=Sd a m;subst i j l;rw [z3 g] at h;cases h
end
section
open Go Go.RowKit
def rO (op:Int):ByteArray:=
 if op=1 ∨ op=2 ∨ op=8 ∨ op=9 ∨ op=10 then ⟨#[97,98]⟩
 else if op=3 ∨ op=7 then ⟨#[97,98,110]⟩
 else if op=4 ∨ op=5 ∨ op=6 then ⟨#[97]⟩
 else if op=11 ∨ op=12 then ⟨#[97,110]⟩
 else if op=13 ∨ op=14 then ⟨#[]⟩
 else ⟨#[63]⟩
theorem Q4 (op:Int):((op=1 ∨ op=2 ∨ op=8 ∨ op=9 ∨ op=10)/\rO op=⟨#[97,98]⟩) ∨ ((op=3 ∨ op=7)/\rO op=⟨#[97,98,110]⟩) ∨ ((op=4 ∨ op=5 ∨ op=6)/\rO op=⟨#[97]⟩) ∨ ((op=11 ∨ op=12)/\rO op=⟨#[97,110]⟩) ∨ ((op=13 ∨ op=14)/\rO op=⟨#[]⟩) ∨ (op ∉ [1,2,3,4,5,6,7,8,9,10,11,12,13,14]/\rO op=⟨#[63]⟩):=by
 unfold rO;split
 ·exact .inl ⟨by assumption,rfl⟩
 split
 ·exact .inr (.inl ⟨by assumption,rfl⟩)
 split
 ·exact .inr (.inr (.inl ⟨by assumption,rfl⟩))
 split
 ·exact .inr (.inr (.inr (.inl ⟨by assumption,rfl⟩)))
 split
 ·exact .inr (.inr (.inr (.inr (.inl ⟨by assumption,rfl⟩))))
 ·refine .inr (.inr (.inr (.inr (.inr ⟨?_,rfl⟩))));simp only [dK,vR,vY];omega
abbrev bdI (x:Ist):Prop:=-999<=x.a/\x.a<=999/\0<=x.b/\x.b<=999
theorem UW {x:Ist} (h:x.op=1 ∨ x.op=2 ∨ x.op=8 ∨ x.op=9 ∨ x.op=10) (a:bdI x):lmS x↔x.name=emptyB:=by
 refine ⟨fun g=>?_,fun e=>⟨a,.inl ⟨h,e⟩⟩⟩;rcases g.2 with k|k|k|k|k
 ·exact k.2
 ·exact absurd k.1 (by omega)
 ·exact absurd k.1 (by omega)
 ·exact absurd k.1 (by omega)
 ·exact absurd k.1 (by omega)
theorem QX {x:Ist} (h:x.op=3 ∨ x.op=7) (a:bdI x):lmS x↔fw x.name=true:=by
 refine ⟨fun g=>?_,fun e=>⟨a,.inr (.inl ⟨h,e⟩)⟩⟩;rcases g.2 with k|k|k|k|k
 ·exact absurd k.1 (by omega)
 ·exact k.2
 ·exact absurd k.1 (by omega)
 ·exact absurd k.1 (by omega)
 ·exact absurd k.1 (by omega)
theorem Us {x:Ist} (h:x.op=4 ∨ x.op=5 ∨ x.op=6) (a:bdI x):lmS x↔x.b=0/\x.name=emptyB:=by
 refine ⟨fun g=>?_,fun e=>⟨a,.inr (.inr (.inl ⟨h,e⟩))⟩⟩;rcases g.2 with k|k|k|k|k
 ·exact absurd k.1 (by omega)
 ·exact absurd k.1 (by omega)
 ·exact k.2
 ·exact absurd k.1 (by omega)
 ·exact absurd k.1 (by omega)
theorem PO {x:Ist} (h:x.op=11 ∨ x.op=12) (a:bdI x):lmS x↔x.b=0/\fw x.name=true:=by
 refine ⟨fun g=>?_,fun e=>⟨a,.inr (.inr (.inr (.inl ⟨h,e⟩)))⟩⟩;rcases g.2 with k|k|k|k|k
 ·exact absurd k.1 (by omega)
 ·exact absurd k.1 (by omega)
 ·exact absurd k.1 (by omega)
 ·exact k.2
 ·exact absurd k.1 (by omega)
theorem JN {x:Ist} (h:x.op=13 ∨ x.op=14) (g:bdI x):lmS x↔x.a=0/\x.b=0/\x.name=emptyB:=by
 refine ⟨fun i=>?_,fun e=>⟨g,.inr (.inr (.inr (.inr ⟨h,e⟩)))⟩⟩;rcases i.2 with k|k|k|k|k
 ·exact absurd k.1 (by omega)
 ·exact absurd k.1 (by omega)
 ·exact absurd k.1 (by omega)
 ·exact absurd k.1 (by omega)
 ·exact k.2
theorem UA {x:Ist} (h:x.op ∉ [1,2,3,4,5,6,7,8,9,10,11,12,13,14]):¬ lmS x:=fun a=>by
 simp only [dK,vR,vY] at h;rcases a.2 with k|k|k|k|k <;> exact absurd k.1 (by omega)
section
variable {S:ai}
theorem uU (op:Int) (S:ai):ru Mo [ee op] S (.string (rO op)):=by
 intro w a;refine zG.2 ?_;dsimp only[zG,bd];refine ⟨fun z w'=>z=.bool (decide (op=1 ∨ op=2 ∨ op=8 ∨ op=9 ∨ op=10))/\Inv w [] [] S w',?_,?_⟩
 ·refine a9 ?_;refine aJ (fun _=>⟨by congr 1;exact cW.2 (by omega),a⟩) (fun _=>?_);refine a9 ?_;refine aJ (fun _=>⟨by congr 1;exact cW.2 (by omega),a⟩) (fun _=>?_);refine a9 ?_;refine aJ (fun _=>⟨by congr 1;exact cW.2 (by omega),a⟩) (fun _=>?_);refine a9 ?_;refine aJ (fun _=>⟨by congr 1;exact cW.2 (by omega),a⟩) (fun _=>?_);refine a9 ?_;exact ⟨by congr 1;exact cW.2 (by omega),a⟩
 intro _ _ _ _ z _ w';rintro ⟨rfl,a⟩;refine aJ (fun g=>done a (by rw [rO,ag g])) (fun g=>?_);refine ⟨fun z w'=>z=.bool (decide (op=3 ∨ op=7))/\Inv w [] [] S w',?_,?_⟩
 ·refine a9 ?_;refine aJ (fun _=>⟨by congr 1;exact cW.2 (by omega),a⟩) (fun _=>?_);refine a9 ?_;exact ⟨by congr 1;exact cW.2 (by omega),a⟩
 intro _ z _ w';rintro ⟨rfl,a⟩;refine aJ (fun h=>done a (by rw [rO,ae g,ag h])) (fun h=>?_);refine ⟨fun z w'=>z=.bool (decide (op=4 ∨ op=5 ∨ op=6))/\Inv w [] [] S w',?_,?_⟩
 ·refine a9 ?_;refine aJ (fun _=>⟨by congr 1;exact cW.2 (by omega),a⟩) (fun _=>?_);refine a9 ?_;refine aJ (fun _=>⟨by congr 1;exact cW.2 (by omega),a⟩) (fun _=>?_);refine a9 ?_;exact ⟨by congr 1;exact cW.2 (by omega),a⟩
 intro _ _ z _ w';rintro ⟨rfl,a⟩;refine aJ (fun i=>done a (by rw [rO,ae g,ae h,ag i])) (fun i=>?_);refine ⟨fun z w'=>z=.bool (decide (op=11 ∨ op=12))/\Inv w [] [] S w',?_,?_⟩
 ·refine a9 ?_;refine aJ (fun _=>⟨by congr 1;exact cW.2 (by omega),a⟩) (fun _=>?_);refine a9 ?_;exact ⟨by congr 1;exact cW.2 (by omega),a⟩
 intro _ z _ w';rintro ⟨rfl,a⟩;refine aJ (fun j=>done a (by rw [rO,ae g,ae h,ae i,ag j])) (fun j=>?_);refine ⟨fun z w'=>z=.bool (decide (op=13 ∨ op=14))/\Inv w [] [] S w',?_,?_⟩
 ·refine a9 ?_;refine aJ (fun _=>⟨by congr 1;exact cW.2 (by omega),a⟩) (fun _=>?_);refine a9 ?_;exact ⟨by congr 1;exact cW.2 (by omega),a⟩
 intro _ z _ w';rintro ⟨rfl,a⟩;refine aJ (fun l=>done a (by rw [rO,ae g,ae h,ae i,ae j,ag l])) (fun l=>?_);exact done a (by rw [rO,ae g,ae h,ae i,ae j,ae l])
theorem yp (x:Ist) (S:ai):ru OM [.agg x.cells.toArray] S (ee (i9 x)):=by
 intro w g;obtain ⟨op,a,b,nm⟩:=x;refine Cp.2 ?_;dsimp only[Cp,bd];refine bH g fun j w' g=>?_;have g:Inv w [] [ei j #[ee op,ee a,ee b,.string nm] ay] S w':=g;refine ah g 0 rfl ew au rfl ?_;refine ⟨fun z w'=>z=.bool (decide (op=4 ∨ op=5 ∨ op=8 ∨ op=9 ∨ op=1))/\Inv w [] [ei j #[ee op,ee a,ee b,.string nm] ay] S w',?_,?_⟩
 ·refine a9 ?_;refine aJ (fun _=>⟨by congr 1;exact cW.2 (by omega),g⟩) (fun _=>?_);refine a9 ?_;refine aJ (fun _=>⟨by congr 1;exact cW.2 (by omega),g⟩) (fun _=>?_);refine a9 ?_;refine aJ (fun _=>⟨by congr 1;exact cW.2 (by omega),g⟩) (fun _=>?_);refine a9 ?_;refine aJ (fun _=>⟨by congr 1;exact cW.2 (by omega),g⟩) (fun _=>?_);refine a9 ?_;exact ⟨by congr 1;exact cW.2 (by omega),g⟩
 intro _ _ _ _ z _ w';rintro ⟨rfl,g⟩;refine aJ (fun h=>?_) (fun h=>?_)
 ·refine ah g 0 rfl bZ au rfl ?_;exact done g (by rw [i9,ag h];rfl)
 refine a9 ?_;refine aJ (fun i=>?_) (fun i=>?_)
 ·refine ah g 0 rfl dL au rfl ?_;exact done g (by rw [i9,ae h,ag i];rfl)
 ·exact done g (by rw [i9,ae h,ae i])
theorem rf {code:List Ist} {v:Value} (h:RdSl S 4 (cZ S) v code) (B:∀ x∈code,i9 x<=999):ru oI [v] S (ee (gD code 4)):=by
 intro w a;have p:=h.le;simp only [maxLen] at p;refine rV.2 ?_;dsimp only[rV,bd];refine ⟨fun i m w'=>∃ (j k:Nat),j<=code.length/\i=ee j/\m=ee k/\k<=1000/\gD (code.drop j) k=gD code 4/\Inv w [] [] S w',fun i _ _=>code.length - (intOf i).toNat,⟨0,4,aT _,rfl,rfl,by omega,rfl,a⟩,?_⟩;intro i _ _ _ _ _ _ m _ _ _ _ _ _ _ _ _ _ _ _ _ _ _ _ _ _ _ _ w';rintro ⟨j,k,G,rfl,rfl,hk,q,a⟩;refine aO h bx ?_;refine cd ?_;refine aJ (fun r=>?_) (fun r=>?_)
 ·have g:j<code.length:=by omega
  have D:=B _ (cO g);rw [ef g,gD] at q;refine ⟨fun z w'=>z=ee ((if (k:Int)<=i9 code[j] then (i9 code[j]).toNat+1 else k:Nat):Int)/\Inv w [] [] S w',?_,?_⟩
  ·refine ⟨fun z w'=>z=.bool (decide ((k:Int)<=i9 code[j]))/\Inv w [] [] S w',?_,?_⟩
   ·refine dj a h bx dF g (fun _ _ h=>by rw [h];rfl) fun cs l=>?_;rw [show cs=code[j].cells from l];refine Run.callPure BH Bh a (yp _ S) fun w' a=>?_;refine iK ?_;by_cases o:(k:Int)<=i9 code[j]
    ·rw [aD o];refine rpG ?_;refine cd ?_;rw [aD (show (k:Int)<9223372036854775807 by omega)];refine rpG ?_;exact ⟨rfl,a⟩
    ·rw [aM o];refine rpG ?_;exact ⟨rfl,a⟩
   intro z _ _ _ _ _ _ _ _ _ _ w';rintro ⟨rfl,a⟩;refine aJ (fun o=>?_) (fun o=>?_)
   ·refine dj a h bx dF g (fun _ _ h=>by rw [h];rfl) fun cs l=>?_;rw [show cs=code[j].cells from l];refine Run.callPure BH Bh a (yp _ S) fun w' a=>?_;refine cd ?_;rw [aD (show i9 code[j]<9223372036854775807 by omega)];refine aL (fun _=>?_) (fun C=>by cases C);refine bL (by omega) ?_;exact ⟨by rw [ag o];congr 1;omega,a⟩
   ·exact ⟨by rw [ae o],a⟩
  intro _ _ _ _ z _ _ _ _ _ _ _ _ _ _ _ _ _ _ _ _ w';rintro ⟨rfl,a⟩;refine bL (by omega) ?_;refine ⟨⟨j+1,_,g,rfl,rfl,?_,q,a⟩,by simp [intOf];omega⟩;split <;> omega
 ·have t:j=code.length:=by omega
  rw [t,eL,gD] at q;exact done a (by rw [q])
theorem u6 (x:Ist) (B:x.name.size<=maxLen) (S:ai):ru Ol [.agg x.cells.toArray] S (.bool (decide (lmS x))):=by
 intro w g;obtain ⟨op,a,b,nm⟩:=x;refine wM.2 ?_;dsimp only[wM,bd];refine bH g fun p w' g=>?_;have g:Inv w [] [ei p #[ee op,ee a,ee b,.string nm] ay] S w':=g;refine ah g 0 rfl ew au rfl ?_;refine Run.callPure zx yv g (uU op S) fun w' g=>?_;refine ⟨fun z w'=>z=.bool (decide (rO op=⟨#[63]⟩ ∨ ¬ bdI ⟨op,a,b,nm⟩))/\Inv w [] [ei p #[ee op,ee a,ee b,.string nm] ay] S w',?_,?_⟩
 ·refine bT ?_;by_cases q:rO op=⟨#[63]⟩
  ·rw [aD q];refine rpG ?_;exact ⟨by rw [aD (Or.inl q)],g⟩
  rw [aM q];refine rpG ?_;refine ah g 0 rfl bZ au rfl ?_;refine cd ?_;by_cases m:a < -999
  ·rw [aD m];refine rpG ?_;exact ⟨by rw [aD (Or.inr (show ¬ bdI ⟨op,a,b,nm⟩ from fun h=>by have:=h.1;simp only at this;omega))],g⟩
  rw [aM m];refine rpG ?_;refine ah g 0 rfl bZ au rfl ?_;refine fL ?_;by_cases j:999<a
  ·rw [aD j];refine rpG ?_;exact ⟨by rw [aD (Or.inr (show ¬ bdI ⟨op,a,b,nm⟩ from fun h=>by have:=h.2.1;simp only at this;omega))],g⟩
  rw [aM j];refine rpG ?_;refine ah g 0 rfl dL au rfl ?_;refine cd ?_;by_cases C:b<0
  ·rw [aD C];refine rpG ?_;exact ⟨by rw [aD (Or.inr (show ¬ bdI ⟨op,a,b,nm⟩ from fun h=>by have:=h.2.2.1;simp only at this;omega))],g⟩
  rw [aM C];refine rpG ?_;refine ah g 0 rfl dL au rfl ?_;refine fL ?_;by_cases r:999<b
  ·rw [aD r];refine rpG ?_;exact ⟨by rw [aD (Or.inr (show ¬ bdI ⟨op,a,b,nm⟩ from fun h=>by have:=h.2.2.2;simp only at this;omega))],g⟩
  rw [aM r];refine rpG ?_;have hn:¬ (rO op=⟨#[63]⟩ ∨ ¬ bdI ⟨op,a,b,nm⟩):=by
   rintro (e|e)
   ·exact q e
   ·exact e ⟨by simp only;omega,by simp only;omega,by simp only;omega,by simp only;omega⟩
  exact ⟨by rw [aM hn],g⟩
 intro z _ _ _ _ _ _ _ _ _ _ _ _ _ _ _ _ _ _ _ _ _ w';rintro ⟨rfl,g⟩;refine aJ (fun t=>?_) (fun o=>?_)
 ·refine done g ?_;rw [aM];intro l;rcases t with e|e
  ·rcases Q4 op with k|k|k|k|k|k
   ·rw [k.2] at e;exact absurd e (by decide +kernel)
   ·rw [k.2] at e;exact absurd e (by decide +kernel)
   ·rw [k.2] at e;exact absurd e (by decide +kernel)
   ·rw [k.2] at e;exact absurd e (by decide +kernel)
   ·rw [k.2] at e;exact absurd e (by decide +kernel)
   ·exact UA k.1 l
  ·exact e l.1
 have i:bdI ⟨op,a,b,nm⟩:=LG.1 fun e=>o (.inr e);rcases Q4 op with k|k|k|k|k|k
 ·rw [k.2];refine bT ?_;rw [show decide ((⟨#[97,98]⟩:ByteArray)=⟨#[]⟩)=false from by decide +kernel];refine aL (fun i=>by cases i) (fun _=>?_);refine ⟨fun z w'=>z=.bool true/\Inv w [] [ei p #[ee op,ee a,ee b,.string nm] ay] S w',?_,?_⟩
  ·refine bT ?_;rw [show decide ((⟨#[97,98]⟩:ByteArray)=⟨#[97,98]⟩)=true from by decide +kernel];refine rpG ?_;exact ⟨rfl,g⟩
  intro z _ _ _ _ _ _ w';rintro ⟨rfl,g⟩;refine ⟨fun z w'=>z=.bool false/\Inv w [] [ei p #[ee op,ee a,ee b,.string nm] ay] S w',?_,?_⟩
  ·refine bT ?_;rw [show decide ((⟨#[97,98]⟩:ByteArray)=⟨#[97,98,110]⟩)=false from by decide +kernel];refine rpG ?_;refine bT ?_;rw [show decide ((⟨#[97,98]⟩:ByteArray)=⟨#[97,110]⟩)=false from by decide +kernel];refine rpG ?_;exact ⟨rfl,g⟩
  intro z _ _ _ _ _ _ w';rintro ⟨rfl,g⟩;refine rpG ?_;refine c8 ?_;refine rpG ?_;refine ah g 0 rfl fu aV rfl ?_;refine bT ?_;by_cases j:nm=⟨#[]⟩
  ·rw [aD j];refine rpG ?_;exact done g (by rw [aD ((UW (x:=⟨op,a,b,nm⟩) k.1 i).2 j)])
  ·rw [aM j];refine rpG ?_;exact done g (by rw [aM fun l=>j ((UW (x:=⟨op,a,b,nm⟩) k.1 i).1 l)])
 ·rw [k.2];refine bT ?_;rw [show decide ((⟨#[97,98,110]⟩:ByteArray)=⟨#[]⟩)=false from by decide +kernel];refine aL (fun i=>by cases i) (fun _=>?_);refine ⟨fun z w'=>z=.bool true/\Inv w [] [ei p #[ee op,ee a,ee b,.string nm] ay] S w',?_,?_⟩
  ·refine bT ?_;rw [show decide ((⟨#[97,98,110]⟩:ByteArray)=⟨#[97,98]⟩)=false from by decide +kernel];refine rpG ?_;refine bT ?_;rw [show decide ((⟨#[97,98,110]⟩:ByteArray)=⟨#[97,98,110]⟩)=true from by decide +kernel];refine rpG ?_;exact ⟨rfl,g⟩
  intro z _ _ _ _ _ _ w';rintro ⟨rfl,g⟩;refine ⟨fun z w'=>z=.bool true/\Inv w [] [ei p #[ee op,ee a,ee b,.string nm] ay] S w',?_,?_⟩
  ·refine bT ?_;rw [show decide ((⟨#[97,98,110]⟩:ByteArray)=⟨#[97,98,110]⟩)=true from by decide +kernel];refine rpG ?_;exact ⟨rfl,g⟩
  intro z _ _ _ _ _ _ w';rintro ⟨rfl,g⟩;refine rpG ?_;refine ah g 0 rfl fu aV rfl ?_;refine Run.callPure nj ne g (kY nm B S) fun w' g=>?_;cases j:fw nm
  ·refine rpG ?_;refine c8 ?_;refine rpG ?_;have hf:¬ lmS ⟨op,a,b,nm⟩:=fun l=>by
    have r:=((QX (x:=⟨op,a,b,nm⟩) k.1 i).1 l)
    rw [show (Ist.mk op a b nm).name=nm from rfl,j] at r;cases r
   exact done g (by rw [aM hf])
  ·refine rpG ?_;exact done g (by rw [aD ((QX (x:=⟨op,a,b,nm⟩) k.1 i).2 j)])
 ·rw [k.2];refine bT ?_;rw [show decide ((⟨#[97]⟩:ByteArray)=⟨#[]⟩)=false from by decide +kernel];refine aL (fun i=>by cases i) (fun _=>?_);refine ⟨fun z w'=>z=.bool false/\Inv w [] [ei p #[ee op,ee a,ee b,.string nm] ay] S w',?_,?_⟩
  ·refine bT ?_;rw [show decide ((⟨#[97]⟩:ByteArray)=⟨#[97,98]⟩)=false from by decide +kernel];refine rpG ?_;refine bT ?_;rw [show decide ((⟨#[97]⟩:ByteArray)=⟨#[97,98,110]⟩)=false from by decide +kernel];refine rpG ?_;exact ⟨rfl,g⟩
  intro z _ _ _ _ _ _ w';rintro ⟨rfl,g⟩;refine ⟨fun z w'=>z=.bool false/\Inv w [] [ei p #[ee op,ee a,ee b,.string nm] ay] S w',?_,?_⟩
  ·refine bT ?_;rw [show decide ((⟨#[97]⟩:ByteArray)=⟨#[97,98,110]⟩)=false from by decide +kernel];refine rpG ?_;refine bT ?_;rw [show decide ((⟨#[97]⟩:ByteArray)=⟨#[97,110]⟩)=false from by decide +kernel];refine rpG ?_;exact ⟨rfl,g⟩
  intro z _ _ _ _ _ _ w';rintro ⟨rfl,g⟩;refine rpG ?_;refine ah g 0 rfl dL au rfl ?_;refine a9 ?_;by_cases m:b=0
  ·rw [aD m];refine rpG ?_;refine c8 ?_;refine rpG ?_;refine ah g 0 rfl fu aV rfl ?_;refine bT ?_;by_cases j:nm=⟨#[]⟩
   ·rw [aD j];refine rpG ?_;exact done g (by rw [aD ((Us (x:=⟨op,a,b,nm⟩) k.1 i).2 ⟨m,j⟩)])
   ·rw [aM j];refine rpG ?_;exact done g (by rw [aM fun l=>j ((Us (x:=⟨op,a,b,nm⟩) k.1 i).1 l).2])
  ·rw [aM m];refine rpG ?_;exact done g (by rw [aM fun l=>m ((Us (x:=⟨op,a,b,nm⟩) k.1 i).1 l).1])
 ·rw [k.2];refine bT ?_;rw [show decide ((⟨#[97,110]⟩:ByteArray)=⟨#[]⟩)=false from by decide +kernel];refine aL (fun i=>by cases i) (fun _=>?_);refine ⟨fun z w'=>z=.bool false/\Inv w [] [ei p #[ee op,ee a,ee b,.string nm] ay] S w',?_,?_⟩
  ·refine bT ?_;rw [show decide ((⟨#[97,110]⟩:ByteArray)=⟨#[97,98]⟩)=false from by decide +kernel];refine rpG ?_;refine bT ?_;rw [show decide ((⟨#[97,110]⟩:ByteArray)=⟨#[97,98,110]⟩)=false from by decide +kernel];refine rpG ?_;exact ⟨rfl,g⟩
  intro z _ _ _ _ _ _ w';rintro ⟨rfl,g⟩;refine ⟨fun z w'=>z=.bool true/\Inv w [] [ei p #[ee op,ee a,ee b,.string nm] ay] S w',?_,?_⟩
  ·refine bT ?_;rw [show decide ((⟨#[97,110]⟩:ByteArray)=⟨#[97,98,110]⟩)=false from by decide +kernel];refine rpG ?_;refine bT ?_;rw [show decide ((⟨#[97,110]⟩:ByteArray)=⟨#[97,110]⟩)=true from by decide +kernel];refine rpG ?_;exact ⟨rfl,g⟩
  intro z _ _ _ _ _ _ w';rintro ⟨rfl,g⟩;refine rpG ?_;refine ah g 0 rfl dL au rfl ?_;refine a9 ?_;by_cases m:b=0
  ·rw [aD m];refine rpG ?_;refine ah g 0 rfl fu aV rfl ?_;refine Run.callPure nj ne g (kY nm B S) fun w' g=>?_;cases j:fw nm
   ·refine rpG ?_;refine c8 ?_;refine rpG ?_;have hf:¬ lmS ⟨op,a,b,nm⟩:=fun l=>by
     have r:=((PO (x:=⟨op,a,b,nm⟩) k.1 i).1 l).2;rw [show (Ist.mk op a b nm).name=nm from rfl,j] at r;cases r
    exact done g (by rw [aM hf])
   ·refine rpG ?_;exact done g (by rw [aD ((PO (x:=⟨op,a,b,nm⟩) k.1 i).2 ⟨m,j⟩)])
  ·rw [aM m];refine rpG ?_;exact done g (by rw [aM fun l=>m ((PO (x:=⟨op,a,b,nm⟩) k.1 i).1 l).1])
 ·rw [k.2];refine bT ?_;rw [show decide ((⟨#[]⟩:ByteArray)=⟨#[]⟩)=true from by decide +kernel];refine aL (fun _=>?_) (fun i=>by cases i);refine ah g 0 rfl bZ au rfl ?_;refine a9 ?_;by_cases q:a=0
  ·rw [aD q];refine rpG ?_;refine ah g 0 rfl dL au rfl ?_;refine a9 ?_;by_cases m:b=0
   ·rw [aD m];refine rpG ?_;refine ah g 0 rfl fu aV rfl ?_;refine bT ?_;by_cases j:nm=⟨#[]⟩
    ·rw [aD j];refine rpG ?_;exact done g (by rw [aD ((JN (x:=⟨op,a,b,nm⟩) k.1 i).2 ⟨q,m,j⟩)])
    ·rw [aM j];refine rpG ?_;exact done g (by rw [aM fun l=>j ((JN (x:=⟨op,a,b,nm⟩) k.1 i).1 l).2.2])
   ·rw [aM m];refine rpG ?_;exact done g (by rw [aM fun l=>m ((JN (x:=⟨op,a,b,nm⟩) k.1 i).1 l).2.1])
  ·rw [aM q];refine rpG ?_;exact done g (by rw [aM fun l=>q ((JN (x:=⟨op,a,b,nm⟩) k.1 i).1 l).1])
 ·exact absurd (.inl k.2) o
end
end
end Go.Proofs.YtjbcdmheajljpaaGreat

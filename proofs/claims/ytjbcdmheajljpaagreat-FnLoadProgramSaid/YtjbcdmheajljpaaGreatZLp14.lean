/- impl's reader: code read. -/
import Derived.Test.YtjbcdmheajljpaaGreatZLp13
namespace Go.Proofs.YtjbcdmheajljpaaGreat
section
open Go Go.RowKit
def Ro (rb sb mb lb ab:Nat) (o:Option (RI × List T)):Value->List Item->ag->Prop:=fun q I' S'=>match o with
 | none=>∃ u,q=.tuple #[u,.bool false]
 | some (s',us)=>∃ u,q=.tuple #[u,.bool true]/\RdSl S' 4 (RdT S') u us/\RdI rb sb mb lb ab S' s' I'
theorem RdM.up {S S':ag} {s:RI} {a g j:Array MapEntry} {tr:List Int} (h:RdM S s a g j tr) (i:Sle S S'):RdM S' s a g j tr:=⟨h.sl.up i,h.ar.up i,h.st.up i,h.tr⟩
theorem Eu (a:Sl) {k:Nat} (h:vb a k=none):∀ m,k<=m->vb a m=none
 | 0,hm=>by
  obtain rfl:k=0:=by omega
  exact h
 | m+1,hm=>by
  by_cases e:k=m+1
  ·rw [<- e]; exact h
  ·rw [vb,Eu a h m (by omega)]; rfl
def Px (w:World) (X:List Nat) (S:ag) (N rb sb mb lb ab:Nat) (s:RI) (xs:List Ist) (J:Nat) (lv:Value) (w':World):Prop:=
 ∃ (sj:RI) (f:Nat) (out:List T) (css:List (List Value)) (Sj:ag) (esL:Array MapEntry) (ckL:Nat) (esA:Array MapEntry) (ckA:Nat) (es:Array MapEntry) (ck:Nat) (tv:Value) (tr:List Int),readI xs.length s xs []=readI f sj (xs.drop J) out/\(xs.drop J).length<=f/\okRd N sj/\sj.fr+(xs.length - J)<=N/\out.length<=J/\Ext w.heap.size X S Sj/\RdM Sj sj esL esA es tr/\Rows 4 (RdT Sj) css out/\
  Inv w X (tV rb sb mb lb ab sj.fr esL ckL esA ckA es ck tv tr++[aB lv ac 4 css]) Sj w'
theorem Og {a g i j l:Nat} {o:Option RI} {q:Value} {I':List Item} {S':ag} (h:sI a g i j l o q I' S'):q=.bool o.isSome:=by
 cases o with
 | none=>exact h
 | some s=>exact h.1
def inS (w:World) (X:List Nat) (S:ag) (I:List Item) (R:List Item) (P:Value->List Item->ag->Prop) (x:Value) (w':World):Nat->Prop
 | 0=>Inv w X (R++I) S w'
 | _=>∃ S2 I',P x I' S2/\Ext w.heap.size X S S2/\Inv w X (R++I') S2 w'
theorem inS.any {w:World} {X:List Nat} {S:ag} {I R:List Item} {P:Value->List Item->ag->Prop} {x:Value} {w':World}:∀ {n:Nat},inS w X S I R P x w' n->∃ S2 I',Inv w X (R++I') S2 w'
 | 0,h=>⟨_,_,h⟩
 | _+1,⟨_,_,_,_,h⟩=>⟨_,_,h⟩
section
variable {w:World} {K:Value->World->Prop} {P:Program}
attribute [local irreducible] Run CondV aC aU
theorem FZ {T:TypeId} {g h:Bool} {a b c:Int} (e:a+b=c) (i:-9223372036854775808<=c/\c<=9223372036854775807) (hk:K (.int .i64 c) w):Run P (dh .add T g h (.int .i64 a) (.int .i64 b)) w K:=by
 subst e;exact bF i hk
theorem Pn {cs:List Bool} {a b c:Int} (e:(if b<a then b else a)=c) (hk:K (.int .i64 c) w):Run Tryz.prog (bO .min #[bD,bD] bD cs [.int .i64 a,.int .i64 b]) w K:=by
 subst e;refine Run.of ?_ hk;simp [bO,builtin,Builtin.min_,Builtin.min2]
theorem wG {a:Int} {s:ByteArray} (hk:K (.agg #[.int .i64 a,.int .i64 0,.string s,.slice none 0 0]) w):Run Tryz.prog (bR ac [(0,.int .i64 a),(2,.string s)]) w K:=by
 refine Run.of (v:=.agg #[.int .i64 a,.int .i64 0,.string s,.slice none 0 0]) (w':=w) ?_ hk;unfold bR;rw [Sem.run_bind,run_build w ac _ #[.int .i64 a,.int .i64 0,.string s,.slice none 0 0] (by kernel_rfl),Result.andThen_ok];rfl
theorem IH (nm:ByteArray) (S:ag):Pure Tryz.prog OQ [.string nm] S (.agg #[.int .i64 3,.int .i64 0,.string nm,.slice none 0 0]):=by
 intro w a;refine DJ.2 ?_;dsimp only[DJ,aQ];refine aH a aM fun g w' a=>?_;refine wG ?_;refine al a 0 rfl ad rfl rfl (by simp [Value.oneCell']) fun w' a=>?_;refine bp a 0 ad rfl rfl ?_;exact done a rfl
end
theorem Lt (S:ag) (nm:ByteArray) (h:nm.size<=maxLen):RdT S [.int .i64 3,.int .i64 0,.string nm,.slice none 0 0] (.mk 3 0 nm []):=
 RdT.iff.2 ⟨_,rfl,by simp [inI,T.kind],by simp [inI,T.n],h,⟨none,0,rfl,be _,aK _,.inl rfl⟩⟩
section
variable {S:ag}
attribute [local irreducible] Run CondV aC aU
set_option maxHeartbeats 4000000 in
theorem JS {N rb V Y Z U:Nat} (hN:N<=1000000) {s:RI} (hs:okRd N s) {xs:List Ist} {v:Value} (h:RdSl S 4 (dZ S) v xs) (f7:s.fr+xs.length<=N) (b6:∀ y∈xs,inI y.a/\y.name.size<=6) {B:Array MapEntry} {G:Nat} {u:Array MapEntry} {C:Nat} {es:Array MapEntry} {ck:Nat} {tv:Value} {tr:List Int} (hm:RdM S s B u es tr) :
  Tri Tryz.prog wi [.pointer (some ⟨rb,0,none⟩),v] (tV rb V Y Z U s.fr B G u C es ck tv tr) S (Ro rb V Y Z U (readI xs.length s xs [])):=by
 intro w l;obtain ⟨X,hX⟩:∃ X,X=bT (tV rb V Y Z U s.fr B G u C es ck tv tr):=⟨_,rfl⟩
 rw [<- hX] at l ⊢;have e7:=h.le;simp only [maxLen] at e7;refine lw.2 ?_;dsimp only[lw,bm];have l:=l.rowNil ac 4;refine ⟨fun i lv w'=>∃ j:Nat,j<=xs.length/\i=.int .i64 j/\Px w X S N rb V Y Z U s xs j lv w',fun i _ _=>xs.length - (intOf i).toNat,
  ⟨0,aK _,rfl,s,xs.length,[],[],S,B,G,u,C,es,ck,tv,tr,by rw [dT],by rw [dT]; exact be _,hs,f7,be _,Ext.refl _ _ _,hm,Rows.nil _ _,l⟩,?_⟩
 intro _ _ i _ _ _ h4 h5 h6 h7 h8 h9 i0 i1 i2 i3 i4 i5 i6 i7 i8 i9 j0 j1 j3 j4 j5 j6 j7 _ _ _ _ _ _ _ _ _ _ _ _ _ _ _ _ _ _ _ _ _ _ _ _ _ _ _ _ _ _ _ _ _ _ _ _ _ _ _ _ _ _ _ _ _ _ _ _ _ _ _ _ lv _ _ _ _ _ _ _ _ _ _ _ _ _ _ _ _ _ _ _ _ _ _ _ _ _ _ _ w';rintro ⟨j,hj,rfl,sj,f,out,css,Sj,B,G,u,C,es,ck,tv,tr,p,d9,a9,j8,j9,a1,a3,hR,l⟩;have hk:=h.monoK a1.1;have k5:=hR.hc;refine aG hk cX ?_;refine cu ?_;refine aS (fun f9=>?_) (fun f9=>?_)
 ·have a7:j<xs.length:=by omega
  obtain ⟨x,hx⟩:∃ x,x=xs[j]:=⟨_,rfl⟩
  have d1:inI x.a/\x.name.size<=6:=by rw [hx]; exact b6 _ (cH a7)
  have g6:xs.drop j=x::xs.drop (j+1):=by rw [hx,dR a7]
  have a8:(xs.drop (j+1)).length=xs.length - (j+1):=tu ..;rw [g6] at p d9;rw [aO] at d9;obtain ⟨g,rfl⟩:∃ g,f=g+1:=⟨f - 1,by omega⟩
  rw [readI] at p;have k6:¬ xs.length<=j:=by omega
  refine ⟨fun i lv w'=>∃ j':Nat,j<=j'/\j'<xs.length/\i=.int .i64 j'/\Px w X S N rb V Y Z U s xs (j'+1) lv w',?_,?_⟩
  ·refine dy l hk cX fw a7 (fun cs x h=>Pm Sj cs x h) fun ds e0=>?_;rw [<- hx] at e0;obtain rfl:ds=x.cells:=e0;refine aH l Dz fun b8 w' l=>?_;refine al l 7 rfl fw rfl rfl (by simpa using x.one) fun w' l=>?_;obtain ⟨B8,e1⟩:∃ B8,B8=Item.blk b8 (.cells #[.int .i64 x.op,.int .i64 x.a,.int .i64 x.b,.string x.name] aF):=⟨_,rfl⟩
   have e8:=congrArg some e1;have l:Inv w X ([.blk rb (.cells #[.pointer (some ⟨V,0,none⟩),.map (some Z),.map (some U),.int .i64 (sj.fr:Int)] aj),.blk Z (.map B G),.blk U (.map u C),.blk V (.cells #[.map (some Y),tv] aJ),.blk Y (.map es ck),cg tv tr]++[aB lv ac 4 css,B8]) Sj w':=by rw [e1]; exact l
   refine ah l 7 e8 jA aw rfl ?_;refine bn ?_;refine aS (fun c2=>?_) (fun c2=>?_)
   ·rw [af c2] at p;refine aG hk cX ?_;refine jx (by omega) ?_;refine bn ?_;have l:Inv w X ([.blk rb (.cells #[.pointer (some ⟨V,0,none⟩),.map (some Z),.map (some U),.int .i64 (sj.fr:Int)] aj),.blk Z (.map B G),.blk U (.map u C),.blk V (.cells #[.map (some Y),tv] aJ),.blk Y (.map es ck),cg tv tr]++[aB lv ac 4 css]) Sj w':=l.pick [true,true,true,true,true,true,true,false];obtain ⟨S3,a2,a6,l⟩:=l.lendExt;refine ⟨_,_,S3,rfl,l,a1.trans a2,?_⟩;rw [p];by_cases hr:xs.drop (j+1)=[]
    ·rw [af hr];have k7:xs.length=j+1:=by rw [hr] at a8; simp at a8; omega
     exact ⟨lv,by rw [aP (by omega)],RowRd.rows (hR.monoR fun _ _ h=>h.mono a2.1) a6,B,G,u,C,es,ck,tv,tr,rfl,a3.up a2.1⟩
    ·rw [ae hr];have k8:xs.length≠j+1:=fun e=>hr (jK (by omega));exact ⟨lv,by rw [bf (by omega)]⟩
   rw [ae c2] at p;refine bn ?_;refine aS (fun c3=>?_) (fun c3=>?_)
   ·rw [af c3] at p;refine Run.callPure Nk MT l (IH _ Sj) fun w' l=>?_;refine dC (css:=css) l 6 [.int .i64 3,.int .i64 0,.string ⟨#[33]⟩,.slice none 0 0] bA (by omega) (by omega) rfl rfl (Lt Sj ⟨#[33]⟩ (by decide +kernel)).one (by omega) (by omega) fun g0 w' l=>?_;exact ⟨j,be _,a7,rfl,sj,g,out++[r4],_,Sj,B,G,u,C,es,ck,tv,tr,p,by omega,a9,by omega,by rw [bv,vh]; omega,a1,a3,hR.snoc (Lt Sj ⟨#[33]⟩ (by decide +kernel)) rfl,l.pick [true,true,true,true,true,true,true,false,false]⟩
   rw [ae c3] at p;refine ⟨fun z w'=>z=.bool (decide (x.op=11 ∨ x.op=12))/\Inv w X ([.blk rb (.cells #[.pointer (some ⟨V,0,none⟩),.map (some Z),.map (some U),.int .i64 (sj.fr:Int)] aj),.blk Z (.map B G),.blk U (.map u C),.blk V (.cells #[.map (some Y),tv] aJ),.blk Y (.map es ck),cg tv tr]++[aB lv ac 4 css,B8]) Sj w',?_,?_⟩
   ·refine bn ?_;refine aS (fun c4=>⟨by simp [c4],l⟩) (fun c4=>?_);refine bn ?_;exact ⟨by simp [c4],l⟩
   intro _ z _ w';rintro ⟨rfl,l⟩;refine aS (fun hg=>?_) (fun hg=>?_)
   ·rw [af hg] at p;refine ah l 7 e8 dJ aw rfl ?_;refine Run.callPure gf gr l (fL _ _ _ Sj) fun w' l=>?_;refine cU ?_;refine aI (fun hb=>?_) (fun hb=>?_)
    ·have hb:¬ (0<=x.a/\x.a<=4):=by
      intro hc;rw [aP hc.1,aP hc.2] at hb;cases hb
     rw [ae hb] at p;exact ⟨_,_,Sj,rfl,l,a1,by rw [p]; exact ⟨_,rfl⟩⟩
    have hb:0<=x.a/\x.a<=4:=by
     rw [Po,bJ,bE,bE] at hb;exact hb
    rw [af hb] at p;refine ah l 7 e8 pH aZ rfl ?_;refine wG ?_;refine aH l aM fun b9 w' l=>?_;refine al l 8 rfl ad rfl rfl (by simp [Value.oneCell']) fun w' l=>?_;refine ah l 7 e8 dJ aw rfl ?_;have l:=l.rowNil ac 4;have l:Inv w X ([.blk rb (.cells #[.pointer (some ⟨V,0,none⟩),.map (some Z),.map (some U),.int .i64 (sj.fr:Int)] aj),.blk Z (.map B G),.blk U (.map u C),.blk V (.cells #[.map (some Y),tv] aJ),.blk Y (.map es ck),cg tv tr]++[aB lv ac 4 css,B8,.blk b9 (.cells #[.int .i64 3,.int .i64 0,.string x.name,.slice none 0 0] ac),aB (.slice none 0 0) ac 4 []]) Sj w':=l;obtain ⟨n,hn⟩:∃ n:Nat,x.a=(n:Int):=⟨x.a.toNat,by omega⟩
    rw [hn] at hb;rw [hn,eB] at p;refine ⟨fun i w'=>∃ (k:Nat) (ks:List T) (a0:List (List Value)) (kv:Value),k<=n/\i=.int .i64 k/\vb sj.ar k=some ks/\ks.length=k/\Rows 4 (RdT Sj) a0 ks/\Inv w X ([.blk rb (.cells #[.pointer (some ⟨V,0,none⟩),.map (some Z),.map (some U),.int .i64 (sj.fr:Int)] aj),.blk Z (.map B G),.blk U (.map u C),.blk V (.cells #[.map (some Y),tv] aJ),.blk Y (.map es ck),cg tv tr]++[aB lv ac 4 css,B8,.blk b9 (.cells #[.int .i64 3,.int .i64 0,.string x.name,kv] ac),aB kv ac 4 a0]) Sj w',fun i _=>n - (intOf i).toNat,
     ⟨0,[],[],_,aK _,rfl,rfl,rfl,Rows.nil _ _,l⟩,?_⟩
    intro i _ _ _ _ _ _ _ _ _ _ _ _ _ _ _ _ _ _ _ _ _ _ _ _ _ w';rintro ⟨k,ks,a0,kv,k0,rfl,b7,f8,c1,l⟩;have k9:=c1.hc;rw [hn];refine cu ?_;refine aS (fun g1=>?_) (fun g1=>?_)
    ·obtain ⟨vv,ok,t,c9,b0,e2,g3,g4⟩:=a3.ar.look2 (k:Int);refine aL ?_;refine au jn ?_;refine aD l 0 cK rfl rfl ?_;refine d4 (c:=true) (ok:=ok) (v:=.agg vv.toArray) (l.its (.blk U (.map u C)) (by simp)) cj c7 aM c9 ?_;refine aA rfl ?_;refine aA rfl ?_;refine aH l aM fun k4 w' l=>?_;refine al l 10 rfl ad (by simpa using b0) rfl (by simpa using e2) fun w' l=>?_;refine cU ?_;rcases g4 with ⟨rfl,d7⟩|⟨rfl,d7⟩
     ·refine aI (fun hb=>by cases hb) (fun _=>?_);refine ah l 8 rfl ay ax rfl ?_;refine aq l 10 ad rfl (by simpa using b0) ?_;refine dC (css:=a0) l 9 vv bA (by omega) (by omega) rfl b0 e2 (by omega) (by omega) fun c5 w' l=>?_;have l:Inv w X ([.blk rb (.cells #[.pointer (some ⟨V,0,none⟩),.map (some Z),.map (some U),.int .i64 (sj.fr:Int)] aj),.blk Z (.map B G),.blk U (.map u C),.blk V (.cells #[.map (some Y),tv] aJ),.blk Y (.map es ck),cg tv tr]++[aB lv ac 4 css,B8,.blk b9 (.cells #[.int .i64 3,.int .i64 0,.string x.name,kv] ac),aB c5 ac 4 (a0++[vv])]) Sj w':=l.pick [true,true,true,true,true,true,true,true,true,true,false,false];have e9:=gc (l.its (aB c5 ac 4 (a0++[vv])) (by simp));refine dG l 8 rfl ay ax rfl e9.1 e9.2 fun w' l=>?_;refine bF (by omega) ?_;refine ⟨⟨k+1,ks++[t],a0++[vv],c5,by omega,rfl,?_,by rw [bv,f8]; rfl,c1.snoc g3 b0,l⟩,by simp [intOf]; omega⟩;rw [vb,b7];show (sj.ar (k:Int)).map _=_;rw [d7]; rfl
     ·refine aI (fun _=>?_) (fun hb=>by cases hb);have d2:vb sj.ar n=none:=Eu sj.ar (k:=k+1) (by rw [vb,b7]; show (sj.ar (k:Int)).map _=_; rw [d7]; rfl) n (by omega);rw [d2] at p;exact ⟨_,_,Sj,rfl,l,a1,by rw [p]; exact ⟨_,rfl⟩⟩
    ·have g7:k=n:=by omega
     subst g7;rw [b7] at p;have p:readI xs.length s xs []=readI g sj (xs.drop (j+1)) (out++[fnT x.name ks]):=p;have l:Inv w X (([.blk rb (.cells #[.pointer (some ⟨V,0,none⟩),.map (some Z),.map (some U),.int .i64 (sj.fr:Int)] aj),.blk Z (.map B G),.blk U (.map u C),.blk V (.cells #[.map (some Y),tv] aJ),.blk Y (.map es ck),cg tv tr]++[aB lv ac 4 css,B8,.blk b9 (.cells #[.int .i64 3,.int .i64 0,.string x.name,kv] ac)])++[aB kv ac 4 a0]) Sj _:=l;obtain ⟨S3,a2,a6,l⟩:=l.lendExt;have f0:=RowRd.rows (c1.monoR fun _ _ h=>h.mono a2.1) a6;obtain ⟨ua,uc,rfl,_⟩:=id f0;have f1:=Gd (nm:=x.name) f0 (by simp only [maxLen]; omega);refine aq l 8 ad rfl rfl ?_;refine dC (css:=css) l 6 [.int .i64 3,.int .i64 0,.string x.name,.slice ua ks.length uc] bA (by omega) (by omega) rfl rfl f1.one (by omega) (by omega) fun g0 w' l=>?_;exact ⟨j,be _,a7,rfl,sj,g,out++[fnT x.name ks],_,S3,B,G,u,C,es,ck,tv,tr,p,by omega,a9,by omega,by rw [bv,vh]; omega,a1.trans a2,a3.up a2.1,(hR.monoR fun _ _ h=>h.mono a2.1).snoc f1 rfl,l.pick [true,true,true,true,true,true,true,false,false,false]⟩
   rw [ae hg] at p;refine ⟨fun m w'=>m=.int .i64 (fE x)/\Inv w X ([.blk rb (.cells #[.pointer (some ⟨V,0,none⟩),.map (some Z),.map (some U),.int .i64 (sj.fr:Int)] aj),.blk Z (.map B G),.blk U (.map u C),.blk V (.cells #[.map (some Y),tv] aJ),.blk Y (.map es ck),cg tv tr]++[aB lv ac 4 css,B8]) Sj w',?_,?_⟩
   ·refine ⟨fun z w'=>z=.bool (decide (x.op=3 ∨ x.op=7))/\Inv w X ([.blk rb (.cells #[.pointer (some ⟨V,0,none⟩),.map (some Z),.map (some U),.int .i64 (sj.fr:Int)] aj),.blk Z (.map B G),.blk U (.map u C),.blk V (.cells #[.map (some Y),tv] aJ),.blk Y (.map es ck),cg tv tr]++[aB lv ac 4 css,B8]) Sj w',?_,?_⟩
    ·refine ah l 7 e8 jA aw rfl ?_;refine bn ?_;by_cases h3:x.op=3
     ·rw [aP h3];refine rpG ?_;exact ⟨by simp [h3],l⟩
     ·rw [bf h3];refine rpG ?_;refine ah l 7 e8 jA aw rfl ?_;refine bn ?_;refine rpG ?_;exact ⟨by simp [h3],l⟩
    intro z _ _ _ _ _ _ _ w';rintro ⟨rfl,l⟩;refine aS (fun c6=>?_) (fun c6=>?_)
    ·refine ah l 7 e8 dJ aw rfl ?_;exact ⟨by rw [fE,af c6]; rfl,l⟩
    ·exact ⟨by rw [fE,ae c6],l⟩
   intro m _ _ _ _ _ _ _ _ _ _ w';rintro ⟨rfl,l⟩;obtain ⟨va,vc,rfl,_⟩:=id h;have l0:inI (fE x):=by
    unfold fE;split
    ·exact d1.1
    ·simp [inI]
   obtain ⟨mn,d0⟩:∃ mn:Int,(if (xs.length:Int) - 1 - j<4 then (xs.length:Int) - 1 - j else 4)=mn:=⟨_,rfl⟩
   have h0:mn<=4/\mn<=(xs.length:Int) - 1 - j/\(mn=4 ∨ mn=(xs.length:Int) - 1 - j):=by
    rw [<- d0];split <;> omega
   by_cases hc:0<=fE x/\fE x<=mn
   ·obtain ⟨M,hM⟩:∃ M:Nat,fE x=(M:Int):=⟨(fE x).toNat,by omega⟩
    rw [hM] at hc ⊢;rw [hM,af (by rw [a8]; omega),eB] at p;have d3:∀ S,Pure Tryz.prog sU [.int .i64 (M:Int),.int .i64 0,.int .i64 mn] S (.bool true):=fun S=>by
     have:=fL (M:Int) 0 mn S
     rwa [aP hc.1,aP hc.2] at this
    obtain ⟨J,b1⟩:∃ J,J=(xs.drop (j+1)).take M:=⟨_,rfl⟩
    have l1:J.length=M:=by rw [b1,iJ,a8]; omega
    have f2:(xs.take (j+1+M)).drop (j+1)=J:=by rw [b1,Hr]; congr 1; omega
    have f3:∀ y∈J,y∈xs:=fun y hy=>by rw [b1] at hy; exact N9 (List.mem_of_mem_take hy)
    rw [<- b1] at p;have f4:∀ y∈J,okI y:=fun y hy=>⟨(b6 y (f3 y hy)).1,by have:=(b6 y (f3 y hy)).2; simp only [maxLen]; omega⟩
    have l:Inv w X ([aB lv ac 4 css,B8]++tV rb V Y Z U sj.fr B G u C es ck tv tr) Sj _:=l.perm (bK (l₁:=[_,_]) (l₂:=[_,_,_,_,_,_]));refine ⟨fun D pE rY oG oR s3 pD ot pf n6 n9 ox mG oH oE oe oa pd py Aq xZ qe s0 ra w_=>Fx D 0 [ra=.int .i64 (M:Int),s0=.slice va xs.length vc,qe=.int .i64 (xs.length:Int),xZ=.int .i64 ((xs.length:Int) - 1),Aq=.int .i64 (j:Int),py=.int .i64 ((xs.length:Int) - 1 - j),pd=.int .i64 mn,oa=.bool true,oe=.bool false,oE=.bool false,oH=.pointer (some ⟨rb,0,none⟩),mG=.agg #[.int .i64 x.op,.int .i64 x.a,.int .i64 x.b,.string x.name],ox=.slice va xs.length vc,n9=.int .i64 (j:Int),n6=.int .i64 ((j+1:Nat):Int),pf=.int .i64 (j:Int),ot=.int .i64 ((j+1:Nat):Int),pD=.int .i64 (M:Int),s3=.int .i64 ((j+1+M:Nat):Int),RdSl S 4 (dZ S) oR J,True,rY=.bool (!(insI sj x J).isSome),pE=.bool (!(insI sj x J).isSome)]/\∃ n_:Nat,n_<=1/\D 20=decide (1<=n_)/\(inS w X Sj (tV rb V Y Z U sj.fr B G u C es ck tv tr) [aB lv ac 4 css,B8] (sI rb V Y Z U (insI sj x J)) oG w_ n_/\(D 9=true->D 7=true)/\(D 20=true->D 7=true)/\(D 20=true->oG=.bool (insI sj x J).isSome)),⟨Fx.nil _ _,⟨0,aK _,rfl,⟨l.draw,aY,aY,aY⟩⟩⟩,⟨?_,?_,?_,?_,?_,?_,?_,?_,?_,?_,?_,?_,?_,?_,?_,?_,?_,?_,?_,?_,?_,?_,?_,trivial⟩,?_⟩;all_goals (intro D bw; intros; rename_i pE rY oG oR s3 pD ot pf n6 n9 ox mG oH oE oe oa pd py Aq xZ qe s0 ra w_ a4; have o:=a4.1; obtain ⟨⟨cG,cf,cD,cF,bQ,cE,bZ,cL,dw,dl,ci,c8,dN,fJ,il,im,iQ,ln,ll,hY,nT,nL,pn,_⟩,⟨n_,O,r,hS⟩⟩:=a4)
    ·exact ⟨o.set 0 rfl,⟨n_,O,r,hS⟩⟩
    ·exact ⟨o.set 1 rfl,⟨n_,O,r,hS⟩⟩
    ·obtain rfl:=cf ‹_›;refine aG h cX ?_;exact ⟨o.set 2 rfl,⟨n_,O,r,hS⟩⟩
    ·obtain rfl:=cD ‹_›;refine jx (by omega) ?_;exact ⟨o.set 3 rfl,⟨n_,O,r,hS⟩⟩
    ·exact ⟨o.set 4 rfl,⟨n_,O,r,hS⟩⟩
    ·obtain rfl:=cF ‹_›;obtain rfl:=bQ ‹_›;refine jx (by omega) ?_;exact ⟨o.set 5 rfl,⟨n_,O,r,hS⟩⟩
    ·obtain rfl:=cE ‹_›;refine Pn d0 ?_;exact ⟨o.set 6 rfl,⟨n_,O,r,hS⟩⟩
    ·obtain rfl:=cG ‹_›;obtain rfl:=bZ ‹_›;have g8:D 20=false:=cS.2 fun h=>by rw [hS.2.2.1 h] at bw; cases bw
     have f5:n_=0:=iI r g8;have f6:=hS.1;rw [f5] at f6;have l:Inv w X ([aB lv ac 4 css,B8]++tV rb V Y Z U sj.fr B G u C es ck tv tr) Sj w_:=f6;refine Run.callPure gf gr l (d3 Sj) fun w_ l=>?_;have d6:inS w X Sj (tV rb V Y Z U sj.fr B G u C es ck tv tr) [aB lv ac 4 css,B8] (sI rb V Y Z U (insI sj x J)) oG w_ n_:=by rw [f5]; exact l
     have hS:=And.intro d6 (And.intro (fun (_:aE D 7 9=true)=>(rfl:aE D 7 7=true)) (And.intro (fun (_:aE D 7 20=true)=>(rfl:aE D 7 7=true)) hS.2.2.2));exact ⟨o.set 7 rfl,⟨n_,O,r,hS⟩⟩
    ·obtain rfl:=cL ‹_›;refine cU ?_;exact ⟨o.set 8 rfl,⟨n_,O,r,hS⟩⟩
    ·obtain rfl:=dw ‹_›;have hS:=And.intro hS.1 (And.intro (fun (_:aE D 9 9=true)=>(‹D 7=true›:aE D 9 7=true)) hS.2.2);exact ⟨o.set 9 rfl,⟨n_,O,r,hS⟩⟩
    ·obtain rfl:=dl ‹_›;refine rpG ?_;exact ⟨o.set 10 rfl,⟨n_,O,r,hS⟩⟩
    ·obtain rfl:=dl ‹_›;refine rpG ?_;obtain ⟨S5,I5,l⟩:=hS.1.any;refine aq l 1 fw e8 rfl ?_;exact ⟨o.set 11 rfl,⟨n_,O,r,hS⟩⟩
    ·obtain rfl:=dl ‹_›;refine rpG ?_;exact ⟨o.set 12 rfl,⟨n_,O,r,hS⟩⟩
    ·obtain rfl:=dl ‹_›;refine rpG ?_;exact ⟨o.set 13 rfl,⟨n_,O,r,hS⟩⟩
    ·obtain rfl:=fJ ‹_›;obtain rfl:=dl ‹_›;refine rpG ?_;refine FZ (c:=((j+1:Nat):Int)) (by omega) (by omega) ?_;exact ⟨o.set 14 rfl,⟨n_,O,r,hS⟩⟩
    ·obtain rfl:=dl ‹_›;refine rpG ?_;exact ⟨o.set 15 rfl,⟨n_,O,r,hS⟩⟩
    ·obtain rfl:=im ‹_›;obtain rfl:=dl ‹_›;refine rpG ?_;refine FZ (c:=((j+1:Nat):Int)) (by omega) (by omega) ?_;exact ⟨o.set 16 rfl,⟨n_,O,r,hS⟩⟩
    ·obtain rfl:=dl ‹_›;refine rpG ?_;exact ⟨o.set 17 rfl,⟨n_,O,r,hS⟩⟩
    ·obtain rfl:=iQ ‹_›;obtain rfl:=ln ‹_›;obtain rfl:=dl ‹_›;refine rpG ?_;refine FZ (c:=((j+1+M:Nat):Int)) (by omega) (by omega) ?_;exact ⟨o.set 18 rfl,⟨n_,O,r,hS⟩⟩
    ·obtain rfl:=dN ‹_›;obtain rfl:=il ‹_›;obtain rfl:=ll ‹_›;obtain rfl:=dl ‹_›;refine rpG ?_;refine Au cX h (by omega) (by omega) fun v5 g2=>?_;rw [f2] at g2;exact ⟨o.set 19 (by first|assumption|trivial),⟨n_,O,r,hS⟩⟩
    ·obtain rfl:=ci ‹_›;obtain rfl:=c8 ‹_›;have RK:=hY ‹_›;obtain rfl:=dl ‹_›;obtain rfl:n_=0:=iI r bw;refine rpG ?_;have l:Inv w X ([aB lv ac 4 css,B8]++tV rb V Y Z U sj.fr B G u C es ck tv tr) Sj w_:=hS.1;refine Run.callE sy si l (Iy hN a9 d1 (RK.monoK a1.1) (by omega) (by omega) f4 a3) fun q I2 S2 w_=>?_;rintro hP a5 l;obtain rfl:=Og hP;have d6:inS w X Sj (tV rb V Y Z U sj.fr B G u C es ck tv tr) [aB lv ac 4 css,B8] (sI rb V Y Z U (insI sj x J)) (.bool (insI sj x J).isSome) w_ 1:=⟨S2,I2,hP,a5,l⟩
     exact ⟨o.set 20 (by first|assumption|trivial),⟨1,by decide,rfl,⟨d6,hS.2.1,fun _=>hS.2.1 ‹D 9=true›,fun _=>rfl⟩⟩⟩
    ·have Uv:=nT ‹_›;obtain rfl:=dl ‹_›;obtain rfl:=hS.2.2.2 ‹D 20=true›;refine rpG ?_;refine cU ?_;exact ⟨o.set 21 rfl,⟨n_,O,r,hS⟩⟩
    ·obtain rfl:=dl ‹_›;obtain rfl:=nL ‹_›;refine rpG ?_;exact ⟨o.set 22 rfl,⟨n_,O,r,hS⟩⟩
    obtain rfl:n_=1:=iH O r ‹D 20=true›;have Rl:D 22=true:=by assumption
    clear r;obtain rfl:=pn Rl;obtain ⟨S2,I2,hP,a5,l⟩:=hS.1;cases ho:insI sj x J with
    | none=>
     rw [ho] at p;refine aI (fun _=>?_) (fun hb=>by cases hb);exact ⟨_,_,S2,rfl,l,a1.trans a5,by rw [p]; exact ⟨_,rfl⟩⟩
    | some s2=>
     rw [ho] at p hP;refine aI (fun hb=>by cases hb) (fun _=>?_);have p:readI xs.length s xs []=readI g s2 ((xs.drop (j+1)).drop M) out:=p;rw [G8] at p;obtain ⟨_,b2,b3,b4,b5,e3,e4,e5,e6,rfl,g5⟩:=hP;obtain ⟨k1,k2,k3⟩:=kr a9 (by omega) (by omega) d1.2 ho;refine FZ (c:=((j+M:Nat):Int)) (by omega) (by omega) ?_;have l:Inv w X (tV rb V Y Z U s2.fr b2 b3 b4 b5 e3 e4 e5 e6++[aB lv ac 4 css,B8]) S2 _:=l.perm (bK (l₁:=[_,_,_,_,_,_]) (l₂:=[_,_]));have ed:j+1+M=j+M+1:=by omega
     rw [ed] at p;have l2:(xs.drop (j+M+1)).length=xs.length - (j+M+1):=tu ..;exact ⟨j+M,by omega,by omega,rfl,s2,g,out,css,S2,b2,b3,b4,b5,e3,e4,e5,e6,p,by omega,k1,by omega,by omega,a1.trans a5,g5,hR.monoR fun _ _ h=>h.mono a5.1,l.pick [true,true,true,true,true,true,true,false]⟩
   ·rw [ae (by rw [a8]; omega)] at p;have d3:∀ S,Pure Tryz.prog sU [.int .i64 (fE x),.int .i64 0,.int .i64 mn] S (.bool false):=fun S=>by
     have:=fL (fE x) 0 mn S;have e:(decide ((0:Int)<=fE x) && decide (fE x<=mn))=false:=by
      rw [<- Bool.decide_and]; exact bf hc
     rwa [e] at this
    refine ⟨fun D pE rY oG oR s3 pD ot pf n6 n9 ox mG oH oE oe oa pd py Aq xZ qe s0 ra w_=>Fx D 0 [ra=.int .i64 (fE x),s0=.slice va xs.length vc,qe=.int .i64 (xs.length:Int),xZ=.int .i64 ((xs.length:Int) - 1),Aq=.int .i64 (j:Int),py=.int .i64 ((xs.length:Int) - 1 - j),pd=.int .i64 mn,oa=.bool false,oe=.bool true,oE=.bool true,oH=undef,mG=undef,ox=undef,n9=undef,n6=undef,pf=undef,ot=undef,pD=undef,s3=undef,oR=undef,oG=undef,rY=undef,pE=.bool true]/\Inv w X ([.blk rb (.cells #[.pointer (some ⟨V,0,none⟩),.map (some Z),.map (some U),.int .i64 (sj.fr:Int)] aj),.blk Z (.map B G),.blk U (.map u C),.blk V (.cells #[.map (some Y),tv] aJ),.blk Y (.map es ck),cg tv tr]++[aB lv ac 4 css,B8]) Sj w_,⟨Fx.nil _ _,l.draw⟩,⟨?_,?_,?_,?_,?_,?_,?_,?_,?_,?_,?_,?_,?_,?_,?_,?_,?_,?_,?_,?_,?_,?_,?_,trivial⟩,?_⟩;all_goals (intro D bw; intros; rename_i pE rY oG oR s3 pD ot pf n6 n9 ox mG oH oE oe oa pd py Aq xZ qe s0 ra w_ a4; have o:=a4.1; obtain ⟨⟨cG,cf,cD,cF,bQ,cE,bZ,cL,dw,dl,ci,c8,dN,fJ,il,im,iQ,ln,ll,hY,nT,nL,pn,_⟩,l⟩:=a4)
    ·exact ⟨o.set 0 rfl,l⟩
    ·exact ⟨o.set 1 rfl,l⟩
    ·obtain rfl:=cf ‹_›;refine aG h cX ?_;exact ⟨o.set 2 rfl,l⟩
    ·obtain rfl:=cD ‹_›;refine jx (by omega) ?_;exact ⟨o.set 3 rfl,l⟩
    ·exact ⟨o.set 4 rfl,l⟩
    ·obtain rfl:=cF ‹_›;obtain rfl:=bQ ‹_›;refine jx (by omega) ?_;exact ⟨o.set 5 rfl,l⟩
    ·obtain rfl:=cE ‹_›;refine Pn d0 ?_;exact ⟨o.set 6 rfl,l⟩
    ·obtain rfl:=cG ‹_›;obtain rfl:=bZ ‹_›;refine Run.callPure gf gr l (d3 Sj) fun w_ l=>?_;exact ⟨o.set 7 rfl,l⟩
    ·obtain rfl:=cL ‹_›;refine cU ?_;exact ⟨o.set 8 rfl,l⟩
    ·obtain rfl:=dw ‹_›;exact ⟨o.set 9 rfl,l⟩
    ·obtain rfl:=dl ‹_›;refine rpG ?_;exact ⟨o.set 10 rfl,l⟩
    ·obtain rfl:=dl ‹_›;refine rpG ?_;exact ⟨o.set 11 rfl,l⟩
    ·obtain rfl:=dl ‹_›;refine rpG ?_;exact ⟨o.set 12 rfl,l⟩
    ·obtain rfl:=dl ‹_›;refine rpG ?_;exact ⟨o.set 13 rfl,l⟩
    ·obtain rfl:=fJ ‹_›;obtain rfl:=dl ‹_›;refine rpG ?_;exact ⟨o.set 14 rfl,l⟩
    ·obtain rfl:=dl ‹_›;refine rpG ?_;exact ⟨o.set 15 rfl,l⟩
    ·obtain rfl:=im ‹_›;obtain rfl:=dl ‹_›;refine rpG ?_;exact ⟨o.set 16 rfl,l⟩
    ·obtain rfl:=dl ‹_›;refine rpG ?_;exact ⟨o.set 17 rfl,l⟩
    ·obtain rfl:=iQ ‹_›;obtain rfl:=ln ‹_›;obtain rfl:=dl ‹_›;refine rpG ?_;exact ⟨o.set 18 rfl,l⟩
    ·obtain rfl:=dN ‹_›;obtain rfl:=il ‹_›;obtain rfl:=ll ‹_›;obtain rfl:=dl ‹_›;refine rpG ?_;exact ⟨o.set 19 rfl,l⟩
    ·obtain rfl:=ci ‹_›;obtain rfl:=c8 ‹_›;obtain rfl:=hY ‹_›;obtain rfl:=dl ‹_›;refine rpG ?_;exact ⟨o.set 20 rfl,l⟩
    ·obtain rfl:=nT ‹_›;obtain rfl:=dl ‹_›;refine rpG ?_;exact ⟨o.set 21 rfl,l⟩
    ·obtain rfl:=dl ‹_›;obtain rfl:=nL ‹_›;refine rpG ?_;exact ⟨o.set 22 rfl,l⟩
    obtain ⟨rfl,rfl,rfl,rfl,rfl,rfl,rfl,rfl,rfl,rfl,rfl,rfl,rfl,rfl,rfl,rfl,rfl,rfl,rfl,rfl,rfl,rfl,rfl,_⟩:=o.all;clear o cG cf cD cF bQ cE bZ cL dw dl ci c8 dN fJ il im iQ ln ll hY nT nL pn;refine aI (fun _=>?_) (fun hb=>by cases hb);exact ⟨_,_,Sj,rfl,l,a1,by rw [p]; exact ⟨_,rfl⟩⟩
  intro i _ _ _ _ _ _ _ _ _ _ _ _ _ _ _ _ _ _ _ _ _ _ _ _ _ _ _ _ _ _ _ _ _ _ _ _ _ _ _ _ _ _ _ _ _ _ _ _ _ _ _ _ _ _ _ _ _ _ _ _ _ _ _ _ _ _ _ _ _ _ _ _ _ _ _ _ _ _ lv _ _ _ _ _ _ _ _ _ _ _ _ _ _ _ _ _ _ _ _ _ _ _ w';rintro ⟨j2,h1,h2,rfl,hL⟩;refine bF (by omega) ?_;exact ⟨⟨j2+1,h2,rfl,hL⟩,by simp [intOf]; omega⟩
 have g9:j=xs.length:=by omega
 subst g9;rw [ew] at p;have d2:readI f sj [] out=none:=by cases f <;> rfl
 rw [d2] at p;exact ⟨_,_,Sj,rfl,l,a1,by rw [p]; exact ⟨_,rfl⟩⟩
end
end
section
open Go Go.RowKit
theorem OM {w:World} (x y:Ist) :
  (Op.equalIn 10000 aF (.agg x.cells.toArray) (.agg y.cells.toArray)).run Tryz.prog w=.ok (decide (x=y)) w:=by
 by_cases g:x=y
 ·subst g;rw [aP rfl];exact Lq x
 rw [bf g];obtain ⟨a,b,c,s⟩:=x;obtain ⟨p,q,r,h⟩:=y;rw [show (10000:Nat)=9999+1 from rfl,run_equalIn_struct w 9999 aF _ _ yR DN];have hf:(Tryz.prog.fieldsOf aF).toList=[(Tryz.prog.fieldsOf aF)[0]!,(Tryz.prog.fieldsOf aF)[1]!,(Tryz.prog.fieldsOf aF)[2]!,(Tryz.prog.fieldsOf aF)[3]!]:=by kernel_rfl
 have u:((Tryz.prog.fieldsOf aF)[0]!).type=bD:=by kernel_rfl
 have B:((Tryz.prog.fieldsOf aF)[1]!).type=bD:=by kernel_rfl
 have C:((Tryz.prog.fieldsOf aF)[2]!).type=bD:=by kernel_rfl
 have D:((Tryz.prog.fieldsOf aF)[3]!).type=fb:=by kernel_rfl
 have G:((Tryz.prog.fieldsOf aF)[0]!).offset=0:=by kernel_rfl
 have J:((Tryz.prog.fieldsOf aF)[1]!).offset=1:=by kernel_rfl
 have M:((Tryz.prog.fieldsOf aF)[2]!).offset=2:=by kernel_rfl
 have N:((Tryz.prog.fieldsOf aF)[3]!).offset=3:=by kernel_rfl
 have O:((Tryz.prog.fieldsOf aF)[0]!).name≠"_" := by decide +kernel
 have U:((Tryz.prog.fieldsOf aF)[1]!).name≠"_" := by decide +kernel
 have V:((Tryz.prog.fieldsOf aF)[2]!).name≠"_" := by decide +kernel
 have Y:((Tryz.prog.fieldsOf aF)[3]!).name≠"_" := by decide +kernel
 rw [hf];have Z:(Op.equalIn (9998+1) fb (.string s) (.string h)).run Tryz.prog w=.ok (decide (s=h)) w:=by
  rw [run_equalIn_string w 9998 fb s h aR,tt]
 have j:∀ n i:Int,(Op.equalIn (9998+1) bD (.int .i64 n) (.int .i64 i)).run Tryz.prog w=.ok (decide (n=i)) w:=fun n i=>by
  rw [run_equalIn_int w 9998 bD .i64 .i64 n i c7]; rfl
 rw [show (9999:Nat)=9998+1 from rfl];generalize a0:(Tryz.prog.fieldsOf aF)[0]! = g0 at *;generalize a1:(Tryz.prog.fieldsOf aF)[1]! = g1 at *;generalize a2:(Tryz.prog.fieldsOf aF)[2]! = g2 at *;generalize a3:(Tryz.prog.fieldsOf aF)[3]! = g3 at *;simp only [Op.eqFields,O,U,V,Y,ne_eq,not_false_eq_true,if_true,Sem.run_bind,u,B,C,D,G,J,M,N];rw [dz aw (v:=.int .i64 a) rfl,Result.andThen_ok,dz aw (v:=.int .i64 p) rfl,Result.andThen_ok,j,Result.andThen_ok];by_cases l:a=p
 rotate_left
 ·rw [bf l]; rfl
 rw [aP l];simp only [DV,pQ,if_false,Sem.run_bind];rw [dz aw (v:=.int .i64 b) rfl,Result.andThen_ok,dz aw (v:=.int .i64 q) rfl,Result.andThen_ok,j,Result.andThen_ok];by_cases m:b=q
 rotate_left
 ·rw [bf m]; rfl
 rw [aP m];simp only [DV,pQ,if_false,Sem.run_bind];rw [dz aw (v:=.int .i64 c) rfl,Result.andThen_ok,dz aw (v:=.int .i64 r) rfl,Result.andThen_ok,j,Result.andThen_ok];by_cases o:c=r
 rotate_left
 ·rw [bf o]; rfl
 rw [aP o];simp only [DV,pQ,if_false,Sem.run_bind];rw [dz aZ (v:=.string s) rfl,Result.andThen_ok,dz aZ (v:=.string h) rfl,Result.andThen_ok,Z,Result.andThen_ok];by_cases t:s=h
 rotate_left
 ·rw [bf t]; rfl
 exact absurd (by rw [l,m,o,t]) g
section
variable {w:World} {S:ag}
attribute [local irreducible] Run CondV aC aU
theorem ND {a g:Bool} (x y:Ist):(dh .neq aF a g (.agg x.cells.toArray) (.agg y.cells.toArray)).run Tryz.prog w=.ok (.value (.bool (!decide (x=y)))) w:=by
 unfold dh;have e:(binOp .neq aF (.agg x.cells.toArray) (.agg y.cells.toArray)).run Tryz.prog w=.ok (.bool (!decide (x=y))) w:=by
  have h:=OM (w:=w) x y;simp only [binOp,Op.equal,Op.maxDepth,Sem.run_bind];rw [h];rfl
 rw [Sem.run_bind,run_eqGuard_agg w .neq aF _ _ _ _ Bd,Result.andThen_ok,Sem.run_bind,e,Result.andThen_ok];rfl
theorem FU {l m:List Ist} {u v:Value} (h:RdSl S 4 (dZ S) u l) (g:RdSl S 4 (dZ S) v m):Pure Tryz.prog zt [u,v] S (.bool (decide (l=m))):=by
 intro w p;have J:=h.le;simp only [maxLen] at J;refine m8.2 ?_;dsimp only[m8,bm];refine aG h cX ?_;refine aG g cX ?_;refine pu ?_;refine aI (fun r=>?_) (fun r=>?_)
 ·exact done p (by rw [bf (fun e=>by rw [e] at r; simp at r)])
 have Y:l.length=m.length:=by
  have:(l.length:Int)=(m.length:Int):=by simpa using r
  omega
 refine aG h cX ?_;refine ⟨fun i w'=>∃ k:Nat,k<=l.length/\i=.int .i64 k/\l.take k=m.take k/\Inv w [] [] S w',fun i _=>l.length - (intOf i).toNat,⟨0,aK _,rfl,rfl,p⟩,?_⟩;intro i _ _ a2 a3 a4 a5 a6 a7 a8 a9 b0 _ _ _ w';rintro ⟨k,hk,rfl,M,p⟩;refine cu ?_;refine aS (fun N=>?_) (fun N=>?_)
 rotate_left
 ·have e:k=l.length:=by omega
  subst e;rw [iz,Y,iz] at M;exact done p (by rw [aP M])
 have q:k<l.length:=by omega
 have B:k<m.length:=by omega
 obtain ⟨b,o,cap,c,E,fz,rfl,hS,hR⟩:=h.at_ q;have Z:bB c (o+k * 4) 4=l[k].cells:=hR;obtain ⟨b2,U,G,c2,E2,b1,rfl,V,t⟩:=g.at_ B;have t:bB c2 (U+k * 4) 4=m[k].cells:=t;refine ⟨fun D pT rU ry oQ nq pX xy nr sY w_=>Fx D 0 [sY=.slice (some ⟨b,o,none⟩) l.length cap,nr=.int .i64 k,xy=.pointer (some ⟨b,o+k * 4,none⟩),pX=.agg l[k].cells.toArray,nq=.slice (some ⟨b2,U,none⟩) m.length G,oQ=.int .i64 k,ry=.pointer (some ⟨b2,U+k * 4,none⟩),rU=.agg m[k].cells.toArray,pT=.bool (!decide (l[k]=m[k]))]/\Inv w [] [] S w_,⟨Fx.nil _ _,p.draw⟩,⟨?_,?_,?_,?_,?_,?_,?_,?_,?_,trivial⟩,?_⟩;all_goals (intro D bw; intros; rename_i pT rU ry oQ nq pX xy nr sY w_ C; have a:=C.1; obtain ⟨⟨cG,cf,cD,cF,bQ,cE,bZ,cL,dw,_⟩,p⟩:=C)
 ·exact ⟨a.set 0 rfl,p⟩
 ·exact ⟨a.set 1 rfl,p⟩
 ·obtain rfl:=cG ‹_›;obtain rfl:=cf ‹_›;refine aT cX q ?_;exact ⟨a.set 2 rfl,p⟩
 ·obtain rfl:=cD ‹_›;refine dX (cs:=l[k].cells) fw rfl (fun j v O=>by rw [p.cellS hS]; exact bd Z j v O) ?_;exact ⟨a.set 3 rfl,p⟩
 ·exact ⟨a.set 4 rfl,p⟩
 ·exact ⟨a.set 5 rfl,p⟩
 ·obtain rfl:=bQ ‹_›;obtain rfl:=cE ‹_›;refine aT cX B ?_;exact ⟨a.set 6 rfl,p⟩
 ·obtain rfl:=bZ ‹_›;refine dX (cs:=m[k].cells) fw rfl (fun j v O=>by rw [p.cellS V]; exact bd t j v O) ?_;exact ⟨a.set 7 rfl,p⟩
 ·obtain rfl:=cF ‹_›;obtain rfl:=cL ‹_›;refine Run.of (ND _ _) ?_;exact ⟨a.set 8 rfl,p⟩
 obtain ⟨rfl,rfl,rfl,rfl,rfl,rfl,rfl,rfl,rfl,_⟩:=a.all;clear a cG cf cD cF bQ cE bZ cL dw;refine aI (fun r=>?_) (fun r=>?_)
 ·have a0:¬ l[k]=m[k]:=by simpa using r
  refine done p ?_;rw [bf];intro e;subst e;exact a0 rfl
 ·have a1:l[k]=m[k]:=by simpa using r
  refine bF (by omega) ?_;exact ⟨⟨k+1,q,rfl,by rw [ia q,ia B,M,a1],p⟩,by simp [intOf]; omega⟩
theorem KH {K:Value->World->Prop} {m:Nat} (hk:K (.agg #[.map (some m),.slice none 0 0]) w):Run Tryz.prog (bR aJ [(0,.map (some m))]) w K:=by
 refine Run.of (v:=.agg #[.map (some m),.slice none 0 0]) (w':=w) ?_ hk;unfold bR;rw [Sem.run_bind,run_build w aJ _ #[.map (some m),.slice none 0 0] (by kernel_rfl),Result.andThen_ok];rfl
theorem FH {S:ag}:Tri Tryz.prog Fr [] [] S fun r I' S'=>S'=S/\∃ h g,r=.pointer (some ⟨h,0,none⟩)/\I'=cQ h g #[] 0 (.slice none 0 0) []:=by
 intro w a;refine rQ.2 ?_;dsimp only[rQ,oD];refine mu a fun g w' a=>?_;refine KH ?_;refine bH a fun h w' a=>?_;have a:=a.rowNil bD 1;have a:Inv w [] ([.blk g (.map #[] 0)]++[.blk h (.cells #[.map (some g),.slice none 0 0] aJ)]++[cg (.slice none 0 0) []]) S w':=a;have a:Inv w [] (cQ h g #[] 0 (.slice none 0 0) []) S w':=a.perm (bK (l₁:=[_]) (l₂:=[_]) |>.append_right _);exact ⟨_,_,S,rfl,a,Ext.refl _ _ _,rfl,h,g,rfl,rfl⟩
end
end
section
open Go Go.RowKit
def RdCode (S:ag) (cs:List Value) (l:List Ist):Prop:=∃ v,cs=[v]/\RdSl S 4 (dZ S) v l
theorem RdCode.mono {S S':ag} {cs:List Value} {l:List Ist} (a:Sle S S') (h:RdCode S cs l):RdCode S' cs l:=by
 obtain ⟨v,e,g⟩:=h;exact ⟨v,e,g.monoK a⟩
theorem Ae {p:List C} (h:gK p=true) {c:C} (hc:c∈p):a9 c=true:=by
 rw [gK,bJ,fS] at h;exact h.2 c hc
theorem AO {p:List C} (h:gK p=true):p.length<=20:=by
 rw [gK,bJ,bE] at h;exact h.1
theorem Ew (p:List C) (j:Nat) (h:j<p.length):(p.take (j+1)).map dK=(p.take j).map dK++[dK p[j]]:=by
 rw [ia h,th]; rfl
section
variable {S:ag}
attribute [local irreducible] Run CondV aC aU
theorem sd {p:List C} {v:Value} (h:RdSl S 5 (RdC S) v p):Tri Tryz.prog zk [v] [] S fun r I' S'=>I'=[]/\∃ u,r=.tuple #[u,.bool (gK p)]/\RdSl S' 1 (RdCode S') u (if gK p=true then p.map dK else []):=by
 intro w a;have t:=h.le;simp only [maxLen] at t;refine mZ.2 ?_;dsimp only[mZ,aQ];refine Run.callPure iw iG a (gN h) fun w' a=>?_;refine cU ?_;refine aI (fun m=>?_) (fun m=>?_)
 ·have m:gK p=false:=by simpa using m
  rw [m];exact ⟨_,_,S,rfl,a.nil,Ext.refl _ _ _,rfl,_,rfl,⟨none,0,rfl,be _,aK _,.inl rfl⟩⟩
 have m:gK p=true:=by simpa using m
 have V:=AO m;refine aG h ct ?_;have a:=a.rowNil ib 1;have a:Inv w [] [aB (.slice none 0 0) ib 1 []] S w':=a;refine ⟨fun i D w'=>∃ (j:Nat) (css:List (List Value)) (Sj:ag),j<=p.length/\i=.int .i64 j/\Ext w.heap.size [] S Sj/\Rows 1 (RdCode Sj) css ((p.take j).map dK)/\Inv w [] [aB D ib 1 css] Sj w',fun i _ _=>p.length - (intOf i).toNat,
  ⟨0,[],S,aK _,rfl,Ext.refl _ _ _,by rw [E9]; exact Rows.nil _ _,a⟩,?_⟩
 intro i _ D _ _ _ _ _ _ _ _ _ w';rintro ⟨j,css,Sj,Y,rfl,l,hR,a⟩;have M:=hR.hc;rw [ut,iJ] at M;refine cu ?_;refine aS (fun G=>?_) (fun G=>?_)
 ·have o:j<p.length:=by omega
  have hk:=h.mono l.1 fun _ _ h=>h.mono l.1;refine dy a hk ct aN o (fun _ _=>RdC.length) fun ds q=>?_;have B:=q.length;refine aH a dn fun Z w' a=>?_;refine al a 1 rfl aN (by simpa using B) rfl (by simpa using q.one) fun w' a=>?_;refine aq a 1 aN rfl (by simpa using B) ?_;refine Run.call0E hG hO a (gP q (Ae m (cH o))) fun u I' S3 w'=>?_;rintro ⟨rfl,O⟩ g a;obtain ⟨ua,uc,rfl,_⟩:=id O;refine lf (css:=css) a 0 lH rfl rfl rfl (by omega) (by omega) fun U w' a=>?_;refine bF (by omega) ?_;exact ⟨⟨j+1,_,S3,o,rfl,l.trans g,by rw [Ew p j o]; exact (hR.monoR fun _ _ h=>h.mono g.1).snoc ⟨_,rfl,O⟩ rfl,a.pick [true,false,false]⟩,by simp [intOf]; omega⟩
 have N:j=p.length:=by omega
 subst N;rw [iz] at hR;have a:Inv w [] ([]++[aB D ib 1 css]) Sj _:=a;obtain ⟨S3,g,J,a⟩:=a.lendExt;rw [m];exact ⟨_,_,S3,rfl,a.nil,l.trans g,rfl,D,rfl,RowRd.rows (hR.monoR fun _ _ h=>h.mono g.1) J⟩
theorem E0 {p:List C} {v:Value} (h:RdSl S 5 (RdC S) v p) (M:gK p=true):Tri Tryz.prog Kh [v] [] S fun r I' S'=>I'=[]/\RdSl S' 1 (RdCode S') r (p.map dK):=by
 intro w a;have o:=h.le;simp only [maxLen] at o;have U:=AO M;refine ye.2 ?_;dsimp only[ye,aQ];refine fc a lH fun v0 w' a=>?_;have a:Inv w [] [aB v0 ib 1 []] S w':=a;refine ⟨fun i q w'=>∃ (j:Nat) (css:List (List Value)) (Sj:ag),j<=p.length/\i=.int .i64 j/\Ext w.heap.size [] S Sj/\Rows 1 (RdCode Sj) css ((p.take j).map dK)/\Inv w [] [aB q ib 1 css] Sj w',fun i _ _=>p.length - (intOf i).toNat,
  ⟨0,[],S,aK _,rfl,Ext.refl _ _ _,by rw [E9]; exact Rows.nil _ _,a⟩,?_⟩
 intro i _ _ q _ _ _ _ _ _ _ _ _ _ _ _ w';rintro ⟨j,css,Sj,V,rfl,l,hR,a⟩;have G:=hR.hc;rw [ut,iJ] at G;have hk:=h.mono l.1 fun _ _ h=>h.mono l.1;refine aG hk ct ?_;refine cu ?_;refine aS (fun t=>?_) (fun t=>?_)
 ·have m:j<p.length:=by omega
  refine dy a hk ct aN m (fun _ _=>RdC.length) fun ds B=>?_;refine Run.call0E Di CI a (BM B (Ae M (cH m))) fun u I' S3 w'=>?_;rintro ⟨rfl,N⟩ g a;obtain ⟨Y,Z,rfl,_⟩:=id N;refine lf (css:=css) a 0 lH rfl rfl rfl (by omega) (by omega) fun O w' a=>?_;refine bF (by omega) ?_;exact ⟨⟨j+1,_,S3,m,rfl,l.trans g,by rw [Ew p j m]; exact (hR.monoR fun _ _ h=>h.mono g.1).snoc ⟨_,rfl,N⟩ rfl,a.pick [true,false]⟩,by simp [intOf]; omega⟩
 have J:j=p.length:=by omega
 subst J;rw [iz] at hR;have a:Inv w [] ([]++[aB q ib 1 css]) Sj _:=a;obtain ⟨S3,g,D,a⟩:=a.lendExt;exact ⟨_,_,S3,rfl,a.nil,l.trans g,rfl,RowRd.rows (hR.monoR fun _ _ h=>h.mono g.1) D⟩
theorem sS {p:List C} {v:Value} (h:RdSl S 5 (RdC S) v p) (l:wP p<=1048576):Tri Tryz.prog zq [v] [] S fun r I' S'=>I'=[]/\∃ u,r=.tuple #[u,.bool (gK p)]/\RdSl S' 1 (RdCode S') u (if gK p=true then p.map dK else []):=by
 intro w a;refine m0.2 ?_;dsimp only[m0,aQ];refine Run.callPure tM tH a (pG h l) fun w' a=>?_;refine cU ?_;refine aI (fun g=>?_) (fun g=>?_)
 ·have g:gK p=false:=by simpa using g
  refine fc a lH fun v0 w' a=>?_;have a:Inv w [] ([]++[aB v0 ib 1 []]) S w':=a;obtain ⟨S3,i,j,a⟩:=a.lendExt;rw [g];exact ⟨_,_,S3,rfl,a.nil,i,rfl,v0,rfl,RowRd.rows (Rows.nil _ _) j⟩
 ·have g:gK p=true:=by simpa using g
  refine Run.call0E Jj Jg a (E0 h g) fun u I' S3 w'=>?_;rintro ⟨rfl,m⟩ i a;rw [g];exact ⟨_,_,S3,rfl,a.nil,i,rfl,u,rfl,m⟩
end
end
section
open Go Go.RowKit
def fu (n:Nat):Sl:=fun k=>if 0<=k/\k<n then some (fk k.toNat) else none
def su (N n:Nat):RI:=⟨fu n,fun _=>none,n,List.replicate N none⟩
def lB (nm:ByteArray) (n:Nat):T:=fnT nm ((List.range n).map fk)
theorem PK (N:Nat):Good N (List.replicate N none):=⟨by simp,fun t a=>by simp at a,fun t a=>by simp at a,fun n=>n,fun n u g=>by
 have:=fj g;simp at this⟩
theorem Md (M N:Nat):Low M (List.replicate N none):=fun n u a=>by
 have:=fj a;simp at this
theorem Nf (n:Nat):okSl n (fu n):=fun k t hk=>by
 unfold fu at hk;split at hk
 ·rw [bh] at hk;subst hk;exact ⟨eG (by omega) _ (jC _).1,(jC _).2⟩
 ·cases hk
theorem wx {N n:Nat} (h:n<=N):okRd N (su N n):=⟨PK N,Md n N,h,Nf n,fun k t hk=>(by cases hk)⟩
theorem IG {N n:Nat} {nm:ByteArray} (h:n<=N) (hn:nm.size<=6) (a:n<=1048576):okU N (lB nm n)/\wB (lB nm n):=by
 refine nt hn (by simpa using a) fun t g=>?_;obtain ⟨k,hk,rfl⟩:=ng.1 g;rw [List.mem_range] at hk;exact ⟨eG (by omega) _ (jC _).1,(jC _).2⟩
theorem H9 {σ θ:Int->T} {nm:ByteArray} {ts:List T} (h:∀ j (h:j<ts.length),σ (j:Int)=sbT θ ts[j]):sbT σ (lB nm ts.length)=fnT nm (sbL θ ts):=by
 rw [lB,nV,j5,j5,List.map_map]
 congr 1
 refine List.ext_getElem (by simp) fun i g a=>?_;simp only [Bq,List.getElem_range,Function.comp];rw [ji];exact h i (by simpa using a)
def sN (rs:List T):List T:=gV (dk rs []) rs
mutual
theorem QA {N:Nat} (vs:List Int):∀ t:T,okU N t->lS vs t=mvT (mw vs) t
 | .mk k n s ks,h=>by
  rw [okU] at h;rw [lS,mvT];by_cases hk:k=1
  ·obtain ⟨_,_,a,g⟩:=h.2.1 hk;rw [af hk,af hk,a,g,hk];rfl
  ·rw [ae hk,ae hk,AB vs ks h.2.2.1]
theorem AB {N:Nat} (vs:List Int):∀ ts:List T,cz N ts->gV vs ts=mvL (mw vs) ts
 | [],_=>rfl
 | t::ts,h=>by
  rw [cz] at h;rw [gV,mvL,QA vs t h.1,AB vs ts h.2]
end
theorem Qc {N M:Nat} {f:Int->Int} {cs:List T} (l:cz M cs) (j:cz N (mvL f cs)) (hf:NW f cs):sN (mvL f cs)=mvL (mw (dk cs [])) cs:=by
 have p:=oT cs [];have g:∀ x∈dk cs [],∃ m∈vTL cs,x=(m:Int):=fun x o=>by
  rw [<- sq _ _ l] at o;rcases (sB cs [] l x).1 o with h|h
  ·cases h
  ·exact h
 have i:∀ a∈dk cs [],∀ b∈dk cs [],f a=f b->a=b:=fun a r b t e=>by
  obtain ⟨m,j,rfl⟩:=g a r;obtain ⟨k,hk,rfl⟩:=g b t;rw [hf m j k hk e]
 have q:=(uM (f:=f) (ws:=dk cs []) i cs [] (by simp) p).1;rw [L7] at q;rw [sN,AB _ _ j,q,Ad];exact zJ (fun n hn=>NO fun m j e=>i m j n hn e) cs p
theorem Hl {c:C} (h:a9 c=true) {N:Nat} {f:Int->Int} (a:cz N (mvL f (c.head::c.body))) (hf:NW f (c.head::c.body)):ofL (sN (mvL f (c.head::c.body)))=sr (bP c) c:=by
 obtain ⟨g,i,_⟩:=kX h;have l:cz 26 (c.head::c.body):=by rw [cz]; exact ⟨g,lq i⟩
 obtain ⟨e,_,_,_⟩:=Fq h;obtain ⟨j,_,_⟩:=FR h;rw [Qc l a hf,j,e];rfl
open Classical in
noncomputable def resV (st:aX) (ts:List T):List T:=if h:∃ us,Res st (.list ts us) then h.choose else []
theorem Is {N:Nat} {st:aX} (a:Good N st) {ts:List T} (g:cz N ts):Res st (.list ts (resV st ts)):=by
 have h:=H0 a ts g;rw [resV,dif_pos h];exact h.choose_spec
noncomputable def finI (code:List Ist) (nm:ByteArray) (n:Nat) (s:RI) (us:List T):Option C:=
 if us.length<=6/\(resV s.st (lB nm n::us)).all ez=true/\a9 (ofL (sN (resV s.st (lB nm n::us))))=true/\dK (ofL (sN (resV s.st (lB nm n::us))))=code then some (ofL (sN (resV s.st (lB nm n::us)))) else none
noncomputable def rdCI (code:List Ist) (nm:ByteArray) (n:Int):Option C:=
 if 0<=n/\n<=4/\code.length<=2000 then (readI code.length (su 4096 n.toNat) code []).bind fun r=>finI code nm n.toNat r.1 r.2 else none
theorem O4 {x:Ist} (h:Lm x):lim x:=by
 obtain ⟨_,h|h|h|h|h⟩:=h
 ·exact ⟨by rw [h.2]; decide,fun a=>by omega⟩
 ·exact ⟨lL h.2.1,fun _=>h.2.2⟩
 ·exact ⟨by rw [h.2.2]; decide,fun a=>by omega⟩
 ·exact ⟨lL h.2.2.1,fun _=>h.2.2.2⟩
 ·exact ⟨by rw [h.2.2.2]; decide,fun a=>by omega⟩
mutual
theorem LN (f:Int->Int):∀ (t:T) (d:Int),zA (mvT f t) d=zA t d
 | .mk k n s ks,d=>by rw [mvT,zA,zA,Mj f ks]
theorem Mj (f:Int->Int):∀ (ts:List T) (d:Int),zx (mvL f ts) d=zx ts d
 | [],_=>rfl
 | t::ts,d=>by rw [mvL,zx,zx,LN f t,Mj f ts]
end
mutual
theorem BF:∀ (t:T) (d:Int),dx t d=true->zA t d=true
 | .mk k n s ks,d,h=>by
  rw [dx] at h;rw [zA];split at h
  ·cases h
  ·rename_i a
   rw [bJ] at h;rw [ae a];exact Ac ks _ h.2
theorem Ac:∀ (ts:List T) (d:Int),dj ts d=true->zx ts d=true
 | [],_,_=>rfl
 | t::ts,d,h=>by
  rw [dj,bJ] at h;rw [zx,BF t d h.1,Ac ts d h.2]; rfl
end
theorem yg {t:T} (h:cA t=true) (f:Int->Int):ez (mvT f t)=true:=by
 rw [cA,bJ,bE] at h;rw [ez,zC,LN,BF t 30 h.1,aP h.2]; rfl
theorem KD {c:C} (h:a9 c=true) {N:Nat} {st:aX} (j:Good N st) {ts g:List T} (l:cz N ts) (m:Res st (.list ts g))
  (o:∀ τ,iy τ st->∃ θ,sbL τ ts=sbL θ (c.head::c.body)) (p:∃ σ,iy σ st/\sbL σ ts=c.head::c.body) :
  ∃ f,g=mvL f (c.head::c.body)/\NW f (c.head::c.body)/\cz N g:=by
 obtain ⟨q,r,_⟩:=kX h;have hc:cz 26 (c.head::c.body):=by rw [cz]; exact ⟨q,lq r⟩
 have i:=j.len;subst i;have a:cz st.length g:=(Ml j m l).1;have key:=RL j l m;obtain ⟨κ,t⟩:=(key (c.head::c.body)).1 p;obtain ⟨τ,u,B⟩:=(key g).2 ⟨idS,F3 g a⟩;obtain ⟨θ,D⟩:=o τ u;obtain ⟨f,G,J⟩:=PP hc a ⟨θ,by rw [<- D,B]⟩ ⟨κ,t⟩;exact ⟨f,G,J,a⟩
theorem RJ {c:C} (h:a9 c=true) {N:Nat} {a:List T} {f:Int->Int} (e:a=mvL f (c.head::c.body)) (hf:NW f (c.head::c.body)) (l:cz N a):a.all ez=true/\ofL (sN a)=sr (bP c) c:=by
 subst e;refine ⟨?_,Hl h l hf⟩;rw [fS];intro t j;rw [Ge] at j;obtain ⟨u,i,rfl⟩:=ng.1 j;have g:=h;rw [a9] at g;simp only [bJ,fS,bE] at g;rcases ek.1 i with rfl|i
 ·exact yg g.2.2.1 f
 ·have:=g.2.1 u i;rw [eI,bJ] at this;exact yg this.1 f
theorem Mo {c:C} (h:a9 c=true) (θ:Int->T):sbT θ c.head=fnT c.head.name (sbL θ c.head.kids):=
 pm ⟨(eH h).2.1,by have:=(je h).1.kind; have:=(eH h).2.1; omega⟩
theorem MU {c:C} (h:a9 c=true):rdCI (dK c) c.head.name c.head.kids.length=some (sr (bP c) c):=by
 obtain ⟨l1,l2⟩:=Mq h;obtain ⟨t1,t3,t2⟩:=eH h;have Z:c.head.name.size<=6:=by
  have o:=h;rw [a9] at o;simp only [bJ] at o;have:=wR o.2.2.1;rcases this.kind with e|e|e
  ·omega
  ·omega
  ·exact lL e.2.1
 have a0:∀ x∈BE c,lim x:=fun x hx=>O4 (l1 x (by rw [pa]; exact ic _ hx));have a2:(BE c).length+1=(dK c).length:=by rw [pa,bv]; rfl
 have h0:=wx (N:=4096) (n:=c.head.kids.length) (by omega)
 -- for each instance of the clause
 have key:∀ θ:Int->T,∃ m l,readI (dK c).length (su 4096 c.head.kids.length) (dK c) []=some (m,l)/\okRd 4096 m/\(∀ t∈l,okU m.fr t/\wB t)/\(∃ σ,iy σ m.st/\sbL σ (lB c.head.name c.head.kids.length::l)=sbL θ (c.head::c.body))/\
   ∀ τ,iy τ m.st->∃ J,sbL τ (lB c.head.name c.head.kids.length::l)=sbL J (c.head::c.body):=by
  intro θ
  let σ:Int->T:=fun n=>match c.head.kids[n.toNat]? with|some t=>sbT θ t|none=>r4
  have hσ:∀ j (i:j<c.head.kids.length),σ (j:Int)=sbT θ c.head.kids[j]:=fun j i=>by
   show (match c.head.kids[(j:Int).toNat]? with|some t=>sbT θ t|none=>r4)=_;rw [eB,z9 i]
  have hA:Args θ 0 c.head.kids (env σ (fu c.head.kids.length)):=fun j i=>by
   rw [En];show (fu c.head.kids.length (j:Int)).map _=_;rw [fu,af (by omega),la,eB,ji,hσ j i]
  obtain ⟨e',hd⟩:=RM h θ (a:=env σ fun _=>none) hA;obtain ⟨B,m,l,b1,D,b3,b4,b5,⟨σ',b6,b7,b8⟩,b9⟩:=Od hd (s:=su 4096 c.head.kids.length) (σ:=σ) h0 rfl (fun n u hn=>absurd (Md 0 4096 n u hn).1 (Nat.not_lt_zero _)) (by show c.head.kids.length+_<=4096; omega) a0 [⟨14,0,0,emptyB⟩] [] (dK c).length (by rw [<- pa]; exact be _);rw [<- pa] at D;obtain ⟨B,rfl⟩:∃ g,B=g+1:=⟨B - 1,by simp only [vh] at b1; omega⟩
  rw [readI,af rfl,af rfl,rC] at D;refine ⟨m,l,D,b3,b5,⟨σ',b7,?_⟩,fun τ r=>?_⟩
  ·rw [sbL,sbL,<- b8,Mo h,H9 fun j i=>?_];rw [<- b6 j (by omega) (by show (j:Int)<(c.head.kids.length:Int); omega),hσ j i]
  ·obtain ⟨_,a3,G⟩:=b9 τ r;obtain ⟨J,M,O⟩:=Pu h (fun j i=>by
    refine ⟨τ (j:Int),?_⟩;show (fu c.head.kids.length (j:Int)).map _=_;rw [fu,af (by omega),la,eB,ji]) G
   refine ⟨J,?_⟩;rw [sbL,sbL,O,Mo h,H9 fun j i=>?_];have:=M j i;rw [En] at this;have this:(fu c.head.kids.length (j:Int)).map (sbT τ)=_:=this;rw [fu,af (by omega),la,eB,ji,bh] at this;exact this
 obtain ⟨m,l,e1,U,e3,V,e5⟩:=key idS;obtain ⟨o1,o2,_⟩:=kX h;have hc:cz 26 (c.head::c.body):=by rw [cz]; exact ⟨o1,lq o2⟩
 rw [F3 _ hc] at V;have p:cz 4096 (lB c.head.name c.head.kids.length::l):=by
  rw [cz];exact ⟨(IG (by omega) Z (by omega)).1,lq fun t r=>eG U.le _ (e3 t r).1⟩
 have q:=Is U.good p;obtain ⟨f,v1,v2,v3⟩:=KD h U.good p q e5 V;obtain ⟨w1,Y⟩:=RJ h v1 v2 v3;have a1:l.length<=6:=by
  obtain ⟨σ,_,he⟩:=V;have:=congrArg List.length he;rw [iP,aO,aO] at this;have o:=h;rw [a9] at o;simp only [bJ,bE] at o;omega
 rw [rdCI,af ⟨by omega,by omega,l2⟩,eB,e1,nH,finI,af ⟨a1,w1,by rw [Y]; exact MA h,by rw [Y]; exact OS h⟩,Y]
end
section
open Go Go.RowKit
theorem Et (k:Nat):upS (fu k) (k:Int) (fk k)=fu (k+1):=by
 funext m
 unfold upS fu;by_cases e:m=(k:Int)
 ·rw [af e,af (by omega),e,eB]
 ·rw [ae e];by_cases h:0<=m/\m<(k:Int)
  ·rw [af h,af (by omega)]
  ·rw [ae h,ae (by omega)]
theorem KG:fu 0=fun _=>none:=by
 funext m
 unfold fu;rw [ae (by omega)]
theorem KE (S:ag) (N:Nat):KnownM S #[] (List.replicate N Option.none):=by
 refine ⟨fun e a=>by simp at a,fun n t g=>?_,by simp⟩;have:=fj g;simp at this
theorem KX (k:Nat):(List.range (k+1)).map fk=(List.range k).map fk++[fk k]:=by
 rw [List.range_succ,th]; rfl
theorem QD (M:Nat):okU M r4/\wB r4:=nt (nm:=⟨#[33]⟩) (ks:=[]) (by decide) (by decide) fun t a=>(by cases a)
theorem vL {N:Nat}:∀ (f:Nat) {s m:RI} {xs:List Ist} {out o:List T},okRd N s->s.fr+xs.length<=N->(∀ y∈xs,y.name.size<=6)->(∀ t∈out,okU N t/\wB t)->readI f s xs out=some (m,o)->okRd N m/\∀ t∈o,okU N t/\wB t
 | 0,_,_,_,_,_,_,_,_,_,h=>by rw [readI] at h; cases h
 | f+1,s,m,[],out,o,_,_,_,_,h=>by rw [readI] at h; cases h
 | f+1,s,m,x::xs,out,o,hs,hf,hn,ho,h=>by
  rw [aO] at hf;have l:=hn x (bL ..);have i:∀ y∈xs,y.name.size<=6:=fun y p=>hn y (bV _ p);rw [readI] at h;split at h
  ·split at h
   ·rw [bh,di] at h;obtain ⟨rfl,rfl⟩:=h;exact ⟨hs,ho⟩
   ·cases h
  split at h
  ·refine vL f hs (by omega) i (fun t g=>?_) h;rcases cI.1 g with g|g
   ·exact ho t g
   ·rw [cO.1 g]; exact QD N
  split at h
  ·split at h
   ·rename_i r
    rw [l7] at h;obtain ⟨ks,hk,h⟩:=h;obtain ⟨D,j⟩:=Fm hs.ar x.a.toNat hk;refine vL f hs (by omega) i (fun t g=>?_) h;rcases cI.1 g with g|g
    ·exact ho t g
    ·rw [cO.1 g];exact nt l (by omega) fun t g=>⟨eG hs.le t (j t g).1,(j t g).2⟩
   ·cases h
  split at h
  ·rename_i r
   rw [l7] at h;obtain ⟨G,u,h⟩:=h;have q:(xs.take (fE x).toNat).length=(fE x).toNat:=by rw [iJ]; omega
   obtain ⟨B,J,M⟩:=kr hs (by omega) (by omega) l u;have C:(xs.drop (fE x).toNat).length=xs.length - (fE x).toNat:=tu ..;exact vL f B (by omega) (fun y p=>i y (N9 p)) ho h
  ·cases h
def QY:C:=⟨⟨0,0,⟨#[]⟩,[]⟩,[]⟩
section
attribute [local irreducible] Run CondV aC aU
theorem M4 {w:World} {K:Value->World->Prop} (hk:K (.agg #[.int .i64 0,.int .i64 0,.string ⟨#[]⟩,.slice none 0 0,.slice none 0 0]) w):Run Tryz.prog (bR ai []) w K:=by
 refine Run.of (v:=.agg #[.int .i64 0,.int .i64 0,.string ⟨#[]⟩,.slice none 0 0,.slice none 0 0]) (w':=w) ?_ hk;unfold bR;rw [Sem.run_bind,run_build w ai _ #[.int .i64 0,.int .i64 0,.string ⟨#[]⟩,.slice none 0 0,.slice none 0 0] (by kernel_rfl),Result.andThen_ok];rfl
theorem JT {w:World} {K:Value->World->Prop} {a b c:Nat} (hk:K (.agg #[.pointer (some ⟨a,0,none⟩),.map (some b),.map (some c),.int .i64 0]) w):Run Tryz.prog (bR aj [(0,.pointer (some ⟨a,0,none⟩)),(1,.map (some b)),(2,.map (some c))]) w K:=by
 refine Run.of (v:=.agg #[.pointer (some ⟨a,0,none⟩),.map (some b),.map (some c),.int .i64 0]) (w':=w) ?_ hk;unfold bR;rw [Sem.run_bind,run_build w aj _ #[.pointer (some ⟨a,0,none⟩),.map (some b),.map (some c),.int .i64 0] (by kernel_rfl),Result.andThen_ok];rfl
end
end
end Go.Proofs.YtjbcdmheajljpaaGreat

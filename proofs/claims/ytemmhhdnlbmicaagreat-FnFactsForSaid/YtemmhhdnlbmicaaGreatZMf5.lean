/- The source of random numbers: spec.l18Open, pick, of, num. (printed by gen_rd.py) -/
import Derived.Test.YtemmhhdnlbmicaaGreatZMf2
namespace Go.Proofs.YtemmhhdnlbmicaaGreat
open Go Go.RowKit

def kF (cs:List Value) (n:Nat):Prop:=cs=[.int .u8 (n:Int)]/\n<256
abbrev rdI (br:Nat) (sl:Value) (p:Nat):Item:=.blk br (.cells #[sl,.int .i64 (p:Int)] z2)
abbrev rdP (br:Nat):Value:=.pointer (some ⟨br,0,none⟩)
section
variable {P:Program} {w:World} {K:Value->World->Prop}
theorem Bb {T:TypeId} {cx cy:Bool} {x y:Int} {a b:Nat} (hx:x=a) (hy:y=b) (hb:0<b) (hk:K (.int .i64 ((a % b:Nat):Int)) w):Run P (ao .rem T cx cy (.int .i64 x) (.int .i64 y)) w K:=by
 subst hx hy
 exact A1 hb hk
theorem BD {T:TypeId} {cx cy:Bool} {x y:Int} {a b:Nat} (hx:x=a) (hy:y=b) (hb:0<b) (ha:a<=9223372036854775807) (hk:K (.int .i64 ((a / b:Nat):Int)) w):Run P (ao .quo T cx cy (.int .i64 x) (.int .i64 y)) w K:=by
 subst hx hy
 exact Gn hb ha hk
theorem Gk {T:TypeId} {cx cy:Bool} {x y:Int} {a b:Nat} (hx:x=a) (hy:y=b) (ha:a<4611686018427387904) (hb:b<4611686018427387904) (hk:K (.int .i64 ((a ^^^ b:Nat):Int)) w):Run P (ao .xor T cx cy (.int .i64 x) (.int .i64 y)) w K:=by
 subst hx hy
 exact Gd ha hb hk
end
theorem RdSl.u8 {S:av} {sl:Value} {ys:List Nat} (h:RdSl S 1 kF sl ys) (h0:0<ys.length):∃ b o cap c E fz,sl=.slice (some ⟨b,o,none⟩) ys.length cap/\S b=some (.cells c E fz)/\
  ∀ i,i<ys.length->∃ y:Nat,c[o+i * 1]?=some (.int .u8 (y:Int))/\y<256:=by
 obtain ⟨a,cap,rfl,hl,hc,h⟩:=h
 rcases h with rfl|⟨b,o,c,E,fz,rfl,hS,hR⟩
 ·simp at h0
 ·refine ⟨b,o,cap,c,E,fz,rfl,hS,fun i hi=>?_⟩
  obtain ⟨h1,h2⟩:=hR i hi
  exact ⟨ys[i],be h1 0 _ rfl,h2⟩
section
attribute [local irreducible] Run CondV ag a4
abbrev GC (S:av) (br:Nat) (sl:Value) (p n:Nat):Value->List Item->av->Prop:=fun v I' S'=>S'=S/\I'=[rdI br sl (p+1)]/\∃ k:Nat,k<n/\v=.int .i64 (k:Int)
theorem fH {ys:List Nat} {S:av} {sl:Value} {br p n:Nat} (h:RdSl S 1 kF sl ys) (hp:p<=1000000000000) (hn:0<n):Tri Tryz.prog tS [rdP br,.int .i64 (n:Int)] [rdI br sl p] S (GC S br sl p n):=by
 intro w hI
 refine nz ?_
 unfold kB
 obtain ⟨X,hX⟩:∃ X,X=bF [rdI br sl p]:=⟨_,rfl⟩
 rw [<- hX] at hI ⊢
 have hsl:∃ a m cap,sl=.slice a m cap/\m=ys.length:=by
  obtain ⟨a,cap,e,_⟩:=h
  exact ⟨a,_,cap,e,rfl⟩
 refine dh ?_
 refine bo ly ?_
 refine bA hI 0 bj rfl rfl ?_
 refine bC (by omega) ?_
 refine dh ?_
 refine bo ly ?_
 refine fW hI 0 (n:=1) rfl (by decide +kernel) rfl (by simp) (by simp [Value.cells,Value.oneCell']) fun w' hI=>?_
 have hI:Inv w X [rdI br sl (p+1)] S w':=hI
 have hN:∃ N:Nat,N=ys.length:=⟨_,rfl⟩
 refine ⟨fun t w'=>t=.bool (decide (ys.length=0))/\Inv w X [rdI br sl (p+1)] S w',?_,?_⟩
 ·refine dI (by omega) ?_
  refine Ck (fun _=>?_) (fun hb=>by simp at hb)
  refine dh ?_
  refine bo ew ?_
  refine bA hI 0 fK rfl rfl ?_
  refine a9 h dJ ?_
  refine cw ?_
  refine kX ?_
  refine ⟨?_,hI⟩
  simp
 intro t24 _ _ _ _ _ _ _ _ _ w'
 rintro ⟨rfl,hI⟩
 refine bp (fun _=>⟨_,_,_,rfl,hI,Ext.refl _ _ _,rfl,rfl,0,hn,rfl⟩) (fun h0=>?_)
 have h0:0<ys.length:=by omega
 obtain ⟨b,o,cap,c,E,fz,rfl,hS,hc⟩:=h.u8 h0
 refine dh ?_
 refine bo ly ?_
 refine bA hI 0 bj rfl rfl ?_
 refine qV (by omega) ?_
 have ep:((p+1:Nat):Int) - 1=(p:Int):=by omega
 rw [ep]
 refine dh ?_
 refine bo ew ?_
 refine bA hI 0 fK rfl rfl ?_
 refine fu dJ ?_
 refine co ?_
 refine bp (fun hlt=>?_) (fun _=>?_)
 ·have hlt':p<ys.length:=by omega
  obtain ⟨y,hy,hy2⟩:=hc p hlt'
  refine dh ?_
  refine bo ew ?_
  refine bA hI 0 fK rfl rfl ?_
  refine ba dJ hlt' ?_
  refine eo tr ((hI.cellS hS).trans hy) ?_
  refine jV eM gJ (IntWalk.i64_in _ (by omega)) ?_
  refine A1 hn ?_
  exact ⟨_,_,_,rfl,hI,Ext.refl _ _ _,rfl,rfl,y % n,Nat.mod_lt _ hn,rfl⟩
 ·obtain ⟨i1,hd1⟩:∃ i1,i1=p % ys.length:=⟨_,rfl⟩
  obtain ⟨i2,hd2⟩:∃ i2,i2=(p * 7+3) % ys.length:=⟨_,rfl⟩
  obtain ⟨q,hdq⟩:∃ q,q=p / ys.length:=⟨_,rfl⟩
  have hi1:i1<ys.length:=by rw [hd1]; exact Nat.mod_lt _ h0
  have hi2:i2<ys.length:=by rw [hd2]; exact Nat.mod_lt _ h0
  have hq:q<=p:=by rw [hdq]; exact Nat.div_le_self ..
  obtain ⟨y1,hv1,hy1⟩:=hc i1 hi1
  obtain ⟨y2,hv2,hy2⟩:=hc i2 hi2
  skip
  refine ⟨fun D x6 gX h8 gW ia hO g5 hG g9 gZ gY g8 g7 g0 hY fD fE ev ex eD eq ez eE eC eF eA dM ch cr ct cD cH cF cE cG cB cC cX cI cJ cv cd cf ce bD bE w_=>(D 0=true->bE=.pointer (some ⟨br,0,none⟩))/\(D 1=true->bD=.pointer (some ⟨br,0,none⟩))/\(D 2=true->ce=.pointer (some ⟨br,0,none⟩))/\(D 3=true->cf=.slice (some ⟨b,o,none⟩) ys.length cap)/\(D 4=true->cd=.int .i64 (p:Int))/\(D 5=true->cv=.pointer (some ⟨br,0,none⟩))/\(D 6=true->cJ=.pointer (some ⟨br,0,none⟩))/\(D 7=true->cI=.pointer (some ⟨br,0,none⟩))/\(D 8=true->cX=.slice (some ⟨b,o,none⟩) ys.length cap)/\(D 9=true->cC=.int .i64 (ys.length:Int))/\(D 10=true->cB=.int .i64 (((i1:Nat):Int)))/\(D 11=true->cG=.pointer (some ⟨b,o+i1 * 1,none⟩))/\(D 12=true->cE=.int .u8 ((y1:Nat):Int))/\(D 13=true->cF=.int .i64 (((y1:Nat):Int)))/\(D 14=true->cH=.int .i64 ((((y1:Nat):Int) * 131)))/\(D 15=true->cD=.pointer (some ⟨br,0,none⟩))/\(D 16=true->ct=.pointer (some ⟨br,0,none⟩))/\(D 17=true->cr=.pointer (some ⟨br,0,none⟩))/\(D 18=true->ch=.slice (some ⟨b,o,none⟩) ys.length cap)/\(D 19=true->dM=.int .i64 (p:Int))/\(D 20=true->eA=.int .i64 (((p:Int) * 7)))/\(D 21=true->eF=.int .i64 ((((p:Int) * 7)+3)))/\(D 22=true->eC=.pointer (some ⟨br,0,none⟩))/\(D 23=true->eE=.pointer (some ⟨br,0,none⟩))/\(D 24=true->ez=.pointer (some ⟨br,0,none⟩))/\(D 25=true->eq=.slice (some ⟨b,o,none⟩) ys.length cap)/\(D 26=true->eD=.int .i64 (ys.length:Int))/\(D 27=true->ex=.int .i64 (((i2:Nat):Int)))/\(D 28=true->ev=.pointer (some ⟨b,o+i2 * 1,none⟩))/\(D 29=true->fE=.int .u8 ((y2:Nat):Int))/\(D 30=true->fD=.int .i64 (((y2:Nat):Int)))/\(D 31=true->hY=.int .i64 ((((y2:Nat):Int) * 1117)))/\(D 32=true->g0=.int .i64 (((((y1:Nat):Int) * 131)+(((y2:Nat):Int) * 1117))))/\(D 33=true->g7=.int .i64 (p:Int))/\(D 34=true->g8=.int .i64 (((p:Int) * 29)))/\(D 35=true->gY=.int .i64 ((((((y1:Nat):Int) * 131)+(((y2:Nat):Int) * 1117))+((p:Int) * 29))))/\(D 36=true->gZ=.int .i64 (p:Int))/\(D 37=true->g9=.pointer (some ⟨br,0,none⟩))/\(D 38=true->hG=.pointer (some ⟨br,0,none⟩))/\(D 39=true->g5=.pointer (some ⟨br,0,none⟩))/\(D 40=true->hO=.slice (some ⟨b,o,none⟩) ys.length cap)/\(D 41=true->ia=.int .i64 (ys.length:Int))/\(D 42=true->gW=.int .i64 (((q:Nat):Int)))/\(D 43=true->h8=.int .i64 ((((q:Nat):Int) * 53)))/\(D 44=true->gX=.int .i64 (((((((y1:Nat):Int) * 131)+(((y2:Nat):Int) * 1117))+((p:Int) * 29))+(((q:Nat):Int) * 53))))/\(D 45=true->x6=.int .i64 (((((((y1:Nat):Int) * 131)+(((y2:Nat):Int) * 1117))+((p:Int) * 29))+(((q:Nat):Int) * 53))))/\Inv w X [rdI br (.slice (some ⟨b,o,none⟩) ys.length cap) (p+1)] S w_,⟨ae,ae,ae,ae,ae,ae,ae,ae,ae,ae,ae,ae,ae,ae,ae,ae,ae,ae,ae,ae,ae,ae,ae,ae,ae,ae,ae,ae,ae,ae,ae,ae,ae,ae,ae,ae,ae,ae,ae,ae,ae,ae,ae,ae,ae,ae,hI.draw⟩,⟨?_,?_,?_,?_,?_,?_,?_,?_,?_,?_,?_,?_,?_,?_,?_,?_,?_,?_,?_,?_,?_,?_,?_,?_,?_,?_,?_,?_,?_,?_,?_,?_,?_,?_,?_,?_,?_,?_,?_,?_,?_,?_,?_,?_,?_,?_,trivial⟩,?_⟩
  ·intro D a6  x6 gX h8 gW ia hO g5 hG g9 gZ gY g8 g7 g0 hY fD fE ev ex eD eq ez eE eC eF eA dM ch cr ct cD cH cF cE cG cB cC cX cI cJ cv cd cf ce bD bE w_
   rintro ⟨aB,aC,aA,aD,ax,aF,aE,aG,aI,aM,ah,aj,ar,aJ,aK,aL,aP,aO,aQ,aR,aU,aV,aY,aZ,a3,bJ,bM,bZ,bT,bO,bY,bX,bQ,bU,bL,b0,bV,bW,bS,bI,bP,bR,bN,bH,bK,cb,hI⟩
   exact ⟨fun _=>rfl,aC,aA,aD,ax,aF,aE,aG,aI,aM,ah,aj,ar,aJ,aK,aL,aP,aO,aQ,aR,aU,aV,aY,aZ,a3,bJ,bM,bZ,bT,bO,bY,bX,bQ,bU,bL,b0,bV,bW,bS,bI,bP,bR,bN,bH,bK,cb,hI⟩
  ·intro D a6 cV x6 gX h8 gW ia hO g5 hG g9 gZ gY g8 g7 g0 hY fD fE ev ex eD eq ez eE eC eF eA dM ch cr ct cD cH cF cE cG cB cC cX cI cJ cv cd cf ce bD bE w_
   rintro ⟨aB,aC,aA,aD,ax,aF,aE,aG,aI,aM,ah,aj,ar,aJ,aK,aL,aP,aO,aQ,aR,aU,aV,aY,aZ,a3,bJ,bM,bZ,bT,bO,bY,bX,bQ,bU,bL,b0,bV,bW,bS,bI,bP,bR,bN,bH,bK,cb,hI⟩
   obtain rfl:=aB cV
   refine dh ?_
   exact ⟨aB,fun _=>rfl,aA,aD,ax,aF,aE,aG,aI,aM,ah,aj,ar,aJ,aK,aL,aP,aO,aQ,aR,aU,aV,aY,aZ,a3,bJ,bM,bZ,bT,bO,bY,bX,bQ,bU,bL,b0,bV,bW,bS,bI,bP,bR,bN,bH,bK,cb,hI⟩
  ·intro D a6 d3 x6 gX h8 gW ia hO g5 hG g9 gZ gY g8 g7 g0 hY fD fE ev ex eD eq ez eE eC eF eA dM ch cr ct cD cH cF cE cG cB cC cX cI cJ cv cd cf ce bD bE w_
   rintro ⟨aB,aC,aA,aD,ax,aF,aE,aG,aI,aM,ah,aj,ar,aJ,aK,aL,aP,aO,aQ,aR,aU,aV,aY,aZ,a3,bJ,bM,bZ,bT,bO,bY,bX,bQ,bU,bL,b0,bV,bW,bS,bI,bP,bR,bN,bH,bK,cb,hI⟩
   obtain rfl:=aC d3
   refine bo ew ?_
   exact ⟨aB,aC,fun _=>rfl,aD,ax,aF,aE,aG,aI,aM,ah,aj,ar,aJ,aK,aL,aP,aO,aQ,aR,aU,aV,aY,aZ,a3,bJ,bM,bZ,bT,bO,bY,bX,bQ,bU,bL,b0,bV,bW,bS,bI,bP,bR,bN,bH,bK,cb,hI⟩
  ·intro D a6 eL x6 gX h8 gW ia hO g5 hG g9 gZ gY g8 g7 g0 hY fD fE ev ex eD eq ez eE eC eF eA dM ch cr ct cD cH cF cE cG cB cC cX cI cJ cv cd cf ce bD bE w_
   rintro ⟨aB,aC,aA,aD,ax,aF,aE,aG,aI,aM,ah,aj,ar,aJ,aK,aL,aP,aO,aQ,aR,aU,aV,aY,aZ,a3,bJ,bM,bZ,bT,bO,bY,bX,bQ,bU,bL,b0,bV,bW,bS,bI,bP,bR,bN,bH,bK,cb,hI⟩
   obtain rfl:=aA eL
   refine bA hI 0 fK rfl rfl ?_
   exact ⟨aB,aC,aA,fun _=>rfl,ax,aF,aE,aG,aI,aM,ah,aj,ar,aJ,aK,aL,aP,aO,aQ,aR,aU,aV,aY,aZ,a3,bJ,bM,bZ,bT,bO,bY,bX,bQ,bU,bL,b0,bV,bW,bS,bI,bP,bR,bN,bH,bK,cb,hI⟩
  ·intro D a6  x6 gX h8 gW ia hO g5 hG g9 gZ gY g8 g7 g0 hY fD fE ev ex eD eq ez eE eC eF eA dM ch cr ct cD cH cF cE cG cB cC cX cI cJ cv cd cf ce bD bE w_
   rintro ⟨aB,aC,aA,aD,ax,aF,aE,aG,aI,aM,ah,aj,ar,aJ,aK,aL,aP,aO,aQ,aR,aU,aV,aY,aZ,a3,bJ,bM,bZ,bT,bO,bY,bX,bQ,bU,bL,b0,bV,bW,bS,bI,bP,bR,bN,bH,bK,cb,hI⟩
   exact ⟨aB,aC,aA,aD,fun _=>rfl,aF,aE,aG,aI,aM,ah,aj,ar,aJ,aK,aL,aP,aO,aQ,aR,aU,aV,aY,aZ,a3,bJ,bM,bZ,bT,bO,bY,bX,bQ,bU,bL,b0,bV,bW,bS,bI,bP,bR,bN,bH,bK,cb,hI⟩
  ·intro D a6  x6 gX h8 gW ia hO g5 hG g9 gZ gY g8 g7 g0 hY fD fE ev ex eD eq ez eE eC eF eA dM ch cr ct cD cH cF cE cG cB cC cX cI cJ cv cd cf ce bD bE w_
   rintro ⟨aB,aC,aA,aD,ax,aF,aE,aG,aI,aM,ah,aj,ar,aJ,aK,aL,aP,aO,aQ,aR,aU,aV,aY,aZ,a3,bJ,bM,bZ,bT,bO,bY,bX,bQ,bU,bL,b0,bV,bW,bS,bI,bP,bR,bN,bH,bK,cb,hI⟩
   exact ⟨aB,aC,aA,aD,ax,fun _=>rfl,aE,aG,aI,aM,ah,aj,ar,aJ,aK,aL,aP,aO,aQ,aR,aU,aV,aY,aZ,a3,bJ,bM,bZ,bT,bO,bY,bX,bQ,bU,bL,b0,bV,bW,bS,bI,bP,bR,bN,bH,bK,cb,hI⟩
  ·intro D a6 ef x6 gX h8 gW ia hO g5 hG g9 gZ gY g8 g7 g0 hY fD fE ev ex eD eq ez eE eC eF eA dM ch cr ct cD cH cF cE cG cB cC cX cI cJ cv cd cf ce bD bE w_
   rintro ⟨aB,aC,aA,aD,ax,aF,aE,aG,aI,aM,ah,aj,ar,aJ,aK,aL,aP,aO,aQ,aR,aU,aV,aY,aZ,a3,bJ,bM,bZ,bT,bO,bY,bX,bQ,bU,bL,b0,bV,bW,bS,bI,bP,bR,bN,bH,bK,cb,hI⟩
   obtain rfl:=aF ef
   refine dh ?_
   exact ⟨aB,aC,aA,aD,ax,aF,fun _=>rfl,aG,aI,aM,ah,aj,ar,aJ,aK,aL,aP,aO,aQ,aR,aU,aV,aY,aZ,a3,bJ,bM,bZ,bT,bO,bY,bX,bQ,bU,bL,b0,bV,bW,bS,bI,bP,bR,bN,bH,bK,cb,hI⟩
  ·intro D a6 cA x6 gX h8 gW ia hO g5 hG g9 gZ gY g8 g7 g0 hY fD fE ev ex eD eq ez eE eC eF eA dM ch cr ct cD cH cF cE cG cB cC cX cI cJ cv cd cf ce bD bE w_
   rintro ⟨aB,aC,aA,aD,ax,aF,aE,aG,aI,aM,ah,aj,ar,aJ,aK,aL,aP,aO,aQ,aR,aU,aV,aY,aZ,a3,bJ,bM,bZ,bT,bO,bY,bX,bQ,bU,bL,b0,bV,bW,bS,bI,bP,bR,bN,bH,bK,cb,hI⟩
   obtain rfl:=aE cA
   refine bo ew ?_
   exact ⟨aB,aC,aA,aD,ax,aF,aE,fun _=>rfl,aI,aM,ah,aj,ar,aJ,aK,aL,aP,aO,aQ,aR,aU,aV,aY,aZ,a3,bJ,bM,bZ,bT,bO,bY,bX,bQ,bU,bL,b0,bV,bW,bS,bI,bP,bR,bN,bH,bK,cb,hI⟩
  ·intro D a6 dl x6 gX h8 gW ia hO g5 hG g9 gZ gY g8 g7 g0 hY fD fE ev ex eD eq ez eE eC eF eA dM ch cr ct cD cH cF cE cG cB cC cX cI cJ cv cd cf ce bD bE w_
   rintro ⟨aB,aC,aA,aD,ax,aF,aE,aG,aI,aM,ah,aj,ar,aJ,aK,aL,aP,aO,aQ,aR,aU,aV,aY,aZ,a3,bJ,bM,bZ,bT,bO,bY,bX,bQ,bU,bL,b0,bV,bW,bS,bI,bP,bR,bN,bH,bK,cb,hI⟩
   obtain rfl:=aG dl
   refine bA hI 0 fK rfl rfl ?_
   exact ⟨aB,aC,aA,aD,ax,aF,aE,aG,fun _=>rfl,aM,ah,aj,ar,aJ,aK,aL,aP,aO,aQ,aR,aU,aV,aY,aZ,a3,bJ,bM,bZ,bT,bO,bY,bX,bQ,bU,bL,b0,bV,bW,bS,bI,bP,bR,bN,bH,bK,cb,hI⟩
  ·intro D a6 jc x6 gX h8 gW ia hO g5 hG g9 gZ gY g8 g7 g0 hY fD fE ev ex eD eq ez eE eC eF eA dM ch cr ct cD cH cF cE cG cB cC cX cI cJ cv cd cf ce bD bE w_
   rintro ⟨aB,aC,aA,aD,ax,aF,aE,aG,aI,aM,ah,aj,ar,aJ,aK,aL,aP,aO,aQ,aR,aU,aV,aY,aZ,a3,bJ,bM,bZ,bT,bO,bY,bX,bQ,bU,bL,b0,bV,bW,bS,bI,bP,bR,bN,bH,bK,cb,hI⟩
   obtain rfl:=aI jc
   refine fu dJ ?_
   exact ⟨aB,aC,aA,aD,ax,aF,aE,aG,aI,fun _=>rfl,ah,aj,ar,aJ,aK,aL,aP,aO,aQ,aR,aU,aV,aY,aZ,a3,bJ,bM,bZ,bT,bO,bY,bX,bQ,bU,bL,b0,bV,bW,bS,bI,bP,bR,bN,bH,bK,cb,hI⟩
  ·intro D a6 dr fB x6 gX h8 gW ia hO g5 hG g9 gZ gY g8 g7 g0 hY fD fE ev ex eD eq ez eE eC eF eA dM ch cr ct cD cH cF cE cG cB cC cX cI cJ cv cd cf ce bD bE w_
   rintro ⟨aB,aC,aA,aD,ax,aF,aE,aG,aI,aM,ah,aj,ar,aJ,aK,aL,aP,aO,aQ,aR,aU,aV,aY,aZ,a3,bJ,bM,bZ,bT,bO,bY,bX,bQ,bU,bL,b0,bV,bW,bS,bI,bP,bR,bN,bH,bK,cb,hI⟩
   obtain rfl:=ax dr
   obtain rfl:=aM fB
   refine Bb (a:=p) (b:=ys.length) (by omega) rfl h0 ?_; rw [<- hd1]
   exact ⟨aB,aC,aA,aD,ax,aF,aE,aG,aI,aM,fun _=>rfl,aj,ar,aJ,aK,aL,aP,aO,aQ,aR,aU,aV,aY,aZ,a3,bJ,bM,bZ,bT,bO,bY,bX,bQ,bU,bL,b0,bV,bW,bS,bI,bP,bR,bN,bH,bK,cb,hI⟩
  ·intro D a6 dg ii x6 gX h8 gW ia hO g5 hG g9 gZ gY g8 g7 g0 hY fD fE ev ex eD eq ez eE eC eF eA dM ch cr ct cD cH cF cE cG cB cC cX cI cJ cv cd cf ce bD bE w_
   rintro ⟨aB,aC,aA,aD,ax,aF,aE,aG,aI,aM,ah,aj,ar,aJ,aK,aL,aP,aO,aQ,aR,aU,aV,aY,aZ,a3,bJ,bM,bZ,bT,bO,bY,bX,bQ,bU,bL,b0,bV,bW,bS,bI,bP,bR,bN,bH,bK,cb,hI⟩
   obtain rfl:=aD dg
   obtain rfl:=ah ii
   refine ba dJ hi1 ?_
   exact ⟨aB,aC,aA,aD,ax,aF,aE,aG,aI,aM,ah,fun _=>rfl,ar,aJ,aK,aL,aP,aO,aQ,aR,aU,aV,aY,aZ,a3,bJ,bM,bZ,bT,bO,bY,bX,bQ,bU,bL,b0,bV,bW,bS,bI,bP,bR,bN,bH,bK,cb,hI⟩
  ·intro D a6 im x6 gX h8 gW ia hO g5 hG g9 gZ gY g8 g7 g0 hY fD fE ev ex eD eq ez eE eC eF eA dM ch cr ct cD cH cF cE cG cB cC cX cI cJ cv cd cf ce bD bE w_
   rintro ⟨aB,aC,aA,aD,ax,aF,aE,aG,aI,aM,ah,aj,ar,aJ,aK,aL,aP,aO,aQ,aR,aU,aV,aY,aZ,a3,bJ,bM,bZ,bT,bO,bY,bX,bQ,bU,bL,b0,bV,bW,bS,bI,bP,bR,bN,bH,bK,cb,hI⟩
   obtain rfl:=aj im
   refine eo tr ((hI.cellS hS).trans hv1) ?_
   exact ⟨aB,aC,aA,aD,ax,aF,aE,aG,aI,aM,ah,aj,fun _=>rfl,aJ,aK,aL,aP,aO,aQ,aR,aU,aV,aY,aZ,a3,bJ,bM,bZ,bT,bO,bY,bX,bQ,bU,bL,b0,bV,bW,bS,bI,bP,bR,bN,bH,bK,cb,hI⟩
  ·intro D a6 kf x6 gX h8 gW ia hO g5 hG g9 gZ gY g8 g7 g0 hY fD fE ev ex eD eq ez eE eC eF eA dM ch cr ct cD cH cF cE cG cB cC cX cI cJ cv cd cf ce bD bE w_
   rintro ⟨aB,aC,aA,aD,ax,aF,aE,aG,aI,aM,ah,aj,ar,aJ,aK,aL,aP,aO,aQ,aR,aU,aV,aY,aZ,a3,bJ,bM,bZ,bT,bO,bY,bX,bQ,bU,bL,b0,bV,bW,bS,bI,bP,bR,bN,bH,bK,cb,hI⟩
   obtain rfl:=ar kf
   refine jV eM gJ (IntWalk.i64_in _ (by omega)) ?_
   exact ⟨aB,aC,aA,aD,ax,aF,aE,aG,aI,aM,ah,aj,ar,fun _=>rfl,aK,aL,aP,aO,aQ,aR,aU,aV,aY,aZ,a3,bJ,bM,bZ,bT,bO,bY,bX,bQ,bU,bL,b0,bV,bW,bS,bI,bP,bR,bN,bH,bK,cb,hI⟩
  ·intro D a6 iw x6 gX h8 gW ia hO g5 hG g9 gZ gY g8 g7 g0 hY fD fE ev ex eD eq ez eE eC eF eA dM ch cr ct cD cH cF cE cG cB cC cX cI cJ cv cd cf ce bD bE w_
   rintro ⟨aB,aC,aA,aD,ax,aF,aE,aG,aI,aM,ah,aj,ar,aJ,aK,aL,aP,aO,aQ,aR,aU,aV,aY,aZ,a3,bJ,bM,bZ,bT,bO,bY,bX,bQ,bU,bL,b0,bV,bW,bS,bI,bP,bR,bN,bH,bK,cb,hI⟩
   obtain rfl:=aJ iw
   refine wv (by omega) ?_
   exact ⟨aB,aC,aA,aD,ax,aF,aE,aG,aI,aM,ah,aj,ar,aJ,fun _=>rfl,aL,aP,aO,aQ,aR,aU,aV,aY,aZ,a3,bJ,bM,bZ,bT,bO,bY,bX,bQ,bU,bL,b0,bV,bW,bS,bI,bP,bR,bN,bH,bK,cb,hI⟩
  ·intro D a6  x6 gX h8 gW ia hO g5 hG g9 gZ gY g8 g7 g0 hY fD fE ev ex eD eq ez eE eC eF eA dM ch cr ct cD cH cF cE cG cB cC cX cI cJ cv cd cf ce bD bE w_
   rintro ⟨aB,aC,aA,aD,ax,aF,aE,aG,aI,aM,ah,aj,ar,aJ,aK,aL,aP,aO,aQ,aR,aU,aV,aY,aZ,a3,bJ,bM,bZ,bT,bO,bY,bX,bQ,bU,bL,b0,bV,bW,bS,bI,bP,bR,bN,bH,bK,cb,hI⟩
   exact ⟨aB,aC,aA,aD,ax,aF,aE,aG,aI,aM,ah,aj,ar,aJ,aK,fun _=>rfl,aP,aO,aQ,aR,aU,aV,aY,aZ,a3,bJ,bM,bZ,bT,bO,bY,bX,bQ,bU,bL,b0,bV,bW,bS,bI,bP,bR,bN,bH,bK,cb,hI⟩
  ·intro D a6 sX x6 gX h8 gW ia hO g5 hG g9 gZ gY g8 g7 g0 hY fD fE ev ex eD eq ez eE eC eF eA dM ch cr ct cD cH cF cE cG cB cC cX cI cJ cv cd cf ce bD bE w_
   rintro ⟨aB,aC,aA,aD,ax,aF,aE,aG,aI,aM,ah,aj,ar,aJ,aK,aL,aP,aO,aQ,aR,aU,aV,aY,aZ,a3,bJ,bM,bZ,bT,bO,bY,bX,bQ,bU,bL,b0,bV,bW,bS,bI,bP,bR,bN,bH,bK,cb,hI⟩
   obtain rfl:=aL sX
   refine dh ?_
   exact ⟨aB,aC,aA,aD,ax,aF,aE,aG,aI,aM,ah,aj,ar,aJ,aK,aL,fun _=>rfl,aO,aQ,aR,aU,aV,aY,aZ,a3,bJ,bM,bZ,bT,bO,bY,bX,bQ,bU,bL,b0,bV,bW,bS,bI,bP,bR,bN,bH,bK,cb,hI⟩
  ·intro D a6 D5 x6 gX h8 gW ia hO g5 hG g9 gZ gY g8 g7 g0 hY fD fE ev ex eD eq ez eE eC eF eA dM ch cr ct cD cH cF cE cG cB cC cX cI cJ cv cd cf ce bD bE w_
   rintro ⟨aB,aC,aA,aD,ax,aF,aE,aG,aI,aM,ah,aj,ar,aJ,aK,aL,aP,aO,aQ,aR,aU,aV,aY,aZ,a3,bJ,bM,bZ,bT,bO,bY,bX,bQ,bU,bL,b0,bV,bW,bS,bI,bP,bR,bN,bH,bK,cb,hI⟩
   obtain rfl:=aP D5
   refine bo ew ?_
   exact ⟨aB,aC,aA,aD,ax,aF,aE,aG,aI,aM,ah,aj,ar,aJ,aK,aL,aP,fun _=>rfl,aQ,aR,aU,aV,aY,aZ,a3,bJ,bM,bZ,bT,bO,bY,bX,bQ,bU,bL,b0,bV,bW,bS,bI,bP,bR,bN,bH,bK,cb,hI⟩
  ·intro D a6 Ea x6 gX h8 gW ia hO g5 hG g9 gZ gY g8 g7 g0 hY fD fE ev ex eD eq ez eE eC eF eA dM ch cr ct cD cH cF cE cG cB cC cX cI cJ cv cd cf ce bD bE w_
   rintro ⟨aB,aC,aA,aD,ax,aF,aE,aG,aI,aM,ah,aj,ar,aJ,aK,aL,aP,aO,aQ,aR,aU,aV,aY,aZ,a3,bJ,bM,bZ,bT,bO,bY,bX,bQ,bU,bL,b0,bV,bW,bS,bI,bP,bR,bN,bH,bK,cb,hI⟩
   obtain rfl:=aO Ea
   refine bA hI 0 fK rfl rfl ?_
   exact ⟨aB,aC,aA,aD,ax,aF,aE,aG,aI,aM,ah,aj,ar,aJ,aK,aL,aP,aO,fun _=>rfl,aR,aU,aV,aY,aZ,a3,bJ,bM,bZ,bT,bO,bY,bX,bQ,bU,bL,b0,bV,bW,bS,bI,bP,bR,bN,bH,bK,cb,hI⟩
  ·intro D a6  x6 gX h8 gW ia hO g5 hG g9 gZ gY g8 g7 g0 hY fD fE ev ex eD eq ez eE eC eF eA dM ch cr ct cD cH cF cE cG cB cC cX cI cJ cv cd cf ce bD bE w_
   rintro ⟨aB,aC,aA,aD,ax,aF,aE,aG,aI,aM,ah,aj,ar,aJ,aK,aL,aP,aO,aQ,aR,aU,aV,aY,aZ,a3,bJ,bM,bZ,bT,bO,bY,bX,bQ,bU,bL,b0,bV,bW,bS,bI,bP,bR,bN,bH,bK,cb,hI⟩
   exact ⟨aB,aC,aA,aD,ax,aF,aE,aG,aI,aM,ah,aj,ar,aJ,aK,aL,aP,aO,aQ,fun _=>rfl,aU,aV,aY,aZ,a3,bJ,bM,bZ,bT,bO,bY,bX,bQ,bU,bL,b0,bV,bW,bS,bI,bP,bR,bN,bH,bK,cb,hI⟩
  ·intro D a6 fw x6 gX h8 gW ia hO g5 hG g9 gZ gY g8 g7 g0 hY fD fE ev ex eD eq ez eE eC eF eA dM ch cr ct cD cH cF cE cG cB cC cX cI cJ cv cd cf ce bD bE w_
   rintro ⟨aB,aC,aA,aD,ax,aF,aE,aG,aI,aM,ah,aj,ar,aJ,aK,aL,aP,aO,aQ,aR,aU,aV,aY,aZ,a3,bJ,bM,bZ,bT,bO,bY,bX,bQ,bU,bL,b0,bV,bW,bS,bI,bP,bR,bN,bH,bK,cb,hI⟩
   obtain rfl:=aR fw
   refine wv (by omega) ?_
   exact ⟨aB,aC,aA,aD,ax,aF,aE,aG,aI,aM,ah,aj,ar,aJ,aK,aL,aP,aO,aQ,aR,fun _=>rfl,aV,aY,aZ,a3,bJ,bM,bZ,bT,bO,bY,bX,bQ,bU,bL,b0,bV,bW,bS,bI,bP,bR,bN,bH,bK,cb,hI⟩
  ·intro D a6 uF x6 gX h8 gW ia hO g5 hG g9 gZ gY g8 g7 g0 hY fD fE ev ex eD eq ez eE eC eF eA dM ch cr ct cD cH cF cE cG cB cC cX cI cJ cv cd cf ce bD bE w_
   rintro ⟨aB,aC,aA,aD,ax,aF,aE,aG,aI,aM,ah,aj,ar,aJ,aK,aL,aP,aO,aQ,aR,aU,aV,aY,aZ,a3,bJ,bM,bZ,bT,bO,bY,bX,bQ,bU,bL,b0,bV,bW,bS,bI,bP,bR,bN,bH,bK,cb,hI⟩
   obtain rfl:=aU uF
   refine bC (by omega) ?_
   exact ⟨aB,aC,aA,aD,ax,aF,aE,aG,aI,aM,ah,aj,ar,aJ,aK,aL,aP,aO,aQ,aR,aU,fun _=>rfl,aY,aZ,a3,bJ,bM,bZ,bT,bO,bY,bX,bQ,bU,bL,b0,bV,bW,bS,bI,bP,bR,bN,bH,bK,cb,hI⟩
  ·intro D a6  x6 gX h8 gW ia hO g5 hG g9 gZ gY g8 g7 g0 hY fD fE ev ex eD eq ez eE eC eF eA dM ch cr ct cD cH cF cE cG cB cC cX cI cJ cv cd cf ce bD bE w_
   rintro ⟨aB,aC,aA,aD,ax,aF,aE,aG,aI,aM,ah,aj,ar,aJ,aK,aL,aP,aO,aQ,aR,aU,aV,aY,aZ,a3,bJ,bM,bZ,bT,bO,bY,bX,bQ,bU,bL,b0,bV,bW,bS,bI,bP,bR,bN,bH,bK,cb,hI⟩
   exact ⟨aB,aC,aA,aD,ax,aF,aE,aG,aI,aM,ah,aj,ar,aJ,aK,aL,aP,aO,aQ,aR,aU,aV,fun _=>rfl,aZ,a3,bJ,bM,bZ,bT,bO,bY,bX,bQ,bU,bL,b0,bV,bW,bS,bI,bP,bR,bN,bH,bK,cb,hI⟩
  ·intro D a6 GW x6 gX h8 gW ia hO g5 hG g9 gZ gY g8 g7 g0 hY fD fE ev ex eD eq ez eE eC eF eA dM ch cr ct cD cH cF cE cG cB cC cX cI cJ cv cd cf ce bD bE w_
   rintro ⟨aB,aC,aA,aD,ax,aF,aE,aG,aI,aM,ah,aj,ar,aJ,aK,aL,aP,aO,aQ,aR,aU,aV,aY,aZ,a3,bJ,bM,bZ,bT,bO,bY,bX,bQ,bU,bL,b0,bV,bW,bS,bI,bP,bR,bN,bH,bK,cb,hI⟩
   obtain rfl:=aY GW
   refine dh ?_
   exact ⟨aB,aC,aA,aD,ax,aF,aE,aG,aI,aM,ah,aj,ar,aJ,aK,aL,aP,aO,aQ,aR,aU,aV,aY,fun _=>rfl,a3,bJ,bM,bZ,bT,bO,bY,bX,bQ,bU,bL,b0,bV,bW,bS,bI,bP,bR,bN,bH,bK,cb,hI⟩
  ·intro D a6 Hd x6 gX h8 gW ia hO g5 hG g9 gZ gY g8 g7 g0 hY fD fE ev ex eD eq ez eE eC eF eA dM ch cr ct cD cH cF cE cG cB cC cX cI cJ cv cd cf ce bD bE w_
   rintro ⟨aB,aC,aA,aD,ax,aF,aE,aG,aI,aM,ah,aj,ar,aJ,aK,aL,aP,aO,aQ,aR,aU,aV,aY,aZ,a3,bJ,bM,bZ,bT,bO,bY,bX,bQ,bU,bL,b0,bV,bW,bS,bI,bP,bR,bN,bH,bK,cb,hI⟩
   obtain rfl:=aZ Hd
   refine bo ew ?_
   exact ⟨aB,aC,aA,aD,ax,aF,aE,aG,aI,aM,ah,aj,ar,aJ,aK,aL,aP,aO,aQ,aR,aU,aV,aY,aZ,fun _=>rfl,bJ,bM,bZ,bT,bO,bY,bX,bQ,bU,bL,b0,bV,bW,bS,bI,bP,bR,bN,bH,bK,cb,hI⟩
  ·intro D a6 GZ x6 gX h8 gW ia hO g5 hG g9 gZ gY g8 g7 g0 hY fD fE ev ex eD eq ez eE eC eF eA dM ch cr ct cD cH cF cE cG cB cC cX cI cJ cv cd cf ce bD bE w_
   rintro ⟨aB,aC,aA,aD,ax,aF,aE,aG,aI,aM,ah,aj,ar,aJ,aK,aL,aP,aO,aQ,aR,aU,aV,aY,aZ,a3,bJ,bM,bZ,bT,bO,bY,bX,bQ,bU,bL,b0,bV,bW,bS,bI,bP,bR,bN,bH,bK,cb,hI⟩
   obtain rfl:=a3 GZ
   refine bA hI 0 fK rfl rfl ?_
   exact ⟨aB,aC,aA,aD,ax,aF,aE,aG,aI,aM,ah,aj,ar,aJ,aK,aL,aP,aO,aQ,aR,aU,aV,aY,aZ,a3,fun _=>rfl,bM,bZ,bT,bO,bY,bX,bQ,bU,bL,b0,bV,bW,bS,bI,bP,bR,bN,bH,bK,cb,hI⟩
  ·intro D a6 GF x6 gX h8 gW ia hO g5 hG g9 gZ gY g8 g7 g0 hY fD fE ev ex eD eq ez eE eC eF eA dM ch cr ct cD cH cF cE cG cB cC cX cI cJ cv cd cf ce bD bE w_
   rintro ⟨aB,aC,aA,aD,ax,aF,aE,aG,aI,aM,ah,aj,ar,aJ,aK,aL,aP,aO,aQ,aR,aU,aV,aY,aZ,a3,bJ,bM,bZ,bT,bO,bY,bX,bQ,bU,bL,b0,bV,bW,bS,bI,bP,bR,bN,bH,bK,cb,hI⟩
   obtain rfl:=bJ GF
   refine fu dJ ?_
   exact ⟨aB,aC,aA,aD,ax,aF,aE,aG,aI,aM,ah,aj,ar,aJ,aK,aL,aP,aO,aQ,aR,aU,aV,aY,aZ,a3,bJ,fun _=>rfl,bZ,bT,bO,bY,bX,bQ,bU,bL,b0,bV,bW,bS,bI,bP,bR,bN,bH,bK,cb,hI⟩
  ·intro D a6 tG G8 x6 gX h8 gW ia hO g5 hG g9 gZ gY g8 g7 g0 hY fD fE ev ex eD eq ez eE eC eF eA dM ch cr ct cD cH cF cE cG cB cC cX cI cJ cv cd cf ce bD bE w_
   rintro ⟨aB,aC,aA,aD,ax,aF,aE,aG,aI,aM,ah,aj,ar,aJ,aK,aL,aP,aO,aQ,aR,aU,aV,aY,aZ,a3,bJ,bM,bZ,bT,bO,bY,bX,bQ,bU,bL,b0,bV,bW,bS,bI,bP,bR,bN,bH,bK,cb,hI⟩
   obtain rfl:=aV tG
   obtain rfl:=bM G8
   refine Bb (a:=p * 7+3) (b:=ys.length) (by omega) rfl h0 ?_; rw [<- hd2]
   exact ⟨aB,aC,aA,aD,ax,aF,aE,aG,aI,aM,ah,aj,ar,aJ,aK,aL,aP,aO,aQ,aR,aU,aV,aY,aZ,a3,bJ,bM,fun _=>rfl,bT,bO,bY,bX,bQ,bU,bL,b0,bV,bW,bS,bI,bP,bR,bN,bH,bK,cb,hI⟩
  ·intro D a6 un GP x6 gX h8 gW ia hO g5 hG g9 gZ gY g8 g7 g0 hY fD fE ev ex eD eq ez eE eC eF eA dM ch cr ct cD cH cF cE cG cB cC cX cI cJ cv cd cf ce bD bE w_
   rintro ⟨aB,aC,aA,aD,ax,aF,aE,aG,aI,aM,ah,aj,ar,aJ,aK,aL,aP,aO,aQ,aR,aU,aV,aY,aZ,a3,bJ,bM,bZ,bT,bO,bY,bX,bQ,bU,bL,b0,bV,bW,bS,bI,bP,bR,bN,bH,bK,cb,hI⟩
   obtain rfl:=aQ un
   obtain rfl:=bZ GP
   refine ba dJ hi2 ?_
   exact ⟨aB,aC,aA,aD,ax,aF,aE,aG,aI,aM,ah,aj,ar,aJ,aK,aL,aP,aO,aQ,aR,aU,aV,aY,aZ,a3,bJ,bM,bZ,fun _=>rfl,bO,bY,bX,bQ,bU,bL,b0,bV,bW,bS,bI,bP,bR,bN,bH,bK,cb,hI⟩
  ·intro D a6 Hk x6 gX h8 gW ia hO g5 hG g9 gZ gY g8 g7 g0 hY fD fE ev ex eD eq ez eE eC eF eA dM ch cr ct cD cH cF cE cG cB cC cX cI cJ cv cd cf ce bD bE w_
   rintro ⟨aB,aC,aA,aD,ax,aF,aE,aG,aI,aM,ah,aj,ar,aJ,aK,aL,aP,aO,aQ,aR,aU,aV,aY,aZ,a3,bJ,bM,bZ,bT,bO,bY,bX,bQ,bU,bL,b0,bV,bW,bS,bI,bP,bR,bN,bH,bK,cb,hI⟩
   obtain rfl:=bT Hk
   refine eo tr ((hI.cellS hS).trans hv2) ?_
   exact ⟨aB,aC,aA,aD,ax,aF,aE,aG,aI,aM,ah,aj,ar,aJ,aK,aL,aP,aO,aQ,aR,aU,aV,aY,aZ,a3,bJ,bM,bZ,bT,fun _=>rfl,bY,bX,bQ,bU,bL,b0,bV,bW,bS,bI,bP,bR,bN,bH,bK,cb,hI⟩
  ·intro D a6 G3 x6 gX h8 gW ia hO g5 hG g9 gZ gY g8 g7 g0 hY fD fE ev ex eD eq ez eE eC eF eA dM ch cr ct cD cH cF cE cG cB cC cX cI cJ cv cd cf ce bD bE w_
   rintro ⟨aB,aC,aA,aD,ax,aF,aE,aG,aI,aM,ah,aj,ar,aJ,aK,aL,aP,aO,aQ,aR,aU,aV,aY,aZ,a3,bJ,bM,bZ,bT,bO,bY,bX,bQ,bU,bL,b0,bV,bW,bS,bI,bP,bR,bN,bH,bK,cb,hI⟩
   obtain rfl:=bO G3
   refine jV eM gJ (IntWalk.i64_in _ (by omega)) ?_
   exact ⟨aB,aC,aA,aD,ax,aF,aE,aG,aI,aM,ah,aj,ar,aJ,aK,aL,aP,aO,aQ,aR,aU,aV,aY,aZ,a3,bJ,bM,bZ,bT,bO,fun _=>rfl,bX,bQ,bU,bL,b0,bV,bW,bS,bI,bP,bR,bN,bH,bK,cb,hI⟩
  ·intro D a6 Hc x6 gX h8 gW ia hO g5 hG g9 gZ gY g8 g7 g0 hY fD fE ev ex eD eq ez eE eC eF eA dM ch cr ct cD cH cF cE cG cB cC cX cI cJ cv cd cf ce bD bE w_
   rintro ⟨aB,aC,aA,aD,ax,aF,aE,aG,aI,aM,ah,aj,ar,aJ,aK,aL,aP,aO,aQ,aR,aU,aV,aY,aZ,a3,bJ,bM,bZ,bT,bO,bY,bX,bQ,bU,bL,b0,bV,bW,bS,bI,bP,bR,bN,bH,bK,cb,hI⟩
   obtain rfl:=bY Hc
   refine wv (by omega) ?_
   exact ⟨aB,aC,aA,aD,ax,aF,aE,aG,aI,aM,ah,aj,ar,aJ,aK,aL,aP,aO,aQ,aR,aU,aV,aY,aZ,a3,bJ,bM,bZ,bT,bO,bY,fun _=>rfl,bQ,bU,bL,b0,bV,bW,bS,bI,bP,bR,bN,bH,bK,cb,hI⟩
  ·intro D a6 zS Hl x6 gX h8 gW ia hO g5 hG g9 gZ gY g8 g7 g0 hY fD fE ev ex eD eq ez eE eC eF eA dM ch cr ct cD cH cF cE cG cB cC cX cI cJ cv cd cf ce bD bE w_
   rintro ⟨aB,aC,aA,aD,ax,aF,aE,aG,aI,aM,ah,aj,ar,aJ,aK,aL,aP,aO,aQ,aR,aU,aV,aY,aZ,a3,bJ,bM,bZ,bT,bO,bY,bX,bQ,bU,bL,b0,bV,bW,bS,bI,bP,bR,bN,bH,bK,cb,hI⟩
   obtain rfl:=aK zS
   obtain rfl:=bX Hl
   refine bC (by omega) ?_
   exact ⟨aB,aC,aA,aD,ax,aF,aE,aG,aI,aM,ah,aj,ar,aJ,aK,aL,aP,aO,aQ,aR,aU,aV,aY,aZ,a3,bJ,bM,bZ,bT,bO,bY,bX,fun _=>rfl,bU,bL,b0,bV,bW,bS,bI,bP,bR,bN,bH,bK,cb,hI⟩
  ·intro D a6  x6 gX h8 gW ia hO g5 hG g9 gZ gY g8 g7 g0 hY fD fE ev ex eD eq ez eE eC eF eA dM ch cr ct cD cH cF cE cG cB cC cX cI cJ cv cd cf ce bD bE w_
   rintro ⟨aB,aC,aA,aD,ax,aF,aE,aG,aI,aM,ah,aj,ar,aJ,aK,aL,aP,aO,aQ,aR,aU,aV,aY,aZ,a3,bJ,bM,bZ,bT,bO,bY,bX,bQ,bU,bL,b0,bV,bW,bS,bI,bP,bR,bN,bH,bK,cb,hI⟩
   exact ⟨aB,aC,aA,aD,ax,aF,aE,aG,aI,aM,ah,aj,ar,aJ,aK,aL,aP,aO,aQ,aR,aU,aV,aY,aZ,a3,bJ,bM,bZ,bT,bO,bY,bX,bQ,fun _=>rfl,bL,b0,bV,bW,bS,bI,bP,bR,bN,bH,bK,cb,hI⟩
  ·intro D a6 GT x6 gX h8 gW ia hO g5 hG g9 gZ gY g8 g7 g0 hY fD fE ev ex eD eq ez eE eC eF eA dM ch cr ct cD cH cF cE cG cB cC cX cI cJ cv cd cf ce bD bE w_
   rintro ⟨aB,aC,aA,aD,ax,aF,aE,aG,aI,aM,ah,aj,ar,aJ,aK,aL,aP,aO,aQ,aR,aU,aV,aY,aZ,a3,bJ,bM,bZ,bT,bO,bY,bX,bQ,bU,bL,b0,bV,bW,bS,bI,bP,bR,bN,bH,bK,cb,hI⟩
   obtain rfl:=bU GT
   refine wv (by omega) ?_
   exact ⟨aB,aC,aA,aD,ax,aF,aE,aG,aI,aM,ah,aj,ar,aJ,aK,aL,aP,aO,aQ,aR,aU,aV,aY,aZ,a3,bJ,bM,bZ,bT,bO,bY,bX,bQ,bU,fun _=>rfl,b0,bV,bW,bS,bI,bP,bR,bN,bH,bK,cb,hI⟩
  ·intro D a6 GG G5 x6 gX h8 gW ia hO g5 hG g9 gZ gY g8 g7 g0 hY fD fE ev ex eD eq ez eE eC eF eA dM ch cr ct cD cH cF cE cG cB cC cX cI cJ cv cd cf ce bD bE w_
   rintro ⟨aB,aC,aA,aD,ax,aF,aE,aG,aI,aM,ah,aj,ar,aJ,aK,aL,aP,aO,aQ,aR,aU,aV,aY,aZ,a3,bJ,bM,bZ,bT,bO,bY,bX,bQ,bU,bL,b0,bV,bW,bS,bI,bP,bR,bN,bH,bK,cb,hI⟩
   obtain rfl:=bQ GG
   obtain rfl:=bL G5
   refine bC (by omega) ?_
   exact ⟨aB,aC,aA,aD,ax,aF,aE,aG,aI,aM,ah,aj,ar,aJ,aK,aL,aP,aO,aQ,aR,aU,aV,aY,aZ,a3,bJ,bM,bZ,bT,bO,bY,bX,bQ,bU,bL,fun _=>rfl,bV,bW,bS,bI,bP,bR,bN,bH,bK,cb,hI⟩
  ·intro D a6  x6 gX h8 gW ia hO g5 hG g9 gZ gY g8 g7 g0 hY fD fE ev ex eD eq ez eE eC eF eA dM ch cr ct cD cH cF cE cG cB cC cX cI cJ cv cd cf ce bD bE w_
   rintro ⟨aB,aC,aA,aD,ax,aF,aE,aG,aI,aM,ah,aj,ar,aJ,aK,aL,aP,aO,aQ,aR,aU,aV,aY,aZ,a3,bJ,bM,bZ,bT,bO,bY,bX,bQ,bU,bL,b0,bV,bW,bS,bI,bP,bR,bN,bH,bK,cb,hI⟩
   exact ⟨aB,aC,aA,aD,ax,aF,aE,aG,aI,aM,ah,aj,ar,aJ,aK,aL,aP,aO,aQ,aR,aU,aV,aY,aZ,a3,bJ,bM,bZ,bT,bO,bY,bX,bQ,bU,bL,b0,fun _=>rfl,bW,bS,bI,bP,bR,bN,bH,bK,cb,hI⟩
  ·intro D a6  x6 gX h8 gW ia hO g5 hG g9 gZ gY g8 g7 g0 hY fD fE ev ex eD eq ez eE eC eF eA dM ch cr ct cD cH cF cE cG cB cC cX cI cJ cv cd cf ce bD bE w_
   rintro ⟨aB,aC,aA,aD,ax,aF,aE,aG,aI,aM,ah,aj,ar,aJ,aK,aL,aP,aO,aQ,aR,aU,aV,aY,aZ,a3,bJ,bM,bZ,bT,bO,bY,bX,bQ,bU,bL,b0,bV,bW,bS,bI,bP,bR,bN,bH,bK,cb,hI⟩
   exact ⟨aB,aC,aA,aD,ax,aF,aE,aG,aI,aM,ah,aj,ar,aJ,aK,aL,aP,aO,aQ,aR,aU,aV,aY,aZ,a3,bJ,bM,bZ,bT,bO,bY,bX,bQ,bU,bL,b0,bV,fun _=>rfl,bS,bI,bP,bR,bN,bH,bK,cb,hI⟩
  ·intro D a6 GX x6 gX h8 gW ia hO g5 hG g9 gZ gY g8 g7 g0 hY fD fE ev ex eD eq ez eE eC eF eA dM ch cr ct cD cH cF cE cG cB cC cX cI cJ cv cd cf ce bD bE w_
   rintro ⟨aB,aC,aA,aD,ax,aF,aE,aG,aI,aM,ah,aj,ar,aJ,aK,aL,aP,aO,aQ,aR,aU,aV,aY,aZ,a3,bJ,bM,bZ,bT,bO,bY,bX,bQ,bU,bL,b0,bV,bW,bS,bI,bP,bR,bN,bH,bK,cb,hI⟩
   obtain rfl:=bW GX
   refine dh ?_
   exact ⟨aB,aC,aA,aD,ax,aF,aE,aG,aI,aM,ah,aj,ar,aJ,aK,aL,aP,aO,aQ,aR,aU,aV,aY,aZ,a3,bJ,bM,bZ,bT,bO,bY,bX,bQ,bU,bL,b0,bV,bW,fun _=>rfl,bI,bP,bR,bN,bH,bK,cb,hI⟩
  ·intro D a6 GM x6 gX h8 gW ia hO g5 hG g9 gZ gY g8 g7 g0 hY fD fE ev ex eD eq ez eE eC eF eA dM ch cr ct cD cH cF cE cG cB cC cX cI cJ cv cd cf ce bD bE w_
   rintro ⟨aB,aC,aA,aD,ax,aF,aE,aG,aI,aM,ah,aj,ar,aJ,aK,aL,aP,aO,aQ,aR,aU,aV,aY,aZ,a3,bJ,bM,bZ,bT,bO,bY,bX,bQ,bU,bL,b0,bV,bW,bS,bI,bP,bR,bN,bH,bK,cb,hI⟩
   obtain rfl:=bS GM
   refine bo ew ?_
   exact ⟨aB,aC,aA,aD,ax,aF,aE,aG,aI,aM,ah,aj,ar,aJ,aK,aL,aP,aO,aQ,aR,aU,aV,aY,aZ,a3,bJ,bM,bZ,bT,bO,bY,bX,bQ,bU,bL,b0,bV,bW,bS,fun _=>rfl,bP,bR,bN,bH,bK,cb,hI⟩
  ·intro D a6 G1 x6 gX h8 gW ia hO g5 hG g9 gZ gY g8 g7 g0 hY fD fE ev ex eD eq ez eE eC eF eA dM ch cr ct cD cH cF cE cG cB cC cX cI cJ cv cd cf ce bD bE w_
   rintro ⟨aB,aC,aA,aD,ax,aF,aE,aG,aI,aM,ah,aj,ar,aJ,aK,aL,aP,aO,aQ,aR,aU,aV,aY,aZ,a3,bJ,bM,bZ,bT,bO,bY,bX,bQ,bU,bL,b0,bV,bW,bS,bI,bP,bR,bN,bH,bK,cb,hI⟩
   obtain rfl:=bI G1
   refine bA hI 0 fK rfl rfl ?_
   exact ⟨aB,aC,aA,aD,ax,aF,aE,aG,aI,aM,ah,aj,ar,aJ,aK,aL,aP,aO,aQ,aR,aU,aV,aY,aZ,a3,bJ,bM,bZ,bT,bO,bY,bX,bQ,bU,bL,b0,bV,bW,bS,bI,fun _=>rfl,bR,bN,bH,bK,cb,hI⟩
  ·intro D a6 GR x6 gX h8 gW ia hO g5 hG g9 gZ gY g8 g7 g0 hY fD fE ev ex eD eq ez eE eC eF eA dM ch cr ct cD cH cF cE cG cB cC cX cI cJ cv cd cf ce bD bE w_
   rintro ⟨aB,aC,aA,aD,ax,aF,aE,aG,aI,aM,ah,aj,ar,aJ,aK,aL,aP,aO,aQ,aR,aU,aV,aY,aZ,a3,bJ,bM,bZ,bT,bO,bY,bX,bQ,bU,bL,b0,bV,bW,bS,bI,bP,bR,bN,bH,bK,cb,hI⟩
   obtain rfl:=bP GR
   refine fu dJ ?_
   exact ⟨aB,aC,aA,aD,ax,aF,aE,aG,aI,aM,ah,aj,ar,aJ,aK,aL,aP,aO,aQ,aR,aU,aV,aY,aZ,a3,bJ,bM,bZ,bT,bO,bY,bX,bQ,bU,bL,b0,bV,bW,bS,bI,bP,fun _=>rfl,bN,bH,bK,cb,hI⟩
  ·intro D a6 GL G4 x6 gX h8 gW ia hO g5 hG g9 gZ gY g8 g7 g0 hY fD fE ev ex eD eq ez eE eC eF eA dM ch cr ct cD cH cF cE cG cB cC cX cI cJ cv cd cf ce bD bE w_
   rintro ⟨aB,aC,aA,aD,ax,aF,aE,aG,aI,aM,ah,aj,ar,aJ,aK,aL,aP,aO,aQ,aR,aU,aV,aY,aZ,a3,bJ,bM,bZ,bT,bO,bY,bX,bQ,bU,bL,b0,bV,bW,bS,bI,bP,bR,bN,bH,bK,cb,hI⟩
   obtain rfl:=bV GL
   obtain rfl:=bR G4
   refine BD (a:=p) (b:=ys.length) rfl rfl h0 (by omega) ?_; rw [<- hdq]
   exact ⟨aB,aC,aA,aD,ax,aF,aE,aG,aI,aM,ah,aj,ar,aJ,aK,aL,aP,aO,aQ,aR,aU,aV,aY,aZ,a3,bJ,bM,bZ,bT,bO,bY,bX,bQ,bU,bL,b0,bV,bW,bS,bI,bP,bR,fun _=>rfl,bH,bK,cb,hI⟩
  ·intro D a6 GY x6 gX h8 gW ia hO g5 hG g9 gZ gY g8 g7 g0 hY fD fE ev ex eD eq ez eE eC eF eA dM ch cr ct cD cH cF cE cG cB cC cX cI cJ cv cd cf ce bD bE w_
   rintro ⟨aB,aC,aA,aD,ax,aF,aE,aG,aI,aM,ah,aj,ar,aJ,aK,aL,aP,aO,aQ,aR,aU,aV,aY,aZ,a3,bJ,bM,bZ,bT,bO,bY,bX,bQ,bU,bL,b0,bV,bW,bS,bI,bP,bR,bN,bH,bK,cb,hI⟩
   obtain rfl:=bN GY
   refine wv (by omega) ?_
   exact ⟨aB,aC,aA,aD,ax,aF,aE,aG,aI,aM,ah,aj,ar,aJ,aK,aL,aP,aO,aQ,aR,aU,aV,aY,aZ,a3,bJ,bM,bZ,bT,bO,bY,bX,bQ,bU,bL,b0,bV,bW,bS,bI,bP,bR,bN,fun _=>rfl,bK,cb,hI⟩
  ·intro D a6 GI G9 x6 gX h8 gW ia hO g5 hG g9 gZ gY g8 g7 g0 hY fD fE ev ex eD eq ez eE eC eF eA dM ch cr ct cD cH cF cE cG cB cC cX cI cJ cv cd cf ce bD bE w_
   rintro ⟨aB,aC,aA,aD,ax,aF,aE,aG,aI,aM,ah,aj,ar,aJ,aK,aL,aP,aO,aQ,aR,aU,aV,aY,aZ,a3,bJ,bM,bZ,bT,bO,bY,bX,bQ,bU,bL,b0,bV,bW,bS,bI,bP,bR,bN,bH,bK,cb,hI⟩
   obtain rfl:=b0 GI
   obtain rfl:=bH G9
   refine bC (by omega) ?_
   exact ⟨aB,aC,aA,aD,ax,aF,aE,aG,aI,aM,ah,aj,ar,aJ,aK,aL,aP,aO,aQ,aR,aU,aV,aY,aZ,a3,bJ,bM,bZ,bT,bO,bY,bX,bQ,bU,bL,b0,bV,bW,bS,bI,bP,bR,bN,bH,fun _=>rfl,cb,hI⟩
  ·intro D a6 GE IA IF IC IH IK IL IG IB II Iu HN Hp Ii Ij HT Ic Ib Hx Hq Ht Ig Is HC HS Hy Il HG Ho Hz Hu Hn H4 HB In Ip HA Id H5 HM HP Ir Ik Hr H8 Hw x6 gX h8 gW ia hO g5 hG g9 gZ gY g8 g7 g0 hY fD fE ev ex eD eq ez eE eC eF eA dM ch cr ct cD cH cF cE cG cB cC cX cI cJ cv cd cf ce bD bE w_
   rintro ⟨aB,aC,aA,aD,ax,aF,aE,aG,aI,aM,ah,aj,ar,aJ,aK,aL,aP,aO,aQ,aR,aU,aV,aY,aZ,a3,bJ,bM,bZ,bT,bO,bY,bX,bQ,bU,bL,b0,bV,bW,bS,bI,bP,bR,bN,bH,bK,cb,hI⟩
   obtain rfl:=bK GE
   exact ⟨aB,aC,aA,aD,ax,aF,aE,aG,aI,aM,ah,aj,ar,aJ,aK,aL,aP,aO,aQ,aR,aU,aV,aY,aZ,a3,bJ,bM,bZ,bT,bO,bY,bX,bQ,bU,bL,b0,bV,bW,bS,bI,bP,bR,bN,bH,bK,fun _=>rfl,hI⟩
  intro D Im HX Ih Ie H3 HZ HH HL HE H2 H9 Hm Iq HI H1 HY Ia HU Io H0 HD Br Cm A6 xi ye xG uQ sU sR oI pe qu i5 eR eX jG io gc gp f1 fL fJ fP fN fO x6 gX h8 gW ia hO g5 hG g9 gZ gY g8 g7 g0 hY fD fE ev ex eD eq ez eE eC eF eA dM ch cr ct cD cH cF cE cG cB cC cX cI cJ cv cd cf ce bD bE w_
  rintro ⟨aB,aC,aA,aD,ax,aF,aE,aG,aI,aM,ah,aj,ar,aJ,aK,aL,aP,aO,aQ,aR,aU,aV,aY,aZ,a3,bJ,bM,bZ,bT,bO,bY,bX,bQ,bU,bL,b0,bV,bW,bS,bI,bP,bR,bN,bH,bK,cb,hI⟩
  obtain rfl:=cb Im
  obtain rfl:=bK HX
  obtain rfl:=bH Ih
  obtain rfl:=bN Ie
  obtain rfl:=bR H3
  obtain rfl:=bP HZ
  obtain rfl:=bI HH
  obtain rfl:=bS HL
  obtain rfl:=bW HE
  obtain rfl:=bV H2
  obtain rfl:=b0 H9
  obtain rfl:=bL Hm
  obtain rfl:=bU Iq
  obtain rfl:=bQ HI
  obtain rfl:=bX H1
  obtain rfl:=bY HY
  obtain rfl:=bO Ia
  obtain rfl:=bT HU
  obtain rfl:=bZ Io
  obtain rfl:=bM H0
  obtain rfl:=bJ HD
  obtain rfl:=a3 Br
  obtain rfl:=aZ Cm
  obtain rfl:=aY A6
  obtain rfl:=aV xi
  obtain rfl:=aU ye
  obtain rfl:=aR xG
  obtain rfl:=aQ uQ
  obtain rfl:=aO sU
  obtain rfl:=aP sR
  obtain rfl:=aL oI
  obtain rfl:=aK pe
  obtain rfl:=aJ qu
  obtain rfl:=ar i5
  obtain rfl:=aj eR
  obtain rfl:=ah eX
  obtain rfl:=aM jG
  obtain rfl:=aI io
  obtain rfl:=aG gc
  obtain rfl:=aE gp
  obtain rfl:=aF f1
  obtain rfl:=ax fL
  obtain rfl:=aD fJ
  obtain rfl:=aA fP
  obtain rfl:=aC fN
  obtain rfl:=aB fO
  clear aB aC aA aD ax aF aE aG aI aM ah aj ar aJ aK aL aP aO aQ aR aU aV aY aZ a3 bJ bM bZ bT bO bY bX bQ bU bL b0 bV bW bS bI bP bR bN bH bK cb
  obtain ⟨x,hx⟩:∃ x:Nat,((((((y1:Nat):Int) * 131)+(((y2:Nat):Int) * 1117))+((p:Int) * 29))+(((q:Nat):Int) * 53))=(x:Int):=⟨(((((((y1:Nat):Int) * 131)+(((y2:Nat):Int) * 1117))+((p:Int) * 29))+(((q:Nat):Int) * 53))).toNat,by omega⟩
  have hx2:x<=10000000000000000:=by omega
  rw [hx]
  refine BD (a:=x) (b:=64) rfl rfl (by omega) (by omega) ?_
  refine Gk (a:=x) (b:=x / 64) rfl rfl (by omega) (by omega) ?_
  refine A1 hn ?_
  exact ⟨_,_,_,rfl,hI,Ext.refl _ _ _,rfl,rfl,_,Nat.mod_lt _ hn,rfl⟩
theorem wU {ys:List Nat} {ns:List Int} {S:av} {sl v:Value} {br p:Nat} (h:RdSl S 1 kF sl ys) (hv:RdSl S 1 CR v ns) (h0:0<ns.length) (hp:p<=1000000000000) :
  Tri Tryz.prog u1 [rdP br,v] [rdI br sl p] S fun r I' S'=>S'=S/\I'=[rdI br sl (p+1)]/\∃ n∈ns,r=.int .i64 n:=by
 intro w hI
 refine pm ?_
 unfold ld
 refine a9 hv iR ?_
 refine Run.call (A:=[]) dD dB hI (fH h hp h0) fun v' I' S' w'=>?_
 rintro ⟨rfl,rfl,k,hk,rfl⟩ _ hI
 obtain ⟨b,o,cap,c,E,fz,rfl,hS,hR⟩:=hv.at_ hk
 refine ba iR hk ?_
 refine eo bj ((hI.cellS hS).trans (be hR 0 _ rfl)) ?_
 exact ⟨_,_,_,rfl,hI,Ext.refl _ _ _,rfl,rfl,_,List.getElem_mem hk,rfl⟩
theorem D7 {ys:List Nat} {ns:List ByteArray} {S:av} {sl v:Value} {br p:Nat} (h:RdSl S 1 kF sl ys) (hv:RdSl S 1 mC v ns) (h0:0<ns.length) (hp:p<=1000000000000) :
  Tri Tryz.prog ym [rdP br,v] [rdI br sl p] S fun r I' S'=>S'=S/\I'=[rdI br sl (p+1)]/\∃ n∈ns,r=.string n:=by
 intro w hI
 refine qy ?_
 unfold mK
 refine a9 hv cg ?_
 refine Run.call (A:=[]) dD dB hI (fH h hp h0) fun v' I' S' w'=>?_
 rintro ⟨rfl,rfl,k,hk,rfl⟩ _ hI
 obtain ⟨b,o,cap,c,E,fz,rfl,hS,hR⟩:=hv.at_ hk
 refine ba cg hk ?_
 refine eo bi ((hI.cellS hS).trans (be hR 0 _ rfl)) ?_
 exact ⟨_,_,_,rfl,hI,Ext.refl _ _ _,rfl,rfl,_,List.getElem_mem hk,rfl⟩
theorem AR {ys:List Nat} {S:av} {v:Value} (h:RdSl S 1 kF v ys) :
  Tri Tryz.prog zf [v] [] S fun r I' S'=>S'=S/\∃ br sl ys',r=rdP br/\I'=[rdI br sl 0]/\RdSl S 1 kF sl ys':=by
 intro w hI
 refine rZ ?_
 unfold oD
 refine ⟨fun t w'=>(∃ ys',RdSl S 1 kF t ys')/\Inv w [] [] S w',?_,?_⟩
 ·refine a9 h dJ ?_
  refine dS ?_
  refine bp (fun hgt=>?_) (fun _=>⟨⟨_,h⟩,hI⟩)
  obtain ⟨a,cap,rfl,hl,hc,hh⟩:=id h
  refine A4 (h:=2000) dJ (by omega) ?_
  exact ⟨⟨_,RdSl.to h (by omega)⟩,hI⟩
 intro t0 _ _ _ _ _ w'
 rintro ⟨⟨ys',hr⟩,hI⟩
 obtain ⟨a,cap,rfl,_⟩:=id hr
 refine Run.of (v:=.agg #[.slice a ys'.length cap,.int .i64 0]) (w':=w') ?_ ?_
 ·unfold cK
  rw [Sem.run_bind,run_build w' z2 _ #[.slice a ys'.length cap,.int .i64 0] (by kernel_rfl),Result.andThen_ok]
  rfl
 refine ca hI fun br w' hI=>?_
 exact ⟨_,_,_,rfl,hI,Ext.refl _ _ _,rfl,br,_,ys',rfl,rfl,hr⟩
end
end Go.Proofs.YtemmhhdnlbmicaaGreat

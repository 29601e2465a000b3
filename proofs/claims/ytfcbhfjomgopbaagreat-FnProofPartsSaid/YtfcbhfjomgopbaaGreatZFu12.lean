/- The source of random numbers: spec.l18Open, pick, of, num. (printed by gen_rd.py) -/
import Derived.Test.YtfcbhfjomgopbaaGreatZFu9
namespace Go.Proofs.YtfcbhfjomgopbaaGreat
open Go Go.RowKit

def iR (cs:List Value) (n:Nat):Prop:=cs=[.int .u8 (n:Int)]/\n<256
abbrev rdI (br:Nat) (sl:Value) (p:Nat):Item:=.blk br (.cells #[sl,.int .i64 (p:Int)] Jf)
abbrev rdP (br:Nat):Value:=.pointer (some ⟨br,0,none⟩)
section
variable {P:Program} {w:World} {K:Value->World->Prop}
theorem MD {T:TypeId} {cx cy:Bool} {x y:Int} {a b:Nat} (hx:x=a) (hy:y=b) (hb:0<b) (hk:K (.int .i64 ((a % b:Nat):Int)) w):Run P (cS .rem T cx cy (.int .i64 x) (.int .i64 y)) w K:=by
 subst hx hy
 exact Lk hb hk
theorem K0 {T:TypeId} {cx cy:Bool} {x y:Int} {a b:Nat} (hx:x=a) (hy:y=b) (hb:0<b) (ha:a<=9223372036854775807) (hk:K (.int .i64 ((a / b:Nat):Int)) w):Run P (cS .quo T cx cy (.int .i64 x) (.int .i64 y)) w K:=by
 subst hx hy
 exact RX hb ha hk
theorem R1 {T:TypeId} {cx cy:Bool} {x y:Int} {a b:Nat} (hx:x=a) (hy:y=b) (ha:a<4611686018427387904) (hb:b<4611686018427387904) (hk:K (.int .i64 ((a ^^^ b:Nat):Int)) w):Run P (cS .xor T cx cy (.int .i64 x) (.int .i64 y)) w K:=by
 subst hx hy
 exact Sg ha hb hk
end
theorem RdSl.u8 {S:ae} {sl:Value} {ys:List Nat} (h:RdSl S 1 iR sl ys) (h0:0<ys.length):∃ b o cap c E fz,sl=.slice (some ⟨b,o,none⟩) ys.length cap/\S b=some (.cells c E fz)/\
  ∀ i,i<ys.length->∃ y:Nat,c[o+i * 1]?=some (.int .u8 (y:Int))/\y<256:=by
 obtain ⟨a,cap,rfl,hl,hc,h⟩:=h
 rcases h with rfl|⟨b,o,c,E,fz,rfl,hS,hR⟩
 ·simp at h0
 ·refine ⟨b,o,cap,c,E,fz,rfl,hS,fun i hi=>?_⟩
  obtain ⟨h1,h2⟩:=hR i hi
  exact ⟨ys[i],au h1 0 _ rfl,h2⟩
section
attribute [local irreducible] Run CondV aB aS
abbrev TR (S:ae) (br:Nat) (sl:Value) (p n:Nat):Value->List Item->ae->Prop:=fun v I' S'=>S'=S/\I'=[rdI br sl (p+1)]/\∃ k:Nat,k<n/\v=.int .i64 (k:Int)
theorem cY {ys:List Nat} {S:ae} {sl:Value} {br p n:Nat} (h:RdSl S 1 iR sl ys) (hp:p<=1000000000000) (hn:0<n):Tri Tryz.prog Cv [rdP br,.int .i64 (n:Int)] [rdI br sl p] S (TR S br sl p n):=by
 intro w hI
 refine pr.2 ?_
 dsimp only[pr,aW]
 obtain ⟨X,hX⟩:∃ X,X=bC [rdI br sl p]:=⟨_,rfl⟩
 rw [<- hX] at hI ⊢
 have hsl:∃ a m cap,sl=.slice a m cap/\m=ys.length:=by
  obtain ⟨a,cap,e,_⟩:=h
  exact ⟨a,_,cap,e,rfl⟩
 refine bF ?_
 refine ai ro ?_
 refine aA hI 0 av rfl rfl ?_
 refine bl (by omega) ?_
 refine bF ?_
 refine ai ro ?_
 refine dA hI 0 (n:=1) rfl (by decide +kernel) rfl (by simp) (by simp [Value.cells,Value.oneCell']) fun w' hI=>?_
 have hI:Inv w X [rdI br sl (p+1)] S w':=hI
 have hN:∃ N:Nat,N=ys.length:=⟨_,rfl⟩
 refine ⟨fun t w'=>t=.bool (decide (ys.length=0))/\Inv w X [rdI br sl (p+1)] S w',?_,?_⟩
 ·refine eO (by omega) ?_
  refine Lu (fun _=>?_) (fun hb=>by simp at hb)
  refine bF ?_
  refine ai fq ?_
  refine aA hI 0 g6 rfl rfl ?_
  refine aC h dN ?_
  refine aZ ?_
  refine uj ?_
  refine ⟨?_,hI⟩
  simp
 intro t24 _ _ _ _ _ _ _ _ _ w'
 rintro ⟨rfl,hI⟩
 refine aI (fun _=>⟨_,_,_,rfl,hI,Ext.refl _ _ _,rfl,rfl,0,hn,rfl⟩) (fun h0=>?_)
 have h0:0<ys.length:=by omega
 obtain ⟨b,o,cap,c,E,fz,rfl,hS,hc⟩:=h.u8 h0
 refine bF ?_
 refine ai ro ?_
 refine aA hI 0 av rfl rfl ?_
 refine hK (by omega) ?_
 have ep:((p+1:Nat):Int) - 1=(p:Int):=by omega
 rw [ep]
 refine bF ?_
 refine ai fq ?_
 refine aA hI 0 g6 rfl rfl ?_
 refine dK dN ?_
 refine bq ?_
 refine aI (fun hlt=>?_) (fun _=>?_)
 ·have hlt':p<ys.length:=by omega
  obtain ⟨y,hy,hy2⟩:=hc p hlt'
  refine bF ?_
  refine ai fq ?_
  refine aA hI 0 g6 rfl rfl ?_
  refine ar dN hlt' ?_
  refine ce BX ((hI.cellS hS).trans hy) ?_
  refine qT ge fj (IntWalk.i64_in _ (by omega)) ?_
  refine Lk hn ?_
  exact ⟨_,_,_,rfl,hI,Ext.refl _ _ _,rfl,rfl,y % n,Nat.mod_lt _ hn,rfl⟩
 ·obtain ⟨i1,hd1⟩:∃ i1,i1=p % ys.length:=⟨_,rfl⟩
  obtain ⟨i2,hd2⟩:∃ i2,i2=(p * 7+3) % ys.length:=⟨_,rfl⟩
  obtain ⟨q,hdq⟩:∃ q,q=p / ys.length:=⟨_,rfl⟩
  have hi1:i1<ys.length:=by rw [hd1]; exact Nat.mod_lt _ h0
  have hi2:i2<ys.length:=by rw [hd2]; exact Nat.mod_lt _ h0
  have hq:q<=p:=by rw [hdq]; exact Nat.div_le_self ..
  obtain ⟨y1,hv1,hy1⟩:=hc i1 hi1
  obtain ⟨y2,hv2,hy2⟩:=hc i2 hi2
  skip
  refine ⟨fun D x6 Dj CO um sj un tV vE uq wh y5 yi y7 zc uY pM zr Bc A5 Dp CD Bn Bb AU Is OE OB FZ EP yd yc yQ xL yr wS si tJ rJ ti pD kX rR s3 sO rp jL w_=>Fx D 0 [jL=.pointer (some ⟨br,0,none⟩),rp=.pointer (some ⟨br,0,none⟩),sO=.pointer (some ⟨br,0,none⟩),s3=.slice (some ⟨b,o,none⟩) ys.length cap,rR=.int .i64 (p:Int),kX=.pointer (some ⟨br,0,none⟩),pD=.pointer (some ⟨br,0,none⟩),ti=.pointer (some ⟨br,0,none⟩),rJ=.slice (some ⟨b,o,none⟩) ys.length cap,tJ=.int .i64 (ys.length:Int),si=.int .i64 (((i1:Nat):Int)),wS=.pointer (some ⟨b,o+i1 * 1,none⟩),yr=.int .u8 ((y1:Nat):Int),xL=.int .i64 (((y1:Nat):Int)),yQ=.int .i64 ((((y1:Nat):Int) * 131)),yc=.pointer (some ⟨br,0,none⟩),yd=.pointer (some ⟨br,0,none⟩),EP=.pointer (some ⟨br,0,none⟩),FZ=.slice (some ⟨b,o,none⟩) ys.length cap,OB=.int .i64 (p:Int),OE=.int .i64 (((p:Int) * 7)),Is=.int .i64 ((((p:Int) * 7)+3)),AU=.pointer (some ⟨br,0,none⟩),Bb=.pointer (some ⟨br,0,none⟩),Bn=.pointer (some ⟨br,0,none⟩),CD=.slice (some ⟨b,o,none⟩) ys.length cap,Dp=.int .i64 (ys.length:Int),A5=.int .i64 (((i2:Nat):Int)),Bc=.pointer (some ⟨b,o+i2 * 1,none⟩),zr=.int .u8 ((y2:Nat):Int),pM=.int .i64 (((y2:Nat):Int)),uY=.int .i64 ((((y2:Nat):Int) * 1117)),zc=.int .i64 (((((y1:Nat):Int) * 131)+(((y2:Nat):Int) * 1117))),y7=.int .i64 (p:Int),yi=.int .i64 (((p:Int) * 29)),y5=.int .i64 ((((((y1:Nat):Int) * 131)+(((y2:Nat):Int) * 1117))+((p:Int) * 29))),wh=.int .i64 (p:Int),uq=.pointer (some ⟨br,0,none⟩),vE=.pointer (some ⟨br,0,none⟩),tV=.pointer (some ⟨br,0,none⟩),un=.slice (some ⟨b,o,none⟩) ys.length cap,sj=.int .i64 (ys.length:Int),um=.int .i64 (((q:Nat):Int)),CO=.int .i64 ((((q:Nat):Int) * 53)),Dj=.int .i64 (((((((y1:Nat):Int) * 131)+(((y2:Nat):Int) * 1117))+((p:Int) * 29))+(((q:Nat):Int) * 53))),x6=.int .i64 (((((((y1:Nat):Int) * 131)+(((y2:Nat):Int) * 1117))+((p:Int) * 29))+(((q:Nat):Int) * 53)))]/\Inv w X [rdI br (.slice (some ⟨b,o,none⟩) ys.length cap) (p+1)] S w_,⟨Fx.nil _ _,hI.draw⟩,⟨?_,?_,?_,?_,?_,?_,?_,?_,?_,?_,?_,?_,?_,?_,?_,?_,?_,?_,?_,?_,?_,?_,?_,?_,?_,?_,?_,?_,?_,?_,?_,?_,?_,?_,?_,?_,?_,?_,?_,?_,?_,?_,?_,?_,?_,?_,trivial⟩,?_⟩
  all_goals (intro D bn; intros; rename_i x6 Dj CO um sj un tV vE uq wh y5 yi y7 zc uY pM zr Bc A5 Dp CD Bn Bb AU Is OE OB FZ EP yd yc yQ xL yr wS si tJ rJ ti pD kX rR s3 sO rp jL w_ hA_; have hF_:=hA_.1; obtain ⟨⟨bR,bQ,bG,bS,bU,bB,bD,cq,ci,cL,bH,bT,cH,de,cB,dk,dw,dH,eE,dS,fl,iz,mY,qY,J6,Ue,Uk,Ug,TB,Td,Ty,Tp,TJ,Ta,Uc,Ts,TW,Um,Ui,TY,Ti,Tw,TD,Uf,SZ,Uu,_⟩,hI⟩:=hA_)
  ·exact ⟨hF_.set 0 rfl,hI⟩
  ·obtain rfl:=bR ‹_›
   refine bF ?_
   exact ⟨hF_.set 1 rfl,hI⟩
  ·obtain rfl:=bQ ‹_›
   refine ai fq ?_
   exact ⟨hF_.set 2 rfl,hI⟩
  ·obtain rfl:=bG ‹_›
   refine aA hI 0 g6 rfl rfl ?_
   exact ⟨hF_.set 3 rfl,hI⟩
  ·exact ⟨hF_.set 4 rfl,hI⟩
  ·exact ⟨hF_.set 5 rfl,hI⟩
  ·obtain rfl:=bB ‹_›
   refine bF ?_
   exact ⟨hF_.set 6 rfl,hI⟩
  ·obtain rfl:=bD ‹_›
   refine ai fq ?_
   exact ⟨hF_.set 7 rfl,hI⟩
  ·obtain rfl:=cq ‹_›
   refine aA hI 0 g6 rfl rfl ?_
   exact ⟨hF_.set 8 rfl,hI⟩
  ·obtain rfl:=ci ‹_›
   refine dK dN ?_
   exact ⟨hF_.set 9 rfl,hI⟩
  ·obtain rfl:=bU ‹_›
   obtain rfl:=cL ‹_›
   refine MD (a:=p) (b:=ys.length) (by omega) rfl h0 ?_; rw [<- hd1]
   exact ⟨hF_.set 10 rfl,hI⟩
  ·obtain rfl:=bS ‹_›
   obtain rfl:=bH ‹_›
   refine ar dN hi1 ?_
   exact ⟨hF_.set 11 rfl,hI⟩
  ·obtain rfl:=bT ‹_›
   refine ce BX ((hI.cellS hS).trans hv1) ?_
   exact ⟨hF_.set 12 rfl,hI⟩
  ·obtain rfl:=cH ‹_›
   refine qT ge fj (IntWalk.i64_in _ (by omega)) ?_
   exact ⟨hF_.set 13 rfl,hI⟩
  ·obtain rfl:=de ‹_›
   refine y0 (by omega) ?_
   exact ⟨hF_.set 14 rfl,hI⟩
  ·exact ⟨hF_.set 15 rfl,hI⟩
  ·obtain rfl:=dk ‹_›
   refine bF ?_
   exact ⟨hF_.set 16 rfl,hI⟩
  ·obtain rfl:=dw ‹_›
   refine ai fq ?_
   exact ⟨hF_.set 17 rfl,hI⟩
  ·obtain rfl:=dH ‹_›
   refine aA hI 0 g6 rfl rfl ?_
   exact ⟨hF_.set 18 rfl,hI⟩
  ·exact ⟨hF_.set 19 rfl,hI⟩
  ·obtain rfl:=dS ‹_›
   refine y0 (by omega) ?_
   exact ⟨hF_.set 20 rfl,hI⟩
  ·obtain rfl:=fl ‹_›
   refine bl (by omega) ?_
   exact ⟨hF_.set 21 rfl,hI⟩
  ·exact ⟨hF_.set 22 rfl,hI⟩
  ·obtain rfl:=mY ‹_›
   refine bF ?_
   exact ⟨hF_.set 23 rfl,hI⟩
  ·obtain rfl:=qY ‹_›
   refine ai fq ?_
   exact ⟨hF_.set 24 rfl,hI⟩
  ·obtain rfl:=J6 ‹_›
   refine aA hI 0 g6 rfl rfl ?_
   exact ⟨hF_.set 25 rfl,hI⟩
  ·obtain rfl:=Ue ‹_›
   refine dK dN ?_
   exact ⟨hF_.set 26 rfl,hI⟩
  ·obtain rfl:=iz ‹_›
   obtain rfl:=Uk ‹_›
   refine MD (a:=p * 7+3) (b:=ys.length) (by omega) rfl h0 ?_; rw [<- hd2]
   exact ⟨hF_.set 27 rfl,hI⟩
  ·obtain rfl:=eE ‹_›
   obtain rfl:=Ug ‹_›
   refine ar dN hi2 ?_
   exact ⟨hF_.set 28 rfl,hI⟩
  ·obtain rfl:=TB ‹_›
   refine ce BX ((hI.cellS hS).trans hv2) ?_
   exact ⟨hF_.set 29 rfl,hI⟩
  ·obtain rfl:=Td ‹_›
   refine qT ge fj (IntWalk.i64_in _ (by omega)) ?_
   exact ⟨hF_.set 30 rfl,hI⟩
  ·obtain rfl:=Ty ‹_›
   refine y0 (by omega) ?_
   exact ⟨hF_.set 31 rfl,hI⟩
  ·obtain rfl:=cB ‹_›
   obtain rfl:=Tp ‹_›
   refine bl (by omega) ?_
   exact ⟨hF_.set 32 rfl,hI⟩
  ·exact ⟨hF_.set 33 rfl,hI⟩
  ·obtain rfl:=Ta ‹_›
   refine y0 (by omega) ?_
   exact ⟨hF_.set 34 rfl,hI⟩
  ·obtain rfl:=TJ ‹_›
   obtain rfl:=Uc ‹_›
   refine bl (by omega) ?_
   exact ⟨hF_.set 35 rfl,hI⟩
  ·exact ⟨hF_.set 36 rfl,hI⟩
  ·exact ⟨hF_.set 37 rfl,hI⟩
  ·obtain rfl:=Um ‹_›
   refine bF ?_
   exact ⟨hF_.set 38 rfl,hI⟩
  ·obtain rfl:=Ui ‹_›
   refine ai fq ?_
   exact ⟨hF_.set 39 rfl,hI⟩
  ·obtain rfl:=TY ‹_›
   refine aA hI 0 g6 rfl rfl ?_
   exact ⟨hF_.set 40 rfl,hI⟩
  ·obtain rfl:=Ti ‹_›
   refine dK dN ?_
   exact ⟨hF_.set 41 rfl,hI⟩
  ·obtain rfl:=TW ‹_›
   obtain rfl:=Tw ‹_›
   refine K0 (a:=p) (b:=ys.length) rfl rfl h0 (by omega) ?_; rw [<- hdq]
   exact ⟨hF_.set 42 rfl,hI⟩
  ·obtain rfl:=TD ‹_›
   refine y0 (by omega) ?_
   exact ⟨hF_.set 43 rfl,hI⟩
  ·obtain rfl:=Ts ‹_›
   obtain rfl:=Uf ‹_›
   refine bl (by omega) ?_
   exact ⟨hF_.set 44 rfl,hI⟩
  ·obtain rfl:=SZ ‹_›
   exact ⟨hF_.set 45 rfl,hI⟩
  obtain ⟨rfl,rfl,rfl,rfl,rfl,rfl,rfl,rfl,rfl,rfl,rfl,rfl,rfl,rfl,rfl,rfl,rfl,rfl,rfl,rfl,rfl,rfl,rfl,rfl,rfl,rfl,rfl,rfl,rfl,rfl,rfl,rfl,rfl,rfl,rfl,rfl,rfl,rfl,rfl,rfl,rfl,rfl,rfl,rfl,rfl,rfl,_⟩:=hF_.all
  clear hF_ bR bQ bG bS bU bB bD cq ci cL bH bT cH de cB dk dw dH eE dS fl iz mY qY J6 Ue Uk Ug TB Td Ty Tp TJ Ta Uc Ts TW Um Ui TY Ti Tw TD Uf SZ Uu
  obtain ⟨x,hx⟩:∃ x:Nat,((((((y1:Nat):Int) * 131)+(((y2:Nat):Int) * 1117))+((p:Int) * 29))+(((q:Nat):Int) * 53))=(x:Int):=⟨(((((((y1:Nat):Int) * 131)+(((y2:Nat):Int) * 1117))+((p:Int) * 29))+(((q:Nat):Int) * 53))).toNat,by omega⟩
  have hx2:x<=10000000000000000:=by omega
  rw [hx]
  refine K0 (a:=x) (b:=64) rfl rfl (by omega) (by omega) ?_
  refine R1 (a:=x) (b:=x / 64) rfl rfl (by omega) (by omega) ?_
  refine Lk hn ?_
  exact ⟨_,_,_,rfl,hI,Ext.refl _ _ _,rfl,rfl,_,Nat.mod_lt _ hn,rfl⟩
theorem i9 {ys:List Nat} {ns:List Int} {S:ae} {sl v:Value} {br p:Nat} (h:RdSl S 1 iR sl ys) (hv:RdSl S 1 ik v ns) (h0:0<ns.length) (hp:p<=1000000000000) :
  Tri Tryz.prog D5 [rdP br,v] [rdI br sl p] S fun r I' S'=>S'=S/\I'=[rdI br sl (p+1)]/\∃ n∈ns,r=.int .i64 n:=by
 intro w hI
 refine qX.2 ?_
 dsimp only[qX,aW]
 refine aC hv bV ?_
 refine Run.call (A:=[]) bP bN hI (cY h hp h0) fun v' I' S' w'=>?_
 rintro ⟨rfl,rfl,k,hk,rfl⟩ _ hI
 obtain ⟨b,o,cap,c,E,fz,rfl,hS,hR⟩:=hv.at_ hk
 refine ar bV hk ?_
 refine ce av ((hI.cellS hS).trans (au hR 0 _ rfl)) ?_
 exact ⟨_,_,_,rfl,hI,Ext.refl _ _ _,rfl,rfl,_,List.getElem_mem hk,rfl⟩
theorem vu {ys:List Nat} {ns:List ByteArray} {S:ae} {sl v:Value} {br p:Nat} (h:RdSl S 1 iR sl ys) (hv:RdSl S 1 oh v ns) (h0:0<ns.length) (hp:p<=1000000000000) :
  Tri Tryz.prog HQ [rdP br,v] [rdI br sl p] S fun r I' S'=>S'=S/\I'=[rdI br sl (p+1)]/\∃ n∈ns,r=.string n:=by
 intro w hI
 refine sK.2 ?_
 dsimp only[sK,aW]
 refine aC hv cg ?_
 refine Run.call (A:=[]) bP bN hI (cY h hp h0) fun v' I' S' w'=>?_
 rintro ⟨rfl,rfl,k,hk,rfl⟩ _ hI
 obtain ⟨b,o,cap,c,E,fz,rfl,hS,hR⟩:=hv.at_ hk
 refine ar cg hk ?_
 refine ce aJ ((hI.cellS hS).trans (au hR 0 _ rfl)) ?_
 exact ⟨_,_,_,rfl,hI,Ext.refl _ _ _,rfl,rfl,_,List.getElem_mem hk,rfl⟩
theorem C2 {ys:List Nat} {S:ae} {v:Value} (h:RdSl S 1 iR v ys) :
  Tri Tryz.prog KO [v] [] S fun r I' S'=>S'=S/\∃ br sl ys',r=rdP br/\I'=[rdI br sl 0]/\RdSl S 1 iR sl ys':=by
 intro w hI
 refine vR.2 ?_
 dsimp only[vR,aL]
 refine ⟨fun t w'=>(∃ ys',RdSl S 1 iR t ys')/\Inv w [] [] S w',?_,?_⟩
 ·refine aC h dN ?_
  refine dl ?_
  refine aI (fun hgt=>?_) (fun _=>⟨⟨_,h⟩,hI⟩)
  obtain ⟨a,cap,rfl,hl,hc,hh⟩:=id h
  refine Gw (h:=2000) dN (by omega) ?_
  exact ⟨⟨_,RdSl.to h (by omega)⟩,hI⟩
 intro t0 _ _ _ _ _ w'
 rintro ⟨⟨ys',hr⟩,hI⟩
 obtain ⟨a,cap,rfl,_⟩:=id hr
 refine Run.of (v:=.agg #[.slice a ys'.length cap,.int .i64 0]) (w':=w') ?_ ?_
 ·unfold bX
  rw [Sem.run_bind,run_build w' Jf _ #[.slice a ys'.length cap,.int .i64 0] (by kernel_rfl),Result.andThen_ok]
  rfl
 refine bf hI fun br w' hI=>?_
 exact ⟨_,_,_,rfl,hI,Ext.refl _ _ _,rfl,br,_,ys',rfl,rfl,hr⟩
end
end Go.Proofs.YtfcbhfjomgopbaaGreat

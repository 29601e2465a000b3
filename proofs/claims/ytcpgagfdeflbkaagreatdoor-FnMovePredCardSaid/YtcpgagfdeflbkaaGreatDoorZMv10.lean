/- The source of random numbers: spec.l18Open, pick, of, num. (printed by gen_rd.py) -/
import Derived.Test.YtcpgagfdeflbkaaGreatDoorZMv7
namespace Go.Proofs.YtcpgagfdeflbkaaGreatDoor
open Go Go.RowKit

def fR (cs:List Value) (n:Nat):Prop:=cs=[.int .u8 (n:Int)]/\n<256
abbrev rdI (br:Nat) (sl:Value) (p:Nat):Item:=.blk br (.cells #[sl,.int .i64 (p:Int)] ET)
abbrev rdP (br:Nat):Value:=.pointer (some ⟨br,0,none⟩)
section
variable {P:Program} {w:World} {K:Value->World->Prop}
theorem Gw {T:TypeId} {cx cy:Bool} {x y:Int} {a b:Nat} (hx:x=a) (hy:y=b) (hb:0<b) (hk:K (.int .i64 ((a % b:Nat):Int)) w):Run P (bN .rem T cx cy (.int .i64 x) (.int .i64 y)) w K:=by
 subst hx hy
 exact GO hb hk
theorem HK {T:TypeId} {cx cy:Bool} {x y:Int} {a b:Nat} (hx:x=a) (hy:y=b) (hb:0<b) (ha:a<=9223372036854775807) (hk:K (.int .i64 ((a / b:Nat):Int)) w):Run P (bN .quo T cx cy (.int .i64 x) (.int .i64 y)) w K:=by
 subst hx hy
 exact Nl hb ha hk
theorem NR {T:TypeId} {cx cy:Bool} {x y:Int} {a b:Nat} (hx:x=a) (hy:y=b) (ha:a<4611686018427387904) (hb:b<4611686018427387904) (hk:K (.int .i64 ((a ^^^ b:Nat):Int)) w):Run P (bN .xor T cx cy (.int .i64 x) (.int .i64 y)) w K:=by
 subst hx hy
 exact Nr ha hb hk
end
theorem RdSl.u8 {S:ad} {sl:Value} {ys:List Nat} (h:RdSl S 1 fR sl ys) (h0:0<ys.length):∃ b o cap c E fz,sl=.slice (some ⟨b,o,none⟩) ys.length cap/\S b=some (.cells c E fz)/\
  ∀ i,i<ys.length->∃ y:Nat,c[o+i * 1]?=some (.int .u8 (y:Int))/\y<256:=by
 obtain ⟨a,cap,rfl,hl,hc,h⟩:=h
 rcases h with rfl|⟨b,o,c,E,fz,rfl,hS,hR⟩
 ·simp at h0
 ·refine ⟨b,o,cap,c,E,fz,rfl,hS,fun i hi=>?_⟩
  obtain ⟨h1,h2⟩:=hR i hi
  exact ⟨ys[i],aJ h1 0 _ rfl,h2⟩
section
attribute [local irreducible] Run CondV ao aI
abbrev Pl (S:ad) (br:Nat) (sl:Value) (p n:Nat):Value->List Item->ad->Prop:=fun v I' S'=>S'=S/\I'=[rdI br sl (p+1)]/\∃ k:Nat,k<n/\v=.int .i64 (k:Int)
theorem bS {ys:List Nat} {S:ad} {sl:Value} {br p n:Nat} (h:RdSl S 1 fR sl ys) (hp:p<=1000000000000) (hn:0<n):Tri Tryz.prog yo [rdP br,.int .i64 (n:Int)] [rdI br sl p] S (Pl S br sl p n):=by
 intro w hI
 refine ml.2 ?_
 dsimp only[ml,aR]
 obtain ⟨X,hX⟩:∃ X,X=bp [rdI br sl p]:=⟨_,rfl⟩
 rw [<- hX] at hI ⊢
 have hsl:∃ a m cap,sl=.slice a m cap/\m=ys.length:=by
  obtain ⟨a,cap,e,_⟩:=h
  exact ⟨a,_,cap,e,rfl⟩
 refine al ?_
 refine aA nt ?_
 refine aT hI 0 aF rfl rfl ?_
 refine bi (by omega) ?_
 refine al ?_
 refine aA nt ?_
 refine cB hI 0 (n:=1) rfl (by decide +kernel) rfl (by simp) (by simp [Value.cells,Value.oneCell']) fun w' hI=>?_
 have hI:Inv w X [rdI br sl (p+1)] S w':=hI
 have hN:∃ N:Nat,N=ys.length:=⟨_,rfl⟩
 refine ⟨fun t w'=>t=.bool (decide (ys.length=0))/\Inv w X [rdI br sl (p+1)] S w',?_,?_⟩
 ·refine dC (by omega) ?_
  refine Hg (fun _=>?_) (fun hb=>by simp at hb)
  refine al ?_
  refine aA dN ?_
  refine aT hI 0 fp rfl rfl ?_
  refine aD h cQ ?_
  refine ba ?_
  refine qq ?_
  refine ⟨?_,hI⟩
  simp
 intro t24 _ _ _ _ _ _ _ _ _ w'
 rintro ⟨rfl,hI⟩
 refine aH (fun _=>⟨_,_,_,rfl,hI,Ext.refl _ _ _,rfl,rfl,0,hn,rfl⟩) (fun h0=>?_)
 have h0:0<ys.length:=by omega
 obtain ⟨b,o,cap,c,E,fz,rfl,hS,hc⟩:=h.u8 h0
 refine al ?_
 refine aA nt ?_
 refine aT hI 0 aF rfl rfl ?_
 refine jk (by omega) ?_
 have ep:((p+1:Nat):Int) - 1=(p:Int):=by omega
 rw [ep]
 refine al ?_
 refine aA dN ?_
 refine aT hI 0 fp rfl rfl ?_
 refine fw cQ ?_
 refine bC ?_
 refine aH (fun hlt=>?_) (fun _=>?_)
 ·have hlt':p<ys.length:=by omega
  obtain ⟨y,hy,hy2⟩:=hc p hlt'
  refine al ?_
  refine aA dN ?_
  refine aT hI 0 fp rfl rfl ?_
  refine aE cQ hlt' ?_
  refine bW yF ((hI.cellS hS).trans hy) ?_
  refine ob eq eQ (IntWalk.i64_in _ (by omega)) ?_
  refine GO hn ?_
  exact ⟨_,_,_,rfl,hI,Ext.refl _ _ _,rfl,rfl,y % n,Nat.mod_lt _ hn,rfl⟩
 ·obtain ⟨i1,hd1⟩:∃ i1,i1=p % ys.length:=⟨_,rfl⟩
  obtain ⟨i2,hd2⟩:∃ i2,i2=(p * 7+3) % ys.length:=⟨_,rfl⟩
  obtain ⟨q,hdq⟩:∃ q,q=p / ys.length:=⟨_,rfl⟩
  have hi1:i1<ys.length:=by rw [hd1]; exact Nat.mod_lt _ h0
  have hi2:i2<ys.length:=by rw [hd2]; exact Nat.mod_lt _ h0
  have hq:q<=p:=by rw [hdq]; exact Nat.div_le_self ..
  obtain ⟨y1,hv1,hy1⟩:=hc i1 hi1
  obtain ⟨y2,hv2,hy2⟩:=hc i2 hi2
  skip
  refine ⟨fun D x6 Nc Nd Ne Nf M4 MN MK MR Lw M6 KL Kb MX MW Nb M5 Pn N7 OP OB Ps O3 P3 PZ P0 PY JF JZ Bm xc xP wN xw zd xK x0 Bt AG Bv Bo AL AJ xf xZ y7 w_=>Fx D 0 [y7=.pointer (some ⟨br,0,none⟩),xZ=.pointer (some ⟨br,0,none⟩),xf=.pointer (some ⟨br,0,none⟩),AJ=.slice (some ⟨b,o,none⟩) ys.length cap,AL=.int .i64 (p:Int),Bo=.pointer (some ⟨br,0,none⟩),Bv=.pointer (some ⟨br,0,none⟩),AG=.pointer (some ⟨br,0,none⟩),Bt=.slice (some ⟨b,o,none⟩) ys.length cap,x0=.int .i64 (ys.length:Int),xK=.int .i64 (((i1:Nat):Int)),zd=.pointer (some ⟨b,o+i1 * 1,none⟩),xw=.int .u8 ((y1:Nat):Int),wN=.int .i64 (((y1:Nat):Int)),xP=.int .i64 ((((y1:Nat):Int) * 131)),xc=.pointer (some ⟨br,0,none⟩),Bm=.pointer (some ⟨br,0,none⟩),JZ=.pointer (some ⟨br,0,none⟩),JF=.slice (some ⟨b,o,none⟩) ys.length cap,PY=.int .i64 (p:Int),P0=.int .i64 (((p:Int) * 7)),PZ=.int .i64 ((((p:Int) * 7)+3)),P3=.pointer (some ⟨br,0,none⟩),O3=.pointer (some ⟨br,0,none⟩),Ps=.pointer (some ⟨br,0,none⟩),OB=.slice (some ⟨b,o,none⟩) ys.length cap,OP=.int .i64 (ys.length:Int),N7=.int .i64 (((i2:Nat):Int)),Pn=.pointer (some ⟨b,o+i2 * 1,none⟩),M5=.int .u8 ((y2:Nat):Int),Nb=.int .i64 (((y2:Nat):Int)),MW=.int .i64 ((((y2:Nat):Int) * 1117)),MX=.int .i64 (((((y1:Nat):Int) * 131)+(((y2:Nat):Int) * 1117))),Kb=.int .i64 (p:Int),KL=.int .i64 (((p:Int) * 29)),M6=.int .i64 ((((((y1:Nat):Int) * 131)+(((y2:Nat):Int) * 1117))+((p:Int) * 29))),Lw=.int .i64 (p:Int),MR=.pointer (some ⟨br,0,none⟩),MK=.pointer (some ⟨br,0,none⟩),MN=.pointer (some ⟨br,0,none⟩),M4=.slice (some ⟨b,o,none⟩) ys.length cap,Nf=.int .i64 (ys.length:Int),Ne=.int .i64 (((q:Nat):Int)),Nd=.int .i64 ((((q:Nat):Int) * 53)),Nc=.int .i64 (((((((y1:Nat):Int) * 131)+(((y2:Nat):Int) * 1117))+((p:Int) * 29))+(((q:Nat):Int) * 53))),x6=.int .i64 (((((((y1:Nat):Int) * 131)+(((y2:Nat):Int) * 1117))+((p:Int) * 29))+(((q:Nat):Int) * 53)))]/\Inv w X [rdI br (.slice (some ⟨b,o,none⟩) ys.length cap) (p+1)] S w_,⟨Fx.nil _ _,hI.draw⟩,⟨?_,?_,?_,?_,?_,?_,?_,?_,?_,?_,?_,?_,?_,?_,?_,?_,?_,?_,?_,?_,?_,?_,?_,?_,?_,?_,?_,?_,?_,?_,?_,?_,?_,?_,?_,?_,?_,?_,?_,?_,?_,?_,?_,?_,?_,?_,trivial⟩,?_⟩
  all_goals (intro D bv; intros; rename_i x6 Nc Nd Ne Nf M4 MN MK MR Lw M6 KL Kb MX MW Nb M5 Pn N7 OP OB Ps O3 P3 PZ P0 PY JF JZ Bm xc xP wN xw zd xK x0 Bt AG Bv Bo AL AJ xf xZ y7 w_ hA_; have hF_:=hA_.1; obtain ⟨⟨ci,cd,cj,cc,cm,cr,bO,cR,dt,eP,cI,db,d6,fx,fS,gN,iU,lH,o5,gx,rL,sR,sV,tl,Fj,PE,Oi,Pa,OL,PJ,Oy,N4,PL,N9,O5,Pk,Ol,On,OJ,Oh,Py,Po,OS,OD,PH,PQ,_⟩,hI⟩:=hA_)
  ·exact ⟨hF_.set 0 rfl,hI⟩
  ·obtain rfl:=ci ‹_›
   refine al ?_
   exact ⟨hF_.set 1 rfl,hI⟩
  ·obtain rfl:=cd ‹_›
   refine aA dN ?_
   exact ⟨hF_.set 2 rfl,hI⟩
  ·obtain rfl:=cj ‹_›
   refine aT hI 0 fp rfl rfl ?_
   exact ⟨hF_.set 3 rfl,hI⟩
  ·exact ⟨hF_.set 4 rfl,hI⟩
  ·exact ⟨hF_.set 5 rfl,hI⟩
  ·obtain rfl:=cr ‹_›
   refine al ?_
   exact ⟨hF_.set 6 rfl,hI⟩
  ·obtain rfl:=bO ‹_›
   refine aA dN ?_
   exact ⟨hF_.set 7 rfl,hI⟩
  ·obtain rfl:=cR ‹_›
   refine aT hI 0 fp rfl rfl ?_
   exact ⟨hF_.set 8 rfl,hI⟩
  ·obtain rfl:=dt ‹_›
   refine fw cQ ?_
   exact ⟨hF_.set 9 rfl,hI⟩
  ·obtain rfl:=cm ‹_›
   obtain rfl:=eP ‹_›
   refine Gw (a:=p) (b:=ys.length) (by omega) rfl h0 ?_; rw [<- hd1]
   exact ⟨hF_.set 10 rfl,hI⟩
  ·obtain rfl:=cc ‹_›
   obtain rfl:=cI ‹_›
   refine aE cQ hi1 ?_
   exact ⟨hF_.set 11 rfl,hI⟩
  ·obtain rfl:=db ‹_›
   refine bW yF ((hI.cellS hS).trans hv1) ?_
   exact ⟨hF_.set 12 rfl,hI⟩
  ·obtain rfl:=d6 ‹_›
   refine ob eq eQ (IntWalk.i64_in _ (by omega)) ?_
   exact ⟨hF_.set 13 rfl,hI⟩
  ·obtain rfl:=fx ‹_›
   refine yE (by omega) ?_
   exact ⟨hF_.set 14 rfl,hI⟩
  ·exact ⟨hF_.set 15 rfl,hI⟩
  ·obtain rfl:=gN ‹_›
   refine al ?_
   exact ⟨hF_.set 16 rfl,hI⟩
  ·obtain rfl:=iU ‹_›
   refine aA dN ?_
   exact ⟨hF_.set 17 rfl,hI⟩
  ·obtain rfl:=lH ‹_›
   refine aT hI 0 fp rfl rfl ?_
   exact ⟨hF_.set 18 rfl,hI⟩
  ·exact ⟨hF_.set 19 rfl,hI⟩
  ·obtain rfl:=gx ‹_›
   refine yE (by omega) ?_
   exact ⟨hF_.set 20 rfl,hI⟩
  ·obtain rfl:=rL ‹_›
   refine bi (by omega) ?_
   exact ⟨hF_.set 21 rfl,hI⟩
  ·exact ⟨hF_.set 22 rfl,hI⟩
  ·obtain rfl:=sV ‹_›
   refine al ?_
   exact ⟨hF_.set 23 rfl,hI⟩
  ·obtain rfl:=tl ‹_›
   refine aA dN ?_
   exact ⟨hF_.set 24 rfl,hI⟩
  ·obtain rfl:=Fj ‹_›
   refine aT hI 0 fp rfl rfl ?_
   exact ⟨hF_.set 25 rfl,hI⟩
  ·obtain rfl:=PE ‹_›
   refine fw cQ ?_
   exact ⟨hF_.set 26 rfl,hI⟩
  ·obtain rfl:=sR ‹_›
   obtain rfl:=Oi ‹_›
   refine Gw (a:=p * 7+3) (b:=ys.length) (by omega) rfl h0 ?_; rw [<- hd2]
   exact ⟨hF_.set 27 rfl,hI⟩
  ·obtain rfl:=o5 ‹_›
   obtain rfl:=Pa ‹_›
   refine aE cQ hi2 ?_
   exact ⟨hF_.set 28 rfl,hI⟩
  ·obtain rfl:=OL ‹_›
   refine bW yF ((hI.cellS hS).trans hv2) ?_
   exact ⟨hF_.set 29 rfl,hI⟩
  ·obtain rfl:=PJ ‹_›
   refine ob eq eQ (IntWalk.i64_in _ (by omega)) ?_
   exact ⟨hF_.set 30 rfl,hI⟩
  ·obtain rfl:=Oy ‹_›
   refine yE (by omega) ?_
   exact ⟨hF_.set 31 rfl,hI⟩
  ·obtain rfl:=fS ‹_›
   obtain rfl:=N4 ‹_›
   refine bi (by omega) ?_
   exact ⟨hF_.set 32 rfl,hI⟩
  ·exact ⟨hF_.set 33 rfl,hI⟩
  ·obtain rfl:=N9 ‹_›
   refine yE (by omega) ?_
   exact ⟨hF_.set 34 rfl,hI⟩
  ·obtain rfl:=PL ‹_›
   obtain rfl:=O5 ‹_›
   refine bi (by omega) ?_
   exact ⟨hF_.set 35 rfl,hI⟩
  ·exact ⟨hF_.set 36 rfl,hI⟩
  ·exact ⟨hF_.set 37 rfl,hI⟩
  ·obtain rfl:=On ‹_›
   refine al ?_
   exact ⟨hF_.set 38 rfl,hI⟩
  ·obtain rfl:=OJ ‹_›
   refine aA dN ?_
   exact ⟨hF_.set 39 rfl,hI⟩
  ·obtain rfl:=Oh ‹_›
   refine aT hI 0 fp rfl rfl ?_
   exact ⟨hF_.set 40 rfl,hI⟩
  ·obtain rfl:=Py ‹_›
   refine fw cQ ?_
   exact ⟨hF_.set 41 rfl,hI⟩
  ·obtain rfl:=Ol ‹_›
   obtain rfl:=Po ‹_›
   refine HK (a:=p) (b:=ys.length) rfl rfl h0 (by omega) ?_; rw [<- hdq]
   exact ⟨hF_.set 42 rfl,hI⟩
  ·obtain rfl:=OS ‹_›
   refine yE (by omega) ?_
   exact ⟨hF_.set 43 rfl,hI⟩
  ·obtain rfl:=Pk ‹_›
   obtain rfl:=OD ‹_›
   refine bi (by omega) ?_
   exact ⟨hF_.set 44 rfl,hI⟩
  ·obtain rfl:=PH ‹_›
   exact ⟨hF_.set 45 rfl,hI⟩
  obtain ⟨rfl,rfl,rfl,rfl,rfl,rfl,rfl,rfl,rfl,rfl,rfl,rfl,rfl,rfl,rfl,rfl,rfl,rfl,rfl,rfl,rfl,rfl,rfl,rfl,rfl,rfl,rfl,rfl,rfl,rfl,rfl,rfl,rfl,rfl,rfl,rfl,rfl,rfl,rfl,rfl,rfl,rfl,rfl,rfl,rfl,rfl,_⟩:=hF_.all
  clear hF_ ci cd cj cc cm cr bO cR dt eP cI db d6 fx fS gN iU lH o5 gx rL sR sV tl Fj PE Oi Pa OL PJ Oy N4 PL N9 O5 Pk Ol On OJ Oh Py Po OS OD PH PQ
  obtain ⟨x,hx⟩:∃ x:Nat,((((((y1:Nat):Int) * 131)+(((y2:Nat):Int) * 1117))+((p:Int) * 29))+(((q:Nat):Int) * 53))=(x:Int):=⟨(((((((y1:Nat):Int) * 131)+(((y2:Nat):Int) * 1117))+((p:Int) * 29))+(((q:Nat):Int) * 53))).toNat,by omega⟩
  have hx2:x<=10000000000000000:=by omega
  rw [hx]
  refine HK (a:=x) (b:=64) rfl rfl (by omega) (by omega) ?_
  refine NR (a:=x) (b:=x / 64) rfl rfl (by omega) (by omega) ?_
  refine GO hn ?_
  exact ⟨_,_,_,rfl,hI,Ext.refl _ _ _,rfl,rfl,_,Nat.mod_lt _ hn,rfl⟩
theorem kF {ys:List Nat} {ns:List Int} {S:ad} {sl v:Value} {br p:Nat} (h:RdSl S 1 fR sl ys) (hv:RdSl S 1 jW v ns) (h0:0<ns.length) (hp:p<=1000000000000) :
  Tri Tryz.prog z9 [rdP br,v] [rdI br sl p] S fun r I' S'=>S'=S/\I'=[rdI br sl (p+1)]/\∃ n∈ns,r=.int .i64 n:=by
 intro w hI
 refine oA.2 ?_
 dsimp only[oA,aR]
 refine aD hv dd ?_
 refine Run.call (A:=[]) bh bg hI (bS h hp h0) fun v' I' S' w'=>?_
 rintro ⟨rfl,rfl,k,hk,rfl⟩ _ hI
 obtain ⟨b,o,cap,c,E,fz,rfl,hS,hR⟩:=hv.at_ hk
 refine aE dd hk ?_
 refine bW aF ((hI.cellS hS).trans (aJ hR 0 _ rfl)) ?_
 exact ⟨_,_,_,rfl,hI,Ext.refl _ _ _,rfl,rfl,_,List.getElem_mem hk,rfl⟩
theorem n6 {ys:List Nat} {ns:List ByteArray} {S:ad} {sl v:Value} {br p:Nat} (h:RdSl S 1 fR sl ys) (hv:RdSl S 1 l4 v ns) (h0:0<ns.length) (hp:p<=1000000000000) :
  Tri Tryz.prog C1 [rdP br,v] [rdI br sl p] S fun r I' S'=>S'=S/\I'=[rdI br sl (p+1)]/\∃ n∈ns,r=.string n:=by
 intro w hI
 refine pL.2 ?_
 dsimp only[pL,aR]
 refine aD hv bw ?_
 refine Run.call (A:=[]) bh bg hI (bS h hp h0) fun v' I' S' w'=>?_
 rintro ⟨rfl,rfl,k,hk,rfl⟩ _ hI
 obtain ⟨b,o,cap,c,E,fz,rfl,hS,hR⟩:=hv.at_ hk
 refine aE bw hk ?_
 refine bW aK ((hI.cellS hS).trans (aJ hR 0 _ rfl)) ?_
 exact ⟨_,_,_,rfl,hI,Ext.refl _ _ _,rfl,rfl,_,List.getElem_mem hk,rfl⟩
theorem xl {ys:List Nat} {S:ad} {v:Value} (h:RdSl S 1 fR v ys) :
  Tri Tryz.prog Fo [v] [] S fun r I' S'=>S'=S/\∃ br sl ys',r=rdP br/\I'=[rdI br sl 0]/\RdSl S 1 fR sl ys':=by
 intro w hI
 refine rS.2 ?_
 dsimp only[rS,aC]
 refine ⟨fun t w'=>(∃ ys',RdSl S 1 fR t ys')/\Inv w [] [] S w',?_,?_⟩
 ·refine aD h cQ ?_
  refine dK ?_
  refine aH (fun hgt=>?_) (fun _=>⟨⟨_,h⟩,hI⟩)
  obtain ⟨a,cap,rfl,hl,hc,hh⟩:=id h
  refine Dr (h:=2000) cQ (by omega) ?_
  exact ⟨⟨_,RdSl.to h (by omega)⟩,hI⟩
 intro t0 _ _ _ _ _ w'
 rintro ⟨⟨ys',hr⟩,hI⟩
 obtain ⟨a,cap,rfl,_⟩:=id hr
 refine Run.of (v:=.agg #[.slice a ys'.length cap,.int .i64 0]) (w':=w') ?_ ?_
 ·unfold bJ
  rw [Sem.run_bind,run_build w' ET _ #[.slice a ys'.length cap,.int .i64 0] (by kernel_rfl),Result.andThen_ok]
  rfl
 refine bl hI fun br w' hI=>?_
 exact ⟨_,_,_,rfl,hI,Ext.refl _ _ _,rfl,br,_,ys',rfl,rfl,hr⟩
end
end Go.Proofs.YtcpgagfdeflbkaaGreatDoor

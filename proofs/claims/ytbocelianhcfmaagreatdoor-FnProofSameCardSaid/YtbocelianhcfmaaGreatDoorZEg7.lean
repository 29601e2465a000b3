/- The source of random numbers: spec.l18Open, pick, of, num. (printed by gen_rd.py) -/
import Derived.Test.YtbocelianhcfmaaGreatDoorZEg4
namespace Go.Proofs.YtbocelianhcfmaaGreatDoor
open Go Go.RowKit

def jd (cs:List Value) (n:Nat):Prop:=cs=[.int .u8 (n:Int)]/\n<256
abbrev rdI (br:Nat) (sl:Value) (p:Nat):Item:=.blk br (.cells #[sl,.int .i64 (p:Int)] Ff)
abbrev rdP (br:Nat):Value:=.pointer (some ⟨br,0,none⟩)
section
variable {P:Program} {w:World} {K:Value->World->Prop}
theorem H5 {T:TypeId} {cx cy:Bool} {x y:Int} {a b:Nat} (hx:x=a) (hy:y=b) (hb:0<b) (hk:K (.int .i64 ((a % b:Nat):Int)) w):Run P (cq .rem T cx cy (.int .i64 x) (.int .i64 y)) w K:=by
 subst hx hy
 exact HK hb hk
theorem HE {T:TypeId} {cx cy:Bool} {x y:Int} {a b:Nat} (hx:x=a) (hy:y=b) (hb:0<b) (ha:a<=9223372036854775807) (hk:K (.int .i64 ((a / b:Nat):Int)) w):Run P (cq .quo T cx cy (.int .i64 x) (.int .i64 y)) w K:=by
 subst hx hy
 exact Pw hb ha hk
theorem Pu {T:TypeId} {cx cy:Bool} {x y:Int} {a b:Nat} (hx:x=a) (hy:y=b) (ha:a<4611686018427387904) (hb:b<4611686018427387904) (hk:K (.int .i64 ((a ^^^ b:Nat):Int)) w):Run P (cq .xor T cx cy (.int .i64 x) (.int .i64 y)) w K:=by
 subst hx hy
 exact PE ha hb hk
end
theorem RdSl.u8 {S:ae} {sl:Value} {ys:List Nat} (h:RdSl S 1 jd sl ys) (h0:0<ys.length):∃ b o cap c E fz,sl=.slice (some ⟨b,o,none⟩) ys.length cap/\S b=some (.cells c E fz)/\
  ∀ i,i<ys.length->∃ y:Nat,c[o+i * 1]?=some (.int .u8 (y:Int))/\y<256:=by
 obtain ⟨a,cap,rfl,hl,hc,h⟩:=h
 rcases h with rfl|⟨b,o,c,E,fz,rfl,hS,hR⟩
 ·simp at h0
 ·refine ⟨b,o,cap,c,E,fz,rfl,hS,fun i hi=>?_⟩
  obtain ⟨h1,h2⟩:=hR i hi
  exact ⟨ys[i],aD h1 0 _ rfl,h2⟩
section
attribute [local irreducible] Run CondV ar aI
abbrev Qz (S:ae) (br:Nat) (sl:Value) (p n:Nat):Value->List Item->ae->Prop:=fun v I' S'=>S'=S/\I'=[rdI br sl (p+1)]/\∃ k:Nat,k<n/\v=.int .i64 (k:Int)
theorem cN {ys:List Nat} {S:ae} {sl:Value} {br p n:Nat} (h:RdSl S 1 jd sl ys) (hp:p<=1000000000000) (hn:0<n):Tri Tryz.prog zy [rdP br,.int .i64 (n:Int)] [rdI br sl p] S (Qz S br sl p n):=by
 intro w hI
 refine mT.2 ?_
 dsimp only[mT,aY]
 obtain ⟨X,hX⟩:∃ X,X=bz [rdI br sl p]:=⟨_,rfl⟩
 rw [<- hX] at hI ⊢
 have hsl:∃ a m cap,sl=.slice a m cap/\m=ys.length:=by
  obtain ⟨a,cap,e,_⟩:=h
  exact ⟨a,_,cap,e,rfl⟩
 refine cz ?_
 refine ao nK ?_
 refine ax hI 0 aw rfl rfl ?_
 refine bm (by omega) ?_
 refine cz ?_
 refine ao nK ?_
 refine dB hI 0 (n:=1) rfl (by decide +kernel) rfl (by simp) (by simp [Value.cells,Value.oneCell']) fun w' hI=>?_
 have hI:Inv w X [rdI br sl (p+1)] S w':=hI
 have hN:∃ N:Nat,N=ys.length:=⟨_,rfl⟩
 refine ⟨fun t w'=>t=.bool (decide (ys.length=0))/\Inv w X [rdI br sl (p+1)] S w',?_,?_⟩
 ·refine dU (by omega) ?_
  refine H2 (fun _=>?_) (fun hb=>by simp at hb)
  refine cz ?_
  refine ao eG ?_
  refine ax hI 0 fW rfl rfl ?_
  refine aK h di ?_
  refine bh ?_
  refine qZ ?_
  refine ⟨?_,hI⟩
  simp
 intro t24 _ _ _ _ _ _ _ _ _ w'
 rintro ⟨rfl,hI⟩
 refine aN (fun _=>⟨_,_,_,rfl,hI,Ext.refl _ _ _,rfl,rfl,0,hn,rfl⟩) (fun h0=>?_)
 have h0:0<ys.length:=by omega
 obtain ⟨b,o,cap,c,E,fz,rfl,hS,hc⟩:=h.u8 h0
 refine cz ?_
 refine ao nK ?_
 refine ax hI 0 aw rfl rfl ?_
 refine gy (by omega) ?_
 have ep:((p+1:Nat):Int) - 1=(p:Int):=by omega
 rw [ep]
 refine cz ?_
 refine ao eG ?_
 refine ax hI 0 fW rfl rfl ?_
 refine dL di ?_
 refine bD ?_
 refine aN (fun hlt=>?_) (fun _=>?_)
 ·have hlt':p<ys.length:=by omega
  obtain ⟨y,hy,hy2⟩:=hc p hlt'
  refine cz ?_
  refine ao eG ?_
  refine ax hI 0 fW rfl rfl ?_
  refine ay di hlt' ?_
  refine dd xU ((hI.cellS hS).trans hy) ?_
  refine l7 eq ma (IntWalk.i64_in _ (by omega)) ?_
  refine HK hn ?_
  exact ⟨_,_,_,rfl,hI,Ext.refl _ _ _,rfl,rfl,y % n,Nat.mod_lt _ hn,rfl⟩
 ·obtain ⟨i1,hd1⟩:∃ i1,i1=p % ys.length:=⟨_,rfl⟩
  obtain ⟨i2,hd2⟩:∃ i2,i2=(p * 7+3) % ys.length:=⟨_,rfl⟩
  obtain ⟨q,hdq⟩:∃ q,q=p / ys.length:=⟨_,rfl⟩
  have hi1:i1<ys.length:=by rw [hd1]; exact Nat.mod_lt _ h0
  have hi2:i2<ys.length:=by rw [hd2]; exact Nat.mod_lt _ h0
  have hq:q<=p:=by rw [hdq]; exact Nat.div_le_self ..
  obtain ⟨y1,hv1,hy1⟩:=hc i1 hi1
  obtain ⟨y2,hv2,hy2⟩:=hc i2 hi2
  skip
  refine ⟨fun D x6 JH Jr Ja EE Io GQ Jf K1 Ox Oz MT Oo Om Lt JR JG K5 K2 ML LW Ld K0 K4 P4 PX PK JT FL AA xL xY xN xJ wH ta uy u4 tC pu kq rq rP sg pK lW w_=>Fx D 0 [lW=.pointer (some ⟨br,0,none⟩),pK=.pointer (some ⟨br,0,none⟩),sg=.pointer (some ⟨br,0,none⟩),rP=.slice (some ⟨b,o,none⟩) ys.length cap,rq=.int .i64 (p:Int),kq=.pointer (some ⟨br,0,none⟩),pu=.pointer (some ⟨br,0,none⟩),tC=.pointer (some ⟨br,0,none⟩),u4=.slice (some ⟨b,o,none⟩) ys.length cap,uy=.int .i64 (ys.length:Int),ta=.int .i64 (((i1:Nat):Int)),wH=.pointer (some ⟨b,o+i1 * 1,none⟩),xJ=.int .u8 ((y1:Nat):Int),xN=.int .i64 (((y1:Nat):Int)),xY=.int .i64 ((((y1:Nat):Int) * 131)),xL=.pointer (some ⟨br,0,none⟩),AA=.pointer (some ⟨br,0,none⟩),FL=.pointer (some ⟨br,0,none⟩),JT=.slice (some ⟨b,o,none⟩) ys.length cap,PK=.int .i64 (p:Int),PX=.int .i64 (((p:Int) * 7)),P4=.int .i64 ((((p:Int) * 7)+3)),K4=.pointer (some ⟨br,0,none⟩),K0=.pointer (some ⟨br,0,none⟩),Ld=.pointer (some ⟨br,0,none⟩),LW=.slice (some ⟨b,o,none⟩) ys.length cap,ML=.int .i64 (ys.length:Int),K2=.int .i64 (((i2:Nat):Int)),K5=.pointer (some ⟨b,o+i2 * 1,none⟩),JG=.int .u8 ((y2:Nat):Int),JR=.int .i64 (((y2:Nat):Int)),Lt=.int .i64 ((((y2:Nat):Int) * 1117)),Om=.int .i64 (((((y1:Nat):Int) * 131)+(((y2:Nat):Int) * 1117))),Oo=.int .i64 (p:Int),MT=.int .i64 (((p:Int) * 29)),Oz=.int .i64 ((((((y1:Nat):Int) * 131)+(((y2:Nat):Int) * 1117))+((p:Int) * 29))),Ox=.int .i64 (p:Int),K1=.pointer (some ⟨br,0,none⟩),Jf=.pointer (some ⟨br,0,none⟩),GQ=.pointer (some ⟨br,0,none⟩),Io=.slice (some ⟨b,o,none⟩) ys.length cap,EE=.int .i64 (ys.length:Int),Ja=.int .i64 (((q:Nat):Int)),Jr=.int .i64 ((((q:Nat):Int) * 53)),JH=.int .i64 (((((((y1:Nat):Int) * 131)+(((y2:Nat):Int) * 1117))+((p:Int) * 29))+(((q:Nat):Int) * 53))),x6=.int .i64 (((((((y1:Nat):Int) * 131)+(((y2:Nat):Int) * 1117))+((p:Int) * 29))+(((q:Nat):Int) * 53)))]/\Inv w X [rdI br (.slice (some ⟨b,o,none⟩) ys.length cap) (p+1)] S w_,⟨Fx.nil _ _,hI.draw⟩,⟨?_,?_,?_,?_,?_,?_,?_,?_,?_,?_,?_,?_,?_,?_,?_,?_,?_,?_,?_,?_,?_,?_,?_,?_,?_,?_,?_,?_,?_,?_,?_,?_,?_,?_,?_,?_,?_,?_,?_,?_,?_,?_,?_,?_,?_,?_,trivial⟩,?_⟩
  all_goals (intro D bw; intros; rename_i x6 JH Jr Ja EE Io GQ Jf K1 Ox Oz MT Oo Om Lt JR JG K5 K2 ML LW Ld K0 K4 P4 PX PK JT FL AA xL xY xN xJ wH ta uy u4 tC pu kq rq rP sg pK lW w_ hA_; have hF_:=hA_.1; obtain ⟨⟨bQ,bS,bU,bR,bY,bZ,bO,cG,cS,cT,bL,co,cO,dJ,dT,dY,ew,dK,fy,dV,eL,jU,oE,oj,rX,ER,GC,Gc,Kc,PY,Qf,Qs,Qb,P8,Qn,Qc,Qq,P0,PW,P6,Qw,PL,Qk,Qr,Ql,QG,_⟩,hI⟩:=hA_)
  ·exact ⟨hF_.set 0 rfl,hI⟩
  ·obtain rfl:=bQ ‹_›
   refine cz ?_
   exact ⟨hF_.set 1 rfl,hI⟩
  ·obtain rfl:=bS ‹_›
   refine ao eG ?_
   exact ⟨hF_.set 2 rfl,hI⟩
  ·obtain rfl:=bU ‹_›
   refine ax hI 0 fW rfl rfl ?_
   exact ⟨hF_.set 3 rfl,hI⟩
  ·exact ⟨hF_.set 4 rfl,hI⟩
  ·exact ⟨hF_.set 5 rfl,hI⟩
  ·obtain rfl:=bZ ‹_›
   refine cz ?_
   exact ⟨hF_.set 6 rfl,hI⟩
  ·obtain rfl:=bO ‹_›
   refine ao eG ?_
   exact ⟨hF_.set 7 rfl,hI⟩
  ·obtain rfl:=cG ‹_›
   refine ax hI 0 fW rfl rfl ?_
   exact ⟨hF_.set 8 rfl,hI⟩
  ·obtain rfl:=cS ‹_›
   refine dL di ?_
   exact ⟨hF_.set 9 rfl,hI⟩
  ·obtain rfl:=bY ‹_›
   obtain rfl:=cT ‹_›
   refine H5 (a:=p) (b:=ys.length) (by omega) rfl h0 ?_; rw [<- hd1]
   exact ⟨hF_.set 10 rfl,hI⟩
  ·obtain rfl:=bR ‹_›
   obtain rfl:=bL ‹_›
   refine ay di hi1 ?_
   exact ⟨hF_.set 11 rfl,hI⟩
  ·obtain rfl:=co ‹_›
   refine dd xU ((hI.cellS hS).trans hv1) ?_
   exact ⟨hF_.set 12 rfl,hI⟩
  ·obtain rfl:=cO ‹_›
   refine l7 eq ma (IntWalk.i64_in _ (by omega)) ?_
   exact ⟨hF_.set 13 rfl,hI⟩
  ·obtain rfl:=dJ ‹_›
   refine xZ (by omega) ?_
   exact ⟨hF_.set 14 rfl,hI⟩
  ·exact ⟨hF_.set 15 rfl,hI⟩
  ·obtain rfl:=dY ‹_›
   refine cz ?_
   exact ⟨hF_.set 16 rfl,hI⟩
  ·obtain rfl:=ew ‹_›
   refine ao eG ?_
   exact ⟨hF_.set 17 rfl,hI⟩
  ·obtain rfl:=dK ‹_›
   refine ax hI 0 fW rfl rfl ?_
   exact ⟨hF_.set 18 rfl,hI⟩
  ·exact ⟨hF_.set 19 rfl,hI⟩
  ·obtain rfl:=dV ‹_›
   refine xZ (by omega) ?_
   exact ⟨hF_.set 20 rfl,hI⟩
  ·obtain rfl:=eL ‹_›
   refine bm (by omega) ?_
   exact ⟨hF_.set 21 rfl,hI⟩
  ·exact ⟨hF_.set 22 rfl,hI⟩
  ·obtain rfl:=oE ‹_›
   refine cz ?_
   exact ⟨hF_.set 23 rfl,hI⟩
  ·obtain rfl:=oj ‹_›
   refine ao eG ?_
   exact ⟨hF_.set 24 rfl,hI⟩
  ·obtain rfl:=rX ‹_›
   refine ax hI 0 fW rfl rfl ?_
   exact ⟨hF_.set 25 rfl,hI⟩
  ·obtain rfl:=ER ‹_›
   refine dL di ?_
   exact ⟨hF_.set 26 rfl,hI⟩
  ·obtain rfl:=jU ‹_›
   obtain rfl:=GC ‹_›
   refine H5 (a:=p * 7+3) (b:=ys.length) (by omega) rfl h0 ?_; rw [<- hd2]
   exact ⟨hF_.set 27 rfl,hI⟩
  ·obtain rfl:=fy ‹_›
   obtain rfl:=Gc ‹_›
   refine ay di hi2 ?_
   exact ⟨hF_.set 28 rfl,hI⟩
  ·obtain rfl:=Kc ‹_›
   refine dd xU ((hI.cellS hS).trans hv2) ?_
   exact ⟨hF_.set 29 rfl,hI⟩
  ·obtain rfl:=PY ‹_›
   refine l7 eq ma (IntWalk.i64_in _ (by omega)) ?_
   exact ⟨hF_.set 30 rfl,hI⟩
  ·obtain rfl:=Qf ‹_›
   refine xZ (by omega) ?_
   exact ⟨hF_.set 31 rfl,hI⟩
  ·obtain rfl:=dT ‹_›
   obtain rfl:=Qs ‹_›
   refine bm (by omega) ?_
   exact ⟨hF_.set 32 rfl,hI⟩
  ·exact ⟨hF_.set 33 rfl,hI⟩
  ·obtain rfl:=P8 ‹_›
   refine xZ (by omega) ?_
   exact ⟨hF_.set 34 rfl,hI⟩
  ·obtain rfl:=Qb ‹_›
   obtain rfl:=Qn ‹_›
   refine bm (by omega) ?_
   exact ⟨hF_.set 35 rfl,hI⟩
  ·exact ⟨hF_.set 36 rfl,hI⟩
  ·exact ⟨hF_.set 37 rfl,hI⟩
  ·obtain rfl:=P0 ‹_›
   refine cz ?_
   exact ⟨hF_.set 38 rfl,hI⟩
  ·obtain rfl:=PW ‹_›
   refine ao eG ?_
   exact ⟨hF_.set 39 rfl,hI⟩
  ·obtain rfl:=P6 ‹_›
   refine ax hI 0 fW rfl rfl ?_
   exact ⟨hF_.set 40 rfl,hI⟩
  ·obtain rfl:=Qw ‹_›
   refine dL di ?_
   exact ⟨hF_.set 41 rfl,hI⟩
  ·obtain rfl:=Qq ‹_›
   obtain rfl:=PL ‹_›
   refine HE (a:=p) (b:=ys.length) rfl rfl h0 (by omega) ?_; rw [<- hdq]
   exact ⟨hF_.set 42 rfl,hI⟩
  ·obtain rfl:=Qk ‹_›
   refine xZ (by omega) ?_
   exact ⟨hF_.set 43 rfl,hI⟩
  ·obtain rfl:=Qc ‹_›
   obtain rfl:=Qr ‹_›
   refine bm (by omega) ?_
   exact ⟨hF_.set 44 rfl,hI⟩
  ·obtain rfl:=Ql ‹_›
   exact ⟨hF_.set 45 rfl,hI⟩
  obtain ⟨rfl,rfl,rfl,rfl,rfl,rfl,rfl,rfl,rfl,rfl,rfl,rfl,rfl,rfl,rfl,rfl,rfl,rfl,rfl,rfl,rfl,rfl,rfl,rfl,rfl,rfl,rfl,rfl,rfl,rfl,rfl,rfl,rfl,rfl,rfl,rfl,rfl,rfl,rfl,rfl,rfl,rfl,rfl,rfl,rfl,rfl,_⟩:=hF_.all
  clear hF_ bQ bS bU bR bY bZ bO cG cS cT bL co cO dJ dT dY ew dK fy dV eL jU oE oj rX ER GC Gc Kc PY Qf Qs Qb P8 Qn Qc Qq P0 PW P6 Qw PL Qk Qr Ql QG
  obtain ⟨x,hx⟩:∃ x:Nat,((((((y1:Nat):Int) * 131)+(((y2:Nat):Int) * 1117))+((p:Int) * 29))+(((q:Nat):Int) * 53))=(x:Int):=⟨(((((((y1:Nat):Int) * 131)+(((y2:Nat):Int) * 1117))+((p:Int) * 29))+(((q:Nat):Int) * 53))).toNat,by omega⟩
  have hx2:x<=10000000000000000:=by omega
  rw [hx]
  refine HE (a:=x) (b:=64) rfl rfl (by omega) (by omega) ?_
  refine Pu (a:=x) (b:=x / 64) rfl rfl (by omega) (by omega) ?_
  refine HK hn ?_
  exact ⟨_,_,_,rfl,hI,Ext.refl _ _ _,rfl,rfl,_,Nat.mod_lt _ hn,rfl⟩
theorem jm {ys:List Nat} {ns:List Int} {S:ae} {sl v:Value} {br p:Nat} (h:RdSl S 1 jd sl ys) (hv:RdSl S 1 gz v ns) (h0:0<ns.length) (hp:p<=1000000000000) :
  Tri Tryz.prog AR [rdP br,v] [rdI br sl p] S fun r I' S'=>S'=S/\I'=[rdI br sl (p+1)]/\∃ n∈ns,r=.int .i64 n:=by
 intro w hI
 refine nZ.2 ?_
 dsimp only[nZ,aY]
 refine aK hv cW ?_
 refine Run.call (A:=[]) bF bE hI (cN h hp h0) fun v' I' S' w'=>?_
 rintro ⟨rfl,rfl,k,hk,rfl⟩ _ hI
 obtain ⟨b,o,cap,c,E,fz,rfl,hS,hR⟩:=hv.at_ hk
 refine ay cW hk ?_
 refine dd aw ((hI.cellS hS).trans (aD hR 0 _ rfl)) ?_
 exact ⟨_,_,_,rfl,hI,Ext.refl _ _ _,rfl,rfl,_,List.getElem_mem hk,rfl⟩
theorem zO {ys:List Nat} {ns:List ByteArray} {S:ae} {sl v:Value} {br p:Nat} (h:RdSl S 1 jd sl ys) (hv:RdSl S 1 iQ v ns) (h0:0<ns.length) (hp:p<=1000000000000) :
  Tri Tryz.prog CV [rdP br,v] [rdI br sl p] S fun r I' S'=>S'=S/\I'=[rdI br sl (p+1)]/\∃ n∈ns,r=.string n:=by
 intro w hI
 refine qt.2 ?_
 dsimp only[qt,aY]
 refine aK hv bH ?_
 refine Run.call (A:=[]) bF bE hI (cN h hp h0) fun v' I' S' w'=>?_
 rintro ⟨rfl,rfl,k,hk,rfl⟩ _ hI
 obtain ⟨b,o,cap,c,E,fz,rfl,hS,hR⟩:=hv.at_ hk
 refine ay bH hk ?_
 refine dd aC ((hI.cellS hS).trans (aD hR 0 _ rfl)) ?_
 exact ⟨_,_,_,rfl,hI,Ext.refl _ _ _,rfl,rfl,_,List.getElem_mem hk,rfl⟩
theorem zC {ys:List Nat} {S:ae} {v:Value} (h:RdSl S 1 jd v ys) :
  Tri Tryz.prog Eg [v] [] S fun r I' S'=>S'=S/\∃ br sl ys',r=rdP br/\I'=[rdI br sl 0]/\RdSl S 1 jd sl ys':=by
 intro w hI
 refine tk.2 ?_
 dsimp only[tk,aE]
 refine ⟨fun t w'=>(∃ ys',RdSl S 1 jd t ys')/\Inv w [] [] S w',?_,?_⟩
 ·refine aK h di ?_
  refine cY ?_
  refine aN (fun hgt=>?_) (fun _=>⟨⟨_,h⟩,hI⟩)
  obtain ⟨a,cap,rfl,hl,hc,hh⟩:=id h
  refine Mw (h:=2000) di (by omega) ?_
  exact ⟨⟨_,RdSl.to h (by omega)⟩,hI⟩
 intro t0 _ _ _ _ _ w'
 rintro ⟨⟨ys',hr⟩,hI⟩
 obtain ⟨a,cap,rfl,_⟩:=id hr
 refine Run.of (v:=.agg #[.slice a ys'.length cap,.int .i64 0]) (w':=w') ?_ ?_
 ·unfold bI
  rw [Sem.run_bind,run_build w' Ff _ #[.slice a ys'.length cap,.int .i64 0] (by kernel_rfl),Result.andThen_ok]
  rfl
 refine be hI fun br w' hI=>?_
 exact ⟨_,_,_,rfl,hI,Ext.refl _ _ _,rfl,br,_,ys',rfl,rfl,hr⟩
end
end Go.Proofs.YtbocelianhcfmaaGreatDoor

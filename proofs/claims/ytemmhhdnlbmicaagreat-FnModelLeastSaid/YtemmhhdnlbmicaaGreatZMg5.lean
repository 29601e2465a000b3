/- The source of random numbers: spec.l18Open, pick, of, num. (printed by gen_rd.py) -/
import Derived.Test.YtemmhhdnlbmicaaGreatZMg2
namespace Go.Proofs.YtemmhhdnlbmicaaGreat
open Go Go.RowKit

def ku (cs:List Value) (n:Nat):Prop:=cs=[.int .u8 (n:Int)]/\n<256
abbrev rdI (br:Nat) (sl:Value) (p:Nat):Item:=.blk br (.cells #[sl,.int .i64 (p:Int)] GR)
abbrev rdP (br:Nat):Value:=.pointer (some ⟨br,0,none⟩)
section
variable {P:Program} {w:World} {K:Value->World->Prop}
theorem HM {T:TypeId} {cx cy:Bool} {x y:Int} {a b:Nat} (hx:x=a) (hy:y=b) (hb:0<b) (hk:K (.int .i64 ((a % b:Nat):Int)) w):Run P (aq .rem T cx cy (.int .i64 x) (.int .i64 y)) w K:=by
 subst hx hy
 exact HT hb hk
theorem IH {T:TypeId} {cx cy:Bool} {x y:Int} {a b:Nat} (hx:x=a) (hy:y=b) (hb:0<b) (ha:a<=9223372036854775807) (hk:K (.int .i64 ((a / b:Nat):Int)) w):Run P (aq .quo T cx cy (.int .i64 x) (.int .i64 y)) w K:=by
 subst hx hy
 exact Np hb ha hk
theorem Ny {T:TypeId} {cx cy:Bool} {x y:Int} {a b:Nat} (hx:x=a) (hy:y=b) (ha:a<4611686018427387904) (hb:b<4611686018427387904) (hk:K (.int .i64 ((a ^^^ b:Nat):Int)) w):Run P (aq .xor T cx cy (.int .i64 x) (.int .i64 y)) w K:=by
 subst hx hy
 exact NB ha hb hk
end
theorem RdSl.u8 {S:az} {sl:Value} {ys:List Nat} (h:RdSl S 1 ku sl ys) (h0:0<ys.length):∃ b o cap c E fz,sl=.slice (some ⟨b,o,none⟩) ys.length cap/\S b=some (.cells c E fz)/\
  ∀ i,i<ys.length->∃ y:Nat,c[o+i * 1]?=some (.int .u8 (y:Int))/\y<256:=by
 obtain ⟨a,cap,rfl,hl,hc,h⟩:=h
 rcases h with rfl|⟨b,o,c,E,fz,rfl,hS,hR⟩
 ·simp at h0
 ·refine ⟨b,o,cap,c,E,fz,rfl,hS,fun i hi=>?_⟩
  obtain ⟨h1,h2⟩:=hR i hi
  exact ⟨ys[i],bm h1 0 _ rfl,h2⟩
section
attribute [local irreducible] Run CondV aj bd
abbrev N6 (S:az) (br:Nat) (sl:Value) (p n:Nat):Value->List Item->az->Prop:=fun v I' S'=>S'=S/\I'=[rdI br sl (p+1)]/\∃ k:Nat,k<n/\v=.int .i64 (k:Int)
theorem dR {ys:List Nat} {S:az} {sl:Value} {br p n:Nat} (h:RdSl S 1 ku sl ys) (hp:p<=1000000000000) (hn:0<n):Tri Tryz.prog zA [rdP br,.int .i64 (n:Int)] [rdI br sl p] S (N6 S br sl p n):=by
 intro w hI
 refine re ?_
 unfold nf
 obtain ⟨X,hX⟩:∃ X,X=bV [rdI br sl p]:=⟨_,rfl⟩
 rw [<- hX] at hI ⊢
 have hsl:∃ a m cap,sl=.slice a m cap/\m=ys.length:=by
  obtain ⟨a,cap,e,_⟩:=h
  exact ⟨a,_,cap,e,rfl⟩
 refine d4 ?_
 refine bh nO ?_
 refine bH hI 0 bn rfl rfl ?_
 refine bL (by omega) ?_
 refine d4 ?_
 refine bh nO ?_
 refine el hI 0 (n:=1) rfl (by decide +kernel) rfl (by simp) (by simp [Value.cells,Value.oneCell']) fun w' hI=>?_
 have hI:Inv w X [rdI br sl (p+1)] S w':=hI
 have hN:∃ N:Nat,N=ys.length:=⟨_,rfl⟩
 refine ⟨fun t w'=>t=.bool (decide (ys.length=0))/\Inv w X [rdI br sl (p+1)] S w',?_,?_⟩
 ·refine eD (by omega) ?_
  refine Ir (fun _=>?_) (fun hb=>by simp at hb)
  refine d4 ?_
  refine bh fG ?_
  refine bH hI 0 gO rfl rfl ?_
  refine a9 h eG ?_
  refine bO ?_
  refine q9 ?_
  refine ⟨?_,hI⟩
  simp
 intro t24 _ _ _ _ _ _ _ _ _ w'
 rintro ⟨rfl,hI⟩
 refine bk (fun _=>⟨_,_,_,rfl,hI,Ext.refl _ _ _,rfl,rfl,0,hn,rfl⟩) (fun h0=>?_)
 have h0:0<ys.length:=by omega
 obtain ⟨b,o,cap,c,E,fz,rfl,hS,hc⟩:=h.u8 h0
 refine d4 ?_
 refine bh nO ?_
 refine bH hI 0 bn rfl rfl ?_
 refine qz (by omega) ?_
 have ep:((p+1:Nat):Int) - 1=(p:Int):=by omega
 rw [ep]
 refine d4 ?_
 refine bh fG ?_
 refine bH hI 0 gO rfl rfl ?_
 refine fx eG ?_
 refine bR ?_
 refine bk (fun hlt=>?_) (fun _=>?_)
 ·have hlt':p<ys.length:=by omega
  obtain ⟨y,hy,hy2⟩:=hc p hlt'
  refine d4 ?_
  refine bh fG ?_
  refine bH hI 0 gO rfl rfl ?_
  refine bi eG hlt' ?_
  refine dM yW ((hI.cellS hS).trans hy) ?_
  refine mx fQ jc (IntWalk.i64_in _ (by omega)) ?_
  refine HT hn ?_
  exact ⟨_,_,_,rfl,hI,Ext.refl _ _ _,rfl,rfl,y % n,Nat.mod_lt _ hn,rfl⟩
 ·obtain ⟨i1,hd1⟩:∃ i1,i1=p % ys.length:=⟨_,rfl⟩
  obtain ⟨i2,hd2⟩:∃ i2,i2=(p * 7+3) % ys.length:=⟨_,rfl⟩
  obtain ⟨q,hdq⟩:∃ q,q=p / ys.length:=⟨_,rfl⟩
  have hi1:i1<ys.length:=by rw [hd1]; exact Nat.mod_lt _ h0
  have hi2:i2<ys.length:=by rw [hd2]; exact Nat.mod_lt _ h0
  have hq:q<=p:=by rw [hdq]; exact Nat.div_le_self ..
  obtain ⟨y1,hv1,hy1⟩:=hc i1 hi1
  obtain ⟨y2,hv2,hy2⟩:=hc i2 hi2
  skip
  refine ⟨fun D x6 jF jJ jD jK jw jy jG jM jA jI jB jE jC jH fS fR eR eP eV eT eQ eW eU fH fJ eH cI cZ cK df de c9 c8 dg db dd dz dk dn cP cO cQ cS bT bS w_=>(D 0=true->bS=.pointer (some ⟨br,0,none⟩))/\(D 1=true->bT=.pointer (some ⟨br,0,none⟩))/\(D 2=true->cS=.pointer (some ⟨br,0,none⟩))/\(D 3=true->cQ=.slice (some ⟨b,o,none⟩) ys.length cap)/\(D 4=true->cO=.int .i64 (p:Int))/\(D 5=true->cP=.pointer (some ⟨br,0,none⟩))/\(D 6=true->dn=.pointer (some ⟨br,0,none⟩))/\(D 7=true->dk=.pointer (some ⟨br,0,none⟩))/\(D 8=true->dz=.slice (some ⟨b,o,none⟩) ys.length cap)/\(D 9=true->dd=.int .i64 (ys.length:Int))/\(D 10=true->db=.int .i64 (((i1:Nat):Int)))/\(D 11=true->dg=.pointer (some ⟨b,o+i1 * 1,none⟩))/\(D 12=true->c8=.int .u8 ((y1:Nat):Int))/\(D 13=true->c9=.int .i64 (((y1:Nat):Int)))/\(D 14=true->de=.int .i64 ((((y1:Nat):Int) * 131)))/\(D 15=true->df=.pointer (some ⟨br,0,none⟩))/\(D 16=true->cK=.pointer (some ⟨br,0,none⟩))/\(D 17=true->cZ=.pointer (some ⟨br,0,none⟩))/\(D 18=true->cI=.slice (some ⟨b,o,none⟩) ys.length cap)/\(D 19=true->eH=.int .i64 (p:Int))/\(D 20=true->fJ=.int .i64 (((p:Int) * 7)))/\(D 21=true->fH=.int .i64 ((((p:Int) * 7)+3)))/\(D 22=true->eU=.pointer (some ⟨br,0,none⟩))/\(D 23=true->eW=.pointer (some ⟨br,0,none⟩))/\(D 24=true->eQ=.pointer (some ⟨br,0,none⟩))/\(D 25=true->eT=.slice (some ⟨b,o,none⟩) ys.length cap)/\(D 26=true->eV=.int .i64 (ys.length:Int))/\(D 27=true->eP=.int .i64 (((i2:Nat):Int)))/\(D 28=true->eR=.pointer (some ⟨b,o+i2 * 1,none⟩))/\(D 29=true->fR=.int .u8 ((y2:Nat):Int))/\(D 30=true->fS=.int .i64 (((y2:Nat):Int)))/\(D 31=true->jH=.int .i64 ((((y2:Nat):Int) * 1117)))/\(D 32=true->jC=.int .i64 (((((y1:Nat):Int) * 131)+(((y2:Nat):Int) * 1117))))/\(D 33=true->jE=.int .i64 (p:Int))/\(D 34=true->jB=.int .i64 (((p:Int) * 29)))/\(D 35=true->jI=.int .i64 ((((((y1:Nat):Int) * 131)+(((y2:Nat):Int) * 1117))+((p:Int) * 29))))/\(D 36=true->jA=.int .i64 (p:Int))/\(D 37=true->jM=.pointer (some ⟨br,0,none⟩))/\(D 38=true->jG=.pointer (some ⟨br,0,none⟩))/\(D 39=true->jy=.pointer (some ⟨br,0,none⟩))/\(D 40=true->jw=.slice (some ⟨b,o,none⟩) ys.length cap)/\(D 41=true->jK=.int .i64 (ys.length:Int))/\(D 42=true->jD=.int .i64 (((q:Nat):Int)))/\(D 43=true->jJ=.int .i64 ((((q:Nat):Int) * 53)))/\(D 44=true->jF=.int .i64 (((((((y1:Nat):Int) * 131)+(((y2:Nat):Int) * 1117))+((p:Int) * 29))+(((q:Nat):Int) * 53))))/\(D 45=true->x6=.int .i64 (((((((y1:Nat):Int) * 131)+(((y2:Nat):Int) * 1117))+((p:Int) * 29))+(((q:Nat):Int) * 53))))/\Inv w X [rdI br (.slice (some ⟨b,o,none⟩) ys.length cap) (p+1)] S w_,⟨ae,ae,ae,ae,ae,ae,ae,ae,ae,ae,ae,ae,ae,ae,ae,ae,ae,ae,ae,ae,ae,ae,ae,ae,ae,ae,ae,ae,ae,ae,ae,ae,ae,ae,ae,ae,ae,ae,ae,ae,ae,ae,ae,ae,ae,ae,hI.draw⟩,⟨?_,?_,?_,?_,?_,?_,?_,?_,?_,?_,?_,?_,?_,?_,?_,?_,?_,?_,?_,?_,?_,?_,?_,?_,?_,?_,?_,?_,?_,?_,?_,?_,?_,?_,?_,?_,?_,?_,?_,?_,?_,?_,?_,?_,?_,?_,trivial⟩,?_⟩
  ·intro D aY  x6 jF jJ jD jK jw jy jG jM jA jI jB jE jC jH fS fR eR eP eV eT eQ eW eU fH fJ eH cI cZ cK df de c9 c8 dg db dd dz dk dn cP cO cQ cS bT bS w_
   rintro ⟨aA,aB,aC,aD,aw,aE,aF,aJ,aL,aQ,al,ao,aG,aM,aO,aN,aU,aV,aW,aX,a6,a5,a4,aZ,a7,bB,bz,bC,bA,bE,cq,cn,cu,ci,cg,co,cr,cv,ct,cf,ch,cj,cw,cm,cz,cD,hI⟩
   exact ⟨fun _=>rfl,aB,aC,aD,aw,aE,aF,aJ,aL,aQ,al,ao,aG,aM,aO,aN,aU,aV,aW,aX,a6,a5,a4,aZ,a7,bB,bz,bC,bA,bE,cq,cn,cu,ci,cg,co,cr,cv,ct,cf,ch,cj,cw,cm,cz,cD,hI⟩
  ·intro D aY cc x6 jF jJ jD jK jw jy jG jM jA jI jB jE jC jH fS fR eR eP eV eT eQ eW eU fH fJ eH cI cZ cK df de c9 c8 dg db dd dz dk dn cP cO cQ cS bT bS w_
   rintro ⟨aA,aB,aC,aD,aw,aE,aF,aJ,aL,aQ,al,ao,aG,aM,aO,aN,aU,aV,aW,aX,a6,a5,a4,aZ,a7,bB,bz,bC,bA,bE,cq,cn,cu,ci,cg,co,cr,cv,ct,cf,ch,cj,cw,cm,cz,cD,hI⟩
   obtain rfl:=aA cc
   refine d4 ?_
   exact ⟨aA,fun _=>rfl,aC,aD,aw,aE,aF,aJ,aL,aQ,al,ao,aG,aM,aO,aN,aU,aV,aW,aX,a6,a5,a4,aZ,a7,bB,bz,bC,bA,bE,cq,cn,cu,ci,cg,co,cr,cv,ct,cf,ch,cj,cw,cm,cz,cD,hI⟩
  ·intro D aY dC x6 jF jJ jD jK jw jy jG jM jA jI jB jE jC jH fS fR eR eP eV eT eQ eW eU fH fJ eH cI cZ cK df de c9 c8 dg db dd dz dk dn cP cO cQ cS bT bS w_
   rintro ⟨aA,aB,aC,aD,aw,aE,aF,aJ,aL,aQ,al,ao,aG,aM,aO,aN,aU,aV,aW,aX,a6,a5,a4,aZ,a7,bB,bz,bC,bA,bE,cq,cn,cu,ci,cg,co,cr,cv,ct,cf,ch,cj,cw,cm,cz,cD,hI⟩
   obtain rfl:=aB dC
   refine bh fG ?_
   exact ⟨aA,aB,fun _=>rfl,aD,aw,aE,aF,aJ,aL,aQ,al,ao,aG,aM,aO,aN,aU,aV,aW,aX,a6,a5,a4,aZ,a7,bB,bz,bC,bA,bE,cq,cn,cu,ci,cg,co,cr,cv,ct,cf,ch,cj,cw,cm,cz,cD,hI⟩
  ·intro D aY eq x6 jF jJ jD jK jw jy jG jM jA jI jB jE jC jH fS fR eR eP eV eT eQ eW eU fH fJ eH cI cZ cK df de c9 c8 dg db dd dz dk dn cP cO cQ cS bT bS w_
   rintro ⟨aA,aB,aC,aD,aw,aE,aF,aJ,aL,aQ,al,ao,aG,aM,aO,aN,aU,aV,aW,aX,a6,a5,a4,aZ,a7,bB,bz,bC,bA,bE,cq,cn,cu,ci,cg,co,cr,cv,ct,cf,ch,cj,cw,cm,cz,cD,hI⟩
   obtain rfl:=aC eq
   refine bH hI 0 gO rfl rfl ?_
   exact ⟨aA,aB,aC,fun _=>rfl,aw,aE,aF,aJ,aL,aQ,al,ao,aG,aM,aO,aN,aU,aV,aW,aX,a6,a5,a4,aZ,a7,bB,bz,bC,bA,bE,cq,cn,cu,ci,cg,co,cr,cv,ct,cf,ch,cj,cw,cm,cz,cD,hI⟩
  ·intro D aY  x6 jF jJ jD jK jw jy jG jM jA jI jB jE jC jH fS fR eR eP eV eT eQ eW eU fH fJ eH cI cZ cK df de c9 c8 dg db dd dz dk dn cP cO cQ cS bT bS w_
   rintro ⟨aA,aB,aC,aD,aw,aE,aF,aJ,aL,aQ,al,ao,aG,aM,aO,aN,aU,aV,aW,aX,a6,a5,a4,aZ,a7,bB,bz,bC,bA,bE,cq,cn,cu,ci,cg,co,cr,cv,ct,cf,ch,cj,cw,cm,cz,cD,hI⟩
   exact ⟨aA,aB,aC,aD,fun _=>rfl,aE,aF,aJ,aL,aQ,al,ao,aG,aM,aO,aN,aU,aV,aW,aX,a6,a5,a4,aZ,a7,bB,bz,bC,bA,bE,cq,cn,cu,ci,cg,co,cr,cv,ct,cf,ch,cj,cw,cm,cz,cD,hI⟩
  ·intro D aY  x6 jF jJ jD jK jw jy jG jM jA jI jB jE jC jH fS fR eR eP eV eT eQ eW eU fH fJ eH cI cZ cK df de c9 c8 dg db dd dz dk dn cP cO cQ cS bT bS w_
   rintro ⟨aA,aB,aC,aD,aw,aE,aF,aJ,aL,aQ,al,ao,aG,aM,aO,aN,aU,aV,aW,aX,a6,a5,a4,aZ,a7,bB,bz,bC,bA,bE,cq,cn,cu,ci,cg,co,cr,cv,ct,cf,ch,cj,cw,cm,cz,cD,hI⟩
   exact ⟨aA,aB,aC,aD,aw,fun _=>rfl,aF,aJ,aL,aQ,al,ao,aG,aM,aO,aN,aU,aV,aW,aX,a6,a5,a4,aZ,a7,bB,bz,bC,bA,bE,cq,cn,cu,ci,cg,co,cr,cv,ct,cf,ch,cj,cw,cm,cz,cD,hI⟩
  ·intro D aY d3 x6 jF jJ jD jK jw jy jG jM jA jI jB jE jC jH fS fR eR eP eV eT eQ eW eU fH fJ eH cI cZ cK df de c9 c8 dg db dd dz dk dn cP cO cQ cS bT bS w_
   rintro ⟨aA,aB,aC,aD,aw,aE,aF,aJ,aL,aQ,al,ao,aG,aM,aO,aN,aU,aV,aW,aX,a6,a5,a4,aZ,a7,bB,bz,bC,bA,bE,cq,cn,cu,ci,cg,co,cr,cv,ct,cf,ch,cj,cw,cm,cz,cD,hI⟩
   obtain rfl:=aE d3
   refine d4 ?_
   exact ⟨aA,aB,aC,aD,aw,aE,fun _=>rfl,aJ,aL,aQ,al,ao,aG,aM,aO,aN,aU,aV,aW,aX,a6,a5,a4,aZ,a7,bB,bz,bC,bA,bE,cq,cn,cu,ci,cg,co,cr,cv,ct,cf,ch,cj,cw,cm,cz,cD,hI⟩
  ·intro D aY c4 x6 jF jJ jD jK jw jy jG jM jA jI jB jE jC jH fS fR eR eP eV eT eQ eW eU fH fJ eH cI cZ cK df de c9 c8 dg db dd dz dk dn cP cO cQ cS bT bS w_
   rintro ⟨aA,aB,aC,aD,aw,aE,aF,aJ,aL,aQ,al,ao,aG,aM,aO,aN,aU,aV,aW,aX,a6,a5,a4,aZ,a7,bB,bz,bC,bA,bE,cq,cn,cu,ci,cg,co,cr,cv,ct,cf,ch,cj,cw,cm,cz,cD,hI⟩
   obtain rfl:=aF c4
   refine bh fG ?_
   exact ⟨aA,aB,aC,aD,aw,aE,aF,fun _=>rfl,aL,aQ,al,ao,aG,aM,aO,aN,aU,aV,aW,aX,a6,a5,a4,aZ,a7,bB,bz,bC,bA,bE,cq,cn,cu,ci,cg,co,cr,cv,ct,cf,ch,cj,cw,cm,cz,cD,hI⟩
  ·intro D aY ed x6 jF jJ jD jK jw jy jG jM jA jI jB jE jC jH fS fR eR eP eV eT eQ eW eU fH fJ eH cI cZ cK df de c9 c8 dg db dd dz dk dn cP cO cQ cS bT bS w_
   rintro ⟨aA,aB,aC,aD,aw,aE,aF,aJ,aL,aQ,al,ao,aG,aM,aO,aN,aU,aV,aW,aX,a6,a5,a4,aZ,a7,bB,bz,bC,bA,bE,cq,cn,cu,ci,cg,co,cr,cv,ct,cf,ch,cj,cw,cm,cz,cD,hI⟩
   obtain rfl:=aJ ed
   refine bH hI 0 gO rfl rfl ?_
   exact ⟨aA,aB,aC,aD,aw,aE,aF,aJ,fun _=>rfl,aQ,al,ao,aG,aM,aO,aN,aU,aV,aW,aX,a6,a5,a4,aZ,a7,bB,bz,bC,bA,bE,cq,cn,cu,ci,cg,co,cr,cv,ct,cf,ch,cj,cw,cm,cz,cD,hI⟩
  ·intro D aY jh x6 jF jJ jD jK jw jy jG jM jA jI jB jE jC jH fS fR eR eP eV eT eQ eW eU fH fJ eH cI cZ cK df de c9 c8 dg db dd dz dk dn cP cO cQ cS bT bS w_
   rintro ⟨aA,aB,aC,aD,aw,aE,aF,aJ,aL,aQ,al,ao,aG,aM,aO,aN,aU,aV,aW,aX,a6,a5,a4,aZ,a7,bB,bz,bC,bA,bE,cq,cn,cu,ci,cg,co,cr,cv,ct,cf,ch,cj,cw,cm,cz,cD,hI⟩
   obtain rfl:=aL jh
   refine fx eG ?_
   exact ⟨aA,aB,aC,aD,aw,aE,aF,aJ,aL,fun _=>rfl,al,ao,aG,aM,aO,aN,aU,aV,aW,aX,a6,a5,a4,aZ,a7,bB,bz,bC,bA,bE,cq,cn,cu,ci,cg,co,cr,cv,ct,cf,ch,cj,cw,cm,cz,cD,hI⟩
  ·intro D aY cR fj x6 jF jJ jD jK jw jy jG jM jA jI jB jE jC jH fS fR eR eP eV eT eQ eW eU fH fJ eH cI cZ cK df de c9 c8 dg db dd dz dk dn cP cO cQ cS bT bS w_
   rintro ⟨aA,aB,aC,aD,aw,aE,aF,aJ,aL,aQ,al,ao,aG,aM,aO,aN,aU,aV,aW,aX,a6,a5,a4,aZ,a7,bB,bz,bC,bA,bE,cq,cn,cu,ci,cg,co,cr,cv,ct,cf,ch,cj,cw,cm,cz,cD,hI⟩
   obtain rfl:=aw cR
   obtain rfl:=aQ fj
   refine HM (a:=p) (b:=ys.length) (by omega) rfl h0 ?_; rw [<- hd1]
   exact ⟨aA,aB,aC,aD,aw,aE,aF,aJ,aL,aQ,fun _=>rfl,ao,aG,aM,aO,aN,aU,aV,aW,aX,a6,a5,a4,aZ,a7,bB,bz,bC,bA,bE,cq,cn,cu,ci,cg,co,cr,cv,ct,cf,ch,cj,cw,cm,cz,cD,hI⟩
  ·intro D aY dB lJ x6 jF jJ jD jK jw jy jG jM jA jI jB jE jC jH fS fR eR eP eV eT eQ eW eU fH fJ eH cI cZ cK df de c9 c8 dg db dd dz dk dn cP cO cQ cS bT bS w_
   rintro ⟨aA,aB,aC,aD,aw,aE,aF,aJ,aL,aQ,al,ao,aG,aM,aO,aN,aU,aV,aW,aX,a6,a5,a4,aZ,a7,bB,bz,bC,bA,bE,cq,cn,cu,ci,cg,co,cr,cv,ct,cf,ch,cj,cw,cm,cz,cD,hI⟩
   obtain rfl:=aD dB
   obtain rfl:=al lJ
   refine bi eG hi1 ?_
   exact ⟨aA,aB,aC,aD,aw,aE,aF,aJ,aL,aQ,al,fun _=>rfl,aG,aM,aO,aN,aU,aV,aW,aX,a6,a5,a4,aZ,a7,bB,bz,bC,bA,bE,cq,cn,cu,ci,cg,co,cr,cv,ct,cf,ch,cj,cw,cm,cz,cD,hI⟩
  ·intro D aY g8 x6 jF jJ jD jK jw jy jG jM jA jI jB jE jC jH fS fR eR eP eV eT eQ eW eU fH fJ eH cI cZ cK df de c9 c8 dg db dd dz dk dn cP cO cQ cS bT bS w_
   rintro ⟨aA,aB,aC,aD,aw,aE,aF,aJ,aL,aQ,al,ao,aG,aM,aO,aN,aU,aV,aW,aX,a6,a5,a4,aZ,a7,bB,bz,bC,bA,bE,cq,cn,cu,ci,cg,co,cr,cv,ct,cf,ch,cj,cw,cm,cz,cD,hI⟩
   obtain rfl:=ao g8
   refine dM yW ((hI.cellS hS).trans hv1) ?_
   exact ⟨aA,aB,aC,aD,aw,aE,aF,aJ,aL,aQ,al,ao,fun _=>rfl,aM,aO,aN,aU,aV,aW,aX,a6,a5,a4,aZ,a7,bB,bz,bC,bA,bE,cq,cn,cu,ci,cg,co,cr,cv,ct,cf,ch,cj,cw,cm,cz,cD,hI⟩
  ·intro D aY kK x6 jF jJ jD jK jw jy jG jM jA jI jB jE jC jH fS fR eR eP eV eT eQ eW eU fH fJ eH cI cZ cK df de c9 c8 dg db dd dz dk dn cP cO cQ cS bT bS w_
   rintro ⟨aA,aB,aC,aD,aw,aE,aF,aJ,aL,aQ,al,ao,aG,aM,aO,aN,aU,aV,aW,aX,a6,a5,a4,aZ,a7,bB,bz,bC,bA,bE,cq,cn,cu,ci,cg,co,cr,cv,ct,cf,ch,cj,cw,cm,cz,cD,hI⟩
   obtain rfl:=aG kK
   refine mx fQ jc (IntWalk.i64_in _ (by omega)) ?_
   exact ⟨aA,aB,aC,aD,aw,aE,aF,aJ,aL,aQ,al,ao,aG,fun _=>rfl,aO,aN,aU,aV,aW,aX,a6,a5,a4,aZ,a7,bB,bz,bC,bA,bE,cq,cn,cu,ci,cg,co,cr,cv,ct,cf,ch,cj,cw,cm,cz,cD,hI⟩
  ·intro D aY ib x6 jF jJ jD jK jw jy jG jM jA jI jB jE jC jH fS fR eR eP eV eT eQ eW eU fH fJ eH cI cZ cK df de c9 c8 dg db dd dz dk dn cP cO cQ cS bT bS w_
   rintro ⟨aA,aB,aC,aD,aw,aE,aF,aJ,aL,aQ,al,ao,aG,aM,aO,aN,aU,aV,aW,aX,a6,a5,a4,aZ,a7,bB,bz,bC,bA,bE,cq,cn,cu,ci,cg,co,cr,cv,ct,cf,ch,cj,cw,cm,cz,cD,hI⟩
   obtain rfl:=aM ib
   refine CQ (by omega) ?_
   exact ⟨aA,aB,aC,aD,aw,aE,aF,aJ,aL,aQ,al,ao,aG,aM,fun _=>rfl,aN,aU,aV,aW,aX,a6,a5,a4,aZ,a7,bB,bz,bC,bA,bE,cq,cn,cu,ci,cg,co,cr,cv,ct,cf,ch,cj,cw,cm,cz,cD,hI⟩
  ·intro D aY  x6 jF jJ jD jK jw jy jG jM jA jI jB jE jC jH fS fR eR eP eV eT eQ eW eU fH fJ eH cI cZ cK df de c9 c8 dg db dd dz dk dn cP cO cQ cS bT bS w_
   rintro ⟨aA,aB,aC,aD,aw,aE,aF,aJ,aL,aQ,al,ao,aG,aM,aO,aN,aU,aV,aW,aX,a6,a5,a4,aZ,a7,bB,bz,bC,bA,bE,cq,cn,cu,ci,cg,co,cr,cv,ct,cf,ch,cj,cw,cm,cz,cD,hI⟩
   exact ⟨aA,aB,aC,aD,aw,aE,aF,aJ,aL,aQ,al,ao,aG,aM,aO,fun _=>rfl,aU,aV,aW,aX,a6,a5,a4,aZ,a7,bB,bz,bC,bA,bE,cq,cn,cu,ci,cg,co,cr,cv,ct,cf,ch,cj,cw,cm,cz,cD,hI⟩
  ·intro D aY AU x6 jF jJ jD jK jw jy jG jM jA jI jB jE jC jH fS fR eR eP eV eT eQ eW eU fH fJ eH cI cZ cK df de c9 c8 dg db dd dz dk dn cP cO cQ cS bT bS w_
   rintro ⟨aA,aB,aC,aD,aw,aE,aF,aJ,aL,aQ,al,ao,aG,aM,aO,aN,aU,aV,aW,aX,a6,a5,a4,aZ,a7,bB,bz,bC,bA,bE,cq,cn,cu,ci,cg,co,cr,cv,ct,cf,ch,cj,cw,cm,cz,cD,hI⟩
   obtain rfl:=aN AU
   refine d4 ?_
   exact ⟨aA,aB,aC,aD,aw,aE,aF,aJ,aL,aQ,al,ao,aG,aM,aO,aN,fun _=>rfl,aV,aW,aX,a6,a5,a4,aZ,a7,bB,bz,bC,bA,bE,cq,cn,cu,ci,cg,co,cr,cv,ct,cf,ch,cj,cw,cm,cz,cD,hI⟩
  ·intro D aY Og x6 jF jJ jD jK jw jy jG jM jA jI jB jE jC jH fS fR eR eP eV eT eQ eW eU fH fJ eH cI cZ cK df de c9 c8 dg db dd dz dk dn cP cO cQ cS bT bS w_
   rintro ⟨aA,aB,aC,aD,aw,aE,aF,aJ,aL,aQ,al,ao,aG,aM,aO,aN,aU,aV,aW,aX,a6,a5,a4,aZ,a7,bB,bz,bC,bA,bE,cq,cn,cu,ci,cg,co,cr,cv,ct,cf,ch,cj,cw,cm,cz,cD,hI⟩
   obtain rfl:=aU Og
   refine bh fG ?_
   exact ⟨aA,aB,aC,aD,aw,aE,aF,aJ,aL,aQ,al,ao,aG,aM,aO,aN,aU,fun _=>rfl,aW,aX,a6,a5,a4,aZ,a7,bB,bz,bC,bA,bE,cq,cn,cu,ci,cg,co,cr,cv,ct,cf,ch,cj,cw,cm,cz,cD,hI⟩
  ·intro D aY F9 x6 jF jJ jD jK jw jy jG jM jA jI jB jE jC jH fS fR eR eP eV eT eQ eW eU fH fJ eH cI cZ cK df de c9 c8 dg db dd dz dk dn cP cO cQ cS bT bS w_
   rintro ⟨aA,aB,aC,aD,aw,aE,aF,aJ,aL,aQ,al,ao,aG,aM,aO,aN,aU,aV,aW,aX,a6,a5,a4,aZ,a7,bB,bz,bC,bA,bE,cq,cn,cu,ci,cg,co,cr,cv,ct,cf,ch,cj,cw,cm,cz,cD,hI⟩
   obtain rfl:=aV F9
   refine bH hI 0 gO rfl rfl ?_
   exact ⟨aA,aB,aC,aD,aw,aE,aF,aJ,aL,aQ,al,ao,aG,aM,aO,aN,aU,aV,fun _=>rfl,aX,a6,a5,a4,aZ,a7,bB,bz,bC,bA,bE,cq,cn,cu,ci,cg,co,cr,cv,ct,cf,ch,cj,cw,cm,cz,cD,hI⟩
  ·intro D aY  x6 jF jJ jD jK jw jy jG jM jA jI jB jE jC jH fS fR eR eP eV eT eQ eW eU fH fJ eH cI cZ cK df de c9 c8 dg db dd dz dk dn cP cO cQ cS bT bS w_
   rintro ⟨aA,aB,aC,aD,aw,aE,aF,aJ,aL,aQ,al,ao,aG,aM,aO,aN,aU,aV,aW,aX,a6,a5,a4,aZ,a7,bB,bz,bC,bA,bE,cq,cn,cu,ci,cg,co,cr,cv,ct,cf,ch,cj,cw,cm,cz,cD,hI⟩
   exact ⟨aA,aB,aC,aD,aw,aE,aF,aJ,aL,aQ,al,ao,aG,aM,aO,aN,aU,aV,aW,fun _=>rfl,a6,a5,a4,aZ,a7,bB,bz,bC,bA,bE,cq,cn,cu,ci,cg,co,cr,cv,ct,cf,ch,cj,cw,cm,cz,cD,hI⟩
  ·intro D aY gH x6 jF jJ jD jK jw jy jG jM jA jI jB jE jC jH fS fR eR eP eV eT eQ eW eU fH fJ eH cI cZ cK df de c9 c8 dg db dd dz dk dn cP cO cQ cS bT bS w_
   rintro ⟨aA,aB,aC,aD,aw,aE,aF,aJ,aL,aQ,al,ao,aG,aM,aO,aN,aU,aV,aW,aX,a6,a5,a4,aZ,a7,bB,bz,bC,bA,bE,cq,cn,cu,ci,cg,co,cr,cv,ct,cf,ch,cj,cw,cm,cz,cD,hI⟩
   obtain rfl:=aX gH
   refine CQ (by omega) ?_
   exact ⟨aA,aB,aC,aD,aw,aE,aF,aJ,aL,aQ,al,ao,aG,aM,aO,aN,aU,aV,aW,aX,fun _=>rfl,a5,a4,aZ,a7,bB,bz,bC,bA,bE,cq,cn,cu,ci,cg,co,cr,cv,ct,cf,ch,cj,cw,cm,cz,cD,hI⟩
  ·intro D aY yI x6 jF jJ jD jK jw jy jG jM jA jI jB jE jC jH fS fR eR eP eV eT eQ eW eU fH fJ eH cI cZ cK df de c9 c8 dg db dd dz dk dn cP cO cQ cS bT bS w_
   rintro ⟨aA,aB,aC,aD,aw,aE,aF,aJ,aL,aQ,al,ao,aG,aM,aO,aN,aU,aV,aW,aX,a6,a5,a4,aZ,a7,bB,bz,bC,bA,bE,cq,cn,cu,ci,cg,co,cr,cv,ct,cf,ch,cj,cw,cm,cz,cD,hI⟩
   obtain rfl:=a6 yI
   refine bL (by omega) ?_
   exact ⟨aA,aB,aC,aD,aw,aE,aF,aJ,aL,aQ,al,ao,aG,aM,aO,aN,aU,aV,aW,aX,a6,fun _=>rfl,a4,aZ,a7,bB,bz,bC,bA,bE,cq,cn,cu,ci,cg,co,cr,cv,ct,cf,ch,cj,cw,cm,cz,cD,hI⟩
  ·intro D aY  x6 jF jJ jD jK jw jy jG jM jA jI jB jE jC jH fS fR eR eP eV eT eQ eW eU fH fJ eH cI cZ cK df de c9 c8 dg db dd dz dk dn cP cO cQ cS bT bS w_
   rintro ⟨aA,aB,aC,aD,aw,aE,aF,aJ,aL,aQ,al,ao,aG,aM,aO,aN,aU,aV,aW,aX,a6,a5,a4,aZ,a7,bB,bz,bC,bA,bE,cq,cn,cu,ci,cg,co,cr,cv,ct,cf,ch,cj,cw,cm,cz,cD,hI⟩
   exact ⟨aA,aB,aC,aD,aw,aE,aF,aJ,aL,aQ,al,ao,aG,aM,aO,aN,aU,aV,aW,aX,a6,a5,fun _=>rfl,aZ,a7,bB,bz,bC,bA,bE,cq,cn,cu,ci,cg,co,cr,cv,ct,cf,ch,cj,cw,cm,cz,cD,hI⟩
  ·intro D aY Ln x6 jF jJ jD jK jw jy jG jM jA jI jB jE jC jH fS fR eR eP eV eT eQ eW eU fH fJ eH cI cZ cK df de c9 c8 dg db dd dz dk dn cP cO cQ cS bT bS w_
   rintro ⟨aA,aB,aC,aD,aw,aE,aF,aJ,aL,aQ,al,ao,aG,aM,aO,aN,aU,aV,aW,aX,a6,a5,a4,aZ,a7,bB,bz,bC,bA,bE,cq,cn,cu,ci,cg,co,cr,cv,ct,cf,ch,cj,cw,cm,cz,cD,hI⟩
   obtain rfl:=a4 Ln
   refine d4 ?_
   exact ⟨aA,aB,aC,aD,aw,aE,aF,aJ,aL,aQ,al,ao,aG,aM,aO,aN,aU,aV,aW,aX,a6,a5,a4,fun _=>rfl,a7,bB,bz,bC,bA,bE,cq,cn,cu,ci,cg,co,cr,cv,ct,cf,ch,cj,cw,cm,cz,cD,hI⟩
  ·intro D aY LR x6 jF jJ jD jK jw jy jG jM jA jI jB jE jC jH fS fR eR eP eV eT eQ eW eU fH fJ eH cI cZ cK df de c9 c8 dg db dd dz dk dn cP cO cQ cS bT bS w_
   rintro ⟨aA,aB,aC,aD,aw,aE,aF,aJ,aL,aQ,al,ao,aG,aM,aO,aN,aU,aV,aW,aX,a6,a5,a4,aZ,a7,bB,bz,bC,bA,bE,cq,cn,cu,ci,cg,co,cr,cv,ct,cf,ch,cj,cw,cm,cz,cD,hI⟩
   obtain rfl:=aZ LR
   refine bh fG ?_
   exact ⟨aA,aB,aC,aD,aw,aE,aF,aJ,aL,aQ,al,ao,aG,aM,aO,aN,aU,aV,aW,aX,a6,a5,a4,aZ,fun _=>rfl,bB,bz,bC,bA,bE,cq,cn,cu,ci,cg,co,cr,cv,ct,cf,ch,cj,cw,cm,cz,cD,hI⟩
  ·intro D aY MB x6 jF jJ jD jK jw jy jG jM jA jI jB jE jC jH fS fR eR eP eV eT eQ eW eU fH fJ eH cI cZ cK df de c9 c8 dg db dd dz dk dn cP cO cQ cS bT bS w_
   rintro ⟨aA,aB,aC,aD,aw,aE,aF,aJ,aL,aQ,al,ao,aG,aM,aO,aN,aU,aV,aW,aX,a6,a5,a4,aZ,a7,bB,bz,bC,bA,bE,cq,cn,cu,ci,cg,co,cr,cv,ct,cf,ch,cj,cw,cm,cz,cD,hI⟩
   obtain rfl:=a7 MB
   refine bH hI 0 gO rfl rfl ?_
   exact ⟨aA,aB,aC,aD,aw,aE,aF,aJ,aL,aQ,al,ao,aG,aM,aO,aN,aU,aV,aW,aX,a6,a5,a4,aZ,a7,fun _=>rfl,bz,bC,bA,bE,cq,cn,cu,ci,cg,co,cr,cv,ct,cf,ch,cj,cw,cm,cz,cD,hI⟩
  ·intro D aY Ou x6 jF jJ jD jK jw jy jG jM jA jI jB jE jC jH fS fR eR eP eV eT eQ eW eU fH fJ eH cI cZ cK df de c9 c8 dg db dd dz dk dn cP cO cQ cS bT bS w_
   rintro ⟨aA,aB,aC,aD,aw,aE,aF,aJ,aL,aQ,al,ao,aG,aM,aO,aN,aU,aV,aW,aX,a6,a5,a4,aZ,a7,bB,bz,bC,bA,bE,cq,cn,cu,ci,cg,co,cr,cv,ct,cf,ch,cj,cw,cm,cz,cD,hI⟩
   obtain rfl:=bB Ou
   refine fx eG ?_
   exact ⟨aA,aB,aC,aD,aw,aE,aF,aJ,aL,aQ,al,ao,aG,aM,aO,aN,aU,aV,aW,aX,a6,a5,a4,aZ,a7,bB,fun _=>rfl,bC,bA,bE,cq,cn,cu,ci,cg,co,cr,cv,ct,cf,ch,cj,cw,cm,cz,cD,hI⟩
  ·intro D aY yM Nb x6 jF jJ jD jK jw jy jG jM jA jI jB jE jC jH fS fR eR eP eV eT eQ eW eU fH fJ eH cI cZ cK df de c9 c8 dg db dd dz dk dn cP cO cQ cS bT bS w_
   rintro ⟨aA,aB,aC,aD,aw,aE,aF,aJ,aL,aQ,al,ao,aG,aM,aO,aN,aU,aV,aW,aX,a6,a5,a4,aZ,a7,bB,bz,bC,bA,bE,cq,cn,cu,ci,cg,co,cr,cv,ct,cf,ch,cj,cw,cm,cz,cD,hI⟩
   obtain rfl:=a5 yM
   obtain rfl:=bz Nb
   refine HM (a:=p * 7+3) (b:=ys.length) (by omega) rfl h0 ?_; rw [<- hd2]
   exact ⟨aA,aB,aC,aD,aw,aE,aF,aJ,aL,aQ,al,ao,aG,aM,aO,aN,aU,aV,aW,aX,a6,a5,a4,aZ,a7,bB,bz,fun _=>rfl,bA,bE,cq,cn,cu,ci,cg,co,cr,cv,ct,cf,ch,cj,cw,cm,cz,cD,hI⟩
  ·intro D aY s3 Oh x6 jF jJ jD jK jw jy jG jM jA jI jB jE jC jH fS fR eR eP eV eT eQ eW eU fH fJ eH cI cZ cK df de c9 c8 dg db dd dz dk dn cP cO cQ cS bT bS w_
   rintro ⟨aA,aB,aC,aD,aw,aE,aF,aJ,aL,aQ,al,ao,aG,aM,aO,aN,aU,aV,aW,aX,a6,a5,a4,aZ,a7,bB,bz,bC,bA,bE,cq,cn,cu,ci,cg,co,cr,cv,ct,cf,ch,cj,cw,cm,cz,cD,hI⟩
   obtain rfl:=aW s3
   obtain rfl:=bC Oh
   refine bi eG hi2 ?_
   exact ⟨aA,aB,aC,aD,aw,aE,aF,aJ,aL,aQ,al,ao,aG,aM,aO,aN,aU,aV,aW,aX,a6,a5,a4,aZ,a7,bB,bz,bC,fun _=>rfl,bE,cq,cn,cu,ci,cg,co,cr,cv,ct,cf,ch,cj,cw,cm,cz,cD,hI⟩
  ·intro D aY Lw x6 jF jJ jD jK jw jy jG jM jA jI jB jE jC jH fS fR eR eP eV eT eQ eW eU fH fJ eH cI cZ cK df de c9 c8 dg db dd dz dk dn cP cO cQ cS bT bS w_
   rintro ⟨aA,aB,aC,aD,aw,aE,aF,aJ,aL,aQ,al,ao,aG,aM,aO,aN,aU,aV,aW,aX,a6,a5,a4,aZ,a7,bB,bz,bC,bA,bE,cq,cn,cu,ci,cg,co,cr,cv,ct,cf,ch,cj,cw,cm,cz,cD,hI⟩
   obtain rfl:=bA Lw
   refine dM yW ((hI.cellS hS).trans hv2) ?_
   exact ⟨aA,aB,aC,aD,aw,aE,aF,aJ,aL,aQ,al,ao,aG,aM,aO,aN,aU,aV,aW,aX,a6,a5,a4,aZ,a7,bB,bz,bC,bA,fun _=>rfl,cq,cn,cu,ci,cg,co,cr,cv,ct,cf,ch,cj,cw,cm,cz,cD,hI⟩
  ·intro D aY N5 x6 jF jJ jD jK jw jy jG jM jA jI jB jE jC jH fS fR eR eP eV eT eQ eW eU fH fJ eH cI cZ cK df de c9 c8 dg db dd dz dk dn cP cO cQ cS bT bS w_
   rintro ⟨aA,aB,aC,aD,aw,aE,aF,aJ,aL,aQ,al,ao,aG,aM,aO,aN,aU,aV,aW,aX,a6,a5,a4,aZ,a7,bB,bz,bC,bA,bE,cq,cn,cu,ci,cg,co,cr,cv,ct,cf,ch,cj,cw,cm,cz,cD,hI⟩
   obtain rfl:=bE N5
   refine mx fQ jc (IntWalk.i64_in _ (by omega)) ?_
   exact ⟨aA,aB,aC,aD,aw,aE,aF,aJ,aL,aQ,al,ao,aG,aM,aO,aN,aU,aV,aW,aX,a6,a5,a4,aZ,a7,bB,bz,bC,bA,bE,fun _=>rfl,cn,cu,ci,cg,co,cr,cv,ct,cf,ch,cj,cw,cm,cz,cD,hI⟩
  ·intro D aY Om x6 jF jJ jD jK jw jy jG jM jA jI jB jE jC jH fS fR eR eP eV eT eQ eW eU fH fJ eH cI cZ cK df de c9 c8 dg db dd dz dk dn cP cO cQ cS bT bS w_
   rintro ⟨aA,aB,aC,aD,aw,aE,aF,aJ,aL,aQ,al,ao,aG,aM,aO,aN,aU,aV,aW,aX,a6,a5,a4,aZ,a7,bB,bz,bC,bA,bE,cq,cn,cu,ci,cg,co,cr,cv,ct,cf,ch,cj,cw,cm,cz,cD,hI⟩
   obtain rfl:=cq Om
   refine CQ (by omega) ?_
   exact ⟨aA,aB,aC,aD,aw,aE,aF,aJ,aL,aQ,al,ao,aG,aM,aO,aN,aU,aV,aW,aX,a6,a5,a4,aZ,a7,bB,bz,bC,bA,bE,cq,fun _=>rfl,cu,ci,cg,co,cr,cv,ct,cf,ch,cj,cw,cm,cz,cD,hI⟩
  ·intro D aY GE OA x6 jF jJ jD jK jw jy jG jM jA jI jB jE jC jH fS fR eR eP eV eT eQ eW eU fH fJ eH cI cZ cK df de c9 c8 dg db dd dz dk dn cP cO cQ cS bT bS w_
   rintro ⟨aA,aB,aC,aD,aw,aE,aF,aJ,aL,aQ,al,ao,aG,aM,aO,aN,aU,aV,aW,aX,a6,a5,a4,aZ,a7,bB,bz,bC,bA,bE,cq,cn,cu,ci,cg,co,cr,cv,ct,cf,ch,cj,cw,cm,cz,cD,hI⟩
   obtain rfl:=aO GE
   obtain rfl:=cn OA
   refine bL (by omega) ?_
   exact ⟨aA,aB,aC,aD,aw,aE,aF,aJ,aL,aQ,al,ao,aG,aM,aO,aN,aU,aV,aW,aX,a6,a5,a4,aZ,a7,bB,bz,bC,bA,bE,cq,cn,fun _=>rfl,ci,cg,co,cr,cv,ct,cf,ch,cj,cw,cm,cz,cD,hI⟩
  ·intro D aY  x6 jF jJ jD jK jw jy jG jM jA jI jB jE jC jH fS fR eR eP eV eT eQ eW eU fH fJ eH cI cZ cK df de c9 c8 dg db dd dz dk dn cP cO cQ cS bT bS w_
   rintro ⟨aA,aB,aC,aD,aw,aE,aF,aJ,aL,aQ,al,ao,aG,aM,aO,aN,aU,aV,aW,aX,a6,a5,a4,aZ,a7,bB,bz,bC,bA,bE,cq,cn,cu,ci,cg,co,cr,cv,ct,cf,ch,cj,cw,cm,cz,cD,hI⟩
   exact ⟨aA,aB,aC,aD,aw,aE,aF,aJ,aL,aQ,al,ao,aG,aM,aO,aN,aU,aV,aW,aX,a6,a5,a4,aZ,a7,bB,bz,bC,bA,bE,cq,cn,cu,fun _=>rfl,cg,co,cr,cv,ct,cf,ch,cj,cw,cm,cz,cD,hI⟩
  ·intro D aY Ox x6 jF jJ jD jK jw jy jG jM jA jI jB jE jC jH fS fR eR eP eV eT eQ eW eU fH fJ eH cI cZ cK df de c9 c8 dg db dd dz dk dn cP cO cQ cS bT bS w_
   rintro ⟨aA,aB,aC,aD,aw,aE,aF,aJ,aL,aQ,al,ao,aG,aM,aO,aN,aU,aV,aW,aX,a6,a5,a4,aZ,a7,bB,bz,bC,bA,bE,cq,cn,cu,ci,cg,co,cr,cv,ct,cf,ch,cj,cw,cm,cz,cD,hI⟩
   obtain rfl:=ci Ox
   refine CQ (by omega) ?_
   exact ⟨aA,aB,aC,aD,aw,aE,aF,aJ,aL,aQ,al,ao,aG,aM,aO,aN,aU,aV,aW,aX,a6,a5,a4,aZ,a7,bB,bz,bC,bA,bE,cq,cn,cu,ci,fun _=>rfl,co,cr,cv,ct,cf,ch,cj,cw,cm,cz,cD,hI⟩
  ·intro D aY NX Ob x6 jF jJ jD jK jw jy jG jM jA jI jB jE jC jH fS fR eR eP eV eT eQ eW eU fH fJ eH cI cZ cK df de c9 c8 dg db dd dz dk dn cP cO cQ cS bT bS w_
   rintro ⟨aA,aB,aC,aD,aw,aE,aF,aJ,aL,aQ,al,ao,aG,aM,aO,aN,aU,aV,aW,aX,a6,a5,a4,aZ,a7,bB,bz,bC,bA,bE,cq,cn,cu,ci,cg,co,cr,cv,ct,cf,ch,cj,cw,cm,cz,cD,hI⟩
   obtain rfl:=cu NX
   obtain rfl:=cg Ob
   refine bL (by omega) ?_
   exact ⟨aA,aB,aC,aD,aw,aE,aF,aJ,aL,aQ,al,ao,aG,aM,aO,aN,aU,aV,aW,aX,a6,a5,a4,aZ,a7,bB,bz,bC,bA,bE,cq,cn,cu,ci,cg,fun _=>rfl,cr,cv,ct,cf,ch,cj,cw,cm,cz,cD,hI⟩
  ·intro D aY  x6 jF jJ jD jK jw jy jG jM jA jI jB jE jC jH fS fR eR eP eV eT eQ eW eU fH fJ eH cI cZ cK df de c9 c8 dg db dd dz dk dn cP cO cQ cS bT bS w_
   rintro ⟨aA,aB,aC,aD,aw,aE,aF,aJ,aL,aQ,al,ao,aG,aM,aO,aN,aU,aV,aW,aX,a6,a5,a4,aZ,a7,bB,bz,bC,bA,bE,cq,cn,cu,ci,cg,co,cr,cv,ct,cf,ch,cj,cw,cm,cz,cD,hI⟩
   exact ⟨aA,aB,aC,aD,aw,aE,aF,aJ,aL,aQ,al,ao,aG,aM,aO,aN,aU,aV,aW,aX,a6,a5,a4,aZ,a7,bB,bz,bC,bA,bE,cq,cn,cu,ci,cg,co,fun _=>rfl,cv,ct,cf,ch,cj,cw,cm,cz,cD,hI⟩
  ·intro D aY  x6 jF jJ jD jK jw jy jG jM jA jI jB jE jC jH fS fR eR eP eV eT eQ eW eU fH fJ eH cI cZ cK df de c9 c8 dg db dd dz dk dn cP cO cQ cS bT bS w_
   rintro ⟨aA,aB,aC,aD,aw,aE,aF,aJ,aL,aQ,al,ao,aG,aM,aO,aN,aU,aV,aW,aX,a6,a5,a4,aZ,a7,bB,bz,bC,bA,bE,cq,cn,cu,ci,cg,co,cr,cv,ct,cf,ch,cj,cw,cm,cz,cD,hI⟩
   exact ⟨aA,aB,aC,aD,aw,aE,aF,aJ,aL,aQ,al,ao,aG,aM,aO,aN,aU,aV,aW,aX,a6,a5,a4,aZ,a7,bB,bz,bC,bA,bE,cq,cn,cu,ci,cg,co,cr,fun _=>rfl,ct,cf,ch,cj,cw,cm,cz,cD,hI⟩
  ·intro D aY NV x6 jF jJ jD jK jw jy jG jM jA jI jB jE jC jH fS fR eR eP eV eT eQ eW eU fH fJ eH cI cZ cK df de c9 c8 dg db dd dz dk dn cP cO cQ cS bT bS w_
   rintro ⟨aA,aB,aC,aD,aw,aE,aF,aJ,aL,aQ,al,ao,aG,aM,aO,aN,aU,aV,aW,aX,a6,a5,a4,aZ,a7,bB,bz,bC,bA,bE,cq,cn,cu,ci,cg,co,cr,cv,ct,cf,ch,cj,cw,cm,cz,cD,hI⟩
   obtain rfl:=cv NV
   refine d4 ?_
   exact ⟨aA,aB,aC,aD,aw,aE,aF,aJ,aL,aQ,al,ao,aG,aM,aO,aN,aU,aV,aW,aX,a6,a5,a4,aZ,a7,bB,bz,bC,bA,bE,cq,cn,cu,ci,cg,co,cr,cv,fun _=>rfl,cf,ch,cj,cw,cm,cz,cD,hI⟩
  ·intro D aY Od x6 jF jJ jD jK jw jy jG jM jA jI jB jE jC jH fS fR eR eP eV eT eQ eW eU fH fJ eH cI cZ cK df de c9 c8 dg db dd dz dk dn cP cO cQ cS bT bS w_
   rintro ⟨aA,aB,aC,aD,aw,aE,aF,aJ,aL,aQ,al,ao,aG,aM,aO,aN,aU,aV,aW,aX,a6,a5,a4,aZ,a7,bB,bz,bC,bA,bE,cq,cn,cu,ci,cg,co,cr,cv,ct,cf,ch,cj,cw,cm,cz,cD,hI⟩
   obtain rfl:=ct Od
   refine bh fG ?_
   exact ⟨aA,aB,aC,aD,aw,aE,aF,aJ,aL,aQ,al,ao,aG,aM,aO,aN,aU,aV,aW,aX,a6,a5,a4,aZ,a7,bB,bz,bC,bA,bE,cq,cn,cu,ci,cg,co,cr,cv,ct,fun _=>rfl,ch,cj,cw,cm,cz,cD,hI⟩
  ·intro D aY Oe x6 jF jJ jD jK jw jy jG jM jA jI jB jE jC jH fS fR eR eP eV eT eQ eW eU fH fJ eH cI cZ cK df de c9 c8 dg db dd dz dk dn cP cO cQ cS bT bS w_
   rintro ⟨aA,aB,aC,aD,aw,aE,aF,aJ,aL,aQ,al,ao,aG,aM,aO,aN,aU,aV,aW,aX,a6,a5,a4,aZ,a7,bB,bz,bC,bA,bE,cq,cn,cu,ci,cg,co,cr,cv,ct,cf,ch,cj,cw,cm,cz,cD,hI⟩
   obtain rfl:=cf Oe
   refine bH hI 0 gO rfl rfl ?_
   exact ⟨aA,aB,aC,aD,aw,aE,aF,aJ,aL,aQ,al,ao,aG,aM,aO,aN,aU,aV,aW,aX,a6,a5,a4,aZ,a7,bB,bz,bC,bA,bE,cq,cn,cu,ci,cg,co,cr,cv,ct,cf,fun _=>rfl,cj,cw,cm,cz,cD,hI⟩
  ·intro D aY NY x6 jF jJ jD jK jw jy jG jM jA jI jB jE jC jH fS fR eR eP eV eT eQ eW eU fH fJ eH cI cZ cK df de c9 c8 dg db dd dz dk dn cP cO cQ cS bT bS w_
   rintro ⟨aA,aB,aC,aD,aw,aE,aF,aJ,aL,aQ,al,ao,aG,aM,aO,aN,aU,aV,aW,aX,a6,a5,a4,aZ,a7,bB,bz,bC,bA,bE,cq,cn,cu,ci,cg,co,cr,cv,ct,cf,ch,cj,cw,cm,cz,cD,hI⟩
   obtain rfl:=ch NY
   refine fx eG ?_
   exact ⟨aA,aB,aC,aD,aw,aE,aF,aJ,aL,aQ,al,ao,aG,aM,aO,aN,aU,aV,aW,aX,a6,a5,a4,aZ,a7,bB,bz,bC,bA,bE,cq,cn,cu,ci,cg,co,cr,cv,ct,cf,ch,fun _=>rfl,cw,cm,cz,cD,hI⟩
  ·intro D aY Oc Ow x6 jF jJ jD jK jw jy jG jM jA jI jB jE jC jH fS fR eR eP eV eT eQ eW eU fH fJ eH cI cZ cK df de c9 c8 dg db dd dz dk dn cP cO cQ cS bT bS w_
   rintro ⟨aA,aB,aC,aD,aw,aE,aF,aJ,aL,aQ,al,ao,aG,aM,aO,aN,aU,aV,aW,aX,a6,a5,a4,aZ,a7,bB,bz,bC,bA,bE,cq,cn,cu,ci,cg,co,cr,cv,ct,cf,ch,cj,cw,cm,cz,cD,hI⟩
   obtain rfl:=cr Oc
   obtain rfl:=cj Ow
   refine IH (a:=p) (b:=ys.length) rfl rfl h0 (by omega) ?_; rw [<- hdq]
   exact ⟨aA,aB,aC,aD,aw,aE,aF,aJ,aL,aQ,al,ao,aG,aM,aO,aN,aU,aV,aW,aX,a6,a5,a4,aZ,a7,bB,bz,bC,bA,bE,cq,cn,cu,ci,cg,co,cr,cv,ct,cf,ch,cj,fun _=>rfl,cm,cz,cD,hI⟩
  ·intro D aY NZ x6 jF jJ jD jK jw jy jG jM jA jI jB jE jC jH fS fR eR eP eV eT eQ eW eU fH fJ eH cI cZ cK df de c9 c8 dg db dd dz dk dn cP cO cQ cS bT bS w_
   rintro ⟨aA,aB,aC,aD,aw,aE,aF,aJ,aL,aQ,al,ao,aG,aM,aO,aN,aU,aV,aW,aX,a6,a5,a4,aZ,a7,bB,bz,bC,bA,bE,cq,cn,cu,ci,cg,co,cr,cv,ct,cf,ch,cj,cw,cm,cz,cD,hI⟩
   obtain rfl:=cw NZ
   refine CQ (by omega) ?_
   exact ⟨aA,aB,aC,aD,aw,aE,aF,aJ,aL,aQ,al,ao,aG,aM,aO,aN,aU,aV,aW,aX,a6,a5,a4,aZ,a7,bB,bz,bC,bA,bE,cq,cn,cu,ci,cg,co,cr,cv,ct,cf,ch,cj,cw,fun _=>rfl,cz,cD,hI⟩
  ·intro D aY N3 Ok x6 jF jJ jD jK jw jy jG jM jA jI jB jE jC jH fS fR eR eP eV eT eQ eW eU fH fJ eH cI cZ cK df de c9 c8 dg db dd dz dk dn cP cO cQ cS bT bS w_
   rintro ⟨aA,aB,aC,aD,aw,aE,aF,aJ,aL,aQ,al,ao,aG,aM,aO,aN,aU,aV,aW,aX,a6,a5,a4,aZ,a7,bB,bz,bC,bA,bE,cq,cn,cu,ci,cg,co,cr,cv,ct,cf,ch,cj,cw,cm,cz,cD,hI⟩
   obtain rfl:=co N3
   obtain rfl:=cm Ok
   refine bL (by omega) ?_
   exact ⟨aA,aB,aC,aD,aw,aE,aF,aJ,aL,aQ,al,ao,aG,aM,aO,aN,aU,aV,aW,aX,a6,a5,a4,aZ,a7,bB,bz,bC,bA,bE,cq,cn,cu,ci,cg,co,cr,cv,ct,cf,ch,cj,cw,cm,fun _=>rfl,cD,hI⟩
  ·intro D aY Oj OJ PP PR P1 PQ PZ PU PT PV PN PA PD OV O2 PK O1 O5 OC Pz PF ON OK OW O9 O7 Pr Pj PI OO Pi Pt OE PG Pb OQ O4 PE Pn Pe O3 OH O8 PH OX Pm x6 jF jJ jD jK jw jy jG jM jA jI jB jE jC jH fS fR eR eP eV eT eQ eW eU fH fJ eH cI cZ cK df de c9 c8 dg db dd dz dk dn cP cO cQ cS bT bS w_
   rintro ⟨aA,aB,aC,aD,aw,aE,aF,aJ,aL,aQ,al,ao,aG,aM,aO,aN,aU,aV,aW,aX,a6,a5,a4,aZ,a7,bB,bz,bC,bA,bE,cq,cn,cu,ci,cg,co,cr,cv,ct,cf,ch,cj,cw,cm,cz,cD,hI⟩
   obtain rfl:=cz Oj
   exact ⟨aA,aB,aC,aD,aw,aE,aF,aJ,aL,aQ,al,ao,aG,aM,aO,aN,aU,aV,aW,aX,a6,a5,a4,aZ,a7,bB,bz,bC,bA,bE,cq,cn,cu,ci,cg,co,cr,cv,ct,cf,ch,cj,cw,cm,cz,fun _=>rfl,hI⟩
  intro D Po O6 OU Pg PC OD OY Pu Py O0 OT OM Pv PB Pp Px Nk NL Nz Nm NO DU ER E0 DM DV Eo y6 z0 AF nu nF ov je fi fp jt gK fT fY fE fm fw fF fC fD x6 jF jJ jD jK jw jy jG jM jA jI jB jE jC jH fS fR eR eP eV eT eQ eW eU fH fJ eH cI cZ cK df de c9 c8 dg db dd dz dk dn cP cO cQ cS bT bS w_
  rintro ⟨aA,aB,aC,aD,aw,aE,aF,aJ,aL,aQ,al,ao,aG,aM,aO,aN,aU,aV,aW,aX,a6,a5,a4,aZ,a7,bB,bz,bC,bA,bE,cq,cn,cu,ci,cg,co,cr,cv,ct,cf,ch,cj,cw,cm,cz,cD,hI⟩
  obtain rfl:=cD Po
  obtain rfl:=cz O6
  obtain rfl:=cm OU
  obtain rfl:=cw Pg
  obtain rfl:=cj PC
  obtain rfl:=ch OD
  obtain rfl:=cf OY
  obtain rfl:=ct Pu
  obtain rfl:=cv Py
  obtain rfl:=cr O0
  obtain rfl:=co OT
  obtain rfl:=cg OM
  obtain rfl:=ci Pv
  obtain rfl:=cu PB
  obtain rfl:=cn Pp
  obtain rfl:=cq Px
  obtain rfl:=bE Nk
  obtain rfl:=bA NL
  obtain rfl:=bC Nz
  obtain rfl:=bz Nm
  obtain rfl:=bB NO
  obtain rfl:=a7 DU
  obtain rfl:=aZ ER
  obtain rfl:=a4 E0
  obtain rfl:=a5 DM
  obtain rfl:=a6 DV
  obtain rfl:=aX Eo
  obtain rfl:=aW y6
  obtain rfl:=aV z0
  obtain rfl:=aU AF
  obtain rfl:=aN nu
  obtain rfl:=aO nF
  obtain rfl:=aM ov
  obtain rfl:=aG je
  obtain rfl:=ao fi
  obtain rfl:=al fp
  obtain rfl:=aQ jt
  obtain rfl:=aL gK
  obtain rfl:=aJ fT
  obtain rfl:=aF fY
  obtain rfl:=aE fE
  obtain rfl:=aw fm
  obtain rfl:=aD fw
  obtain rfl:=aC fF
  obtain rfl:=aB fC
  obtain rfl:=aA fD
  clear aA aB aC aD aw aE aF aJ aL aQ al ao aG aM aO aN aU aV aW aX a6 a5 a4 aZ a7 bB bz bC bA bE cq cn cu ci cg co cr cv ct cf ch cj cw cm cz cD
  obtain ⟨x,hx⟩:∃ x:Nat,((((((y1:Nat):Int) * 131)+(((y2:Nat):Int) * 1117))+((p:Int) * 29))+(((q:Nat):Int) * 53))=(x:Int):=⟨(((((((y1:Nat):Int) * 131)+(((y2:Nat):Int) * 1117))+((p:Int) * 29))+(((q:Nat):Int) * 53))).toNat,by omega⟩
  have hx2:x<=10000000000000000:=by omega
  rw [hx]
  refine IH (a:=x) (b:=64) rfl rfl (by omega) (by omega) ?_
  refine Ny (a:=x) (b:=x / 64) rfl rfl (by omega) (by omega) ?_
  refine HT hn ?_
  exact ⟨_,_,_,rfl,hI,Ext.refl _ _ _,rfl,rfl,_,Nat.mod_lt _ hn,rfl⟩
theorem jz {ys:List Nat} {ns:List Int} {S:az} {sl v:Value} {br p:Nat} (h:RdSl S 1 ku sl ys) (hv:RdSl S 1 oc v ns) (h0:0<ns.length) (hp:p<=1000000000000) :
  Tri Tryz.prog BE [rdP br,v] [rdI br sl p] S fun r I' S'=>S'=S/\I'=[rdI br sl (p+1)]/\∃ n∈ns,r=.int .i64 n:=by
 intro w hI
 refine tS ?_
 unfold oR
 refine a9 hv fl ?_
 refine Run.call (A:=[]) bY bX hI (dR h hp h0) fun v' I' S' w'=>?_
 rintro ⟨rfl,rfl,k,hk,rfl⟩ _ hI
 obtain ⟨b,o,cap,c,E,fz,rfl,hS,hR⟩:=hv.at_ hk
 refine bi fl hk ?_
 refine dM bn ((hI.cellS hS).trans (bm hR 0 _ rfl)) ?_
 exact ⟨_,_,_,rfl,hI,Ext.refl _ _ _,rfl,rfl,_,List.getElem_mem hk,rfl⟩
theorem r9 {ys:List Nat} {ns:List ByteArray} {S:az} {sl v:Value} {br p:Nat} (h:RdSl S 1 ku sl ys) (hv:RdSl S 1 qk v ns) (h0:0<ns.length) (hp:p<=1000000000000) :
  Tri Tryz.prog EW [rdP br,v] [rdI br sl p] S fun r I' S'=>S'=S/\I'=[rdI br sl (p+1)]/\∃ n∈ns,r=.string n:=by
 intro w hI
 refine vo ?_
 unfold qx
 refine a9 hv cG ?_
 refine Run.call (A:=[]) bY bX hI (dR h hp h0) fun v' I' S' w'=>?_
 rintro ⟨rfl,rfl,k,hk,rfl⟩ _ hI
 obtain ⟨b,o,cap,c,E,fz,rfl,hS,hR⟩:=hv.at_ hk
 refine bi cG hk ?_
 refine dM bl ((hI.cellS hS).trans (bm hR 0 _ rfl)) ?_
 exact ⟨_,_,_,rfl,hI,Ext.refl _ _ _,rfl,rfl,_,List.getElem_mem hk,rfl⟩
theorem HN {ys:List Nat} {S:az} {v:Value} (h:RdSl S 1 ku v ys) :
  Tri Tryz.prog G7 [v] [] S fun r I' S'=>S'=S/\∃ br sl ys',r=rdP br/\I'=[rdI br sl 0]/\RdSl S 1 ku sl ys':=by
 intro w hI
 refine xF ?_
 unfold sS
 refine ⟨fun t w'=>(∃ ys',RdSl S 1 ku t ys')/\Inv w [] [] S w',?_,?_⟩
 ·refine a9 h eG ?_
  refine d6 ?_
  refine bk (fun hgt=>?_) (fun _=>⟨⟨_,h⟩,hI⟩)
  obtain ⟨a,cap,rfl,hl,hc,hh⟩:=id h
  refine IO (h:=2000) eG (by omega) ?_
  exact ⟨⟨_,RdSl.to h (by omega)⟩,hI⟩
 intro t0 _ _ _ _ _ w'
 rintro ⟨⟨ys',hr⟩,hI⟩
 obtain ⟨a,cap,rfl,_⟩:=id hr
 refine Run.of (v:=.agg #[.slice a ys'.length cap,.int .i64 0]) (w':=w') ?_ ?_
 ·unfold dy
  rw [Sem.run_bind,run_build w' GR _ #[.slice a ys'.length cap,.int .i64 0] (by kernel_rfl),Result.andThen_ok]
  rfl
 refine bM hI fun br w' hI=>?_
 exact ⟨_,_,_,rfl,hI,Ext.refl _ _ _,rfl,br,_,ys',rfl,rfl,hr⟩
end
end Go.Proofs.YtemmhhdnlbmicaaGreat

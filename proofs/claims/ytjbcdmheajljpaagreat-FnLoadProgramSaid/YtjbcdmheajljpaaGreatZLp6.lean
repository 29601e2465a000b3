/- The source of random numbers: spec.l18Open, pick, of, num. (printed by gen_rd.py) -/
import Derived.Test.YtjbcdmheajljpaaGreatZLp5
namespace Go.Proofs.YtjbcdmheajljpaaGreat
section
open Go Go.RowKit

def mc (cs:List Value) (n:Nat):Prop:=cs=[.int .u8 (n:Int)]/\n<256
abbrev rdI (br:Nat) (sl:Value) (p:Nat):Item:=.blk br (.cells #[sl,.int .i64 (p:Int)] IV)
abbrev rdP (br:Nat):Value:=.pointer (some ⟨br,0,none⟩)
section
variable {P:Program} {w:World} {K:Value->World->Prop}
theorem Jo {T:TypeId} {g h:Bool} {x y:Int} {a b:Nat} (i:x=a) (j:y=b) (l:0<b) (hk:K (.int .i64 ((a % b:Nat):Int)) w):Run P (dh .rem T g h (.int .i64 x) (.int .i64 y)) w K:=by
 subst i j;exact Kr l hk
theorem Ks {T:TypeId} {g h:Bool} {x y:Int} {a b:Nat} (i:x=a) (j:y=b) (l:0<b) (m:a<=9223372036854775807) (hk:K (.int .i64 ((a / b:Nat):Int)) w):Run P (dh .quo T g h (.int .i64 x) (.int .i64 y)) w K:=by
 subst i j;exact RA l m hk
theorem Rb {T:TypeId} {g h:Bool} {x y:Int} {a b:Nat} (i:x=a) (j:y=b) (l:a<4611686018427387904) (m:b<4611686018427387904) (hk:K (.int .i64 ((a ^^^ b:Nat):Int)) w):Run P (dh .xor T g h (.int .i64 x) (.int .i64 y)) w K:=by
 subst i j;exact RH l m hk
end
theorem RdSl.u8 {S:ag} {sl:Value} {ys:List Nat} (h:RdSl S 1 mc sl ys) (j:0<ys.length):∃ b o cap c E g,sl=.slice (some ⟨b,o,none⟩) ys.length cap/\S b=some (.cells c E g)/\
  ∀ i,i<ys.length->∃ y:Nat,c[o+i * 1]?=some (.int .u8 (y:Int))/\y<256:=by
 obtain ⟨a,cap,rfl,r,hc,h⟩:=h;rcases h with rfl|⟨b,o,c,E,g,rfl,q,hR⟩
 ·simp at j
 ·refine ⟨b,o,cap,c,E,g,rfl,q,fun i l=>?_⟩;obtain ⟨m,p⟩:=hR i l;exact ⟨ys[i],bd m 0 _ rfl,p⟩
section
attribute [local irreducible] Run CondV aC aU
abbrev Sb (S:ag) (br:Nat) (sl:Value) (p n:Nat):Value->List Item->ag->Prop:=fun v I' S'=>S'=S/\I'=[rdI br sl (p+1)]/\∃ k:Nat,k<n/\v=.int .i64 (k:Int)
theorem fi {ys:List Nat} {S:ag} {sl:Value} {br p n:Nat} (h:RdSl S 1 mc sl ys) (hp:p<=1000000000000) (hn:0<n):Tri Tryz.prog AY [rdP br,.int .i64 (n:Int)] [rdI br sl p] S (Sb S br sl p n):=by
 intro w i;refine od.2 ?_;dsimp only[od,bm];obtain ⟨X,hX⟩:∃ X,X=bT [rdI br sl p]:=⟨_,rfl⟩
 rw [<- hX] at i ⊢;have a5:∃ a m cap,sl=.slice a m cap/\m=ys.length:=by
  obtain ⟨a,cap,e,_⟩:=h;exact ⟨a,_,cap,e,rfl⟩
 refine aL ?_;refine au pY ?_;refine aD i 0 aw rfl rfl ?_;refine bF (by omega) ?_;refine aL ?_;refine au pY ?_;refine ef i 0 (n:=1) rfl (by decide +kernel) rfl (by simp) (by simp [Value.cells,Value.oneCell']) fun w' i=>?_;have i:Inv w X [rdI br sl (p+1)] S w':=i;have hN:∃ N:Nat,N=ys.length:=⟨_,rfl⟩
 refine ⟨fun t w'=>t=.bool (decide (ys.length=0))/\Inv w X [rdI br sl (p+1)] S w',?_,?_⟩
 ·refine fh (by omega) ?_;refine Le (fun _=>?_) (fun hb=>by simp at hb);refine aL ?_;refine au fF ?_;refine aD i 0 ik rfl rfl ?_;refine aG h eM ?_;refine bn ?_;refine sA ?_;refine ⟨?_,i⟩;simp
 intro a2 _ _ _ _ _ _ _ _ _ w';rintro ⟨rfl,i⟩;refine aS (fun _=>⟨_,_,_,rfl,i,Ext.refl _ _ _,rfl,rfl,0,hn,rfl⟩) (fun u=>?_);have u:0<ys.length:=by omega
 obtain ⟨b,o,cap,c,E,fz,rfl,Y,hc⟩:=h.u8 u;refine aL ?_;refine au pY ?_;refine aD i 0 aw rfl rfl ?_;refine jx (by omega) ?_;have ep:((p+1:Nat):Int) - 1=(p:Int):=by omega
 rw [ep];refine aL ?_;refine au fF ?_;refine aD i 0 ik rfl rfl ?_;refine iN eM ?_;refine cu ?_;refine aS (fun a3=>?_) (fun _=>?_)
 ·have r:p<ys.length:=by omega
  obtain ⟨y,hy,Z⟩:=hc p r;refine aL ?_;refine au fF ?_;refine aD i 0 ik rfl rfl ?_;refine aT eM r ?_;refine dE Ax ((i.cellS Y).trans hy) ?_;refine qu ge c7 (IntWalk.i64_in _ (by omega)) ?_;refine Kr hn ?_;exact ⟨_,_,_,rfl,i,Ext.refl _ _ _,rfl,rfl,y % n,wv _ hn,rfl⟩
 ·obtain ⟨B,J⟩:∃ B,B=p % ys.length:=⟨_,rfl⟩
  obtain ⟨C,M⟩:∃ C,C=(p * 7+3) % ys.length:=⟨_,rfl⟩
  obtain ⟨q,O⟩:∃ q,q=p / ys.length:=⟨_,rfl⟩
  have U:B<ys.length:=by rw [J]; exact wv _ u
  have V:C<ys.length:=by rw [M]; exact wv _ u
  have hq:q<=p:=by rw [O]; exact Nat.div_le_self ..
  obtain ⟨j,a0,a4⟩:=hc B U;obtain ⟨l,a1,Z⟩:=hc C V
  skip
  refine ⟨fun D x6 H1 Ht Dr CP Cw Ej Cr zm zH Em CB GF LT Lu Jn Io Qr QP QZ QV Q1 QW QT Q6 Pq Lw Bz BT yU yk tU rr rT pE rY oG oR s3 pD ot pf n6 n9 ox mG w_=>Fx D 0 [mG=.pointer (some ⟨br,0,none⟩),ox=.pointer (some ⟨br,0,none⟩),n9=.pointer (some ⟨br,0,none⟩),n6=.slice (some ⟨b,o,none⟩) ys.length cap,pf=.int .i64 (p:Int),ot=.pointer (some ⟨br,0,none⟩),pD=.pointer (some ⟨br,0,none⟩),s3=.pointer (some ⟨br,0,none⟩),oR=.slice (some ⟨b,o,none⟩) ys.length cap,oG=.int .i64 (ys.length:Int),rY=.int .i64 (((B:Nat):Int)),pE=.pointer (some ⟨b,o+B * 1,none⟩),rT=.int .u8 ((j:Nat):Int),rr=.int .i64 (((j:Nat):Int)),tU=.int .i64 ((((j:Nat):Int) * 131)),yk=.pointer (some ⟨br,0,none⟩),yU=.pointer (some ⟨br,0,none⟩),BT=.pointer (some ⟨br,0,none⟩),Bz=.slice (some ⟨b,o,none⟩) ys.length cap,Lw=.int .i64 (p:Int),Pq=.int .i64 (((p:Int) * 7)),Q6=.int .i64 ((((p:Int) * 7)+3)),QT=.pointer (some ⟨br,0,none⟩),QW=.pointer (some ⟨br,0,none⟩),Q1=.pointer (some ⟨br,0,none⟩),QV=.slice (some ⟨b,o,none⟩) ys.length cap,QZ=.int .i64 (ys.length:Int),QP=.int .i64 (((C:Nat):Int)),Qr=.pointer (some ⟨b,o+C * 1,none⟩),Io=.int .u8 ((l:Nat):Int),Jn=.int .i64 (((l:Nat):Int)),Lu=.int .i64 ((((l:Nat):Int) * 1117)),LT=.int .i64 (((((j:Nat):Int) * 131)+(((l:Nat):Int) * 1117))),GF=.int .i64 (p:Int),CB=.int .i64 (((p:Int) * 29)),Em=.int .i64 ((((((j:Nat):Int) * 131)+(((l:Nat):Int) * 1117))+((p:Int) * 29))),zH=.int .i64 (p:Int),zm=.pointer (some ⟨br,0,none⟩),Cr=.pointer (some ⟨br,0,none⟩),Ej=.pointer (some ⟨br,0,none⟩),Cw=.slice (some ⟨b,o,none⟩) ys.length cap,CP=.int .i64 (ys.length:Int),Dr=.int .i64 (((q:Nat):Int)),Ht=.int .i64 ((((q:Nat):Int) * 53)),H1=.int .i64 (((((((j:Nat):Int) * 131)+(((l:Nat):Int) * 1117))+((p:Int) * 29))+(((q:Nat):Int) * 53))),x6=.int .i64 (((((((j:Nat):Int) * 131)+(((l:Nat):Int) * 1117))+((p:Int) * 29))+(((q:Nat):Int) * 53)))]/\Inv w X [rdI br (.slice (some ⟨b,o,none⟩) ys.length cap) (p+1)] S w_,⟨Fx.nil _ _,i.draw⟩,⟨?_,?_,?_,?_,?_,?_,?_,?_,?_,?_,?_,?_,?_,?_,?_,?_,?_,?_,?_,?_,?_,?_,?_,?_,?_,?_,?_,?_,?_,?_,?_,?_,?_,?_,?_,?_,?_,?_,?_,?_,?_,?_,?_,?_,?_,?_,trivial⟩,?_⟩;all_goals (intro D bw; intros; rename_i x6 H1 Ht Dr CP Cw Ej Cr zm zH Em CB GF LT Lu Jn Io Qr QP QZ QV Q1 QW QT Q6 Pq Lw Bz BT yU yk tU rr rT pE rY oG oR s3 pD ot pf n6 n9 ox mG w_ G; have g:=G.1; obtain ⟨⟨cG,cf,cD,cF,bQ,cE,bZ,cL,dw,dl,ci,c8,dN,fJ,il,im,iQ,ln,ll,hY,nT,nL,pn,v6,IW,TW,Ts,Ty,TR,Sg,TO,TG,Tl,TB,T1,To,SG,SS,Tt,TY,Tb,ST,Te,Sq,TT,T8,_⟩,i⟩:=G)
  ·exact ⟨g.set 0 rfl,i⟩
  ·obtain rfl:=cG ‹_›;refine aL ?_;exact ⟨g.set 1 rfl,i⟩
  ·obtain rfl:=cf ‹_›;refine au fF ?_;exact ⟨g.set 2 rfl,i⟩
  ·obtain rfl:=cD ‹_›;refine aD i 0 ik rfl rfl ?_;exact ⟨g.set 3 rfl,i⟩
  ·exact ⟨g.set 4 rfl,i⟩
  ·exact ⟨g.set 5 rfl,i⟩
  ·obtain rfl:=cE ‹_›;refine aL ?_;exact ⟨g.set 6 rfl,i⟩
  ·obtain rfl:=bZ ‹_›;refine au fF ?_;exact ⟨g.set 7 rfl,i⟩
  ·obtain rfl:=cL ‹_›;refine aD i 0 ik rfl rfl ?_;exact ⟨g.set 8 rfl,i⟩
  ·obtain rfl:=dw ‹_›;refine iN eM ?_;exact ⟨g.set 9 rfl,i⟩
  ·obtain rfl:=bQ ‹_›;obtain rfl:=dl ‹_›;refine Jo (a:=p) (b:=ys.length) (by omega) rfl u ?_; rw [<- J];exact ⟨g.set 10 rfl,i⟩
  ·obtain rfl:=cF ‹_›;obtain rfl:=ci ‹_›;refine aT eM U ?_;exact ⟨g.set 11 rfl,i⟩
  ·obtain rfl:=c8 ‹_›;refine dE Ax ((i.cellS Y).trans a0) ?_;exact ⟨g.set 12 rfl,i⟩
  ·obtain rfl:=dN ‹_›;refine qu ge c7 (IntWalk.i64_in _ (by omega)) ?_;exact ⟨g.set 13 rfl,i⟩
  ·obtain rfl:=fJ ‹_›;refine Dq (by omega) ?_;exact ⟨g.set 14 rfl,i⟩
  ·exact ⟨g.set 15 rfl,i⟩
  ·obtain rfl:=im ‹_›;refine aL ?_;exact ⟨g.set 16 rfl,i⟩
  ·obtain rfl:=iQ ‹_›;refine au fF ?_;exact ⟨g.set 17 rfl,i⟩
  ·obtain rfl:=ln ‹_›;refine aD i 0 ik rfl rfl ?_;exact ⟨g.set 18 rfl,i⟩
  ·exact ⟨g.set 19 rfl,i⟩
  ·obtain rfl:=hY ‹_›;refine Dq (by omega) ?_;exact ⟨g.set 20 rfl,i⟩
  ·obtain rfl:=nT ‹_›;refine bF (by omega) ?_;exact ⟨g.set 21 rfl,i⟩
  ·exact ⟨g.set 22 rfl,i⟩
  ·obtain rfl:=pn ‹_›;refine aL ?_;exact ⟨g.set 23 rfl,i⟩
  ·obtain rfl:=v6 ‹_›;refine au fF ?_;exact ⟨g.set 24 rfl,i⟩
  ·obtain rfl:=IW ‹_›;refine aD i 0 ik rfl rfl ?_;exact ⟨g.set 25 rfl,i⟩
  ·obtain rfl:=TW ‹_›;refine iN eM ?_;exact ⟨g.set 26 rfl,i⟩
  ·obtain rfl:=nL ‹_›;obtain rfl:=Ts ‹_›;refine Jo (a:=p * 7+3) (b:=ys.length) (by omega) rfl u ?_; rw [<- M];exact ⟨g.set 27 rfl,i⟩
  ·obtain rfl:=ll ‹_›;obtain rfl:=Ty ‹_›;refine aT eM V ?_;exact ⟨g.set 28 rfl,i⟩
  ·obtain rfl:=TR ‹_›;refine dE Ax ((i.cellS Y).trans a1) ?_;exact ⟨g.set 29 rfl,i⟩
  ·obtain rfl:=Sg ‹_›;refine qu ge c7 (IntWalk.i64_in _ (by omega)) ?_;exact ⟨g.set 30 rfl,i⟩
  ·obtain rfl:=TO ‹_›;refine Dq (by omega) ?_;exact ⟨g.set 31 rfl,i⟩
  ·obtain rfl:=il ‹_›;obtain rfl:=TG ‹_›;refine bF (by omega) ?_;exact ⟨g.set 32 rfl,i⟩
  ·exact ⟨g.set 33 rfl,i⟩
  ·obtain rfl:=TB ‹_›;refine Dq (by omega) ?_;exact ⟨g.set 34 rfl,i⟩
  ·obtain rfl:=Tl ‹_›;obtain rfl:=T1 ‹_›;refine bF (by omega) ?_;exact ⟨g.set 35 rfl,i⟩
  ·exact ⟨g.set 36 rfl,i⟩
  ·exact ⟨g.set 37 rfl,i⟩
  ·obtain rfl:=SS ‹_›;refine aL ?_;exact ⟨g.set 38 rfl,i⟩
  ·obtain rfl:=Tt ‹_›;refine au fF ?_;exact ⟨g.set 39 rfl,i⟩
  ·obtain rfl:=TY ‹_›;refine aD i 0 ik rfl rfl ?_;exact ⟨g.set 40 rfl,i⟩
  ·obtain rfl:=Tb ‹_›;refine iN eM ?_;exact ⟨g.set 41 rfl,i⟩
  ·obtain rfl:=SG ‹_›;obtain rfl:=ST ‹_›;refine Ks (a:=p) (b:=ys.length) rfl rfl u (by omega) ?_; rw [<- O];exact ⟨g.set 42 rfl,i⟩
  ·obtain rfl:=Te ‹_›;refine Dq (by omega) ?_;exact ⟨g.set 43 rfl,i⟩
  ·obtain rfl:=To ‹_›;obtain rfl:=Sq ‹_›;refine bF (by omega) ?_;exact ⟨g.set 44 rfl,i⟩
  ·obtain rfl:=TT ‹_›;exact ⟨g.set 45 rfl,i⟩
  obtain ⟨rfl,rfl,rfl,rfl,rfl,rfl,rfl,rfl,rfl,rfl,rfl,rfl,rfl,rfl,rfl,rfl,rfl,rfl,rfl,rfl,rfl,rfl,rfl,rfl,rfl,rfl,rfl,rfl,rfl,rfl,rfl,rfl,rfl,rfl,rfl,rfl,rfl,rfl,rfl,rfl,rfl,rfl,rfl,rfl,rfl,rfl,_⟩:=g.all;clear g cG cf cD cF bQ cE bZ cL dw dl ci c8 dN fJ il im iQ ln ll hY nT nL pn v6 IW TW Ts Ty TR Sg TO TG Tl TB T1 To SG SS Tt TY Tb ST Te Sq TT T8;obtain ⟨x,hx⟩:∃ x:Nat,((((((j:Nat):Int) * 131)+(((l:Nat):Int) * 1117))+((p:Int) * 29))+(((q:Nat):Int) * 53))=(x:Int):=⟨(((((((j:Nat):Int) * 131)+(((l:Nat):Int) * 1117))+((p:Int) * 29))+(((q:Nat):Int) * 53))).toNat,by omega⟩
  have a6:x<=10000000000000000:=by omega
  rw [hx];refine Ks (a:=x) (b:=64) rfl rfl (by omega) (by omega) ?_;refine Rb (a:=x) (b:=x / 64) rfl rfl (by omega) (by omega) ?_;refine Kr hn ?_;exact ⟨_,_,_,rfl,i,Ext.refl _ _ _,rfl,rfl,_,wv _ hn,rfl⟩
theorem mz {ys:List Nat} {g:List Int} {S:ag} {sl v:Value} {br p:Nat} (h:RdSl S 1 mc sl ys) (i:RdSl S 1 jG v g) (j:0<g.length) (l:p<=1000000000000) :
  Tri Tryz.prog C5 [rdP br,v] [rdI br sl p] S fun r I' S'=>S'=S/\I'=[rdI br sl (p+1)]/\∃ n∈g,r=.int .i64 n:=by
 intro w a;refine pI.2 ?_;dsimp only[pI,bm];refine aG i fI ?_;refine Run.call (A:=[]) dt dv a (fi h l j) fun v' I' S' w'=>?_;rintro ⟨rfl,rfl,k,hk,rfl⟩ _ a;obtain ⟨b,o,cap,c,E,q,rfl,m,hR⟩:=i.at_ hk;refine aT fI hk ?_;refine dE aw ((a.cellS m).trans (bd hR 0 _ rfl)) ?_;exact ⟨_,_,_,rfl,a,Ext.refl _ _ _,rfl,rfl,_,cH hk,rfl⟩
theorem ur {ys:List Nat} {g:List ByteArray} {S:ag} {sl v:Value} {br p:Nat} (h:RdSl S 1 mc sl ys) (i:RdSl S 1 y0 v g) (j:0<g.length) (l:p<=1000000000000) :
  Tri Tryz.prog EO [rdP br,v] [rdI br sl p] S fun r I' S'=>S'=S/\I'=[rdI br sl (p+1)]/\∃ n∈g,r=.string n:=by
 intro w a;refine rI.2 ?_;dsimp only[rI,bm];refine aG i de ?_;refine Run.call (A:=[]) dt dv a (fi h l j) fun v' I' S' w'=>?_;rintro ⟨rfl,rfl,k,hk,rfl⟩ _ a;obtain ⟨b,o,cap,c,E,q,rfl,m,hR⟩:=i.at_ hk;refine aT de hk ?_;refine dE aZ ((a.cellS m).trans (bd hR 0 _ rfl)) ?_;exact ⟨_,_,_,rfl,a,Ext.refl _ _ _,rfl,rfl,_,cH hk,rfl⟩
theorem Kn {ys:List Nat} {S:ag} {v:Value} (h:RdSl S 1 mc v ys) :
  Tri Tryz.prog I8 [v] [] S fun r I' S'=>S'=S/\∃ br sl g,r=rdP br/\I'=[rdI br sl 0]/\RdSl S 1 mc sl g:=by
 intro w i;refine uq.2 ?_;dsimp only[uq,aQ];refine ⟨fun t w'=>(∃ g,RdSl S 1 mc t g)/\Inv w [] [] S w',?_,?_⟩
 ·refine aG h eM ?_;refine fC ?_;refine aS (fun l=>?_) (fun _=>⟨⟨_,h⟩,i⟩);obtain ⟨a,cap,rfl,o,hc,p⟩:=id h;refine Rn (h:=2000) eM (by omega) ?_;exact ⟨⟨_,RdSl.to h (by omega)⟩,i⟩
 intro m _ _ _ _ _ w';rintro ⟨⟨g,j⟩,i⟩;obtain ⟨a,cap,rfl,_⟩:=id j;refine Run.of (v:=.agg #[.slice a g.length cap,.int .i64 0]) (w':=w') ?_ ?_
 ·unfold bR;rw [Sem.run_bind,run_build w' IV _ #[.slice a g.length cap,.int .i64 0] (by kernel_rfl),Result.andThen_ok];rfl
 refine bH i fun br w' i=>?_;exact ⟨_,_,_,rfl,i,Ext.refl _ _ _,rfl,br,_,g,rfl,rfl,j⟩
end
end
section
open Go Go.RowKit
theorem Oi:Tryz.prog.underlying H6=some (.slice EI):=by kernel_rfl
section
variable {w:World} {S:ag}
attribute [local irreducible] Run CondV aC aU
theorem lk {t:T} {cs:List Value} (h:RdT S cs t):Pure Tryz.prog KS [.agg cs.toArray] S (.bool (AX t)):=by
 intro w a;obtain ⟨kv,rfl,_,_,_,hk⟩:=RdT.iff.1 h;obtain ⟨j,l,rfl,_⟩:=id hk;refine xX.2 ?_;dsimp only[xX,aQ];refine bH a fun i w' a=>?_;refine ah a 0 rfl bb aw rfl ?_;by_cases g:t.kind=3
 ·refine fX g ?_;refine rpG ?_;refine ah a 0 rfl bk aZ rfl ?_;refine cM (b:=st [46]) ?_;cases hn:decide (t.name=st [46])
  ·refine rpG ?_;exact done a (by rw [AX,hn,ig,Bi])
  ·refine rpG ?_;refine ah a 0 rfl ay ax rfl ?_;refine iN ao ?_;refine bn ?_;refine rpG ?_;refine done a ?_;rw [AX,hn,aP g,eL,eL]
   congr 1
   rw [iq];omega
 ·refine eW g ?_;refine rpG ?_;exact done a (by rw [AX,bf g,ig])
theorem CQ {t:T} {cs:List Value} (h:RdT S cs t):Pure Tryz.prog Nt [.agg cs.toArray] S (.bool (O7 t)):=by
 intro w a;obtain ⟨kv,rfl,_,_,_,hk⟩:=RdT.iff.1 h;obtain ⟨j,l,rfl,_⟩:=id hk;refine BD.2 ?_;dsimp only[BD,aQ];refine bH a fun i w' a=>?_;refine ah a 0 rfl bb aw rfl ?_;by_cases g:t.kind=3
 ·refine fX g ?_;refine rpG ?_;refine ah a 0 rfl bk aZ rfl ?_;refine cM (b:=st [91,93]) ?_;cases hn:decide (t.name=st [91,93])
  ·refine rpG ?_;exact done a (by rw [O7,hn,ig,Bi])
  ·refine rpG ?_;refine ah a 0 rfl ay ax rfl ?_;refine iN ao ?_;refine bn ?_;refine rpG ?_;refine done a ?_;rw [O7,hn,aP g,eL,eL]
   congr 1
   rw [iq];omega
 ·refine eW g ?_;refine rpG ?_;exact done a (by rw [O7,bf g,ig])
theorem oz {t:T} {cs:List Value} (h:RdT S cs t):Pure Tryz.prog HW [.agg cs.toArray] S (.bool (nI t)):=by
 intro w a;obtain ⟨kv,rfl,_,_,_,hk⟩:=RdT.iff.1 h;obtain ⟨j,l,rfl,_⟩:=id hk;refine un.2 ?_;dsimp only[un,aQ];refine bH a fun i w' a=>?_;refine ah a 0 rfl bb aw rfl ?_;by_cases g:t.kind=3
 ·refine fX g ?_;refine rpG ?_;refine ah a 0 rfl ay ax rfl ?_;refine iN ao ?_;by_cases hn:t.kids.length=2
  ·refine fX (by omega) ?_;refine rpG ?_;refine ah a 0 rfl bk aZ rfl ?_;refine Run.callPure fQ fK a (ey _ S) fun w' a=>?_;refine fC ?_;refine rpG ?_;exact done a (by rw [nI,aP g,aP hn,eL,eL])
  ·refine eW (by omega) ?_;refine rpG ?_;exact done a (by rw [nI,bf hn,ig,Bi])
 ·refine eW g ?_;refine rpG ?_;exact done a (by rw [nI,bf g,ig])
theorem pS {t:T} {cs:List Value} (h:RdT S cs t):Pure Tryz.prog KC [.agg cs.toArray] S (.bool (yf t)):=by
 intro w a;obtain ⟨kv,rfl,_,_,_,hk⟩:=RdT.iff.1 h;obtain ⟨j,l,rfl,_⟩:=id hk;refine xw.2 ?_;dsimp only[xw,aQ];refine bH a fun i w' a=>?_;refine ah a 0 rfl bb aw rfl ?_;by_cases g:t.kind=3
 ·refine fX g ?_;refine rpG ?_;refine ah a 0 rfl ay ax rfl ?_;refine iN ao ?_;by_cases hn:t.kids.length=0
  ·refine fX (by omega) ?_;refine rpG ?_;refine ah a 0 rfl bk aZ rfl ?_;refine Run.callPure fQ fK a (ey _ S) fun w' a=>?_;refine fC ?_;refine rpG ?_;exact done a (by rw [yf,aP g,aP hn,eL,eL])
  ·refine eW (by omega) ?_;refine rpG ?_;exact done a (by rw [yf,bf hn,ig,Bi])
 ·refine eW g ?_;refine rpG ?_;exact done a (by rw [yf,bf g,ig])
theorem Av (n:Bs) (hn:n.length<=1000000):Pure Tryz.prog E6 [.string (st n)] S (.string (st (iL n))):=by
 intro w i;refine rP.2 ?_;dsimp only[rP,aQ];refine ⟨fun b w'=>b=.bool (decide (n=[105,115]) || decide (n=[109,111,100]))/\Inv w [] [] S w',?_,?_⟩
 ·refine Ak (b:=[105,115]) ?_;cases l:decide (n=[105,115])
  ·refine rpG ?_;refine Ak (b:=[109,111,100]) ?_;refine rpG ?_;exact ⟨by rw [gI],i⟩
  ·refine rpG ?_;exact ⟨by rw [uF],i⟩
 intro j _ _ _ _ _ w';rintro ⟨rfl,i⟩;refine aI (fun g=>?_) (fun g=>?_)
 ·rw [lQ,bE,bE] at g;refine dV (a:=[32]) (by simp; omega) ?_;refine dV (b:=[32]) (by simp; omega) ?_;exact done i (by rw [iL,af g]; rfl)
 ·rw [LE,ml,ml] at g;exact done i (by rw [iL,ae (by rintro (h|h); exact g.1 h; exact g.2 h)])
theorem Db (s:Bs) (g:0<s.length):Pure Tryz.prog Hm [.string (st s)] S (.bool (Fk s)):=by
 intro w a;refine uA.2 ?_;dsimp only[uA,aQ];have h:Fk s=(sml s 0 || (dig s 0 || (upp s 0 || (sgn s 0 91 || sgn s 0 40)))):=rfl;have p:upp s 0=(decide (65<=s[0].toNat) && decide (s[0].toNat<=90)):=nU g 65 90;have q:sgn s 0 91=decide (s[0].toNat=91):=kS g 91;have r:sgn s 0 40=decide (s[0].toNat=40):=kS g 40;refine Run.callPure uT tJ a (ow s 0 S) fun w' a=>?_;cases t:sml s 0
 ·refine rpG ?_;refine Run.callPure ko km a (gZ s 0 S) fun w' a=>?_;cases u:dig s 0
  ·refine rpG ?_;refine eO (i:=0) aR g ?_;rw [t,u,gI,gI] at h;by_cases j:65<=s[0].toNat
   ·refine nS (by omega) ?_;refine rpG ?_;refine eO (i:=0) aR g ?_;by_cases l:s[0].toNat<=90
    ·refine Gx (by omega) ?_;refine rpG ?_;exact done a (by rw [h,p,aP j,aP l]; rfl)
    ·refine Oo (by omega) ?_;refine rpG ?_;refine eO (i:=0) aR g ?_;by_cases m:s[0].toNat=91
     ·refine fX (by omega) ?_;refine rpG ?_;exact done a (by rw [h,q,aP m,uF,Mv])
     ·refine eW (by omega) ?_;refine rpG ?_;refine eO (i:=0) aR g ?_;refine eW (by omega) ?_;refine rpG ?_;exact done a (by rw [h,p,q,r,bf l,bf m,bf (show ¬ s[0].toNat=40 by omega),Bi]; rfl)
   ·refine wo (by omega) ?_;refine rpG ?_;refine eO (i:=0) aR g ?_;refine eW (by omega) ?_;refine rpG ?_;refine eO (i:=0) aR g ?_;by_cases o:s[0].toNat=40
    ·refine fX (by omega) ?_;refine rpG ?_;exact done a (by rw [h,r,aP o,Mv,Mv])
    ·refine eW (by omega) ?_;refine rpG ?_;exact done a (by rw [h,p,q,r,bf j,bf (show ¬ s[0].toNat=91 by omega),bf o,ig]; rfl)
  ·refine rpG ?_;exact done a (by rw [h,u,uF,Mv])
 ·refine rpG ?_;exact done a (by rw [h,t,uF])
theorem BX {n:Int} (h:0<=n/\n<=25):Pure Tryz.prog FT [.int .i64 n] S (.string (st [UInt8.ofNat (65+n.toNat)])):=by
 intro w a;refine rR.2 ?_;dsimp only[rR,aQ];refine qu c7 ge (IntWalk.u8_in _ (by omega)) ?_;refine Rh (c:=((65+n.toNat:Nat):Int)) ?_ ?_
 ·rw [IntWalk.u8_in _ (by omega)]; omega
 refine B7 a vY Oi ge aR fun w' a=>?_;exact done a rfl
theorem HH:∀ (f n:Nat) (out r:Bs),Dj f n out=some r->out.length<r.length/\r.length<=out.length+f
 | 0,_,_,_,h=>by simp [Dj] at h
 | f+1,n,out,r,h=>by
  rw [Dj] at h;split at h
  ·have:=HH f _ _ _ h;simp only [aO] at this;omega
  ·simp only [bh] at h;subst h;simp only [aO];omega
theorem vk {f n:Nat} {r:Bs} (h:Dj f n []=some r) (hn:n<=100000) (hf:f<=1000):Pure Tryz.prog JL [.int .i64 (n:Int)] S (.string (st r)):=by
 intro w i;refine yC.2 ?_;dsimp only[yC,aQ];refine fh (by omega) ?_;refine aI (fun j=>by cases j) (fun _=>?_);refine fh (by omega) ?_;refine aI (fun j=>by cases j) (fun _=>?_);refine ⟨fun a b w'=>∃ (o m:Nat) (out:Bs),a=.int .i64 (m:Int)/\b=.string (st out)/\m<=100000/\out.length+o<=1000/\Dj o m out=some r/\Inv w [] [] S w',fun a _ _=>(intOf a).toNat,⟨f,n,[],rfl,rfl,hn,by simpa using hf,h,i⟩,?_⟩;intro t _ _ u _ _ _ _ _ _ _ _ _ _ w';rintro ⟨o,m,out,rfl,rfl,B,p,l,i⟩;cases o with
 | zero=>simp [Dj] at l
 | succ g=>
 rw [Dj] at l;split at l
 ·rename_i q
  refine JK (by omega) ?_;refine aI (fun _=>?_) (fun j=>by cases j);refine Jo (a:=m) (b:=10) rfl rfl (by omega) ?_;refine ff (a:=48) (b:=m % 10) rfl rfl (by omega) ?_;refine qu c7 ge (IntWalk.u8_in _ (by omega)) ?_;refine B7 i vY Oi ge aR fun w' i=>?_;refine dV (by simp; omega) ?_;refine Ks (a:=m) (b:=10) rfl rfl (by omega) (by omega) ?_;refine ⟨⟨g,m / 10,UInt8.ofNat (48+m % 10)::out,rfl,rfl,by omega,by simp only [aO]; omega,l,i⟩,?_⟩;simp only [intOf,eB];omega
 ·rename_i q
  refine mi (by omega) ?_;refine aI (fun j=>by cases j) (fun _=>?_);refine ff (a:=48) (b:=m) rfl rfl (by omega) ?_;refine qu c7 ge (IntWalk.u8_in _ (by omega)) ?_;refine B7 i vY Oi ge aR fun w' i=>?_;refine dV (by simp; omega) ?_;simp only [bh] at l;exact done i (by rw [<- l]; rfl)
theorem Iv {n:Int} {r:Bs} (h:Rj n=some r) (hn:-999<=n/\n<=999):Pure Tryz.prog MJ [.int .i64 n] S (.string (st r)):=by
 intro w g;refine BA.2 ?_;dsimp only[BA,aQ];unfold Rj at h;split at h
 ·rename_i i
  refine z0 i ?_;refine aI (fun _=>?_) (fun j=>by cases j);refine Q9 (by omega) ?_;obtain ⟨m,p⟩:∃ m:Nat,-n=(m:Int):=⟨(-n).toNat,by omega⟩
  rw [p] at h ⊢;rw [eB,l0] at h;obtain ⟨l,o,rfl⟩:=h;have:=HH _ _ _ _ o;refine Run.callPure xB yo g (vk o (by omega) (by omega)) fun w' g=>?_;refine dV (a:=[45]) (by simp only [cq,aO] at this ⊢; omega) ?_;exact done g rfl
 ·rename_i i
  refine fh i ?_;refine aI (fun j=>by cases j) (fun _=>?_);obtain ⟨m,rfl⟩:∃ m:Nat,n=(m:Int):=⟨n.toNat,by omega⟩
  rw [eB] at h;refine Run.callPure xB yo g (vk h (by omega) (by omega)) fun w' g=>?_;exact done g rfl
theorem Fp {t:T} {cs:List Value} {x:Bs} (h:RdT S cs t) (u:AX t=false) (i:PA t=some x):Pure Tryz.prog Lf [.agg cs.toArray] S (.string (st x)):=by
 intro w g;have C:=h;obtain ⟨kv,rfl,_,_,_,hk⟩:=RdT.iff.1 h;obtain ⟨q,r,rfl,_⟩:=id hk;refine yV.2 ?_;dsimp only[yV,aQ];unfold PA at i;refine bH g fun p w' g=>?_;refine ah g 0 rfl bb aw rfl ?_;split at i
 ·rename_i m
  refine fX m ?_;refine aI (fun _=>?_) (fun j=>by cases j);refine ah g 0 rfl aV aw rfl ?_;split at i
  ·rename_i l
   refine Run.callPure C0 Dc g (BX l) fun w' g=>?_;simp only [bh] at i;exact done g (by rw [<- i])
  ·cases i
 ·rename_i m
  refine eW m ?_;refine aI (fun j=>by cases j) (fun _=>?_);split at i
  ·rename_i l
   refine fX l ?_;refine aI (fun _=>?_) (fun j=>by cases j);refine ah g 0 rfl aV aw rfl ?_;split at i
   ·rename_i o
    refine Run.callPure JB KK g (Iv i o) fun w' g=>?_;exact done g rfl
   ·cases i
  ·rename_i l
   refine eW l ?_;refine aI (fun j=>by cases j) (fun _=>?_);split at i
   ·rename_i o
    simp only [bh] at i;refine aq g 0 ad rfl rfl ?_;refine Run.callPure qq oV g (lk C) fun w' g=>?_;rw [u];refine aI (fun j=>by cases j) (fun _=>?_);refine ah g 0 rfl bk aZ rfl ?_;refine ⟨fun a b w'=>a=.int .i64 0/\b=.string t.name/\Inv w [] [.blk p (.cells #[.int .i64 t.kind,.int .i64 t.n,.string t.name,.slice q t.kids.length r] ac)] S w',fun _ _ _=>0,⟨rfl,rfl,g⟩,?_⟩;intro D _ _ _ _ _ _ _ _ _ _ _ _ B _ _ _ _ _ _ _ _ _ w';rintro ⟨rfl,rfl,g⟩;refine ah g 0 rfl ay ax rfl ?_;refine iN ao ?_;refine fh (by omega) ?_;refine aI (fun j=>by cases j) (fun _=>?_);refine ⟨fun b w'=>b=.string t.name/\Inv w [] [.blk p (.cells #[.int .i64 t.kind,.int .i64 t.n,.string t.name,.slice q t.kids.length r] ac)] S w',?_,?_⟩
    ·refine ah g 0 rfl ay ax rfl ?_;refine iN ao ?_;refine mi (by omega) ?_;refine aI (fun j=>by cases j) (fun _=>?_);exact ⟨rfl,g⟩
    intro B _ _ _ _ _ _ w';rintro ⟨rfl,g⟩;exact done g (by rw [<- i])
   ·cases i
end
theorem Ey:∀ (f:Nat) (l:List T) (out x:Bs),oc f l out=some x->out.length<=x.length
 | 0,_,_,_,h=>by simp [oc] at h
 | _+1,[],out,x,h=>by simp [oc] at h; subst h; exact be _
 | f+1,t::l,out,x,h=>by
  rw [oc] at h;split at h
  ·cases h
  ·have:=Ey f _ _ _ h;simp only [bv] at this;omega
def lenOf:Value->Nat
 | .slice _ n _=>n
 | _=>0
def yX (f:Nat):Prop:=∀ (t:T) (x:Bs) (S:ag) (cs:List Value),EZ f t=some x->x.length<=1000000->RdT S cs t->Pure Tryz.prog JJ [.agg cs.toArray] S (.string (st x))
def JU (f:Nat):Prop:=∀ (t:T) (x:Bs) (S:ag) (cs:List Value),DM f t []=some x->x.length<=1000000->RdT S cs t->Pure Tryz.prog JM [.agg cs.toArray] S (.string (st x))
def Fj (f:Nat):Prop:=∀ (ts:List T) (x:Bs) (S:ag) (u:Value),oc f ts []=some x->x.length<=1000000->RdSl S 4 (RdT S) u ts->Pure Tryz.prog JH [u] S (.string (st x))
def qG (f:Nat):Prop:=∀ (t:T) (l:Int) (x:Bs) (S:ag) (cs:List Value),p7 f t l=some x->x.length<=1000000->RdT S cs t->Pure Tryz.prog CJ [.agg cs.toArray,.int .i64 l] S (.string (st x))
def JV (f:Nat):Prop:=∀ (t:T) (l:Int) (x:Bs) (S:ag) (cs:List Value),Ll f t l=some x->x.length<=1000000->RdT S cs t->Pure Tryz.prog Kj [.agg cs.toArray,.int .i64 l] S (.string (st x))
def EP (f:Nat):Prop:=∀ (t:T) (l:Int) (x:Bs) (S:ag) (cs:List Value),Fv f t l=some x->x.length<=1000000->RdT S cs t->Pure Tryz.prog G2 [.agg cs.toArray,.int .i64 l] S (.string (st x))
section
attribute [local irreducible] Run CondV aC aU
theorem PX {f:Nat} (D:∀ g,g<f->yX g):Fj f:=by
 intro ts x S u h U t w o;refine yt.2 ?_;dsimp only[yt,aQ];refine ⟨fun a b w'=>∃ (r j:Nat) (out l:Bs),r<=f/\j<=ts.length/\a=.int .i64 (j:Int)/\b=.string (st out)/\l=out++(if 0<j/\j<ts.length then [44] else [])/\oc r (ts.drop j) l=some x/\Inv w [] [] S w',
  fun a _ _=>ts.length - (intOf a).toNat,⟨f,0,[],[],be _,aK _,rfl,rfl,by simp,h,o⟩,?_⟩
 intro V _ _ _ _ _ _ _ _ _ G _ _ _ _ _ _ _ _ w';rintro ⟨r,j,out,l,J,Y,rfl,rfl,i,p,o⟩;cases r with
 | zero=>simp [oc] at p
 | succ g=>
 refine aG t ao ?_;refine cu ?_;refine aS (fun B=>?_) (fun B=>?_)
 ·have q:j<ts.length:=by omega
  rw [dR q,oc] at p;split at p
  ·cases p
  rename_i y M
  have m:=Ey _ _ _ _ p;simp only [bv] at m;refine ⟨fun b w'=>b=.string (st l)/\Inv w [] [] S w',?_,?_⟩
  ·refine fC ?_;refine aS (fun N=>?_) (fun N=>?_)
   ·rw [af (by omega)] at i;refine dV (b:=[44]) (by rw [i,bv] at m; simp only [aO,cq] at m ⊢; omega) ?_;exact ⟨by rw [i],o⟩
   ·rw [ae (by omega),dc] at i;exact ⟨by rw [i],o⟩
  intro G _ _ _ _ w';rintro ⟨rfl,o⟩;refine dy o t ao ad q (fun _ _=>RdT.length) fun cs C=>?_;refine Run.callPure f0 gu o (D g (by omega) _ y S cs M (by omega) C) fun w' o=>?_;refine dV (by omega) ?_;refine bF (by have:=t.le; simp only [maxLen] at this; omega) ?_;refine ⟨⟨g,j+1,l++y,_,by omega,q,rfl,rfl,rfl,?_,o⟩,by simp only [intOf,eB]; omega⟩;have e:(if ts.drop (j+1)=[] then [] else [44]:Bs)=if 0<j+1/\j+1<ts.length then [44] else []:=by
   by_cases Z:j+1<ts.length
   ·rw [ae (fun O=>by rw [List.drop_eq_nil_iff] at O; omega),af (by omega)]
   ·rw [af (Cj (by omega)),ae (by omega)]
  rw [<- e];exact p
 ·have:j=ts.length:=by omega
  subst this;rw [ew,oc] at p;simp only [bh] at p;rw [ae (by omega),dc] at i;exact done o (by rw [<- p,i])
theorem Kv {f:Nat} (p:∀ g,g<f->yX g):qG f:=by
 intro t l x S cs h G hc w i;cases f with
 | zero=>simp [p7] at h
 | succ g=>
 rw [p7] at h;split at h
 ·cases h
 rename_i y q
 simp only [bh] at h;have o:=hc;obtain ⟨kv,rfl,_,_,_,hk⟩:=RdT.iff.1 hc;obtain ⟨C,D,rfl,_⟩:=id hk;have m:y.length<=1000000/\y.length+2<=9000000:=by
  have:y.length<=x.length:=by
   rw [<- h]; split
   ·simp; omega
   ·omega
  omega
 refine qr.2 ?_;dsimp only[qr,bm];refine bH i fun B w' i=>?_;refine ⟨fun b w'=>b=.bool (nI t && decide (l<cW t.name))/\Inv w [] [.blk B (.cells #[.int .i64 t.kind,.int .i64 t.n,.string t.name,.slice C t.kids.length D] ac)] S w',?_,?_⟩
 ·refine aq i 0 ad rfl rfl ?_;refine Run.callPure u5 uN i (oz o) fun w' i=>?_;cases hf:nI t
  ·refine rpG ?_;exact ⟨by rw [ig],i⟩
  ·refine rpG ?_;refine ah i 0 rfl bk aZ rfl ?_;refine Run.callPure fQ fK i (ey _ S) fun w' i=>?_;refine fC ?_;refine rpG ?_;exact ⟨by rw [eL],i⟩
 intro u _ _ _ _ _ _ _ _ w';rintro ⟨rfl,i⟩;refine aI (fun j=>?_) (fun j=>?_)
 ·rw [bJ,bE] at j;rw [af j] at h;refine aq i 0 ad rfl rfl ?_;refine Run.callPure f0 gu i (p g (by omega) t y S _ q m.1 o) fun w' i=>?_;refine dV (a:=[40]) (by simp only [aO,cq]; omega) ?_;refine dV (b:=[41]) (by simp only [bv,aO,cq]; omega) ?_;exact done i (by rw [<- h])
 ·rw [ae (fun r=>by rw [RW,ml] at j; rcases j with j|j; rw [r.1] at j; cases j; exact j r.2)] at h;refine aq i 0 ad rfl rfl ?_;refine Run.callPure f0 gu i (p g (by omega) t y S _ q m.1 o) fun w' i=>?_;exact done i (by rw [<- h])
theorem Qx {f:Nat} (q:∀ g,g<f->yX g) (j:∀ g,g<f->qG g):JV f:=by
 intro t l x S cs h r hc w i;cases f with
 | zero=>simp [Ll] at h
 | succ g=>
 rw [Ll] at h;have p:=hc;obtain ⟨kv,rfl,_,_,_,hk⟩:=RdT.iff.1 hc;obtain ⟨D,G,rfl,_⟩:=id hk;refine yO.2 ?_;dsimp only[yO,bm];refine bH i fun C w' i=>?_;refine aq i 0 ad rfl rfl ?_;refine Run.callPure x0 yl i (pS p) fun w' i=>?_;split at h
 ·rename_i m
  split at h
  ·cases h
  rename_i y u
  simp only [bh] at h;have B:y.length+2=x.length:=by rw [<- h]; simp only [bv,aO,cq]; omega
  rw [m];refine aI (fun _=>?_) (fun o=>by cases o);refine aq i 0 ad rfl rfl ?_;refine Run.callPure f0 gu i (q g (by omega) t y S _ u (by omega) p) fun w' i=>?_;refine dV (a:=[40]) (by simp only [aO,cq]; omega) ?_;refine dV (b:=[41]) (by simp only [bv,aO,cq]; omega) ?_;exact done i (by rw [<- h])
 ·rename_i m
  rw [cS.2 m];refine aI (fun o=>by cases o) (fun _=>?_);refine aq i 0 ad rfl rfl ?_;refine Run.callPure pU qs i (j g (by omega) t l x S _ h r p) fun w' i=>?_;exact done i rfl
theorem Pw {f:Nat} (m:∀ g,g<f->qG g):EP f:=by
 intro t l x S cs h M hc w i;cases f with
 | zero=>simp [Fv] at h
 | succ g=>
 rw [Fv] at h;split at h
 ·cases h
 rename_i y B
 split at h
 ·cases h
 rename_i o
 simp only [bh] at h;have p:0<y.length:=by
  cases y with
  | nil=>exact absurd rfl o
  | cons a l=>simp
 have q:y.length<=1000000:=by
  have:y.length<=x.length:=by
   rw [<- h]; split
   ·simp; omega
   ·omega
  omega
 have u:=hc;obtain ⟨kv,rfl,_,_,_,hk⟩:=RdT.iff.1 hc;obtain ⟨G,J,rfl,_⟩:=id hk;refine vi.2 ?_;dsimp only[vi,bm];refine bH i fun D w' i=>?_;refine aq i 0 ad rfl rfl ?_;refine Run.callPure pU qs i (m g (by omega) t l y S _ B q u) fun w' i=>?_;refine ⟨fun b w'=>b=.bool (yf t || !Fk y)/\Inv w [] [.blk D (.cells #[.int .i64 t.kind,.int .i64 t.n,.string t.name,.slice G t.kids.length J] ac)] S w',?_,?_⟩
 ·refine aq i 0 ad rfl rfl ?_;refine Run.callPure x0 yl i (pS u) fun w' i=>?_;cases N:yf t
  ·refine rpG ?_;refine Run.callPure Ft E3 i (Db y p) fun w' i=>?_;refine cU ?_;refine rpG ?_;exact ⟨by rw [gI],i⟩
  ·refine rpG ?_;exact ⟨by rw [uF],i⟩
 intro C _ _ _ _ _ _ w';rintro ⟨rfl,i⟩;refine aI (fun j=>?_) (fun j=>?_)
 ·rw [lQ,rn] at j;rw [af j] at h;refine dV (a:=[40]) (by simp only [aO,cq]; omega) ?_;refine dV (b:=[41]) (by simp only [bv,aO,cq]; omega) ?_;exact done i (by rw [<- h])
 ·rw [ae (fun r=>by rw [<- rn,<- lQ,j] at r; cases r)] at h;exact done i (by rw [<- h])
theorem Qf {f:Nat} (hf:f<=100000) (ih:∀ g,g<f->yX g) (O:∀ g,g<f->Fj g):JU f:=by
 intro t x S cs h hx hc w j;obtain ⟨kv,rfl,_,_,_,hk⟩:=RdT.iff.1 hc;refine yY.2 ?_;dsimp only[yY,aQ];refine bH j fun V w' j=>?_;refine fc j bA fun v0 w' j=>?_;refine ⟨fun a w'=>∃ (f':Nat) (r:T) (l:List T) (ds:List Value) (css:List (List Value)),f'+l.length=f/\DM f' r l=some x/\RdT S ds r/\Rows 4 (RdT S) css l/\(∃ p m,a=.slice p l.length m)/\Inv w [] [.blk V (.cells ds.toArray ac),aB a ac 4 css] S w',
  fun a _=>f+1 - lenOf a,⟨f,t,[],_,[],by simp,h,hc,Rows.nil _ _,?_,j⟩,?_⟩
 ·have G:Inv w [] ([Item.blk V (.cells #[.int .i64 t.kind,.int .i64 t.n,.string t.name,kv] ac)]++[aB v0 ac 4 []]) S w':=j;obtain ⟨S1,_,B,_⟩:=Inv.lendExt G;obtain ⟨p,m,e,_⟩:=RowRd.rows (Rows.nil 4 (RdT S)) B;exact ⟨p,m,e⟩
 clear h hc hk j;intro _ _ _ _ t3 _ _ _ _ _ _ _ _ _ w';rintro ⟨f',r,l,ds,css,a4,q,hd,hR,⟨p,m,rfl⟩,j⟩;have N:=hd;obtain ⟨kd,rfl,_,_,_,hk⟩:=RdT.iff.1 hd;have a5:=hR.hc;cases f' with
 | zero=>simp [DM] at q
 | succ g=>
 rw [DM] at q;refine aq j 0 ad rfl rfl ?_;refine Run.callPure qq oV j (lk N) fun w' j=>?_;split at q
 ·rename_i hp
  split at q
  ·rename_i a b a0
   rw [hp];refine aI (fun _=>?_) (fun M=>by cases M);rw [a0] at hk;refine ah j 0 rfl ay ax rfl ?_;refine dy (i:=0) j hk ao ad (by simp) (fun _ _=>RdT.length) fun es u=>?_;rw [oC] at u;refine dC (css:=css) j 1 es bA (by omega) (by omega) rfl u.length u.one (by omega) (by omega) fun v' w' j=>?_;refine ah j 0 rfl ay ax rfl ?_;refine dy (i:=1) j hk ao ad (by simp) (fun _ _=>RdT.length) fun gs J=>?_;rw [Pe,oC] at J;have a1:=J.length;refine al j 0 rfl ad (by simpa using a1) rfl (by simpa using J.one) fun w' j=>?_;have Y:=hR.snoc u u.length;have G:Inv w [] ([Item.blk V (.cells gs.toArray ac)]++[aB v' ac 4 (css++[es])]) S w':=j;obtain ⟨S1,C,B,_⟩:=Inv.lendExt G;obtain ⟨p',m',e',_⟩:=RowRd.rows Y B;refine ⟨⟨g,b,l++[a],gs,css++[es],by rw [bv]; simp only [aO,cq]; omega,q,J,Y,⟨p',m',e'⟩,j⟩,?_⟩;rw [e'];simp only [lenOf,bv,aO,cq];omega
  ·cases q
 ·rename_i hp
  rw [cS.2 hp];refine aI (fun M=>by cases M) (fun _=>?_);split at q
  ·cases q
  rename_i y hy
  refine aq j 0 ad rfl rfl ?_;refine Run.callPure JW JG j (CQ N) fun w' j=>?_;have G:Inv w [] ([Item.blk V (.cells #[.int .i64 r.kind,.int .i64 r.n,.string r.name,kd] ac)]++[aB (.slice p l.length m) ac 4 css]) S w':=j;obtain ⟨S1,C,B,j⟩:=Inv.lendExt G;have Z:=RowRd.rows (hR.monoR fun _ _ h=>RdT.mono C.1 h) B;have a2:=RdT.mono C.1 N;split at q
  ·rename_i hn
   simp only [bh] at q;have a3:y.length+2=x.length:=by rw [<- q]; simp only [bv,aO,cq]; omega
   rw [hn];refine aI (fun _=>?_) (fun M=>by cases M);refine Run.callPure pL p6 j (O g (by omega) l y S1 _ hy (by omega) Z) fun w' j=>?_;refine dV (a:=[91]) (by simp only [aO,cq]; omega) ?_;refine dV (b:=[93]) (by simp only [bv,aO,cq]; omega) ?_;exact yp j C.1 (by rw [<- q])
  ·rename_i hn
   split at q
   ·cases q
   rename_i z hz
   simp only [bh] at q;have a3:y.length+z.length+3=x.length:=by rw [<- q]; simp only [bv,aO,cq]; omega
   rw [cS.2 hn];refine aI (fun M=>by cases M) (fun _=>?_);refine ⟨fun D x2 yy tF AV lo DL tq io pT w_=>Fx D 0 [pT=.slice p l.length m,io=.string (st y),tq=.string (st ([91]++y)),DL=.string (st ([91]++y++[124])),lo=.agg #[.int .i64 r.kind,.int .i64 r.n,.string r.name,kd],AV=.string (st z),tF=.string (st ([91]++y++[124]++z)),yy=.string (st ([91]++y++[124]++z++[93])),x2=.string (st ([91]++y++[124]++z++[93]))]/\Inv w [] [.blk V (.cells #[.int .i64 r.kind,.int .i64 r.n,.string r.name,kd] ac)] S1 w_,⟨Fx.nil _ _,j.draw⟩,⟨?_,?_,?_,?_,?_,?_,?_,?_,?_,trivial⟩,?_⟩;all_goals (intro D bw; intros; rename_i x2 yy tF AV lo DL tq io pT w_ U; have o:=U.1; obtain ⟨⟨cG,cf,cD,cF,bQ,cE,bZ,cL,dw,_⟩,j⟩:=U)
   ·exact ⟨o.set 0 rfl,j⟩
   ·obtain rfl:=cG ‹_›;refine Run.callPure pL p6 j (O g (by omega) l y S1 _ hy (by omega) Z) fun w_ j=>?_;exact ⟨o.set 1 rfl,j⟩
   ·obtain rfl:=cf ‹_›;refine dV (a:=[91]) (by simp only [aO,cq]; omega) ?_;exact ⟨o.set 2 rfl,j⟩
   ·obtain rfl:=cD ‹_›;refine dV (b:=[124]) (by simp only [bv,aO,cq]; omega) ?_;exact ⟨o.set 3 rfl,j⟩
   ·refine aq j 0 ad rfl rfl ?_;exact ⟨o.set 4 rfl,j⟩
   ·obtain rfl:=bQ ‹_›;refine Run.callPure f0 gu j (ih g (by omega) r z S1 _ hz (by omega) a2) fun w_ j=>?_;exact ⟨o.set 5 rfl,j⟩
   ·obtain rfl:=cF ‹_›;obtain rfl:=cE ‹_›;refine dV (by simp only [bv,aO,cq]; omega) ?_;exact ⟨o.set 6 rfl,j⟩
   ·obtain rfl:=bZ ‹_›;refine dV (b:=[93]) (by simp only [bv,aO,cq]; omega) ?_;exact ⟨o.set 7 rfl,j⟩
   ·obtain rfl:=cL ‹_›;exact ⟨o.set 8 rfl,j⟩
   obtain ⟨rfl,rfl,rfl,rfl,rfl,rfl,rfl,rfl,rfl,_⟩:=o.all;clear o cG cf cD cF bQ cE bZ cL dw;exact yp j C.1 (by rw [<- q])
theorem RD {f:Nat} (a2:∀ g,g<f->JU g) (a3:∀ g,g<f->Fj g) (a4:∀ g,g<f->JV g) (a5:∀ g,g<f->EP g):yX f:=by
 intro t x S cs h hx hc w l;cases f with
 | zero=>simp [EZ] at h
 | succ g=>
 rw [EZ] at h;have h0:=hc;obtain ⟨kv,rfl,_,_,_,hk⟩:=RdT.iff.1 hc;refine yW.2 ?_;dsimp only[yW,aQ];refine bH l fun G w' l=>?_;obtain ⟨B1,q⟩:∃ B1,B1=Item.blk G (.cells #[.int .i64 t.kind,.int .i64 t.n,.string t.name,kv] ac):=⟨_,rfl⟩
 refine aq l 0 ad rfl rfl ?_;refine Run.callPure qq oV l (lk h0) fun w' l=>?_;split at h
 ·rename_i U
  rw [U];refine aI (fun _=>?_) (fun p=>by cases p);refine aq l 0 ad rfl rfl ?_;refine Run.callPure Hy G6 l (a2 g (by omega) t x S _ h hx h0) fun w' l=>?_;exact done l rfl
 rename_i U
 have U:=cS.2 U;rw [U];refine aI (fun p=>by cases p) (fun _=>?_);refine aq l 0 ad rfl rfl ?_;refine Run.callPure u5 uN l (oz h0) fun w' l=>?_;split at h
 ·rename_i hf
  rw [hf];refine aI (fun _=>?_) (fun p=>by cases p);split at h
  ·rename_i a b a6
   obtain ⟨u,Y⟩:∃ u,u=cW t.name:=⟨_,rfl⟩
   rw [<- Y] at h;have b7:1<=u/\u<=3:=by
    have h1:0<cW t.name:=by
     unfold nI at hf;simp only [bJ,bE] at hf;exact hf.2.2
    have h2:cW t.name<=3:=by
     unfold cW;split
     ·omega
     ·split
      ·omega
      ·split <;> omega
    omega
   split at h
   ·rename_i y z hy hz
    simp only [bh] at h;have a1:y.length+(iL (bs t.name)).length+z.length=x.length:=by rw [<- h]; simp only [bv]
    have b8:(bs t.name).length<=(iL (bs t.name)).length:=by
     unfold iL;split
     ·simp; omega
     ·omega
    rw [a6] at hk;obtain ⟨Z,M,r,c2,E2,b3,rfl,hS,N⟩:=hk.at_ (i:=0) (by simp);obtain ⟨b4,b5,a7,b6,E2',a9,a8,a0,O⟩:=hk.at_ (i:=1) (by simp);cases a8;rw [hS] at a0;cases a0;rw [oC] at N;rw [Pe,oC] at O;refine ah l 0 rfl bk aZ rfl ?_;refine Run.callPure fQ fK l (ey _ S) fun w' l=>?_;rw [<- Y];have l:Inv w [] [B1] S w':=by rw [q]; exact l
    refine ⟨fun v w'=>v=.int .i64 (if u=3 then 2 else u)/\Inv w [] [B1] S w',?_,?_⟩
    ·refine bn ?_;refine aS (fun J=>⟨by rw [af J],l⟩) (fun J=>⟨by rw [ae J],l⟩)
    intro t4 _ _ w';rintro ⟨rfl,l⟩;subst q
    skip
    refine ⟨fun D V ra xp z4 DZ Du yy tF AV lo DL tq io pT rU ry oQ nq pX B=>Fx D 0 [pX=.pointer (some ⟨G,3,none⟩),nq=.slice (some ⟨Z,M,none⟩) [a,b].length r,oQ=.pointer (some ⟨Z,M+0 * 4,none⟩),ry=.agg (bB c2 (M+0 * 4) 4).toArray,rU=.int .i64 (if u=3 then 2 else u),pT=.string (st y),io=.pointer (some ⟨G,2,none⟩),tq=.string t.name,DL=.string (st (iL (bs t.name))),lo=.string (st (y++iL (bs t.name))),AV=.pointer (some ⟨G,3,none⟩),tF=.slice (some ⟨Z,M,none⟩) [a,b].length r,yy=.pointer (some ⟨Z,M+1 * 4,none⟩),Du=.agg (bB c2 (M+1 * 4) 4).toArray,DZ=.int .i64 u,z4=.int .i64 (u - 1),xp=.string (st z),ra=.string (st (y++iL (bs t.name)++z)),V=.string (st (y++iL (bs t.name)++z))]/\Inv w [] [.blk G (.cells #[.int .i64 t.kind,.int .i64 t.n,.string t.name,.slice (some ⟨Z,M,none⟩) [a,b].length r] ac)] S B,⟨Fx.nil _ _,l.draw⟩,⟨?_,?_,?_,?_,?_,?_,?_,?_,?_,?_,?_,?_,?_,?_,?_,?_,?_,?_,?_,trivial⟩,?_⟩;all_goals (intro D bw; intros; rename_i V ra xp z4 DZ Du yy tF AV lo DL tq io pT rU ry oQ nq pX B o; have m:=o.1; obtain ⟨⟨cG,cf,cD,cF,bQ,cE,bZ,cL,dw,dl,ci,c8,dN,fJ,il,im,iQ,ln,ll,_⟩,l⟩:=o)
    ·refine au ay ?_;exact ⟨m.set 0 rfl,l⟩
    ·obtain rfl:=cG ‹_›;refine aD l 0 ax rfl rfl ?_;exact ⟨m.set 1 rfl,l⟩
    ·obtain rfl:=cf ‹_›;refine aT (i:=0) ao (by simp) ?_;exact ⟨m.set 2 rfl,l⟩
    ·obtain rfl:=cD ‹_›;refine dX ad N.length (fun j v hj=>by rw [l.cellS hS]; exact bd rfl j v hj) ?_;exact ⟨m.set 3 rfl,l⟩
    ·exact ⟨m.set 4 rfl,l⟩
    ·obtain rfl:=cF ‹_›;obtain rfl:=bQ ‹_›;refine Run.callPure Id Hd l (a4 g (by omega) a _ y S _ hy (by omega) N) fun B l=>?_;exact ⟨m.set 5 rfl,l⟩
    ·refine au bk ?_;exact ⟨m.set 6 rfl,l⟩
    ·obtain rfl:=bZ ‹_›;refine aD l 0 aZ rfl rfl ?_;exact ⟨m.set 7 rfl,l⟩
    ·obtain rfl:=cL ‹_›;refine Run.callPure Da Dd l (Av (bs t.name) (by omega)) fun B l=>?_;exact ⟨m.set 8 rfl,l⟩
    ·obtain rfl:=cE ‹_›;obtain rfl:=dw ‹_›;refine dV (by omega) ?_;exact ⟨m.set 9 rfl,l⟩
    ·refine au ay ?_;exact ⟨m.set 10 rfl,l⟩
    ·obtain rfl:=ci ‹_›;refine aD l 0 ax rfl rfl ?_;exact ⟨m.set 11 rfl,l⟩
    ·obtain rfl:=c8 ‹_›;refine aT (i:=1) ao (by simp) ?_;exact ⟨m.set 12 rfl,l⟩
    ·obtain rfl:=dN ‹_›;refine dX ad O.length (fun j v hj=>by rw [l.cellS hS]; exact bd rfl j v hj) ?_;exact ⟨m.set 13 rfl,l⟩
    ·exact ⟨m.set 14 rfl,l⟩
    ·obtain rfl:=il ‹_›;refine jx (by omega) ?_;exact ⟨m.set 15 rfl,l⟩
    ·obtain rfl:=fJ ‹_›;obtain rfl:=im ‹_›;refine Run.callPure FO F6 l (a5 g (by omega) b _ z S _ hz (by omega) O) fun B l=>?_;exact ⟨m.set 16 rfl,l⟩
    ·obtain rfl:=dl ‹_›;obtain rfl:=iQ ‹_›;refine dV (by rw [bv]; omega) ?_;exact ⟨m.set 17 rfl,l⟩
    ·obtain rfl:=ln ‹_›;exact ⟨m.set 18 rfl,l⟩
    obtain ⟨rfl,rfl,rfl,rfl,rfl,rfl,rfl,rfl,rfl,rfl,rfl,rfl,rfl,rfl,rfl,rfl,rfl,rfl,rfl,_⟩:=m.all;clear m cG cf cD cF bQ cE bZ cL dw dl ci c8 dN fJ il im iQ ln ll;exact done l (by rw [<- h])
   ·cases h
  ·cases h
 ·rename_i hf
  rw [cS.2 hf];refine aI (fun p=>by cases p) (fun _=>?_);obtain ⟨ka,kc,rfl,_⟩:=id hk;refine ⟨fun v w'=>v=.bool (decide (t.kind=3) && decide (0<t.kids.length))/\Inv w [] [B1] S w',?_,?_⟩
  ·refine ah l 0 rfl bb aw rfl ?_;by_cases J:t.kind=3
   ·refine fX J ?_;refine rpG ?_;refine ah l 0 rfl ay ax rfl ?_;refine iN ao ?_;refine fC ?_;refine rpG ?_;refine ⟨?_,by rw [q]; exact l⟩;rw [aP J,eL]
    congr 1
    rw [iq];omega
   ·refine eW J ?_;refine rpG ?_;exact ⟨by rw [bf J,ig],by rw [q]; exact l⟩
  intro b0 _ _ _ _ _ _ _ _ _ w';rintro ⟨rfl,l⟩;subst q;split at h
  ·rename_i C
   rw [aP C.1,aP C.2];refine aI (fun _=>?_) (fun p=>by cases p);split at h
   ·rename_i y hy
    simp only [bh] at h;have a1:(bs t.name).length+y.length+2=x.length:=by rw [<- h]; simp only [bv,aO,cq]; omega
    skip
    refine ⟨fun D V s3 pD ot pf n6 n9 ox mG B=>Fx D 0 [mG=.pointer (some ⟨G,2,none⟩),ox=.string t.name,n9=.string (st (bs t.name++[40])),n6=.pointer (some ⟨G,3,none⟩),pf=.slice ka t.kids.length kc,ot=.string (st y),pD=.string (st (bs t.name++[40]++y)),s3=.string (st (bs t.name++[40]++y++[41])),V=.string (st (bs t.name++[40]++y++[41]))]/\Inv w [] [.blk G (.cells #[.int .i64 t.kind,.int .i64 t.n,.string t.name,.slice ka t.kids.length kc] ac)] S B,⟨Fx.nil _ _,l.draw⟩,⟨?_,?_,?_,?_,?_,?_,?_,?_,?_,trivial⟩,?_⟩;all_goals (intro D bw; intros; rename_i V s3 pD ot pf n6 n9 ox mG B o; have m:=o.1; obtain ⟨⟨cG,cf,cD,cF,bQ,cE,bZ,cL,dw,_⟩,l⟩:=o)
    ·refine au bk ?_;exact ⟨m.set 0 rfl,l⟩
    ·obtain rfl:=cG ‹_›;refine aD l 0 aZ rfl rfl ?_;exact ⟨m.set 1 rfl,l⟩
    ·obtain rfl:=cf ‹_›;refine dV (a:=bs t.name) (b:=[40]) (by simp only [aO,cq]; omega) ?_;exact ⟨m.set 2 rfl,l⟩
    ·refine au ay ?_;exact ⟨m.set 3 rfl,l⟩
    ·obtain rfl:=cF ‹_›;refine aD l 0 ax rfl rfl ?_;exact ⟨m.set 4 rfl,l⟩
    ·obtain rfl:=bQ ‹_›;refine Run.callPure pL p6 l (a3 g (by omega) t.kids y S _ hy (by omega) hk) fun B l=>?_;exact ⟨m.set 5 rfl,l⟩
    ·obtain rfl:=cD ‹_›;obtain rfl:=cE ‹_›;refine dV (by simp only [bv,aO,cq]; omega) ?_;exact ⟨m.set 6 rfl,l⟩
    ·obtain rfl:=bZ ‹_›;refine dV (b:=[41]) (by simp only [bv,aO,cq]; omega) ?_;exact ⟨m.set 7 rfl,l⟩
    ·obtain rfl:=cL ‹_›;exact ⟨m.set 8 rfl,l⟩
    obtain ⟨rfl,rfl,rfl,rfl,rfl,rfl,rfl,rfl,rfl,_⟩:=m.all;clear m cG cf cD cF bQ cE bZ cL dw;exact done l (by rw [<- h])
   ·cases h
  ·rename_i C
   have e:(decide (t.kind=3) && decide (0<t.kids.length))=false:=by
    rw [cS,ne_eq,bJ,bE,bE]; exact C
   rw [e];refine aI (fun p=>by cases p) (fun _=>?_);refine aq l 0 ad rfl rfl ?_;refine Run.callPure Hf IE l (Fp h0 U h) fun w' l=>?_;exact done l rfl
theorem L0:∀ F f,f<F->F<=1000->yX f/\JU f/\Fj f/\qG f/\JV f/\EP f
 | 0,f,h,_=>by omega
 | F+1,f,h,hF=>by
  have i:=fun g (a:g<f)=>L0 F g (by omega) (by omega);have j:yX f:=RD (fun g a=>(i g a).2.1) (fun g a=>(i g a).2.2.1) (fun g a=>(i g a).2.2.2.2.1) (fun g a=>(i g a).2.2.2.2.2);exact ⟨j,Qf (by omega) (fun g a=>(i g a).1) (fun g a=>(i g a).2.2.1),PX fun g a=>(i g a).1,Kv fun g a=>(i g a).1,Qx (fun g a=>(i g a).1) (fun g a=>(i g a).2.2.2.1),Pw fun g a=>(i g a).2.2.2.1⟩
theorem El {f:Nat} (hf:f<=100):yX f:=(L0 (f+1) f (by omega) (by omega)).1
end
end
section
open Go Go.RowKit
theorem Grown.rows {α:Type} {k:Nat} {R:bu->List Value->α->Prop} {R':List Value->α->Prop} {Ls:List bu} {css:List (List Value)} {ys:List α} {S:ag} (h:Grown k R Ls css ys) (g:Ins S Ls.flatten)
  (hR:∀ L cs x,Ins S L->R L cs x->R' cs x):Rows k R' css ys:=
 ⟨h.hc,h.hk,fun i a j=>hR _ _ _ (Fd g (by rw [h.hL]; exact a)) (h.hR i a (by rw [h.hL]; exact a) j)⟩
abbrev OE (t:T):Value->List Item->ag->Prop:=fun v I' S'=>∃ kv css,v=.agg #[.int .i64 t.kind,.int .i64 t.n,.string t.name,kv]/\I'=[aB kv ac 4 css]/\Rows 4 (RdT S') css t.kids
abbrev NH (c:C):Value->List Item->ag->Prop:=fun v I' S'=>∃ hd kv css,v=.agg (hd++[kv]).toArray/\RdT S' hd c.head/\I'=[aB kv ac 4 css]/\Rows 4 (RdT S') css c.body
section
attribute [local irreducible] Run CondV aC aU
theorem MP:∀ (t:T) (S:ag) (cs:List Value),RdT S cs t->wT t<=1048576->Tri Tryz.prog sE [.agg cs.toArray] [] S (OE t):=by
 intro t S cs h hw;obtain ⟨k,n,s,ks⟩:=t;have ih:∀ t∈ks,∀ (S:ag) (cs:List Value),RdT S cs t->wT t<=1048576->Tri Tryz.prog sE [.agg cs.toArray] [] S (D2 S t):=fun t _=>iC t;intro w g;obtain ⟨kv,rfl,h1,h2,hs,a0⟩:=RdT.iff.1 h;simp only [T.name,T.kids,T.kind,T.n] at h1 h2 hs a0 ⊢;simp only [wT] at hw;refine lF.2 ?_;dsimp only[lF,aQ];refine bH g fun b1 w' g=>?_;refine aH g aM fun b2 w' g=>?_;refine ah g 0 rfl bb aw rfl ?_;refine ah g 0 rfl aV aw rfl ?_;refine ah g 0 rfl bk aZ rfl ?_;refine pb ?_;refine aH g aM fun b3 w' g=>?_;refine al g 2 rfl ad rfl rfl (by simp [Value.oneCell']) fun w' g=>?_;have g:=g.rowNil ac 4;refine ⟨fun i w'=>∃ (j:Nat) (p:Value) (Ls:List bu) (css:List (List Value)),j<=ks.length/\i=.int .i64 j/\Grown 4 TrT Ls css (ks.take j)/\
   Inv w [] (.blk b1 (.cells #[.int .i64 k,.int .i64 n,.string s,kv] ac)::.blk b2 (.cells #[.int .i64 0,.int .i64 0,.string ⟨#[]⟩,.slice none 0 0] ac)::.blk b3 (.cells #[.int .i64 k,.int .i64 n,.string s,p] ac)::aB p ac 4 css::bG Ls.flatten) S w',
  fun i _=>ks.length - (intOf i).toNat,⟨0,_,[],[],aK _,rfl,Grown.nil _ _,g⟩,?_⟩
 intro t4 _ _ _ _ _ _ _ _ _ _ _ _ _ _ _ _ _ _ w';rintro ⟨j,p,Ls,css,hj,rfl,hg,g⟩;refine ah g 0 rfl ay ax rfl ?_;refine aG a0 ao ?_;refine cu ?_;refine aS (fun a7=>?_) (fun a7=>?_)
 ·have V:j<ks.length:=by omega
  have b0:(ks.take j).length=j:=by simp; omega
  have b4:=hg.hc;have hm:=cH V;have b5:=qk hm;obtain ⟨b,o,cap,c,E,fz,rfl,hS,hR⟩:=a0.at_ V;refine ⟨fun D AV O DL tq io pT rU ry oQ nq pX Z=>Fx D 0 [pX=.pointer (some ⟨b3,3,none⟩),nq=p,oQ=.pointer (some ⟨b1,3,none⟩),ry=.slice (some ⟨b,o,none⟩) (ks).length cap,rU=.int .i64 j,pT=.pointer (some ⟨b,o+j * 4,none⟩),io=.agg (bB c (o+j * 4) 4).toArray,True,True,True,AV=.pointer (some ⟨b3,3,none⟩),True]/\∃ M a r,(D 7=true->tq=.agg a.toArray/\TrT M a (ks)[j])/\(D 8=true->DL=.slice (some ⟨r,0,none⟩) 1 1)/\(D 8=true->D 7=true)/\(D 9=true->D 8=true)/\(D 11=true->D 9=true)/\(D 11=true->D 1=true)/\Inv w [] (bz (.blk b1 (.cells #[.int .i64 k,.int .i64 n,.string s,.slice (some ⟨b,o,none⟩) ks.length cap] ac)) (.blk b2 (.cells #[.int .i64 0,.int .i64 0,.string ⟨#[]⟩,.slice none 0 0] ac)) (.blk b3 (.cells #[.int .i64 k,.int .i64 n,.string s,p] ac)) (.blk b3 (.cells #[.int .i64 k,.int .i64 n,.string s,O] ac)) (aB p ac 4 css) (aB O ac 4 (css++[a])) (bG Ls.flatten) M (.blk r (.cells a.toArray ac)) (D 7) (D 8) (D 9) (D 11)) S Z,⟨Fx.nil _ _,⟨[],[],0,aY,aY,aY,aY,aY,aY,by simpa [bz,bG] using g.draw⟩⟩,⟨?_,?_,?_,?_,?_,?_,?_,?_,?_,?_,?_,?_,trivial⟩,?_⟩;all_goals (intro D Y; intros; rename_i AV O DL tq io pT rU ry oQ nq pX Z a2; have q:=a2.1; obtain ⟨⟨cG,cf,cD,cF,bQ,cE,bZ,cL,dw,dl,ci,c8,_⟩,⟨M,a,r,C,U,J,G,l,N,g⟩⟩:=a2)
  ·refine au ay ?_;exact ⟨q.set 0 rfl,⟨M,a,r,C,U,J,G,l,N,g⟩⟩
  ·obtain rfl:=cG ‹_›;have B:D 11=false:=cS.2 fun h=>by rw [N h] at Y; cases Y
   refine aD (b:=b3) g 2 (c:=(#[.int .i64 k,.int .i64 n,.string s,p])) ax (by rw [B]; rfl) rfl ?_;have N:=fun (_:aE D 1 11=true)=>(rfl:aE D 1 1=true)
   exact ⟨q.set 1 rfl,⟨M,a,r,C,U,J,G,l,N,g⟩⟩
  ·refine au ay ?_;exact ⟨q.set 2 rfl,⟨M,a,r,C,U,J,G,l,N,g⟩⟩
  ·obtain rfl:=cD ‹_›;refine aD g 0 ax rfl rfl ?_;exact ⟨q.set 3 rfl,⟨M,a,r,C,U,J,G,l,N,g⟩⟩
  ·exact ⟨q.set 4 rfl,⟨M,a,r,C,U,J,G,l,N,g⟩⟩
  ·obtain rfl:=cF ‹_›;obtain rfl:=bQ ‹_›;refine aT ao V ?_;exact ⟨q.set 5 rfl,⟨M,a,r,C,U,J,G,l,N,g⟩⟩
  ·obtain rfl:=cE ‹_›;refine dX ad hR.length (fun j v hj=>by rw [g.cellS hS]; exact bd rfl j v hj) ?_;exact ⟨q.set 6 rfl,⟨M,a,r,C,U,J,G,l,N,g⟩⟩
  ·obtain rfl:=bZ ‹_›;have f8:D 8=false:=cS.2 fun h=>by rw [J h] at Y; cases Y
   have f9:D 9=false:=cS.2 fun h=>by rw [G h] at f8; cases f8
   have B:D 11=false:=cS.2 fun h=>by rw [l h] at f9; cases f9
   rw [Y,f8,f9,B] at g;refine Run.call0 gv gd g (ih _ (cH V) S _ hR (by omega)) fun v' I' S Z=>?_;rintro ⟨rfl,a,M,rfl,rfl,hT⟩ _ g;have C:aE D 7 7=true->Value.agg a.toArray=Value.agg a.toArray/\TrT M a (ks)[j]:=fun _=>⟨rfl,hT⟩
   have J:=fun (_:aE D 7 8=true)=>(rfl:aE D 7 7=true)
   have g:Inv w [] (bz (.blk b1 (.cells #[.int .i64 k,.int .i64 n,.string s,.slice (some ⟨b,o,none⟩) ks.length cap] ac)) (.blk b2 (.cells #[.int .i64 0,.int .i64 0,.string ⟨#[]⟩,.slice none 0 0] ac)) (.blk b3 (.cells #[.int .i64 k,.int .i64 n,.string s,p] ac)) (.blk b3 (.cells #[.int .i64 k,.int .i64 n,.string s,O] ac)) (aB p ac 4 css) (aB O ac 4 (css++[a])) (bG Ls.flatten) M (.blk r (.cells a.toArray ac)) true (D 8) (D 9) (D 11)) S Z:=by
    rw [f8,f9,B];simpa [bz] using g
   exact ⟨q.set 7 (by first|assumption|trivial),⟨M,a,r,C,U,J,G,l,N,g⟩⟩
  ·have Cs:=cL ‹_›;have f9:D 9=false:=cS.2 fun h=>by rw [G h] at Y; cases Y
   have B:D 11=false:=cS.2 fun h=>by rw [l h] at f9; cases f9
   obtain ⟨q7,hT⟩:=C ‹D 7=true›;subst q7;rw [‹D 7=true›,Y,f9,B] at g;refine eQ g bA (by simp [Value.cells,hT.length]) (by omega) (by omega) fun r Z g=>?_;have C:aE D 8 7=true->Value.agg a.toArray=Value.agg a.toArray/\TrT M a (ks)[j]:=fun _=>⟨rfl,hT⟩
   have U:=fun (_:aE D 8 8=true)=>(rfl:Value.slice (some ⟨r,0,none⟩) 1 1=_)
   have J:=fun (_:aE D 8 8=true)=>‹D 7=true›;have G:=fun (_:aE D 8 9=true)=>(rfl:aE D 8 8=true)
   have g:Inv w [] (bz (.blk b1 (.cells #[.int .i64 k,.int .i64 n,.string s,.slice (some ⟨b,o,none⟩) ks.length cap] ac)) (.blk b2 (.cells #[.int .i64 0,.int .i64 0,.string ⟨#[]⟩,.slice none 0 0] ac)) (.blk b3 (.cells #[.int .i64 k,.int .i64 n,.string s,p] ac)) (.blk b3 (.cells #[.int .i64 k,.int .i64 n,.string s,O] ac)) (aB p ac 4 css) (aB O ac 4 (css++[a])) (bG Ls.flatten) M (.blk r (.cells a.toArray ac)) (D 7) true (D 9) (D 11)) S Z:=by
    rw [‹D 7=true›,f9,B];simpa [bz,Value.cells] using g
   exact ⟨q.set 8 (by first|assumption|trivial),⟨M,a,r,C,U,J,G,l,N,g⟩⟩
  ·obtain rfl:=cf ‹_›;have GD:=dw ‹_›;have B:D 11=false:=cS.2 fun h=>by rw [l h] at Y; cases Y
   have q8:=U ‹D 8=true›;subst q8;obtain ⟨_,hT⟩:=C ‹D 7=true›;rw [‹D 7=true›,‹D 8=true›,Y,B] at g;have a4:((bz (.blk b1 (.cells #[.int .i64 k,.int .i64 n,.string s,.slice (some ⟨b,o,none⟩) ks.length cap] ac)) (.blk b2 (.cells #[.int .i64 0,.int .i64 0,.string ⟨#[]⟩,.slice none 0 0] ac)) (.blk b3 (.cells #[.int .i64 k,.int .i64 n,.string s,nq] ac)) (.blk b3 (.cells #[.int .i64 k,.int .i64 n,.string s,O] ac)) (aB nq ac 4 css) (aB O ac 4 (css++[a])) (bG Ls.flatten) M (.blk r (.cells a.toArray ac)) true true false false))[4+(bG Ls.flatten).length+(bG M).length]?=some (.blk r (.cells a.toArray ac)):=by
    have e4:4+(bG Ls.flatten).length+(bG M).length=((bG Ls.flatten).length+(bG M).length)+1+1+1+1:=by omega
    rw [e4];simp only [bz,lY];rw [kV (by omega),sP,kV (be _),fg]; rfl
   refine eU g 3 a bA (by omega) rfl (by rw [hT.length]) (m:=1) (o:=0) ?_ hT.one (by omega) (by omega) fun v' Z g=>?_
   ·intro i u hi;rw [g.cellL a4,df];simpa using hi
   rw [fq] at g;have G:=fun (_:aE D 9 9=true)=>‹D 8=true›;have l:=fun (_:aE D 9 11=true)=>(rfl:aE D 9 9=true)
   have g:Inv w [] (bz (.blk b1 (.cells #[.int .i64 k,.int .i64 n,.string s,.slice (some ⟨b,o,none⟩) ks.length cap] ac)) (.blk b2 (.cells #[.int .i64 0,.int .i64 0,.string ⟨#[]⟩,.slice none 0 0] ac)) (.blk b3 (.cells #[.int .i64 k,.int .i64 n,.string s,nq] ac)) (.blk b3 (.cells #[.int .i64 k,.int .i64 n,.string s,v'] ac)) (aB nq ac 4 css) (aB v' ac 4 (css++[a])) (bG Ls.flatten) M (.blk r (.cells a.toArray ac)) (D 7) (D 8) true (D 11)) S Z:=by
    rw [‹D 7=true›,‹D 8=true›,B];exact g
   exact ⟨q.set 9 (by first|assumption|trivial),⟨M,a,r,C,U,J,G,l,N,g⟩⟩
  ·refine au ay ?_;exact ⟨q.set 10 rfl,⟨M,a,r,C,U,J,G,l,N,g⟩⟩
  ·obtain rfl:=ci ‹_›;have DC:=dl ‹_›;rw [‹D 7=true›,‹D 8=true›,‹D 9=true›,Y] at g;obtain ⟨va,vn,vc,a1⟩:=Inv.rowSlice g 3 rfl;refine ef g 2 (n:=1) (by rw [a1]; rfl) (by decide +kernel) rfl (by simp) (by rw [a1]; simp [Value.cells,Value.oneCell']) fun Z g=>?_;have a5:Value.cells O=#[O]:=by rw [a1]; rfl
   rw [a5] at g;have N:=fun (_:aE D 11 11=true)=>‹D 1=true›;have l:=fun (_:aE D 11 11=true)=>‹D 9=true›;have g:Inv w [] (bz (.blk b1 (.cells #[.int .i64 k,.int .i64 n,.string s,.slice (some ⟨b,o,none⟩) ks.length cap] ac)) (.blk b2 (.cells #[.int .i64 0,.int .i64 0,.string ⟨#[]⟩,.slice none 0 0] ac)) (.blk b3 (.cells #[.int .i64 k,.int .i64 n,.string s,p] ac)) (.blk b3 (.cells #[.int .i64 k,.int .i64 n,.string s,O] ac)) (aB p ac 4 css) (aB O ac 4 (css++[a])) (bG Ls.flatten) M (.blk r (.cells a.toArray ac)) (D 7) (D 8) (D 9) true) S Z:=by
    rw [‹D 7=true›,‹D 8=true›,‹D 9=true›];exact g
   exact ⟨q.set 11 trivial,⟨M,a,r,C,U,J,G,l,N,g⟩⟩
  obtain ⟨rfl,rfl,rfl,rfl,rfl,rfl,rfl,Cs,GD,DC,rfl,_,_⟩:=q.all;have sZ:D 7=true:=by assumption
  have Lh:D 8=true:=by assumption
  have NF:D 9=true:=by assumption
  have r6:D 11=true:=by assumption
  clear q cG cf cD cF bQ cE bZ cL dw dl ci c8;obtain ⟨_,hT⟩:=C sZ;rw [sZ,Lh,NF,r6] at g;refine bF (by omega) ?_;refine ⟨⟨j+1,O,Ls++[M],css++[a],V,rfl,?_,?_⟩,by simp [intOf]; omega⟩
  ·rw [ia V];exact hg.snoc hT hT.length
  ·simp only [BP,iX,s4,dc,eK];refine g.sub ?_;simp only [bz];rw [<- cN];exact (((gR _ _).cons_cons _).cons_cons _).cons_cons _ |>.cons_cons _
 ·have:j=ks.length:=by omega
  subst this;rw [iz] at hg;obtain ⟨va,vn,vc,a8⟩:=g.rowSlice 3 rfl;have a9:p.oneCell'=true:=by rw [a8]; rfl
  refine aq g 2 ad rfl rfl ?_;refine al g 1 rfl ad rfl rfl ?_ fun w' g=>?_
  ·intro u hu;have a6:u∈([.int .i64 k,.int .i64 n,.string s,p]:List Value):=hu;simp at a6;rcases a6 with rfl|rfl|rfl|rfl <;> first|rfl|exact a9
  refine bp g 1 ad rfl rfl ?_;have g:Inv w [] ([aB p ac 4 css]++bG Ls.flatten) S w':=g.sub (dU [_,_,_] _);obtain ⟨S1,g,hE,a3⟩:=g.pubExt;exact ⟨_,_,S1,rfl,g,hE,_,css,rfl,rfl,hg.rows a3 fun _ _ _ hi h=>h.rd hi⟩
theorem Ne {c0:C} {S:ag} {cs:List Value} (h:RdC S cs c0) (hw:wC c0<=1048576):Tri Tryz.prog At [.agg cs.toArray] [] S (NH c0):=by
 intro w a;obtain ⟨hd,ks,rfl,h1,h2⟩:=h;have b0:=h1;obtain ⟨kv,rfl,g1,g2,g3,g4⟩:=RdT.iff.1 h1;unfold wC at hw;refine ly.2 ?_;dsimp only[ly,aQ];refine bH a fun b1 w' a=>?_;refine aH a dn fun b2 w' a=>?_;refine au cC ?_;refine fo a 0 [.int .i64 c0.head.kind,.int .i64 c0.head.n,.string c0.head.name,kv] ad rfl rfl Kl ?_;refine Run.call0 gv gd a (iC _ S _ b0 (by omega)) fun v' I' S w'=>?_;rintro ⟨rfl,b5,N,rfl,rfl,a3⟩ _ a;obtain ⟨t,rfl,_⟩:=TrT.iff.1 a3;refine lA ?_;refine aH a dn fun b3 w' a=>?_;have a:=a.perm (M:=.blk b1 _::.blk b2 _::.blk b3 _::bG N) (((bK (l₁:=[_])).cons _).cons _);refine al a 2 rfl aN rfl rfl ?_ fun w' a=>?_
 ·intro u hu;have a1:u∈([.int .i64 c0.head.kind,.int .i64 c0.head.n,.string c0.head.name,t,.slice none 0 0]:List Value):=hu;simp at a1;have o1:t.oneCell'=true:=a3.one t (by simp);rcases a1 with rfl|rfl|rfl|rfl|rfl <;> first|rfl|exact o1
 have a:=a.rowNil ac 4;have a:=a.perm (M:=.blk b1 (.cells #[.int .i64 c0.head.kind,.int .i64 c0.head.n,.string c0.head.name,kv,ks] ai)::.blk b2 (.cells #[.int .i64 0,.int .i64 0,.string ⟨#[]⟩,.slice none 0 0,.slice none 0 0] ai)::.blk b3 (.cells #[.int .i64 c0.head.kind,.int .i64 c0.head.n,.string c0.head.name,t,.slice none 0 0] ai)::aB (.slice none 0 0) ac 4 []::bG N) ((((bK (l₁:=[_])).cons _).cons _).cons _);refine ⟨fun i w'=>∃ (j:Nat) (l:Value) (Ls:List bu) (css:List (List Value)),j<=c0.body.length/\i=.int .i64 j/\Grown 4 TrT Ls css (c0.body.take j)/\
   Inv w [] (.blk b1 (.cells #[.int .i64 c0.head.kind,.int .i64 c0.head.n,.string c0.head.name,kv,ks] ai)::.blk b2 (.cells #[.int .i64 0,.int .i64 0,.string ⟨#[]⟩,.slice none 0 0,.slice none 0 0] ai)::.blk b3 (.cells #[.int .i64 c0.head.kind,.int .i64 c0.head.n,.string c0.head.name,t,l] ai)::aB l ac 4 css::bG (N::Ls).flatten) S w',
  fun i _=>c0.body.length - (intOf i).toNat,⟨0,_,[],[],aK _,rfl,Grown.nil _ _,by simp only [iX,s4,dc]; exact a⟩,?_⟩
 intro t4 _ _ _ _ _ _ _ _ _ _ _ _ _ _ _ _ _ _ w';rintro ⟨j,l,Ls,css,hj,rfl,hg,a⟩;refine ah a 0 rfl bC ax rfl ?_;refine aG h2 ao ?_;refine cu ?_;refine aS (fun a8=>?_) (fun a8=>?_)
 ·have a2:j<c0.body.length:=by omega
  have b6:(c0.body.take j).length=j:=by simp; omega
  have b7:=hg.hc;have hm:=cH a2;have b9:=qk hm;obtain ⟨b,o,cap,c,E,fz,rfl,hS,hR⟩:=h2.at_ a2;refine ⟨fun D tq V pT rU ry oQ nq pX xy nr sY w_=>Fx D 0 [sY=.pointer (some ⟨b3,4,none⟩),nr=l,xy=.pointer (some ⟨b1,4,none⟩),pX=.slice (some ⟨b,o,none⟩) (c0.body).length cap,nq=.int .i64 j,oQ=.pointer (some ⟨b,o+j * 4,none⟩),ry=.agg (bB c (o+j * 4) 4).toArray,True,True,True,tq=.pointer (some ⟨b3,4,none⟩),True]/\∃ M g r,(D 7=true->rU=.agg g.toArray/\TrT M g (c0.body)[j])/\(D 8=true->pT=.slice (some ⟨r,0,none⟩) 1 1)/\(D 8=true->D 7=true)/\(D 9=true->D 8=true)/\(D 11=true->D 9=true)/\(D 11=true->D 1=true)/\Inv w [] (bz (.blk b1 (.cells #[.int .i64 c0.head.kind,.int .i64 c0.head.n,.string c0.head.name,kv,.slice (some ⟨b,o,none⟩) c0.body.length cap] ai)) (.blk b2 (.cells #[.int .i64 0,.int .i64 0,.string ⟨#[]⟩,.slice none 0 0,.slice none 0 0] ai)) (.blk b3 (.cells #[.int .i64 c0.head.kind,.int .i64 c0.head.n,.string c0.head.name,t,l] ai)) (.blk b3 (.cells #[.int .i64 c0.head.kind,.int .i64 c0.head.n,.string c0.head.name,t,V] ai)) (aB l ac 4 css) (aB V ac 4 (css++[g])) (bG (N::Ls).flatten) M (.blk r (.cells g.toArray ac)) (D 7) (D 8) (D 9) (D 11)) S w_,⟨Fx.nil _ _,⟨[],[],0,aY,aY,aY,aY,aY,aY,by simpa [bz,bG] using a.draw⟩⟩,⟨?_,?_,?_,?_,?_,?_,?_,?_,?_,?_,?_,?_,trivial⟩,?_⟩;all_goals (intro D Z; intros; rename_i tq V pT rU ry oQ nq pX xy nr sY w_ a5; have q:=a5.1; obtain ⟨⟨cG,cf,cD,cF,bQ,cE,bZ,cL,dw,dl,ci,c8,_⟩,⟨M,g,r,G,Y,O,J,p,U,a⟩⟩:=a5)
  ·refine au bC ?_;exact ⟨q.set 0 rfl,⟨M,g,r,G,Y,O,J,p,U,a⟩⟩
  ·obtain rfl:=cG ‹_›;have B:D 11=false:=cS.2 fun h=>by rw [U h] at Z; cases Z
   refine aD (b:=b3) a 2 (c:=(#[.int .i64 c0.head.kind,.int .i64 c0.head.n,.string c0.head.name,t,l])) ax (by rw [B]; rfl) rfl ?_;have U:=fun (_:aE D 1 11=true)=>(rfl:aE D 1 1=true)
   exact ⟨q.set 1 rfl,⟨M,g,r,G,Y,O,J,p,U,a⟩⟩
  ·refine au bC ?_;exact ⟨q.set 2 rfl,⟨M,g,r,G,Y,O,J,p,U,a⟩⟩
  ·obtain rfl:=cD ‹_›;refine aD a 0 ax rfl rfl ?_;exact ⟨q.set 3 rfl,⟨M,g,r,G,Y,O,J,p,U,a⟩⟩
  ·exact ⟨q.set 4 rfl,⟨M,g,r,G,Y,O,J,p,U,a⟩⟩
  ·obtain rfl:=cF ‹_›;obtain rfl:=bQ ‹_›;refine aT ao a2 ?_;exact ⟨q.set 5 rfl,⟨M,g,r,G,Y,O,J,p,U,a⟩⟩
  ·obtain rfl:=cE ‹_›;refine dX ad hR.length (fun j v hj=>by rw [a.cellS hS]; exact bd rfl j v hj) ?_;exact ⟨q.set 6 rfl,⟨M,g,r,G,Y,O,J,p,U,a⟩⟩
  ·obtain rfl:=bZ ‹_›;have f8:D 8=false:=cS.2 fun h=>by rw [O h] at Z; cases Z
   have f9:D 9=false:=cS.2 fun h=>by rw [J h] at f8; cases f8
   have B:D 11=false:=cS.2 fun h=>by rw [p h] at f9; cases f9
   rw [Z,f8,f9,B] at a;refine Run.call0 gv gd a (iC _ S _ hR (by omega)) fun v' I' S w_=>?_;rintro ⟨rfl,g,M,rfl,rfl,hT⟩ _ a;have G:aE D 7 7=true->Value.agg g.toArray=Value.agg g.toArray/\TrT M g (c0.body)[j]:=fun _=>⟨rfl,hT⟩
   have O:=fun (_:aE D 7 8=true)=>(rfl:aE D 7 7=true)
   have a:Inv w [] (bz (.blk b1 (.cells #[.int .i64 c0.head.kind,.int .i64 c0.head.n,.string c0.head.name,kv,.slice (some ⟨b,o,none⟩) c0.body.length cap] ai)) (.blk b2 (.cells #[.int .i64 0,.int .i64 0,.string ⟨#[]⟩,.slice none 0 0,.slice none 0 0] ai)) (.blk b3 (.cells #[.int .i64 c0.head.kind,.int .i64 c0.head.n,.string c0.head.name,t,l] ai)) (.blk b3 (.cells #[.int .i64 c0.head.kind,.int .i64 c0.head.n,.string c0.head.name,t,V] ai)) (aB l ac 4 css) (aB V ac 4 (css++[g])) (bG (N::Ls).flatten) M (.blk r (.cells g.toArray ac)) true (D 8) (D 9) (D 11)) S w_:=by
    rw [f8,f9,B];simpa [bz] using a
   exact ⟨q.set 7 (by first|assumption|trivial),⟨M,g,r,G,Y,O,J,p,U,a⟩⟩
  ·have Cs:=cL ‹_›;have f9:D 9=false:=cS.2 fun h=>by rw [J h] at Z; cases Z
   have B:D 11=false:=cS.2 fun h=>by rw [p h] at f9; cases f9
   obtain ⟨q7,hT⟩:=G ‹D 7=true›;subst q7;rw [‹D 7=true›,Z,f9,B] at a;refine eQ a bA (by simp [Value.cells,hT.length]) (by omega) (by omega) fun r w_ a=>?_;have G:aE D 8 7=true->Value.agg g.toArray=Value.agg g.toArray/\TrT M g (c0.body)[j]:=fun _=>⟨rfl,hT⟩
   have Y:=fun (_:aE D 8 8=true)=>(rfl:Value.slice (some ⟨r,0,none⟩) 1 1=_)
   have O:=fun (_:aE D 8 8=true)=>‹D 7=true›;have J:=fun (_:aE D 8 9=true)=>(rfl:aE D 8 8=true)
   have a:Inv w [] (bz (.blk b1 (.cells #[.int .i64 c0.head.kind,.int .i64 c0.head.n,.string c0.head.name,kv,.slice (some ⟨b,o,none⟩) c0.body.length cap] ai)) (.blk b2 (.cells #[.int .i64 0,.int .i64 0,.string ⟨#[]⟩,.slice none 0 0,.slice none 0 0] ai)) (.blk b3 (.cells #[.int .i64 c0.head.kind,.int .i64 c0.head.n,.string c0.head.name,t,l] ai)) (.blk b3 (.cells #[.int .i64 c0.head.kind,.int .i64 c0.head.n,.string c0.head.name,t,V] ai)) (aB l ac 4 css) (aB V ac 4 (css++[g])) (bG (N::Ls).flatten) M (.blk r (.cells g.toArray ac)) (D 7) true (D 9) (D 11)) S w_:=by
    rw [‹D 7=true›,f9,B];simpa [bz,Value.cells] using a
   exact ⟨q.set 8 (by first|assumption|trivial),⟨M,g,r,G,Y,O,J,p,U,a⟩⟩
  ·obtain rfl:=cf ‹_›;have GD:=dw ‹_›;have B:D 11=false:=cS.2 fun h=>by rw [p h] at Z; cases Z
   have q8:=Y ‹D 8=true›;subst q8;obtain ⟨_,hT⟩:=G ‹D 7=true›;rw [‹D 7=true›,‹D 8=true›,Z,B] at a;have a6:((bz (.blk b1 (.cells #[.int .i64 c0.head.kind,.int .i64 c0.head.n,.string c0.head.name,kv,.slice (some ⟨b,o,none⟩) c0.body.length cap] ai)) (.blk b2 (.cells #[.int .i64 0,.int .i64 0,.string ⟨#[]⟩,.slice none 0 0,.slice none 0 0] ai)) (.blk b3 (.cells #[.int .i64 c0.head.kind,.int .i64 c0.head.n,.string c0.head.name,t,nr] ai)) (.blk b3 (.cells #[.int .i64 c0.head.kind,.int .i64 c0.head.n,.string c0.head.name,t,V] ai)) (aB nr ac 4 css) (aB V ac 4 (css++[g])) (bG (N::Ls).flatten) M (.blk r (.cells g.toArray ac)) true true false false))[4+(bG (N::Ls).flatten).length+(bG M).length]?=some (.blk r (.cells g.toArray ac)):=by
    have e4:4+(bG (N::Ls).flatten).length+(bG M).length=((bG (N::Ls).flatten).length+(bG M).length)+1+1+1+1:=by omega
    rw [e4];simp only [bz,lY];rw [kV (by omega),sP,kV (be _),fg]; rfl
   refine eU a 3 g bA (by omega) rfl (by rw [hT.length]) (m:=1) (o:=0) ?_ hT.one (by omega) (by omega) fun v' w_ a=>?_
   ·intro i u hi;rw [a.cellL a6,df];simpa using hi
   rw [fq] at a;have J:=fun (_:aE D 9 9=true)=>‹D 8=true›;have p:=fun (_:aE D 9 11=true)=>(rfl:aE D 9 9=true)
   have a:Inv w [] (bz (.blk b1 (.cells #[.int .i64 c0.head.kind,.int .i64 c0.head.n,.string c0.head.name,kv,.slice (some ⟨b,o,none⟩) c0.body.length cap] ai)) (.blk b2 (.cells #[.int .i64 0,.int .i64 0,.string ⟨#[]⟩,.slice none 0 0,.slice none 0 0] ai)) (.blk b3 (.cells #[.int .i64 c0.head.kind,.int .i64 c0.head.n,.string c0.head.name,t,nr] ai)) (.blk b3 (.cells #[.int .i64 c0.head.kind,.int .i64 c0.head.n,.string c0.head.name,t,v'] ai)) (aB nr ac 4 css) (aB v' ac 4 (css++[g])) (bG (N::Ls).flatten) M (.blk r (.cells g.toArray ac)) (D 7) (D 8) true (D 11)) S w_:=by
    rw [‹D 7=true›,‹D 8=true›,B];exact a
   exact ⟨q.set 9 (by first|assumption|trivial),⟨M,g,r,G,Y,O,J,p,U,a⟩⟩
  ·refine au bC ?_;exact ⟨q.set 10 rfl,⟨M,g,r,G,Y,O,J,p,U,a⟩⟩
  ·obtain rfl:=ci ‹_›;have DC:=dl ‹_›;rw [‹D 7=true›,‹D 8=true›,‹D 9=true›,Z] at a;obtain ⟨va,vn,vc,a4⟩:=Inv.rowSlice a 3 rfl;refine ef a 2 (n:=1) (by rw [a4]; rfl) (by decide +kernel) rfl (by simp) (by rw [a4]; simp [Value.cells,Value.oneCell']) fun w_ a=>?_;have a7:Value.cells V=#[V]:=by rw [a4]; rfl
   rw [a7] at a;have U:=fun (_:aE D 11 11=true)=>‹D 1=true›;have p:=fun (_:aE D 11 11=true)=>‹D 9=true›;have a:Inv w [] (bz (.blk b1 (.cells #[.int .i64 c0.head.kind,.int .i64 c0.head.n,.string c0.head.name,kv,.slice (some ⟨b,o,none⟩) c0.body.length cap] ai)) (.blk b2 (.cells #[.int .i64 0,.int .i64 0,.string ⟨#[]⟩,.slice none 0 0,.slice none 0 0] ai)) (.blk b3 (.cells #[.int .i64 c0.head.kind,.int .i64 c0.head.n,.string c0.head.name,t,l] ai)) (.blk b3 (.cells #[.int .i64 c0.head.kind,.int .i64 c0.head.n,.string c0.head.name,t,V] ai)) (aB l ac 4 css) (aB V ac 4 (css++[g])) (bG (N::Ls).flatten) M (.blk r (.cells g.toArray ac)) (D 7) (D 8) (D 9) true) S w_:=by
    rw [‹D 7=true›,‹D 8=true›,‹D 9=true›];exact a
   exact ⟨q.set 11 trivial,⟨M,g,r,G,Y,O,J,p,U,a⟩⟩
  obtain ⟨rfl,rfl,rfl,rfl,rfl,rfl,rfl,Cs,GD,DC,rfl,_,_⟩:=q.all;have sZ:D 7=true:=by assumption
  have Lh:D 8=true:=by assumption
  have NF:D 9=true:=by assumption
  have r6:D 11=true:=by assumption
  clear q cG cf cD cF bQ cE bZ cL dw dl ci c8;obtain ⟨_,hT⟩:=G sZ;rw [sZ,Lh,NF,r6] at a;refine bF (by omega) ?_;refine ⟨⟨j+1,V,Ls++[M],css++[g],a2,rfl,?_,?_⟩,by simp [intOf]; omega⟩
  ·rw [ia a2];exact hg.snoc hT hT.length
  ·rw [<- dQ,BP,eK];simp only [iX,s4,dc];refine a.sub ?_;simp only [bz,iX];rw [<- cN];exact (((gR _ _).cons_cons _).cons_cons _).cons_cons _ |>.cons_cons _
 ·have:j=c0.body.length:=by omega
  subst this;rw [iz] at hg;obtain ⟨va,vn,vc,a9⟩:=a.rowSlice 3 rfl;have b4:l.oneCell'=true:=by rw [a9]; rfl
  have o1:t.oneCell'=true:=a3.one t (by simp);refine aq a 2 aN rfl rfl ?_;refine al a 1 rfl aN rfl rfl ?_ fun w' a=>?_
  ·intro u hu;have a1:u∈([.int .i64 c0.head.kind,.int .i64 c0.head.n,.string c0.head.name,t,l]:List Value):=hu;simp at a1;rcases a1 with rfl|rfl|rfl|rfl|rfl <;> first|rfl|exact o1|exact b4
  refine bp a 1 aN rfl rfl ?_;have a:Inv w [] (aB l ac 4 css::bG (N::Ls).flatten) S w':=a.sub (dU [_,_,_] _);have a:Inv w [] ([aB l ac 4 css]++bG (N::Ls).flatten) S w':=a;obtain ⟨S1,a,hE,a0⟩:=a.pubExt;rw [iX] at a0;exact ⟨_,_,S1,rfl,a,hE,_,l,css,rfl,a3.rd a0.left,rfl,hg.rows a0.right fun _ _ _ hi h=>h.rd hi⟩
end
end
section
open Go Go.RowKit
section
variable {w0 w:World} {X:List Nat} {L:List Item} {S:ag} {P:Program} {K:Value->World->Prop}
attribute [local irreducible] Run CondV aC aU
theorem lf (h:Inv w0 X L S w) {T ty e:TypeId} {a:Nat} {z v x:Value} {cs:List Bool} {css:List (List Value)} (i:Nat)
  (r:iB P T=some (e,1,a,z)) (t:L[i]?=some (aB v e 1 css)) (B:x.cells=#[x]) (C:x.oneCell'=true) (g:css.length+1<=4294967296) (q:a<=32768)
  {K:Value->Value->World->Prop} (hk:∀ v' w',Inv w0 X (L.set i (aB v' e 1 (css++[[x]]))) S w'->K (.slice (some ⟨w.heap.size,0,none⟩) 1 1) v' w') :
  Run P (bI T 1 [(0,x)]) w fun u w'=>Run P (bO .append #[T,T] ty cs [v,u]) w' (K u):=by
 refine mW h r (by rw [B]; rfl) (by omega) (by omega) fun w' l=>?_;have p:i<L.length:=(iu.1 t).1;refine eU l i [x] r (by omega) (by rw [Pf p]; exact t) (by simp) (m:=1) (o:=0) ?_ (by simpa using C) g q fun v' w' l=>?_
 ·intro j u D;rw [l.cellL (i:=L.length) (by rw [kV (be _),fg]; rfl)];rw [df,B];simpa using D
 ·refine hk _ _ ?_;rw [<- fq];rw [JI _ _ p] at l;exact l.sub (gR _ _)
end
end
end Go.Proofs.YtjbcdmheajljpaaGreat

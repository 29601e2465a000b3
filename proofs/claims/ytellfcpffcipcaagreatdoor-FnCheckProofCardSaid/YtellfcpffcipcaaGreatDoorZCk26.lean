/- The program's check of proofs, and CheckProof on both sides. -/
import Derived.Test.YtellfcpffcipcaaGreatDoorZCkA
import Derived.Test.YtellfcpffcipcaaGreatDoorZCk25
namespace Go.Proofs.YtellfcpffcipcaaGreatDoor
attribute [local irreducible] Run CondV aF aT
section
open Go Go.RowKit
section
set_option maxHeartbeats 1000000 in
theorem JN {p:List C} (e5:dZ p=true):∀ (x:PF) (d:Int) (S:ae) (u:Value) (cs:hZ),uC x d=true->RdSl S 5 (RdC S) u p->RdF S cs x->ll UB [u,.agg cs.toArray] S (.bool (chkF p x)):=by
 refine PF.ind fun g c O ih d S u cs e9 hp h=>?_;intro w l;obtain ⟨kv,kf,rfl,hg,f1,a7⟩:=RdF.iff.1 h;obtain ⟨f2,i9,c2⟩:=oo e9;have a3:=eL f2;have j3:=lr a3;simp only [PF.goal,PF.kids,PF.clause] at hg f1 a7 ⊢;have f7:=a7.le;simp only [maxLen] at f7;rw [chkF,nodeC];apply EY.2;dsimp only[EY,bl];refine bq l fun b3 w' l=>?_;have l:Inv w [] [ay b3 #[ax g.kind,ax g.n,.string g.name,kv,ax c,kf] ar] S w':=l;refine ad (u:=ax c) l 0 rfl dF aw rfl (bM (aJ (fun a6=>?_) (fun a6=>?_)))
 ·rw [ai a6];refine ah dE (cP l 0 (hJ g kv) ac rfl rfl wg ?_);refine Run.call0E DW Dd l (xM a3 ⟨ie a3,by omega⟩ (Mk a3) (A4 a3) hg) fun v' I' S1 w'=>?_;rintro ⟨a,n,cap,c1,rfl,e6⟩ hE l;refine al (v:=.slice a n cap) rfl (al (v:=ax c1) rfl (ah dE (cP l 0 (hJ g kv) ac rfl rfl wg (Run.callPure lG lq l (jQ (hg.mono hE.1)) fun w' l=>?_))));have f8:chkFL p O=true ∨ O.length≠0:=by
   by_cases h:O.length=0
   ·rw [iy h];exact .inl rfl
   ·exact .inr h
  cases hb:bW g
  ·refine rpG ?_;refine iN l hE.1 ?_;rcases A4 a3 with ⟨_,h2⟩|⟨h2,_⟩
   ·rw [h2,m5];rfl
   ·rw [hb] at h2;cases h2
  refine rpG ?_;refine ad l 0 rfl bH bT rfl (aI a7 cK (bn ?_));have el:decide ((O.length:Int)=0)=decide (O.length=0):=by rw [dJ];omega
  rw [el];cases c8:decide (O.length=0)
  ·refine rpG ?_;exact iN l hE.1 rfl
  have c8:=of_decide_eq_true c8;have f9:chkFL p O=true:=f8.resolve_right (fun h=>h c8);rw [f9];refine rpG ?_;refine fJ Nd (bn ?_);have en:decide ((n:Int)=0)=decide (n=0):=by rw [dJ];omega
  rw [en,<- e6];cases j4:decide (n=0)
  ·refine rpG ?_;refine iN l hE.1 ?_;simp
  refine rpG ?_;apply bn;refine rpG ?_;refine iN l hE.1 ?_;simp
 rw [af a6];by_cases e3:(p.length:Int)<=c
 ·have g0:p[c.toNat]?=none:=Qh (by omega);rw [g0];refine ⟨fun D sT uv qW nh s6 tV rf qp lL oF nz pD mn nj lS oC j7 jt w_=>Fx D 0 [jt=eu b3 4,j7=ax c,oC=u,lS=ax p.length,nj=.bool true,mn=.bool true,pD=undef,nz=undef,oF=undef,lL=undef,qp=undef,rf=undef,tV=undef,s6=undef,nh=undef,qW=undef,uv=undef,sT=.bool true]/\Inv w [] [ay b3 #[ax g.kind,ax g.n,.string g.name,kv,ax c,kf] ar] S w_,⟨Fx.nil _ _,l.draw⟩,⟨?_,?_,?_,?_,?_,?_,?_,?_,?_,?_,?_,?_,?_,?_,?_,?_,?_,?_,trivial⟩,?_⟩;all_goals (intro D bw;intros;rename_i sT uv qW nh s6 tV rf qp lL oF nz pD mn nj lS oC j7 jt w_ V;have f:=V.1;obtain ⟨⟨co,cn,B,cj,cA,J,bO,cM,de,dv,bU,cC,cY,dK,G,ek,eH,fl,_⟩,l⟩:=V)
  ·apply ah dF;exact ⟨f.set 0 rfl,l⟩
  ·obtain rfl:=co ‹_›;apply aD l 0 aw rfl rfl;exact ⟨f.set 1 rfl,l⟩
  ·exact ⟨f.set 2 rfl,l⟩
  ·obtain rfl:=B ‹_›;apply aI hp cr;exact ⟨f.set 3 rfl,l⟩
  ·obtain rfl:=cn ‹_›;obtain rfl:=cj ‹_›;apply iS;rw [aL e3];exact ⟨f.set 4 rfl,l⟩
  ·obtain rfl:=cA ‹_›;exact ⟨f.set 5 rfl,l⟩
  ·obtain rfl:=J ‹_›;refine rpG ?_;exact ⟨f.set 6 rfl,l⟩
  ·obtain rfl:=bO ‹_›;obtain rfl:=J ‹_›;refine rpG ?_;exact ⟨f.set 7 rfl,l⟩
  ·obtain rfl:=cM ‹_›;obtain rfl:=J ‹_›;refine rpG ?_;exact ⟨f.set 8 rfl,l⟩
  ·obtain rfl:=J ‹_›;refine rpG ?_;exact ⟨f.set 9 rfl,l⟩
  ·obtain rfl:=J ‹_›;refine rpG ?_;exact ⟨f.set 10 rfl,l⟩
  ·obtain rfl:=bU ‹_›;obtain rfl:=J ‹_›;refine rpG ?_;exact ⟨f.set 11 rfl,l⟩
  ·obtain rfl:=dv ‹_›;obtain rfl:=cC ‹_›;obtain rfl:=J ‹_›;refine rpG ?_;exact ⟨f.set 12 rfl,l⟩
  ·obtain rfl:=cY ‹_›;obtain rfl:=J ‹_›;refine rpG ?_;exact ⟨f.set 13 rfl,l⟩
  ·obtain rfl:=dK ‹_›;obtain rfl:=J ‹_›;refine rpG ?_;exact ⟨f.set 14 rfl,l⟩
  ·obtain rfl:=G ‹_›;obtain rfl:=J ‹_›;refine rpG ?_;exact ⟨f.set 15 rfl,l⟩
  ·obtain rfl:=de ‹_›;obtain rfl:=ek ‹_›;obtain rfl:=J ‹_›;refine rpG ?_;exact ⟨f.set 16 rfl,l⟩
  ·obtain rfl:=J ‹_›;obtain rfl:=eH ‹_›;refine rpG ?_;exact ⟨f.set 17 rfl,l⟩
  obtain ⟨rfl,rfl,rfl,rfl,rfl,rfl,rfl,rfl,rfl,rfl,rfl,rfl,rfl,rfl,rfl,rfl,rfl,rfl,_⟩:=f.all;clear f co cn B cj cA J bO cM de dv bU cC cY dK G ek eH fl;refine aE (fun _=>done l rfl) (fun hb=>by cases hb)
 obtain ⟨j,f3⟩:∃ j:Nat,c=(j:Int):=⟨c.toNat,by omega⟩
 have b0:j<p.length:=by omega
 subst f3;have g1:p[(j:Int).toNat]?=some p[j]:=by rw [dq,gd b0]
 rw [g1];have d2:=uI e5 (bJ b0);obtain ⟨q,hq⟩:∃ q,q=p[j]:=⟨_,rfl⟩
 obtain ⟨pb,po,a8,pc,pE,j0,rfl,d1,a9⟩:=hp.at_ b0;rw [<- hq] at a9 d2 ⊢;obtain ⟨kh,kb,c3,f4,b7⟩:=a9.cells;have g4:=a9.length;rw [c3] at a9;have g2:decide ((O.length:Int)=(q.body.length:Int))=decide (O.length=q.body.length):=by rw [dJ];omega
 have c9:=xd d2;refine ⟨fun D sT uv qW nh s6 tV rf qp lL oF nz pD mn nj lS oC j7 jt w_=>Fx D 0 [jt=eu b3 4,j7=ax (j:Int),oC=eF pb po p.length a8,lS=ax p.length,nj=.bool false,mn=.bool false,pD=eu b3 5,nz=kf,oF=ax O.length,lL=eF pb po p.length a8,qp=eu b3 4,rf=ax (j:Int),tV=eu pb (po+j * 5),s6=eu pb (po+j * 5+4),nh=kb,qW=ax q.body.length,uv=.bool (!decide (O.length=q.body.length)),sT=.bool (!decide (O.length=q.body.length))]/\Inv w [] [ay b3 #[ax g.kind,ax g.n,.string g.name,kv,ax (j:Int),kf] ar] S w_,⟨Fx.nil _ _,l.draw⟩,⟨?_,?_,?_,?_,?_,?_,?_,?_,?_,?_,?_,?_,?_,?_,?_,?_,?_,?_,trivial⟩,?_⟩;all_goals (intro D bw;intros;rename_i sT uv qW nh s6 tV rf qp lL oF nz pD mn nj lS oC j7 jt w_ V;have f:=V.1;obtain ⟨⟨co,cn,B,cj,cA,J,bO,cM,de,dv,bU,cC,cY,dK,G,ek,eH,fl,_⟩,l⟩:=V)
 ·apply ah dF;exact ⟨f.set 0 rfl,l⟩
 ·obtain rfl:=co ‹_›;apply aD l 0 aw rfl rfl;exact ⟨f.set 1 rfl,l⟩
 ·exact ⟨f.set 2 rfl,l⟩
 ·obtain rfl:=B ‹_›;apply aI hp cr;exact ⟨f.set 3 rfl,l⟩
 ·obtain rfl:=cn ‹_›;obtain rfl:=cj ‹_›;apply iS;rw [aS e3];exact ⟨f.set 4 rfl,l⟩
 ·obtain rfl:=cA ‹_›;exact ⟨f.set 5 rfl,l⟩
 ·obtain rfl:=J ‹_›;refine rpG ?_;apply ah bH;exact ⟨f.set 6 rfl,l⟩
 ·obtain rfl:=bO ‹_›;obtain rfl:=J ‹_›;refine rpG ?_;apply aD l 0 bT rfl rfl;exact ⟨f.set 7 (by first|assumption|trivial),l⟩
 ·have Fi:=cM ‹_›;obtain rfl:=J ‹_›;refine rpG ?_;refine aI (xs:=O) (by rw [Fi];exact a7) cK ?_;exact ⟨f.set 8 rfl,l⟩
 ·obtain rfl:=J ‹_›;refine rpG ?_;exact ⟨f.set 9 rfl,l⟩
 ·obtain rfl:=J ‹_›;refine rpG ?_;apply ah dF;exact ⟨f.set 10 rfl,l⟩
 ·obtain rfl:=bU ‹_›;obtain rfl:=J ‹_›;refine rpG ?_;apply aD l 0 aw rfl rfl;exact ⟨f.set 11 rfl,l⟩
 ·obtain rfl:=dv ‹_›;obtain rfl:=cC ‹_›;obtain rfl:=J ‹_›;refine rpG ?_;apply az cr b0;exact ⟨f.set 12 rfl,l⟩
 ·obtain rfl:=cY ‹_›;obtain rfl:=J ‹_›;refine rpG ?_;apply ah bF;exact ⟨f.set 13 rfl,l⟩
 ·obtain rfl:=dK ‹_›;obtain rfl:=J ‹_›;refine rpG ?_;refine cS aj (by rw [l.cellS d1];exact aA c3 4 _ rfl) ?_;exact ⟨f.set 14 (by first|assumption|trivial),l⟩
 ·have Eb:=G ‹_›;obtain rfl:=J ‹_›;refine rpG ?_;refine aI (xs:=q.body) (by rw [Eb];exact b7) ag ?_;exact ⟨f.set 15 rfl,l⟩
 ·obtain rfl:=de ‹_›;obtain rfl:=ek ‹_›;obtain rfl:=J ‹_›;refine rpG ?_;apply dw;rw [g2];exact ⟨f.set 16 rfl,l⟩
 ·obtain rfl:=J ‹_›;obtain rfl:=eH ‹_›;refine rpG ?_;exact ⟨f.set 17 rfl,l⟩
 obtain ⟨rfl,rfl,rfl,rfl,rfl,rfl,rfl,Fi,rfl,rfl,rfl,rfl,rfl,rfl,Eb,rfl,rfl,rfl,_⟩:=f.all;clear f co cn B cj cA J bO cM de dv bU cC cY dK G ek eH fl;refine aE (fun hb=>done l ?_) (fun hb=>?_)
 ·have hb:decide (O.length=q.body.length)=false:=by simpa using hb
  simp only [hb];rfl
 have b9:O.length=q.body.length:=by simpa using hb
 simp only [aL b9,dz];refine ad (u:=ax (j:Int)) l 0 rfl dF aw rfl (az cr b0 (bV (cs:=[ax q.head.kind,ax q.head.n,.string q.head.name,kh,kb]) bR rfl (fun i v hi=>by rw [l.cellS d1];exact aA c3 i v hi) (aG l fj fun b5 w' l=>?_)));refine aq l 1 rfl bR rfl rfl (by simpa using a9.one) fun w' l=>?_;refine D8 l fun mm w' l=>?_;have l:Inv w [] [ay b3 #[ax g.kind,ax g.n,.string g.name,kv,ax (j:Int),kf] ar,ay b5 #[ax q.head.kind,ax q.head.n,.string q.head.name,kh,kb] aB,.blk mm (.map #[] 0)] S w':=l;refine ah dE (cP l 0 (hJ g kv) ac rfl rfl wg (ah dl (cP l 1 (hJ q.head kh) ac rfl rfl Nw ?_)));have d3:=(lC a3).2;have b1:=pd q.head g S _ _ mm 0 #[] st0 f4 hg c9.1.1 d3 Om (KnownM.empty S);have d4:=np q.head g st0 Om d3;generalize cN q.head g st0=r0 at b1 d4 ⊢;refine Run.call (A:=[_,_]) mH mB l b1 fun v' I' S1 w'=>?_;rintro ⟨rfl,rfl,e7,e8,rfl,b6⟩ _ l;apply cq;cases j5:r0.1
 ·refine aE (fun _=>done l rfl) (fun hb=>by cases hb)
 refine aE (fun hb=>by cases hb) (fun _=>?_);simp only [dz];rw [<- Sc p q.body O r0.2 b9.symm];refine ad l 1 rfl bF aj rfl ?_;refine aI b7 ag ?_;refine ⟨fun i w'=>∃ (k:Nat) (a0:au) (es:Array MapEntry) (ck:Nat),k<=q.body.length/\i=ax k/\interL p (q.body.drop k) (O.drop k) a0=interL p q.body O r0.2/\C3 a0/\KnownM S1 es a0/\Inv w [] [ay b3 #[ax g.kind,ax g.n,.string g.name,kv,ax (j:Int),kf] ar,ay b5 #[ax q.head.kind,ax q.head.n,.string q.head.name,kh,kb] aB,.blk mm (.map es ck)] S1 w',
  fun i _=>q.body.length - (intOf i).toNat,⟨0,r0.2,e7,e8,bf _,rfl,rfl,d4,b6,l⟩,?_⟩
 intro i _ _ g3 g5 g6 g7 g8 g9 h0 h1 h3 h4 h5 h6 h7 h8 h9 i0 i1 i2 i3 i4 i5 i6 i7 i8 _ _ _ _ _ _ w';rintro ⟨k,a0,es,ck,hk,rfl,U,c0,b6,l⟩;have d6:=b7.le;simp only [maxLen] at d6;refine bM (aJ (fun f0=>?_) (fun f0=>?_))
 ·have b2:k<q.body.length:=by omega
  have a4:k<O.length:=by omega
  rw [dB b2,dB a4,interL] at U;obtain ⟨qb,qo,Y,qc,qE,j1,rfl,f5,Z⟩:=b7.at_ b2;obtain ⟨fb,fo,N,fc,fE,j2,rfl,c4,b8⟩:=a7.at_ a4;obtain ⟨fv,ff,c5,c6,_,_⟩:=RdF.iff.1 b8;obtain ⟨x,hx⟩:∃ x,x=O[k]:=⟨_,rfl⟩
  obtain ⟨y,hy⟩:∃ y,y=q.body[k]:=⟨_,rfl⟩
  have d7:y∈q.body:=by rw [hy];exact bJ b2
  have d9:x∈O:=by rw [hx];exact bJ a4
  have e1:=c2 x d9;have d0:fi x.goal=true:=by
   obtain ⟨xg,xc,xk⟩:=x;exact (oo e1).1
  rw [<- hx] at c5 c6 U b8;rw [<- hy] at Z U;refine az ag b2 (bV ac Z.length (fun i v hi=>by rw [l.cellS f5];exact aA rfl i v hi) (aG l aV fun a2 w' l=>?_));refine aq l 3 rfl ac (by simpa using Z.length) rfl (by simpa using Z.one) fun w' l=>?_;obtain ⟨ys,f6⟩:∃ ys,ys=aO qc (qo+k * 4) 4:=⟨_,rfl⟩
  rw [<- f6] at Z l;have b4:=Z.length;have l:Inv w [] [ay b3 #[ax g.kind,ax g.n,.string g.name,kv,ax (j:Int),eF fb fo O.length N] ar,ay b5 #[ax q.head.kind,ax q.head.n,.string q.head.name,kh,eF qb qo q.body.length Y] aB,.blk mm (.map es ck),ay a2 ys.toArray ab] S1 w':=l;have e2:=np y x.goal a0 c0 (lC (eL d0)).2;cases a1:fC y
  ·cases hm:(cN y x.goal a0).1
   ·have l:=l;refine ⟨fun D GY YA YV V5 Qt Kb FT Ee DV FU FS xB wx xD wV yn xL yr AF xA yf Ar ze ud w_=>Fx D 0 [ud=.agg ys.toArray,ze=.bool false,Ar=.bool false,yf=eu b3 5,xA=eF fb fo O.length N,AF=ax k,yr=eu fb (fo+k * 6),xL=eu fb (fo+k * 6),yn=.agg (gn x.goal fv),wV=.agg ys.toArray,xD=.map (some mm),wx=.bool false,xB=.bool true,FS=.bool true,FU=.bool true,DV=undef,Ee=undef,FT=undef,Kb=undef,Qt=undef,V5=undef,YV=undef,YA=undef,GY=.bool true]/\∃ m o,(D 11=false->m=es/\o=ck)/\(D 11=true->KnownM S1 m (cN y x.goal a0).2)/\Inv w [] [ay b3 #[ax g.kind,ax g.n,.string g.name,kv,ax (j:Int),eF fb fo O.length N] ar,ay b5 #[ax q.head.kind,ax q.head.n,.string q.head.name,kh,eF qb qo q.body.length Y] aB,.blk mm (.map m o),ay a2 ys.toArray ab] S1 w_,⟨Fx.nil _ _,⟨es,ck,fun _=>⟨rfl,rfl⟩,aU,l.draw⟩⟩,⟨?_,?_,?_,?_,?_,?_,?_,?_,?_,?_,?_,?_,?_,?_,?_,?_,?_,?_,?_,?_,?_,?_,?_,?_,trivial⟩,?_⟩;all_goals (intro D bw;intros;rename_i GY YA YV V5 Qt Kb FT Ee DV FU FS xB wx xD wV yn xL yr AF xA yf Ar ze ud w_ V;have f:=V.1;obtain ⟨⟨co,cn,B,cj,cA,J,bO,cM,de,dv,bU,cC,cY,dK,G,ek,eH,fl,gZ,fI,iI,jU,pw,sP,_⟩,⟨m,o,r,t,l⟩⟩:=V)
    ·refine av l 3 ac rfl (by simpa using b4) ?_;exact ⟨f.set 0 rfl,m,o,r,t,l⟩
    ·obtain rfl:=co ‹_›;refine Run.callPure o6 oG l (mY Z) fun w_ l=>?_;rw [a1];exact ⟨f.set 1 rfl,m,o,r,t,l⟩
    ·obtain rfl:=cn ‹_›;exact ⟨f.set 2 rfl,m,o,r,t,l⟩
    ·obtain rfl:=B ‹_›;refine rpG ?_;apply ah bH;exact ⟨f.set 3 rfl,m,o,r,t,l⟩
    ·obtain rfl:=cj ‹_›;obtain rfl:=B ‹_›;refine rpG ?_;apply aD l 0 bT rfl rfl;exact ⟨f.set 4 rfl,m,o,r,t,l⟩
    ·obtain rfl:=B ‹_›;refine rpG ?_;exact ⟨f.set 5 rfl,m,o,r,t,l⟩
    ·obtain rfl:=cA ‹_›;obtain rfl:=J ‹_›;obtain rfl:=B ‹_›;refine rpG ?_;apply az cK a4;exact ⟨f.set 6 rfl,m,o,r,t,l⟩
    ·obtain rfl:=bO ‹_›;obtain rfl:=B ‹_›;refine rpG ?_;apply ah dE;exact ⟨f.set 7 rfl,m,o,r,t,l⟩
    ·obtain rfl:=cM ‹_›;obtain rfl:=B ‹_›;refine rpG ?_;refine bV (cs:=(hJ x.goal fv)) ac rfl (fun i v hi=>by rw [l.cellS c4];exact aA c5 i v (Vl i v hi)) ?_;exact ⟨f.set 8 rfl,m,o,r,t,l⟩
    ·obtain rfl:=B ‹_›;refine rpG ?_;refine av l 3 ac rfl (by simpa using b4) ?_;exact ⟨f.set 9 rfl,m,o,r,t,l⟩
    ·obtain rfl:=B ‹_›;refine rpG ?_;exact ⟨f.set 10 rfl,m,o,r,t,l⟩
    ·obtain rfl:=de ‹_›;obtain rfl:=dv ‹_›;obtain rfl:=bU ‹_›;obtain rfl:=B ‹_›;refine rpG ?_;obtain ⟨e0,c7⟩:=r bw;rw [e0,c7] at l;have l:=l.perm (M:=[ay b3 #[ax g.kind,ax g.n,.string g.name,kv,ax (j:Int),eF fb fo O.length N] ar,ay b5 #[ax q.head.kind,ax q.head.n,.string q.head.name,kh,eF qb qo q.body.length Y] aB,ay a2 ys.toArray ab]++[.blk mm (.map es ck)]) (((List.Perm.swap ..).cons _).cons _);refine Run.callE (A:=[_,_,_]) mH mB l (pd y x.goal S1 _ _ mm ck es a0 Z c6 (pC c9.2.1 _ d7) (lC (eL d0)).2 c0 b6) fun v' I' S2 w_=>?_;rintro ⟨eS,rfl,m,o,rfl,a5⟩ _ l;rw [eS] at l;have l:Inv w [] [ay b3 #[ax g.kind,ax g.n,.string g.name,kv,ax (j:Int),eF fb fo O.length N] ar,ay b5 #[ax q.head.kind,ax q.head.n,.string q.head.name,kh,eF qb qo q.body.length Y] aB,.blk mm (.map m o),ay a2 ys.toArray ab] S1 w_:=l.perm (((List.Perm.swap ..).cons _).cons _);have r:=fun (h:aC D 11 11=false)=>(Bool.noConfusion h:m=es/\o=ck)
     have t:=fun (_:aC D 11 11=true)=>a5;rw [hm];exact ⟨f.set 11 rfl,m,o,r,t,l⟩
    ·obtain rfl:=cC ‹_›;obtain rfl:=B ‹_›;refine rpG ?_;apply cq;exact ⟨f.set 12 rfl,m,o,r,t,l⟩
    ·obtain rfl:=B ‹_›;obtain rfl:=cY ‹_›;refine rpG ?_;exact ⟨f.set 13 rfl,m,o,r,t,l⟩
    ·obtain rfl:=dK ‹_›;exact ⟨f.set 14 rfl,m,o,r,t,l⟩
    ·obtain rfl:=G ‹_›;refine rpG ?_;exact ⟨f.set 15 rfl,m,o,r,t,l⟩
    ·obtain rfl:=G ‹_›;refine rpG ?_;exact ⟨f.set 16 rfl,m,o,r,t,l⟩
    ·obtain rfl:=eH ‹_›;obtain rfl:=G ‹_›;refine rpG ?_;exact ⟨f.set 17 rfl,m,o,r,t,l⟩
    ·obtain rfl:=G ‹_›;refine rpG ?_;exact ⟨f.set 18 rfl,m,o,r,t,l⟩
    ·obtain rfl:=fl ‹_›;obtain rfl:=gZ ‹_›;obtain rfl:=G ‹_›;refine rpG ?_;exact ⟨f.set 19 rfl,m,o,r,t,l⟩
    ·obtain rfl:=fI ‹_›;obtain rfl:=G ‹_›;refine rpG ?_;exact ⟨f.set 20 rfl,m,o,r,t,l⟩
    ·obtain rfl:=ek ‹_›;obtain rfl:=iI ‹_›;obtain rfl:=G ‹_›;refine rpG ?_;exact ⟨f.set 21 rfl,m,o,r,t,l⟩
    ·obtain rfl:=jU ‹_›;obtain rfl:=G ‹_›;refine rpG ?_;exact ⟨f.set 22 rfl,m,o,r,t,l⟩
    ·obtain rfl:=G ‹_›;obtain rfl:=pw ‹_›;refine rpG ?_;exact ⟨f.set 23 rfl,m,o,r,t,l⟩
    obtain ⟨rfl,rfl,rfl,rfl,rfl,rfl,rfl,rfl,rfl,rfl,rfl,rfl,rfl,rfl,rfl,rfl,rfl,rfl,rfl,rfl,rfl,rfl,rfl,rfl,_⟩:=f.all;clear f co cn B cj cA J bO cM de dv bU cC cY dK G ek eH fl gZ fI iI jU pw sP;refine aE (fun _=>done l ?_) (fun hb=>by cases hb);rw [<- U,a1,hm];rfl
   ·have l:=l;refine ⟨fun D GY YA YV V5 Qt Kb FT Ee DV FU FS xB wx xD wV yn xL yr AF xA yf Ar ze ud w_=>Fx D 0 [ud=.agg ys.toArray,ze=.bool false,Ar=.bool false,yf=eu b3 5,xA=eF fb fo O.length N,AF=ax k,yr=eu fb (fo+k * 6),xL=eu fb (fo+k * 6),yn=.agg (gn x.goal fv),wV=.agg ys.toArray,xD=.map (some mm),wx=.bool true,xB=.bool false,FS=.bool false,FU=.bool false,DV=eF pb po p.length a8,Ee=eu b3 5,FT=eF fb fo O.length N,Kb=ax k,Qt=eu fb (fo+k * 6),V5=.agg (aO fc (fo+k * 6) 6).toArray,YV=.bool (chkF p x),YA=.bool (!chkF p x),GY=.bool (!chkF p x)]/\∃ m o,(D 11=false->m=es/\o=ck)/\(D 11=true->KnownM S1 m (cN y x.goal a0).2)/\Inv w [] [ay b3 #[ax g.kind,ax g.n,.string g.name,kv,ax (j:Int),eF fb fo O.length N] ar,ay b5 #[ax q.head.kind,ax q.head.n,.string q.head.name,kh,eF qb qo q.body.length Y] aB,.blk mm (.map m o),ay a2 ys.toArray ab] S1 w_,⟨Fx.nil _ _,⟨es,ck,fun _=>⟨rfl,rfl⟩,aU,l.draw⟩⟩,⟨?_,?_,?_,?_,?_,?_,?_,?_,?_,?_,?_,?_,?_,?_,?_,?_,?_,?_,?_,?_,?_,?_,?_,?_,trivial⟩,?_⟩;all_goals (intro D bw;intros;rename_i GY YA YV V5 Qt Kb FT Ee DV FU FS xB wx xD wV yn xL yr AF xA yf Ar ze ud w_ V;have f:=V.1;obtain ⟨⟨co,cn,B,cj,cA,J,bO,cM,de,dv,bU,cC,cY,dK,G,ek,eH,fl,gZ,fI,iI,jU,pw,sP,_⟩,⟨m,o,r,t,l⟩⟩:=V)
    ·refine av l 3 ac rfl (by simpa using b4) ?_;exact ⟨f.set 0 rfl,m,o,r,t,l⟩
    ·obtain rfl:=co ‹_›;refine Run.callPure o6 oG l (mY Z) fun w_ l=>?_;rw [a1];exact ⟨f.set 1 rfl,m,o,r,t,l⟩
    ·obtain rfl:=cn ‹_›;exact ⟨f.set 2 rfl,m,o,r,t,l⟩
    ·obtain rfl:=B ‹_›;refine rpG ?_;apply ah bH;exact ⟨f.set 3 rfl,m,o,r,t,l⟩
    ·obtain rfl:=cj ‹_›;obtain rfl:=B ‹_›;refine rpG ?_;apply aD l 0 bT rfl rfl;exact ⟨f.set 4 rfl,m,o,r,t,l⟩
    ·obtain rfl:=B ‹_›;refine rpG ?_;exact ⟨f.set 5 rfl,m,o,r,t,l⟩
    ·obtain rfl:=cA ‹_›;obtain rfl:=J ‹_›;obtain rfl:=B ‹_›;refine rpG ?_;apply az cK a4;exact ⟨f.set 6 rfl,m,o,r,t,l⟩
    ·obtain rfl:=bO ‹_›;obtain rfl:=B ‹_›;refine rpG ?_;apply ah dE;exact ⟨f.set 7 rfl,m,o,r,t,l⟩
    ·obtain rfl:=cM ‹_›;obtain rfl:=B ‹_›;refine rpG ?_;refine bV (cs:=(hJ x.goal fv)) ac rfl (fun i v hi=>by rw [l.cellS c4];exact aA c5 i v (Vl i v hi)) ?_;exact ⟨f.set 8 rfl,m,o,r,t,l⟩
    ·obtain rfl:=B ‹_›;refine rpG ?_;refine av l 3 ac rfl (by simpa using b4) ?_;exact ⟨f.set 9 rfl,m,o,r,t,l⟩
    ·obtain rfl:=B ‹_›;refine rpG ?_;exact ⟨f.set 10 rfl,m,o,r,t,l⟩
    ·obtain rfl:=de ‹_›;obtain rfl:=dv ‹_›;obtain rfl:=bU ‹_›;obtain rfl:=B ‹_›;refine rpG ?_;obtain ⟨e0,c7⟩:=r bw;rw [e0,c7] at l;have l:=l.perm (M:=[ay b3 #[ax g.kind,ax g.n,.string g.name,kv,ax (j:Int),eF fb fo O.length N] ar,ay b5 #[ax q.head.kind,ax q.head.n,.string q.head.name,kh,eF qb qo q.body.length Y] aB,ay a2 ys.toArray ab]++[.blk mm (.map es ck)]) (((List.Perm.swap ..).cons _).cons _);refine Run.callE (A:=[_,_,_]) mH mB l (pd y x.goal S1 _ _ mm ck es a0 Z c6 (pC c9.2.1 _ d7) (lC (eL d0)).2 c0 b6) fun v' I' S2 w_=>?_;rintro ⟨eS,rfl,m,o,rfl,a5⟩ _ l;rw [eS] at l;have l:Inv w [] [ay b3 #[ax g.kind,ax g.n,.string g.name,kv,ax (j:Int),eF fb fo O.length N] ar,ay b5 #[ax q.head.kind,ax q.head.n,.string q.head.name,kh,eF qb qo q.body.length Y] aB,.blk mm (.map m o),ay a2 ys.toArray ab] S1 w_:=l.perm (((List.Perm.swap ..).cons _).cons _);have r:=fun (h:aC D 11 11=false)=>(Bool.noConfusion h:m=es/\o=ck)
     have t:=fun (_:aC D 11 11=true)=>a5;rw [hm];exact ⟨f.set 11 rfl,m,o,r,t,l⟩
    ·obtain rfl:=cC ‹_›;obtain rfl:=B ‹_›;refine rpG ?_;apply cq;exact ⟨f.set 12 rfl,m,o,r,t,l⟩
    ·obtain rfl:=B ‹_›;obtain rfl:=cY ‹_›;refine rpG ?_;exact ⟨f.set 13 rfl,m,o,r,t,l⟩
    ·obtain rfl:=dK ‹_›;exact ⟨f.set 14 rfl,m,o,r,t,l⟩
    ·obtain rfl:=G ‹_›;refine rpG ?_;exact ⟨f.set 15 rfl,m,o,r,t,l⟩
    ·obtain rfl:=G ‹_›;refine rpG ?_;apply ah bH;exact ⟨f.set 16 rfl,m,o,r,t,l⟩
    ·obtain rfl:=eH ‹_›;obtain rfl:=G ‹_›;refine rpG ?_;apply aD l 0 bT rfl rfl;exact ⟨f.set 17 rfl,m,o,r,t,l⟩
    ·obtain rfl:=G ‹_›;refine rpG ?_;exact ⟨f.set 18 rfl,m,o,r,t,l⟩
    ·obtain rfl:=fl ‹_›;obtain rfl:=gZ ‹_›;obtain rfl:=G ‹_›;refine rpG ?_;apply az cK a4;exact ⟨f.set 19 rfl,m,o,r,t,l⟩
    ·obtain rfl:=fI ‹_›;obtain rfl:=G ‹_›;refine rpG ?_;refine bV bp b8.length (fun i v hi=>by rw [l.cellS c4];exact aA rfl i v hi) ?_;exact ⟨f.set 20 rfl,m,o,r,t,l⟩
    ·obtain rfl:=ek ‹_›;obtain rfl:=iI ‹_›;obtain rfl:=G ‹_›;refine rpG ?_;refine Run.callPure E8 FX l (ih x d9 (d - 1) S1 _ _ e1 hp b8) fun w_ l=>?_;exact ⟨f.set 21 rfl,m,o,r,t,l⟩
    ·obtain rfl:=jU ‹_›;obtain rfl:=G ‹_›;refine rpG ?_;apply cq;exact ⟨f.set 22 rfl,m,o,r,t,l⟩
    ·obtain rfl:=G ‹_›;obtain rfl:=pw ‹_›;refine rpG ?_;exact ⟨f.set 23 rfl,m,o,r,t,l⟩
    obtain ⟨rfl,rfl,rfl,rfl,rfl,rfl,rfl,rfl,rfl,rfl,rfl,rfl,rfl,rfl,rfl,rfl,rfl,rfl,rfl,rfl,rfl,rfl,rfl,rfl,_⟩:=f.all;have nH:D 11=true:=by assumption
    clear f;have a5:=t nH;rw [a1,hm,Bool.not_false,dz,dz] at U;cases e4:chkF p x
    ·refine aE (fun _=>done l ?_) (fun hb=>by cases hb);rw [<- U,e4];rfl
    ·refine aE (fun hb=>by cases hb) (fun _=>?_);rw [e4,dz] at U;refine bA (by omega) ?_;exact ⟨⟨k+1,_,m,o,b2,rfl,U,e2,a5,l.pick [true,true,true]⟩,by simp [intOf];omega⟩
  ·have l:=l;refine ⟨fun D GY YA YV V5 Qt Kb FT Ee DV FU FS xB wx xD wV yn xL yr AF xA yf Ar ze ud w_=>Fx D 0 [ud=.agg ys.toArray,ze=.bool true,Ar=.bool true,yf=undef,xA=undef,AF=undef,yr=undef,xL=undef,yn=undef,wV=undef,xD=undef,wx=undef,xB=undef,FS=.bool true,FU=.bool true,DV=undef,Ee=undef,FT=undef,Kb=undef,Qt=undef,V5=undef,YV=undef,YA=undef,GY=.bool true]/\Inv w [] [ay b3 #[ax g.kind,ax g.n,.string g.name,kv,ax (j:Int),eF fb fo O.length N] ar,ay b5 #[ax q.head.kind,ax q.head.n,.string q.head.name,kh,eF qb qo q.body.length Y] aB,.blk mm (.map es ck),ay a2 ys.toArray ab] S1 w_,⟨Fx.nil _ _,l.draw⟩,⟨?_,?_,?_,?_,?_,?_,?_,?_,?_,?_,?_,?_,?_,?_,?_,?_,?_,?_,?_,?_,?_,?_,?_,?_,trivial⟩,?_⟩;all_goals (intro D bw;intros;rename_i GY YA YV V5 Qt Kb FT Ee DV FU FS xB wx xD wV yn xL yr AF xA yf Ar ze ud w_ V;have f:=V.1;obtain ⟨⟨co,cn,B,cj,cA,J,bO,cM,de,dv,bU,cC,cY,dK,G,ek,eH,fl,gZ,fI,iI,jU,pw,sP,_⟩,l⟩:=V)
   ·refine av l 3 ac rfl (by simpa using b4) ?_;exact ⟨f.set 0 rfl,l⟩
   ·obtain rfl:=co ‹_›;refine Run.callPure o6 oG l (mY Z) fun w_ l=>?_;rw [a1];exact ⟨f.set 1 rfl,l⟩
   ·obtain rfl:=cn ‹_›;exact ⟨f.set 2 rfl,l⟩
   ·obtain rfl:=B ‹_›;refine rpG ?_;exact ⟨f.set 3 rfl,l⟩
   ·obtain rfl:=cj ‹_›;obtain rfl:=B ‹_›;refine rpG ?_;exact ⟨f.set 4 rfl,l⟩
   ·obtain rfl:=B ‹_›;refine rpG ?_;exact ⟨f.set 5 rfl,l⟩
   ·obtain rfl:=cA ‹_›;obtain rfl:=J ‹_›;obtain rfl:=B ‹_›;refine rpG ?_;exact ⟨f.set 6 rfl,l⟩
   ·obtain rfl:=bO ‹_›;obtain rfl:=B ‹_›;refine rpG ?_;exact ⟨f.set 7 rfl,l⟩
   ·obtain rfl:=cM ‹_›;obtain rfl:=B ‹_›;refine rpG ?_;exact ⟨f.set 8 rfl,l⟩
   ·obtain rfl:=B ‹_›;refine rpG ?_;exact ⟨f.set 9 rfl,l⟩
   ·obtain rfl:=B ‹_›;refine rpG ?_;exact ⟨f.set 10 rfl,l⟩
   ·obtain rfl:=de ‹_›;obtain rfl:=dv ‹_›;obtain rfl:=bU ‹_›;obtain rfl:=B ‹_›;refine rpG ?_;exact ⟨f.set 11 rfl,l⟩
   ·obtain rfl:=cC ‹_›;obtain rfl:=B ‹_›;refine rpG ?_;exact ⟨f.set 12 rfl,l⟩
   ·obtain rfl:=B ‹_›;obtain rfl:=cY ‹_›;refine rpG ?_;exact ⟨f.set 13 rfl,l⟩
   ·obtain rfl:=dK ‹_›;exact ⟨f.set 14 rfl,l⟩
   ·obtain rfl:=G ‹_›;refine rpG ?_;exact ⟨f.set 15 rfl,l⟩
   ·obtain rfl:=G ‹_›;refine rpG ?_;exact ⟨f.set 16 rfl,l⟩
   ·obtain rfl:=eH ‹_›;obtain rfl:=G ‹_›;refine rpG ?_;exact ⟨f.set 17 rfl,l⟩
   ·obtain rfl:=G ‹_›;refine rpG ?_;exact ⟨f.set 18 rfl,l⟩
   ·obtain rfl:=fl ‹_›;obtain rfl:=gZ ‹_›;obtain rfl:=G ‹_›;refine rpG ?_;exact ⟨f.set 19 rfl,l⟩
   ·obtain rfl:=fI ‹_›;obtain rfl:=G ‹_›;refine rpG ?_;exact ⟨f.set 20 rfl,l⟩
   ·obtain rfl:=ek ‹_›;obtain rfl:=iI ‹_›;obtain rfl:=G ‹_›;refine rpG ?_;exact ⟨f.set 21 rfl,l⟩
   ·obtain rfl:=jU ‹_›;obtain rfl:=G ‹_›;refine rpG ?_;exact ⟨f.set 22 rfl,l⟩
   ·obtain rfl:=G ‹_›;obtain rfl:=pw ‹_›;refine rpG ?_;exact ⟨f.set 23 rfl,l⟩
   obtain ⟨rfl,rfl,rfl,rfl,rfl,rfl,rfl,rfl,rfl,rfl,rfl,rfl,rfl,rfl,rfl,rfl,rfl,rfl,rfl,rfl,rfl,rfl,rfl,rfl,_⟩:=f.all;clear f co cn B cj cA J bO cM de dv bU cC cY dK G ek eH fl gZ fI iI jU pw sP;refine aE (fun _=>done l ?_) (fun hb=>by cases hb);rw [<- U,a1];rfl
 ·have:k=q.body.length:=by omega
  subst this;refine done l ?_;rw [<- U,dY];generalize O.drop q.body.length=zs;cases zs <;> rfl
noncomputable def checkB (p:List C) (x:PF):Bool:=dZ p && (kG x && chkF p x)
theorem zG {x:PF} (h:kG x=true):uC x 20=true:=by
 rw [kG,aZ] at h;exact h.1
theorem zX {p:List C} {x:PF} {S:ae} {u:Value} {cs:hZ} (g:RdSl S 5 (RdC S) u p) (h:RdF S cs x):ll Iy [u,.agg cs.toArray] S (.bool (checkB p x)):=by
 intro w a;have hl:=h.length;apply un.2;dsimp only[un,bl];refine bq a fun j w' a=>?_;refine Run.callPure lH ly a (jL g) fun w' a=>?_;rw [checkB];cases f:dZ p
 ·refine rpG ?_;exact done a rfl
 refine rpG ?_;refine av a 0 bp rfl (by simpa [Value.cells] using hl) (Run.callPure GG GW a (Cg h) fun w' a=>?_);cases i:kG x
 ·refine rpG ?_;exact done a rfl
 refine rpG ?_;refine av a 0 bp rfl (by simpa [Value.cells] using hl) (Run.callPure E8 FX a (JN f x 20 S u cs (zG i) g h) fun w' a=>?_);refine rpG ?_;exact done a rfl
theorem oV {p:List C} {x:PF} {S:ae} {u:Value} {cs:hZ} (i:RdSl S 5 (RdC S) u p) (h:RdF S cs x) (j:wP p<=1048576) (f:wF x<=1048576):ll Ih [u,.agg cs.toArray] S (.bool (checkB p x)):=by
 intro w a;have hl:=h.length;apply tW.2;dsimp only[tW,bl];refine bq a fun m w' a=>?_;refine Run.callPure Ag AH a (vF i j) fun w' a=>?_;rw [checkB];cases g:dZ p
 ·refine rpG ?_;exact done a rfl
 refine rpG ?_;refine av a 0 bp rfl (by simpa [Value.cells] using hl) (Run.callPure uj tA a (pX h f) fun w' a=>?_);cases l:kG x
 ·refine rpG ?_;exact done a rfl
 refine rpG ?_;refine av a 0 bp rfl (by simpa [Value.cells] using hl) (Run.callPure yO yu a (H7 g x 20 S u cs (zG l) i h) fun w' a=>?_);refine rpG ?_;exact done a rfl
end
end
section
open Go Go.RowKit
abbrev abM:List ByteArray:=[nEq,io,jH]
def fK (t:T):Bool:=eI t || dy t.name abM
def CD (p:List C):Bool:=dZ p && p.all fun c=>c.body.all fK
inductive Prv (p:List C):T->Prop
 | cl {t:T} {i:Int} {cl:C} {τ:Int->T}:i∈hH p t->p[i.toNat]?=some cl->sbT τ cl.head=t->(∀ b∈cl.body,Prv p (sbT τ b))->bW t=false->Prv p t
 | eq {t:T}:t.name=nEq->kd t 0=kd t 1->bW t=true->Prv p t
 | tru {t:T}:t.name=io->bW t=true->Prv p t
theorem MP (f:C->Bool):∀ (p:List C) (k j:Nat) (h:j<p.length),f p[j]=true->((k+j:Nat):Int)∈ig f p k
 | [],k,j,h,_=>by simp at h
 | c::p,k,0,h,hf=>by
  rw [ig,ai (by simpa using hf)];exact bi ..
 | c::p,k,j+1,h,hf=>by
  have:=MP f p (k+1) j (by simpa using h) (by simpa using hf);rw [show k+1+j=k+(j+1) by omega] at this;rw [ig];split
  ·exact bk _ this
  ·exact this
theorem Rb (σ:Int->T) {t:T} (h:t.kind≠1):sameHd t (sbT σ t):=by
 rw [oj σ h];exact ⟨rfl,rfl,by simp [T.kids,p8]⟩
theorem kP {t u:T} (h:sameHd t u):fK u=fK t:=by
 unfold fK eI;rw [h.1,h.2.1,h.2.2]
theorem Q1 {t:T} (h:bW t=true):t.kind=3:=by
 rw [bW,aZ] at h;exact of_decide_eq_true h.1
theorem aat {t:T} (h:bW t=true):eN t.name t.kids.length=true:=by
 rw [bW,aZ] at h;exact h.2
theorem WG {t:T} (a:fi t=true) (h:fK t=true):ncT t:=by
 refine ⟨kL a,?_⟩;rw [fK,jI] at h;rcases h with h|h
 ·exact (sw h rfl).1
 ·cases hc:fC t with
  | false=>rfl
  | true=>
   rw [fC,aZ,aZ,bt,bt] at hc;rw [hc.2.1] at h;exact absurd h (by decide +kernel)
theorem Wv (σ:Int->T) {t:T} (h:t.kind≠1) {i:Nat} (a:i<t.kids.length):kd (sbT σ t) i=sbT σ (kd t i):=by
 have f:∀ (ts:List T) (i:Nat),i<ts.length->(sbL σ ts).getD i zT=sbT σ (ts.getD i zT):=by
  intro ts;induction ts with
  | nil=>intro i a;simp at a
  | cons t ts g=>
   intro i a;rw [sbL];cases i with
   | zero=>rfl
   | succ i=>simpa using g i (by simpa using a)
 rw [oj σ h];exact f t.kids i a
theorem UM {t:T} (hn:t.name=nEq) (a:bW t=true):t.kids.length=2:=by
 have:=aat a;rw [hn] at this;have:=i6 (by decide +kernel) this;omega
theorem blt_eq {t:T} (hn:t.name=nEq):fx t=.uni (kd t 0) (kd t 1):=by
 unfold fx;rw [hn,af (by decide +kernel),af (by decide +kernel),ai rfl]
theorem V0 {t:T} (hn:t.name=io):fx t=.done 0:=by
 unfold fx;rw [ai hn]
theorem R2 {t:T} (hn:t.name=jH):fx t=.done 1:=by
 unfold fx;rw [hn,af (by decide +kernel),ai rfl]
theorem Yb (p:List C):acR p (Prv p):=by
 refine ⟨fun t h _ f=>?_,fun st g t c σ G o f j q a=>?_⟩
 ·cases h with
  | @cl _ i cl τ O D U V _=>exact ⟨i,O,cl,τ,D,U,V⟩
  | eq _ _ h=>rw [f] at h;cases h
  | tru _ h=>rw [f] at h;cases h
 ·have hk:t.kind≠1:=by have:=Q1 f;omega
  have hd:=Rb σ hk;obtain ⟨u,B⟩:∃ u,u=sbT σ t:=⟨_,rfl⟩
  rw [<- B] at q hd;cases q with
  | cl _ _ _ _ h=>rw [gz hd,f] at h;cases h
  | eq hn m _=>
   rw [hd.2.1] at hn;have D:=UM hn f;have a:BltJ st (fx t) c g:=a;rw [blt_eq hn] at a;obtain ⟨r,l,rfl⟩:=a;have N:okJ st.length (.one (kd t 0) (kd t 1)):=⟨qi o (by omega),qi o (by omega)⟩
   obtain ⟨J,M⟩:=l.sem G N σ;rw [B,Wv σ hk (by omega),Wv σ hk (by omega)] at m;cases r with
   | false=>exact absurd m (M rfl j)
   | true=>exact ⟨by decide,fun _=>(J rfl).2 ⟨j,m⟩⟩
  | tru hn _=>
   rw [hd.2.1] at hn;have a:BltJ st (fx t) c g:=a;rw [V0 hn] at a;obtain ⟨rfl,rfl⟩:=a;exact ⟨by decide,fun _=>j⟩
theorem FH:∀ (gs:List T) (xs:List PF) (st:au),n6 gs->st.length=26->gs.length=xs.length->Cm gs xs st=true->
  ∃ a,Gek st a/\∀ σ,Agk σ a->∀ i (h:i<gs.length) (B:i<xs.length),fC gs[i]=false/\sbT σ gs[i]=xs[i].goal
 | [],xs,st,_,_,_,_=>⟨st,Gek.refl _,fun _ _ i h=>by simp at h⟩
 | g::gs,[],st,_,_,h,_=>by simp at h
 | g::gs,x::xs,st,hv,hl,hlen,hb=>by
  rw [n6] at hv;rw [Cm,aZ,aZ,lg] at hb;obtain ⟨hc,q,r⟩:=hb;have f:=rK g x.goal st hv.1;obtain ⟨a,m,t⟩:=FH gs xs _ hv.2 (f.1.trans hl) (by simpa using hlen) r;refine ⟨a,f.trans m,fun σ l i o j=>?_⟩;cases i with
  | zero=>exact ⟨hc,s9 σ g x.goal st hv.1 hl q (l.less m)⟩
  | succ i=>exact t σ l i (by simpa using o) (by simpa using j)
theorem M3 {p:List C}:∀ {a:List PF},chkFL p a=true->∀ x∈a,chkF p x=true
 | k::a,h,x,f=>by
  rw [chkFL,aZ] at h;rcases cw.1 f with rfl|f
  ·exact h.1
  ·exact M3 h.2 x f
theorem Zy {st:au} (h:st.all Option.isNone=true) (σ:Int->T):kW σ st:=by
 intro n u hn;have:=eX.1 h _ (cJ hn);cases this
theorem aa2 {p:List C} {g:T} (J:fi g=true) (a:fK g=true) (h:bltV g=true):Prv p g:=by
 have q:=eL J;rcases A4 q with ⟨_,t⟩|⟨o,code,B,i,hf⟩
 ·rw [h] at t;cases t
 rw [h,wo] at hf;have hf:=hf.symm;rw [aZ,bt] at hf;obtain ⟨rfl,j⟩:=hf;rw [fK,jI] at a;have i:BltJ YO (fx g) 0 B:=i;rcases a with a|a
 ·have:=(sw a rfl).2;rw [o] at this;cases this
 ·rw [dy,ET] at a;obtain ⟨x,D,f⟩:=a;have f:=of_decide_eq_true f;simp only [cw,ic,g9] at D;rcases D with rfl|rfl|rfl
  ·rw [blt_eq f] at i;obtain ⟨r,M,hc⟩:=i;have t:=UM f o;have N:=lr q;have G:okU 26 g/\wT g<=1048576:=⟨ie q,by omega⟩
   have l:okU 26 (kd g 0)/\wT (kd g 0)<=1048576:=qi G (by omega);have m:okU 26 (kd g 1)/\wT (kd g 1)<=1048576:=qi G (by omega);cases r with
   | false=>cases hc
   | true=>
    have:=((M.sem (mq 26) ⟨l,m⟩ idS).1 rfl).1 (Zy j idS);have e:sbT idS (kd g 0)=sbT idS (kd g 1):=this.2;rw [NG _ l.1,NG _ m.1] at e;exact .eq f e o
  ·exact .tru f o
  ·rw [R2 f] at i;cases i.1
theorem abr {p:List C} (l:dZ p=true) (J:∀ c∈p,∀ b∈c.body,fK b=true):∀ (x:PF) (d:Int),uC x d=true->chkF p x=true->(0<=x.clause ∨ fK x.goal=true)->Prv p x.goal/\(0<=x.clause->ncT x.goal):=by
 refine PF.ind fun g c ks ih d N r a=>?_;simp only [PF.goal,PF.clause] at a ⊢;obtain ⟨hg,hc,O⟩:=oo N;rw [chkF,aZ,nodeC] at r;obtain ⟨hn,U⟩:=r;by_cases h0:c<0
 ·rw [ai h0,aZ] at hn;exact ⟨aa2 hg (a.resolve_left (by omega)) hn.2,fun h=>absurd h (by omega)⟩
 ·rw [af h0] at hn;split at hn
  ·cases hn
  rename_i q M
  simp only [aZ,bt] at hn;obtain ⟨a1,hm,hb⟩:=hn;have j:=cJ M;have Y:=uI l j;obtain ⟨v1,v2⟩:=Yl Y;have Z:=rK q.head g st0 v1;obtain ⟨o,h1,h2⟩:=FH q.body ks _ v2 (Z.1.trans (by simp [st0])) (by omega) hb;obtain ⟨τ,hτ⟩:∃ τ,τ=ofK o:=⟨_,rfl⟩
  have ha:Agk τ o:=by rw [hτ];exact aa9 o
  have hh:sbT τ q.head=g:=s9 τ _ _ _ v1 (by simp [st0]) hm (ha.less h1);have B:=IB l j;have h3:q.head.kind≠1:=by
   rw [eI,aZ,bt] at B;omega
  have hd:=Rb τ h3;rw [hh] at hd;obtain ⟨n1,n2⟩:=sw B (kQ hd).symm;obtain ⟨hl,V⟩:=fS.1 M;refine ⟨.cl (i:=c) (cl:=q) (τ:=τ) ?_ M hh (fun b m=>?_) n2,fun _=>⟨kL hg,n1⟩⟩
  ·have:=MP (fun c=>kX (cW c.head) (cW g)) p 0 c.toNat hl (by rw [V,xr];exact (kQ hd).symm);rw [show ((0+c.toNat:Nat):Int)=c by omega] at this;exact this
  ·obtain ⟨i,hi,rfl⟩:=CV m;have D:i<ks.length:=by omega
   obtain ⟨_,e⟩:=h2 τ ha i hi D;have f:=bJ D;have a0:=rY l j m;have G:=Rb τ (t:=q.body[i]) (by have:=kL a0;omega);rw [e] at G ⊢;exact (ih _ f _ (O _ f) (M3 U _ f) (.inr (by rw [kP G];exact J q j _ m))).1
theorem Xd {p:List C} {P:T->Prop} {q:List T} (f:eJ q=true) (h:∀ t∈q,P t) (vars:List Int):Qp p P (fun σ=>∀ n∈vars,σ n=idS n) (jb q):=by
 refine .inl ⟨by show 26<=(List.replicate 26 (none:Option T)).length;simp,idS,fun n u hn=>?_,fun n _=>rfl,fun g i=>?_⟩
 ·have hn:(List.replicate 26 (none:Option T))[n]?=some (some u):=hn;rw [Qc] at hn;split at hn <;> cases hn
 ·obtain ⟨t,a,rfl⟩:=eV.1 i;show P (sbT idS t);rw [NG _ (ie ((uQ f).2 t a))];exact h t a
theorem P6 {R:T->Prop} {q:List T} (h:∀ t∈q,R t):Nc R (jb q):=by
 refine ⟨fun g a=>?_,fun c hc=>by cases hc⟩;obtain ⟨t,f,rfl⟩:=eV.1 a;exact h t f
theorem Pu {p:List C} {x:PF} (h:checkB p x=true) (i:CD p=true) (hc:0<=x.clause) {most fuel:Nat} {r:List (List T) × Int} (m:SolR p [x.goal] most fuel r):r.2≠0 ∨ 0<r.1.length:=by
 rw [checkB,aZ,aZ] at h;obtain ⟨f,G,q⟩:=h;rw [CD,aZ,eX] at i;have a:∀ c∈p,∀ b∈c.body,fK b=true:=fun c hc b g=>eX.1 (i.2 c hc) b g;obtain ⟨J,hn⟩:=abr f a x 20 (zG G) q (.inl hc);rcases m with ⟨g,m⟩|⟨_,rfl⟩
 ·rw [aZ] at g;by_cases D:r.2=0
  ·right;obtain ⟨vs,B,_⟩:=m.cov (kM f).1 (Yb p) (fun cl j b l=>WG (rY f j l) (a cl j b l)) (zi g.2).1 (pl g.2 _) (P6 fun t o=>by rw [cE.1 o];exact hn hc) (Xd g.2 (fun t o=>by rw [cE.1 o];exact J) _) D;exact List.length_pos_of_mem B
  ·exact .inl D
 ·left;decide
end
section
open Go Go.RowKit
section
variable {S:ae} {w w0:World} {X:List Nat} {L:List Item} {K:Value->World->Prop}
theorem adf (h:Inv w0 X L S w) {cs:hZ} {t:T} (hc:RdT S cs t) (hk:∀ v S' w',Ext w0.heap.size X S S'->RdSl S' 4 (RdT S') v [t]->Inv w0 X L S' w'->K v w'):Run Tryz.prog (bY vB 1 [(0,.agg cs.toArray)]) w K:=by
 refine dQ h bx (by simp [Value.cells,hc.length]) (by omega) (by omega) fun b w' a=>?_;obtain ⟨S1,a,f,g⟩:=a.pub1;exact hk _ S1 w' f (YT g (hc.mono f.1)) a
theorem Gs {t:T} {cs:hZ} (h:RdT S cs t):ll i5 [.agg cs.toArray] S (.bool (!fK t)):=by
 intro w a;have l:=h;obtain ⟨kv,rfl,_,_,m,_⟩:=RdT.iff.1 h;apply pq.2;dsimp only[pq,aR];refine bq a fun i w' a=>?_;have a:Inv w [] [ay i (gn t kv) ab] S w':=a;refine av a 0 ac rfl rfl (Run.callPure sQ s8 a (qG l) fun w' a=>?_);apply cq;cases g:eI t
 ·refine rpG ?_;refine gT a (by kernel_rfl) rfl (by omega) fun v S1 w' f j a=>?_;refine ad a 0 rfl aW aP rfl (Run.callPure gC gA a (gi t.name j) fun w' a=>?_);apply cq;refine rpG ?_;refine iN a f.1 ?_;have e:((U9 [(0,.string ⟨#[61]⟩),(1,.string ⟨#[116,114,117,101]⟩),(2,.string ⟨#[102,97,105,108]⟩)]).any fun x=>decide (x=t.name))=dy t.name abM:=by
   rw [dy];simp only [U9,fD,List.any_nil,u5]
  rw [fK,g,ib,<- e]
 ·refine rpG ?_;refine done a ?_;rw [fK,g];rfl
theorem HS {α:Type} (f:α->Bool):∀ l:List α,(l.any fun x=>!f x)=!l.all f
 | []=>rfl
 | x::l=>by rw [fD,Wu,HS f l,Bool.not_and]
theorem Gx {c:C} {cs:hZ} {i:Nat} {E:TypeId} (h:RdC S cs c) (j:S i=some (.cells #[.func (.func i5) #[] #[]] E)) :
  ll pS [.agg cs.toArray,ee i] S (.bool (!c.body.all fK)):=by
 intro w a;obtain ⟨hd,q,rfl,r,t⟩:=h;obtain ⟨kv,rfl,_⟩:=RdT.iff.1 r;apply oK.2;dsimp only[oK,bl];refine bq a fun m w' a=>?_;have a:Inv w [] [ay m #[ax c.head.kind,ax c.head.n,.string c.head.name,kv,q] aB] S w':=a;refine ad a 0 rfl bF aj rfl (cS (by kernel_rfl) (by rw [a.cellS j];rfl) ?_);have g:Cb Tryz.prog i5 _ [] S (fun _:Unit=>[]) (fun _=>True) (fun _ x=>(!fK x,())) (fun v x=>∃ cs,v=.agg cs.toArray/\RdT S cs x) c.body:=
  Cb.pure [] zA zJ fun x v B=>by
   rintro ⟨cs,rfl,f⟩ l a;exact (Gs f l a).mono fun e w' ⟨o,a⟩=>⟨_,_,_,o,a,Ext.refl _ _ _,rfl,rfl,rfl⟩
 refine Run.call0 fO fL a (jx g t (st:=()) trivial) fun D I' S' w'=>?_;rintro ⟨rfl,rfl,rfl⟩ _ a;refine done a ?_;rw [mu (fun x=>!fK x) c.body,HS]
theorem LA {p:List C} {u:Value} (h:RdSl S 5 (RdC S) u p):ll Hg [u] S (.bool (CD p)):=by
 intro w a;apply rL.2;dsimp only[rL,aR];refine aG a (z:=.nilFunc) (by kernel_rfl) fun l w' a=>?_;refine dD a 0 (n:=1) rfl (by decide +kernel) rfl (by simp [Value.cells]) (by simp [Value.cells,Value.oneCell']) fun w' a=>?_;have a:Inv w [] ([]++[ay l #[.func (.func i5) #[] #[]] z6]) S w':=a;obtain ⟨S1,a,f,i⟩:=a.pub1;have h:=h.monoC f.1;refine Run.callPure lH ly a (jL h) fun w' a=>?_;cases m:dZ p
 ·refine rpG ?_;refine iN a f.1 ?_;rw [CD,m];rfl
 refine rpG ?_;apply md;have j:Cb Tryz.prog pS _ [ee l] S1 (fun _:Unit=>[]) (fun _=>True) (fun _ x=>(!x.body.all fK,())) (fun v x=>∃ cs,v=.agg cs.toArray/\RdC S1 cs x) p:=
  Cb.pure [] zU zI fun x v r=>by
   rintro ⟨cs,rfl,g⟩ o a;exact (Gx g i o a).mono fun e w' ⟨q,a⟩=>⟨_,_,_,q,a,Ext.refl _ _ _,rfl,rfl,rfl⟩
 refine Run.call0 jO j8 a (lm j h (st:=()) trivial) fun t I' S' w'=>?_;rintro ⟨rfl,rfl,rfl⟩ _ a;apply cq;rw [mu (fun x:C=>!x.body.all fK) p,HS (fun x:C=>x.body.all fK) p];refine rpG ?_;refine iN a f.1 ?_;rw [CD,m,Bool.not_not];rfl
end
end
end Go.Proofs.YtellfcpffcipcaaGreatDoor

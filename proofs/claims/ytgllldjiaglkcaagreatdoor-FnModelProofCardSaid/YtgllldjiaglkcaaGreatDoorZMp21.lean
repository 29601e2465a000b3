/- The program's check of proofs, and CheckProof on both sides. -/
import Derived.Test.YtgllldjiaglkcaaGreatDoorZMp16
import Derived.Test.YtgllldjiaglkcaaGreatDoorZMp4
import Derived.Lib.Overlaps
namespace Go.Proofs.YtgllldjiaglkcaaGreatDoor
section
open Go Go.RowKit
section
attribute [local irreducible] Run CondV az aO
set_option maxHeartbeats 1000000 in
theorem GU {p:List C} (hpv:de p=true):∀ (x:PF) (d:Int) (S:ae) (u:Value) (cs:List Value),E3 x d=true->RdSl S 5 (RdC S) u p->RdF S cs x->Pure Tryz.prog SA [u,.agg cs.toArray] S (.bool (chkF p x)):=by
 refine PF.ind fun g c ks ih d S u cs hsh hp h=>?_
 intro w hI
 obtain ⟨kv,kf,rfl,hg,hci,hks⟩:=RdF.iff.1 h
 obtain ⟨hgb,hcr,hkids⟩:=Kj hsh
 have hgv:=fw hgb
 have hgw:=qR hgv
 simp only [PF.goal,PF.kids,PF.clause] at hg hci hks ⊢
 have hkl:=hks.le
 simp only [maxLen] at hkl
 rw [chkF,nodeC]
 refine D9.2 ?_
 dsimp only[D9,aY]
 refine bq hI fun b3 w' hI=>?_
 have hI:Inv w [] [.blk b3 (.cells #[.int .i64 g.kind,.int .i64 g.n,.string g.name,kv,.int .i64 c,kf] aK)] S w':=hI
 refine af (u:=.int .i64 c) hI 0 rfl jl aG rfl ?_
 refine bH ?_
 refine aL (fun hneg=>?_) (fun hneg=>?_)
 ·rw [ai hneg]
  refine au ib ?_
  refine di hI 0 [.int .i64 g.kind,.int .i64 g.n,.string g.name,kv] ad rfl rfl KL ?_
  refine Run.call0E Bt Ck hI (vt hgv ⟨io hgv,by omega⟩ (UZ hgv) (Ts hgv) hg) fun v' I' S1 w'=>?_
  rintro ⟨a,n,cap,c1,rfl,hfl⟩ hE hI
  refine ar (v:=.slice a n cap) rfl ?_
  refine ar (v:=.int .i64 c1) rfl ?_
  refine au ib ?_
  refine di hI 0 [.int .i64 g.kind,.int .i64 g.n,.string g.name,kv] ad rfl rfl KL ?_
  refine Run.callPure jy jx hI (iS (hg.mono hE.1)) fun w' hI=>?_
  have hk0:chkFL p ks=true ∨ ks.length≠0:=by
   by_cases h:ks.length=0
   ·rw [gO h]; exact .inl rfl
   ·exact .inr h
  cases hb:cI g
  ·refine rpG ?_
   refine fT hI hE.1 ?_
   rcases Ts hgv with ⟨_,h2⟩|⟨h2,_⟩
   ·rw [h2,kY]; rfl
   ·rw [hb] at h2; cases h2
  refine rpG ?_
  refine af hI 0 rfl fH g8 rfl ?_
  refine aF hks ic ?_
  refine bl ?_
  have el:decide ((ks.length:Int)=0)=decide (ks.length=0):=by rw [fg]; omega
  rw [el]
  cases hkk:decide (ks.length=0)
  ·refine rpG ?_
   exact fT hI hE.1 rfl
  have hkk:=of_decide_eq_true hkk
  have hcl:chkFL p ks=true:=hk0.resolve_right (fun h=>h hkk)
  rw [hcl]
  refine rpG ?_
  refine eV Vf ?_
  refine bl ?_
  have en:decide ((n:Int)=0)=decide (n=0):=by rw [fg]; omega
  rw [en,<- hfl]
  cases hn0:decide (n=0)
  ·refine rpG ?_
   refine fT hI hE.1 ?_
   simp
  refine rpG ?_
  refine bl ?_
  refine rpG ?_
  refine fT hI hE.1 ?_
  simp
 rw [ah hneg]
 by_cases hge:(p.length:Int)<=c
 ·have hpn:p[c.toNat]?=none:=Uh (by omega)
  rw [hpn]
  refine ⟨fun D CL zp ze wa vA vY ut nR oK sW vO wB tB mg qB vh tI ll w_=>Fx D 0 [ll=.pointer (some ⟨b3,4,none⟩),tI=.int .i64 c,vh=u,qB=.int .i64 p.length,mg=.bool true,tB=.bool true,wB=undef,vO=undef,sW=undef,oK=undef,nR=undef,ut=undef,vY=undef,vA=undef,wa=undef,ze=undef,zp=undef,CL=.bool true]/\Inv w [] [.blk b3 (.cells #[.int .i64 g.kind,.int .i64 g.n,.string g.name,kv,.int .i64 c,kf] aK)] S w_,⟨Fx.nil _ _,hI.draw⟩,⟨?_,?_,?_,?_,?_,?_,?_,?_,?_,?_,?_,?_,?_,?_,?_,?_,?_,?_,trivial⟩,?_⟩
  all_goals (intro D bF; intros; rename_i CL zp ze wa vA vY ut nR oK sW vO wB tB mg qB vh tI ll w_ hA_; have hF_:=hA_.1; obtain ⟨⟨cj,ci,bR,ce,bP,bY,bZ,cH,c5,dI,bX,cr,cZ,eo,c8,eQ,fW,hO,_⟩,hI⟩:=hA_)
  ·refine au jl ?_
   exact ⟨hF_.set 0 rfl,hI⟩
  ·obtain rfl:=cj ‹_›
   refine aN hI 0 aG rfl rfl ?_
   exact ⟨hF_.set 1 rfl,hI⟩
  ·exact ⟨hF_.set 2 rfl,hI⟩
  ·obtain rfl:=bR ‹_›
   refine aF hp b0 ?_
   exact ⟨hF_.set 3 rfl,hI⟩
  ·obtain rfl:=ci ‹_›
   obtain rfl:=ce ‹_›
   refine jS ?_
   rw [aI hge]
   exact ⟨hF_.set 4 rfl,hI⟩
  ·obtain rfl:=bP ‹_›
   exact ⟨hF_.set 5 rfl,hI⟩
  ·obtain rfl:=bY ‹_›
   refine rpG ?_
   exact ⟨hF_.set 6 rfl,hI⟩
  ·obtain rfl:=bZ ‹_›
   obtain rfl:=bY ‹_›
   refine rpG ?_
   exact ⟨hF_.set 7 rfl,hI⟩
  ·obtain rfl:=cH ‹_›
   obtain rfl:=bY ‹_›
   refine rpG ?_
   exact ⟨hF_.set 8 rfl,hI⟩
  ·obtain rfl:=bY ‹_›
   refine rpG ?_
   exact ⟨hF_.set 9 rfl,hI⟩
  ·obtain rfl:=bY ‹_›
   refine rpG ?_
   exact ⟨hF_.set 10 rfl,hI⟩
  ·obtain rfl:=bX ‹_›
   obtain rfl:=bY ‹_›
   refine rpG ?_
   exact ⟨hF_.set 11 rfl,hI⟩
  ·obtain rfl:=dI ‹_›
   obtain rfl:=cr ‹_›
   obtain rfl:=bY ‹_›
   refine rpG ?_
   exact ⟨hF_.set 12 rfl,hI⟩
  ·obtain rfl:=cZ ‹_›
   obtain rfl:=bY ‹_›
   refine rpG ?_
   exact ⟨hF_.set 13 rfl,hI⟩
  ·obtain rfl:=eo ‹_›
   obtain rfl:=bY ‹_›
   refine rpG ?_
   exact ⟨hF_.set 14 rfl,hI⟩
  ·obtain rfl:=c8 ‹_›
   obtain rfl:=bY ‹_›
   refine rpG ?_
   exact ⟨hF_.set 15 rfl,hI⟩
  ·obtain rfl:=c5 ‹_›
   obtain rfl:=eQ ‹_›
   obtain rfl:=bY ‹_›
   refine rpG ?_
   exact ⟨hF_.set 16 rfl,hI⟩
  ·obtain rfl:=bY ‹_›
   obtain rfl:=fW ‹_›
   refine rpG ?_
   exact ⟨hF_.set 17 rfl,hI⟩
  obtain ⟨rfl,rfl,rfl,rfl,rfl,rfl,rfl,rfl,rfl,rfl,rfl,rfl,rfl,rfl,rfl,rfl,rfl,rfl,_⟩:=hF_.all
  clear hF_ cj ci bR ce bP bY bZ cH c5 dI bX cr cZ eo c8 eQ fW hO
  refine aw (fun _=>done hI rfl) (fun hb=>by cases hb)
 obtain ⟨j,hcj⟩:∃ j:Nat,c=(j:Int):=⟨c.toNat,by omega⟩
 have hjl:j<p.length:=by omega
 subst hcj
 have hpe:p[(j:Int).toNat]?=some p[j]:=by rw [dv,gL hjl]
 rw [hpe]
 have hqv:=PZ hpv (bz hjl)
 obtain ⟨q,hq⟩:∃ q,q=p[j]:=⟨_,rfl⟩
 obtain ⟨pb,po,pcap,pc,pE,pfz,rfl,hpS,hpR⟩:=hp.at_ hjl
 rw [<- hq] at hpR hqv ⊢
 obtain ⟨kh,kb,hcc,hqh,hqb⟩:=hpR.cells
 have hcl5:=hpR.length
 rw [hcc] at hpR
 have hlq:decide ((ks.length:Int)=(q.body.length:Int))=decide (ks.length=q.body.length):=by rw [fg]; omega
 have hqo:=VB hqv
 refine ⟨fun D CL zp ze wa vA vY ut nR oK sW vO wB tB mg qB vh tI ll w_=>Fx D 0 [ll=.pointer (some ⟨b3,4,none⟩),tI=.int .i64 (j:Int),vh=.slice (some ⟨pb,po,none⟩) p.length pcap,qB=.int .i64 p.length,mg=.bool false,tB=.bool false,wB=.pointer (some ⟨b3,5,none⟩),vO=kf,sW=.int .i64 ks.length,oK=.slice (some ⟨pb,po,none⟩) p.length pcap,nR=.pointer (some ⟨b3,4,none⟩),ut=.int .i64 (j:Int),vY=.pointer (some ⟨pb,po+j * 5,none⟩),vA=.pointer (some ⟨pb,po+j * 5+4,none⟩),wa=kb,ze=.int .i64 q.body.length,zp=.bool (!decide (ks.length=q.body.length)),CL=.bool (!decide (ks.length=q.body.length))]/\Inv w [] [.blk b3 (.cells #[.int .i64 g.kind,.int .i64 g.n,.string g.name,kv,.int .i64 (j:Int),kf] aK)] S w_,⟨Fx.nil _ _,hI.draw⟩,⟨?_,?_,?_,?_,?_,?_,?_,?_,?_,?_,?_,?_,?_,?_,?_,?_,?_,?_,trivial⟩,?_⟩
 all_goals (intro D bF; intros; rename_i CL zp ze wa vA vY ut nR oK sW vO wB tB mg qB vh tI ll w_ hA_; have hF_:=hA_.1; obtain ⟨⟨cj,ci,bR,ce,bP,bY,bZ,cH,c5,dI,bX,cr,cZ,eo,c8,eQ,fW,hO,_⟩,hI⟩:=hA_)
 ·refine au jl ?_
  exact ⟨hF_.set 0 rfl,hI⟩
 ·obtain rfl:=cj ‹_›
  refine aN hI 0 aG rfl rfl ?_
  exact ⟨hF_.set 1 rfl,hI⟩
 ·exact ⟨hF_.set 2 rfl,hI⟩
 ·obtain rfl:=bR ‹_›
  refine aF hp b0 ?_
  exact ⟨hF_.set 3 rfl,hI⟩
 ·obtain rfl:=ci ‹_›
  obtain rfl:=ce ‹_›
  refine jS ?_
  rw [aP hge]
  exact ⟨hF_.set 4 rfl,hI⟩
 ·obtain rfl:=bP ‹_›
  exact ⟨hF_.set 5 rfl,hI⟩
 ·obtain rfl:=bY ‹_›
  refine rpG ?_
  refine au fH ?_
  exact ⟨hF_.set 6 rfl,hI⟩
 ·obtain rfl:=bZ ‹_›
  obtain rfl:=bY ‹_›
  refine rpG ?_
  refine aN hI 0 g8 rfl rfl ?_
  exact ⟨hF_.set 7 (by first|assumption|trivial),hI⟩
 ·have Io:=cH ‹_›
  obtain rfl:=bY ‹_›
  refine rpG ?_
  refine aF (xs:=ks) (by rw [Io]; exact hks) ic ?_
  exact ⟨hF_.set 8 rfl,hI⟩
 ·obtain rfl:=bY ‹_›
  refine rpG ?_
  exact ⟨hF_.set 9 rfl,hI⟩
 ·obtain rfl:=bY ‹_›
  refine rpG ?_
  refine au jl ?_
  exact ⟨hF_.set 10 rfl,hI⟩
 ·obtain rfl:=bX ‹_›
  obtain rfl:=bY ‹_›
  refine rpG ?_
  refine aN hI 0 aG rfl rfl ?_
  exact ⟨hF_.set 11 rfl,hI⟩
 ·obtain rfl:=dI ‹_›
  obtain rfl:=cr ‹_›
  obtain rfl:=bY ‹_›
  refine rpG ?_
  refine aE b0 hjl ?_
  exact ⟨hF_.set 12 rfl,hI⟩
 ·obtain rfl:=cZ ‹_›
  obtain rfl:=bY ‹_›
  refine rpG ?_
  refine au bj ?_
  exact ⟨hF_.set 13 rfl,hI⟩
 ·obtain rfl:=eo ‹_›
  obtain rfl:=bY ‹_›
  refine rpG ?_
  refine ct aj (by rw [hI.cellS hpS]; exact aH hcc 4 _ rfl) ?_
  exact ⟨hF_.set 14 (by first|assumption|trivial),hI⟩
 ·have V9:=c8 ‹_›
  obtain rfl:=bY ‹_›
  refine rpG ?_
  refine aF (xs:=q.body) (by rw [V9]; exact hqb) ag ?_
  exact ⟨hF_.set 15 rfl,hI⟩
 ·obtain rfl:=c5 ‹_›
  obtain rfl:=eQ ‹_›
  obtain rfl:=bY ‹_›
  refine rpG ?_
  refine ef ?_
  rw [hlq]
  exact ⟨hF_.set 16 rfl,hI⟩
 ·obtain rfl:=bY ‹_›
  obtain rfl:=fW ‹_›
  refine rpG ?_
  exact ⟨hF_.set 17 rfl,hI⟩
 obtain ⟨rfl,rfl,rfl,rfl,rfl,rfl,rfl,Io,rfl,rfl,rfl,rfl,rfl,rfl,V9,rfl,rfl,rfl,_⟩:=hF_.all
 clear hF_ cj ci bR ce bP bY bZ cH c5 dI bX cr cZ eo c8 eQ fW hO
 refine aw (fun hb=>done hI ?_) (fun hb=>?_)
 ·have hb:decide (ks.length=q.body.length)=false:=by simpa using hb
  simp only [hb]
  rfl
 have hlen:ks.length=q.body.length:=by simpa using hb
 simp only [aI hlen,dg]
 refine af (u:=.int .i64 (j:Int)) hI 0 rfl jl aG rfl ?_
 refine aE b0 hjl ?_
 refine bL (cs:=[.int .i64 q.head.kind,.int .i64 q.head.n,.string q.head.name,kh,kb]) bx rfl (fun i v hi=>by rw [hI.cellS hpS]; exact aH hcc i v hi) ?_
 refine aT hI eI fun b5 w' hI=>?_
 refine aC hI 1 rfl bx rfl rfl (by simpa using hpR.one) fun w' hI=>?_
 refine u4 hI fun mm w' hI=>?_
 have hI:Inv w [] [.blk b3 (.cells #[.int .i64 g.kind,.int .i64 g.n,.string g.name,kv,.int .i64 (j:Int),kf] aK),.blk b5 (.cells #[.int .i64 q.head.kind,.int .i64 q.head.n,.string q.head.name,kh,kb] aq),.blk mm (.map #[] 0)] S w':=hI
 refine au ib ?_
 refine di hI 0 [.int .i64 g.kind,.int .i64 g.n,.string g.name,kv] ad rfl rfl KL ?_
 refine au cE ?_
 refine di hI 1 [.int .i64 q.head.kind,.int .i64 q.head.n,.string q.head.name,kh] ad rfl rfl SK ?_
 have hgk:=(p9 hgv).2
 have hcall:=jE q.head g S _ _ mm 0 #[] st0 hqh hg hqo.1.1 hgk V8 (KnownM.empty S)
 have hsn:=pL q.head g st0 V8 hgk
 generalize bt q.head g st0=r0 at hcall hsn ⊢
 refine Run.call (A:=[_,_]) iO iU hI hcall fun v' I' S1 w'=>?_
 rintro ⟨rfl,rfl,es0,ck0,rfl,hkm⟩ _ hI
 refine bQ ?_
 cases hr0:r0.1
 ·refine aw (fun _=>done hI rfl) (fun hb=>by cases hb)
 refine aw (fun hb=>by cases hb) (fun _=>?_)
 simp only [dg]
 rw [<- OB p q.body ks r0.2 hlen.symm]
 refine af hI 1 rfl bj aj rfl ?_
 refine aF hqb ag ?_
 refine ⟨fun i w'=>∃ (k:Nat) (st':al) (es:Array MapEntry) (ck:Nat),k<=q.body.length/\i=.int .i64 k/\interL p (q.body.drop k) (ks.drop k) st'=interL p q.body ks r0.2/\xA st'/\KnownM S1 es st'/\Inv w [] [.blk b3 (.cells #[.int .i64 g.kind,.int .i64 g.n,.string g.name,kv,.int .i64 (j:Int),kf] aK),.blk b5 (.cells #[.int .i64 q.head.kind,.int .i64 q.head.n,.string q.head.name,kh,kb] aq),.blk mm (.map es ck)] S1 w',
  fun i _=>q.body.length - (intOf i).toNat,⟨0,r0.2,es0,ck0,be _,rfl,rfl,hsn,hkm,hI⟩,?_⟩
 intro i _ _ t100 t99 t98 t97 t96 t95 t94 t93 t92 t91 t90 t89 t88 t87 t86 t85 t84 t83 t82 t81 t80 t79 t78 t77 _ _ _ _ _ _ w'
 rintro ⟨k,st',es,ck,hk,rfl,hrel,hst,hkm,hI⟩
 have hqbl:=hqb.le
 simp only [maxLen] at hqbl
 refine bH ?_
 refine aL (fun hki=>?_) (fun hki=>?_)
 ·have hk1:k<q.body.length:=by omega
  have hk2:k<ks.length:=by omega
  rw [cU hk1,cU hk2,interL] at hrel
  obtain ⟨qb,qo,qcap,qc,qE,qfz,rfl,hqS,hqR⟩:=hqb.at_ hk1
  obtain ⟨fb,fo,fcap,fc,fE,ffz,rfl,hfS,hfR⟩:=hks.at_ hk2
  obtain ⟨fv,ff,hfe,hfg,_,_⟩:=RdF.iff.1 hfR
  obtain ⟨x,hx⟩:∃ x,x=ks[k]:=⟨_,rfl⟩
  obtain ⟨y,hy⟩:∃ y,y=q.body[k]:=⟨_,rfl⟩
  have hym:y∈q.body:=by rw [hy]; exact bz hk1
  have hxm:x∈ks:=by rw [hx]; exact bz hk2
  have hxs:=hkids x hxm
  have hxg:eq x.goal=true:=by
   obtain ⟨xg,xc,xk⟩:=x
   exact (Kj hxs).1
  rw [<- hx] at hfe hfg hrel hfR
  rw [<- hy] at hqR hrel
  refine aE ag hk1 ?_
  refine bL ad hqR.length (fun i v hi=>by rw [hI.cellS hqS]; exact aH rfl i v hi) ?_
  refine aT hI aZ fun b10 w' hI=>?_
  refine aC hI 3 rfl ad (by simpa using hqR.length) rfl (by simpa using hqR.one) fun w' hI=>?_
  obtain ⟨ys,hys⟩:∃ ys,ys=aX qc (qo+k * 4) 4:=⟨_,rfl⟩
  rw [<- hys] at hqR hI
  have hyl:=hqR.length
  have hI:Inv w [] [.blk b3 (.cells #[.int .i64 g.kind,.int .i64 g.n,.string g.name,kv,.int .i64 (j:Int),.slice (some ⟨fb,fo,none⟩) ks.length fcap] aK),.blk b5 (.cells #[.int .i64 q.head.kind,.int .i64 q.head.n,.string q.head.name,kh,.slice (some ⟨qb,qo,none⟩) q.body.length qcap] aq),.blk mm (.map es ck),.blk b10 (.cells ys.toArray ab)] S1 w':=hI
  have hst2:=pL y x.goal st' hst (p9 (fw hxg)).2
  cases hcut:fS y
  ·cases hm:(bt y x.goal st').1
   ·have hI:=hI
    refine ⟨fun D EH W0 Wy Uw Ur P8 OR PD Pl OO P3 PI NM O5 IG IQ Kw GX Ks Hl HQ N4 Ph FL w_=>Fx D 0 [FL=.agg ys.toArray,Ph=.bool false,N4=.bool false,HQ=.pointer (some ⟨b3,5,none⟩),Hl=.slice (some ⟨fb,fo,none⟩) ks.length fcap,Ks=.int .i64 k,GX=.pointer (some ⟨fb,fo+k * 6,none⟩),Kw=.pointer (some ⟨fb,fo+k * 6,none⟩),IQ=.agg #[.int .i64 x.goal.kind,.int .i64 x.goal.n,.string x.goal.name,fv],IG=.agg ys.toArray,O5=.map (some mm),NM=.bool false,PI=.bool true,P3=.bool true,OO=.bool true,Pl=undef,PD=undef,OR=undef,P8=undef,Ur=undef,Uw=undef,Wy=undef,W0=undef,EH=.bool true]/\∃ es1 ck1,(D 11=false->es1=es/\ck1=ck)/\(D 11=true->KnownM S1 es1 (bt y x.goal st').2)/\Inv w [] [.blk b3 (.cells #[.int .i64 g.kind,.int .i64 g.n,.string g.name,kv,.int .i64 (j:Int),.slice (some ⟨fb,fo,none⟩) ks.length fcap] aK),.blk b5 (.cells #[.int .i64 q.head.kind,.int .i64 q.head.n,.string q.head.name,kh,.slice (some ⟨qb,qo,none⟩) q.body.length qcap] aq),.blk mm (.map es1 ck1),.blk b10 (.cells ys.toArray ab)] S1 w_,⟨Fx.nil _ _,⟨es,ck,fun _=>⟨rfl,rfl⟩,aQ,hI.draw⟩⟩,⟨?_,?_,?_,?_,?_,?_,?_,?_,?_,?_,?_,?_,?_,?_,?_,?_,?_,?_,?_,?_,?_,?_,?_,?_,trivial⟩,?_⟩
    all_goals (intro D bF; intros; rename_i EH W0 Wy Uw Ur P8 OR PD Pl OO P3 PI NM O5 IG IQ Kw GX Ks Hl HQ N4 Ph FL w_ hA_; have hF_:=hA_.1; obtain ⟨⟨cj,ci,bR,ce,bP,bY,bZ,cH,c5,dI,bX,cr,cZ,eo,c8,eQ,fW,hO,jJ,gw,lf,kM,lh,nq,_⟩,⟨es1,ck1,k0,k1,hI⟩⟩:=hA_)
    ·refine av hI 3 ad rfl (by simpa using hyl) ?_
     exact ⟨hF_.set 0 rfl,⟨es1,ck1,k0,k1,hI⟩⟩
    ·obtain rfl:=cj ‹_›
     refine Run.callPure ml mu hI (lg hqR) fun w_ hI=>?_
     rw [hcut]
     exact ⟨hF_.set 1 rfl,⟨es1,ck1,k0,k1,hI⟩⟩
    ·obtain rfl:=ci ‹_›
     exact ⟨hF_.set 2 rfl,⟨es1,ck1,k0,k1,hI⟩⟩
    ·obtain rfl:=bR ‹_›
     refine rpG ?_
     refine au fH ?_
     exact ⟨hF_.set 3 rfl,⟨es1,ck1,k0,k1,hI⟩⟩
    ·obtain rfl:=ce ‹_›
     obtain rfl:=bR ‹_›
     refine rpG ?_
     refine aN hI 0 g8 rfl rfl ?_
     exact ⟨hF_.set 4 rfl,⟨es1,ck1,k0,k1,hI⟩⟩
    ·obtain rfl:=bR ‹_›
     refine rpG ?_
     exact ⟨hF_.set 5 rfl,⟨es1,ck1,k0,k1,hI⟩⟩
    ·obtain rfl:=bP ‹_›
     obtain rfl:=bY ‹_›
     obtain rfl:=bR ‹_›
     refine rpG ?_
     refine aE ic hk2 ?_
     exact ⟨hF_.set 6 rfl,⟨es1,ck1,k0,k1,hI⟩⟩
    ·obtain rfl:=bZ ‹_›
     obtain rfl:=bR ‹_›
     refine rpG ?_
     refine au ib ?_
     exact ⟨hF_.set 7 rfl,⟨es1,ck1,k0,k1,hI⟩⟩
    ·obtain rfl:=cH ‹_›
     obtain rfl:=bR ‹_›
     refine rpG ?_
     refine bL (cs:=[.int .i64 x.goal.kind,.int .i64 x.goal.n,.string x.goal.name,fv]) ad rfl (fun i v hi=>by rw [hI.cellS hfS]; exact aH hfe i v (XZ i v hi)) ?_
     exact ⟨hF_.set 8 rfl,⟨es1,ck1,k0,k1,hI⟩⟩
    ·obtain rfl:=bR ‹_›
     refine rpG ?_
     refine av hI 3 ad rfl (by simpa using hyl) ?_
     exact ⟨hF_.set 9 rfl,⟨es1,ck1,k0,k1,hI⟩⟩
    ·obtain rfl:=bR ‹_›
     refine rpG ?_
     exact ⟨hF_.set 10 rfl,⟨es1,ck1,k0,k1,hI⟩⟩
    ·obtain rfl:=c5 ‹_›
     obtain rfl:=dI ‹_›
     obtain rfl:=bX ‹_›
     obtain rfl:=bR ‹_›
     refine rpG ?_
     obtain ⟨e0,e0'⟩:=k0 bF
     rw [e0,e0'] at hI
     have hI:=hI.perm (M:=[.blk b3 (.cells #[.int .i64 g.kind,.int .i64 g.n,.string g.name,kv,.int .i64 (j:Int),.slice (some ⟨fb,fo,none⟩) ks.length fcap] aK),.blk b5 (.cells #[.int .i64 q.head.kind,.int .i64 q.head.n,.string q.head.name,kh,.slice (some ⟨qb,qo,none⟩) q.body.length qcap] aq),.blk b10 (.cells ys.toArray ab)]++[.blk mm (.map es ck)]) (((List.Perm.swap ..).cons _).cons _)
     refine Run.callE (A:=[_,_,_]) iO iU hI (jE y x.goal S1 _ _ mm ck es st' hqR hfg (me hqo.2.1 _ hym) (p9 (fw hxg)).2 hst hkm) fun v' I' S2 w_=>?_
     rintro ⟨eS,rfl,es1,ck1,rfl,hkx⟩ _ hI
     rw [eS] at hI
     have hI:Inv w [] [.blk b3 (.cells #[.int .i64 g.kind,.int .i64 g.n,.string g.name,kv,.int .i64 (j:Int),.slice (some ⟨fb,fo,none⟩) ks.length fcap] aK),.blk b5 (.cells #[.int .i64 q.head.kind,.int .i64 q.head.n,.string q.head.name,kh,.slice (some ⟨qb,qo,none⟩) q.body.length qcap] aq),.blk mm (.map es1 ck1),.blk b10 (.cells ys.toArray ab)] S1 w_:=hI.perm (((List.Perm.swap ..).cons _).cons _)
     have k0:=fun (h:aD D 11 11=false)=>(Bool.noConfusion h:es1=es/\ck1=ck)
     have k1:=fun (_:aD D 11 11=true)=>hkx
     rw [hm]
     exact ⟨hF_.set 11 rfl,⟨es1,ck1,k0,k1,hI⟩⟩
    ·obtain rfl:=cr ‹_›
     obtain rfl:=bR ‹_›
     refine rpG ?_
     refine bQ ?_
     exact ⟨hF_.set 12 rfl,⟨es1,ck1,k0,k1,hI⟩⟩
    ·obtain rfl:=bR ‹_›
     obtain rfl:=cZ ‹_›
     refine rpG ?_
     exact ⟨hF_.set 13 rfl,⟨es1,ck1,k0,k1,hI⟩⟩
    ·obtain rfl:=eo ‹_›
     exact ⟨hF_.set 14 rfl,⟨es1,ck1,k0,k1,hI⟩⟩
    ·obtain rfl:=c8 ‹_›
     refine rpG ?_
     exact ⟨hF_.set 15 rfl,⟨es1,ck1,k0,k1,hI⟩⟩
    ·obtain rfl:=c8 ‹_›
     refine rpG ?_
     exact ⟨hF_.set 16 rfl,⟨es1,ck1,k0,k1,hI⟩⟩
    ·obtain rfl:=fW ‹_›
     obtain rfl:=c8 ‹_›
     refine rpG ?_
     exact ⟨hF_.set 17 rfl,⟨es1,ck1,k0,k1,hI⟩⟩
    ·obtain rfl:=c8 ‹_›
     refine rpG ?_
     exact ⟨hF_.set 18 rfl,⟨es1,ck1,k0,k1,hI⟩⟩
    ·obtain rfl:=hO ‹_›
     obtain rfl:=jJ ‹_›
     obtain rfl:=c8 ‹_›
     refine rpG ?_
     exact ⟨hF_.set 19 rfl,⟨es1,ck1,k0,k1,hI⟩⟩
    ·obtain rfl:=gw ‹_›
     obtain rfl:=c8 ‹_›
     refine rpG ?_
     exact ⟨hF_.set 20 rfl,⟨es1,ck1,k0,k1,hI⟩⟩
    ·obtain rfl:=eQ ‹_›
     obtain rfl:=lf ‹_›
     obtain rfl:=c8 ‹_›
     refine rpG ?_
     exact ⟨hF_.set 21 rfl,⟨es1,ck1,k0,k1,hI⟩⟩
    ·obtain rfl:=kM ‹_›
     obtain rfl:=c8 ‹_›
     refine rpG ?_
     exact ⟨hF_.set 22 rfl,⟨es1,ck1,k0,k1,hI⟩⟩
    ·obtain rfl:=c8 ‹_›
     obtain rfl:=lh ‹_›
     refine rpG ?_
     exact ⟨hF_.set 23 rfl,⟨es1,ck1,k0,k1,hI⟩⟩
    obtain ⟨rfl,rfl,rfl,rfl,rfl,rfl,rfl,rfl,rfl,rfl,rfl,rfl,rfl,rfl,rfl,rfl,rfl,rfl,rfl,rfl,rfl,rfl,rfl,rfl,_⟩:=hF_.all
    clear hF_ cj ci bR ce bP bY bZ cH c5 dI bX cr cZ eo c8 eQ fW hO jJ gw lf kM lh nq
    refine aw (fun _=>done hI ?_) (fun hb=>by cases hb)
    rw [<- hrel,hcut,hm]; rfl
   ·have hI:=hI
    refine ⟨fun D EH W0 Wy Uw Ur P8 OR PD Pl OO P3 PI NM O5 IG IQ Kw GX Ks Hl HQ N4 Ph FL w_=>Fx D 0 [FL=.agg ys.toArray,Ph=.bool false,N4=.bool false,HQ=.pointer (some ⟨b3,5,none⟩),Hl=.slice (some ⟨fb,fo,none⟩) ks.length fcap,Ks=.int .i64 k,GX=.pointer (some ⟨fb,fo+k * 6,none⟩),Kw=.pointer (some ⟨fb,fo+k * 6,none⟩),IQ=.agg #[.int .i64 x.goal.kind,.int .i64 x.goal.n,.string x.goal.name,fv],IG=.agg ys.toArray,O5=.map (some mm),NM=.bool true,PI=.bool false,P3=.bool false,OO=.bool false,Pl=.slice (some ⟨pb,po,none⟩) p.length pcap,PD=.pointer (some ⟨b3,5,none⟩),OR=.slice (some ⟨fb,fo,none⟩) ks.length fcap,P8=.int .i64 k,Ur=.pointer (some ⟨fb,fo+k * 6,none⟩),Uw=.agg (aX fc (fo+k * 6) 6).toArray,Wy=.bool (chkF p x),W0=.bool (!chkF p x),EH=.bool (!chkF p x)]/\∃ es1 ck1,(D 11=false->es1=es/\ck1=ck)/\(D 11=true->KnownM S1 es1 (bt y x.goal st').2)/\Inv w [] [.blk b3 (.cells #[.int .i64 g.kind,.int .i64 g.n,.string g.name,kv,.int .i64 (j:Int),.slice (some ⟨fb,fo,none⟩) ks.length fcap] aK),.blk b5 (.cells #[.int .i64 q.head.kind,.int .i64 q.head.n,.string q.head.name,kh,.slice (some ⟨qb,qo,none⟩) q.body.length qcap] aq),.blk mm (.map es1 ck1),.blk b10 (.cells ys.toArray ab)] S1 w_,⟨Fx.nil _ _,⟨es,ck,fun _=>⟨rfl,rfl⟩,aQ,hI.draw⟩⟩,⟨?_,?_,?_,?_,?_,?_,?_,?_,?_,?_,?_,?_,?_,?_,?_,?_,?_,?_,?_,?_,?_,?_,?_,?_,trivial⟩,?_⟩
    all_goals (intro D bF; intros; rename_i EH W0 Wy Uw Ur P8 OR PD Pl OO P3 PI NM O5 IG IQ Kw GX Ks Hl HQ N4 Ph FL w_ hA_; have hF_:=hA_.1; obtain ⟨⟨cj,ci,bR,ce,bP,bY,bZ,cH,c5,dI,bX,cr,cZ,eo,c8,eQ,fW,hO,jJ,gw,lf,kM,lh,nq,_⟩,⟨es1,ck1,k0,k1,hI⟩⟩:=hA_)
    ·refine av hI 3 ad rfl (by simpa using hyl) ?_
     exact ⟨hF_.set 0 rfl,⟨es1,ck1,k0,k1,hI⟩⟩
    ·obtain rfl:=cj ‹_›
     refine Run.callPure ml mu hI (lg hqR) fun w_ hI=>?_
     rw [hcut]
     exact ⟨hF_.set 1 rfl,⟨es1,ck1,k0,k1,hI⟩⟩
    ·obtain rfl:=ci ‹_›
     exact ⟨hF_.set 2 rfl,⟨es1,ck1,k0,k1,hI⟩⟩
    ·obtain rfl:=bR ‹_›
     refine rpG ?_
     refine au fH ?_
     exact ⟨hF_.set 3 rfl,⟨es1,ck1,k0,k1,hI⟩⟩
    ·obtain rfl:=ce ‹_›
     obtain rfl:=bR ‹_›
     refine rpG ?_
     refine aN hI 0 g8 rfl rfl ?_
     exact ⟨hF_.set 4 rfl,⟨es1,ck1,k0,k1,hI⟩⟩
    ·obtain rfl:=bR ‹_›
     refine rpG ?_
     exact ⟨hF_.set 5 rfl,⟨es1,ck1,k0,k1,hI⟩⟩
    ·obtain rfl:=bP ‹_›
     obtain rfl:=bY ‹_›
     obtain rfl:=bR ‹_›
     refine rpG ?_
     refine aE ic hk2 ?_
     exact ⟨hF_.set 6 rfl,⟨es1,ck1,k0,k1,hI⟩⟩
    ·obtain rfl:=bZ ‹_›
     obtain rfl:=bR ‹_›
     refine rpG ?_
     refine au ib ?_
     exact ⟨hF_.set 7 rfl,⟨es1,ck1,k0,k1,hI⟩⟩
    ·obtain rfl:=cH ‹_›
     obtain rfl:=bR ‹_›
     refine rpG ?_
     refine bL (cs:=[.int .i64 x.goal.kind,.int .i64 x.goal.n,.string x.goal.name,fv]) ad rfl (fun i v hi=>by rw [hI.cellS hfS]; exact aH hfe i v (XZ i v hi)) ?_
     exact ⟨hF_.set 8 rfl,⟨es1,ck1,k0,k1,hI⟩⟩
    ·obtain rfl:=bR ‹_›
     refine rpG ?_
     refine av hI 3 ad rfl (by simpa using hyl) ?_
     exact ⟨hF_.set 9 rfl,⟨es1,ck1,k0,k1,hI⟩⟩
    ·obtain rfl:=bR ‹_›
     refine rpG ?_
     exact ⟨hF_.set 10 rfl,⟨es1,ck1,k0,k1,hI⟩⟩
    ·obtain rfl:=c5 ‹_›
     obtain rfl:=dI ‹_›
     obtain rfl:=bX ‹_›
     obtain rfl:=bR ‹_›
     refine rpG ?_
     obtain ⟨e0,e0'⟩:=k0 bF
     rw [e0,e0'] at hI
     have hI:=hI.perm (M:=[.blk b3 (.cells #[.int .i64 g.kind,.int .i64 g.n,.string g.name,kv,.int .i64 (j:Int),.slice (some ⟨fb,fo,none⟩) ks.length fcap] aK),.blk b5 (.cells #[.int .i64 q.head.kind,.int .i64 q.head.n,.string q.head.name,kh,.slice (some ⟨qb,qo,none⟩) q.body.length qcap] aq),.blk b10 (.cells ys.toArray ab)]++[.blk mm (.map es ck)]) (((List.Perm.swap ..).cons _).cons _)
     refine Run.callE (A:=[_,_,_]) iO iU hI (jE y x.goal S1 _ _ mm ck es st' hqR hfg (me hqo.2.1 _ hym) (p9 (fw hxg)).2 hst hkm) fun v' I' S2 w_=>?_
     rintro ⟨eS,rfl,es1,ck1,rfl,hkx⟩ _ hI
     rw [eS] at hI
     have hI:Inv w [] [.blk b3 (.cells #[.int .i64 g.kind,.int .i64 g.n,.string g.name,kv,.int .i64 (j:Int),.slice (some ⟨fb,fo,none⟩) ks.length fcap] aK),.blk b5 (.cells #[.int .i64 q.head.kind,.int .i64 q.head.n,.string q.head.name,kh,.slice (some ⟨qb,qo,none⟩) q.body.length qcap] aq),.blk mm (.map es1 ck1),.blk b10 (.cells ys.toArray ab)] S1 w_:=hI.perm (((List.Perm.swap ..).cons _).cons _)
     have k0:=fun (h:aD D 11 11=false)=>(Bool.noConfusion h:es1=es/\ck1=ck)
     have k1:=fun (_:aD D 11 11=true)=>hkx
     rw [hm]
     exact ⟨hF_.set 11 rfl,⟨es1,ck1,k0,k1,hI⟩⟩
    ·obtain rfl:=cr ‹_›
     obtain rfl:=bR ‹_›
     refine rpG ?_
     refine bQ ?_
     exact ⟨hF_.set 12 rfl,⟨es1,ck1,k0,k1,hI⟩⟩
    ·obtain rfl:=bR ‹_›
     obtain rfl:=cZ ‹_›
     refine rpG ?_
     exact ⟨hF_.set 13 rfl,⟨es1,ck1,k0,k1,hI⟩⟩
    ·obtain rfl:=eo ‹_›
     exact ⟨hF_.set 14 rfl,⟨es1,ck1,k0,k1,hI⟩⟩
    ·obtain rfl:=c8 ‹_›
     refine rpG ?_
     exact ⟨hF_.set 15 rfl,⟨es1,ck1,k0,k1,hI⟩⟩
    ·obtain rfl:=c8 ‹_›
     refine rpG ?_
     refine au fH ?_
     exact ⟨hF_.set 16 rfl,⟨es1,ck1,k0,k1,hI⟩⟩
    ·obtain rfl:=fW ‹_›
     obtain rfl:=c8 ‹_›
     refine rpG ?_
     refine aN hI 0 g8 rfl rfl ?_
     exact ⟨hF_.set 17 rfl,⟨es1,ck1,k0,k1,hI⟩⟩
    ·obtain rfl:=c8 ‹_›
     refine rpG ?_
     exact ⟨hF_.set 18 rfl,⟨es1,ck1,k0,k1,hI⟩⟩
    ·obtain rfl:=hO ‹_›
     obtain rfl:=jJ ‹_›
     obtain rfl:=c8 ‹_›
     refine rpG ?_
     refine aE ic hk2 ?_
     exact ⟨hF_.set 19 rfl,⟨es1,ck1,k0,k1,hI⟩⟩
    ·obtain rfl:=gw ‹_›
     obtain rfl:=c8 ‹_›
     refine rpG ?_
     refine bL cM hfR.length (fun i v hi=>by rw [hI.cellS hfS]; exact aH rfl i v hi) ?_
     exact ⟨hF_.set 20 rfl,⟨es1,ck1,k0,k1,hI⟩⟩
    ·obtain rfl:=eQ ‹_›
     obtain rfl:=lf ‹_›
     obtain rfl:=c8 ‹_›
     refine rpG ?_
     refine Run.callPure CK Dy hI (ih x hxm (d - 1) S1 _ _ hxs hp hfR) fun w_ hI=>?_
     exact ⟨hF_.set 21 rfl,⟨es1,ck1,k0,k1,hI⟩⟩
    ·obtain rfl:=kM ‹_›
     obtain rfl:=c8 ‹_›
     refine rpG ?_
     refine bQ ?_
     exact ⟨hF_.set 22 rfl,⟨es1,ck1,k0,k1,hI⟩⟩
    ·obtain rfl:=c8 ‹_›
     obtain rfl:=lh ‹_›
     refine rpG ?_
     exact ⟨hF_.set 23 rfl,⟨es1,ck1,k0,k1,hI⟩⟩
    obtain ⟨rfl,rfl,rfl,rfl,rfl,rfl,rfl,rfl,rfl,rfl,rfl,rfl,rfl,rfl,rfl,rfl,rfl,rfl,rfl,rfl,rfl,rfl,rfl,rfl,_⟩:=hF_.all
    have np:D 11=true:=by assumption
    clear hF_ cj ci bR ce bP bY bZ cH c5 dI bX cr cZ eo c8 eQ fW hO jJ gw lf kM lh nq
    have hkx:=k1 np
    rw [hcut,hm,Bool.not_false,dg,dg] at hrel
    cases hck:chkF p x
    ·refine aw (fun _=>done hI ?_) (fun hb=>by cases hb)
     rw [<- hrel,hck]; rfl
    ·refine aw (fun hb=>by cases hb) (fun _=>?_)
     rw [hck,dg] at hrel
     refine bp (by omega) ?_
     exact ⟨⟨k+1,_,es1,ck1,hk1,rfl,hrel,hst2,hkx,hI.pick [true,true,true]⟩,by simp [intOf]; omega⟩
  ·have hI:=hI
   refine ⟨fun D EH W0 Wy Uw Ur P8 OR PD Pl OO P3 PI NM O5 IG IQ Kw GX Ks Hl HQ N4 Ph FL w_=>Fx D 0 [FL=.agg ys.toArray,Ph=.bool true,N4=.bool true,HQ=undef,Hl=undef,Ks=undef,GX=undef,Kw=undef,IQ=undef,IG=undef,O5=undef,NM=undef,PI=undef,P3=.bool true,OO=.bool true,Pl=undef,PD=undef,OR=undef,P8=undef,Ur=undef,Uw=undef,Wy=undef,W0=undef,EH=.bool true]/\Inv w [] [.blk b3 (.cells #[.int .i64 g.kind,.int .i64 g.n,.string g.name,kv,.int .i64 (j:Int),.slice (some ⟨fb,fo,none⟩) ks.length fcap] aK),.blk b5 (.cells #[.int .i64 q.head.kind,.int .i64 q.head.n,.string q.head.name,kh,.slice (some ⟨qb,qo,none⟩) q.body.length qcap] aq),.blk mm (.map es ck),.blk b10 (.cells ys.toArray ab)] S1 w_,⟨Fx.nil _ _,hI.draw⟩,⟨?_,?_,?_,?_,?_,?_,?_,?_,?_,?_,?_,?_,?_,?_,?_,?_,?_,?_,?_,?_,?_,?_,?_,?_,trivial⟩,?_⟩
   all_goals (intro D bF; intros; rename_i EH W0 Wy Uw Ur P8 OR PD Pl OO P3 PI NM O5 IG IQ Kw GX Ks Hl HQ N4 Ph FL w_ hA_; have hF_:=hA_.1; obtain ⟨⟨cj,ci,bR,ce,bP,bY,bZ,cH,c5,dI,bX,cr,cZ,eo,c8,eQ,fW,hO,jJ,gw,lf,kM,lh,nq,_⟩,hI⟩:=hA_)
   ·refine av hI 3 ad rfl (by simpa using hyl) ?_
    exact ⟨hF_.set 0 rfl,hI⟩
   ·obtain rfl:=cj ‹_›
    refine Run.callPure ml mu hI (lg hqR) fun w_ hI=>?_
    rw [hcut]
    exact ⟨hF_.set 1 rfl,hI⟩
   ·obtain rfl:=ci ‹_›
    exact ⟨hF_.set 2 rfl,hI⟩
   ·obtain rfl:=bR ‹_›
    refine rpG ?_
    exact ⟨hF_.set 3 rfl,hI⟩
   ·obtain rfl:=ce ‹_›
    obtain rfl:=bR ‹_›
    refine rpG ?_
    exact ⟨hF_.set 4 rfl,hI⟩
   ·obtain rfl:=bR ‹_›
    refine rpG ?_
    exact ⟨hF_.set 5 rfl,hI⟩
   ·obtain rfl:=bP ‹_›
    obtain rfl:=bY ‹_›
    obtain rfl:=bR ‹_›
    refine rpG ?_
    exact ⟨hF_.set 6 rfl,hI⟩
   ·obtain rfl:=bZ ‹_›
    obtain rfl:=bR ‹_›
    refine rpG ?_
    exact ⟨hF_.set 7 rfl,hI⟩
   ·obtain rfl:=cH ‹_›
    obtain rfl:=bR ‹_›
    refine rpG ?_
    exact ⟨hF_.set 8 rfl,hI⟩
   ·obtain rfl:=bR ‹_›
    refine rpG ?_
    exact ⟨hF_.set 9 rfl,hI⟩
   ·obtain rfl:=bR ‹_›
    refine rpG ?_
    exact ⟨hF_.set 10 rfl,hI⟩
   ·obtain rfl:=c5 ‹_›
    obtain rfl:=dI ‹_›
    obtain rfl:=bX ‹_›
    obtain rfl:=bR ‹_›
    refine rpG ?_
    exact ⟨hF_.set 11 rfl,hI⟩
   ·obtain rfl:=cr ‹_›
    obtain rfl:=bR ‹_›
    refine rpG ?_
    exact ⟨hF_.set 12 rfl,hI⟩
   ·obtain rfl:=bR ‹_›
    obtain rfl:=cZ ‹_›
    refine rpG ?_
    exact ⟨hF_.set 13 rfl,hI⟩
   ·obtain rfl:=eo ‹_›
    exact ⟨hF_.set 14 rfl,hI⟩
   ·obtain rfl:=c8 ‹_›
    refine rpG ?_
    exact ⟨hF_.set 15 rfl,hI⟩
   ·obtain rfl:=c8 ‹_›
    refine rpG ?_
    exact ⟨hF_.set 16 rfl,hI⟩
   ·obtain rfl:=fW ‹_›
    obtain rfl:=c8 ‹_›
    refine rpG ?_
    exact ⟨hF_.set 17 rfl,hI⟩
   ·obtain rfl:=c8 ‹_›
    refine rpG ?_
    exact ⟨hF_.set 18 rfl,hI⟩
   ·obtain rfl:=hO ‹_›
    obtain rfl:=jJ ‹_›
    obtain rfl:=c8 ‹_›
    refine rpG ?_
    exact ⟨hF_.set 19 rfl,hI⟩
   ·obtain rfl:=gw ‹_›
    obtain rfl:=c8 ‹_›
    refine rpG ?_
    exact ⟨hF_.set 20 rfl,hI⟩
   ·obtain rfl:=eQ ‹_›
    obtain rfl:=lf ‹_›
    obtain rfl:=c8 ‹_›
    refine rpG ?_
    exact ⟨hF_.set 21 rfl,hI⟩
   ·obtain rfl:=kM ‹_›
    obtain rfl:=c8 ‹_›
    refine rpG ?_
    exact ⟨hF_.set 22 rfl,hI⟩
   ·obtain rfl:=c8 ‹_›
    obtain rfl:=lh ‹_›
    refine rpG ?_
    exact ⟨hF_.set 23 rfl,hI⟩
   obtain ⟨rfl,rfl,rfl,rfl,rfl,rfl,rfl,rfl,rfl,rfl,rfl,rfl,rfl,rfl,rfl,rfl,rfl,rfl,rfl,rfl,rfl,rfl,rfl,rfl,_⟩:=hF_.all
   clear hF_ cj ci bR ce bP bY bZ cH c5 dI bX cr cZ eo c8 eQ fW hO jJ gw lf kM lh nq
   refine aw (fun _=>done hI ?_) (fun hb=>by cases hb)
   rw [<- hrel,hcut]; rfl
 ·have:k=q.body.length:=by omega
  subst this
  refine done hI ?_
  rw [<- hrel,dO]
  generalize ks.drop q.body.length=zs
  cases zs <;> rfl
noncomputable def checkB (p:List C) (x:PF):Bool:=de p && (xq x && chkF p x)
theorem Sk {x:PF} (h:xq x=true):E3 x 20=true:=by
 rw [xq,bu] at h; exact h.1
theorem xi {p:List C} {x:PF} {S:ae} {u:Value} {cs:List Value} (hp:RdSl S 5 (RdC S) u p) (h:RdF S cs x):Pure Tryz.prog Fm [u,.agg cs.toArray] S (.bool (checkB p x)):=by
 intro w hI
 have hl:=h.length
 refine r5.2 ?_
 dsimp only[r5,aY]
 refine bq hI fun b3 w' hI=>?_
 refine Run.callPure gK gM hI (fP hp) fun w' hI=>?_
 rw [checkB]
 cases hpv:de p
 ·refine rpG ?_
  exact done hI rfl
 refine rpG ?_
 refine av hI 0 cM rfl (by simpa [Value.cells] using hl) ?_
 refine Run.callPure EU EL hI (z6 h) fun w' hI=>?_
 cases hv:xq x
 ·refine rpG ?_
  exact done hI rfl
 refine rpG ?_
 refine av hI 0 cM rfl (by simpa [Value.cells] using hl) ?_
 refine Run.callPure CK Dy hI (GU hpv x 20 S u cs (Sk hv) hp h) fun w' hI=>?_
 refine rpG ?_
 exact done hI rfl
end
end
section
open Go Go.RowKit
section
variable {P:Program} {w w0:World} {X:List Nat} {L:List Item} {S:ae} {K:Value->World->Prop}
attribute [local irreducible] Run CondV az aO
theorem abC {T ty:TypeId} {cs:List Bool} {a:Option Addr} {n c:Nat} {Ek:TypeId × Nat} (hu:cG P T=some Ek) (hk:K (.int .i64 c) w):Run P (bM .cap #[T] ty cs [.slice a n c]) w K:=by
 obtain ⟨e,k⟩:=Ek
 obtain ⟨hT,_⟩:=iq hu
 refine Run.of ?_ hk
 simp [bM,builtin,Builtin.cap_,run_underlying hT,goInt]
theorem Tw {T ty e:TypeId} {k h g o len cap:Nat} (hT:cG P T=some (e,k)) (hh:h<=cap) (hk:K (.slice (some ⟨g,o,none⟩) h cap) w) :
  Run P (sOp (.slice T (.const (.slice (some ⟨g,o,none⟩) len cap)) none (some (.const (.int .i64 h))) none) ty) w K:=by
 refine Bz hT hh ?_
 split
 ·exact hk
 ·simpa [gn] using hk
theorem ki {T ty e:TypeId} {k l g o len cap:Nat} (hT:cG P T=some (e,k)) (hl:l<=len) (hc:l<cap) (hk:K (.slice (some ⟨g,o+l * k,none⟩) (len - l) (cap - l)) w) :
  Run P (sOp (.slice T (.const (.slice (some ⟨g,o,none⟩) len cap)) (some (.const (.int .i64 l))) none none) ty) w K:=by
 refine AF hT hl ?_
 rw [ah (by omega)]
 simpa [gn] using hk
theorem yj (h:Inv w0 X L S w) {T ty e:TypeId} {k o dl dc sl sc:Nat} {cs:List Bool} {a:Addr} (j g n:Nat) (cur:Array Value) (E:TypeId) (news:List Value) (hT:cG P T=some (e,k)) (hi:L[j]?=some (.blk g (.cells cur E)))
  (hn:n=min sl dl) (hl:news.length=n * k) (hnews:∀ j u,news[j]?=some u->w.cell? (a.add j)=some u) (hfit:o+news.length<=cur.size) (h1:∀ u∈news,u.oneCell'=true)
  (hk:∀ w',Inv w0 X (L.set j (.blk g (.cells (bn cur o news) E))) S w'->K (goInt n) w') :
  Run P (bM .copy #[T,T] ty cs [.slice (some ⟨g,o,none⟩) dl dc,.slice (some a) sl sc]) w K:=by
 obtain ⟨hu,i,hi',hs⟩:=iq hT
 have hg:w.heap[g]?=some (.cells cur E):=h.its _ (cz hi)
 have hld:=run_loadCells_list (P:=P) w a news hnews
 have hn:n=Nat.min sl dl:=hn
 rw [hl,hn] at hld
 have hst:=run_storeCells_at P g o E news 0 cur w hg (by simpa using hfit) h1
 rw [hn] at hk
 refine Run.of (v:=goInt (Nat.min sl dl)) (w':=w.setRow g (bn cur o news)) ?_ (hk _ (h.setBlk hi _ (JW hg)))
 simp [bM,builtin,Builtin.copy_,run_underlying hu,Builtin.lenOf,Builtin.firstCells,sizeOf,typeInfo,hi',hs,hld,hst,bn]
theorem Vb (h:Inv w0 X L S w) {T U ty e:TypeId} {k by_ j g i m cap:Nat} {cs:List Bool} {z:Value} {cur:Array Value} {E:TypeId} (hT:mU P T=some (e,k,by_,z)) (hU:P.underlying U=some (.int .i64)) (hk0:0<k)
  (hi:L[j]?=some (.blk g (.cells cur E))) (hsz:i * k<=cur.size) (hm:0<m) (hg:cap<i+m) (hfit:i+m<=4294967296) (hby:by_<=32768)
  (hk:∀ (nb nc:Nat) (c:Array Value) w',i+m<=nc->nc<=maxLen->c.size=nc * k->c.toList.take (i * k)=cur.toList.take (i * k)->Inv w0 X (L++[.blk nb (.cells c e)]) S w'->K (.slice (some ⟨nb,0,none⟩) (i+m) nc) w') :
  Run P (bM .append #[T,U] ty cs [.slice (some ⟨g,0,none⟩) i cap,.int .i64 m]) w K:=by
 obtain ⟨hu,inf,hi',hz,hs,hb,hzs⟩:=j0 hT
 have hgw:w.heap[g]?=some (.cells cur E):=h.its _ (cz hi)
 obtain ⟨olds,ho⟩:∃ olds,olds=cur.toList.take (i * k):=⟨_,rfl⟩
 have hlo:olds.length=i * inf.size:=by rw [ho,hs,dX,Og]; omega
 have holds:∀ j v,olds[j]?=some v->w.cell? ((⟨g,0,none⟩:Addr).add j)=some v:=by
  intro j v hj
  rw [gn,cq,cell_of_row w g j cur E (0,0) hgw]
  rw [ho,r4] at hj
  split at hj
  ·simpa using hj
  ·cases hj
 have hbytes:(i+m) * by_<=140737488355328:=gX (Ca hfit hby) (by decide)
 have hgf:=growslice_fits hg hbytes
 have hn:¬ (i+m<=cap):=by omega
 have hw:IntKind.i64.wrap (m:Int)=m:=IntWalk.i64_in _ (by omega)
 have hneg:¬ ((m:Int)<0):=by omega
 have hns:¬ (m * k=0):=Nat.mul_ne_zero (by omega) (by omega)
 have h63':¬ (9223372036854775807<(i:Int)+(m:Int)):=by omega
 have h48i:¬ (281474976710656<(m:Int) * (by_:Int)):=by
  have:m * by_<=(i+m) * by_:=ja _ (by omega)
  rw [<- Int.natCast_mul]
  omega
 have h48':¬ (281474976710656<Builtin.nextslicecap (i+m) cap * by_):=by omega
 have hfo:=run_firstCells_some (P:=P) w.drew inf.size i ⟨g,0,none⟩ i cap olds hlo (by simpa using holds)
 rw [hs] at hfo
 refine Run.of (v:=.slice (some ⟨w.heap.size,0,none⟩) (i+m) (grownCap w (i+m) cap e))
  (w':=w.drew.alloc (.cells (olds.toArray++Builtin.zeroCells z.cells m++Builtin.zeroCells z.cells (grownCap w (i+m) cap e - (i+m))) e)) ?_ ?_
 ·simp [bM,builtin,Builtin.append_,run_underlying hu,run_underlying hU,sizeOf,typeInfo,zeroValue,hi',hz,hs,hb,asInt,asIntOf,hw,hn,hneg,hns,h63',h48',h48i,Question.forced,hfo,newRow,grownCap]
 ·have hge:=grownCap_ge w (i+m) cap e
  have hle:=grownCap_le_maxLen w (i+m) cap e (by simp only [maxLen]; omega)
  refine hk _ _ _ _ hge hle ?_ ?_ (h.draw.alloc _)
  ·simp only [Array.size_append,Tj,size_zeroCells,hzs,hlo,hs]
   rw [<- tJ,<- tJ]
   congr 1
   omega
  ·rw [<- ho]
   have:i * k=olds.length:=by rw [hlo,hs]
   rw [this]
   simp
theorem RM (h:Inv w0 X L S w) {f:FuncId} {fn:Func} {T U e ea eb:TypeId} {k i j a b oa ob la lb cpa cpb:Nat} {ca cb:Array Value} (hf:P.funcs[f]?=some fn) (hn:(fn.name == "runtime.NumGoroutine")=false) (hb:fn.body.isNone=true)
  (hx:(Extern.findNext fn).isNone=true) (hy:Extern.find fn=some (Extern.SlicesOverlaps.overlaps #[T,T] #[U])) (hT:cG P T=some (e,k)) (hi:L[i]?=some (.blk a (.cells ca ea))) (hj:L[j]?=some (.blk b (.cells cb eb)))
  (hne:a≠b) (hcb:cb.size≠0) (hk:K (.bool false) w):Run P (eM (.func (.func f) #[] #[]) [.slice (some ⟨a,oa,none⟩) la cpa,.slice (some ⟨b,ob,none⟩) lb cpb]) w K:=by
 obtain ⟨hu,inf,hi',hs⟩:=iq hT
 have hga:w.heap[a]?=some (.cells ca ea):=h.its _ (cz hi)
 have hgb:w.heap[b]?=some (.cells cb eb):=h.its _ (cz hj)
 have hov:=Lib.run_overlaps_apart (P:=P) w T U e hu k (fun w=>by simp [sizeOf,typeInfo,hi',hs]) ⟨a,oa,none⟩ ⟨b,ob,none⟩ la cpa lb cpb hne ea eb ca.size cb.size (by simp [World.shape?,hga]) (by simp [World.shape?,hgb]) hcb
  (by simp [World.frozen?,hga]) (by simp [World.frozen?,hga])
 have hx':Extern.findNext fn=none:=by simpa using hx
 refine Run.of (v:=.bool false) (w':=w) ?_ hk
 have hcf:=run_callFunc_extern hf hn hb hx' hy #[.slice (some ⟨a,oa,none⟩) la cpa,.slice (some ⟨b,ob,none⟩) lb cpb] w
 rw [hov] at hcf
 simp [eM,Deferred.ofValue,invoke,hcf,Result.andThen]
end
theorem sI (c:Array Value) (o:Nat) (vs:List Value):(bn c o vs).toList=c.toList.take o++vs++c.toList.drop (o+vs.length):=rfl
theorem aaz {c:Array Value} {p:Nat} {cs D:List Value} (h:p+cs.length+D.length<=c.size) :
  (bn (bn c p cs) (p+cs.length) D).toList.take (p+cs.length+D.length)=c.toList.take p++cs++D:=by
 have e:(bn c p cs).toList.take (p+cs.length)=c.toList.take p++cs:=by
  rw [sI,FQ]
  simp; omega
 rw [sI (bn c p cs),e,FQ]
 simp; omega
theorem aaB {c:Array Value} {p:Nat} {cs D:List Value} (h:p+cs.length+D.length<=c.size) :
  (bn (bn c (p+cs.length) D) p cs).toList.take (p+cs.length+D.length)=c.toList.take p++cs++D:=by
 have e1:(bn c (p+cs.length) D).toList.take p=c.toList.take p:=by
  rw [sI,eK,QU (by simp; omega),oX,lm (by omega)]
 have e2:(bn c (p+cs.length) D).toList.drop (p+cs.length)=D++c.toList.drop (p+cs.length+D.length):=by
  rw [sI,eK,List.drop_left']
  simp; omega
 rw [sI (bn c (p+cs.length) D),e1,e2,<- eK,FQ]
 simp; omega
section
attribute [local irreducible] Run CondV az aO
set_option maxHeartbeats 2000000 in
theorem Mo {S:ae} {v:Value} {css:List (List Value)} {cs:List Value} {ub i:Nat} (hk4:∀ c∈css,c.length=4) (h1:∀ c∈css,∀ u∈c,u.oneCell'=true) (hc4:cs.length=4) (hc1:∀ u∈cs,u.oneCell'=true)
  (hi:i<=css.length) (hn:css.length<=100000000) :
  Tri Tryz.prog EX [v,.int .i64 i,.slice (some ⟨ub,0,none⟩) 1 1] [aJ v ab 4 css,.blk ub (.cells cs.toArray ab)] S fun r I' S'=>S'=S/\I'=[aJ r ab 4 (css.take i++cs::css.drop i)]:=by
 intro w hI
 obtain ⟨X,hX⟩:∃ X,X=bE [aJ v ab 4 css,.blk ub (.cells cs.toArray ab)]:=⟨_,rfl⟩
 rw [<- hX] at hI ⊢
 have hI:Inv w X ([.blk ub (.cells cs.toArray ab)]++[aJ v ab 4 css]) S w:=hI.perm (List.Perm.swap ..)
 have hcl:(css.drop i).flatten.length=(css.length - i) * 4:=by
  rw [lc (k:=4) (fun c hc=>hk4 c (wR hc)),vB]
 have hct:(css.take i).flatten.length=i * 4:=by
  rw [lc (k:=4) (fun c hc=>hk4 c (sD hc)),dX,lm hi]
 have hsp:css.flatten=(css.take i).flatten++(css.drop i).flatten:=by rw [<- vD,xd]
 have hd1:∀ u∈(css.drop i).flatten,u.oneCell'=true:=fun u hu=>by
  obtain ⟨c,hc,hu⟩:=Rt.1 hu
  exact h1 c (wR hc) u hu
 obtain ⟨hfl,ho⟩:=hI.openRow
 have hv:∃ a cap,v=.slice a css.length cap/\css.length<=cap:=by
  rcases ho with ⟨rfl,h0⟩|⟨g,cap,cur,rfl,hnc,_⟩
  ·exact ⟨none,0,by rw [h0],by omega⟩
  ·exact ⟨_,cap,rfl,hnc⟩
 obtain ⟨a,cap,rfl,hncap⟩:=hv
 refine qp.2 ?_
 dsimp only[qp,dN]
 refine AF ag hi ?_
 refine eV ag ?_
 refine bl ?_
 refine aL (fun hb=>absurd hb (by decide)) (fun _=>?_)
 refine eV ag ?_
 refine bl ?_
 refine aL (fun hin=>?_) (fun hin=>?_)
 ·have hin:i=css.length:=by omega
  refine dZ hI 1 (m:=1) (o:=0) cs bo (by omega) rfl (by omega) (fun j u hj=>?_) hc1 (by omega) (by omega) fun v' w' hI=>?_
  ·rw [hI.cellL (i:=0) rfl,cq]
   simpa using hj
  ·have e:css.take i++cs::css.drop i=css++[cs]:=by rw [hin,fJ,dO]
   rw [e]
   rw [eF] at hI
   exact ⟨_,_,_,rfl,hI.pick [false,true],Ext.refl _ _ _,rfl,rfl⟩
 have hlt:i<css.length:=by omega
 rcases ho with ⟨_,h0⟩|⟨g,cap',cur,hveq,hnc,hcm,hcs,ht,hJ⟩
 ·omega
 simp only [Value.slice.injEq] at hveq
 obtain ⟨rfl,_,rfl⟩:=hveq
 replace hI:=hJ
 have hcapt:cur.toList.take (i * 4)=(css.take i).flatten:=by
  have:cur.toList.take (i * 4)=(cur.toList.take (css.length * 4)).take (i * 4):=by rw [oX,lm (by omega)]
  rw [this,ht,hsp,FQ hct]
 have hD:∀ j u,(css.drop i).flatten[j]?=some u->cur[i * 4+j]?=some u:=by
  intro j u hj
  have hjl:=(gx.1 hj).1
  have:css.flatten[i * 4+j]?=some u:=by rw [hsp,iu (by omega),hct,oV]; exact hj
  rw [<- ht,r4,ai (by omega)] at this
  simpa using this
 have hsz:(css.length - i) * 4+(i * 4)=css.length * 4:=by omega
 have hnd:=hI.nd
 have hne:ub≠g:=by
  intro e
  rw [e] at hnd
  simp [bE,Item.foot] at hnd
 have hfin:∀ (nb nc:Nat) (c:Array Value) (w':World) (hI:Inv w X ([.blk nb (.cells c ab)]:List Item) S w') (_:css.length+1<=nc) (_:nc<=maxLen) (_:c.size=nc * 4) (_:c.toList.take (i * 4+cs.length+(css.drop i).flatten.length)=(css.take i).flatten++cs++(css.drop i).flatten),
   ∃ v I' S',Ending.returned (.slice (some ⟨nb,0,none⟩) (css.length+1) nc)=.returned v/\Inv w X I' S' w'/\Ext w.heap.size X S S'/\S'=S/\I'=[aJ v ab 4 (css.take i++cs::css.drop i)]:=by
  intro nb nc c w' hI hnc hcm hcs htk
  have hI:=Inv.closeRow (A:=[]) (k:=4) (n:=css.length+1) hI hnc hcm hcs
  have e1:(css.length+1) * 4=i * 4+cs.length+(css.drop i).flatten.length:=by omega
  have e2:(css.take i++cs::css.drop i).length=css.length+1:=by simp; omega
  have e3:(css.take i++cs::css.drop i).flatten=(css.take i).flatten++cs++(css.drop i).flatten:=by simp
  refine ⟨_,_,_,rfl,hI,Ext.refl _ _ _,rfl,?_⟩
  rw [e1,htk,aJ,e2,e3]
  rfl
 simp only [maxLen] at hcm
 refine bp (by omega) ?_
 refine abC ag ?_
 refine dA ?_
 refine aL (fun hgr=>?_) (fun hgr=>?_)
 ·have hgr':cap<css.length+1:=by omega
  refine Tw ag (by omega) ?_
  refine bp (by omega) ?_
  refine mx (by omega) ?_
  have e:((css.length:Int)+1 - (i:Int))=((css.length+1 - i:Nat):Int):=by omega
  rw [show ((css.length:Int)+((1:Nat):Int) - (i:Int))=((css.length+1 - i:Nat):Int) by omega]
  refine Vb hI bo (U:=bV) (by kernel_rfl) (by omega) (j:=1) rfl (by omega) (by omega) (by omega) (by omega) (by omega) fun nb nc c w' hnc hcm2 hcsz hctk hI=>?_
  have hI:Inv w X [.blk ub (.cells cs.toArray ab),.blk g (.cells cur ab),.blk nb (.cells c ab)] S w':=hI
  rw [show i+(css.length+1 - i)=css.length+1 by omega] at hnc ⊢
  refine ki ag (by omega) (by omega) ?_
  rw [cq]
  refine yj hI 2 nb 1 c ab cs ag rfl (by omega) (by omega) (fun j u hj=>?_) (by omega) hc1 fun w' hI=>?_
  ·rw [gn,hI.cellL (i:=0) rfl,cq]
   simpa using hj
  have hI:Inv w X [.blk ub (.cells cs.toArray ab),.blk g (.cells cur ab),.blk nb (.cells (bn c (i * 4) cs) ab)] S w':=hI
  have hsz2:(bn c (i * 4) cs).size=c.size:=fM _ _ _ (by omega)
  refine ⟨fun D zp ze wa vA vY ut nR oK sW w_=>Fx D 0 [sW=.slice (some ⟨nb,0,none⟩) (css.length+1) nc,oK=.int .i64 i,nR=.int .i64 (1:Nat),ut=.int .i64 (i+1:Nat),vY=.slice (some ⟨nb,(i+1) * 4,none⟩) (css.length+1 - (i+1)) (nc - (i+1)),vA=.slice (some ⟨g,0,none⟩) css.length cap,wa=.int .i64 i,ze=.slice (some ⟨g,i * 4,none⟩) (css.length - i) (cap - i),zp=goInt (css.length - i:Nat)]/\Inv w X [.blk ub (.cells cs.toArray ab),.blk g (.cells cur ab),.blk nb (.cells (cond (D 8) (bn (bn c (i * 4) cs) (i * 4+cs.length) (css.drop i).flatten) (bn c (i * 4) cs)) ab)] S w_,⟨Fx.nil _ _,hI.draw⟩,⟨?_,?_,?_,?_,?_,?_,?_,?_,?_,trivial⟩,?_⟩
  all_goals (intro D bF; intros; rename_i zp ze wa vA vY ut nR oK sW w_ hA_; have hF_:=hA_.1; obtain ⟨⟨cj,ci,bR,ce,bP,bY,bZ,cH,c5,_⟩,hI⟩:=hA_)
  ·exact ⟨hF_.set 0 rfl,hI⟩
  ·exact ⟨hF_.set 1 rfl,hI⟩
  ·exact ⟨hF_.set 2 rfl,hI⟩
  ·obtain rfl:=ci ‹_›
   obtain rfl:=bR ‹_›
   refine bp (by omega) ?_
   exact ⟨hF_.set 3 rfl,hI⟩
  ·obtain rfl:=cj ‹_›
   obtain rfl:=ce ‹_›
   refine ki ag (by omega) (by omega) ?_
   rw [cq]
   exact ⟨hF_.set 4 rfl,hI⟩
  ·exact ⟨hF_.set 5 rfl,hI⟩
  ·exact ⟨hF_.set 6 rfl,hI⟩
  ·obtain rfl:=bY ‹_›
   obtain rfl:=bZ ‹_›
   refine ki ag (by omega) (by omega) ?_
   rw [cq]
   exact ⟨hF_.set 7 rfl,hI⟩
  ·obtain rfl:=bP ‹_›
   obtain rfl:=cH ‹_›
   have hI:Inv w X [.blk ub (.cells cs.toArray ab),.blk g (.cells cur ab),.blk nb (.cells (bn c (i * 4) cs) ab)] S w_:=by rw [bF] at hI; exact hI
   refine yj hI 2 nb (css.length - i) (bn c (i * 4) cs) ab (css.drop i).flatten ag rfl (by omega) (by omega) (fun j u hj=>by rw [gn,hI.cellL (i:=1) rfl]; exact hD j u hj) (by omega) hd1 fun w' hI=>?_
   rw [show (i+1) * 4=i * 4+cs.length by omega] at hI
   exact ⟨hF_.set 8 rfl,hI⟩
  obtain ⟨rfl,rfl,rfl,rfl,rfl,rfl,rfl,rfl,rfl,_⟩:=hF_.all
  have MV:D 8=true:=by assumption
  clear hF_ cj ci bR ce bP bY bZ cH c5
  rw [MV] at hI
  exact hfin nb nc _ _ (hI.pick [false,false,true]) hnc hcm2 (by rw [cond_true,fM _ _ _ (by omega),hsz2,hcsz]) (by rw [cond_true,aaz (by omega),hctk,hcapt])
 ·have hgr':css.length+1<=cap:=by omega
  refine bp (by omega) ?_
  rw [show ((css.length:Int)+((1:Nat):Int))=((css.length+1:Nat):Int) by omega]
  refine Tw ag (by omega) ?_
  refine bp (by omega) ?_
  rw [show ((i:Int)+((1:Nat):Int))=((i+1:Nat):Int) by omega]
  refine ki ag (by omega) (by omega) ?_
  rw [cq]
  refine RM hI Tryz.func298 (by kernel_rfl) (by kernel_rfl) (by kernel_rfl) (T:=cA) (U:=MF) (by kernel_rfl) ag (i:=0) (j:=1) rfl rfl hne (by omega) ?_
  refine bQ ?_
  refine aw (fun _=>?_) (fun hb=>by cases hb)
  have hsz2:(bn cur (i * 4+cs.length) (css.drop i).flatten).size=cur.size:=fM _ _ _ (by omega)
  have hI:Inv w X [.blk ub (.cells cs.toArray ab),.blk g (.cells cur ab)] S w:=hI
  refine ⟨fun D FL TJ Tk T8 T6 UE O1 NG Rk w_=>Fx D 0 [Rk=.slice (some ⟨g,0,none⟩) (css.length+1) cap,NG=.int .i64 i,O1=.int .i64 (1:Nat),UE=.int .i64 (i+1:Nat),T6=.slice (some ⟨g,(i+1) * 4,none⟩) (css.length+1 - (i+1)) (cap - (i+1)),T8=.slice (some ⟨g,0,none⟩) (css.length+1) cap,Tk=.int .i64 i,TJ=.slice (some ⟨g,i * 4,none⟩) (css.length+1 - i) (cap - i),FL=goInt (css.length - i:Nat)]/\Inv w X [.blk ub (.cells cs.toArray ab),.blk g (.cells (cond (D 8) (bn cur (i * 4+cs.length) (css.drop i).flatten) cur) ab)] S w_,⟨Fx.nil _ _,hI.draw⟩,⟨?_,?_,?_,?_,?_,?_,?_,?_,?_,trivial⟩,?_⟩
  all_goals (intro D bF; intros; rename_i FL TJ Tk T8 T6 UE O1 NG Rk w_ hA_; have hF_:=hA_.1; obtain ⟨⟨cj,ci,bR,ce,bP,bY,bZ,cH,c5,_⟩,hI⟩:=hA_)
  ·exact ⟨hF_.set 0 rfl,hI⟩
  ·exact ⟨hF_.set 1 rfl,hI⟩
  ·exact ⟨hF_.set 2 rfl,hI⟩
  ·obtain rfl:=ci ‹_›
   obtain rfl:=bR ‹_›
   refine bp (by omega) ?_
   exact ⟨hF_.set 3 rfl,hI⟩
  ·obtain rfl:=cj ‹_›
   obtain rfl:=ce ‹_›
   refine ki ag (by omega) (by omega) ?_
   rw [cq]
   exact ⟨hF_.set 4 rfl,hI⟩
  ·exact ⟨hF_.set 5 rfl,hI⟩
  ·exact ⟨hF_.set 6 rfl,hI⟩
  ·obtain rfl:=bY ‹_›
   obtain rfl:=bZ ‹_›
   refine ki ag (by omega) (by omega) ?_
   rw [cq]
   exact ⟨hF_.set 7 rfl,hI⟩
  ·obtain rfl:=bP ‹_›
   obtain rfl:=cH ‹_›
   have hI:Inv w X [.blk ub (.cells cs.toArray ab),.blk g (.cells cur ab)] S w_:=by rw [bF] at hI; exact hI
   refine yj hI 1 g (css.length - i) cur ab (css.drop i).flatten ag rfl (by omega) (by omega) (fun j u hj=>by rw [gn,hI.cellL (i:=1) rfl]; exact hD j u hj) (by omega) hd1 fun w' hI=>?_
   rw [show (i+1) * 4=i * 4+cs.length by omega] at hI
   exact ⟨hF_.set 8 rfl,hI⟩
  obtain ⟨rfl,rfl,rfl,rfl,rfl,rfl,rfl,rfl,rfl,_⟩:=hF_.all
  have MV:D 8=true:=by assumption
  clear hF_ cj ci bR ce bP bY bZ cH c5
  rw [MV] at hI
  have hI:Inv w X [.blk ub (.cells cs.toArray ab),.blk g (.cells (bn cur (i * 4+cs.length) (css.drop i).flatten) ab)] S w_:=hI
  refine ki ag (by omega) (by omega) ?_
  rw [cq]
  refine yj hI 1 g 1 (bn cur (i * 4+cs.length) (css.drop i).flatten) ab cs ag rfl (by omega) (by omega) (fun j u hj=>?_) (by omega) hc1 fun w' hI=>?_
  ·rw [gn,hI.cellL (i:=0) rfl,cq]
   simpa using hj
  exact hfin g cap _ _ (hI.pick [false,true]) hgr' (by simp only [maxLen]; omega) (by rw [fM _ _ _ (by omega),hsz2,hcs]) (by rw [aaB (by omega),hcapt])
end
end
end Go.Proofs.YtgllldjiaglkcaaGreatDoor

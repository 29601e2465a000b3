/- The program's check of proofs, and CheckProof on both sides. -/
import Derived.Test.YtfcbhfjomgopbaaGreatZFu23
import Derived.Test.YtfcbhfjomgopbaaGreatZFu9
namespace Go.Proofs.YtfcbhfjomgopbaaGreat
section
open Go Go.RowKit
section
attribute [local irreducible] Run CondV aB aS
set_option maxHeartbeats 1000000 in
theorem Cc {p:List C} (hpv:nX p=true):∀ (x:PF) (d:Int) (S:ae) (u:Value) (cs:List Value),mP x d=true->RdSl S 5 (RdC S) u p->RdF S cs x->Pure Tryz.prog LY [u,.agg cs.toArray] S (.bool (chkF p x)):=by
 refine PF.ind fun g c ks ih d S u cs hsh hp h=>?_
 intro w hI
 obtain ⟨kv,kf,rfl,hg,hci,hks⟩:=RdF.iff.1 h
 obtain ⟨hgb,hcr,hkids⟩:=kI hsh
 have hgv:=eq hgb
 have hgw:=oA hgv
 simp only [PF.goal,PF.kids,PF.clause] at hg hci hks ⊢
 have hkl:=hks.le
 simp only [maxLen] at hkl
 rw [chkF,nodeC]
 refine y6.2 ?_
 dsimp only[y6,aW]
 refine bf hI fun b3 w' hI=>?_
 have hI:Inv w [] [.blk b3 (.cells #[.int .i64 g.kind,.int .i64 g.n,.string g.name,kv,.int .i64 c,kf] ag)] S w':=hI
 refine ad (u:=.int .i64 c) hI 0 rfl cA av rfl ?_
 refine bq ?_
 refine aI (fun hneg=>?_) (fun hneg=>?_)
 ·rw [if_pos hneg]
  refine ai cQ ?_
  refine b0 hI 0 [.int .i64 g.kind,.int .i64 g.n,.string g.name,kv] ac rfl rfl sH ?_
  refine Run.call0E yu yq hI (r2 hgv ⟨iT hgv,by omega⟩ (ER hgv) (Bd hgv) hg) fun v' I' S1 w'=>?_
  rintro ⟨a,n,cap,c1,rfl,hfl⟩ hE hI
  refine aj (v:=.slice a n cap) rfl ?_
  refine aj (v:=.int .i64 c1) rfl ?_
  refine ai cQ ?_
  refine b0 hI 0 [.int .i64 g.kind,.int .i64 g.n,.string g.name,kv] ac rfl rfl sH ?_
  refine Run.callPure kC kA hI (jk (hg.mono hE.1)) fun w' hI=>?_
  have hk0:chkFL p ks=true ∨ ks.length≠0:=by
   by_cases h:ks.length=0
   ·rw [List.eq_nil_of_length_eq_zero h]; exact .inl rfl
   ·exact .inr h
  cases hb:cO g
  ·refine rpG ?_
   refine gi hI hE.1 ?_
   rcases Bd hgv with ⟨_,h2⟩|⟨h2,_⟩
   ·rw [h2,Bool.and_false]; rfl
   ·rw [hb] at h2; cases h2
  refine rpG ?_
  refine ad hI 0 rfl be bk rfl ?_
  refine aC hks bz ?_
  refine aZ ?_
  have el:decide ((ks.length:Int)=0)=decide (ks.length=0):=by rw [decide_eq_decide]; omega
  rw [el]
  cases hkk:decide (ks.length=0)
  ·refine rpG ?_
   exact gi hI hE.1 rfl
  have hkk:=of_decide_eq_true hkk
  have hcl:chkFL p ks=true:=hk0.resolve_right (fun h=>h hkk)
  rw [hcl]
  refine rpG ?_
  refine dK EY ?_
  refine aZ ?_
  have en:decide ((n:Int)=0)=decide (n=0):=by rw [decide_eq_decide]; omega
  rw [en,<- hfl]
  cases hn0:decide (n=0)
  ·refine rpG ?_
   refine gi hI hE.1 ?_
   simp
  refine rpG ?_
  refine aZ ?_
  refine rpG ?_
  refine gi hI hE.1 ?_
  simp
 rw [if_neg hneg]
 by_cases hge:(p.length:Int)<=c
 ·have hpn:p[c.toNat]?=none:=List.getElem?_eq_none (by omega)
  rw [hpn]
  refine ⟨fun D rJ ti pD kX rR s3 sO rp jL mw kL jY iC iJ ig lK gK gr w_=>Fx D 0 [gr=.pointer (some ⟨b3,4,none⟩),gK=.int .i64 c,lK=u,ig=.int .i64 p.length,iJ=.bool true,iC=.bool true,jY=undef,kL=undef,mw=undef,jL=undef,rp=undef,sO=undef,s3=undef,rR=undef,kX=undef,pD=undef,ti=undef,rJ=.bool true]/\Inv w [] [.blk b3 (.cells #[.int .i64 g.kind,.int .i64 g.n,.string g.name,kv,.int .i64 c,kf] ag)] S w_,⟨Fx.nil _ _,hI.draw⟩,⟨?_,?_,?_,?_,?_,?_,?_,?_,?_,?_,?_,?_,?_,?_,?_,?_,?_,?_,trivial⟩,?_⟩
  all_goals (intro D bn; intros; rename_i rJ ti pD kX rR s3 sO rp jL mw kL jY iC iJ ig lK gK gr w_ hA_; have hF_:=hA_.1; obtain ⟨⟨bR,bQ,bG,bS,bU,bB,bD,cq,ci,cL,bH,bT,cH,de,cB,dk,dw,dH,_⟩,hI⟩:=hA_)
  ·refine ai cA ?_
   exact ⟨hF_.set 0 rfl,hI⟩
  ·obtain rfl:=bR ‹_›
   refine aA hI 0 av rfl rfl ?_
   exact ⟨hF_.set 1 rfl,hI⟩
  ·exact ⟨hF_.set 2 rfl,hI⟩
  ·obtain rfl:=bG ‹_›
   refine aC hp bL ?_
   exact ⟨hF_.set 3 rfl,hI⟩
  ·obtain rfl:=bQ ‹_›
   obtain rfl:=bS ‹_›
   refine fw ?_
   rw [decide_eq_true hge]
   exact ⟨hF_.set 4 rfl,hI⟩
  ·obtain rfl:=bU ‹_›
   exact ⟨hF_.set 5 rfl,hI⟩
  ·obtain rfl:=bB ‹_›
   refine rpG ?_
   exact ⟨hF_.set 6 rfl,hI⟩
  ·obtain rfl:=bD ‹_›
   obtain rfl:=bB ‹_›
   refine rpG ?_
   exact ⟨hF_.set 7 rfl,hI⟩
  ·obtain rfl:=cq ‹_›
   obtain rfl:=bB ‹_›
   refine rpG ?_
   exact ⟨hF_.set 8 rfl,hI⟩
  ·obtain rfl:=bB ‹_›
   refine rpG ?_
   exact ⟨hF_.set 9 rfl,hI⟩
  ·obtain rfl:=bB ‹_›
   refine rpG ?_
   exact ⟨hF_.set 10 rfl,hI⟩
  ·obtain rfl:=bH ‹_›
   obtain rfl:=bB ‹_›
   refine rpG ?_
   exact ⟨hF_.set 11 rfl,hI⟩
  ·obtain rfl:=cL ‹_›
   obtain rfl:=bT ‹_›
   obtain rfl:=bB ‹_›
   refine rpG ?_
   exact ⟨hF_.set 12 rfl,hI⟩
  ·obtain rfl:=cH ‹_›
   obtain rfl:=bB ‹_›
   refine rpG ?_
   exact ⟨hF_.set 13 rfl,hI⟩
  ·obtain rfl:=de ‹_›
   obtain rfl:=bB ‹_›
   refine rpG ?_
   exact ⟨hF_.set 14 rfl,hI⟩
  ·obtain rfl:=cB ‹_›
   obtain rfl:=bB ‹_›
   refine rpG ?_
   exact ⟨hF_.set 15 rfl,hI⟩
  ·obtain rfl:=ci ‹_›
   obtain rfl:=dk ‹_›
   obtain rfl:=bB ‹_›
   refine rpG ?_
   exact ⟨hF_.set 16 rfl,hI⟩
  ·obtain rfl:=bB ‹_›
   obtain rfl:=dw ‹_›
   refine rpG ?_
   exact ⟨hF_.set 17 rfl,hI⟩
  obtain ⟨rfl,rfl,rfl,rfl,rfl,rfl,rfl,rfl,rfl,rfl,rfl,rfl,rfl,rfl,rfl,rfl,rfl,rfl,_⟩:=hF_.all
  clear hF_ bR bQ bG bS bU bB bD cq ci cL bH bT cH de cB dk dw dH
  refine az (fun _=>done hI rfl) (fun hb=>by cases hb)
 obtain ⟨j,hcj⟩:∃ j:Nat,c=(j:Int):=⟨c.toNat,by omega⟩
 have hjl:j<p.length:=by omega
 subst hcj
 have hpe:p[(j:Int).toNat]?=some p[j]:=by rw [Int.toNat_natCast,List.getElem?_eq_getElem hjl]
 rw [hpe]
 have hqv:=zW hpv (List.getElem_mem hjl)
 obtain ⟨q,hq⟩:∃ q,q=p[j]:=⟨_,rfl⟩
 obtain ⟨pb,po,pcap,pc,pE,pfz,rfl,hpS,hpR⟩:=hp.at_ hjl
 rw [<- hq] at hpR hqv ⊢
 obtain ⟨kh,kb,hcc,hqh,hqb⟩:=hpR.cells
 have hcl5:=hpR.length
 rw [hcc] at hpR
 have hlq:decide ((ks.length:Int)=(q.body.length:Int))=decide (ks.length=q.body.length):=by rw [decide_eq_decide]; omega
 have hqo:=FG hqv
 refine ⟨fun D rJ ti pD kX rR s3 sO rp jL mw kL jY iC iJ ig lK gK gr w_=>Fx D 0 [gr=.pointer (some ⟨b3,4,none⟩),gK=.int .i64 (j:Int),lK=.slice (some ⟨pb,po,none⟩) p.length pcap,ig=.int .i64 p.length,iJ=.bool false,iC=.bool false,jY=.pointer (some ⟨b3,5,none⟩),kL=kf,mw=.int .i64 ks.length,jL=.slice (some ⟨pb,po,none⟩) p.length pcap,rp=.pointer (some ⟨b3,4,none⟩),sO=.int .i64 (j:Int),s3=.pointer (some ⟨pb,po+j * 5,none⟩),rR=.pointer (some ⟨pb,po+j * 5+4,none⟩),kX=kb,pD=.int .i64 q.body.length,ti=.bool (!decide (ks.length=q.body.length)),rJ=.bool (!decide (ks.length=q.body.length))]/\Inv w [] [.blk b3 (.cells #[.int .i64 g.kind,.int .i64 g.n,.string g.name,kv,.int .i64 (j:Int),kf] ag)] S w_,⟨Fx.nil _ _,hI.draw⟩,⟨?_,?_,?_,?_,?_,?_,?_,?_,?_,?_,?_,?_,?_,?_,?_,?_,?_,?_,trivial⟩,?_⟩
 all_goals (intro D bn; intros; rename_i rJ ti pD kX rR s3 sO rp jL mw kL jY iC iJ ig lK gK gr w_ hA_; have hF_:=hA_.1; obtain ⟨⟨bR,bQ,bG,bS,bU,bB,bD,cq,ci,cL,bH,bT,cH,de,cB,dk,dw,dH,_⟩,hI⟩:=hA_)
 ·refine ai cA ?_
  exact ⟨hF_.set 0 rfl,hI⟩
 ·obtain rfl:=bR ‹_›
  refine aA hI 0 av rfl rfl ?_
  exact ⟨hF_.set 1 rfl,hI⟩
 ·exact ⟨hF_.set 2 rfl,hI⟩
 ·obtain rfl:=bG ‹_›
  refine aC hp bL ?_
  exact ⟨hF_.set 3 rfl,hI⟩
 ·obtain rfl:=bQ ‹_›
  obtain rfl:=bS ‹_›
  refine fw ?_
  rw [decide_eq_false hge]
  exact ⟨hF_.set 4 rfl,hI⟩
 ·obtain rfl:=bU ‹_›
  exact ⟨hF_.set 5 rfl,hI⟩
 ·obtain rfl:=bB ‹_›
  refine rpG ?_
  refine ai be ?_
  exact ⟨hF_.set 6 rfl,hI⟩
 ·obtain rfl:=bD ‹_›
  obtain rfl:=bB ‹_›
  refine rpG ?_
  refine aA hI 0 bk rfl rfl ?_
  exact ⟨hF_.set 7 (by first|assumption|trivial),hI⟩
 ·have AO:=cq ‹_›
  obtain rfl:=bB ‹_›
  refine rpG ?_
  refine aC (xs:=ks) (by rw [AO]; exact hks) bz ?_
  exact ⟨hF_.set 8 rfl,hI⟩
 ·obtain rfl:=bB ‹_›
  refine rpG ?_
  exact ⟨hF_.set 9 rfl,hI⟩
 ·obtain rfl:=bB ‹_›
  refine rpG ?_
  refine ai cA ?_
  exact ⟨hF_.set 10 rfl,hI⟩
 ·obtain rfl:=bH ‹_›
  obtain rfl:=bB ‹_›
  refine rpG ?_
  refine aA hI 0 av rfl rfl ?_
  exact ⟨hF_.set 11 rfl,hI⟩
 ·obtain rfl:=cL ‹_›
  obtain rfl:=bT ‹_›
  obtain rfl:=bB ‹_›
  refine rpG ?_
  refine ar bL hjl ?_
  exact ⟨hF_.set 12 rfl,hI⟩
 ·obtain rfl:=cH ‹_›
  obtain rfl:=bB ‹_›
  refine rpG ?_
  refine ai bm ?_
  exact ⟨hF_.set 13 rfl,hI⟩
 ·obtain rfl:=de ‹_›
  obtain rfl:=bB ‹_›
  refine rpG ?_
  refine ce ah (by rw [hI.cellS hpS]; exact au hcc 4 _ rfl) ?_
  exact ⟨hF_.set 14 (by first|assumption|trivial),hI⟩
 ·have Bp:=cB ‹_›
  obtain rfl:=bB ‹_›
  refine rpG ?_
  refine aC (xs:=q.body) (by rw [Bp]; exact hqb) af ?_
  exact ⟨hF_.set 15 rfl,hI⟩
 ·obtain rfl:=ci ‹_›
  obtain rfl:=dk ‹_›
  obtain rfl:=bB ‹_›
  refine rpG ?_
  refine cD ?_
  rw [hlq]
  exact ⟨hF_.set 16 rfl,hI⟩
 ·obtain rfl:=bB ‹_›
  obtain rfl:=dw ‹_›
  refine rpG ?_
  exact ⟨hF_.set 17 rfl,hI⟩
 obtain ⟨rfl,rfl,rfl,rfl,rfl,rfl,rfl,AO,rfl,rfl,rfl,rfl,rfl,rfl,Bp,rfl,rfl,rfl,_⟩:=hF_.all
 clear hF_ bR bQ bG bS bU bB bD cq ci cL bH bT cH de cB dk dw dH
 refine az (fun hb=>done hI ?_) (fun hb=>?_)
 ·have hb:decide (ks.length=q.body.length)=false:=by simpa using hb
  simp only [hb]
  rfl
 have hlen:ks.length=q.body.length:=by simpa using hb
 simp only [decide_eq_true hlen,Bool.true_and]
 refine ad (u:=.int .i64 (j:Int)) hI 0 rfl cA av rfl ?_
 refine ar bL hjl ?_
 refine bE (cs:=[.int .i64 q.head.kind,.int .i64 q.head.n,.string q.head.name,kh,kb]) bo rfl (fun i v hi=>by rw [hI.cellS hpS]; exact au hcc i v hi) ?_
 refine aD hI dF fun b5 w' hI=>?_
 refine aq hI 1 rfl bo rfl rfl (by simpa using hpR.one) fun w' hI=>?_
 refine xZ hI fun mm w' hI=>?_
 have hI:Inv w [] [.blk b3 (.cells #[.int .i64 g.kind,.int .i64 g.n,.string g.name,kv,.int .i64 (j:Int),kf] ag),.blk b5 (.cells #[.int .i64 q.head.kind,.int .i64 q.head.n,.string q.head.name,kh,kb] aw),.blk mm (.map #[] 0)] S w':=hI
 refine ai cQ ?_
 refine b0 hI 0 [.int .i64 g.kind,.int .i64 g.n,.string g.name,kv] ac rfl rfl sH ?_
 refine ai cG ?_
 refine b0 hI 1 [.int .i64 q.head.kind,.int .i64 q.head.n,.string q.head.name,kh] ac rfl rfl Jk ?_
 have hgk:=(iB hgv).2
 have hcall:=kV q.head g S _ _ mm 0 #[] st0 hqh hg hqo.1.1 hgk HY (KnownM.empty S)
 have hsn:=jI q.head g st0 HY hgk
 generalize cw q.head g st0=r0 at hcall hsn ⊢
 refine Run.call (A:=[_,_]) ja jp hI hcall fun v' I' S1 w'=>?_
 rintro ⟨rfl,rfl,es0,ck0,rfl,hkm⟩ _ hI
 refine bK ?_
 cases hr0:r0.1
 ·refine az (fun _=>done hI rfl) (fun hb=>by cases hb)
 refine az (fun hb=>by cases hb) (fun _=>?_)
 simp only [Bool.true_and]
 rw [<- Ia p q.body ks r0.2 hlen.symm]
 refine ad hI 1 rfl bm ah rfl ?_
 refine aC hqb af ?_
 refine ⟨fun i w'=>∃ (k:Nat) (st':aF) (es:Array MapEntry) (ck:Nat),k<=q.body.length/\i=.int .i64 k/\interL p (q.body.drop k) (ks.drop k) st'=interL p q.body ks r0.2/\yF st'/\KnownM S1 es st'/\Inv w [] [.blk b3 (.cells #[.int .i64 g.kind,.int .i64 g.n,.string g.name,kv,.int .i64 (j:Int),kf] ag),.blk b5 (.cells #[.int .i64 q.head.kind,.int .i64 q.head.n,.string q.head.name,kh,kb] aw),.blk mm (.map es ck)] S1 w',
  fun i _=>q.body.length - (intOf i).toNat,⟨0,r0.2,es0,ck0,Nat.zero_le _,rfl,rfl,hsn,hkm,hI⟩,?_⟩
 intro i _ _ t100 t99 t98 t97 t96 t95 t94 t93 t92 t91 t90 t89 t88 t87 t86 t85 t84 t83 t82 t81 t80 t79 t78 t77 _ _ _ _ _ _ w'
 rintro ⟨k,st',es,ck,hk,rfl,hrel,hst,hkm,hI⟩
 have hqbl:=hqb.le
 simp only [maxLen] at hqbl
 refine bq ?_
 refine aI (fun hki=>?_) (fun hki=>?_)
 ·have hk1:k<q.body.length:=by omega
  have hk2:k<ks.length:=by omega
  rw [List.drop_eq_getElem_cons hk1,List.drop_eq_getElem_cons hk2,interL] at hrel
  obtain ⟨qb,qo,qcap,qc,qE,qfz,rfl,hqS,hqR⟩:=hqb.at_ hk1
  obtain ⟨fb,fo,fcap,fc,fE,ffz,rfl,hfS,hfR⟩:=hks.at_ hk2
  obtain ⟨fv,ff,hfe,hfg,_,_⟩:=RdF.iff.1 hfR
  obtain ⟨x,hx⟩:∃ x,x=ks[k]:=⟨_,rfl⟩
  obtain ⟨y,hy⟩:∃ y,y=q.body[k]:=⟨_,rfl⟩
  have hym:y∈q.body:=by rw [hy]; exact List.getElem_mem hk1
  have hxm:x∈ks:=by rw [hx]; exact List.getElem_mem hk2
  have hxs:=hkids x hxm
  have hxg:ek x.goal=true:=by
   obtain ⟨xg,xc,xk⟩:=x
   exact (kI hxs).1
  rw [<- hx] at hfe hfg hrel hfR
  rw [<- hy] at hqR hrel
  refine ar af hk1 ?_
  refine bE ac hqR.length (fun i v hi=>by rw [hI.cellS hqS]; exact au rfl i v hi) ?_
  refine aD hI aQ fun b10 w' hI=>?_
  refine aq hI 3 rfl ac (by simpa using hqR.length) rfl (by simpa using hqR.one) fun w' hI=>?_
  obtain ⟨ys,hys⟩:∃ ys,ys=aH qc (qo+k * 4) 4:=⟨_,rfl⟩
  rw [<- hys] at hqR hI
  have hyl:=hqR.length
  have hI:Inv w [] [.blk b3 (.cells #[.int .i64 g.kind,.int .i64 g.n,.string g.name,kv,.int .i64 (j:Int),.slice (some ⟨fb,fo,none⟩) ks.length fcap] ag),.blk b5 (.cells #[.int .i64 q.head.kind,.int .i64 q.head.n,.string q.head.name,kh,.slice (some ⟨qb,qo,none⟩) q.body.length qcap] aw),.blk mm (.map es ck),.blk b10 (.cells ys.toArray ab)] S1 w':=hI
  have hst2:=jI y x.goal st' hst (iB (eq hxg)).2
  cases hcut:jT y
  ·cases hm:(cw y x.goal st').1
   ·have hI:=hI
    refine ⟨fun D J3 RS RK RI O1 JI Fh Ea Dv Dj CO um sj un tV vE uq wh y5 yi y7 zc uY pM w_=>Fx D 0 [pM=.agg ys.toArray,uY=.bool false,zc=.bool false,y7=.pointer (some ⟨b3,5,none⟩),yi=.slice (some ⟨fb,fo,none⟩) ks.length fcap,y5=.int .i64 k,wh=.pointer (some ⟨fb,fo+k * 6,none⟩),uq=.pointer (some ⟨fb,fo+k * 6,none⟩),vE=.agg #[.int .i64 x.goal.kind,.int .i64 x.goal.n,.string x.goal.name,fv],tV=.agg ys.toArray,un=.map (some mm),sj=.bool false,um=.bool true,CO=.bool true,Dj=.bool true,Dv=undef,Ea=undef,Fh=undef,JI=undef,O1=undef,RI=undef,RK=undef,RS=undef,J3=.bool true]/\∃ es1 ck1,(D 11=false->es1=es/\ck1=ck)/\(D 11=true->KnownM S1 es1 (cw y x.goal st').2)/\Inv w [] [.blk b3 (.cells #[.int .i64 g.kind,.int .i64 g.n,.string g.name,kv,.int .i64 (j:Int),.slice (some ⟨fb,fo,none⟩) ks.length fcap] ag),.blk b5 (.cells #[.int .i64 q.head.kind,.int .i64 q.head.n,.string q.head.name,kh,.slice (some ⟨qb,qo,none⟩) q.body.length qcap] aw),.blk mm (.map es1 ck1),.blk b10 (.cells ys.toArray ab)] S1 w_,⟨Fx.nil _ _,⟨es,ck,fun _=>⟨rfl,rfl⟩,aV,hI.draw⟩⟩,⟨?_,?_,?_,?_,?_,?_,?_,?_,?_,?_,?_,?_,?_,?_,?_,?_,?_,?_,?_,?_,?_,?_,?_,?_,trivial⟩,?_⟩
    all_goals (intro D bn; intros; rename_i J3 RS RK RI O1 JI Fh Ea Dv Dj CO um sj un tV vE uq wh y5 yi y7 zc uY pM w_ hA_; have hF_:=hA_.1; obtain ⟨⟨bR,bQ,bG,bS,bU,bB,bD,cq,ci,cL,bH,bT,cH,de,cB,dk,dw,dH,eE,dS,fl,iz,mY,qY,_⟩,⟨es1,ck1,k0,k1,hI⟩⟩:=hA_)
    ·refine ao hI 3 ac rfl (by simpa using hyl) ?_
     exact ⟨hF_.set 0 rfl,⟨es1,ck1,k0,k1,hI⟩⟩
    ·obtain rfl:=bR ‹_›
     refine Run.callPure oJ oG hI (lV hqR) fun w_ hI=>?_
     rw [hcut]
     exact ⟨hF_.set 1 rfl,⟨es1,ck1,k0,k1,hI⟩⟩
    ·obtain rfl:=bQ ‹_›
     exact ⟨hF_.set 2 rfl,⟨es1,ck1,k0,k1,hI⟩⟩
    ·obtain rfl:=bG ‹_›
     refine rpG ?_
     refine ai be ?_
     exact ⟨hF_.set 3 rfl,⟨es1,ck1,k0,k1,hI⟩⟩
    ·obtain rfl:=bS ‹_›
     obtain rfl:=bG ‹_›
     refine rpG ?_
     refine aA hI 0 bk rfl rfl ?_
     exact ⟨hF_.set 4 rfl,⟨es1,ck1,k0,k1,hI⟩⟩
    ·obtain rfl:=bG ‹_›
     refine rpG ?_
     exact ⟨hF_.set 5 rfl,⟨es1,ck1,k0,k1,hI⟩⟩
    ·obtain rfl:=bU ‹_›
     obtain rfl:=bB ‹_›
     obtain rfl:=bG ‹_›
     refine rpG ?_
     refine ar bz hk2 ?_
     exact ⟨hF_.set 6 rfl,⟨es1,ck1,k0,k1,hI⟩⟩
    ·obtain rfl:=bD ‹_›
     obtain rfl:=bG ‹_›
     refine rpG ?_
     refine ai cQ ?_
     exact ⟨hF_.set 7 rfl,⟨es1,ck1,k0,k1,hI⟩⟩
    ·obtain rfl:=cq ‹_›
     obtain rfl:=bG ‹_›
     refine rpG ?_
     refine bE (cs:=[.int .i64 x.goal.kind,.int .i64 x.goal.n,.string x.goal.name,fv]) ac rfl (fun i v hi=>by rw [hI.cellS hfS]; exact au hfe i v (KV i v hi)) ?_
     exact ⟨hF_.set 8 rfl,⟨es1,ck1,k0,k1,hI⟩⟩
    ·obtain rfl:=bG ‹_›
     refine rpG ?_
     refine ao hI 3 ac rfl (by simpa using hyl) ?_
     exact ⟨hF_.set 9 rfl,⟨es1,ck1,k0,k1,hI⟩⟩
    ·obtain rfl:=bG ‹_›
     refine rpG ?_
     exact ⟨hF_.set 10 rfl,⟨es1,ck1,k0,k1,hI⟩⟩
    ·obtain rfl:=ci ‹_›
     obtain rfl:=cL ‹_›
     obtain rfl:=bH ‹_›
     obtain rfl:=bG ‹_›
     refine rpG ?_
     obtain ⟨e0,e0'⟩:=k0 bn
     rw [e0,e0'] at hI
     have hI:=hI.perm (M:=[.blk b3 (.cells #[.int .i64 g.kind,.int .i64 g.n,.string g.name,kv,.int .i64 (j:Int),.slice (some ⟨fb,fo,none⟩) ks.length fcap] ag),.blk b5 (.cells #[.int .i64 q.head.kind,.int .i64 q.head.n,.string q.head.name,kh,.slice (some ⟨qb,qo,none⟩) q.body.length qcap] aw),.blk b10 (.cells ys.toArray ab)]++[.blk mm (.map es ck)]) (((List.Perm.swap ..).cons _).cons _)
     refine Run.callE (A:=[_,_,_]) ja jp hI (kV y x.goal S1 _ _ mm ck es st' hqR hfg (od hqo.2.1 _ hym) (iB (eq hxg)).2 hst hkm) fun v' I' S2 w_=>?_
     rintro ⟨eS,rfl,es1,ck1,rfl,hkx⟩ _ hI
     rw [eS] at hI
     have hI:Inv w [] [.blk b3 (.cells #[.int .i64 g.kind,.int .i64 g.n,.string g.name,kv,.int .i64 (j:Int),.slice (some ⟨fb,fo,none⟩) ks.length fcap] ag),.blk b5 (.cells #[.int .i64 q.head.kind,.int .i64 q.head.n,.string q.head.name,kh,.slice (some ⟨qb,qo,none⟩) q.body.length qcap] aw),.blk mm (.map es1 ck1),.blk b10 (.cells ys.toArray ab)] S1 w_:=hI.perm (((List.Perm.swap ..).cons _).cons _)
     have k0:=fun (h:aG D 11 11=false)=>(Bool.noConfusion h:es1=es/\ck1=ck)
     have k1:=fun (_:aG D 11 11=true)=>hkx
     rw [hm]
     exact ⟨hF_.set 11 rfl,⟨es1,ck1,k0,k1,hI⟩⟩
    ·obtain rfl:=bT ‹_›
     obtain rfl:=bG ‹_›
     refine rpG ?_
     refine bK ?_
     exact ⟨hF_.set 12 rfl,⟨es1,ck1,k0,k1,hI⟩⟩
    ·obtain rfl:=bG ‹_›
     obtain rfl:=cH ‹_›
     refine rpG ?_
     exact ⟨hF_.set 13 rfl,⟨es1,ck1,k0,k1,hI⟩⟩
    ·obtain rfl:=de ‹_›
     exact ⟨hF_.set 14 rfl,⟨es1,ck1,k0,k1,hI⟩⟩
    ·obtain rfl:=cB ‹_›
     refine rpG ?_
     exact ⟨hF_.set 15 rfl,⟨es1,ck1,k0,k1,hI⟩⟩
    ·obtain rfl:=cB ‹_›
     refine rpG ?_
     exact ⟨hF_.set 16 rfl,⟨es1,ck1,k0,k1,hI⟩⟩
    ·obtain rfl:=dw ‹_›
     obtain rfl:=cB ‹_›
     refine rpG ?_
     exact ⟨hF_.set 17 rfl,⟨es1,ck1,k0,k1,hI⟩⟩
    ·obtain rfl:=cB ‹_›
     refine rpG ?_
     exact ⟨hF_.set 18 rfl,⟨es1,ck1,k0,k1,hI⟩⟩
    ·obtain rfl:=dH ‹_›
     obtain rfl:=eE ‹_›
     obtain rfl:=cB ‹_›
     refine rpG ?_
     exact ⟨hF_.set 19 rfl,⟨es1,ck1,k0,k1,hI⟩⟩
    ·obtain rfl:=dS ‹_›
     obtain rfl:=cB ‹_›
     refine rpG ?_
     exact ⟨hF_.set 20 rfl,⟨es1,ck1,k0,k1,hI⟩⟩
    ·obtain rfl:=dk ‹_›
     obtain rfl:=fl ‹_›
     obtain rfl:=cB ‹_›
     refine rpG ?_
     exact ⟨hF_.set 21 rfl,⟨es1,ck1,k0,k1,hI⟩⟩
    ·obtain rfl:=iz ‹_›
     obtain rfl:=cB ‹_›
     refine rpG ?_
     exact ⟨hF_.set 22 rfl,⟨es1,ck1,k0,k1,hI⟩⟩
    ·obtain rfl:=cB ‹_›
     obtain rfl:=mY ‹_›
     refine rpG ?_
     exact ⟨hF_.set 23 rfl,⟨es1,ck1,k0,k1,hI⟩⟩
    obtain ⟨rfl,rfl,rfl,rfl,rfl,rfl,rfl,rfl,rfl,rfl,rfl,rfl,rfl,rfl,rfl,rfl,rfl,rfl,rfl,rfl,rfl,rfl,rfl,rfl,_⟩:=hF_.all
    clear hF_ bR bQ bG bS bU bB bD cq ci cL bH bT cH de cB dk dw dH eE dS fl iz mY qY
    refine az (fun _=>done hI ?_) (fun hb=>by cases hb)
    rw [<- hrel,hcut,hm]; rfl
   ·have hI:=hI
    refine ⟨fun D J3 RS RK RI O1 JI Fh Ea Dv Dj CO um sj un tV vE uq wh y5 yi y7 zc uY pM w_=>Fx D 0 [pM=.agg ys.toArray,uY=.bool false,zc=.bool false,y7=.pointer (some ⟨b3,5,none⟩),yi=.slice (some ⟨fb,fo,none⟩) ks.length fcap,y5=.int .i64 k,wh=.pointer (some ⟨fb,fo+k * 6,none⟩),uq=.pointer (some ⟨fb,fo+k * 6,none⟩),vE=.agg #[.int .i64 x.goal.kind,.int .i64 x.goal.n,.string x.goal.name,fv],tV=.agg ys.toArray,un=.map (some mm),sj=.bool true,um=.bool false,CO=.bool false,Dj=.bool false,Dv=.slice (some ⟨pb,po,none⟩) p.length pcap,Ea=.pointer (some ⟨b3,5,none⟩),Fh=.slice (some ⟨fb,fo,none⟩) ks.length fcap,JI=.int .i64 k,O1=.pointer (some ⟨fb,fo+k * 6,none⟩),RI=.agg (aH fc (fo+k * 6) 6).toArray,RK=.bool (chkF p x),RS=.bool (!chkF p x),J3=.bool (!chkF p x)]/\∃ es1 ck1,(D 11=false->es1=es/\ck1=ck)/\(D 11=true->KnownM S1 es1 (cw y x.goal st').2)/\Inv w [] [.blk b3 (.cells #[.int .i64 g.kind,.int .i64 g.n,.string g.name,kv,.int .i64 (j:Int),.slice (some ⟨fb,fo,none⟩) ks.length fcap] ag),.blk b5 (.cells #[.int .i64 q.head.kind,.int .i64 q.head.n,.string q.head.name,kh,.slice (some ⟨qb,qo,none⟩) q.body.length qcap] aw),.blk mm (.map es1 ck1),.blk b10 (.cells ys.toArray ab)] S1 w_,⟨Fx.nil _ _,⟨es,ck,fun _=>⟨rfl,rfl⟩,aV,hI.draw⟩⟩,⟨?_,?_,?_,?_,?_,?_,?_,?_,?_,?_,?_,?_,?_,?_,?_,?_,?_,?_,?_,?_,?_,?_,?_,?_,trivial⟩,?_⟩
    all_goals (intro D bn; intros; rename_i J3 RS RK RI O1 JI Fh Ea Dv Dj CO um sj un tV vE uq wh y5 yi y7 zc uY pM w_ hA_; have hF_:=hA_.1; obtain ⟨⟨bR,bQ,bG,bS,bU,bB,bD,cq,ci,cL,bH,bT,cH,de,cB,dk,dw,dH,eE,dS,fl,iz,mY,qY,_⟩,⟨es1,ck1,k0,k1,hI⟩⟩:=hA_)
    ·refine ao hI 3 ac rfl (by simpa using hyl) ?_
     exact ⟨hF_.set 0 rfl,⟨es1,ck1,k0,k1,hI⟩⟩
    ·obtain rfl:=bR ‹_›
     refine Run.callPure oJ oG hI (lV hqR) fun w_ hI=>?_
     rw [hcut]
     exact ⟨hF_.set 1 rfl,⟨es1,ck1,k0,k1,hI⟩⟩
    ·obtain rfl:=bQ ‹_›
     exact ⟨hF_.set 2 rfl,⟨es1,ck1,k0,k1,hI⟩⟩
    ·obtain rfl:=bG ‹_›
     refine rpG ?_
     refine ai be ?_
     exact ⟨hF_.set 3 rfl,⟨es1,ck1,k0,k1,hI⟩⟩
    ·obtain rfl:=bS ‹_›
     obtain rfl:=bG ‹_›
     refine rpG ?_
     refine aA hI 0 bk rfl rfl ?_
     exact ⟨hF_.set 4 rfl,⟨es1,ck1,k0,k1,hI⟩⟩
    ·obtain rfl:=bG ‹_›
     refine rpG ?_
     exact ⟨hF_.set 5 rfl,⟨es1,ck1,k0,k1,hI⟩⟩
    ·obtain rfl:=bU ‹_›
     obtain rfl:=bB ‹_›
     obtain rfl:=bG ‹_›
     refine rpG ?_
     refine ar bz hk2 ?_
     exact ⟨hF_.set 6 rfl,⟨es1,ck1,k0,k1,hI⟩⟩
    ·obtain rfl:=bD ‹_›
     obtain rfl:=bG ‹_›
     refine rpG ?_
     refine ai cQ ?_
     exact ⟨hF_.set 7 rfl,⟨es1,ck1,k0,k1,hI⟩⟩
    ·obtain rfl:=cq ‹_›
     obtain rfl:=bG ‹_›
     refine rpG ?_
     refine bE (cs:=[.int .i64 x.goal.kind,.int .i64 x.goal.n,.string x.goal.name,fv]) ac rfl (fun i v hi=>by rw [hI.cellS hfS]; exact au hfe i v (KV i v hi)) ?_
     exact ⟨hF_.set 8 rfl,⟨es1,ck1,k0,k1,hI⟩⟩
    ·obtain rfl:=bG ‹_›
     refine rpG ?_
     refine ao hI 3 ac rfl (by simpa using hyl) ?_
     exact ⟨hF_.set 9 rfl,⟨es1,ck1,k0,k1,hI⟩⟩
    ·obtain rfl:=bG ‹_›
     refine rpG ?_
     exact ⟨hF_.set 10 rfl,⟨es1,ck1,k0,k1,hI⟩⟩
    ·obtain rfl:=ci ‹_›
     obtain rfl:=cL ‹_›
     obtain rfl:=bH ‹_›
     obtain rfl:=bG ‹_›
     refine rpG ?_
     obtain ⟨e0,e0'⟩:=k0 bn
     rw [e0,e0'] at hI
     have hI:=hI.perm (M:=[.blk b3 (.cells #[.int .i64 g.kind,.int .i64 g.n,.string g.name,kv,.int .i64 (j:Int),.slice (some ⟨fb,fo,none⟩) ks.length fcap] ag),.blk b5 (.cells #[.int .i64 q.head.kind,.int .i64 q.head.n,.string q.head.name,kh,.slice (some ⟨qb,qo,none⟩) q.body.length qcap] aw),.blk b10 (.cells ys.toArray ab)]++[.blk mm (.map es ck)]) (((List.Perm.swap ..).cons _).cons _)
     refine Run.callE (A:=[_,_,_]) ja jp hI (kV y x.goal S1 _ _ mm ck es st' hqR hfg (od hqo.2.1 _ hym) (iB (eq hxg)).2 hst hkm) fun v' I' S2 w_=>?_
     rintro ⟨eS,rfl,es1,ck1,rfl,hkx⟩ _ hI
     rw [eS] at hI
     have hI:Inv w [] [.blk b3 (.cells #[.int .i64 g.kind,.int .i64 g.n,.string g.name,kv,.int .i64 (j:Int),.slice (some ⟨fb,fo,none⟩) ks.length fcap] ag),.blk b5 (.cells #[.int .i64 q.head.kind,.int .i64 q.head.n,.string q.head.name,kh,.slice (some ⟨qb,qo,none⟩) q.body.length qcap] aw),.blk mm (.map es1 ck1),.blk b10 (.cells ys.toArray ab)] S1 w_:=hI.perm (((List.Perm.swap ..).cons _).cons _)
     have k0:=fun (h:aG D 11 11=false)=>(Bool.noConfusion h:es1=es/\ck1=ck)
     have k1:=fun (_:aG D 11 11=true)=>hkx
     rw [hm]
     exact ⟨hF_.set 11 rfl,⟨es1,ck1,k0,k1,hI⟩⟩
    ·obtain rfl:=bT ‹_›
     obtain rfl:=bG ‹_›
     refine rpG ?_
     refine bK ?_
     exact ⟨hF_.set 12 rfl,⟨es1,ck1,k0,k1,hI⟩⟩
    ·obtain rfl:=bG ‹_›
     obtain rfl:=cH ‹_›
     refine rpG ?_
     exact ⟨hF_.set 13 rfl,⟨es1,ck1,k0,k1,hI⟩⟩
    ·obtain rfl:=de ‹_›
     exact ⟨hF_.set 14 rfl,⟨es1,ck1,k0,k1,hI⟩⟩
    ·obtain rfl:=cB ‹_›
     refine rpG ?_
     exact ⟨hF_.set 15 rfl,⟨es1,ck1,k0,k1,hI⟩⟩
    ·obtain rfl:=cB ‹_›
     refine rpG ?_
     refine ai be ?_
     exact ⟨hF_.set 16 rfl,⟨es1,ck1,k0,k1,hI⟩⟩
    ·obtain rfl:=dw ‹_›
     obtain rfl:=cB ‹_›
     refine rpG ?_
     refine aA hI 0 bk rfl rfl ?_
     exact ⟨hF_.set 17 rfl,⟨es1,ck1,k0,k1,hI⟩⟩
    ·obtain rfl:=cB ‹_›
     refine rpG ?_
     exact ⟨hF_.set 18 rfl,⟨es1,ck1,k0,k1,hI⟩⟩
    ·obtain rfl:=dH ‹_›
     obtain rfl:=eE ‹_›
     obtain rfl:=cB ‹_›
     refine rpG ?_
     refine ar bz hk2 ?_
     exact ⟨hF_.set 19 rfl,⟨es1,ck1,k0,k1,hI⟩⟩
    ·obtain rfl:=dS ‹_›
     obtain rfl:=cB ‹_›
     refine rpG ?_
     refine bE aN hfR.length (fun i v hi=>by rw [hI.cellS hfS]; exact au rfl i v hi) ?_
     exact ⟨hF_.set 20 rfl,⟨es1,ck1,k0,k1,hI⟩⟩
    ·obtain rfl:=dk ‹_›
     obtain rfl:=fl ‹_›
     obtain rfl:=cB ‹_›
     refine rpG ?_
     refine Run.callPure zx zz hI (ih x hxm (d - 1) S1 _ _ hxs hp hfR) fun w_ hI=>?_
     exact ⟨hF_.set 21 rfl,⟨es1,ck1,k0,k1,hI⟩⟩
    ·obtain rfl:=iz ‹_›
     obtain rfl:=cB ‹_›
     refine rpG ?_
     refine bK ?_
     exact ⟨hF_.set 22 rfl,⟨es1,ck1,k0,k1,hI⟩⟩
    ·obtain rfl:=cB ‹_›
     obtain rfl:=mY ‹_›
     refine rpG ?_
     exact ⟨hF_.set 23 rfl,⟨es1,ck1,k0,k1,hI⟩⟩
    obtain ⟨rfl,rfl,rfl,rfl,rfl,rfl,rfl,rfl,rfl,rfl,rfl,rfl,rfl,rfl,rfl,rfl,rfl,rfl,rfl,rfl,rfl,rfl,rfl,rfl,_⟩:=hF_.all
    have jV:D 11=true:=by assumption
    clear hF_ bR bQ bG bS bU bB bD cq ci cL bH bT cH de cB dk dw dH eE dS fl iz mY qY
    have hkx:=k1 jV
    rw [hcut,hm,Bool.not_false,Bool.true_and,Bool.true_and] at hrel
    cases hck:chkF p x
    ·refine az (fun _=>done hI ?_) (fun hb=>by cases hb)
     rw [<- hrel,hck]; rfl
    ·refine az (fun hb=>by cases hb) (fun _=>?_)
     rw [hck,Bool.true_and] at hrel
     refine bl (by omega) ?_
     exact ⟨⟨k+1,_,es1,ck1,hk1,rfl,hrel,hst2,hkx,hI.pick [true,true,true]⟩,by simp [intOf]; omega⟩
  ·have hI:=hI
   refine ⟨fun D J3 RS RK RI O1 JI Fh Ea Dv Dj CO um sj un tV vE uq wh y5 yi y7 zc uY pM w_=>Fx D 0 [pM=.agg ys.toArray,uY=.bool true,zc=.bool true,y7=undef,yi=undef,y5=undef,wh=undef,uq=undef,vE=undef,tV=undef,un=undef,sj=undef,um=undef,CO=.bool true,Dj=.bool true,Dv=undef,Ea=undef,Fh=undef,JI=undef,O1=undef,RI=undef,RK=undef,RS=undef,J3=.bool true]/\Inv w [] [.blk b3 (.cells #[.int .i64 g.kind,.int .i64 g.n,.string g.name,kv,.int .i64 (j:Int),.slice (some ⟨fb,fo,none⟩) ks.length fcap] ag),.blk b5 (.cells #[.int .i64 q.head.kind,.int .i64 q.head.n,.string q.head.name,kh,.slice (some ⟨qb,qo,none⟩) q.body.length qcap] aw),.blk mm (.map es ck),.blk b10 (.cells ys.toArray ab)] S1 w_,⟨Fx.nil _ _,hI.draw⟩,⟨?_,?_,?_,?_,?_,?_,?_,?_,?_,?_,?_,?_,?_,?_,?_,?_,?_,?_,?_,?_,?_,?_,?_,?_,trivial⟩,?_⟩
   all_goals (intro D bn; intros; rename_i J3 RS RK RI O1 JI Fh Ea Dv Dj CO um sj un tV vE uq wh y5 yi y7 zc uY pM w_ hA_; have hF_:=hA_.1; obtain ⟨⟨bR,bQ,bG,bS,bU,bB,bD,cq,ci,cL,bH,bT,cH,de,cB,dk,dw,dH,eE,dS,fl,iz,mY,qY,_⟩,hI⟩:=hA_)
   ·refine ao hI 3 ac rfl (by simpa using hyl) ?_
    exact ⟨hF_.set 0 rfl,hI⟩
   ·obtain rfl:=bR ‹_›
    refine Run.callPure oJ oG hI (lV hqR) fun w_ hI=>?_
    rw [hcut]
    exact ⟨hF_.set 1 rfl,hI⟩
   ·obtain rfl:=bQ ‹_›
    exact ⟨hF_.set 2 rfl,hI⟩
   ·obtain rfl:=bG ‹_›
    refine rpG ?_
    exact ⟨hF_.set 3 rfl,hI⟩
   ·obtain rfl:=bS ‹_›
    obtain rfl:=bG ‹_›
    refine rpG ?_
    exact ⟨hF_.set 4 rfl,hI⟩
   ·obtain rfl:=bG ‹_›
    refine rpG ?_
    exact ⟨hF_.set 5 rfl,hI⟩
   ·obtain rfl:=bU ‹_›
    obtain rfl:=bB ‹_›
    obtain rfl:=bG ‹_›
    refine rpG ?_
    exact ⟨hF_.set 6 rfl,hI⟩
   ·obtain rfl:=bD ‹_›
    obtain rfl:=bG ‹_›
    refine rpG ?_
    exact ⟨hF_.set 7 rfl,hI⟩
   ·obtain rfl:=cq ‹_›
    obtain rfl:=bG ‹_›
    refine rpG ?_
    exact ⟨hF_.set 8 rfl,hI⟩
   ·obtain rfl:=bG ‹_›
    refine rpG ?_
    exact ⟨hF_.set 9 rfl,hI⟩
   ·obtain rfl:=bG ‹_›
    refine rpG ?_
    exact ⟨hF_.set 10 rfl,hI⟩
   ·obtain rfl:=ci ‹_›
    obtain rfl:=cL ‹_›
    obtain rfl:=bH ‹_›
    obtain rfl:=bG ‹_›
    refine rpG ?_
    exact ⟨hF_.set 11 rfl,hI⟩
   ·obtain rfl:=bT ‹_›
    obtain rfl:=bG ‹_›
    refine rpG ?_
    exact ⟨hF_.set 12 rfl,hI⟩
   ·obtain rfl:=bG ‹_›
    obtain rfl:=cH ‹_›
    refine rpG ?_
    exact ⟨hF_.set 13 rfl,hI⟩
   ·obtain rfl:=de ‹_›
    exact ⟨hF_.set 14 rfl,hI⟩
   ·obtain rfl:=cB ‹_›
    refine rpG ?_
    exact ⟨hF_.set 15 rfl,hI⟩
   ·obtain rfl:=cB ‹_›
    refine rpG ?_
    exact ⟨hF_.set 16 rfl,hI⟩
   ·obtain rfl:=dw ‹_›
    obtain rfl:=cB ‹_›
    refine rpG ?_
    exact ⟨hF_.set 17 rfl,hI⟩
   ·obtain rfl:=cB ‹_›
    refine rpG ?_
    exact ⟨hF_.set 18 rfl,hI⟩
   ·obtain rfl:=dH ‹_›
    obtain rfl:=eE ‹_›
    obtain rfl:=cB ‹_›
    refine rpG ?_
    exact ⟨hF_.set 19 rfl,hI⟩
   ·obtain rfl:=dS ‹_›
    obtain rfl:=cB ‹_›
    refine rpG ?_
    exact ⟨hF_.set 20 rfl,hI⟩
   ·obtain rfl:=dk ‹_›
    obtain rfl:=fl ‹_›
    obtain rfl:=cB ‹_›
    refine rpG ?_
    exact ⟨hF_.set 21 rfl,hI⟩
   ·obtain rfl:=iz ‹_›
    obtain rfl:=cB ‹_›
    refine rpG ?_
    exact ⟨hF_.set 22 rfl,hI⟩
   ·obtain rfl:=cB ‹_›
    obtain rfl:=mY ‹_›
    refine rpG ?_
    exact ⟨hF_.set 23 rfl,hI⟩
   obtain ⟨rfl,rfl,rfl,rfl,rfl,rfl,rfl,rfl,rfl,rfl,rfl,rfl,rfl,rfl,rfl,rfl,rfl,rfl,rfl,rfl,rfl,rfl,rfl,rfl,_⟩:=hF_.all
   clear hF_ bR bQ bG bS bU bB bD cq ci cL bH bT cH de cB dk dw dH eE dS fl iz mY qY
   refine az (fun _=>done hI ?_) (fun hb=>by cases hb)
   rw [<- hrel,hcut]; rfl
 ·have:k=q.body.length:=by omega
  subst this
  refine done hI ?_
  rw [<- hrel,List.drop_length]
  generalize ks.drop q.body.length=zs
  cases zs <;> rfl
noncomputable def checkB (p:List C) (x:PF):Bool:=nX p && (dO x && chkF p x)
theorem tR {x:PF} (h:dO x=true):mP x 20=true:=by
 rw [dO,Bool.and_eq_true] at h; exact h.1
theorem lB {p:List C} {x:PF} {S:ae} {u:Value} {cs:List Value} (hp:RdSl S 5 (RdC S) u p) (h:RdF S cs x):Pure Tryz.prog BH [u,.agg cs.toArray] S (.bool (checkB p x)):=by
 intro w hI
 have hl:=h.length
 refine o5.2 ?_
 dsimp only[o5,aW]
 refine bf hI fun b3 w' hI=>?_
 refine Run.callPure wu xn hI (r7 hp) fun w' hI=>?_
 rw [checkB]
 cases hpv:nX p
 ·refine rpG ?_
  exact done hI rfl
 refine rpG ?_
 refine ao hI 0 aN rfl (by simpa [Value.cells] using hl) ?_
 refine Run.callPure o3 oW hI (mz h) fun w' hI=>?_
 cases hv:dO x
 ·refine rpG ?_
  exact done hI rfl
 refine rpG ?_
 refine ao hI 0 aN rfl (by simpa [Value.cells] using hl) ?_
 refine Run.callPure zx zz hI (Cc hpv x 20 S u cs (tR hv) hp h) fun w' hI=>?_
 refine rpG ?_
 exact done hI rfl
theorem lJ {p:List C} {x:PF} {S:ae} {u:Value} {cs:List Value} (hp:RdSl S 5 (RdC S) u p) (h:RdF S cs x) (hw:wP p<=1048576) (hw2:wF x<=1048576):Pure Tryz.prog BB [u,.agg cs.toArray] S (.bool (checkB p x)):=by
 intro w hI
 have hl:=h.length
 refine pu.2 ?_
 dsimp only[pu,aW]
 refine bf hI fun b3 w' hI=>?_
 refine Run.callPure xy vH hI (qj hp hw) fun w' hI=>?_
 rw [checkB]
 cases hpv:nX p
 ·refine rpG ?_
  exact done hI rfl
 refine rpG ?_
 refine ao hI 0 aN rfl (by simpa [Value.cells] using hl) ?_
 refine Run.callPure jW jO hI (il h hw2) fun w' hI=>?_
 cases hv:dO x
 ·refine rpG ?_
  exact done hI rfl
 refine rpG ?_
 refine ao hI 0 aN rfl (by simpa [Value.cells] using hl) ?_
 refine Run.callPure sn tl hI (Dn hpv x 20 S u cs (tR hv) hp h) fun w' hI=>?_
 refine rpG ?_
 exact done hI rfl
end
end
section
open Go Go.RowKit
mutual
theorem MV:∀ (x:PF) (d e:Int),d<=e->mP x d=true->mP x e=true
 | .mk g c ks,d,e,h,hs=>by
  rw [mP,Bool.and_eq_true,Bool.and_eq_true,decide_eq_true_eq] at hs ⊢
  exact ⟨by omega,hs.2.1,Ko ks _ _ (by omega) hs.2.2⟩
theorem Ko:∀ (xs:List PF) (d e:Int),d<=e->nG xs d=true->nG xs e=true
 | [],_,_,_,_=>rfl
 | x::xs,d,e,h,hs=>by
  rw [nG,Bool.and_eq_true] at hs ⊢
  exact ⟨MV x d e h hs.1,Ko xs d e h hs.2⟩
end
theorem FV:∀ {ts:List PF} {t:PF},t∈ts->jH t<=fu ts
 | u::ts,t,h=>by
  rw [fu]
  have h1:=qe u
  have h2:=kK ts
  rcases List.mem_cons.1 h with rfl|h
  ·omega
  ·have:=FV h; omega
theorem IB {g:T} {c:Int} {ks:List PF} (h:dO (.mk g c ks)=true):ek g=true/\(-1<=c/\c<=19)/\ks.length<=6:=by
 have h:=tR h
 rw [mP,xu] at h
 simp only [Bool.and_eq_true,decide_eq_true_eq] at h
 exact ⟨h.2.1.1,h.2.1.2.1,h.2.1.2.2⟩
theorem CR {g:T} {c:Int} {ks:List PF} (h:dO (.mk g c ks)=true):∀ x∈ks,dO x=true:=by
 intro x hx
 rw [dO,Bool.and_eq_true,decide_eq_true_eq,jH] at h
 obtain ⟨_,_,hs⟩:=kI h.1
 have:=FV hx
 rw [dO,Bool.and_eq_true,decide_eq_true_eq]
 exact ⟨MV x _ _ (by omega) (hs x hx),by omega⟩
def psz (x:PF):Int:=if dO x=true then jH x else 0
theorem ND (x:PF):0<=psz x/\psz x<=60:=by
 rw [psz]
 split
 ·rename_i h
  rw [dO,Bool.and_eq_true,decide_eq_true_eq] at h
  have:=qe x
  omega
 ·omega
theorem E9 {p:List C}:∀ {xs:List PF},chkFL p xs=true->∀ x∈xs,chkF p x=true
 | y::xs,h,x,hx=>by
  rw [chkFL,Bool.and_eq_true] at h
  rcases List.mem_cons.1 hx with rfl|hx
  ·exact h.1
  ·exact E9 h.2 x hx
theorem LE {p:List C} {g:T} {c:Int} {ks:List PF} (h:checkB p (.mk g c ks)=true):∀ x∈ks,checkB p x=true:=by
 intro x hx
 rw [checkB,Bool.and_eq_true,Bool.and_eq_true] at h ⊢
 refine ⟨h.1,CR h.2.1 x hx,?_⟩
 have:=h.2.2
 rw [chkF,Bool.and_eq_true] at this
 exact E9 this.2 x hx
mutual
def mE (n:Nat):PF->Prop
 | .mk _ c ks=>(0<=c->c<n)/\jS n ks
def jS (n:Nat):List PF->Prop
 | []=>True
 | x::xs=>mE n x/\jS n xs
end
mutual
theorem JJ {p:List C}:∀ x:PF,chkF p x=true->mE p.length x
 | .mk g c ks,h=>by
  rw [chkF,Bool.and_eq_true] at h
  rw [mE]
  refine ⟨fun h0=>?_,FM ks h.2⟩
  have h1:=h.1
  rw [nodeC,if_neg (by omega)] at h1
  split at h1
  ·cases h1
  ·rename_i q hq
   have:=(List.getElem?_eq_some_iff.1 hq).1
   omega
theorem FM {p:List C}:∀ xs:List PF,chkFL p xs=true->jS p.length xs
 | [],_=>by rw [jS]; trivial
 | x::xs,h=>by
  rw [chkFL,Bool.and_eq_true] at h
  rw [jS]
  exact ⟨JJ x h.1,FM xs h.2⟩
end
end
section
open Go Go.RowKit
section
attribute [local irreducible] Run CondV aB aS
theorem uz {x:PF} {S:ae} {cs:List Value} (h:RdF S cs x):Pure Tryz.prog En [.agg cs.toArray] S (.int .i64 (psz x)):=by
 intro w hI
 have hl:=h.length
 refine qR.2 ?_
 dsimp only[qR,aL]
 refine bf hI fun b1 w' hI=>?_
 refine aD hI K2 fun b2 w' hI=>?_
 refine dA hI 1 (n:=1) rfl (by rw [av]; rfl) rfl (Nat.le_of_ble_eq_true rfl) (by simp [Value.cells]; rfl) fun w' hI=>?_
 refine ao hI 0 aN rfl (by simpa [Value.cells] using hl) ?_
 refine Run.call (A:=[_]) (I:=[eQ b2 0]) lO lj hI (pl x S cs 1 0 b2 h (by omega) (by omega) (by omega) (by omega)) fun v' I' S' w'=>?_
 rintro ⟨rfl,rfl,rfl⟩ _ hI
 refine bK ?_
 rw [qG]
 cases hv:dO x with
 | false=>
  refine az (fun _=>?_) (fun hb=>by cases hb)
  exact done hI (by rw [psz,hv,if_neg (by decide)])
 | true=>
  refine az (fun hb=>by cases hb) (fun _=>?_)
  have h2:=(wy x 1 0).2 (by rw [qG]; exact hv)
  rw [h2,Int.zero_add] at hI
  refine aA hI 1 av rfl rfl ?_
  exact done hI (by rw [psz,if_pos hv]; rfl)
end
end
section
open Go Go.RowKit
mutual
def usF:PF->List Bool->List Bool
 | .mk _ c ks,l=>nH ks (if 0<=c then l.set c.toNat true else l)
def nH:List PF->List Bool->List Bool
 | [],l=>l
 | x::xs,l=>nH xs (usF x l)
end
def uix:Nat->List Bool->List Int
 | _,[]=>[]
 | k,b::l=>if b=true then (k:Int)::uix (k+1) l else uix (k+1) l
def gF (x:PF):List Int:=if dO x=true then uix 0 (usF x (List.replicate 20 false)) else []
def g9:List Bool->Nat
 | []=>0
 | b::l=>(if b=true then 1 else 0)+g9 l
theorem Fd:∀ (l:List Bool) (m:Nat),g9 (l.set m true)<=g9 l+1
 | [],m=>by simp [g9]
 | b::l,0=>by rw [List.set_cons_zero,g9,g9,if_pos rfl]; omega
 | b::l,m+1=>by rw [List.set_cons_succ,g9,g9]; have:=Fd l m; omega
mutual
theorem rH:∀ (x:PF) (l:List Bool),(usF x l).length=l.length
 | .mk _ c ks,l=>by rw [usF,Js ks]; split <;> simp
theorem Js:∀ (xs:List PF) (l:List Bool),(nH xs l).length=l.length
 | [],l=>by rw [nH]
 | x::xs,l=>by rw [nH,Js xs,rH x]
end
mutual
theorem Gb:∀ (x:PF) (l:List Bool),(g9 (usF x l):Int)<=g9 l+jH x
 | .mk _ c ks,l=>by
  have h:=BF ks (if 0<=c then l.set c.toNat true else l)
  have h2:g9 (if 0<=c then l.set c.toNat true else l)<=g9 l+1:=by
   split
   ·exact Fd l _
   ·omega
  rw [usF,jH]
  omega
theorem BF:∀ (xs:List PF) (l:List Bool),(g9 (nH xs l):Int)<=g9 l+fu xs
 | [],l=>by rw [nH,fu]; omega
 | x::xs,l=>by
  have h1:=Gb x l
  have h2:=BF xs (usF x l)
  rw [nH,fu]
  omega
end
theorem AR:∀ (k:Nat) (l:List Bool),(uix k l).length=g9 l
 | k,[]=>rfl
 | k,b::l=>by
  rw [uix,g9]
  split
  ·rw [List.length_cons,AR (k+1) l]; omega
  ·rw [AR (k+1) l]; omega
theorem AV:∀ (k:Nat) (l:List Bool),∀ z∈uix k l,(k:Int)<=z/\z<k+l.length
 | k,[],z,h=>by cases h
 | k,b::l,z,h=>by
  rw [uix] at h
  rw [List.length_cons]
  split at h
  ·rcases List.mem_cons.1 h with h|h
   ·subst h; omega
   ·have:=AV (k+1) l z h; omega
  ·have:=AV (k+1) l z h; omega
theorem tE:∀ (k:Nat) (l:List Bool),(uix k l).Pairwise (·<·)
 | k,[]=>List.Pairwise.nil
 | k,b::l=>by
  rw [uix]
  split
  ·exact List.Pairwise.cons (fun z hz=>by have:=AV (k+1) l z hz; omega) (tE (k+1) l)
  ·exact tE (k+1) l
theorem NG (x:PF):∀ z∈gF x,0<=z/\z<20:=by
 intro z hz
 rw [gF] at hz
 split at hz
 ·have:=AV 0 _ z hz
  rw [rH,List.length_replicate] at this
  omega
 ·cases hz
theorem GR (x:PF):(gF x).Pairwise (·<·):=by
 rw [gF]
 split
 ·exact tE 0 _
 ·exact List.Pairwise.nil
theorem E0 (x:PF):((gF x).length:Int)<=psz x:=by
 rw [gF,psz]
 split
 ·rw [AR]
  have h:=Gb x (List.replicate 20 false)
  have h0:g9 (List.replicate 20 false)=0:=by decide
  omega
 ·simp
theorem Gc (ks:List PF) (j:Nat) (h:j<ks.length) (l:List Bool):nH (ks.drop j) l=nH (ks.drop (j+1)) (usF ks[j] l):=by
 rw [List.drop_eq_getElem_cons h,nH]
theorem EI {n:Nat}:∀ {xs:List PF},(∀ y∈xs,mE n y)->jS n xs
 | [],_=>by rw [jS]; trivial
 | x::xs,h=>by rw [jS]; exact ⟨h x (List.mem_cons_self ..),EI fun y hy=>h y (List.mem_cons_of_mem _ hy)⟩
theorem tY {n:Nat}:∀ {xs:List PF},jS n xs->∀ y∈xs,mE n y
 | [],_,y,h=>by cases h
 | x::xs,hu,y,h=>by
  rw [jS] at hu
  rcases List.mem_cons.1 h with h|h
  ·subst h; exact hu.1
  ·exact tY hu.2 y h
theorem BD:∀ x:PF,dO x=true->mE 20 x:=PF.ind fun g c ks ih h=>by
 rw [mE]
 have:=(IB h).2.1
 exact ⟨fun _=>by omega,EI fun y hy=>ih y hy (CR h y hy)⟩
section
variable {P:Program} {w w0:World} {X:List Nat} {L:List Item} {S:ae} {K:Value->World->Prop}
attribute [local irreducible] Run CondV aB aS
def flg (l:List Bool):Array Value:=(l.map Value.bool).toArray
theorem IM (l:List Bool):(flg l).size=l.length:=by simp [flg]
theorem Pu {T ty E:TypeId} {b m:Nat} {l:List Bool} (hI:Inv w0 X L S w) (i:Nat) (hi:L[i]?=some (.blk b (.cells (flg l) E))) (hT:iq P T=true) (hm:m<l.length)
  (hk:∀ w',Inv w0 X (L.set i (.blk b (.cells (flg (l.set m true)) E))) S w'->K undef w') :
  Run P (sOp (.store T (.const (.pointer (some ⟨b,0+m * 1,none⟩))) (.const (.bool true))) ty) w K:=by
 rw [Nat.zero_add,Nat.mul_one]
 refine dA hI i (n:=1) rfl (by rw [hT]; rfl) hi (by rw [IM]; omega) (by simp [Value.cells]; rfl) fun w' hI'=>hk w' ?_
 have e:bx (flg l) m (Value.bool true).cells.toList=flg (l.set m true):=by
  apply Array.toList_inj.1
  simp only [bx,flg,Value.cells,List.map_set]
  rw [List.set_eq_take_append_cons_drop,if_pos (by simpa using hm)]
  simp
 rw [e] at hI'
 exact hI'
def Jt (P:Program) (T:TypeId):Option (Nat × TypeId × Nat):=match P.underlying T with
 | some (.array n e)=>match P.info? e with
  | some i=>some (n,e,i.size)
  | none=>none
 | _=>none
theorem Hh {T ty E:TypeId} {n k b o i:Nat} (hT:Jt P T=some (n,E,k)) (hlt:i<n) (hk:K (.pointer (some ⟨b,o+i * k,none⟩)) w) :
  Run P (sOp (.indexAddr T (.const (.pointer (some ⟨b,o,none⟩))) (.const (.int .i64 i))) ty) w K:=by
 refine Run.of ?_ hk
 unfold Jt at hT
 split at hT <;> try cases hT
 rename_i m e hu
 cases hi:P.info? e with
 | none=>rw [hi] at hT; cases hT
 | some inf=>
  rw [hi] at hT
  simp only [Option.some.injEq,Prod.mk.injEq] at hT
  obtain ⟨rfl,rfl,rfl⟩:=hT
  simp [sOp,execOp,Instr.indexAt,Instr.sureAddr,asIntOf,run_underlying hu,ev0,evE,gX hi,hlt,jg]
theorem PX {T ty E:TypeId} {n i:Nat} {cs:Array Value} {v:Value} (hT:Jt P T=some (n,E,1)) (hE:P.underlying E=some .bool) (hlt:i<n) (hv:cs[i]?=some v) (hk:K v w) :
  Run P (sOp (.index T (.const (.agg cs)) (.const (.int .i64 i))) ty) w K:=by
 refine Run.of ?_ hk
 unfold Jt at hT
 split at hT <;> try cases hT
 rename_i m e hu
 cases hi:P.info? e with
 | none=>rw [hi] at hT; cases hT
 | some inf=>
  rw [hi] at hT
  simp only [Option.some.injEq,Prod.mk.injEq] at hT
  obtain ⟨rfl,rfl,h1⟩:=hT
  simp [sOp,execOp,Instr.index,asIntOf,run_underlying hu,ev0,evE,gX hi,hlt,h1,Go.part,isAgg,run_underlying hE,hv]
end
theorem CI:Jt Tryz.prog FN=some (20,CH,1):=by kernel_rfl
end
end Go.Proofs.YtfcbhfjomgopbaaGreat

/- spec: rounds and stages. -/
import Derived.Test.YtgllldjiaglkcaaGreatDoorZMa23
import Derived.Test.YtgllldjiaglkcaaGreatDoorZMa12
import Derived.Test.YtgllldjiaglkcaaGreatDoorZMa21
import Derived.Test.YtgllldjiaglkcaaGreatDoorZMa20
import Derived.Test.YtgllldjiaglkcaaGreatDoorZMa6
namespace Go.Proofs.YtgllldjiaglkcaaGreatDoor
section
open Go Go.RowKit
section
attribute [local irreducible] Run CondV aw aN
theorem JK {ts:List T} {S:af} {v:Value} (h:RdSl S 4 (RdT S) v ts) (hw:ts.length+wL ts<=1048576):Tri Tryz.prog OR [v] [] S (PC 4 TrT S ts):=by
 intro w hI
 refine yn.2 ?_
 dsimp only[yn,aL]
 refine eQ hI bj fun v0 w' hI=>?_
 refine ⟨fun i t w'=>∃ (k:Nat) (Ls:List bn) (css:List (List Value)),k<=ts.length/\i=.int .i64 k/\Grown 4 TrT Ls css (ts.take k)/\Inv w [] (aJ t ac 4 css::bv Ls.flatten) S w',
  fun i _ _=>ts.length - (intOf i).toNat,⟨0,[],[],be _,rfl,Grown.nil _ _,hI⟩,?_⟩
 intro t4 _ _ t3 _ _ _ _ _ _ _ _ _ _ _ _ w'
 rintro ⟨k,Ls,css,hk,rfl,hg,hI⟩
 refine aC h ae ?_
 refine bF ?_
 refine aI (fun hki=>?_) (fun hki=>?_)
 ·have hk':k<ts.length:=by omega
  have htl:(ts.take k).length=k:=by simp; omega
  have hcl:=hg.hc
  refine cE hI h ae ad hk' (fun _ _=>RdT.length) fun cs hcs=>?_
  have hm:=bA hk'
  have hwm:=jI hm
  refine Run.call0 fq fp hI (fY _ S cs hcs (by omega)) fun v' I' S' w'=>?_
  rintro ⟨rfl,cs',L,rfl,rfl,hT⟩ _ hI
  refine dD hI 0 cs' bj (by omega) (by omega) rfl hT.length hT.one (by omega) (by omega) fun v' w' hI=>?_
  refine bq (by omega) ?_
  refine ⟨⟨k+1,Ls++[L],css++[cs'],hk',rfl,?_,?_⟩,by simp [intOf]; omega⟩
  ·rw [fj hk']
   exact hg.snoc hT hT.length
  ·simp only [wc,iE,tM,dB,eC]
   exact hI
 ·have:k=ts.length:=by omega
  subst this
  rw [fk] at hg
  obtain ⟨L,hT,hI⟩:=Inv.rowTree (A:=[]) hI hg
  exact ⟨_,_,_,rfl,hI,Ext.refl _ _ _,rfl,_,rfl,hT⟩
theorem Gk {p:List C} {f:List T} {S:af} {v u:Value} (h:RdSl S 5 (RdC S) v p) (hq:RdSl S 4 (RdT S) u f) (hp:Pf p) (hf:Fs f) (hl:f.length<=61) :
  Tri Tryz.prog LV [v,u] [] S (WJ (eU p f)):=by
 intro w hI
 have hlen:=hp.len
 have hI:Inv w [] [] S w:=hI
 refine wn.2 ?_
 dsimp only[wn,aZ]
 refine ⟨fun i t w'=>∃ (j:Nat) (S':af),j<=p.length/\i=.int .i64 j/\Ext w.heap.size [] S S'/\RdSl S' 4 (RdT S') t ((eK (p.take j) f).foldl jN f)/\Inv w [] [] S' w',
  fun i _ _=>p.length - (intOf i).toNat,⟨0,S,be _,rfl,Ext.refl _ _ _,hq,hI⟩,?_⟩
 intro t6 _ _ t5 t21 t20 t19 t18 t17 t16 t15 t14 _ _ _ _ w'
 rintro ⟨j,S',hj,rfl,hE,hout,hI⟩
 have h':=h.monoC hE.1
 have hq':=hq.monoT hE.1
 refine aC h' cD ?_
 refine bF ?_
 refine aI (fun hji=>?_) (fun hji=>?_)
 ·have hj':j<p.length:=by omega
  obtain ⟨hp1,hp2,hp3⟩:=hp.parts _ (bA hj')
  obtain ⟨out,ho⟩:∃ out,out=(eK (p.take j) f).foldl jN f:=⟨_,rfl⟩
  obtain ⟨l,hle⟩:∃ l,l=(eK (p.take (j+1)) f).foldl jN f:=⟨_,rfl⟩
  have hbl:lM p[j].head f p[j].body out st0=l:=by
   rw [hle,xl p f j hj',TY,<- ho,AP]
  have hFo:=Co (hp.take j) hf
  have hlo:=xu (p.take j) f hl
  have ho':out=eU (p.take j) f:=ho
  rw [<- ho'] at hFo hlo
  rw [<- ho] at hout
  obtain ⟨b,o,cap,c,E,fz,rfl,hS,hR⟩:=h'.at_ hj'
  refine ⟨fun D x5 sv nj lS rK jY l5 sQ Ap w_=>Fx D 0 [Ap=t5,sQ=.slice (some ⟨b,o,none⟩) p.length cap,l5=.int .i64 j,jY=.pointer (some ⟨b,o+j * 5,none⟩),rK=.agg (aO c (o+j * 5) 5).toArray,lS=u,True,True,True]/\∃ SN,Ext w.heap.size [] S' SN/\(D 8=true->D 0=true)/\(D 8=false->x5=t5)/\(D 6=true->IsKn SN nj st0)/\(D 7=true->RdSl SN 4 (RdT SN) sv l)/\(D 8=true->RdSl SN 4 (RdT SN) x5 l)/\Inv w [] [] SN w_,⟨Fx.nil _ _,⟨S',Ext.refl _ _ _,ba,fun _=>rfl,ba,ba,ba,hI.draw⟩⟩,⟨?_,?_,?_,?_,?_,?_,?_,?_,?_,trivial⟩,?_⟩
  all_goals (intro D bP; intros; rename_i x5 sv nj lS rK jY l5 sQ Ap w_ hA_; have hF_:=hA_.1; obtain ⟨⟨cm,cj,cd,ci,bT,ct,bZ,cR,dq,_⟩,⟨SN,hN,k8,e5,e6,e7,e8,hI⟩⟩:=hA_)
  ·have hx5:x5=t5:=e5 (by cases h:D 8 with|false=>rfl|true=>have:=k8 h; rw [this] at bP; exact bP)
   have k8:=fun (_:aF D 0 8=true)=>(rfl:aF D 0 0=true)
   exact ⟨hF_.set 0 (by first|assumption|trivial),⟨SN,hN,k8,e5,e6,e7,e8,hI⟩⟩
  ·exact ⟨hF_.set 1 rfl,⟨SN,hN,k8,e5,e6,e7,e8,hI⟩⟩
  ·exact ⟨hF_.set 2 rfl,⟨SN,hN,k8,e5,e6,e7,e8,hI⟩⟩
  ·obtain rfl:=cj ‹_›
   obtain rfl:=cd ‹_›
   refine aD cD hj' ?_
   exact ⟨hF_.set 3 rfl,⟨SN,hN,k8,e5,e6,e7,e8,hI⟩⟩
  ·obtain rfl:=ci ‹_›
   refine bK bz hR.length (fun j v hj=>by rw [hI.cellS (hN.1 _ _ hS)]; exact aK rfl j v hj) ?_
   exact ⟨hF_.set 4 rfl,⟨SN,hN,k8,e5,e6,e7,e8,hI⟩⟩
  ·exact ⟨hF_.set 5 rfl,⟨SN,hN,k8,e5,e6,e7,e8,hI⟩⟩
  ·refine M9 (n:=26) hI bj (by omega) (by omega) (by omega) fun kb w_ hI=>?_
   have hkc0:=YV _ rfl SN
   obtain ⟨kc,hkce⟩:∃ kc,kc=(Array.range 104).map ((#[.int .i64 0,.int .i64 0,.string ⟨#[]⟩,.slice none 0 0]:Array Value)[· % (#[.int .i64 0,.int .i64 0,.string ⟨#[]⟩,.slice none 0 0]:Array Value).size]!):=⟨_,rfl⟩
   rw [<- hkce] at hkc0
   have hI:Inv w [] ([]++bv [(kb,.cells kc ac)]) SN w_:=by rw [hkce]; exact hI
   obtain ⟨SN,hI,hE2,hins⟩:=hI.pubExt
   have e7:=fun (e:aF D 6 7=true)=>(e7 e).monoT hE2.1
   have e8:=fun (e:aF D 6 8=true)=>(e8 e).monoT hE2.1
   have hN:=hN.trans hE2
   have e6:=fun (_:aF D 6 6=true)=>(⟨kb,26,kc,rfl,aR _,by simp [maxLen],hins _ (bL.2 rfl),hkc0.mono hE2.1⟩:IsKn SN (kvn kb 26) st0)
   exact ⟨hF_.set 6 (by first|assumption|trivial),⟨SN,hN,k8,e5,e6,e7,e8,hI⟩⟩
  ·have g0_:=cm ‹_›
   obtain rfl:=bT ‹_›
   obtain rfl:=ct ‹_›
   have Q4:=bZ ‹_›
   refine Run.call0E yw x3 hI (JG p[j] f hp1 hf.fct hp2 p[j].body 0 (by simp) rfl SN _ _ _ _ out st0 (hR.mono hN.1) (by rw [g0_]; exact hout.monoT hN.1) (hq'.monoT hN.1) (e6 ‹D 6=true›) Pz hp3 hFo.okO (by omega)) fun v' I' SN w_=>?_
   rw [hbl]
   rintro ⟨rfl,hr⟩ hE2 hI
   have e6:=fun (e:aF D 7 6=true)=>(e6 e).mono hE2.1
   have e8:=fun (e:aF D 7 8=true)=>(e8 e).monoT hE2.1
   have hN:=hN.trans hE2
   have e7:=fun (_:aF D 7 7=true)=>hr
   exact ⟨hF_.set 7 (by first|assumption|trivial),⟨SN,hN,k8,e5,e6,e7,e8,hI⟩⟩
  ·have N2:=cR ‹_›
   have k8:=fun (_:aF D 8 8=true)=>‹D 0=true›
   have e5:=fun (h:aF D 8 8=false)=>(Bool.noConfusion h:sv=t5)
   have e8:=fun (_:aF D 8 8=true)=>e7 ‹D 7=true›
   exact ⟨hF_.set 8 (by first|assumption|trivial),⟨SN,hN,k8,e5,e6,e7,e8,hI⟩⟩
  obtain ⟨g0_,rfl,rfl,rfl,rfl,rfl,Q4,N2,Q3,_⟩:=hF_.all
  have LK:D 8=true:=by assumption
  clear hF_ cm cj cd ci bT ct bZ cR dq
  have hx:=e8 LK
  have hE2:=hE.trans hN
  clear e5 e6 e7 e8
  refine bq (by omega) ?_
  rw [hle] at hx
  exact ⟨⟨j+1,SN,hj',rfl,hE2,hx,hI⟩,by simp [intOf]; omega⟩
 ·have:j=p.length:=by omega
  subst this
  rw [fk] at hout
  exact ⟨_,_,_,rfl,hI,hE,rfl,hout⟩
theorem Hs {p:List C} {S:af} {v:Value} (h:RdSl S 5 (RdC S) v p) (hp:Pf p) (k:Nat) (hk:k<=61) :
  Tri Tryz.prog NT [v,.int .i64 k] [] S fun r I' S'=>I'=[]/\∃ x,r=.tuple #[x,.int .i64 ((stS p k [] 0).2:Nat)]/\RdSl S' 4 (RdT S') x (stS p k [] 0).1:=by
 intro w hI
 have hI:Inv w [] [] S w:=hI
 refine v7.2 ?_
 dsimp only[v7,aZ]
 refine eQ hI bj fun v0 w' hI=>?_
 obtain ⟨S1,hE1,hrd,hI⟩:=Inv.lendExt (A:=[]) (css:=[]) hI
 have hr0:=RowRd.rows (Rows.nil 4 (RdT S1)) hrd
 refine ⟨fun i t w'=>∃ (n:Nat) (f:List T) (S':af),i=.int .i64 n/\n<=k/\RdSl S' 4 (RdT S') t f/\Fs f/\f.length<=61/\stS p (k - n) f n=stS p k [] 0/\Ext w.heap.size [] S S'/\Inv w [] [] S' w',
  fun i _ _=>k - (intOf i).toNat,⟨0,[],S1,rfl,be _,hr0,Fs.nil,by simp,rfl,hE1,hI⟩,?_⟩
 intro t7 _ _ t6 _ _ _ _ _ _ _ _ _ _ _ _ _ _ _ _ _ _ _ _ _ _ w'
 rintro ⟨n,f,S',rfl,hnk,hq,hF,hl,hst,hE,hI⟩
 refine bF ?_
 refine aI (fun hnk'=>?_) (fun hnk'=>?_)
 ·have hnk2:n<k:=by omega
  rw [show k - n=(k - (n+1))+1 by omega,stS] at hst
  refine Run.call0E IA IK hI (Gk (h.monoC hE.1) hq hp hF hl) fun x I' S2 w'=>?_
  rintro ⟨rfl,hx⟩ hE2 hI
  have hI:Inv w [] [] S2 w':=hI
  have hE3:=hE.trans hE2
  refine ⟨fun t w'=>t=.bool (decide ((eU p f).length=f.length ∨ 60<f.length))/\Inv w [] [] S2 w',?_,?_⟩
  ·refine aC hx ae ?_
   refine aC (hq.monoT hE2.1) ae ?_
   refine bo ?_
   by_cases he:(eU p f).length=f.length
   ·rw [aM (show (((eU p f).length:Nat):Int)=((f.length:Nat):Int) by omega)]
    refine rpG ?_
    refine ⟨?_,hI⟩
    rw [aM (Or.inl he)]
   ·rw [aW (show ¬ (((eU p f).length:Nat):Int)=((f.length:Nat):Int) by omega)]
    refine rpG ?_
    refine aC (hq.monoT hE2.1) ae ?_
    refine dC ?_
    refine rpG ?_
    refine ⟨?_,hI⟩
    congr 1
    rw [mP,bk,bk]
    omega
  ·intro t _ _ _ _ _ _ _ _ _ w'
   rintro ⟨rfl,hI⟩
   refine aI (fun hc=>?_) (fun hc=>?_)
   ·rw [ai hc] at hst
    rw [<- hst]
    exact ⟨_,_,_,rfl,hI,hE3,rfl,_,rfl,hq.monoT hE2.1⟩
   ·rw [ah hc] at hst
    refine bq (by omega) ?_
    exact ⟨⟨n+1,_,S2,rfl,hnk2,hx,Co hp hF,(xu p f hl).2,hst,hE3,hI⟩,by simp [intOf]; omega⟩
 ·have:n=k:=by omega
  subst this
  rw [eD,stS] at hst
  rw [<- hst]
  exact ⟨_,_,_,rfl,hI,hE,rfl,_,rfl,hq⟩
theorem xq {p:List C} {S:af} {v:Value} (h:RdSl S 5 (RdC S) v p) (hw:wP p<=1048576) (r:Int) :
  Tri Tryz.prog GV [v,.int .i64 r] [] S (BP (bU p r).1 (bU p r).2):=by
 intro w hI
 have hI:Inv w [] [] S w:=hI
 have hno:∀ (S':af) (w':World),Ext w.heap.size [] S S'->Inv w [] [] S' w'->Run Tryz.prog (bE cr 0 []) w' fun t w2=>∃ v I' S',Ending.returned (.tuple #[t,.bool false])=.returned v/\Inv w [] I' S' w2/\Ext w.heap.size [] S S'/\BP [] false v I' S':=by
  intro S' w' hE hI
  refine eQ hI bj fun v0 w' hI=>?_
  have hI:Inv w [] ([]++(aJ v0 ac 4 []::bv ([]:List bn).flatten)) S' w':=hI
  obtain ⟨L,hT,hI⟩:=Inv.rowTree hI (Grown.nil 4 TrT)
  exact ⟨_,_,_,rfl,hI,hE,_,L,rfl,rfl,hT⟩
 refine rH.2 ?_
 dsimp only[rH,aZ]
 refine ⟨fun t w'=>t=.bool (!(fi p && !decide (r<0)))/\Inv w [] [] S w',?_,?_⟩
 ·refine Run.callPure Bg AO hI (xP h hw) fun w' hI=>?_
  refine bX ?_
  cases hv:fi p
  ·refine rpG ?_
   exact ⟨rfl,hI⟩
  ·refine rpG ?_
   refine bF ?_
   refine rpG ?_
   refine ⟨?_,hI⟩
   rw [dM,Bool.not_not]
 intro t _ _ _ _ _ _ w'
 rintro ⟨rfl,hI⟩
 refine az (fun hb=>?_) (fun hb=>?_)
 ·have hb':(fi p && !decide (r<0))=false:=by rwa [js] at hb
  have e:bU p r=([],false):=by rw [bU,ah (by rw [hb']; decide)]
  rw [e]
  exact hno _ _ (Ext.refl _ _ _) hI
 have hb':(fi p && !decide (r<0))=true:=by rwa [uk] at hb
 have hb2:=hb'
 rw [bw] at hb2
 have hr0:0<=r:=by
  have:=hb2.2
  simp at this
  exact this
 have hp:=iG hb2.1
 have hfu:gT r<=61:=by unfold gT; split <;> omega
 have hsF:=Hq hp (gT r) [] 0 Fs.nil (by simp)
 refine ⟨fun t w'=>t=.int .i64 (gT r)/\Inv w [] [] S w',?_,?_⟩
 ·refine dC ?_
  refine aI (fun hg=>⟨?_,hI⟩) (fun hg=>⟨?_,hI⟩)
  ·rw [gT,ai hg]; rfl
  ·rw [gT,ah hg,mD hr0]
 intro t _ _ w'
 rintro ⟨rfl,hI⟩
 refine Run.call0E Jw IF hI (Hs h hp (gT r) hfu) fun v' I' S2 w'=>?_
 rintro ⟨rfl,x,rfl,hx⟩ hE hI
 have hI:Inv w [] [] S2 w':=hI
 refine aq rfl ?_
 refine aq rfl ?_
 refine aC hx ae ?_
 refine dC ?_
 refine aI (fun hg=>?_) (fun hg=>?_)
 ·have e:bU p r=([],false):=by rw [bU,ai hb',ah (by omega)]
  rw [e]
  exact hno _ _ hE hI
 ·have e:bU p r=((stS p (gT r) [] 0).1,true):=by rw [bU,ai hb',ai (by omega)]
  have hw':=hsF.1.w
  rw [e]
  refine Run.call0E M2 M1 hI (JK hx (by omega)) fun v' I' S3 w'=>?_
  rintro ⟨rfl,L,rfl,hT⟩ hE2 hI
  have hI:Inv w [] (bv L) S3 w':=hI
  exact ⟨_,_,_,rfl,hI,hE.trans hE2,_,L,rfl,rfl,hT⟩
theorem mI {p:List C} {S:af} {v:Value} (h:RdSl S 5 (RdC S) v p) (hw:wP p<=1048576) :
  Tri Tryz.prog G0 [v] [] S (BP (bU p 61).1 (bU p 61).2):=by
 intro w hI
 have hI:Inv w [] [] S w:=hI
 refine rL.2 ?_
 dsimp only[rL,aL]
 refine Run.call0E EC EW hI (xq h hw 61) fun v' I' S2 w'=>?_
 rintro ⟨u,L,rfl,rfl,hT⟩ hE hI
 have hI:Inv w [] (bv L) S2 w':=hI
 refine aq rfl ?_
 refine aq rfl ?_
 exact ⟨_,_,_,rfl,hI,hE,_,L,rfl,rfl,hT⟩
end
end
section
open Go Go.RowKit
section
variable {S:af} {ys:List Nat} {v:Value}
attribute [local irreducible] Run CondV aw aN
theorem Ix {t:T} {cs ds:List Value} (h:RdT S cs t) (g:RdT S ds t):Pure Tryz.prog lV [.agg cs.toArray,.agg ds.toArray] S (.bool true):=by
 have:=ib t t S cs ds h g
 rwa [WB] at this
theorem wE {l:List T} {u v:Value} (h:RdSl S 4 (RdT S) u l) (g:RdSl S 4 (RdT S) v l):Pure Tryz.prog PP [u,v] S (.bool true):=by
 intro w hI
 have hlen:=h.le
 simp only [maxLen] at hlen
 refine AB.2 ?_
 dsimp only[AB,aZ]
 refine aC h ae ?_
 refine aC g ae ?_
 refine ei ?_
 refine az (fun hb=>by simp at hb) (fun _=>?_)
 refine ⟨fun i w'=>∃ k:Nat,k<=l.length/\i=.int .i64 k/\Inv w [] [] S w',fun i _=>l.length - (intOf i).toNat,⟨0,be _,rfl,hI⟩,?_⟩
 intro t5 _ _ _ t26 t25 t24 t23 t22 t21 t20 t19 t18 t17 _ _ _ _ w'
 rintro ⟨k,hk,rfl,hI⟩
 refine aC h ae ?_
 refine bF ?_
 refine aI (fun hki=>?_) (fun hki=>done hI rfl)
 have hk':k<l.length:=by omega
 obtain ⟨b,o,cap,c,E,fz,rfl,hS,hR⟩:=h.at_ hk'
 obtain ⟨b2,o2,cap2,c2,E2,fz2,rfl,hS2,hR2⟩:=g.at_ hk'
 refine ⟨fun D lE fF kU tA tR sv nj lS rK jY w_=>Fx D 0 [jY=.slice (some ⟨b,o,none⟩) l.length cap,rK=.int .i64 k,lS=.pointer (some ⟨b,o+k * 4,none⟩),nj=.agg (aO c (o+k * 4) 4).toArray,sv=.slice (some ⟨b2,o2,none⟩) l.length cap2,tR=.int .i64 k,tA=.pointer (some ⟨b2,o2+k * 4,none⟩),kU=.agg (aO c2 (o2+k * 4) 4).toArray,fF=.bool true,lE=.bool false]/\Inv w [] [] S w_,⟨Fx.nil _ _,hI.draw⟩,⟨?_,?_,?_,?_,?_,?_,?_,?_,?_,?_,trivial⟩,?_⟩
 all_goals (intro D bP; intros; rename_i lE fF kU tA tR sv nj lS rK jY w_ hA_; have hF_:=hA_.1; obtain ⟨⟨cm,cj,cd,ci,bT,ct,bZ,cR,dq,er,_⟩,hI⟩:=hA_)
 ·exact ⟨hF_.set 0 rfl,hI⟩
 ·exact ⟨hF_.set 1 rfl,hI⟩
 ·obtain rfl:=cm ‹_›
  obtain rfl:=cj ‹_›
  refine aD ae hk' ?_
  exact ⟨hF_.set 2 rfl,hI⟩
 ·obtain rfl:=cd ‹_›
  refine bK ad hR.length (fun j v hj=>by rw [hI.cellS hS]; exact aK rfl j v hj) ?_
  exact ⟨hF_.set 3 rfl,hI⟩
 ·exact ⟨hF_.set 4 rfl,hI⟩
 ·exact ⟨hF_.set 5 rfl,hI⟩
 ·obtain rfl:=bT ‹_›
  obtain rfl:=ct ‹_›
  refine aD ae hk' ?_
  exact ⟨hF_.set 6 rfl,hI⟩
 ·obtain rfl:=bZ ‹_›
  refine bK ad hR2.length (fun j v hj=>by rw [hI.cellS hS2]; exact aK rfl j v hj) ?_
  exact ⟨hF_.set 7 rfl,hI⟩
 ·obtain rfl:=ci ‹_›
  obtain rfl:=cR ‹_›
  refine Run.callPure iH iD hI (Ix hR hR2) fun w_ hI=>?_
  exact ⟨hF_.set 8 rfl,hI⟩
 ·obtain rfl:=dq ‹_›
  refine bX ?_
  exact ⟨hF_.set 9 rfl,hI⟩
 obtain ⟨rfl,rfl,rfl,rfl,rfl,rfl,rfl,rfl,rfl,rfl,_⟩:=hF_.all
 clear hF_ cm cj cd ci bT ct bZ cR dq er
 refine az (fun hb=>by cases hb) (fun _=>?_)
 refine bq (by omega) ?_
 exact ⟨⟨k+1,hk',rfl,hI⟩,by simp [intOf]; omega⟩
theorem yP {l:List T} {x:T} {u:Value} {ds:List Value} (h:RdSl S 4 (RdT S) u l) (hx:RdT S ds x) (hm:x∈l):Pure Tryz.prog Sc [u,.agg ds.toArray] S (.bool true):=by
 intro w hI
 have hlen:=h.le
 simp only [maxLen] at hlen
 have hl4:=hx.length
 refine CV.2 ?_
 dsimp only[CV,aZ]
 refine bt hI fun b3 w' hI=>?_
 have hI:Inv w [] [.blk b3 (.cells ds.toArray ac)] S w':=hI
 refine ⟨fun i w'=>∃ k:Nat,k<=l.length/\i=.int .i64 k/\VV (l.drop k) x=true/\Inv w [] [.blk b3 (.cells ds.toArray ac)] S w',fun i _=>l.length - (intOf i).toNat,⟨0,be _,rfl,(PH _ _).2 hm,hI⟩,?_⟩
 intro t5 _ _ _ t17 t16 t15 t14 t13 t12 _ _ _ _ w'
 rintro ⟨k,hk,rfl,hrel,hI⟩
 refine aC h ae ?_
 refine bF ?_
 refine aI (fun hki=>?_) (fun hki=>?_)
 ·have hk':k<l.length:=by omega
  have hstep:VV (l.drop k) x=(eqT l[k] x || VV (l.drop (k+1)) x):=yt _ l k hk'
  obtain ⟨b,o,cap,c,E,fz,rfl,hS,hR⟩:=h.at_ hk'
  refine ⟨fun D jY l5 sQ Ap wH vZ w_=>Fx D 0 [vZ=.slice (some ⟨b,o,none⟩) l.length cap,wH=.int .i64 k,Ap=.pointer (some ⟨b,o+k * 4,none⟩),sQ=.agg (aO c (o+k * 4) 4).toArray,l5=.agg ds.toArray,jY=.bool (eqT l[k] x)]/\Inv w [] [.blk b3 (.cells ds.toArray ac)] S w_,⟨Fx.nil _ _,hI.draw⟩,⟨?_,?_,?_,?_,?_,?_,trivial⟩,?_⟩
  all_goals (intro D bP; intros; rename_i jY l5 sQ Ap wH vZ w_ hA_; have hF_:=hA_.1; obtain ⟨⟨cm,cj,cd,ci,bT,ct,_⟩,hI⟩:=hA_)
  ·exact ⟨hF_.set 0 rfl,hI⟩
  ·exact ⟨hF_.set 1 rfl,hI⟩
  ·obtain rfl:=cm ‹_›
   obtain rfl:=cj ‹_›
   refine aD ae hk' ?_
   exact ⟨hF_.set 2 rfl,hI⟩
  ·obtain rfl:=cd ‹_›
   refine bK ad hR.length (fun j v hj=>by rw [hI.cellS hS]; exact aK rfl j v hj) ?_
   exact ⟨hF_.set 3 rfl,hI⟩
  ·refine ar hI 0 ad rfl (by simpa using hl4) ?_
   exact ⟨hF_.set 4 rfl,hI⟩
  ·obtain rfl:=ci ‹_›
   obtain rfl:=bT ‹_›
   refine Run.callPure iH iD hI (ib _ _ S _ _ hR hx) fun w_ hI=>?_
   exact ⟨hF_.set 5 rfl,hI⟩
  obtain ⟨rfl,rfl,rfl,rfl,rfl,rfl,_⟩:=hF_.all
  clear hF_ cm cj cd ci bT ct
  refine az (fun hb=>done hI rfl) (fun hb=>?_)
  refine bq (by omega) ?_
  exact ⟨⟨k+1,hk',rfl,by rw [hstep,hb,fL] at hrel; exact hrel,hI⟩,by simp [intOf]; omega⟩
 ·have:k=l.length:=by omega
  subst this
  rw [dL] at hrel
  cases hrel
theorem R3 {p:List C} (h:fi p=true) {c:C} (hc:c∈p) {g:T} (hg:g∈c.body):cF g=true:=by
 rw [fi,bw,dE] at h
 have:=h.2 c hc
 rw [gL] at this
 simp only [bw,dE] at this
 have:=this.2.2.1 g hg
 rw [eJ,bw] at this
 exact this.2
end
end
section
open Go Go.RowKit
theorem XD {τ:Int->T} {F:T->T}:∀ {ks:List T},(∀ y∈ks,F y=sbT τ y)->ks.map F=sbL τ ks
 | [],_=>rfl
 | k::ks,h=>by
  rw [lx,sbL,h k (aT ..),XD fun y hy=>h y (aS _ hy)]
theorem ada {x:T} (h:x.kind=3) (ho:dS x=true):x.n=0:=by
 unfold dS at ho
 rw [ah (by omega),ah (by omega),ai h] at ho
 simp only [bw,bk] at ho
 exact ho.1
theorem UC {hd:T} {st:ao} {τ:Int->T} (hh:Gl hd) (hb:∀ y∈hd.kids,y.kind=1->bnd st y.n) (ha:Agk τ st):r5 hd st=sbT τ hd:=by
 have hk:=hh.1
 rw [eH τ (by omega),r5,ada hk hh.2.1]
 congr 1
 refine XD fun y hy=>?_
 obtain ⟨ho,hks⟩:=hh.2.2 y hy
 by_cases h1:y.kind=1
 ·obtain ⟨t,ht⟩:=hb y hy h1
  have h0:=(Kw ho h1).1
  have e:=ha y.n.toNat t ht
  rw [mD h0] at e
  rw [jF,ai h1,vj,ht,iN τ h1,e]
 ·rw [jF,ah h1,eH τ h1,hks]
  cases y
  simp only [T.kids] at hks
  subst hks
  rfl
theorem vd {hd:T} {facts:List T} (hh:Gl hd) (hfs:∀ f∈facts,Fct f):∀ (gs:List T) (st:ao),(∀ g∈gs,Gl g)->StF st->kB hd gs st->∀ y,y∈eh hd facts gs st↔∃ τ,Agk τ st/\(∀ g∈gs,sbT τ g∈facts)/\y=sbT τ hd
 | [],st,_,hst,hc,y=>by
  have hb:∀ y∈hd.kids,y.kind=1->bnd st y.n:=fun y hy hk=>by
   rcases hc y hy hk with h|⟨g,hg,_⟩
   ·exact h
   ·cases hg
  rw [eh,bL]
  constructor
  ·rintro rfl
   exact ⟨_,NB st,fun g hg=>(by cases hg),UC hh hb (NB st)⟩
  ·rintro ⟨τ,ha,_,rfl⟩
   exact (UC hh hb ha).symm
 | g::gs,st,hgs,hst,hc,y=>by
  have hg:=hgs g (aT ..)
  have hgs':∀ x∈gs,Gl x:=fun x hx=>hgs x (aS _ hx)
  have hge:=fun f=>pw g f st hg.ok.1
  rw [eh,oT]
  constructor
  ·rintro ⟨f,hf,hx⟩
   split at hx
   ·rename_i hm
    obtain ⟨τ,h1,h2,h3⟩:=(vd hh hfs gs _ hgs' (iS hg (hfs f hf) hst).1 (jb hc hg (hfs f hf) hst hm) y).1 hx
    have e:=qG τ g f st hg.ok.1 hst.1 hm h1
    refine ⟨τ,h1.less (hge f),fun x hx=>?_,h3⟩
    rcases bG.1 hx with rfl|hx
    ·rw [e]; exact hf
    ·exact h2 x hx
   ·cases hx
  ·rintro ⟨τ,h1,h2,h3⟩
   have hf:=h2 g (aT ..)
   obtain ⟨hm,ha⟩:=qJ τ g (sbT τ g) st hg.ok.1 hst.1 h1 rfl
   refine ⟨sbT τ g,hf,?_⟩
   rw [ai hm]
   exact (vd hh hfs gs _ hgs' (iS hg (hfs _ hf) hst).1 (jb hc hg (hfs _ hf) hst hm) y).2 ⟨τ,ha,fun x hx=>h2 x (aS _ hx),h3⟩
theorem K5 {p:List C} {m:List T} (hp:Pf p) (hm:∀ f∈m,Fct f) (y:T):y∈eK p m↔∃ c∈p,∃ τ,(∀ g∈c.body,sbT τ g∈m)/\y=sbT τ c.head:=by
 rw [eK,oT]
 constructor
 ·rintro ⟨c,hc,hy⟩
  obtain ⟨h1,h2,h3⟩:=hp.parts c hc
  obtain ⟨τ,_,q2,q3⟩:=(vd h1 hm c.body st0 h2 Pz h3 y).1 hy
  exact ⟨c,hc,τ,q2,q3⟩
 ·rintro ⟨c,hc,τ,q2,q3⟩
  obtain ⟨h1,h2,h3⟩:=hp.parts c hc
  exact ⟨c,hc,(vd h1 hm c.body st0 h2 Pz h3 y).2 ⟨τ,UG τ,q2,q3⟩⟩
theorem QH (p:List C):∀ (k:Nat) (f:List T) (n:Nat),(∀ y∈f,y∈eK p f)->∀ y∈(stS p k f n).1,y∈eK p (stS p k f n).1
 | 0,f,n,h=>h
 | k+1,f,n,h=>by
  rw [stS]
  split
  ·exact h
  ·refine QH p k _ _ fun y hy=>?_
   refine Rb (fun x hx=>Hr p f hx) ?_
   rcases La hy with hy|hy
   ·exact h y hy
   ·exact hy
def ni (g:T) (vs:List T):T:=sbT (fun n=>vs.getD (sS (bM [g] []) n).toNat zT) g
def k7 (_:Int):T:=.mk 7 0 emptyB []
theorem MF {σ:Int->T}:∀ {ts:List T} {t:T},t∈ts->sbT σ t∈sbL σ ts
 | x::ts,t,h=>by
  rw [sbL]
  rcases bG.1 h with rfl|h
  ·exact aT ..
  ·exact aS _ (MF h)
theorem VE {y:T} (h:DX y):y.kind=2 ∨ y.kind=3:=by
 obtain ⟨h1,_,h3⟩:=h
 unfold dS at h1
 rw [ah h3] at h1
 split at h1
 ·exact .inl ‹_›
 ·split at h1
  ·exact .inr ‹_›
  ·cases h1
theorem SW {a:T} (hk:a.kind=3) (h:Fct (sbT k7 a)):(∀ y∈a.kids,y.kind≠1/\y.kids=[])/\∀ σ,sbT σ a=a:=by
 have hkid:∀ y∈a.kids,y.kind≠1/\y.kids=[]:=by
  intro y hy
  have hm:sbT k7 y∈(sbT k7 a).kids:=by
   rw [eH k7 (by omega)]
   exact MF hy
  have ha:=h.2.2 _ hm
  by_cases h1:y.kind=1
  ·rw [iN k7 h1] at ha
   have:(k7 y.n).kind=7:=rfl
   rcases VE ha with e|e <;> omega
  ·refine ⟨h1,?_⟩
   have:=ha.2.1
   rw [eH k7 h1] at this
   have e:(sbL k7 y.kids).length=0:=by
    show (T.kids (.mk y.kind y.n y.name (sbL k7 y.kids))).length=0
    rw [this]; rfl
   rw [kK] at e
   exact gr e
 refine ⟨hkid,fun σ=>?_⟩
 have:∀ ts:List T,(∀ y∈ts,y.kind≠1/\y.kids=[])->sbL σ ts=ts:=by
  intro ts
  induction ts with
  | nil=>intro _; rfl
  | cons t ts ih=>
   intro h
   obtain ⟨h1,h2⟩:=h t (aT ..)
   rw [sbL,ih fun y hy=>h y (aS _ hy),eH σ h1,h2]
   congr 1
   cases t
   simp only [T.kids] at h2
   subst h2
   rfl
 rw [eH σ (by omega),this a.kids hkid]
 cases a
 rfl
theorem abf {N:Nat} {g:T} (hg:okU N g) {n:Int} (hn:n∈bM [g] []) (hk:g.kind=3) (hl:∀ y∈g.kids,y.kind≠1->y.kids=[]):∃ y∈g.kids,y.kind=1/\y.n=n:=by
 have h1:n∈eI g []:=hn
 rw [<- Le g [] hg] at h1
 rcases (Hk g [] hg n).1 h1 with h|⟨m,hm,rfl⟩
 ·cases h
 rw [qr (by omega),nU] at hm
 obtain ⟨y,hy,hm⟩:=hm
 by_cases h1:y.kind=1
 ·rw [jx h1,bL] at hm
  have:=(kV hg.kids y hy).var h1
  exact ⟨y,hy,h1,by omega⟩
 ·rw [qr h1,hl y hy h1] at hm
  cases hm
theorem Ws {g:T} {σ τ:Int->T} (h:∀ n∈bM [g] [],σ n=τ n):sbT σ g=sbT τ g:=by
 have hin:=pF [g] []
 rw [inL] at hin
 have key:(∀ t:T,inT (bM [g] []) t->sbT σ t=sbT τ t):=by
  refine T.ind fun k n s ks ih hi=>?_
  rw [inT] at hi
  rw [sbT,sbT]
  by_cases hk:k=1
  ·rw [ai hk,ai hk,h n (hi.1 hk)]
  ·rw [ah hk,ah hk]
   congr 1
   have:∀ ts:List T,(∀ t∈ts,t∈ks)->inL (bM [g] []) ts->sbL σ ts=sbL τ ts:=by
    intro ts
    induction ts with
    | nil=>intro _ _; rfl
    | cons t ts ih2=>
     intro hs hi
     rw [inL] at hi
     rw [sbL,sbL,ih t (hs t (aT ..)) hi.1,ih2 (fun x hx=>hs x (aS _ hx)) hi.2]
   exact this ks (fun _ h=>h) hi.2
 exact key g hin.1
theorem X0 {st:ao} (hg:Good st.length st) {g:T} (hv:∀ n∈bM [g] [],0<=n/\n<st.length) {vs:List T} (h:ValsI st (bM [g] []) (some vs)) (κ:Int->T) :
  vs.length=(bM [g] []).length/\∃ σ,je σ st/\sbT σ g=sbT κ (ni g vs):=by
 obtain ⟨us,hus,hos⟩:=h
 have hul:=Fp hus
 rw [jH] at hul
 have hc:us.all cq=true/\(bM us []).length<=26:=Classical.byContradiction fun hc=>by
  rw [ah hc] at hos
  cases hos
 rw [ai hc] at hos
 cases hos
 obtain ⟨ws,hws⟩:∃ ws,ws=bM us []:=⟨_,rfl⟩
 have hwi:=pF us []
 rw [<- hws] at hwi ⊢
 have hlen:(gn ws us).length=(bM [g] []).length:=by rw [l8,hul]
 refine ⟨hlen,fun n=>sbT (fun m=>κ (sS ws m)) (sgR st n),YS hg _,?_⟩
 rw [ni,zp]
 refine Ws fun n hn=>?_
 obtain ⟨i,hi,he,hil⟩:=pD hn
 have hiu:i<us.length:=by omega
 have hii:i<(gn ws us).length:=by omega
 have hvn:(bM [g] [])[i]=n:=(fG.1 hi).2
 have hok:=s7 (hv n hn)
 have hr:=Ij hus i (by rw [jH]; exact hil) hiu
 rw [Ha,hvn] at hr
 have e1:us[i]=sgR st n:=(Tj (n:=n) hr).symm
 have hget:∀ (ts:List T) (j:Nat) (h:j<ts.length) (h':j<(gn ws ts).length),(gn ws ts)[j]=pk ws ts[j]:=by
  intro ts
  induction ts with
  | nil=>intro j h; simp at h
  | cons t ts ih=>
   intro j h h'
   cases j with
   | zero=>rfl
   | succ j=>exact ih j (by simpa using h) (by simpa [gn] using h')
 have hin:∀ (ts:List T),inL ws ts->∀ (j:Nat) (h:j<ts.length),inT ws ts[j]:=by
  intro ts
  induction ts with
  | nil=>intro _ j h; simp at h
  | cons t ts ih=>
   intro hi j h
   rw [inL] at hi
   cases j with
   | zero=>exact hi.1
   | succ j=>exact ih hi.2 j (by simpa using h)
 rw [he,cV,wF,fT hii,xc,hget us i hiu hii,<- e1]
 exact (TR (σ:=fun m=>κ (sS ws m)) (fun _ _=>rfl) us[i] (hin us hwi i hiu)).symm
theorem Jc {p:List C} {g:T} (h:(bU p 61).2=true) (hg:eX g=true) (hn:fw g=false) (hb:cz g=false) {most fuel:Nat} {r:List (List T) × Int} (hr:SolR p [g] most fuel r) :
  (∀ vs∈r.1,vs.length=(bM [g] []).length/\(∀ v∈vs,cn v=true)/\ni g vs∈(bU p 61).1)/\(r.2=0->∀ f∈(bU p 61).1,Aq f g=true->∃ vs∈r.1,ni g vs=f):=by
 obtain ⟨hf,_,hl,e⟩:=OZ h
 have hl:(gQ p).length<=60:=hl
 have e:(bU p 61).1=gQ p:=e
 rw [e]
 obtain ⟨m,hm⟩:∃ m,m=gQ p:=⟨_,rfl⟩
 have hF:=z6 hf
 have hpl:=Cz hf 61 [] 0 (by simp)
 have hcl:Cls p (·∈gQ p):=fun c hc τ hb=>vO hf hl ((K5 (iG hf) hF.fct _).2 ⟨c,hc,τ,hb,rfl⟩)
 have hsu:=QH p 61 [] 0 (by simp)
 have hsu:∀ y∈gQ p,y∈eK p (gQ p):=hsu
 have hpl:∀ y∈gQ p,cF y=true:=hpl
 rw [<- hm] at hF hcl hsu hpl ⊢
 have hpv:dx p=true:=by rw [fi,bw] at hf; exact hf.1
 have hpt:∀ t:T,cF t=true->plT t:=fun t h=>by
  obtain ⟨q1,q2⟩:=K1 h rfl
  rw [cF,bw,bk] at h
  exact ⟨h.1,q1,q2⟩
 have hbody:∀ cl∈p,∀ b∈cl.body,plT b:=fun cl hc b hbm=>hpt b (R3 hf hc hbm)
 have hg3:=mQ hg
 have hgp:plT g:=⟨hg3,hn,hb⟩
 have hval:=i9 hg
 have hou:=jZ hval
 have hfind:∀ t∈m,∃ i∈iz p t,Mt p (·∈m) t i:=fun t ht=>by
  obtain ⟨c,hc,τ,q1,q2⟩:=(K5 (iG hf) hF.fct t).1 (hsu t ht)
  obtain ⟨j,hj,hje⟩:=Ak hc
  have h3:=((iG hf).parts c hc).1.1
  have hd:=aai τ (t:=c.head) (by omega)
  rw [<- q2] at hd
  have:=Lm (fun c=>oI (db c.head) (db t)) p 0 j hj (by rw [hje,uU]; exact (nT hd).symm)
  rw [bR] at this
  exact ⟨(j:Int),this,c,τ,by rw [cV,fT hj,hje],q2.symm,q1⟩
 have hsupp:aaM p (·∈m):=by
  refine ⟨fun t ht _ _=>hfind t ht,fun st st' t c σ _ _ hbt _ hP _=>?_⟩
  have hk:t.kind≠1:=by have:=OX hbt; omega
  have h1:=(hpt _ (hpl _ hP)).2.2
  rw [jk (aai σ hk),hbt] at h1
  cases h1
 rcases hr with ⟨hb2,hr⟩|⟨hb2,rfl⟩
 ·rw [bw] at hb2
  obtain ⟨hv1,hv2,_⟩:=mu hb2.2
  have h26:26<=(gC [g]).st.length:=by show 26<=(List.replicate 26 (none:Option T)).length; simp
  have hA:∀ vs∈r.1,vs.length=(bM [g] []).length/\(∀ v∈vs,cn v=true)/\ni g vs∈m:=by
   refine hr.snd (M:=(·∈m)) (q:=g) hcl (kz hpv).1 hbody (p8 hb2.2 _) h26 (P8 fun t ht=>by rw [bL.1 ht]; exact hgp) ⟨fun σ _ hx=>hx g (by simp [gC]),fun c hc=>by cases hc⟩ _ (fun st vs hgd h26' hM hval'=>?_) (by simp)
   have hvr:∀ n∈bM [g] [],0<=n/\n<(st.length:Int):=fun n hn=>⟨(hv1 n hn).1,by have:=(hv1 n hn).2; omega⟩
   obtain ⟨q1,σ,q2,q3⟩:=X0 hgd hvr hval' k7
   have hin:=hM σ q2
   rw [q3] at hin
   have hak:(ni g vs).kind=3:=by rw [ni,eH _ (by omega)]; exact hg3
   obtain ⟨g1,g2⟩:=SW hak (hF.fct _ hin)
   rw [g2 k7] at hin
   refine ⟨q1,fun v hv=>?_,hin⟩
   obtain ⟨i,hi,rfl⟩:=Ak hv
   have hil:i<(bM [g] []).length:=by omega
   have hkey:∀ y∈g.kids,DX (sbT (fun n=>vs.getD (sS (bM [g] []) n).toNat zT) y):=fun y hy=>by
    refine (hF.fct _ hin).2.2 _ ?_
    rw [ni,eH _ (by omega)]
    exact MF hy
   obtain ⟨y,hy,hy1,hyn⟩:=abf hou (bA hil) hg3 fun y hy h1=>by
    have:=(hkey y hy).2.1
    rw [eH _ h1] at this
    have e:(sbL (fun n=>vs.getD (sS (bM [g] []) n).toNat zT) y.kids).length=0:=by
     show (T.kids (.mk y.kind y.n y.name (sbL _ y.kids))).length=0
     rw [this]; rfl
    rw [kK] at e
    exact gr e
   have ha:=hkey y hy
   have hnd:(bM [g] []).Nodup:=te _ _ Ia
   obtain ⟨j,hj,hje,hjl⟩:=pD (bA hil)
   have hij:j=i:=(List.getElem?_inj hjl hnd).1 (hj.trans (fT hil).symm)
   rw [iN _ hy1,hyn,hje,cV,hij,wF,fT hi,xc] at ha
   rw [cn,Gp ha 30 (by decide)]
   have:cY [vs[i]]=1:=Bf [vs[i]] fun y hy=>by rw [bL.1 hy]; exact ha
   simp only [cY] at this
   simp only [dM,bk]
   omega
  refine ⟨hA,fun h0 f hfm hi=>?_⟩
  rw [Aq,bw,bw] at hi
  obtain ⟨θ,hθ⟩:=(VQ (t:=g) (u:=f) ((yW hval).1)).1 hi.2.2
  have hs0:je θ (gC [g]).st:=fun n u hn=>by
   have hn:(List.replicate 26 (none:Option T))[n]?=some (some u):=hn
   rw [Ll] at hn
   split at hn <;> cases hn
  have hg0:∀ x∈(gC [g]).goals,sbT θ x.t∈m:=fun x hx=>by
   obtain ⟨t,ht,rfl⟩:=eF.1 hx
   rw [bL.1 ht]
   show sbT θ g∈m
   rw [hθ]
   exact hfm
  obtain ⟨vs,hvs,ρ,hρ⟩:=hr.cov (θ:=θ) (kz hpv).1 hsupp (fun cl hc b hbm=>⟨(hbody cl hc b hbm).1,(hbody cl hc b hbm).2.1⟩) hv1 (p8 hb2.2 _) (P8 fun t ht=>by rw [bL.1 ht]; exact ⟨hg3,hn⟩) (.inl ⟨h26,θ,hs0,fun n _=>rfl,hg0⟩) h0
  refine ⟨vs,hvs,?_⟩
  obtain ⟨q1,_,q3⟩:=hA vs hvs
  have hak:(ni g vs).kind=3:=by rw [ni,eH _ (by omega)]; exact hg3
  have hfa:=hF.fct _ q3
  have hgr:∀ σ,sbT σ (ni g vs)=ni g vs:=by
   intro σ
   rw [eH σ (by omega)]
   have:∀ ts:List T,(∀ y∈ts,DX y)->sbL σ ts=ts:=by
    intro ts
    induction ts with
    | nil=>intro _; rfl
    | cons t ts ih=>
     intro h
     obtain ⟨_,h2,h1⟩:=h t (aT ..)
     rw [sbL,ih fun y hy=>h y (aS _ hy),eH σ h1,h2]
     congr 1
     cases t
     simp only [T.kids] at h2
     subst h2
     rfl
   rw [this _ hfa.2.2]
   cases hx:ni g vs
   rfl
  rw [<- hgr ρ,ni,zp,<- hθ]
  refine Ws fun n hn'=>?_
  obtain ⟨i,hi',he,hil⟩:=pD hn'
  have hiv:i<vs.length:=by omega
  rw [he,cV,wF,fT hiv,xc]
  have h1:(sbL ρ vs)[i]?=some (sbT ρ vs[i]):=by
   have:∀ (ts:List T) (j:Nat) (h:j<ts.length),(sbL ρ ts)[j]?=some (sbT ρ ts[j]):=by
    intro ts
    induction ts with
    | nil=>intro j h; simp at h
    | cons t ts ih=>
     intro j h
     cases j with
     | zero=>rfl
     | succ j=>exact ih j (by simpa using h)
   exact this vs i hiv
  rw [hρ,We,hi'] at h1
  simpa using h1.symm
 ·rw [hpv] at hb2
  have:eA [g]=true:=by simp [eA,hg]
  rw [this] at hb2
  cases hb2
end
section
open Go Go.RowKit
section
variable {w:World} {K:Value->World->Prop}
attribute [local irreducible] Run
theorem SE {sb:Nat} {p1 p2:Option Addr} {n1 n2 m1 m2:Nat} {fuel:Int} {b:Bool}
  (hk:K (.agg #[.pointer (some ⟨sb,0,none⟩),.slice p1 n1 m1,.slice p2 n2 m2,.bool b,.bool false,.int .i64 fuel,.int .i64 0,.int .i64 26,.pointer none,.slice none 0 0,.slice none 0 0,.int .i64 0]) w) :
  Run Tryz.prog (cU qp [(0,.pointer (some ⟨sb,0,none⟩)),(1,.slice p1 n1 m1),(2,.slice p2 n2 m2),(5,.int .i64 fuel),(3,.bool b),(7,.int .i64 26)]) w K:=by
 refine Run.of (v:=.agg #[.pointer (some ⟨sb,0,none⟩),.slice p1 n1 m1,.slice p2 n2 m2,.bool b,.bool false,.int .i64 fuel,.int .i64 0,.int .i64 26,.pointer none,.slice none 0 0,.slice none 0 0,.int .i64 0]) (w':=w) ?_ hk
 unfold cU
 rw [Sem.run_bind,run_build w qp _ #[.pointer (some ⟨sb,0,none⟩),.slice p1 n1 m1,.slice p2 n2 m2,.bool b,.bool false,.int .i64 fuel,.int .i64 0,.int .i64 26,.pointer none,.slice none 0 0,.slice none 0 0,.int .i64 0] (by kernel_rfl),Result.andThen_ok]
 rfl
end
section
attribute [local irreducible] Run CondV aw aN
theorem Inv.rowLeM {w0 w:World} {X:List Nat} {L:List Item} {S:af} (h:Inv w0 X L S w) {i k n:Nat} {e:TypeId} {v:Value} {xs:List Value} (hi:L[i]?=some (.row v e k n xs)):n<=maxLen:=by
 have hm:w.ownsRow 0 e k v n xs:=h.its (.row v e k n xs) (b0 hi)
 rcases hm.2 with ⟨rfl,hn⟩|⟨g,cap,cur,rfl,_,_,hn,hc,_⟩
 ·rw [hn]; exact be _
 ·exact gB hn hc
theorem EB {p:List C} {q:List T} {S:af} {pv qv:Value} (h4:RdSl S 5 (RdC S) pv p) (hq:RdSl S 4 (RdT S) qv q) (fuel:Int) :
  Tri Tryz.prog JI [pv,qv,.int .i64 fuel,.bool false] [] S fun x I' S'=>∃ sp sb mb gv,x=.pointer (some ⟨sp,0,none⟩)/\GL S' gv (gC q).goals/\
   I'=sR sp sb mb pv qv false fuel 0 26 gv (.slice none 0 0) [] (.slice none 0 0) [] 0 #[] 0 (.slice none 0 0) []:=by
 intro w hI
 obtain ⟨pa,pcap,rfl,-⟩:=id h4
 obtain ⟨qa,qcap,rfl,-⟩:=id hq
 refine sJ.2 ?_
 dsimp only[sJ,lG]
 refine Run.call0 Jv Jl hI (Gj S) fun v' I' S' w'=>?_
 rintro ⟨rfl,sb,mb,rfl,rfl⟩ _ hI
 refine SE ?_
 refine bt hI fun sp w' hI=>?_
 refine Run.call0E QR O7 hI (Lx (cut:=0) (up:=-1) hq GL.nil) fun v' I' S1 w'=>?_
 rintro ⟨rfl,hG⟩ hE1 hI
 have hI:=hI.sub (dr _ _)
 obtain ⟨gp,rfl⟩:=hG.ptr
 refine aE ?_
 refine dh hI 3 rfl ic dO rfl rfl rfl fun w' hI=>?_
 have hI:=(hI.rowNil ed 9).rowNil lY 6
 have hI:Inv w [] (aG sb mb #[] 0 (.slice none 0 0) []++[fM sp (dU sb (.slice pa p.length pcap) (.slice qa q.length qcap) false fuel 0 26 (.pointer gp) (.slice none 0 0) (.slice none 0 0) 0),chI (.slice none 0 0) [],noI (.slice none 0 0) []]) S1 w':=hI
 refine ⟨_,_,S1,rfl,hI.perm (cu (l₂:=aG sb mb #[] 0 (.slice none 0 0) [])),hE1,sp,sb,mb,.pointer gp,rfl,?_,rfl⟩
 rw [dB] at hG
 exact hG
theorem Gw {p:List C} {q:List T} {S:af} {pv qv:Value} (h4:RdSl S 5 (RdC S) pv p) (hq:RdSl S 4 (RdT S) qv q) {most fuel:Nat} (hm:most<=20) (hf:fuel<=300) :
  Pure Tryz.prog Mx [pv,qv,.int .i64 (most:Int),.int .i64 (fuel:Int)] S (.bool (dx p && eA q)):=by
 intro w hI
 refine wD.2 ?_
 dsimp only[wD,lG]
 refine Run.callPure nS oo hI (lO h4) fun w' hI=>?_
 have e1:(decide ((0:Int)<=(most:Int)) && decide ((most:Int)<=20))=true:=by simp; omega
 have e2:(decide ((0:Int)<=(fuel:Int)) && decide ((fuel:Int)<=300))=true:=by simp; omega
 cases hp:dx p
 ·refine rpG ?_
  exact done hI rfl
 ·refine rpG ?_
  refine Run.callPure ro rE hI (ol hq) fun w' hI=>?_
  cases hqv:eA q
  ·refine rpG ?_
   exact done hI rfl
  ·refine rpG ?_
   refine Run.callPure gO hO hI (gg _ _ _ S) fun w' hI=>?_
   rw [e1]
   refine rpG ?_
   refine Run.callPure gO hO hI (gg _ _ _ S) fun w' hI=>?_
   rw [e2]
   refine rpG ?_
   exact done hI rfl
set_option maxHeartbeats 2000000 in
theorem QM {p:List C} {q:List T} {S:af} {pv qv:Value} (h4:RdSl S 5 (RdC S) pv p) (hq:RdSl S 4 (RdT S) qv q) {most fuel:Nat} (hm:most<=20) (hf:fuel<=300) {r:List (List T) × Int} (hr:SolR p q most fuel r) :
  Tri Tryz.prog VM [pv,qv,.int .i64 (most:Int),.int .i64 (fuel:Int),.bool false] [] S fun x I' S'=>I'=[]/\∃ v,x=.tuple #[v,.int .i64 r.2]/\RdSl S' 1 (RdAns S') v r.1:=by
 intro w hI
 refine GH.2 ?_
 dsimp only[GH,r3]
 refine Run.callPure JL II hI (Gw h4 hq hm hf) fun w' hI=>?_
 refine bX ?_
 rcases hr with ⟨hb,hr⟩|⟨hb,rfl⟩
 ·rw [hb]
  refine az (fun h=>by cases h) (fun _=>?_)
  have hb':=hb
  rw [bw] at hb'
  obtain ⟨f1,f2,f3⟩:=kz hb'.1
  obtain ⟨g1,g2,g3⟩:=mu hb'.2
  refine Run.call0E FF Iv hI (EB h4 hq fuel) fun v' I' S1 w'=>?_
  rintro ⟨sp,sb,mb,gv,rfl,hG,rfl⟩ hE1 hI
  have hso:=p8 hb'.2 p.length
  have hsl:(gC q).st.length=26:=by show (List.replicate 26 (none:Option T)).length=26; simp
  have hK:SeaK S1 (gC q).chs (gC q).nodes (gC q).st [] [] #[] [] []:=by
   refine ⟨KnownM.none S1 26,Rows.nil _ _,Rows.nil _ _,.nil,?_⟩
   show ([]:List Int).length+unb (List.replicate 26 none)<=(List.replicate 26 (none:Option T)).length
   rw [H8]
   simp
  have hmul:26 * p.length * (fuel+1)<=520 * 301:=HA (by omega) (by omega)
  have hRK:abp p fuel (gC q):=by
   refine ⟨hso,by omega,?_,?_,?_⟩
   ·rw [hsl]
    show 26+26 * 0+_<=_
    omega
   ·show 0+fuel<=_
    omega
   ·show 0+fuel<=_
    omega
  refine Run.callE (A:=[]) Eu EP hI (by
   have:=VS f1 f2 (by omega) (by omega) hr hRK g1 g2 (by omega) (fuel:=fuel) (used:=0) (KE _) (by omega) (by omega) (h4.monoC hE1.1) (hq.monoT hE1.1) hG hK (sp:=sp) (sb:=sb) (mb:=mb) (ck:=0) (mo:=0) (cv:=.slice none 0 0) (nv:=.slice none 0 0) (tv:=.slice none 0 0)
   rw [hsl] at this
   exact this) fun v' I' S2 w'=>?_
  rintro ⟨v,css,rfl,rfl,hR⟩ hE2 hI
  have hsm:=hr.small f1 g1 g2 hso (by omega) (by simp)
  refine aq rfl ?_
  refine aq rfl ?_
  refine kL hI 0 rfl iY ?_
  have hcl:=hR.hc
  have hE12:=hE1.trans hE2
  have hI:Inv w [] [aJ v dT 1 css] S2 w':=hI
  refine ⟨fun i w'=>∃ (k:Nat) (css':List (List Value)) (S3:af),k<=css.length/\i=.int .i64 (k:Int)/\css'.length=css.length/\Ext w.heap.size [] S2 S3/\Rows 1 (RdAns S3) css' r.1/\Inv w [] [.row v dT 1 css.length css'.flatten] S3 w',
   fun i _=>css.length - (intOf i).toNat,⟨0,css,S2,be _,rfl,rfl,Ext.refl _ _ _,hR,hI⟩,?_⟩
  clear hI
  intro ii _ _ _ _ _ _ _ _ _ _ _ _ _ _ w'
  rintro ⟨k,css',S3,hk,rfl,hll,hE3,hR3,hI⟩
  refine bF ?_
  refine aI (fun hki=>?_) (fun hki=>?_)
  ·have hk':k<css'.length:=by omega
   have hkr:k<r.1.length:=by omega
   have hle:=hI.rowLeM (i:=0) rfl
   simp only [maxLen] at hle
   rw [<- hll] at hI
   obtain ⟨u,hu,hus⟩:=hR3.hR k hkr hk'
   obtain ⟨g,cap,hv,hcell⟩:=hI.rowPtr (i:=0) rfl hk' hR3.hk
   subst hv
   obtain ⟨ua,ucap,rfl,-⟩:=id hus
   have hans:=hsm _ (bA hkr)
   refine aD iY hk' ?_
   refine bK (cs:=[.slice ua r.1[k].length ucap]) qA rfl (fun j x hj=>by
    rw [bR]
    exact hcell j x (by rw [hu]; exact hj)) ?_
   refine aV hI Tp fun b15 w' hI=>?_
   refine aA hI 1 rfl qA rfl rfl (by simp [Value.oneCell']) fun w' hI=>?_
   refine ag hI 1 rfl jq aj rfl ?_
   have hI:Inv w [] [aJ (.slice (some ⟨g,0,none⟩) css'.length cap) dT 1 css'] S3 _:=hI.sub (dr [_] [_])
   refine Run.call0E jG jm hI (kI hus hans) fun v' I' S5 w'=>?_
   rintro ⟨rfl,M,rfl,hT⟩ hE5 hI5
   obtain ⟨S9,hI9,hE9,hins⟩:=Inv.pubExt hI5
   have hn:=hT.rd hins fun _ _ _ hi h=>h.rd hi
   obtain ⟨na,ncap,rfl,-⟩:=id hn
   refine aD iY hk' ?_
   refine aB jq ?_
   refine HO hI9 0 (j:=k) (f:=0) rfl aj hk' (by omega) (by omega) hR3.hk rfl rfl fun w' hI=>?_
   have hE59:=hE5.trans hE9
   refine bq (by omega) ?_
   refine ⟨⟨k+1,css'.set k (css'[k].set 0 (.slice na r.1[k].length ncap)),S9,by omega,rfl,by rw [oc,hll],hE3.trans hE59,?_,?_⟩,by simp only [intOf,cV]; omega⟩
   ·have h9:=(hR3.monoR fun _ _=>RdAns.mono hE59.1).set k (cs:=css'[k].set 0 (.slice na r.1[k].length ncap)) (y:=r.1[k]) ⟨_,by rw [hu]; rfl,hn⟩ (by rw [hu]; rfl)
    rwa [List.set_getElem_self] at h9
   ·have hI:Inv w [] [aJ (.slice (some ⟨g,0,none⟩) css'.length cap) dT 1 (css'.set k (css'[k].set 0 (.slice na r.1[k].length ncap)))] S9 _:=hI
    rw [aJ,oc] at hI
    rw [<- hll]
    exact hI
  ·rw [<- hll] at hI
   have hI:Inv w [] ([]++[aJ v dT 1 css']) S3 _:=hI
   obtain ⟨S4,hE4,hrd,hI⟩:=hI.lendExt
   exact ⟨_,_,S4,rfl,hI,(hE12.trans hE3).trans hE4,rfl,v,rfl,RowRd.rows (hR3.monoR fun _ _=>RdAns.mono hE4.1) hrd⟩
 ·rw [hb]
  refine az (fun _=>?_) (fun h=>by cases h)
  exact ⟨_,_,S,rfl,hI,Ext.refl _ _ _,rfl,_,rfl,none,0,rfl,aR _,be _,.inl rfl⟩
theorem OH {p:List C} {q:List T} {S:af} {pv qv:Value} (h4:RdSl S 5 (RdC S) pv p) (hq:RdSl S 4 (RdT S) qv q) {most fuel:Nat} (hm:most<=20) (hf:fuel<=300) {r:List (List T) × Int} (hr:SolR p q most fuel r) :
  Tri Tryz.prog Vq [pv,qv,.int .i64 (most:Int),.int .i64 (fuel:Int)] [] S fun x I' S'=>I'=[]/\∃ v,x=.tuple #[v,.int .i64 r.2]/\RdSl S' 1 (RdAns S') v r.1:=by
 intro w hI
 refine Gs.2 ?_
 dsimp only[Gs,lG]
 refine Run.call0E Sy Ts hI (QM h4 hq hm hf hr) fun v' I' S1 w'=>?_
 rintro ⟨rfl,v,rfl,hR⟩ hE1 hI
 refine aq rfl ?_
 refine aq rfl ?_
 exact ⟨_,_,S1,rfl,hI,hE1,rfl,v,rfl,hR⟩
end
end
section
open Go Go.RowKit
section
variable {S:af} {w w0:World} {X:List Nat} {L:List Item} {K:Value->World->Prop}
attribute [local irreducible] Run CondV aw aN
theorem aaa (h:Inv w0 X L S w) {cs:List Value} {t:T} (hc:RdT S cs t) (hk:∀ v S' w',Ext w0.heap.size X S S'->RdSl S' 4 (RdT S') v [t]->Inv w0 X L S' w'->K v w'):Run Tryz.prog (bE cr 1 [(0,.agg cs.toArray)]) w K:=by
 refine d5 h bj (by simp [Value.cells,hc.length]) (by omega) (by omega) fun b w' hI=>?_
 obtain ⟨S1,hI,hE,hb⟩:=hI.pub1
 exact hk _ S1 w' hE (Yy hb (hc.mono hE.1)) hI
theorem PU {α:Type} (f:α->Bool):∀ l:List α,(l.any fun x=>!f x)=!l.all f
 | []=>rfl
 | x::l=>by rw [fE,Pp,PU f l,Bool.not_and]
end
end
section
open Go Go.RowKit
abbrev zTm:Array Value:=#[.int .i64 0,.int .i64 0,.string ⟨#[]⟩,.slice none 0 0]
mutual
theorem Uf (φ:Int->T):∀ t:T,qq φ t=sbT φ t
 | .mk k n s ks=>by rw [qq,sbT,QX φ ks]
theorem QX (φ:Int->T):∀ ts:List T,pf φ ts=sbL φ ts
 | []=>rfl
 | t::ts=>by rw [pf,sbL,Uf φ t,QX φ ts]
end
section
variable {S:af} {v:Value}
attribute [local irreducible] Run CondV aw aN
theorem aa8 {w:World} {K:Value->World->Prop} {T ty:TypeId} {cs:List Bool} {E:TypeId × Nat} {x:Value} {a:Option Addr} {n c:Nat} (hx:x=.slice a n c) (hu:cL Tryz.prog T=some E) (hk:K (.int .i64 n) w):Run Tryz.prog (bD .len #[T] ty cs [x]) w K:=by
 subst hx
 exact eP hu hk
theorem Bo {t:T} {cs:List Value} (h:RdT S cs t):Pure Tryz.prog uv [.agg cs.toArray] S (.bool (!cn t)):=by
 intro w hI
 have hl:=h.length
 refine rJ.2 ?_
 dsimp only[rJ,aL]
 refine bt hI fun b1 w' hI=>?_
 refine ar hI 0 ad rfl (by simpa [Value.cells] using hl) ?_
 refine Run.callPure hY gS hI (fO h) fun w' hI=>?_
 refine bX ?_
 exact done hI rfl
theorem tJ {ts:List T} (h:RdSl S 4 (RdT S) v ts):Pure Tryz.prog Np [v] S (.bool (ts.all cn)):=by
 intro w hI
 refine v8.2 ?_
 dsimp only[v8,aL]
 have hcb:Cb Tryz.prog uv _ [] S (fun _:Unit=>[]) (fun _=>True) (fun _ x=>(!cn x,())) (fun v x=>∃ cs,v=.agg cs.toArray/\RdT S cs x) ts:=
  Cb.pure [] Ep Fa fun x v hx=>by
   rintro ⟨cs,rfl,hcs⟩ w1 hI
   exact (Bo hcs w1 hI).mono fun e w' ⟨he,hI⟩=>⟨_,_,_,he,hI,Ext.refl _ _ _,rfl,rfl,rfl⟩
 refine Run.call0 dj dn hI (ez hcb h (st:=()) trivial) fun v' I' S' w'=>?_
 rintro ⟨rfl,rfl,rfl⟩ _ hI
 refine bX ?_
 refine done hI ?_
 rw [gu (fun x=>!cn x) ts,PU cn ts,Bool.not_not]
theorem R2 {q:List T} {vs:List T} {qv av:Value} (hq:RdSl S 4 (RdT S) qv q) (ha:RdSl S 4 (RdT S) av vs) (hqv:eA q=true) (hl:vs.length=(bM q []).length) (hv:vs.all cn=true):Pure Tryz.prog EX [.agg #[av],qv] S (.bool true):=by
 intro w hI
 obtain ⟨qa,qc,rfl,_⟩:=id hq
 obtain ⟨va,vc,rfl,_⟩:=id ha
 obtain ⟨_,hv3,hcnt⟩:=mu hqv
 refine pX.2 ?_
 dsimp only[pX,aZ]
 refine bt hI fun b2 w' hI=>?_
 have hI:Inv w [] [.blk b2 (.cells #[.slice va vs.length vc] dT)] S w':=hI
 refine ⟨fun D x4 nj lS rK jY l5 sQ Ap wH vZ CL DB x9 x8 x7 x6 x5 w_=>Fx D 0 [x5=.slice qa q.length qc,x6=.bool true,x7=.bool true,x8=.pointer (some ⟨b2,0,none⟩),x9=.slice va vs.length vc,DB=.int .i64 vs.length,CL=.slice qa q.length qc,∃ a c,vZ=.slice a (bM q []).length c,wH=.int .i64 vs.length,Ap=.bool true,sQ=.bool true,l5=.bool true,jY=.pointer (some ⟨b2,0,none⟩),rK=.slice va vs.length vc,lS=.bool true,nj=.bool true,x4=.bool true]/\Inv w [] [.blk b2 (.cells #[.slice va vs.length vc] dT)] S w_,⟨Fx.nil _ _,hI.draw⟩,⟨?_,?_,?_,?_,?_,?_,?_,?_,?_,?_,?_,?_,?_,?_,?_,?_,?_,trivial⟩,?_⟩
 all_goals (intro D bP; intros; rename_i x4 nj lS rK jY l5 sQ Ap wH vZ CL DB x9 x8 x7 x6 x5 w_ hA_; have hF_:=hA_.1; obtain ⟨⟨cm,cj,cd,ci,bT,ct,bZ,cR,dq,er,co,cG,dJ,fl,fS,gD,kF,_⟩,hI⟩:=hA_)
 ·exact ⟨hF_.set 0 rfl,hI⟩
 ·obtain rfl:=cm ‹_›
  refine Run.callPure ro rE hI (ol hq) fun w_ hI=>?_
  rw [hqv]
  exact ⟨hF_.set 1 rfl,hI⟩
 ·obtain rfl:=cj ‹_›
  exact ⟨hF_.set 2 rfl,hI⟩
 ·obtain rfl:=cd ‹_›
  refine rpG ?_
  refine aB jq ?_
  exact ⟨hF_.set 3 rfl,hI⟩
 ·obtain rfl:=ci ‹_›
  obtain rfl:=cd ‹_›
  refine rpG ?_
  refine aX hI 0 aj rfl rfl ?_
  exact ⟨hF_.set 4 rfl,hI⟩
 ·obtain rfl:=bT ‹_›
  obtain rfl:=cd ‹_›
  refine rpG ?_
  refine eP ae ?_
  exact ⟨hF_.set 5 rfl,hI⟩
 ·obtain rfl:=cd ‹_›
  refine rpG ?_
  exact ⟨hF_.set 6 rfl,hI⟩
 ·obtain rfl:=bZ ‹_›
  obtain rfl:=cd ‹_›
  refine rpG ?_
  refine Run.call0 i6 ja hI (il hq (by omega)) fun v' I' S' w_=>?_
  rintro ⟨rfl,eS⟩ _ hI
  rw [eS] at hI
  clear eS
  have hg_:∃ a c,v'=.slice a (bM q []).length c:=Lh (hI.its (dt v' (bM q [])) (by simp))
  have hI:Inv w [] [.blk b2 (.cells #[.slice va vs.length vc] dT)] S w_:=hI.sub (dr [_] _)
  exact ⟨hF_.set 7 (by first|assumption|trivial),hI⟩
 ·have N2:=cR ‹_›
  obtain rfl:=cd ‹_›
  refine rpG ?_
  obtain ⟨a_,c_,hx_⟩:=N2
  refine aa8 (n:=vs.length) (by rw [hx_,hl]) c5 ?_
  exact ⟨hF_.set 8 rfl,hI⟩
 ·obtain rfl:=ct ‹_›
  obtain rfl:=dq ‹_›
  obtain rfl:=cd ‹_›
  refine rpG ?_
  refine bo ?_
  rw [aM rfl]
  exact ⟨hF_.set 9 rfl,hI⟩
 ·obtain rfl:=cd ‹_›
  obtain rfl:=er ‹_›
  refine rpG ?_
  exact ⟨hF_.set 10 rfl,hI⟩
 ·obtain rfl:=co ‹_›
  exact ⟨hF_.set 11 rfl,hI⟩
 ·obtain rfl:=cG ‹_›
  refine rpG ?_
  refine aB jq ?_
  exact ⟨hF_.set 12 rfl,hI⟩
 ·obtain rfl:=dJ ‹_›
  obtain rfl:=cG ‹_›
  refine rpG ?_
  refine aX hI 0 aj rfl rfl ?_
  exact ⟨hF_.set 13 rfl,hI⟩
 ·obtain rfl:=fl ‹_›
  obtain rfl:=cG ‹_›
  refine rpG ?_
  refine Run.callPure vU wg hI (tJ ha) fun w_ hI=>?_
  rw [hv]
  exact ⟨hF_.set 14 rfl,hI⟩
 ·obtain rfl:=cG ‹_›
  obtain rfl:=fS ‹_›
  refine rpG ?_
  exact ⟨hF_.set 15 rfl,hI⟩
 ·obtain rfl:=gD ‹_›
  exact ⟨hF_.set 16 rfl,hI⟩
 obtain ⟨rfl,rfl,rfl,rfl,rfl,rfl,rfl,N2,rfl,rfl,rfl,rfl,rfl,rfl,rfl,rfl,rfl,_⟩:=hF_.all
 clear hF_ cm cj cd ci bT ct bZ cR dq er co cG dJ fl fS gD kF
 exact done hI rfl
theorem FX {ls:List Int} {vs:List T} {av vv:Value} {ab vb:Nat} {E F:TypeId} (h1:S ab=some (.cells #[av] E)) (h2:S vb=some (.cells #[vv] F)) (ha:RdSl S 4 (RdT S) av vs) (hv:RdSl S 1 i5 vv ls) (hl:vs.length=ls.length) :
  FunV y3 [.pointer (some ⟨ab,0,none⟩),.pointer (some ⟨vb,0,none⟩)] S (fun n=>vs.getD (sS ls n).toNat zT) ls:=by
 intro S' hs n hn _ _
 have ha:=ha.monoT hs
 have hv:=hv.mono hs fun _ _ h=>h
 have h1:=hs _ _ h1
 have h2:=hs _ _ h2
 obtain ⟨i,hi,he,hil⟩:=pD hn
 have hiv:i<vs.length:=by omega
 obtain ⟨pb,po,pc2,pc,pE,pfz,rfl,hpS,hpR⟩:=ha.at_ hiv
 obtain ⟨la,lc,rfl,_⟩:=id hv
 have e:vs.getD (sS ls n).toNat zT=vs[i]:=by rw [he,cV,wF,fT hiv,xc]
 have hpl:=hpR.length
 refine ⟨aO pc (po+i * 4) 4,by show RdT S' _ (vs.getD (sS ls n).toNat zT); rw [e]; exact hpR,fun w hI=>?_⟩
 refine m8.2 ?_
 dsimp only[m8,dV]
 refine aV hI aY fun b4 w' hI=>?_
 have hI:Inv w [] [.blk b4 (.cells zTm ac)] S' w':=hI
 refine ⟨fun D CL DB x9 x8 x7 x6 x5 w_=>Fx D 0 [x5=.pointer (some ⟨ab,0,none⟩),x6=.slice (some ⟨pb,po,none⟩) vs.length pc2,x7=.slice la ls.length lc,x8=.int .i64 n,x9=.int .i64 (i:Int),DB=.pointer (some ⟨pb,po+i * 4,none⟩),CL=.agg (aO pc (po+i * 4) 4).toArray,True]/\Inv w [] [.blk b4 (.cells (cond (D 7) (aO pc (po+i * 4) 4).toArray zTm) ac)] S' w_,⟨Fx.nil _ _,hI.draw⟩,⟨?_,?_,?_,?_,?_,?_,?_,?_,trivial⟩,?_⟩
 all_goals (intro D bP; intros; rename_i CL DB x9 x8 x7 x6 x5 w_ hA_; have hF_:=hA_.1; obtain ⟨⟨cm,cj,cd,ci,bT,ct,bZ,cR,_⟩,hI⟩:=hA_)
 ·refine aB jq ?_
  exact ⟨hF_.set 0 rfl,hI⟩
 ·obtain rfl:=cm ‹_›
  refine cw aj (by rw [hI.cellS h1]; rfl) ?_
  exact ⟨hF_.set 1 rfl,hI⟩
 ·refine cw gH (by rw [hI.cellS h2]; rfl) ?_
  exact ⟨hF_.set 2 rfl,hI⟩
 ·exact ⟨hF_.set 3 rfl,hI⟩
 ·obtain rfl:=cd ‹_›
  obtain rfl:=ci ‹_›
  refine Run.callPure mG mO hI (lz n hv) fun w_ hI=>?_
  rw [show (ce (σ:=Unit) (fun _ x=>(decide (n=x),())) () ls 0).1=(i:Int) from he]
  exact ⟨hF_.set 4 rfl,hI⟩
 ·obtain rfl:=cj ‹_›
  obtain rfl:=bT ‹_›
  refine aD ae hiv ?_
  exact ⟨hF_.set 5 rfl,hI⟩
 ·obtain rfl:=ct ‹_›
  refine bK ad hpl (fun j u hj=>by rw [hI.cellS hpS]; exact aK rfl j u hj) ?_
  exact ⟨hF_.set 6 rfl,hI⟩
 ·obtain rfl:=bZ ‹_›
  rw [bP] at hI; refine aA hI 0 rfl ad (by simpa using hpl) rfl (by simpa using hpR.one) fun w_ hI=>?_
  exact ⟨hF_.set 7 trivial,hI⟩
 obtain ⟨rfl,rfl,rfl,rfl,rfl,rfl,rfl,_,_⟩:=hF_.all
 have EA:D 7=true:=by assumption
 clear hF_ cm cj cd ci bT ct bZ cR
 rw [EA] at hI
 refine bC hI 0 ad rfl (by simpa using hpl) ?_
 exact done hI rfl
abbrev abk (t:T):Value->List Item->af->Prop:=fun x I' S'=>I'=[]/\∃ u,x=.tuple #[u,.bool true]/\RdSl S' 4 (RdT S') u [t]
theorem zR {g:T} {vs:List T} {qv av:Value} (hq:RdSl S 4 (RdT S) qv [g]) (ha:RdSl S 4 (RdT S) av vs) (hg:eX g=true) (hl:vs.length=(bM [g] []).length) (hv:∀ v∈vs,cn v=true) (hans:cn (ni g vs)=true) :
  Tri Tryz.prog Ey [qv,.agg #[av]] [] S (abk (ni g vs)):=by
 intro w hI
 have hqv:eA [g]=true:=by simp [eA,hg]
 have hval:=i9 hg
 have hwg:=nO hval
 obtain ⟨_,hv3,hcnt⟩:=mu hqv
 obtain ⟨va,vc,rfl,_⟩:=id ha
 refine pi.2 ?_
 dsimp only[pi,aZ]
 refine bt hI fun b3 w' hI=>?_
 have hI:Inv w [] ([]++[.blk b3 (.cells #[.slice va vs.length vc] dT)]) S w':=hI
 obtain ⟨S1,hI,hE1,hb3⟩:=hI.pub1
 have hq:=hq.monoT hE1.1
 have ha:=ha.monoT hE1.1
 refine bK (cs:=[.slice va vs.length vc]) qA rfl (fun j x hj=>by
  rw [hI.cellS hb3]
  simpa using hj) ?_
 refine Run.callPure BZ Bl hI (R2 hq ha hqv hl (dE.2 hv)) fun w' hI=>?_
 refine bX ?_
 refine az (fun hb=>by cases hb) (fun _=>?_)
 refine Run.call0 i6 ja hI (il hq (by omega)) fun v1 I' S' w'=>?_
 rintro ⟨rfl,rfl⟩ _ hI
 obtain ⟨S2,hE2,hvr,hI⟩:=Inv.lendI (A:=[]) hI
 have hK:=hI
 obtain ⟨la,lc,rfl,_⟩:=id hvr
 have hI:=hK
 have hE12:=hE1.trans hE2
 refine aV hI (z:=.slice none 0 0) (by kernel_rfl) fun b6 w' hI=>?_
 refine c8 hI 0 (n:=1) rfl (by decide +kernel) rfl (by simp [Value.cells]) (by simp [Value.cells,Value.oneCell']) fun w' hI=>?_
 have hI:Inv w [] ([]++[.blk b6 (.cells #[.slice la (bM [g] []).length lc] jw)]) S2 w':=hI
 obtain ⟨S3,hI,hE3,hb6⟩:=hI.pub1
 have hE13:=hE12.trans hE3
 have hE23:=hE2.trans hE3
 have hfun:=FX (hE23.1 _ _ hb3) hb6 (ha.monoT hE23.1) (hvr.mono hE3.1 fun _ _ h=>h) hl
 have hin:=pF [g] []
 rw [inL] at hin
 have hq3:=hq.monoT hE23.1
 refine aC hq3 ae ?_
 refine ⟨fun i t w'=>∃ (k:Nat) (css:List (List Value)) (S4:af),k<=1/\i=.int .i64 (k:Int)/\Ext w.heap.size [] S S4/\Sle S3 S4/\Rows 4 (RdT S4) css ([ni g vs].take k)/\Inv w [] [aJ t ac 4 css] S4 w',
  fun i _ _=>1 - (intOf i).toNat,⟨0,[],S3,be _,rfl,hE13,Sle.refl _,Rows.nil _ _,(by have h0:=hI.rowNil ac 4; exact h0)⟩,?_⟩
 clear hI
 intro t18 _ t7 _ _ _ _ _ _ _ _ _ _ w'
 rintro ⟨k,css,S4,hk,rfl,hE4,hs4,hR,hI⟩
 have hcl:=hR.hc
 refine bF ?_
 refine aI (fun hki=>?_) (fun hki=>?_)
 ·have hki:(k:Int)<1:=hki
  obtain rfl:k=0:=by omega
  have hc0:css.length=0:=by simpa using hcl
  refine cE (i:=0) hI (hq3.monoT hs4) ae ad (by simp) (fun _ _=>RdT.length) fun cs hcs=>?_
  have hcl4:=hcs.length
  refine aV hI aY fun b9 w' hI=>?_
  refine aA hI 1 rfl ad (by simpa using hcl4) rfl (by simpa using hcs.one) fun w' hI=>?_
  refine ar hI 1 ad rfl (by simpa using hcl4) ?_
  have hI:Inv w [] [aJ t7 ac 4 css] S4 w':=hI.sub (dr [_] _)
  refine gf ?_
  refine Run.call0E ft fy hI (SD [.pointer (some ⟨b3,0,none⟩),.pointer (some ⟨b6,0,none⟩)] _ (bM [g] []) xG wV g S4 cs hcs (yW hval).1 hin.1 (by omega) (hfun.mono hs4)) fun v' I' S5 w'=>?_
  rintro ⟨rfl,cs1,rfl,hcs1⟩ hE5 hI
  rw [Uf] at hcs1
  have hc1:=hcs1.length
  have hI:Inv w [] [aJ t7 ac 4 css] S5 w':=hI
  refine dD hI 0 cs1 bj (by omega) (by omega) rfl hc1 hcs1.one (by omega) (by omega) fun t9' w4 hI=>?_
  refine bq (by omega) ?_
  refine ⟨⟨1,css++[cs1],S5,aR _,rfl,hE4.trans hE5,hs4.trans hE5.1,?_,hI⟩,by simp [intOf]⟩
  exact (hR.monoR fun _ _ h=>h.mono hE5.1).snoc hcs1 hc1
 ·have hki:¬ (k:Int)<1:=hki
  obtain rfl:k=1:=by omega
  have hI:Inv w [] ([]++[aJ t7 ac 4 css]) S4 w':=hI
  obtain ⟨S5,hE5,hrd,hI⟩:=hI.lendExt
  have hr:=RowRd.rows (hR.monoR fun _ _ h=>h.mono hE5.1) hrd
  have hr:RdSl S5 4 (RdT S5) t7 [ni g vs]:=hr
  refine Run.callPure vU wg hI (tJ hr) fun w' hI=>?_
  rw [show [ni g vs].all cn=true by simp [hans]]
  refine bX ?_
  refine az (fun hb=>by cases hb) (fun _=>?_)
  have hwa:=nO hans
  refine Run.call0E jG jm hI (kI hr (by simp [wL]; omega)) fun v' I' S6 w'=>?_
  rintro ⟨rfl,M,rfl,hT⟩ hE6 hI
  obtain ⟨S7,hI,hE7,hins⟩:=Inv.pubExt hI
  exact ⟨_,_,S7,rfl,hI,((hE4.trans hE5).trans hE6).trans hE7,rfl,v',rfl,hT.rd hins fun _ _ _ hi h=>h.rd hi⟩
end
end
section
open Go Go.RowKit
section
variable {br:Nat} {sl:Value} {ys:List Nat} {S:af}
attribute [local irreducible] Run CondV aw aN
theorem GQ (S:af):Tri Tryz.prog Nl [] [] S fun v I' S'=>I'=[]/\∃ l,RdSl S' 1 wJ v l/\l.length=6/\l.all okS=true:=by
 intro w hI
 refine wz.2 ?_
 dsimp only[wz,oF]
 refine qE hI (by kernel_rfl) rfl (by omega) fun v S1 w' hE1 hv hI=>?_
 exact ⟨_,[],S1,rfl,hI,hE1,rfl,_,hv,rfl,by decide +kernel⟩
abbrev ZI (br:Nat) (sl:Value) (p k:Nat):Value->List Item->af->Prop:=fun u I' S'=>∃ p',p'<=p+k/\I'=[rdI br sl p']/\∃ ps,RdSl S' 5 (RdC S') u ps/\Light 8 200 ps/\0<ps.length
theorem qg {p:Nat} (hrd:RdSl S 1 lr sl ys) (hp:p<=10000000):Tri Tryz.prog HP [rdP br] [rdI br sl p] S (ZI br sl p 3):=by
 intro w hI
 refine rA.2 ?_
 dsimp only[rA,aL]
 refine Run.call0E JX JE hI (GQ S) fun v' I' S1 w'=>?_
 rintro ⟨rfl,l,hl,hl6,hok⟩ hE1 hI
 have hI:Inv w [br] [rdI br sl p] S1 w':=hI
 refine aC hl cH ?_
 refine Run.callL cI cJ hI (ef (n:=l.length) (hrd.monoU hE1.1) (by omega) (by omega)) rfl fun v' I' S1 w'=>?_
 rintro ⟨rfl,rfl,k,hk,rfl⟩ _ hI
 have hI:Inv w [br] [rdI br sl (p+1)] S1 w':=hI
 refine io hI hl cH aQ hk (fun cs hcs=>hcs) ?_
 rw [dE] at hok
 refine Run.call0E ox nK hI (Kk (hok _ (bA hk))) fun v I' S3 w'=>?_
 rintro ⟨u,css,ps,rfl,rfl,hR,h0,hps,_⟩ hE3 hI
 have hI:Inv w [br] [aJ u au 5 css,rdI br sl (p+1)] S3 w':=hI.last 0 rfl
 obtain ⟨S4,hE4,hI,hr⟩:=tX hI hR
 have hE4:=hE1.trans (hE3.trans hE4)
 refine aq (v:=u) rfl ?_
 refine aq (v:=.bool true) rfl ?_
 refine ⟨fun t w'=>∃ (p2:Nat) (S5:af) (q:List C),p2<=p+3/\Ext w.heap.size [br] S S5/\RdSl S5 5 (RdC S5) t q/\Light 8 200 q/\0<q.length/\Inv w [br] [rdI br sl p2] S5 w',?_,?_⟩
 ·refine Run.callL cI cJ hI (ef (n:=8) (hrd.monoU hE4.1) (by omega) (by omega)) rfl fun v' I' S2 w'=>?_
  rintro ⟨rfl,rfl,k2,hk2,rfl⟩ _ hI
  refine bo ?_
  refine aI (fun _=>?_) (fun _=>⟨p+2,_,ps,by omega,hE4,hr,hps,h0,hI⟩)
  refine Run.callL Ir GO hI (EJ (p:=p+1+1) (hrd.monoU hE4.1) (by omega)) rfl fun v1 I' S5 w'=>?_
  rintro ⟨p2,css1,q1,hp2,rfl,hR1,hq1,h1,_⟩ hE5 hI
  obtain ⟨S6,hE6,hI,hr6⟩:=tX (A:=[rdI br sl p2]) hI hR1
  exact ⟨p2,S6,q1,by omega,hE4.trans (hE5.trans hE6),hr6,hq1,h1,hI⟩
 intro t4 _ _ _ _ _ w'
 rintro ⟨p2,S5,q,hp2,hE5,hr,hl,h0,hI⟩
 exact ⟨_,_,S5,rfl,hI,hE5,p2,hp2,rfl,q,hr,hl,h0⟩
abbrev W4 (v':Value) (I':List Item) (S':af):Prop:=I'=[]/\∃ q,RdSl S' 5 (RdC S') v' q/\Light 30 900 q
theorem sn {v:Value} (h:RdSl S 1 lr v ys):Tri Tryz.prog vm [v] [] S W4:=by
 intro w hI
 refine kX.2 ?_
 dsimp only[kX,aL]
 refine Run.call0E zr y4 hI (FB h) fun v1 I' S1 w'=>?_
 rintro ⟨rfl,br,sl,ys',rfl,rfl,hrd⟩ _ hI
 have hI:Inv w [] [rdI br sl 0] S1 w':=hI
 refine Run.callL rl se hI (qg (p:=0) hrd (by omega)) rfl fun v2 I' S2 w'=>?_
 rintro ⟨p1,hp1,rfl,ps,hps,hlp,h0⟩ hE2 hI
 have hI:Inv w [] [rdI br sl p1] S2 w':=hI
 refine Run.callL AW AU hI (AH (m:=200) (p:=p1) (hrd.monoU hE2.1) hps ⟨by have:=hlp.1; omega,hlp.2⟩ h0 (by omega) (by omega)) rfl fun v3 I' S5 w'=>?_
 rintro ⟨p3,hp3,rfl,q2,hr2,hq2⟩ hE5 hI
 exact ⟨_,[],S5,rfl,Inv.nil hI,hE2.trans hE5,rfl,q2,hr2,hq2⟩
theorem uG {v:Value} (h:RdSl S 1 lr v ys):Tri Tryz.prog wZ [v] [] S W4:=by
 intro w hI
 refine lI.2 ?_
 dsimp only[lI,aL]
 refine Run.call0E ui sF hI (sn h) fun v I' S2 w'=>?_
 rintro ⟨rfl,q,hr,hl⟩ hE2 hI
 exact ⟨_,[],S2,rfl,hI,hE2,rfl,q,hr,hl⟩
end
end
end Go.Proofs.YtgllldjiaglkcaaGreatDoor

/- spec: rounds and stages. -/
import Derived.Test.YtemmhhdnlbmicaaGreatZMf9
import Derived.Test.YtemmhhdnlbmicaaGreatZMf4
import Derived.Test.YtemmhhdnlbmicaaGreatZMf6
import Derived.Test.YtemmhhdnlbmicaaGreatZMf7
import Derived.Test.YtemmhhdnlbmicaaGreatZMf1
import Derived.Test.YtemmhhdnlbmicaaGreatZMf0
import Derived.Test.YtemmhhdnlbmicaaGreatZMf3
namespace Go.Proofs.YtemmhhdnlbmicaaGreat
open Go Go.RowKit
section
attribute [local irreducible] Run CondV ag a4
theorem vj {ts:List T} {S:av} {v:Value} (h:RdSl S 4 (RdT S) v ts) (hw:ts.length+wL ts<=1048576):Tri Tryz.prog zR [v] [] S (uL 4 TrT S ts):=by
 intro w hI
 refine sG ?_
 unfold pr
 refine dL hI bn fun v0 w' hI=>?_
 refine ⟨fun i t w'=>∃ (k:Nat) (Ls:List bl) (css:List (List Value)),k<=ts.length/\i=.int .i64 k/\Grown 4 TrT Ls css (ts.take k)/\Inv w [] (bq t ad 4 css::bB Ls.flatten) S w',
  fun i _ _=>ts.length - (intOf i).toNat,⟨0,[],[],Nat.zero_le _,rfl,Grown.nil _ _,hI⟩,?_⟩
 intro t4 _ _ t3 _ _ _ _ _ _ _ _ _ _ _ _ w'
 rintro ⟨k,Ls,css,hk,rfl,hg,hI⟩
 refine a9 h ay ?_
 refine co ?_
 refine bp (fun hki=>?_) (fun hki=>?_)
 ·have hk':k<ts.length:=by omega
  have htl:(ts.take k).length=k:=by simp; omega
  have hcl:=hg.hc
  refine ec hI h ay ai hk' (fun _ _=>RdT.length) fun cs hcs=>?_
  have hm:=List.getElem_mem hk'
  have hwm:=i0 hm
  refine Run.call0 er eG hI (fh _ S cs hcs (by omega)) fun v' I' S' w'=>?_
  rintro ⟨rfl,cs',L,rfl,rfl,hT⟩ _ hI
  refine fi hI 0 cs' bn (by omega) (by omega) rfl hT.length hT.one (by omega) (by omega) fun v' w' hI=>?_
  refine bC (by omega) ?_
  refine ⟨⟨k+1,Ls++[L],css++[cs'],hk',rfl,?_,?_⟩,by simp [intOf]; omega⟩
  ·rw [List.take_succ_eq_append_getElem hk']
   exact hg.snoc hT hT.length
  ·simp only [List.flatten_append,List.flatten_cons,List.flatten_nil,List.append_nil,dU]
   exact hI
 ·have:k=ts.length:=by omega
  subst this
  rw [List.take_length] at hg
  obtain ⟨L,hT,hI⟩:=Inv.rowTree (A:=[]) hI hg
  exact ⟨_,_,_,rfl,hI,Ext.refl _ _ _,rfl,_,rfl,hT⟩
theorem sW {p:List C} {f:List T} {S:av} {v u:Value} (h:RdSl S 5 (RdC S) v p) (hq:RdSl S 4 (RdT S) u f) (hp:Pf p) (hf:Fs f) (hl:f.length<=61) :
  Tri Tryz.prog yz [v,u] [] S (E5 (gI p f)):=by
 intro w hI
 have hlen:=hp.len
 have hI:Inv w [] [] S w:=hI
 refine qB ?_
 unfold mV
 refine ⟨fun i t w'=>∃ (j:Nat) (S':av),j<=p.length/\i=.int .i64 j/\Ext w.heap.size [] S S'/\RdSl S' 4 (RdT S') t ((mF (p.take j) f).foldl jK f)/\Inv w [] [] S' w',
  fun i _ _=>p.length - (intOf i).toNat,⟨0,S,Nat.zero_le _,rfl,Ext.refl _ _ _,hq,hI⟩,?_⟩
 intro t6 _ _ t5 t21 t20 t19 t18 t17 t16 t15 t14 _ _ _ _ w'
 rintro ⟨j,S',hj,rfl,hE,hout,hI⟩
 have h':=h.monoC hE.1
 have hq':=hq.monoT hE.1
 refine a9 h' e9 ?_
 refine co ?_
 refine bp (fun hji=>?_) (fun hji=>?_)
 ·have hj':j<p.length:=by omega
  obtain ⟨hp1,hp2,hp3⟩:=hp.parts _ (List.getElem_mem hj')
  obtain ⟨out,ho⟩:∃ out,out=(mF (p.take j) f).foldl jK f:=⟨_,rfl⟩
  obtain ⟨l,hle⟩:∃ l,l=(mF (p.take (j+1)) f).foldl jK f:=⟨_,rfl⟩
  have hbl:gO p[j].head f p[j].body out st0=l:=by
   rw [hle,B9 p f j hj',List.foldl_append,<- ho,pG]
  have hFo:=pI (hp.take j) hf
  have hlo:=nu (p.take j) f hl
  have ho':out=gI (p.take j) f:=ho
  rw [<- ho'] at hFo hlo
  rw [<- ho] at hout
  obtain ⟨b,o,cap,c,E,fz,rfl,hS,hR⟩:=h'.at_ hj'
  refine ⟨fun D x5 db c4 cq dq dz dy eB fe w_=>(D 0=true->fe=t5)/\(D 1=true->eB=.slice (some ⟨b,o,none⟩) p.length cap)/\(D 2=true->dy=.int .i64 j)/\(D 3=true->dz=.pointer (some ⟨b,o+j * 5,none⟩))/\(D 4=true->dq=.agg (bf c (o+j * 5) 5).toArray)/\(D 5=true->cq=u)/\(D 6=true->True)/\(D 7=true->True)/\(D 8=true->True)/\∃ SN,Ext w.heap.size [] S' SN/\(D 8=true->D 0=true)/\(D 8=false->x5=t5)/\(D 6=true->IsKn SN c4 st0)/\(D 7=true->RdSl SN 4 (RdT SN) db l)/\(D 8=true->RdSl SN 4 (RdT SN) x5 l)/\Inv w [] [] SN w_,⟨ae,ae,ae,ae,ae,ae,ae,ae,ae,⟨S',Ext.refl _ _ _,ae,fun _=>rfl,ae,ae,ae,hI.draw⟩⟩,⟨?_,?_,?_,?_,?_,?_,?_,?_,?_,trivial⟩,?_⟩
  ·intro D a6  x5 db c4 cq dq dz dy eB fe w_
   rintro ⟨aB,aC,aA,aD,ax,aF,aE,aG,aI,⟨SN,hN,k8,e5,e6,e7,e8,hI⟩⟩
   have hx5:x5=t5:=e5 (by cases h:D 8 with|false=>rfl|true=>have:=k8 h; rw [this] at a6; exact a6)
   have k8:=fun (_:aw D 0 8=true)=>(rfl:aw D 0 0=true)
   exact ⟨fun _=>by first|assumption|trivial,aC,aA,aD,ax,aF,aE,aG,aI,⟨SN,hN,k8,e5,e6,e7,e8,hI⟩⟩
  ·intro D a6  x5 db c4 cq dq dz dy eB fe w_
   rintro ⟨aB,aC,aA,aD,ax,aF,aE,aG,aI,⟨SN,hN,k8,e5,e6,e7,e8,hI⟩⟩
   exact ⟨aB,fun _=>rfl,aA,aD,ax,aF,aE,aG,aI,⟨SN,hN,k8,e5,e6,e7,e8,hI⟩⟩
  ·intro D a6  x5 db c4 cq dq dz dy eB fe w_
   rintro ⟨aB,aC,aA,aD,ax,aF,aE,aG,aI,⟨SN,hN,k8,e5,e6,e7,e8,hI⟩⟩
   exact ⟨aB,aC,fun _=>rfl,aD,ax,aF,aE,aG,aI,⟨SN,hN,k8,e5,e6,e7,e8,hI⟩⟩
  ·intro D a6 d3 jg x5 db c4 cq dq dz dy eB fe w_
   rintro ⟨aB,aC,aA,aD,ax,aF,aE,aG,aI,⟨SN,hN,k8,e5,e6,e7,e8,hI⟩⟩
   obtain rfl:=aC d3
   obtain rfl:=aA jg
   refine ba e9 hj' ?_
   exact ⟨aB,aC,aA,fun _=>rfl,ax,aF,aE,aG,aI,⟨SN,hN,k8,e5,e6,e7,e8,hI⟩⟩
  ·intro D a6 dg x5 db c4 cq dq dz dy eB fe w_
   rintro ⟨aB,aC,aA,aD,ax,aF,aE,aG,aI,⟨SN,hN,k8,e5,e6,e7,e8,hI⟩⟩
   obtain rfl:=aD dg
   refine cu cL hR.length (fun j v hj=>by rw [hI.cellS (hN.1 _ _ hS)]; exact be rfl j v hj) ?_
   exact ⟨aB,aC,aA,aD,fun _=>rfl,aF,aE,aG,aI,⟨SN,hN,k8,e5,e6,e7,e8,hI⟩⟩
  ·intro D a6  x5 db c4 cq dq dz dy eB fe w_
   rintro ⟨aB,aC,aA,aD,ax,aF,aE,aG,aI,⟨SN,hN,k8,e5,e6,e7,e8,hI⟩⟩
   exact ⟨aB,aC,aA,aD,ax,fun _=>rfl,aE,aG,aI,⟨SN,hN,k8,e5,e6,e7,e8,hI⟩⟩
  ·intro D a6  x5 db c4 cq dq dz dy eB fe w_
   rintro ⟨aB,aC,aA,aD,ax,aF,aE,aG,aI,⟨SN,hN,k8,e5,e6,e7,e8,hI⟩⟩
   refine pi (n:=26) hI bn (by omega) (by omega) (by omega) fun kb w_ hI=>?_
   have hkc0:=CN _ rfl SN
   obtain ⟨kc,hkce⟩:∃ kc,kc=(Array.range 104).map ((#[.int .i64 0,.int .i64 0,.string ⟨#[]⟩,.slice none 0 0]:Array Value)[· % (#[.int .i64 0,.int .i64 0,.string ⟨#[]⟩,.slice none 0 0]:Array Value).size]!):=⟨_,rfl⟩
   rw [<- hkce] at hkc0
   have hI:Inv w [] ([]++bB [(kb,.cells kc ad)]) SN w_:=by rw [hkce]; exact hI
   obtain ⟨SN,hI,hE2,hins⟩:=hI.pubExt
   have e7:=fun (e:aw D 6 7=true)=>(e7 e).monoT hE2.1
   have e8:=fun (e:aw D 6 8=true)=>(e8 e).monoT hE2.1
   have hN:=hN.trans hE2
   have e6:=fun (_:aw D 6 6=true)=>(⟨kb,26,kc,rfl,Nat.le_refl _,by simp [maxLen],hins _ (List.mem_singleton.2 rfl),hkc0.mono hE2.1⟩:IsKn SN (kvn kb 26) st0)
   exact ⟨aB,aC,aA,aD,ax,aF,fun _=>by first|assumption|trivial,aG,aI,⟨SN,hN,k8,e5,e6,e7,e8,hI⟩⟩
  ·intro D a6 cV dW Ha zI x5 db c4 cq dq dz dy eB fe w_
   rintro ⟨aB,aC,aA,aD,ax,aF,aE,aG,aI,⟨SN,hN,k8,e5,e6,e7,e8,hI⟩⟩
   have Iy:=aB cV
   obtain rfl:=ax dW
   obtain rfl:=aF Ha
   have Hv:=aE zI
   refine Run.call0E oS nN hI (vr p[j] f hp1 hf.fct hp2 p[j].body 0 (by simp) rfl SN _ _ _ _ out st0 (hR.mono hN.1) (by rw [Iy]; exact hout.monoT hN.1) (hq'.monoT hN.1) (e6 zI) FU hp3 hFo.okO (by omega)) fun v' I' SN w_=>?_
   rw [hbl]
   rintro ⟨rfl,hr⟩ hE2 hI
   have e6:=fun (e:aw D 7 6=true)=>(e6 e).mono hE2.1
   have e8:=fun (e:aw D 7 8=true)=>(e8 e).monoT hE2.1
   have hN:=hN.trans hE2
   have e7:=fun (_:aw D 7 7=true)=>hr
   exact ⟨aB,aC,aA,aD,ax,aF,aE,fun _=>by first|assumption|trivial,aI,⟨SN,hN,k8,e5,e6,e7,e8,hI⟩⟩
  ·intro D a6 dl mh ul ve u5 vw yh Ar z0 Dv x5 db c4 cq dq dz dy eB fe w_
   rintro ⟨aB,aC,aA,aD,ax,aF,aE,aG,aI,⟨SN,hN,k8,e5,e6,e7,e8,hI⟩⟩
   have F6:=aG dl
   have k8:=fun (_:aw D 8 8=true)=>ul
   have e5:=fun (h:aw D 8 8=false)=>(Bool.noConfusion h:db=t5)
   have e8:=fun (_:aw D 8 8=true)=>e7 dl
   exact ⟨aB,aC,aA,aD,ax,aF,aE,aG,fun _=>by first|assumption|trivial,⟨SN,hN,k8,e5,e6,e7,e8,hI⟩⟩
  intro D io gc gp f1 fL fJ fP fN fO x5 db c4 cq dq dz dy eB fe w_
  rintro ⟨aB,aC,aA,aD,ax,aF,aE,aG,aI,⟨SN,hN,k8,e5,e6,e7,e8,hI⟩⟩
  have GB:=aI io
  have F6:=aG gc
  have Hv:=aE gp
  obtain rfl:=aF f1
  obtain rfl:=ax fL
  obtain rfl:=aD fJ
  obtain rfl:=aA fP
  obtain rfl:=aC fN
  have Iy:=aB fO
  clear aB aC aA aD ax aF aE aG aI
  have hx:=e8 io
  have hE2:=hE.trans hN
  clear e5 e6 e7 e8
  refine bC (by omega) ?_
  rw [hle] at hx
  exact ⟨⟨j+1,SN,hj',rfl,hE2,hx,hI⟩,by simp [intOf]; omega⟩
 ·have:j=p.length:=by omega
  subst this
  rw [List.take_length] at hout
  exact ⟨_,_,_,rfl,hI,hE,rfl,hout⟩
theorem td {p:List C} {S:av} {v:Value} (h:RdSl S 5 (RdC S) v p) (hp:Pf p) (k:Nat) (hk:k<=61) :
  Tri Tryz.prog xy [v,.int .i64 k] [] S fun r I' S'=>I'=[]/\∃ x,r=.tuple #[x,.int .i64 ((stS p k [] 0).2:Nat)]/\RdSl S' 4 (RdT S') x (stS p k [] 0).1:=by
 intro w hI
 have hI:Inv w [] [] S w:=hI
 refine pK ?_
 unfold mG
 refine dL hI bn fun v0 w' hI=>?_
 obtain ⟨S1,hE1,hrd,hI⟩:=Inv.lendExt (A:=[]) (css:=[]) hI
 have hr0:=RowRd.rows (Rows.nil 4 (RdT S1)) hrd
 refine ⟨fun i t w'=>∃ (n:Nat) (f:List T) (S':av),i=.int .i64 n/\n<=k/\RdSl S' 4 (RdT S') t f/\Fs f/\f.length<=61/\stS p (k - n) f n=stS p k [] 0/\Ext w.heap.size [] S S'/\Inv w [] [] S' w',
  fun i _ _=>k - (intOf i).toNat,⟨0,[],S1,rfl,Nat.zero_le _,hr0,Fs.nil,by simp,rfl,hE1,hI⟩,?_⟩
 intro t7 _ _ t6 _ _ _ _ _ _ _ _ _ _ _ _ _ _ _ _ _ _ _ _ _ _ w'
 rintro ⟨n,f,S',rfl,hnk,hq,hF,hl,hst,hE,hI⟩
 refine co ?_
 refine bp (fun hnk'=>?_) (fun hnk'=>?_)
 ·have hnk2:n<k:=by omega
  rw [show k - n=(k - (n+1))+1 by omega,stS] at hst
  refine Run.call0E vm vU hI (sW (h.monoC hE.1) hq hp hF hl) fun x I' S2 w'=>?_
  rintro ⟨rfl,hx⟩ hE2 hI
  have hI:Inv w [] [] S2 w':=hI
  have hE3:=hE.trans hE2
  refine ⟨fun t w'=>t=.bool (decide ((gI p f).length=f.length ∨ 60<f.length))/\Inv w [] [] S2 w',?_,?_⟩
  ·refine a9 hx ay ?_
   refine a9 (hq.monoT hE2.1) ay ?_
   refine cw ?_
   by_cases he:(gI p f).length=f.length
   ·rw [decide_eq_true (show (((gI p f).length:Nat):Int)=((f.length:Nat):Int) by omega)]
    repeat (first|refine ac ?_|refine af (by decide) ?_|refine ab ?_|refine al ?_|refine ak ?_)
    refine ⟨?_,hI⟩
    rw [decide_eq_true (Or.inl he)]
   ·rw [decide_eq_false (show ¬ (((gI p f).length:Nat):Int)=((f.length:Nat):Int) by omega)]
    repeat (first|refine ac ?_|refine af (by decide) ?_|refine ab ?_|refine al ?_|refine ak ?_)
    refine a9 (hq.monoT hE2.1) ay ?_
    refine dS ?_
    repeat (first|refine ac ?_|refine af (by decide) ?_|refine ab ?_|refine al ?_|refine ak ?_)
    refine ⟨?_,hI⟩
    congr 1
    rw [Bool.eq_iff_iff,decide_eq_true_eq,decide_eq_true_eq]
    omega
  ·intro t _ _ _ _ _ _ _ _ _ w'
   rintro ⟨rfl,hI⟩
   refine bp (fun hc=>?_) (fun hc=>?_)
   ·rw [if_pos hc] at hst
    rw [<- hst]
    exact ⟨_,_,_,rfl,hI,hE3,rfl,_,rfl,hq.monoT hE2.1⟩
   ·rw [if_neg hc] at hst
    refine bC (by omega) ?_
    exact ⟨⟨n+1,_,S2,rfl,hnk2,hx,pI hp hF,(nu p f hl).2,hst,hE3,hI⟩,by simp [intOf]; omega⟩
 ·have:n=k:=by omega
  subst this
  rw [Nat.sub_self,stS] at hst
  rw [<- hst]
  exact ⟨_,_,_,rfl,hI,hE,rfl,_,rfl,hq⟩
theorem ni {p:List C} {S:av} {v:Value} (h:RdSl S 5 (RdC S) v p) (hw:wP p<=1048576) (r:Int) :
  Tri Tryz.prog uD [v,.int .i64 r] [] S (Bz (fo p r).1 (fo p r).2):=by
 intro w hI
 have hI:Inv w [] [] S w:=hI
 have hno:∀ (S':av) (w':World),Ext w.heap.size [] S S'->Inv w [] [] S' w'->Run Tryz.prog (aW dc 0 []) w' fun t w2=>∃ v I' S',Ending.returned (.tuple #[t,.bool false])=.returned v/\Inv w [] I' S' w2/\Ext w.heap.size [] S S'/\Bz [] false v I' S':=by
  intro S' w' hE hI
  refine dL hI bn fun v0 w' hI=>?_
  have hI:Inv w [] ([]++(bq v0 ad 4 []::bB ([]:List bl).flatten)) S' w':=hI
  obtain ⟨L,hT,hI⟩:=Inv.rowTree hI (Grown.nil 4 TrT)
  exact ⟨_,_,_,rfl,hI,hE,_,L,rfl,rfl,hT⟩
 refine np ?_
 unfold kD
 refine ⟨fun t w'=>t=.bool (!(jn p && !decide (r<0)))/\Inv w [] [] S w',?_,?_⟩
 ·refine Run.callPure pJ qA hI (nv h hw) fun w' hI=>?_
  refine c9 ?_
  cases hv:jn p
  ·repeat (first|refine ac ?_|refine af (by decide) ?_|refine ab ?_|refine al ?_|refine ak ?_)
   exact ⟨rfl,hI⟩
  ·repeat (first|refine ac ?_|refine af (by decide) ?_|refine ab ?_|refine al ?_|refine ak ?_)
   refine co ?_
   repeat (first|refine ac ?_|refine af (by decide) ?_|refine ab ?_|refine al ?_|refine ak ?_)
   refine ⟨?_,hI⟩
   rw [Bool.true_and,Bool.not_not]
 intro t _ _ _ _ _ _ w'
 rintro ⟨rfl,hI⟩
 refine aX (fun hb=>?_) (fun hb=>?_)
 ·have hb':(jn p && !decide (r<0))=false:=by rwa [Bool.not_eq_true'] at hb
  have e:fo p r=([],false):=by rw [fo,if_neg (by rw [hb']; decide)]
  rw [e]
  exact hno _ _ (Ext.refl _ _ _) hI
 have hb':(jn p && !decide (r<0))=true:=by rwa [Bool.not_eq_false'] at hb
 have hb2:=hb'
 rw [Bool.and_eq_true] at hb2
 have hr0:0<=r:=by
  have:=hb2.2
  simp at this
  exact this
 have hp:=tA hb2.1
 have hfu:jt r<=61:=by unfold jt; split <;> omega
 have hsF:=yN hp (jt r) [] 0 Fs.nil (by simp)
 refine ⟨fun t w'=>t=.int .i64 (jt r)/\Inv w [] [] S w',?_,?_⟩
 ·refine dS ?_
  refine bp (fun hg=>⟨?_,hI⟩) (fun hg=>⟨?_,hI⟩)
  ·rw [jt,if_pos hg]; rfl
  ·rw [jt,if_neg hg,Int.toNat_of_nonneg hr0]
 intro t _ _ w'
 rintro ⟨rfl,hI⟩
 refine Run.call0E vB vh hI (td h hp (jt r) hfu) fun v' I' S2 w'=>?_
 rintro ⟨rfl,x,rfl,hx⟩ hE hI
 have hI:Inv w [] [] S2 w':=hI
 refine a5 rfl ?_
 refine a5 rfl ?_
 refine a9 hx ay ?_
 refine dS ?_
 refine bp (fun hg=>?_) (fun hg=>?_)
 ·have e:fo p r=([],false):=by rw [fo,if_pos hb',if_neg (by omega)]
  rw [e]
  exact hno _ _ hE hI
 ·have e:fo p r=((stS p (jt r) [] 0).1,true):=by rw [fo,if_pos hb',if_pos (by omega)]
  have hw':=hsF.1.w
  rw [e]
  refine Run.call0E xS xe hI (vj hx (by omega)) fun v' I' S3 w'=>?_
  rintro ⟨rfl,L,rfl,hT⟩ hE2 hI
  have hI:Inv w [] (bB L) S3 w':=hI
  exact ⟨_,_,_,rfl,hI,hE.trans hE2,_,L,rfl,rfl,hT⟩
theorem nr {p:List C} {S:av} {v:Value} (h:RdSl S 5 (RdC S) v p) (hw:wP p<=1048576) :
  Tri Tryz.prog tL [v] [] S (Bz (fo p 61).1 (fo p 61).2):=by
 intro w hI
 have hI:Inv w [] [] S w:=hI
 refine mY ?_
 unfold kE
 refine Run.call0E sE sw hI (ni h hw 61) fun v' I' S2 w'=>?_
 rintro ⟨u,L,rfl,rfl,hT⟩ hE hI
 have hI:Inv w [] (bB L) S2 w':=hI
 refine a5 rfl ?_
 refine a5 rfl ?_
 exact ⟨_,_,_,rfl,hI,hE,_,L,rfl,rfl,hT⟩
end

end Go.Proofs.YtemmhhdnlbmicaaGreat

/- FnExactStageModel returns true, whatever program and number of rounds come in. -/
namespace Go.Proofs.YtemmhhdnlbmicaaGreat
open Go Go.RowKit
section
variable {w w0:World} {X:List Nat} {L:List Item} {S:av} {K:Value->World->Prop}
attribute [local irreducible] Run CondV ag a4
end
section
attribute [local irreducible] Run CondV ag a4
end

end Go.Proofs.YtemmhhdnlbmicaaGreat

/- spec.FormatTerm and ParseTerm on goals of one level; l16Goal, DrawFactsFor. -/
namespace Go.Proofs.YtemmhhdnlbmicaaGreat
open Go Go.RowKit
def pD:List T->Bool->Bs->Option Bs
 | [],_,out=>some out
 | k::ks,b,out=>if n8 k=true then none else match Cp k with
  | none=>none
  | some x=>pD ks false (out++(if b=true then [40] else [44])++x)
def AE (t:T):Option Bs:=if t.kind=3/\n8 t=false then match pD t.kids true (bs t.name) with
  | none=>none
  | some o=>some (if 0<t.kids.length then o++[41] else o)
 else none
theorem wW:∀ (ks:List T) (b:Bool) (out x:Bs),pD ks b out=some x->out.length<=x.length
 | [],_,out,x,h=>by simp only [pD,Option.some.injEq] at h; subst h; exact Nat.le_refl _
 | k::ks,b,out,x,h=>by
  rw [pD] at h
  split at h
  ·cases h
  split at h
  ·cases h
  have:=wW ks _ _ _ h
  simp only [List.length_append] at this
  omega
def okG (s:ByteArray):Bool:=match EE (bs s) 0 with
 | some (t,n)=>decide (n=s.size) && (decide (AE t=some (bs s)) && (dd t && (decide (0<s.size) && (decide (s.size<=1000) && decide (wT t<=100)))))
 | none=>false
theorem DG {s:ByteArray} (h:okG s=true):∃ t,EE (bs s) 0=some (t,s.size)/\AE t=some (bs s)/\dd t=true/\0<s.size/\s.size<=1000/\wT t<=100:=by
 unfold okG at h
 split at h
 ·rename_i t n hq
  simp only [Bool.and_eq_true,decide_eq_true_eq] at h
  obtain ⟨rfl,h2,h3,h4,h5,h6⟩:=h
  exact ⟨t,hq,h2,h3,h4,h5,h6⟩
 ·cases h
section
variable {br:Nat} {sl:Value} {ys:List Nat} {S:av}
attribute [local irreducible] Run CondV ag a4
theorem B7 {t:T} {cs:List Value} {x:Bs} (h:RdT S cs t) (hx:AE t=some x) (hl:x.length<=100000):Pure Tryz.prog tk [.agg cs.toArray] S (.string (st x)):=by
 intro w hI
 have h0:=h
 obtain ⟨kv,rfl,_,_,_,hk⟩:=RdT.iff.1 h
 obtain ⟨ka,kc,rfl,_⟩:=id hk
 unfold AE at hx
 split at hx
 case isFalse=>cases hx
 rename_i hc
 obtain ⟨h3,hp⟩:=hc
 cases hks:pD t.kids true (bs t.name) with
 | none=>rw [hks] at hx; cases hx
 | some o=>
 rw [hks] at hx
 simp only [Option.some.injEq] at hx
 have hol:o.length<=x.length:=by
  rw [<- hx]
  split
  ·rw [List.length_append]; omega
  ·exact Nat.le_refl _
 refine kR ?_
 unfold lz
 refine ca hI fun b1 w' hI=>?_
 refine az hI 0 rfl bt bj rfl ?_
 refine dw (by omega) ?_
 refine aX (fun hb=>by cases hb) (fun _=>?_)
 refine dw (by omega) ?_
 refine aX (fun hb=>by cases hb) (fun _=>?_)
 refine a8 hI 0 ai rfl rfl ?_
 refine Run.callPure iP iL hI (fR h0) fun w' hI=>?_
 rw [hp]
 refine aX (fun hb=>by cases hb) (fun _=>?_)
 refine az hI 0 rfl bk bi rfl ?_
 refine ⟨fun a b w'=>∃ (j:Nat) (out:Bs),j<=t.kids.length/\a=.int .i64 (j:Int)/\b=.string (st out)/\pD (t.kids.drop j) (decide (j=0)) out=some o/\Inv w [] [.blk b1 (.cells #[.int .i64 t.kind,.int .i64 t.n,.string t.name,.slice ka t.kids.length kc] ad)] S w',
  fun a _ _=>t.kids.length - (intOf a).toNat,⟨0,bs t.name,Nat.zero_le _,rfl,rfl,hks,hI⟩,?_⟩
 intro t4 _ _ _ _ _ _ _ _ _ _ _ _ t3 _ _ _ _ _ _ _ _ _ w'
 rintro ⟨j,out,hj,rfl,rfl,hbf,hI⟩
 refine az hI 0 rfl aT aS rfl ?_
 refine fu ay ?_
 refine co ?_
 have hkl:=hk.le
 simp only [maxLen] at hkl
 refine bp (fun hji=>?_) (fun hji=>?_)
 ·have hj':j<t.kids.length:=by omega
  rw [List.drop_eq_getElem_cons hj',pD] at hbf
  split at hbf
  ·cases hbf
  rename_i hpk
  split at hbf
  ·cases hbf
  rename_i u hu
  have hlen:=wW _ _ _ _ hbf
  simp only [List.length_append] at hlen
  obtain ⟨pre,hpre⟩:∃ pre:Bs,pre=if decide (j=0)=true then [40] else [44]:=⟨_,rfl⟩
  rw [<- hpre] at hbf hlen
  refine ⟨fun b w'=>b=.string (st (out++pre))/\Inv w [] [.blk b1 (.cells #[.int .i64 t.kind,.int .i64 t.n,.string t.name,.slice ka t.kids.length kc] ad)] S w',?_,?_⟩
  ·refine cw ?_
   refine bp (fun h0=>?_) (fun h0=>?_)
   ·rw [if_pos (decide_eq_true (by omega))] at hpre
    subst hpre
    refine cY (b:=[40]) (by omega) ?_
    exact ⟨rfl,hI⟩
   ·rw [if_neg (by rw [decide_eq_true_eq]; omega)] at hpre
    subst hpre
    refine cY (b:=[44]) (by omega) ?_
    exact ⟨rfl,hI⟩
  intro _ _ t3 _ _ _ _ w'
  rintro ⟨rfl,hI⟩
  refine az hI 0 rfl aT aS rfl ?_
  refine ec hI hk ay ai hj' (fun _ _=>RdT.length) fun es hes=>?_
  refine Run.callPure kL lx hI (oe hes (Bool.eq_false_iff.2 hpk) hu) fun w' hI=>?_
  refine cY (by rw [List.length_append]; omega) ?_
  refine bC (by omega) ?_
  refine ⟨⟨j+1,out++pre++u,hj',rfl,rfl,?_,hI⟩,by simp only [intOf,Int.toNat_natCast]; omega⟩
  rw [decide_eq_false (by omega)]
  exact hbf
 ·have:j=t.kids.length:=by omega
  subst this
  rw [List.drop_length,pD] at hbf
  simp only [Option.some.injEq] at hbf
  subst hbf
  refine ⟨fun b w'=>b=.string (st x)/\Inv w [] [.blk b1 (.cells #[.int .i64 t.kind,.int .i64 t.n,.string t.name,.slice ka t.kids.length kc] ad)] S w',?_,?_⟩
  ·refine az hI 0 rfl aT aS rfl ?_
   refine fu ay ?_
   refine dS ?_
   refine bp (fun h0=>?_) (fun h0=>?_)
   ·rw [if_pos (by omega)] at hx
    refine cY (b:=[41]) (by simp only [List.length_cons,List.length_nil]; omega) ?_
    exact ⟨by rw [<- hx],hI⟩
   ·rw [if_neg (by omega)] at hx
    exact ⟨by rw [<- hx],hI⟩
  intro t3 _ _ _ _ _ _ w'
  rintro ⟨rfl,hI⟩
  exact done hI rfl
theorem qv {t:T} {cs:List Value} {x:Bs} (h:RdT S cs t) (hv:dd t=true) (hw:wT t<=100000) (hx:AE t=some x) (hl:x.length<=100000):Pure Tryz.prog sS [.agg cs.toArray] S (.string (st x)):=by
 intro w hI
 have hl4:=h.length
 refine nc ?_
 unfold kC
 refine ca hI fun b1 w' hI=>?_
 have hI:Inv w [] [.blk b1 (.cells cs.toArray ad)] S w':=hI
 refine a8 hI 0 ai rfl (by simpa using hl4) ?_
 refine Run.callPure fa eV hI (el h (sM (by omega))) fun w' hI=>?_
 rw [hv]
 refine c9 ?_
 refine aX (fun hb=>by cases hb) (fun _=>?_)
 refine a8 hI 0 ai rfl (by simpa using hl4) ?_
 refine Run.callPure kL lx hI (B7 h hx hl) fun w' hI=>?_
 exact done hI rfl
theorem sn {s:ByteArray} (h:okG s=true):Tri Tryz.prog vH [.string s] [] S fun v I' S'=>I'=[]/\∃ cs t,v=.tuple #[.agg cs.toArray,.bool true]/\RdT S' cs t/\wT t<=100:=by
 obtain ⟨t,hg,hx,hv,h0,hs,hw⟩:=DG h
 have hbs:(bs s).length=s.size:=(iU (bs s)).symm
 intro w hI
 refine nS ?_
 unfold lD;dsimp only
 refine bw hI bu fun b2 w' hI=>?_
 refine Run.call0E nI om hI (z5 (s:=bs s) (i:=0) (by omega) hg) fun v I' S1 w'=>?_
 rintro ⟨rfl,cs,rfl,hcs⟩ hE hI
 have h0c:=hcs
 obtain ⟨kv,rfl,_,_,_,a,m,rfl,_⟩:=RdT.iff.1 hcs
 refine a5 (v:=.agg _) rfl ?_
 refine a5 (v:=.int .i64 (s.size:Int)) rfl ?_
 refine bw hI bu fun b4 w' hI=>?_
 refine bd hI 1 rfl ai rfl rfl (by simp [Value.oneCell']) fun w' hI=>?_
 have hI:Inv w [] [.blk b2 (.cells #[.int .i64 0,.int .i64 0,.string ⟨#[]⟩,.slice none 0 0] ad),.blk b4 (.cells #[.int .i64 t.kind,.int .i64 t.n,.string t.name,.slice a t.kids.length m] ad)] S1 w':=hI
 refine ⟨fun b w'=>b=.bool false/\Inv w [] [.blk b2 (.cells #[.int .i64 0,.int .i64 0,.string ⟨#[]⟩,.slice none 0 0] ad),.blk b4 (.cells #[.int .i64 t.kind,.int .i64 t.n,.string t.name,.slice a t.kids.length m] ad)] S1 w',?_,?_⟩
 ·refine dj ?_
  rw [decide_eq_false (fun e=>by rw [e] at h0; cases h0)]
  repeat (first|refine ac ?_|refine af (by decide) ?_|refine ab ?_|refine al ?_|refine ak ?_)
  refine gw a7 ?_
  refine fA ?_
  rw [decide_eq_true rfl]
  repeat (first|refine ac ?_|refine af (by decide) ?_|refine ab ?_|refine al ?_|refine ak ?_)
  refine a8 hI 1 ai rfl rfl ?_
  refine Run.callPure sx sv hI (qv h0c hv (by omega) hx (by omega)) fun w' hI=>?_
  refine pU ?_
  rw [GS,decide_eq_true rfl]
  repeat (first|refine ac ?_|refine af (by decide) ?_|refine ab ?_|refine al ?_|refine ak ?_)
  exact ⟨rfl,hI⟩
 intro t24 _ _ _ _ _ _ _ _ _ _ _ _ _ w'
 rintro ⟨rfl,hI⟩
 refine aX (fun hb=>by cases hb) (fun _=>?_)
 refine a8 hI 1 ai rfl rfl ?_
 refine bd hI 0 rfl ai rfl rfl (by simp [Value.oneCell']) fun w' hI=>?_
 refine cz hI 0 ai rfl rfl ?_
 exact ⟨_,[],S1,rfl,hI.nil,hE,rfl,_,t,rfl,h0c,hw⟩
theorem tw (S:av):Tri Tryz.prog xw [] [] S fun v I' S'=>I'=[]/\∃ l,RdSl S' 1 mC v l/\l.length=7/\l.all okG=true:=by
 intro w hI
 refine qD ?_
 unfold mB
 refine yH hI (by kernel_rfl) rfl (by omega) fun v S1 w' hE1 hv hI=>?_
 exact ⟨_,[],S1,rfl,hI,hE1,rfl,_,hv,rfl,by decide +kernel⟩
theorem u7 {p:Nat} (hrd:RdSl S 1 kF sl ys) (hp:p<=10000000):Tri Tryz.prog zC [rdP br] [rdI br sl p] S fun v I' S'=>I'=[rdI br sl (p+1)]/\∃ cs t,v=.agg cs.toArray/\RdT S' cs t/\wT t<=100:=by
 intro w hI
 refine rP ?_
 unfold oj
 refine bw hI bu fun b2 w' hI=>?_
 have hI:Inv w [br] [.blk b2 (.cells #[.int .i64 0,.int .i64 0,.string ⟨#[]⟩,.slice none 0 0] ad),rdI br sl p] S w':=hI.last 0 rfl
 refine Run.call0E vq vM hI (tw S) fun v' I' S1 w'=>?_
 rintro ⟨rfl,l,hl,hl7,hok⟩ hE1 hI
 have hI:Inv w [br] [.blk b2 (.cells #[.int .i64 0,.int .i64 0,.string ⟨#[]⟩,.slice none 0 0] ad),rdI br sl p] S1 w':=hI
 refine a9 hl cg ?_
 refine Run.callL dD dB hI (fH (n:=l.length) (hrd.monoU hE1.1) (by omega) (by omega)) rfl fun v' I' S1 w'=>?_
 rintro ⟨rfl,rfl,k,hk,rfl⟩ _ hI
 have hI:Inv w [br] [.blk b2 (.cells #[.int .i64 0,.int .i64 0,.string ⟨#[]⟩,.slice none 0 0] ad),rdI br sl (p+1)] S1 w':=hI
 refine jO hI hl cg bi hk (fun cs hcs=>hcs) ?_
 rw [List.all_eq_true] at hok
 refine Run.call0E ti tM hI (sn (hok _ (List.getElem_mem hk))) fun v I' S2 w'=>?_
 rintro ⟨rfl,cs,t,rfl,hcs,hw⟩ hE2 hI
 have h0c:=hcs
 obtain ⟨kv,rfl,_,_,_,a,m,rfl,_⟩:=RdT.iff.1 hcs
 refine a5 (v:=.agg _) rfl ?_
 refine a5 (v:=.bool true) rfl ?_
 refine bw hI bu fun b4 w' hI=>?_
 refine bd hI 2 rfl ai rfl rfl (by simp [Value.oneCell']) fun w' hI=>?_
 refine a8 hI 2 ai rfl rfl ?_
 refine bd hI 0 rfl ai rfl rfl (by simp [Value.oneCell']) fun w' hI=>?_
 refine cz hI 0 ai rfl rfl ?_
 exact ⟨_,_,S2,rfl,hI.pick [false,true,false],hE1.trans hE2,rfl,_,t,rfl,h0c,hw⟩
theorem El (p:List C) (r:Int):Fs (fo p r).1:=by
 unfold fo
 split
 ·rename_i h1
  rw [Bool.and_eq_true] at h1
  split
  ·exact (yN (tA h1.1) (jt r) [] 0 Fs.nil (by simp)).1
  ·exact Fs.nil
 ·exact Fs.nil
theorem m8 {v:Value} (h:RdSl S 1 kF v ys):Tri Tryz.prog qn [v] [] S fun v' I' S'=>I'=[]/\∃ u fs cs g,v'=.tuple #[u,.agg cs.toArray]/\RdSl S' 4 (RdT S') u fs/\RdT S' cs g/\wT g<=300/\Fs fs/\fs.length<=60/\wL fs<=2040:=by
 intro w hI
 refine lP ?_
 unfold iQ
 refine bw hI bu fun b3 w' hI=>?_
 refine Run.call0E ya yA hI (AR h) fun v1 I' S1 w'=>?_
 rintro ⟨rfl,br,sl,ys',rfl,rfl,hrd⟩ _ hI
 have hI:Inv w [] [.blk b3 (.cells #[.int .i64 0,.int .i64 0,.string ⟨#[]⟩,.slice none 0 0] ad),rdI br sl 0] S1 w':=hI
 refine Run.callL rY rW hI (pS (p:=0) hrd (by omega)) rfl fun v2 I' S2 w'=>?_
 rintro ⟨p1,hp1,rfl,ps,hps,hlp,h0⟩ hE2 hI
 have hI:Inv w [] [.blk b3 (.cells #[.int .i64 0,.int .i64 0,.string ⟨#[]⟩,.slice none 0 0] ad),rdI br sl p1] S2 w':=hI
 have hwp:wP ps<=1048576:=by have:=hlp.le; omega
 refine Run.call0E sy sB hI (nr hps hwp) fun v3 I' S3 w'=>?_
 rintro ⟨u,M,rfl,rfl,hT⟩ hE3 hI
 obtain ⟨S4,hI,hE4,hins⟩:=hI.pubExt
 have hu:=hT.rd hins fun _ _ _ hi h=>h.rd hi
 have hI:Inv w [] [.blk b3 (.cells #[.int .i64 0,.int .i64 0,.string ⟨#[]⟩,.slice none 0 0] ad),rdI br sl p1] S4 w':=hI
 have hE4:=hE2.trans (hE3.trans hE4)
 refine a5 (v:=u) rfl ?_
 refine a5 (v:=.bool (fo ps 61).2) rfl ?_
 refine Run.callL yG xR hI (u7 (p:=p1) (hrd.monoU hE4.1) (by omega)) rfl fun v4 I' S5 w'=>?_
 rintro ⟨rfl,cs,t,rfl,hcs,hwt⟩ hE5 hI
 have hI:Inv w [] [.blk b3 (.cells #[.int .i64 0,.int .i64 0,.string ⟨#[]⟩,.slice none 0 0] ad),rdI br sl (p1+1)] S5 w':=hI
 have hE5':=hE4.trans hE5
 refine Run.callL uV uT hI (uI (p:=p1+1) (hrd.monoU hE5'.1) hcs (by omega) (by omega)) rfl fun v5 I' S6 w'=>?_
 rintro ⟨p2,hp2,rfl,ds,g,rfl,hds,hwg⟩ hE6 hI
 have hI:Inv w [] [.blk b3 (.cells #[.int .i64 0,.int .i64 0,.string ⟨#[]⟩,.slice none 0 0] ad),rdI br sl p2] S6 w':=hI
 have h0d:=hds
 obtain ⟨kv,rfl,_,_,_,a,m,rfl,_⟩:=RdT.iff.1 hds
 refine bd hI 0 rfl ai rfl rfl (by simp [Value.oneCell']) fun w' hI=>?_
 refine cz hI 0 ai rfl rfl ?_
 have hsw:=Eu (fun h=>tA h) (p:=ps) 61
 exact ⟨_,[],S6,rfl,hI.nil,hE5'.trans hE6,rfl,u,_,_,g,rfl,hu.monoT (hE5.trans hE6).1,h0d,by omega,El ps 61,hsw.1,hsw.2⟩
end
end Go.Proofs.YtemmhhdnlbmicaaGreat

/- spec: walks, occurrence, unification. -/
namespace Go.Proofs.YtemmhhdnlbmicaaGreat
open Go Go.RowKit
/- bindings as a row of terms -/
def KnU (S:av) (c:Array Value) (st:bg):Prop:=st.length * 4<=c.size/\∀ i (h:i<st.length),(st[i]=none->bf c (i * 4) 4=nT)/\(∀ t,st[i]=some t->RdT S (bf c (i * 4) 4) t)
theorem KnU.set {S:av} {c:Array Value} {st:bg} (h:KnU S c st) {n:Nat} (hn:n<st.length) {cs:List Value} {u:T} (hu:RdT S cs u):KnU S (cc c (n * 4) cs) (st.set n (some u)):=by
 have hlc:=hu.length
 have h1:=h.1
 have hs:st.length * 4<=(cc c (n * 4) cs).size:=by rw [i8 _ _ _ (by omega)]; exact h1
 refine ⟨by rw [List.length_set]; exact hs,fun i hi=>?_⟩
 rw [List.length_set] at hi
 by_cases e:n=i
 ·subst e
  rw [List.getElem_set_self]
  refine ⟨fun h=>(by cases h),fun t ht=>?_⟩
  simp only [Option.some.injEq] at ht
  subst ht
  have:=fj (c:=c) (o:=n * 4) (vs:=cs) (by omega)
  rw [hlc] at this
  rw [this]
  exact hu
 ·rw [List.getElem_set_ne e,eh (by omega) (by omega)]
  exact h.2 i hi
theorem KnU.mono {S S':av} {c:Array Value} {st:bg} (h:KnU S c st) (hs:Sle S S'):KnU S' c st:=⟨h.1,fun i hi=>⟨(h.2 i hi).1,fun t ht=>((h.2 i hi).2 t ht).mono hs⟩⟩
section
attribute [local irreducible] Run CondV ag a4
end
/- the variables of a term in a list of numbers -/
section
attribute [local irreducible] Run CondV ag a4
open Classical in
end

end Go.Proofs.YtemmhhdnlbmicaaGreat

/- spec.l3Unify. -/
namespace Go.Proofs.YtemmhhdnlbmicaaGreat
open Go Go.RowKit
/- the calls of a loop over two lists -/
inductive Chain (Call:bg->T->T->Bool->bg->Prop):bg->List T->List T->Bool->bg->Prop
 | nil {st:bg}:Chain Call st [] [] true st
 | stop {st st':bg} {a b:T} {xs ys:List T}:Call st a b false st'->Chain Call st (a::xs) (b::ys) false st'
 | go {st st1 st':bg} {a b:T} {xs ys:List T} {r:Bool}:Call st a b true st1->Chain Call st1 xs ys r st'->Chain Call st (a::xs) (b::ys) r st'
theorem Chain.head {Call:bg->T->T->Bool->bg->Prop} {st st':bg} {a b:T} {xs ys:List T} {r:Bool} (h:Chain Call st (a::xs) (b::ys) r st') :
  ∃ r1 st1,Call st a b r1 st1/\(r1=false->r=false/\st'=st1)/\(r1=true->Chain Call st1 xs ys r st'):=by
 cases h with
 | stop h=>exact ⟨false,_,h,fun _=>⟨rfl,rfl⟩,fun e=>(by cases e)⟩
 | go h h'=>exact ⟨true,_,h,fun e=>(by cases e),fun _=>h'⟩
theorem Chain.done {Call:bg->T->T->Bool->bg->Prop} {st st':bg} {r:Bool} (h:Chain Call st [] [] r st'):r=true/\st'=st:=by
 cases h
 exact ⟨rfl,rfl⟩
/- how a unification of walked terms ends -/
def HK (Call:bg->T->T->Bool->bg->Prop) (st:bg) (a' b':T) (r:Bool) (st':bg):Prop:=
 (a'.kind=1/\b'.kind=1/\a'.n=b'.n/\r=true/\st'=st) ∨
 (a'.kind=1/\¬ (b'.kind=1/\a'.n=b'.n)/\((¬ yB st a'.n.toNat b'/\r=true/\st'=st.set a'.n.toNat (some b')) ∨ (yB st a'.n.toNat b'/\r=false/\st'=st))) ∨
 (a'.kind≠1/\b'.kind=1/\((¬ yB st b'.n.toNat a'/\r=true/\st'=st.set b'.n.toNat (some a')) ∨ (yB st b'.n.toNat a'/\r=false/\st'=st))) ∨
 (a'.kind≠1/\b'.kind≠1/\((iz a' b'=false/\r=false/\st'=st) ∨ (iz a' b'=true/\Chain Call st a'.kids b'.kids r st')))
theorem Uni.calls {N:Nat} {Call:bg->T->T->Bool->bg->Prop} (hcall:∀ st a b a' b' r st',Good N st->okJ N (.one a b)->fx st a a'->fx st b b'->HK Call st a' b' r st'->Call st a b r st') {st st':bg} {j:Job} {r:Bool} (hu:Uni st j r st') :
  Good N st->okJ N j->match j with
   | .one a b=>Call st a b r st'
   | .list xs ys=>Chain Call st xs ys r st':=by
 induction hu with
 | same h1 h2 h3 h4 h5=>exact fun hg hj=>hcall _ _ _ _ _ _ _ hg hj h1 h2 (.inl ⟨h3,h4,h5,rfl,rfl⟩)
 | bindA h1 h2 h3 h4 h5=>exact fun hg hj=>hcall _ _ _ _ _ _ _ hg hj h1 h2 (.inr (.inl ⟨h3,h4,.inl ⟨h5,rfl,rfl⟩⟩))
 | occA h1 h2 h3 h4 h5=>exact fun hg hj=>hcall _ _ _ _ _ _ _ hg hj h1 h2 (.inr (.inl ⟨h3,h4,.inr ⟨h5,rfl,rfl⟩⟩))
 | bindB h1 h2 h3 h4 h5=>exact fun hg hj=>hcall _ _ _ _ _ _ _ hg hj h1 h2 (.inr (.inr (.inl ⟨h3,h4,.inl ⟨h5,rfl,rfl⟩⟩)))
 | occB h1 h2 h3 h4 h5=>exact fun hg hj=>hcall _ _ _ _ _ _ _ hg hj h1 h2 (.inr (.inr (.inl ⟨h3,h4,.inr ⟨h5,rfl,rfl⟩⟩)))
 | clash h1 h2 h3 h4 h5=>exact fun hg hj=>hcall _ _ _ _ _ _ _ hg hj h1 h2 (.inr (.inr (.inr ⟨h3,h4,.inl ⟨h5,rfl,rfl⟩⟩)))
 | kids h1 h2 h3 h4 h5 _ ih=>
  exact fun hg hj=>hcall _ _ _ _ _ _ _ hg hj h1 h2 (.inr (.inr (.inr ⟨h3,h4,.inr ⟨h5,ih hg ⟨sL (iC hg h1 hj.1),sL (iC hg h2 hj.2),zu h5⟩⟩⟩)))
 | nil=>exact fun _ _=>.nil
 | stop _ ih=>exact fun hg hj=>.stop (ih hg ⟨hj.1 _ (List.mem_cons_self ..),hj.2.1 _ (List.mem_cons_self ..)⟩)
 | go h1 _ ih1 ih2=>
  intro hg hj
  have hj1:okJ N (.one _ _):=⟨hj.1 _ (List.mem_cons_self ..),hj.2.1 _ (List.mem_cons_self ..)⟩
  exact .go (ih1 hg hj1) (ih2 (h1.good hg hj1).1 ⟨fun a ha=>hj.1 a (List.mem_cons_of_mem _ ha),fun b hb=>hj.2.1 b (List.mem_cons_of_mem _ hb),by have:=hj.2.2; simpa using this⟩)
section
attribute [local irreducible] Run CondV ag a4
set_option maxHeartbeats 1000000 in
/- the case that a nonvariable meets a variable is handed on, so it comes with a contract -/
end

end Go.Proofs.YtemmhhdnlbmicaaGreat

/- DropClause: both sides. -/
namespace Go.Proofs.YtemmhhdnlbmicaaGreat
open Go Go.RowKit
attribute [local irreducible] Run CondV ag a4

end Go.Proofs.YtemmhhdnlbmicaaGreat

/- DropClause: both sides. -/
namespace Go.Proofs.YtemmhhdnlbmicaaGreat
open Go Go.RowKit
attribute [local irreducible] Run CondV ag a4

end Go.Proofs.YtemmhhdnlbmicaaGreat

/- spec.RenumberClause. -/
namespace Go.Proofs.YtemmhhdnlbmicaaGreat
open Go Go.RowKit
section
attribute [local irreducible] Run CondV ag a4
end

end Go.Proofs.YtemmhhdnlbmicaaGreat

/- spec.RenumberClause: lists and clauses. -/
namespace Go.Proofs.YtemmhhdnlbmicaaGreat
open Go Go.RowKit
section
variable {w:World} {K:Value->World->Prop}
attribute [local irreducible] Run
end
section
attribute [local irreducible] Run CondV ag a4
theorem RdC.zero (S:av):RdC S [.int .i64 0,.int .i64 0,.string ⟨#[]⟩,.slice none 0 0,.slice none 0 0] ⟨⟨0,0,⟨#[]⟩,[]⟩,[]⟩:=
 ⟨[.int .i64 0,.int .i64 0,.string ⟨#[]⟩,.slice none 0 0],.slice none 0 0,rfl,RdT.iff.2 ⟨_,rfl,by simp [inI,T.kind],by simp [inI,T.n],by rw [T.name]; decide +kernel,⟨none,0,rfl,Nat.le_refl _,Nat.zero_le _,.inl rfl⟩⟩,⟨none,0,rfl,Nat.le_refl _,Nat.zero_le _,.inl rfl⟩⟩
end

end Go.Proofs.YtemmhhdnlbmicaaGreat

/- spec: resolved terms, if they are small. -/
namespace Go.Proofs.YtemmhhdnlbmicaaGreat
open Go Go.RowKit
section
attribute [local irreducible] Run CondV ag a4
/- a tuple of a term and of how many nodes are left -/
end

end Go.Proofs.YtemmhhdnlbmicaaGreat

/- spec: shifted terms and clauses. -/
namespace Go.Proofs.YtemmhhdnlbmicaaGreat
open Go Go.RowKit
section
attribute [local irreducible] Run CondV ag a4
end

end Go.Proofs.YtemmhhdnlbmicaaGreat

/- Resolvents: the plain form. -/
namespace Go.Proofs.YtemmhhdnlbmicaaGreat
open Go Go.RowKit
/- weights by nodes -/
/- numbered anew -/
/- the resolvent -/
/- small terms have small weights -/
end Go.Proofs.YtemmhhdnlbmicaaGreat

/- spec.l4Clause. -/
namespace Go.Proofs.YtemmhhdnlbmicaaGreat
open Go Go.RowKit
section
variable {br:Nat} {sl:Value} {ys:List Nat}
attribute [local irreducible] Run CondV ag a4
end
end Go.Proofs.YtemmhhdnlbmicaaGreat

/- What calls what, and what can be reached: both sides. -/
namespace Go.Proofs.YtemmhhdnlbmicaaGreat
open Go Go.RowKit
attribute [local irreducible] Run CondV ag a4

end Go.Proofs.YtemmhhdnlbmicaaGreat

/- The graph of calls: the plain form. -/
namespace Go.Proofs.YtemmhhdnlbmicaaGreat
open Go Go.RowKit
attribute [local irreducible] Run CondV ag a4

/- what may still come in -/
/- rows of predicates: their length, an element -/
section
variable {P:Program} {w w0:World} {X:List Nat} {L:List Item} {S:av} {K:Value->World->Prop}
end

end Go.Proofs.YtemmhhdnlbmicaaGreat

/- What the clauses for a name call: both sides. -/
namespace Go.Proofs.YtemmhhdnlbmicaaGreat
open Go Go.RowKit
attribute [local irreducible] Run CondV ag a4

/- the program's side goes over the clauses' numbers -/
end Go.Proofs.YtemmhhdnlbmicaaGreat

/- What some predicates can lead to: both sides. -/
namespace Go.Proofs.YtemmhhdnlbmicaaGreat
open Go Go.RowKit
attribute [local irreducible] Run CondV ag a4

end Go.Proofs.YtemmhhdnlbmicaaGreat

/- Which predicates can lead to themselves: both sides. -/
namespace Go.Proofs.YtemmhhdnlbmicaaGreat
open Go Go.RowKit
attribute [local irreducible] Run CondV ag a4

end Go.Proofs.YtemmhhdnlbmicaaGreat

/- PredsOf, CallsOf, ReachOf: both sides. -/
namespace Go.Proofs.YtemmhhdnlbmicaaGreat
open Go Go.RowKit
attribute [local irreducible] Run CondV ag a4

end Go.Proofs.YtemmhhdnlbmicaaGreat

/- A predicate that comes in: its size, its copy, its reading. -/
namespace Go.Proofs.YtemmhhdnlbmicaaGreat
open Go Go.ChangeShapes Go.WideShapes Go.ChangeAt Go.RowKit
section
attribute [local irreducible] Run CondV ag a4
end
theorem two {cs:List Value} (h:cs.length=2):∃ a b,cs=[a,b]:=by
 match cs,h with
 | [a,b],_=>exact ⟨a,b,rfl⟩
end Go.Proofs.YtemmhhdnlbmicaaGreat

/- spec.l14Pred, DrawPredsOf, DrawCallsOf, DrawRecursivePred. -/
namespace Go.Proofs.YtemmhhdnlbmicaaGreat
open Go Go.RowKit
section
variable {br:Nat} {sl:Value} {ys:List Nat}
attribute [local irreducible] Run CondV ag a4
theorem Pd.one (x:Pd):∀ u∈x.cells,u.oneCell'=true:=by
 intro u hu
 have hu':u∈([.string x.name,.int .i64 x.arity]:List Value):=hu
 simp at hu'
 rcases hu' with rfl|rfl <;> rfl
end
end Go.Proofs.YtemmhhdnlbmicaaGreat

/- What the laws compare with: pgPreds, pgPred, impl.ClauseSame, pgClauses; bytes that come in. -/
namespace Go.Proofs.YtemmhhdnlbmicaaGreat
open Go Go.ChangeShapes Go.WideShapes Go.ChangeAt Go.RowKit
theorem GN:Tryz.prog.underlying yp=some (.int .u8):=by kernel_rfl
theorem Fr {H:Type} {enc:TypeId × Value->H} {W:World} {sp:Nat->Bool} {held:Bool} {fuel:Nat} {cs:List Value} {x:DataW H × List MemPlace} (h:DataW.trod enc Tryz.prog W 0 sp held fuel yp cs=some x) :
  ∃ n,kF cs n:=by
 cases fuel with
 | zero=>simp [DataW.trod] at h
 | succ n=>
  unfold DataW.trod at h
  rw [GN] at h
  split at h <;> simp_all
  rename_i k1 k2 m he
  subst he
  obtain ⟨⟨_,h⟩,_⟩:=h
  simp only [Lit.wf,Bool.and_eq_true,decide_eq_true_eq] at h
  have h1:0<=m/\m<=255:=h
  exact ⟨m.toNat,by rw [kF,Int.toNat_of_nonneg (by omega)]; exact ⟨rfl,by omega⟩⟩
theorem BJ {H:Type} {enc:TypeId × Value->H} {W:World} {sp:Nat->Bool} {held:Bool} {fuel:Nat} {v:Value} {x:DataW H × List MemPlace} (h:DataW.trod enc Tryz.prog W 0 sp held fuel Aa [v]=some x) :
  ∃ ys,RdSl (CA W) 1 kF v ys:=FR dJ (by omega) h fun _ _ _ _ hy=>Fr hy
section
variable {w0 w:World} {X:List Nat} {L:List Item} {S:av} {K:Value->World->Prop}
attribute [local irreducible] Run CondV ag a4
theorem As (t:T):eqT t t=true:=(gl t t).2 rfl
end
end Go.Proofs.YtemmhhdnlbmicaaGreat

/- What the laws about models compare with: pgTerms, pgFact, impl.CompareTerms, impl.PureProgram. -/
namespace Go.Proofs.YtemmhhdnlbmicaaGreat
open Go Go.RowKit
section
variable {S:av} {ys:List Nat} {v:Value}
attribute [local irreducible] Run CondV ag a4
theorem vl {t:T} {cs ds:List Value} (h:RdT S cs t) (g:RdT S ds t):Pure Tryz.prog gU [.agg cs.toArray,.agg ds.toArray] S (.bool true):=by
 have:=jF t t S cs ds h g
 rwa [As] at this
theorem mD {l:List T} {u v:Value} (h:RdSl S 4 (RdT S) u l) (g:RdSl S 4 (RdT S) v l):Pure Tryz.prog zG [u,v] S (.bool true):=by
 intro w hI
 have hlen:=h.le
 simp only [maxLen] at hlen
 refine ss ?_
 unfold o9
 refine a9 h ay ?_
 refine a9 g ay ?_
 refine fA ?_
 refine aX (fun hb=>by simp at hb) (fun _=>?_)
 refine ⟨fun i w'=>∃ k:Nat,k<=l.length/\i=.int .i64 k/\Inv w [] [] S w',fun i _=>l.length - (intOf i).toNat,⟨0,Nat.zero_le _,rfl,hI⟩,?_⟩
 intro t5 _ _ _ t26 t25 t24 t23 t22 t21 t20 t19 t18 t17 _ _ _ _ w'
 rintro ⟨k,hk,rfl,hI⟩
 refine a9 h ay ?_
 refine co ?_
 refine bp (fun hki=>?_) (fun hki=>done hI rfl)
 have hk':k<l.length:=by omega
 obtain ⟨b,o,cap,c,E,fz,rfl,hS,hR⟩:=h.at_ hk'
 obtain ⟨b2,o2,cap2,c2,E2,fz2,rfl,hS2,hR2⟩:=g.at_ hk'
 refine ⟨fun D de cU cW df c5 db c4 cq dq dz w_=>(D 0=true->dz=.slice (some ⟨b,o,none⟩) l.length cap)/\(D 1=true->dq=.int .i64 k)/\(D 2=true->cq=.pointer (some ⟨b,o+k * 4,none⟩))/\(D 3=true->c4=.agg (bf c (o+k * 4) 4).toArray)/\(D 4=true->db=.slice (some ⟨b2,o2,none⟩) l.length cap2)/\(D 5=true->c5=.int .i64 k)/\(D 6=true->df=.pointer (some ⟨b2,o2+k * 4,none⟩))/\(D 7=true->cW=.agg (bf c2 (o2+k * 4) 4).toArray)/\(D 8=true->cU=.bool true)/\(D 9=true->de=.bool false)/\Inv w [] [] S w_,⟨ae,ae,ae,ae,ae,ae,ae,ae,ae,ae,hI.draw⟩,⟨?_,?_,?_,?_,?_,?_,?_,?_,?_,?_,trivial⟩,?_⟩
 ·intro D a6  de cU cW df c5 db c4 cq dq dz w_
  rintro ⟨aB,aC,aA,aD,ax,aF,aE,aG,aI,aM,hI⟩
  exact ⟨fun _=>rfl,aC,aA,aD,ax,aF,aE,aG,aI,aM,hI⟩
 ·intro D a6  de cU cW df c5 db c4 cq dq dz w_
  rintro ⟨aB,aC,aA,aD,ax,aF,aE,aG,aI,aM,hI⟩
  exact ⟨aB,fun _=>rfl,aA,aD,ax,aF,aE,aG,aI,aM,hI⟩
 ·intro D a6 cV gH de cU cW df c5 db c4 cq dq dz w_
  rintro ⟨aB,aC,aA,aD,ax,aF,aE,aG,aI,aM,hI⟩
  obtain rfl:=aB cV
  obtain rfl:=aC gH
  refine ba ay hk' ?_
  exact ⟨aB,aC,fun _=>rfl,aD,ax,aF,aE,aG,aI,aM,hI⟩
 ·intro D a6 eL de cU cW df c5 db c4 cq dq dz w_
  rintro ⟨aB,aC,aA,aD,ax,aF,aE,aG,aI,aM,hI⟩
  obtain rfl:=aA eL
  refine cu ai hR.length (fun j v hj=>by rw [hI.cellS hS]; exact be rfl j v hj) ?_
  exact ⟨aB,aC,aA,fun _=>rfl,ax,aF,aE,aG,aI,aM,hI⟩
 ·intro D a6  de cU cW df c5 db c4 cq dq dz w_
  rintro ⟨aB,aC,aA,aD,ax,aF,aE,aG,aI,aM,hI⟩
  exact ⟨aB,aC,aA,aD,fun _=>rfl,aF,aE,aG,aI,aM,hI⟩
 ·intro D a6  de cU cW df c5 db c4 cq dq dz w_
  rintro ⟨aB,aC,aA,aD,ax,aF,aE,aG,aI,aM,hI⟩
  exact ⟨aB,aC,aA,aD,ax,fun _=>rfl,aE,aG,aI,aM,hI⟩
 ·intro D a6 dr kH de cU cW df c5 db c4 cq dq dz w_
  rintro ⟨aB,aC,aA,aD,ax,aF,aE,aG,aI,aM,hI⟩
  obtain rfl:=ax dr
  obtain rfl:=aF kH
  refine ba ay hk' ?_
  exact ⟨aB,aC,aA,aD,ax,aF,fun _=>rfl,aG,aI,aM,hI⟩
 ·intro D a6 cA de cU cW df c5 db c4 cq dq dz w_
  rintro ⟨aB,aC,aA,aD,ax,aF,aE,aG,aI,aM,hI⟩
  obtain rfl:=aE cA
  refine cu ai hR2.length (fun j v hj=>by rw [hI.cellS hS2]; exact be rfl j v hj) ?_
  exact ⟨aB,aC,aA,aD,ax,aF,aE,fun _=>rfl,aI,aM,hI⟩
 ·intro D a6 dg mh de cU cW df c5 db c4 cq dq dz w_
  rintro ⟨aB,aC,aA,aD,ax,aF,aE,aG,aI,aM,hI⟩
  obtain rfl:=aD dg
  obtain rfl:=aG mh
  refine Run.callPure iX ja hI (vl hR hR2) fun w_ hI=>?_
  exact ⟨aB,aC,aA,aD,ax,aF,aE,aG,fun _=>rfl,aM,hI⟩
 ·intro D a6 jc de cU cW df c5 db c4 cq dq dz w_
  rintro ⟨aB,aC,aA,aD,ax,aF,aE,aG,aI,aM,hI⟩
  obtain rfl:=aI jc
  refine c9 ?_
  exact ⟨aB,aC,aA,aD,ax,aF,aE,aG,aI,fun _=>rfl,hI⟩
 intro D jG io gc gp f1 fL fJ fP fN fO de cU cW df c5 db c4 cq dq dz w_
 rintro ⟨aB,aC,aA,aD,ax,aF,aE,aG,aI,aM,hI⟩
 obtain rfl:=aM jG
 obtain rfl:=aI io
 obtain rfl:=aG gc
 obtain rfl:=aE gp
 obtain rfl:=aF f1
 obtain rfl:=ax fL
 obtain rfl:=aD fJ
 obtain rfl:=aA fP
 obtain rfl:=aC fN
 obtain rfl:=aB fO
 clear aB aC aA aD ax aF aE aG aI aM
 refine aX (fun hb=>by cases hb) (fun _=>?_)
 refine bC (by omega) ?_
 exact ⟨⟨k+1,hk',rfl,hI⟩,by simp [intOf]; omega⟩
end
end Go.Proofs.YtemmhhdnlbmicaaGreat

/- InstanceOf and FactsFor: both sides. -/
namespace Go.Proofs.YtemmhhdnlbmicaaGreat
open Go Go.RowKit

def iG (u t:T):Bool:=dd u && (dd t && (bm t u st0).1)
def yr (B:List Item) (K:Item) (d2:Bool):List Item:=B++(match d2 with|true=>[K]|false=>[])
section
attribute [local irreducible] Run CondV ag a4
theorem m7 {u t:T} {S:av} {ds cs:List Value} (h:RdT S ds u) (h':RdT S cs t) (hw:dV u<=4611686018427387904) (hw2:dV t<=4611686018427387904):Pure Tryz.prog uO [.agg ds.toArray,.agg cs.toArray] S (.bool (iG u t)):=by
 intro w hI
 have hds:=h
 have hcs:=h'
 obtain ⟨kv,rfl,_,_,_,hks⟩:=RdT.iff.1 h
 obtain ⟨kv',rfl,_,_,_,hks'⟩:=RdT.iff.1 h'
 obtain ⟨k,n,s,ks⟩:=u
 obtain ⟨k',n',s',ks'⟩:=t
 simp only [T.name,T.kids,T.kind,T.n] at hks hks' hds hcs ⊢
 refine m9 ?_
 unfold kz
 refine ca hI fun b1 w' hI=>?_
 refine ca hI fun b2 w' hI=>?_
 have hI:Inv w [] [.blk b1 (.cells #[.int .i64 k,.int .i64 n,.string s,kv] ad),.blk b2 (.cells #[.int .i64 k',.int .i64 n',.string s',kv'] ad)] S w':=hI
 refine ⟨fun q w'=>q=.bool (!(dd (.mk k n s ks) && dd (.mk k' n' s' ks')))/\Inv w [] [.blk b1 (.cells #[.int .i64 k,.int .i64 n,.string s,kv] ad),.blk b2 (.cells #[.int .i64 k',.int .i64 n',.string s',kv'] ad)] S w',?_,?_⟩
 ·refine a8 hI 0 ai rfl rfl ?_
  refine Run.callPure fa eV hI (el hds hw) fun w' hI=>?_
  refine c9 ?_
  cases hv1:dd (.mk k n s ks)
  ·repeat (first|refine ac ?_|refine af (by decide) ?_|refine ab ?_|refine al ?_|refine ak ?_)
   exact ⟨rfl,hI⟩
  repeat (first|refine ac ?_|refine af (by decide) ?_|refine ab ?_|refine al ?_|refine ak ?_)
  refine a8 hI 1 ai rfl rfl ?_
  refine Run.callPure fa eV hI (el hcs hw2) fun w' hI=>?_
  refine c9 ?_
  repeat (first|refine ac ?_|refine af (by decide) ?_|refine ab ?_|refine al ?_|refine ak ?_)
  exact ⟨rfl,hI⟩
 intro q _ _ _ _ _ _ _ w'
 rintro ⟨rfl,hI⟩
 rw [iG,<- Bool.and_assoc]
 cases hv:(dd (.mk k n s ks) && dd (.mk k' n' s' ks'))
 ·refine aX (fun _=>done hI rfl) (fun hb=>by cases hb)
 refine aX (fun hb=>by cases hb) (fun _=>?_)
 rw [Bool.and_eq_true] at hv
 rw [Bool.true_and]
 have hcall:∀ (kb:Nat) (kc:Array Value),KnownC S kc st0->_:=fun kb kc hkc=>mt 26 _ _ S _ _ kb kc st0 hcs hds (pu hv.2).1 (pu hv.1).2 DL hkc
 generalize bm (.mk k' n' s' ks') (.mk k n s ks) st0=r at hcall ⊢
 refine ⟨fun D x4 dy eB fe fl w_=>(D 0=true->fl=.agg #[.int .i64 k',.int .i64 n',.string s',kv'])/\(D 1=true->fe=.agg #[.int .i64 k,.int .i64 n,.string s,kv])/\(D 2=true->True)/\(D 3=true->dy=.bool r.1)/\(D 4=true->x4=.bool r.1)/\∃ kb kc,(D 2=true->eB=kv0 kb)/\(D 3=true->D 2=true)/\(D 3=false->D 2=true->KnownC S kc st0)/\Inv w [] (yr [.blk b1 (.cells #[.int .i64 k,.int .i64 n,.string s,kv] ad),.blk b2 (.cells #[.int .i64 k',.int .i64 n',.string s',kv'] ad)] (.blk kb (.cells kc ad)) (D 2)) S w_,⟨ae,ae,ae,ae,ae,⟨0,#[],ae,ae,fun _ h=>Bool.noConfusion h,hI.draw⟩⟩,⟨?_,?_,?_,?_,?_,trivial⟩,?_⟩
 ·intro D a6  x4 dy eB fe fl w_
  rintro ⟨aB,aC,aA,aD,ax,⟨kb,kc,e2,k3,e3,hI⟩⟩
  refine a8 hI 1 ai rfl rfl ?_
  exact ⟨fun _=>rfl,aC,aA,aD,ax,⟨kb,kc,e2,k3,e3,hI⟩⟩
 ·intro D a6  x4 dy eB fe fl w_
  rintro ⟨aB,aC,aA,aD,ax,⟨kb,kc,e2,k3,e3,hI⟩⟩
  refine a8 hI 0 ai rfl rfl ?_
  exact ⟨aB,fun _=>rfl,aA,aD,ax,⟨kb,kc,e2,k3,e3,hI⟩⟩
 ·intro D a6  x4 dy eB fe fl w_
  rintro ⟨aB,aC,aA,aD,ax,⟨kb,kc,e2,k3,e3,hI⟩⟩
  have f3:D 3=false:=Bool.eq_false_iff.2 fun h=>by rw [k3 h] at a6; cases a6
  rw [a6] at hI
  refine pi (n:=26) hI bn (by omega) (by omega) (by omega) fun kb w_ hI=>?_
  have hkc0:=CN _ rfl S
  obtain ⟨kc,hkce⟩:∃ kc,kc=(Array.range 104).map ((#[.int .i64 0,.int .i64 0,.string ⟨#[]⟩,.slice none 0 0]:Array Value)[· % (#[.int .i64 0,.int .i64 0,.string ⟨#[]⟩,.slice none 0 0]:Array Value).size]!):=⟨_,rfl⟩
  rw [<- hkce] at hkc0
  have e2:aw D 2 2=true->kv0 kb=kv0 kb:=fun _=>rfl
  have k3:=fun (_:aw D 2 3=true)=>(rfl:aw D 2 2=true)
  have e3:=fun (_:aw D 2 3=false) (_:aw D 2 2=true)=>hkc0
  have hI:Inv w [] (yr [.blk b1 (.cells #[.int .i64 k,.int .i64 n,.string s,kv] ad),.blk b2 (.cells #[.int .i64 k',.int .i64 n',.string s',kv'] ad)] (.blk kb (.cells kc ad)) true) S w_:=by rw [hkce]; exact hI
  exact ⟨aB,aC,fun _=>by first|assumption|trivial,aD,ax,⟨kb,kc,e2,k3,e3,hI⟩⟩
 ·intro D a6 cV gH sq x4 dy eB fe fl w_
  rintro ⟨aB,aC,aA,aD,ax,⟨kb,kc,e2,k3,e3,hI⟩⟩
  obtain rfl:=aB cV
  obtain rfl:=aC gH
  have Iw:=aA sq
  have q2:=e2 sq
  subst q2
  have hkc:=e3 a6 sq
  rw [sq] at hI
  refine Run.call (A:=[_,_]) jP j5 hI (hcall kb kc hkc) fun v' I' S' w_=>?_
  rintro ⟨rfl,rfl,kc,rfl,_⟩ _ hI
  have e3:=fun (h:aw D 3 3=false)=>(Bool.noConfusion h:aw D 3 2=true->KnownC S' kc st0)
  have k3:=fun (_:aw D 3 3=true)=>sq
  have hI:Inv w [] (yr [.blk b1 (.cells #[.int .i64 k,.int .i64 n,.string s,kv] ad),.blk b2 (.cells #[.int .i64 k',.int .i64 n',.string s',kv'] ad)] (.blk kb (.cells kc ad)) (D 2)) S' w_:=by rw [sq]; exact hI
  exact ⟨aB,aC,aA,fun _=>rfl,ax,⟨kb,kc,e2,k3,e3,hI⟩⟩
 ·intro D a6 dg Bh ul ve u5 vw x4 dy eB fe fl w_
  rintro ⟨aB,aC,aA,aD,ax,⟨kb,kc,e2,k3,e3,hI⟩⟩
  obtain rfl:=aD dg
  exact ⟨aB,aC,aA,aD,fun _=>rfl,⟨kb,kc,e2,k3,e3,hI⟩⟩
 intro D fL fJ fP fN fO x4 dy eB fe fl w_
 rintro ⟨aB,aC,aA,aD,ax,⟨kb,kc,e2,k3,e3,hI⟩⟩
 obtain rfl:=ax fL
 obtain rfl:=aD fJ
 have Iw:=aA fP
 obtain rfl:=aC fN
 obtain rfl:=aB fO
 clear aB aC aA aD ax
 exact done hI rfl
theorem ip {u t:T} {S:av} {ds cs:List Value} (h:RdT S ds u) (h':RdT S cs t):Pure Tryz.prog sZ [.agg ds.toArray,.agg cs.toArray] S (.bool (iG u t)):=by
 intro w hI
 have hds:=h
 have hcs:=h'
 obtain ⟨kv,rfl,_,_,_,hks⟩:=RdT.iff.1 h
 obtain ⟨kv',rfl,_,_,_,hks'⟩:=RdT.iff.1 h'
 obtain ⟨k,n,s,ks⟩:=u
 obtain ⟨k',n',s',ks'⟩:=t
 simp only [T.name,T.kids,T.kind,T.n] at hks hks' hds hcs ⊢
 refine nh ?_
 unfold kx;dsimp only
 refine ca hI fun b1 w' hI=>?_
 refine ca hI fun b2 w' hI=>?_
 have hI:Inv w [] [.blk b1 (.cells #[.int .i64 k,.int .i64 n,.string s,kv] ad),.blk b2 (.cells #[.int .i64 k',.int .i64 n',.string s',kv'] ad)] S w':=hI
 refine a8 hI 0 ai rfl rfl ?_
 refine Run.callPure lm l4 hI (jo hds) fun w' hI=>?_
 rw [iG]
 cases hv1:dd (.mk k n s ks)
 ·repeat (first|refine ac ?_|refine af (by decide) ?_|refine ab ?_|refine al ?_|refine ak ?_)
  exact done hI rfl
 repeat (first|refine ac ?_|refine af (by decide) ?_|refine ab ?_|refine al ?_|refine ak ?_)
 refine a8 hI 1 ai rfl rfl ?_
 refine Run.callPure lm l4 hI (jo hcs) fun w' hI=>?_
 cases hv2:dd (.mk k' n' s' ks')
 ·repeat (first|refine ac ?_|refine af (by decide) ?_|refine ab ?_|refine al ?_|refine ak ?_)
  exact done hI rfl
 repeat (first|refine ac ?_|refine af (by decide) ?_|refine ab ?_|refine al ?_|refine ak ?_)
 refine a8 hI 0 ai rfl rfl ?_
 refine a8 hI 1 ai rfl rfl ?_
 refine Dr hI fun mb w' hI=>?_
 refine Run.call (A:=[_,_]) mz mH hI (tv _ _ S _ _ mb 0 #[] st0 hcs hds (pu hv2).1 (pu hv1).2 DL (KnownM.empty S)) fun v' I' S' w'=>?_
 rintro ⟨rfl,rfl,es,ck,rfl,_⟩ _ hI
 repeat (first|refine ac ?_|refine af (by decide) ?_|refine ab ?_|refine al ?_|refine ak ?_)
 exact done hI rfl
end

end Go.Proofs.YtemmhhdnlbmicaaGreat

/- FactsFor: both sides. -/
namespace Go.Proofs.YtemmhhdnlbmicaaGreat
open Go Go.RowKit

def cZ (l:List T) (g:T):List T:=l.filter fun t=>iG t g
theorem EB (l:List T) (g:T):(cZ l g).length+wL (cZ l g)<=l.length+wL l:=by
 unfold cZ
 induction l with
 | nil=>simp
 | cons t l ih=>
  rw [List.filter_cons]
  split
  ·simp only [List.length_cons,wL]; omega
  ·simp only [List.length_cons,wL]; omega
section
attribute [local irreducible] Run CondV ag a4
theorem qo {l:List T} {g:T} {S:av} {v:Value} {cs:List Value} (h:RdSl S 4 (RdT S) v l) (hg:RdT S cs g) (hw:l.length+wL l<=1048576) (hw2:dV g<=4611686018427387904) :
  Tri Tryz.prog yq [v,.agg cs.toArray] [] S (uL 4 TrT S (cZ l g)):=by
 intro w hI
 have hlg:=hg.length
 refine pH ?_
 unfold mA
 refine ca hI fun b3 w' hI=>?_
 refine dL hI bn fun v0 w' hI=>?_
 refine ⟨fun i t w'=>∃ (k:Nat) (Ls:List bl) (css:List (List Value)) (ys:List T),k<=l.length/\i=.int .i64 k/\Grown 4 TrT Ls css ys/\ys++cZ (l.drop k) g=cZ l g/\ys.length<=k/\
   Inv w [] (.blk b3 (.cells cs.toArray ad)::bq t ad 4 css::bB Ls.flatten) S w',fun i _ _=>l.length - (intOf i).toNat,⟨0,[],[],[],Nat.zero_le _,rfl,Grown.nil _ _,rfl,Nat.le_refl _,hI⟩,?_⟩
 intro t6 _ _ t5 _ _ _ _ _ _ _ _ _ _ _ _ _ _ _ _ _ _ w'
 rintro ⟨k,Ls,css,ys,hk,rfl,hgr,hrel,hyk,hI⟩
 refine a9 h ay ?_
 refine co ?_
 refine bp (fun hki=>?_) (fun hki=>?_)
 ·have hk':k<l.length:=by omega
  have hm:=List.getElem_mem hk'
  have hwm:=i0 hm
  have hcn:=xn [l[k]]
  have hcl:=hgr.hc
  simp only [dH,wL,List.length_cons,List.length_nil] at hcn
  have hstep:=ze (fun t=>iG t g) l k hk' ys
  refine ⟨fun t w'=>∃ Ls css,Grown 4 TrT Ls css (if iG l[k] g=true then ys++[l[k]] else ys)/\Inv w [] (.blk b3 (.cells cs.toArray ad)::bq t ad 4 css::bB Ls.flatten) S w',?_,?_⟩
  ·have h0:=h
   obtain ⟨b,o,cap,c,E,fz,rfl,hS,hR⟩:=h.at_ hk'
   refine ⟨fun D cq dq dz dy eB fe w_=>(D 0=true->fe=.slice (some ⟨b,o,none⟩) l.length cap)/\(D 1=true->eB=.int .i64 k)/\(D 2=true->dy=.pointer (some ⟨b,o+k * 4,none⟩))/\(D 3=true->dz=.agg (bf c (o+k * 4) 4).toArray)/\(D 4=true->dq=.agg cs.toArray)/\(D 5=true->cq=.bool (iG l[k] g))/\Inv w [] (.blk b3 (.cells cs.toArray ad)::bq t5 ad 4 css::bB Ls.flatten) S w_,⟨ae,ae,ae,ae,ae,ae,hI.draw⟩,⟨?_,?_,?_,?_,?_,?_,trivial⟩,?_⟩
   ·intro D a6  cq dq dz dy eB fe w_
    rintro ⟨aB,aC,aA,aD,ax,aF,hI⟩
    exact ⟨fun _=>rfl,aC,aA,aD,ax,aF,hI⟩
   ·intro D a6  cq dq dz dy eB fe w_
    rintro ⟨aB,aC,aA,aD,ax,aF,hI⟩
    exact ⟨aB,fun _=>rfl,aA,aD,ax,aF,hI⟩
   ·intro D a6 cV gH cq dq dz dy eB fe w_
    rintro ⟨aB,aC,aA,aD,ax,aF,hI⟩
    obtain rfl:=aB cV
    obtain rfl:=aC gH
    refine ba ay hk' ?_
    exact ⟨aB,aC,fun _=>rfl,aD,ax,aF,hI⟩
   ·intro D a6 eL cq dq dz dy eB fe w_
    rintro ⟨aB,aC,aA,aD,ax,aF,hI⟩
    obtain rfl:=aA eL
    refine cu ai hR.length (fun j v hj=>by rw [hI.cellS hS]; exact be rfl j v hj) ?_
    exact ⟨aB,aC,aA,fun _=>rfl,ax,aF,hI⟩
   ·intro D a6  cq dq dz dy eB fe w_
    rintro ⟨aB,aC,aA,aD,ax,aF,hI⟩
    refine a8 hI 0 ai rfl (by simpa using hlg) ?_
    exact ⟨aB,aC,aA,aD,fun _=>rfl,aF,hI⟩
   ·intro D a6 dg dW cq dq dz dy eB fe w_
    rintro ⟨aB,aC,aA,aD,ax,aF,hI⟩
    obtain rfl:=aD dg
    obtain rfl:=ax dW
    refine Run.callPure sF sK hI (m7 hR hg (by omega) hw2) fun w_ hI=>?_
    exact ⟨aB,aC,aA,aD,ax,fun _=>rfl,hI⟩
   intro D f1 fL fJ fP fN fO cq dq dz dy eB fe w_
   rintro ⟨aB,aC,aA,aD,ax,aF,hI⟩
   obtain rfl:=aF f1
   obtain rfl:=ax fL
   obtain rfl:=aD fJ
   obtain rfl:=aA fP
   obtain rfl:=aC fN
   obtain rfl:=aB fO
   clear aB aC aA aD ax aF
   refine aX (fun hb=>?_) (fun hb=>?_)
   ·refine ec hI h0 ay ai hk' (fun _ _=>RdT.length) fun cs' hcs'=>?_
    refine Run.call0 er eG hI (fh _ S _ hcs' (by omega)) fun v' I' S' w'=>?_
    rintro ⟨rfl,cs2,L,rfl,rfl,hT⟩ _ hI
    refine fi hI 1 cs2 bn (by omega) (by omega) rfl hT.length hT.one (by omega) (by omega) fun v' w' hI=>?_
    refine ⟨Ls++[L],css++[cs2],?_,?_⟩
    ·rw [if_pos hb]; exact hgr.snoc hT hT.length
    ·simp only [List.flatten_append,List.flatten_cons,List.flatten_nil,List.append_nil,dU]
     exact hI
   ·exact ⟨Ls,css,by rw [if_neg (by rw [hb]; decide)]; exact hgr,hI⟩
  ·intro t5 _ _ _ _ _ _ _ _ _ _ _ _ _ _ w'
   rintro ⟨Ls,css,hgr,hI⟩
   refine bC (by omega) ?_
   refine ⟨⟨k+1,Ls,css,_,hk',rfl,hgr,by rw [<- hrel]; exact hstep,?_,hI⟩,by simp [intOf]; omega⟩
   split
   ·simp; omega
   ·omega
 ·have:k=l.length:=by omega
  subst this
  have hrel:ys=cZ l g:=by rw [<- hrel,List.drop_length]; simp [cZ]
  subst hrel
  have hI:Inv w [] ([]++(bq t5 ad 4 css::bB Ls.flatten)) S w':=hI.sub (List.sublist_cons_self _ _)
  obtain ⟨L,hT,hI⟩:=Inv.rowTree hI hgr
  exact ⟨_,_,_,rfl,hI,Ext.refl _ _ _,rfl,_,rfl,hT⟩
theorem qm {x g:T} {S:av} {ds cs:List Value} {b3:Nat} (hx:RdT S ds x) (hg:RdT S cs g) (hb:S b3=some (.cells cs.toArray ad)) :
  Pure Tryz.prog tO [.agg ds.toArray,.pointer (some ⟨b3,0,none⟩)] S (.bool (!iG x g)):=by
 intro w hI
 have hlx:=hx.length
 have hlg:=hg.length
 refine nj ?_
 unfold j9
 refine ca hI fun b2 w' hI=>?_
 refine a8 hI 0 ai rfl (by simpa [Value.cells] using hlx) ?_
 refine cu (cs:=cs) ai hlg (fun j v hj=>by rw [hI.cellS hb,Nat.zero_add]; simpa using hj) ?_
 refine Run.callPure ku ki hI (ip hx hg) fun w' hI=>?_
 refine c9 ?_
 exact done hI rfl
theorem jD {l:List T} {g:T} {S:av} {v:Value} {cs:List Value} (h:RdSl S 4 (RdT S) v l) (hg:RdT S cs g) (hw:l.length+wL l<=1048576) :
  Tri Tryz.prog pE [v,.agg cs.toArray] [] S (uL 4 TrT S (cZ l g)):=by
 intro w hI
 have hfw:=EB l g
 refine pF ?_
 unfold mQ
 refine ca hI fun b3 w' hI=>?_
 obtain ⟨hI,hle⟩:=Inv.publishLast (L:=[]) hI
 have hb:gz S b3 (.cells (Value.agg cs.toArray).cells ad) b3=some (.cells cs.toArray ad):=by simp [gz,Value.cells]
 generalize gz S b3 (.cells (Value.agg cs.toArray).cells ad)=S1 at hI hle hb
 refine Run.call0 r4 rQ hI (qk (h.monoT hle) (by omega)) fun v1 I' S' w'=>?_
 rintro ⟨rfl,css,rfl,hR⟩ _ hI
 refine uo ?_
 refine Run.call (A:=[]) l3 kM hI (kJ (p:=fun x=>!iG x g) rT sJ (cap:=[.pointer (some ⟨b3,0,none⟩)]) (fun S2 hle2 x _ ds hds=>qm hds (hg.mono (hle.trans hle2)) (hle2 _ _ hb)) hR (by omega)) fun v2 I' S2 w'=>?_
 rintro ⟨rfl,hr⟩ hle2 hI
 have hfe:(l.filter fun x=>!(!iG x g))=cZ l g:=by simp [cZ]
 rw [hfe] at hr
 refine Run.call0 nE ph hI (vg hr (by omega)) fun v3 I' S' w'=>?_
 rintro ⟨rfl,L,rfl,hT⟩ _ hI
 exact ⟨_,_,_,rfl,hI.less (hle.trans hle2),Ext.refl _ _ _,rfl,L,rfl,hT⟩
end

end Go.Proofs.YtemmhhdnlbmicaaGreat

/- Matching and substitution, in plain Lean: a match is found exactly if there is a substitution; subsumption is an order. -/
namespace Go.Proofs.YtemmhhdnlbmicaaGreat
open Go Go.RowKit
mutual
def sbT (σ:Int->T):T->T
 | .mk k n s ks=>if k=1 then σ n else .mk k n s (sbL σ ks)
def sbL (σ:Int->T):List T->List T
 | []=>[]
 | t::ts=>sbT σ t::sbL σ ts
end
theorem xJ (σ:Int->T):∀ ts:List T,(sbL σ ts).length=ts.length
 | []=>rfl
 | t::ts=>by rw [sbL,List.length_cons,xJ σ ts,List.length_cons]
def idS (n:Int):T:=.mk 1 n emptyB []
/- a substitution that a table knows -/
def Agk (σ:Int->T) (st:bg):Prop:=∀ (i:Nat) (t:T),st[i]?=some (some t)->σ i=t
def Gek (st st':bg):Prop:=st'.length=st.length/\∀ (i:Nat) (t:T),st[i]?=some (some t)->st'[i]?=some (some t)
theorem Gek.refl (st:bg):Gek st st:=⟨rfl,fun _ _ h=>h⟩
theorem Gek.trans {a b c:bg} (h:Gek a b) (h':Gek b c):Gek a c:=⟨h'.1.trans h.1,fun i t hi=>h'.2 i t (h.2 i t hi)⟩
theorem Agk.less {σ:Int->T} {a b:bg} (h:Agk σ b) (hg:Gek a b):Agk σ a:=fun i t hi=>h i t (hg.2 i t hi)
theorem y3 {t u:T}:iz t u=true↔t.kind=u.kind/\t.n=u.n/\t.name=u.name/\t.kids.length=u.kids.length:=by
 simp [iz]
mutual
theorem l7:∀ (t u:T) (st:bg),okV t->Gek st (bm t u st).2
 | .mk k n s ks,u,st,hv=>by
  rw [okV] at hv
  rw [bm]
  by_cases hk:k=1
  ·rw [if_pos hk]
   split
   ·exact Gek.refl _
   ·rename_i hno
    refine ⟨by simp,fun i t hi=>?_⟩
    rw [List.getElem?_set]
    split
    ·rename_i e
     subst e
     exact absurd hi (hno t)
    ·exact hi
  ·rw [if_neg hk]
   split
   ·exact qr ks u.kids st hv.2
   ·exact Gek.refl _
theorem qr:∀ (ts us:List T) (st:bg),lp ts->Gek st (cS ts us st).2
 | [],_,st,_=>by rw [cS]; exact Gek.refl _
 | _::_,[],st,_=>by rw [cS]; exact Gek.refl _
 | t::ts,u::us,st,hv=>by
  rw [lp] at hv
  rw [cS]
  split
  ·exact (l7 t u st hv.1).trans (qr ts us _ hv.2)
  ·exact l7 t u st hv.1
end
/- what is found is right -/
mutual
theorem oH (σ:Int->T):∀ (t u:T) (st:bg),okV t->st.length=26->(bm t u st).1=true->Agk σ (bm t u st).2->sbT σ t=u
 | .mk k n s ks,u,st,hv,hl,hm,ha=>by
  rw [okV] at hv
  rw [bm] at hm ha
  by_cases hk:k=1
  ·obtain ⟨h0,h1⟩:=hv.1 hk
   rw [if_pos hk] at hm ha
   rw [sbT,if_pos hk]
   split at hm
   ·rename_i t0 hst
    rw [hst] at ha
    have:=ha n.toNat t0 hst
    rw [Int.toNat_of_nonneg h0] at this
    rw [this]
    exact (gl _ _).1 hm
   ·rename_i hno
    split at ha
    ·rename_i t0 hst
     exact absurd hst (hno t0)
    ·have:=ha n.toNat u (by rw [List.getElem?_set_self (by omega)])
     rwa [Int.toNat_of_nonneg h0] at this
  ·rw [if_neg hk] at hm ha
   rw [sbT,if_neg hk]
   split at hm
   ·rename_i hh
    rw [if_pos hh] at ha
    obtain ⟨h1,h2,h3,h4⟩:=y3.1 hh
    have:=oA σ ks u.kids st hv.2 hl (Nat.le_of_eq h4) hm ha
    rw [this]
    cases u
    simp only [T.kind,T.n,T.name,T.kids] at h1 h2 h3 ⊢
    rw [h1,h2,h3]
    congr 1
    rw [List.take_of_length_le]
    simp only [T.kids] at h4
    omega
   ·cases hm
theorem oA (σ:Int->T):∀ (ts us:List T) (st:bg),lp ts->st.length=26->ts.length<=us.length->(cS ts us st).1=true->Agk σ (cS ts us st).2->sbL σ ts=us.take ts.length
 | [],us,st,_,_,_,_,_=>by rw [sbL]; rfl
 | t::ts,[],st,_,_,hlen,_,_=>by simp at hlen
 | t::ts,u::us,st,hv,hl,hlen,hm,ha=>by
  rw [lp] at hv
  rw [cS] at hm ha
  split at hm
  ·rename_i h1
   rw [if_pos h1] at ha
   have hg:=l7 t u st hv.1
   have hg2:=qr ts us (bm t u st).2 hv.2
   rw [sbL,List.length_cons,List.take_succ_cons,oH σ t u st hv.1 hl h1 (ha.less hg2),oA σ ts us _ hv.2 (hg.1.trans hl) (by simpa using hlen) hm ha]
  ·cases hm
end
/- what is right is found -/
mutual
theorem pl (σ:Int->T):∀ (t u:T) (st:bg),okV t->st.length=26->Agk σ st->sbT σ t=u->(bm t u st).1=true/\Agk σ (bm t u st).2
 | .mk k n s ks,u,st,hv,hl,ha,hs=>by
  rw [okV] at hv
  rw [bm]
  by_cases hk:k=1
  ·obtain ⟨h0,h1⟩:=hv.1 hk
   rw [sbT,if_pos hk] at hs
   rw [if_pos hk]
   split
   ·rename_i t0 hst
    have:=ha n.toNat t0 hst
    rw [Int.toNat_of_nonneg h0,hs] at this
    exact ⟨(gl _ _).2 this.symm,ha⟩
   ·refine ⟨rfl,fun i t hi=>?_⟩
    rw [List.getElem?_set] at hi
    split at hi
    ·rename_i e
     subst e
     rw [if_pos (by omega)] at hi
     simp only [Option.some.injEq] at hi
     rw [Int.toNat_of_nonneg h0,hs,hi]
    ·exact ha i t hi
  ·rw [sbT,if_neg hk] at hs
   subst hs
   rw [if_neg hk,if_pos ((y3 (t:=.mk k n s ks) (u:=.mk k n s (sbL σ ks))).2 ⟨rfl,rfl,rfl,(xJ σ ks).symm⟩)]
   exact pb σ ks (sbL σ ks) st hv.2 hl ha (by rw [List.take_of_length_le (by rw [xJ]; exact Nat.le_refl _)])
theorem pb (σ:Int->T):∀ (ts us:List T) (st:bg),lp ts->st.length=26->Agk σ st->sbL σ ts=us.take ts.length->(cS ts us st).1=true/\Agk σ (cS ts us st).2
 | [],us,st,_,_,ha,_=>by rw [cS]; exact ⟨rfl,ha⟩
 | t::ts,[],st,_,_,_,hs=>by simp [sbL] at hs
 | t::ts,u::us,st,hv,hl,ha,hs=>by
  rw [lp] at hv
  rw [sbL,List.length_cons,List.take_succ_cons,List.cons.injEq] at hs
  rw [cS]
  obtain ⟨h1,h2⟩:=pl σ t u st hv.1 hl ha hs.1
  rw [if_pos h1]
  exact pb σ ts us _ hv.2 ((l7 t u st hv.1).1.trans hl) h2 hs.2
end
def ofK (st:bg) (n:Int):T:=match st[n.toNat]? with
 | some (some t)=>t
 | _=>idS n
theorem Ft (st:bg):Agk (ofK st) st:=fun i t h=>by rw [ofK,Int.toNat_natCast,h]
theorem Fi (σ:Int->T):Agk σ st0:=fun i t h=>by
 simp only [st0,List.getElem?_replicate] at h
 split at h <;> cases h
theorem CY {t u:T} (hv:okV t):(bm t u st0).1=true↔∃ σ,sbT σ t=u:=
 ⟨fun h=>⟨_,oH _ t u st0 hv (by simp [st0]) h (Ft _)⟩,fun ⟨σ,h⟩=>(pl σ t u st0 hv (by simp [st0]) (Fi σ) h).1⟩
end Go.Proofs.YtemmhhdnlbmicaaGreat

/- FnFactsFor returns true, whatever bytes come in: the walk. -/
namespace Go.Proofs.YtemmhhdnlbmicaaGreat
open Go Go.RowKit
theorem Fct.ground {x:T} (h:Fct x) (σ:Int->T):sbT σ x=x:=by
 obtain ⟨hk,_,hy⟩:=h
 obtain ⟨k,n,s,ks⟩:=x
 simp only [T.kind,T.kids] at hk hy
 subst hk
 have:∀ l:List T,(∀ y∈l,wA y)->sbL σ l=l:=by
  intro l
  induction l with
  | nil=>intro _; rfl
  | cons y l ih=>
   intro h
   obtain ⟨_,h2,h3⟩:=h y (List.mem_cons_self ..)
   obtain ⟨k,n,s,ks⟩:=y
   simp only [T.kids,T.kind] at h2 h3
   subst h2
   rw [sbL,ih fun z hz=>h z (List.mem_cons_of_mem _ hz),sbT,if_neg h3,sbL]
 rw [sbT,if_neg (by decide),this ks hy]
theorem lq {f x:T} (hf:Fct f) (hx:Fct x):iG f x=eqT f x:=by
 rw [iG,hf.valid,hx.valid,Bool.true_and,Bool.true_and]
 rw [Bool.eq_iff_iff,CY hx.ok.1,gl]
 constructor
 ·rintro ⟨σ,h⟩
  rw [hx.ground] at h
  exact h.symm
 ·rintro rfl
  exact ⟨idS,hf.ground _⟩
theorem xc:∀ {l:List T} {x:T},(∀ y∈l,Fct y)->l.Nodup->x∈l->cZ l x=[x]
 | [],x,_,_,h=>by cases h
 | y::l,x,hF,hN,h=>by
  have hx:=hF x h
  have hy:=hF y (List.mem_cons_self ..)
  rw [List.nodup_cons] at hN
  have hnil:∀ l:List T,(∀ y∈l,Fct y)->x ∉ l->cZ l x=[]:=by
   intro l hl hn
   rw [cZ,List.filter_eq_nil_iff]
   intro z hz
   rw [lq (hl z hz) hx]
   intro e
   rw [(gl _ _).1 e] at hz
   exact hn hz
  rcases FM y x with rfl|hne
  ·have:cZ (y::l) y=y::cZ l y:=by
    rw [cZ,List.filter_cons_of_pos (by rw [lq hy hy]; exact As y)]
    rfl
   rw [this,hnil l (fun z hz=>hF z (List.mem_cons_of_mem _ hz)) hN.1]
  ·have hxl:x∈l:=by
    rcases List.mem_cons.1 h with e|h
    ·exact absurd e.symm hne
    ·exact h
   have:cZ (y::l) x=cZ l x:=by
    rw [cZ,List.filter_cons_of_neg (by rw [lq hy hx]; exact fun e=>hne ((gl _ _).1 e))]
    rfl
   rw [this]
   exact xc (fun z hz=>hF z (List.mem_cons_of_mem _ hz)) hN.2 hxl
section
variable {S:av} {ys:List Nat} {v:Value}
variable {w w0:World} {X:List Nat} {L:List Item} {K:Value->World->Prop}
attribute [local irreducible] Run CondV ag a4
theorem Run.pubTreeS {f:FuncId} {fn:Func} {args:List Value} {zs:List T} (hf:Tryz.prog.funcs[f]?=some fn) (hn:(fn.name == "runtime.NumGoroutine" || fn.body.isNone)=false) (hI:Inv w0 X L S w)
  (hc:Tri Tryz.prog f args [] S (uL 4 TrT S zs)) (hk:∀ u S' w',Sle S S'->RdSl S' 4 (RdT S') u zs->Inv w0 X L S' w'->K u w'):Run Tryz.prog (aH (.func (.func f) #[] #[]) args) w K:=by
 refine Run.call0 hf hn hI hc fun v' I' S' w'=>?_
 rintro ⟨rfl,M,rfl,hT⟩ hle hI
 obtain ⟨S1,hle1,hins,hI,_⟩:=Inv.lendAll M hI
 exact hk _ _ _ hle1 (hT.rd hins fun _ _ _ hi h=>h.rd hi) hI
theorem Ba {α:Type} {R:List Value->α->Prop} {xs:List α} {u:Value} {T ty e:TypeId} {k l:Nat} {P:Program} (hT:c8 P T=some (e,k)) (hx:RdSl S k R u xs) (hl:l<xs.length)
  (hk:∀ v',RdSl S k R v' [xs[l]]->K v' w):Run P (sOp (.slice T (.const u) (some (.const (.int .i64 l))) (some (.const (.int .i64 ((l+1:Nat):Int)))) none) ty) w K:=by
 obtain ⟨a,cap,rfl,hlc,hc,hx'⟩:=id hx
 have h1:=hx.to (show l+1<=xs.length by omega)
 have e:(if cap=0 then a else a.map (·.add (0 * k)))=a:=by
  split
  ·rfl
  ·cases a <;> simp [Addr.add]
 rw [e] at h1
 have hlt:(xs.take (l+1)).length=l+1:=by rw [List.length_take]; omega
 have h2:=h1.from (l:=l) (by omega)
 have e2:(xs.take (l+1)).drop l=[xs[l]]:=by
  rw [List.take_succ_eq_append_getElem hl]
  exact List.drop_left' (by rw [List.length_take]; omega)
 rw [e2] at h2
 exact FL hT (by omega) (by omega) (hk _ h2)
theorem vf (h:RdSl S 1 kF v ys):Pure Tryz.prog di [v] S (.bool true):=by
 intro w hI
 refine ne ?_
 unfold j8
 refine a9 h dJ ?_
 refine dS ?_
 refine bp (fun _=>done hI rfl) (fun _=>?_)
 refine Run.call0E ow nG hI (m8 h) fun t10 I' S1 w'=>?_
 rintro ⟨rfl,u,fs,cs,g,rfl,hfs,hg,hwg,hF,hlen,hwl⟩ hE1 hI
 have hI:Inv w [] [] S1 w':=hI
 obtain ⟨au,mu,rfl,_⟩:=id hfs
 refine a5 (v:=.slice au fs.length mu) rfl ?_
 refine a5 (v:=.agg cs.toArray) rfl ?_
 refine bw hI bu fun b4 w' hI=>?_
 refine bd hI 0 rfl ai (by simpa using hg.length) rfl (by simpa using hg.one) fun w' hI=>?_
 have hI:Inv w [] ([]++[.blk b4 (.cells cs.toArray ad)]) S1 w':=hI
 obtain ⟨S2,hI,hE2,hb4⟩:=hI.pub1
 have hb4:S2 b4=some (.cells cs.toArray ad):=hb4
 have hg:=hg.mono hE2.1
 have hfs:=hfs.monoT hE2.1
 have hw:fs.length+wL fs<=1048576:=by omega
 have hl4:=hg.length
 refine cu (cs:=cs) ai hl4 (fun j v hj=>by rw [hI.cellS hb4,Nat.zero_add]; simpa using hj) ?_
 refine Run.pubTreeS mx mw hI (jD hfs hg hw) fun u3 S3 w' hle3 hu3 hI=>?_
 have hg:=hg.mono hle3
 have hfs:=hfs.monoT hle3
 refine cu (cs:=cs) ai hl4 (fun j v hj=>by rw [hI.cellS (hle3 _ _ hb4),Nat.zero_add]; simpa using hj) ?_
 refine Run.pubTreeS v9 vV hI (qo hfs hg hw (sM (by omega))) fun u4 S4 w' hle4 hu4 hI=>?_
 have hg:=hg.mono hle4
 have hfs:=hfs.monoT hle4
 have hu3:=hu3.monoT hle4
 have hb4:=hle4 _ _ (hle3 _ _ hb4)
 have hle:=hE1.1.trans (hE2.1.trans (hle3.trans hle4))
 refine Run.callPure pa nU hI (mD hu3 hu4) fun w' hI=>?_
 refine c9 ?_
 refine aX (fun hb=>by cases hb) (fun _=>?_)
 clear hu4
 have hll:=hu3.le
 simp only [maxLen] at hll
 refine ⟨fun t w'=>∃ (k:Nat) (S5:av),k<=(cZ fs g).length/\t=.int .i64 k/\Sle S4 S5/\Inv w [] [] S5 w',fun t _=>(cZ fs g).length - (intOf t).toNat,⟨0,S4,Nat.zero_le _,rfl,Sle.refl _,hI⟩,?_⟩
 intro t6 _ _ _ t51 t50 t49 t48 t47 t46 t45 t44 t43 t42 t41 t40 t39 t38 t37 t36 t35 t34 t33 t32 t31 t30 _ _ _ _ w'
 rintro ⟨k,S5,hk,rfl,hle5,hI⟩
 have hu:=hu3.monoT hle5
 refine a9 hu ay ?_
 refine co ?_
 refine bp (fun hki=>?_) (fun hki=>o6 hI (hle.trans hle5) rfl)
 have hk':k<(cZ fs g).length:=by omega
 have hg5:=hg.mono hle5
 have hf5:=hfs.monoT hle5
 have hb5:=hle5 _ _ hb4
 obtain ⟨b,o,cap,c,E,fz,rfl,hS,hR⟩:=hu.at_ hk'
 have hmem:(cZ fs g)[k]∈cZ fs g:=List.getElem_mem hk'
 have hmem:(cZ fs g)[k]∈fs/\iG (cZ fs g)[k] g=true:=List.mem_filter.1 hmem
 have hone:=xc hF.fct hF.sorted.nodup hmem.1
 have hins:=hmem.2
 obtain ⟨x,hx⟩:∃ x,x=(cZ fs g)[k]:=⟨_,rfl⟩
 rw [<- hx] at hR hone hins
 refine ⟨fun D cd cf ce bD bE cO cQ cR cM cP cN gu fF eP fC d4 d5 fM dZ eQ dY dX w_=>(D 0=true->dX=.slice (some ⟨b,o,none⟩) (cZ fs g).length cap)/\(D 1=true->dY=.int .i64 k)/\(D 2=true->eQ=.pointer (some ⟨b,o+k * 4,none⟩))/\(D 3=true->dZ=.agg (bf c (o+k * 4) 4).toArray)/\(D 4=true->fM=.agg cs.toArray)/\(D 5=true->d5=.bool true)/\(D 6=true->d4=.bool false)/\(D 7=true->fC=.bool false)/\(D 8=true->eP=.slice au fs.length mu)/\(D 9=true->fF=.slice (some ⟨b,o,none⟩) (cZ fs g).length cap)/\(D 10=true->gu=.int .i64 k)/\(D 11=true->cN=.pointer (some ⟨b,o+k * 4,none⟩))/\(D 12=true->cP=.agg (bf c (o+k * 4) 4).toArray)/\(D 13=true->True)/\(D 14=true->cR=.slice (some ⟨b,o,none⟩) (cZ fs g).length cap)/\(D 15=true->cQ=.int .i64 k)/\(D 16=true->cO=.int .i64 k)/\(D 17=true->bE=.int .i64 ((k+1:Nat):Int))/\(D 18=true->True)/\(D 19=true->ce=.bool true)/\(D 20=true->cf=.bool false)/\(D 21=true->cd=.bool false)/\∃ S6,Sle S5 S6/\(D 13=true->RdSl S6 4 (RdT S6) cM [x])/\(D 18=true->RdSl S5 4 (RdT S5) bD [x])/\Inv w [] [] S6 w_,⟨ae,ae,ae,ae,ae,ae,ae,ae,ae,ae,ae,ae,ae,ae,ae,ae,ae,ae,ae,ae,ae,ae,⟨S5,Sle.refl _,ae,ae,hI.draw⟩⟩,⟨?_,?_,?_,?_,?_,?_,?_,?_,?_,?_,?_,?_,?_,?_,?_,?_,?_,?_,?_,?_,?_,?_,trivial⟩,?_⟩
 ·intro D a6  cd cf ce bD bE cO cQ cR cM cP cN gu fF eP fC d4 d5 fM dZ eQ dY dX w_
  rintro ⟨aB,aC,aA,aD,ax,aF,aE,aG,aI,aM,ah,aj,ar,aJ,aK,aL,aP,aO,aQ,aR,aU,aV,⟨S6,hle6,e13,e18,hI⟩⟩
  exact ⟨fun _=>rfl,aC,aA,aD,ax,aF,aE,aG,aI,aM,ah,aj,ar,aJ,aK,aL,aP,aO,aQ,aR,aU,aV,⟨S6,hle6,e13,e18,hI⟩⟩
 ·intro D a6  cd cf ce bD bE cO cQ cR cM cP cN gu fF eP fC d4 d5 fM dZ eQ dY dX w_
  rintro ⟨aB,aC,aA,aD,ax,aF,aE,aG,aI,aM,ah,aj,ar,aJ,aK,aL,aP,aO,aQ,aR,aU,aV,⟨S6,hle6,e13,e18,hI⟩⟩
  exact ⟨aB,fun _=>rfl,aA,aD,ax,aF,aE,aG,aI,aM,ah,aj,ar,aJ,aK,aL,aP,aO,aQ,aR,aU,aV,⟨S6,hle6,e13,e18,hI⟩⟩
 ·intro D a6 cV gH cd cf ce bD bE cO cQ cR cM cP cN gu fF eP fC d4 d5 fM dZ eQ dY dX w_
  rintro ⟨aB,aC,aA,aD,ax,aF,aE,aG,aI,aM,ah,aj,ar,aJ,aK,aL,aP,aO,aQ,aR,aU,aV,⟨S6,hle6,e13,e18,hI⟩⟩
  obtain rfl:=aB cV
  obtain rfl:=aC gH
  refine ba ay hk' ?_
  exact ⟨aB,aC,fun _=>rfl,aD,ax,aF,aE,aG,aI,aM,ah,aj,ar,aJ,aK,aL,aP,aO,aQ,aR,aU,aV,⟨S6,hle6,e13,e18,hI⟩⟩
 ·intro D a6 eL cd cf ce bD bE cO cQ cR cM cP cN gu fF eP fC d4 d5 fM dZ eQ dY dX w_
  rintro ⟨aB,aC,aA,aD,ax,aF,aE,aG,aI,aM,ah,aj,ar,aJ,aK,aL,aP,aO,aQ,aR,aU,aV,⟨S6,hle6,e13,e18,hI⟩⟩
  obtain rfl:=aA eL
  refine cu ai hR.length (fun j v hj=>by rw [hI.cellS (hle6 _ _ hS)]; exact be rfl j v hj) ?_
  exact ⟨aB,aC,aA,fun _=>rfl,ax,aF,aE,aG,aI,aM,ah,aj,ar,aJ,aK,aL,aP,aO,aQ,aR,aU,aV,⟨S6,hle6,e13,e18,hI⟩⟩
 ·intro D a6  cd cf ce bD bE cO cQ cR cM cP cN gu fF eP fC d4 d5 fM dZ eQ dY dX w_
  rintro ⟨aB,aC,aA,aD,ax,aF,aE,aG,aI,aM,ah,aj,ar,aJ,aK,aL,aP,aO,aQ,aR,aU,aV,⟨S6,hle6,e13,e18,hI⟩⟩
  refine cu (cs:=cs) ai hl4 (fun j v hj=>by rw [hI.cellS (hle6 _ _ hb5),Nat.zero_add]; simpa using hj) ?_
  exact ⟨aB,aC,aA,aD,fun _=>rfl,aF,aE,aG,aI,aM,ah,aj,ar,aJ,aK,aL,aP,aO,aQ,aR,aU,aV,⟨S6,hle6,e13,e18,hI⟩⟩
 ·intro D a6 dg dW cd cf ce bD bE cO cQ cR cM cP cN gu fF eP fC d4 d5 fM dZ eQ dY dX w_
  rintro ⟨aB,aC,aA,aD,ax,aF,aE,aG,aI,aM,ah,aj,ar,aJ,aK,aL,aP,aO,aQ,aR,aU,aV,⟨S6,hle6,e13,e18,hI⟩⟩
  obtain rfl:=aD dg
  obtain rfl:=ax dW
  refine Run.callPure ku ki hI (ip (hR.mono hle6) (hg5.mono hle6)) fun w_ hI=>?_
  rw [hins]
  exact ⟨aB,aC,aA,aD,ax,fun _=>rfl,aE,aG,aI,aM,ah,aj,ar,aJ,aK,aL,aP,aO,aQ,aR,aU,aV,⟨S6,hle6,e13,e18,hI⟩⟩
 ·intro D a6 ef cd cf ce bD bE cO cQ cR cM cP cN gu fF eP fC d4 d5 fM dZ eQ dY dX w_
  rintro ⟨aB,aC,aA,aD,ax,aF,aE,aG,aI,aM,ah,aj,ar,aJ,aK,aL,aP,aO,aQ,aR,aU,aV,⟨S6,hle6,e13,e18,hI⟩⟩
  obtain rfl:=aF ef
  refine c9 ?_
  exact ⟨aB,aC,aA,aD,ax,aF,fun _=>rfl,aG,aI,aM,ah,aj,ar,aJ,aK,aL,aP,aO,aQ,aR,aU,aV,⟨S6,hle6,e13,e18,hI⟩⟩
 ·intro D a6 cA kH cd cf ce bD bE cO cQ cR cM cP cN gu fF eP fC d4 d5 fM dZ eQ dY dX w_
  rintro ⟨aB,aC,aA,aD,ax,aF,aE,aG,aI,aM,ah,aj,ar,aJ,aK,aL,aP,aO,aQ,aR,aU,aV,⟨S6,hle6,e13,e18,hI⟩⟩
  obtain rfl:=aE cA
  exact ⟨aB,aC,aA,aD,ax,aF,aE,fun _=>rfl,aI,aM,ah,aj,ar,aJ,aK,aL,aP,aO,aQ,aR,aU,aV,⟨S6,hle6,e13,e18,hI⟩⟩
 ·intro D a6 dl cd cf ce bD bE cO cQ cR cM cP cN gu fF eP fC d4 d5 fM dZ eQ dY dX w_
  rintro ⟨aB,aC,aA,aD,ax,aF,aE,aG,aI,aM,ah,aj,ar,aJ,aK,aL,aP,aO,aQ,aR,aU,aV,⟨S6,hle6,e13,e18,hI⟩⟩
  obtain rfl:=aG dl
  repeat (first|refine ac ?_|refine af (by decide) ?_|refine ab ?_|refine al ?_|refine ak ?_)
  exact ⟨aB,aC,aA,aD,ax,aF,aE,aG,fun _=>rfl,aM,ah,aj,ar,aJ,aK,aL,aP,aO,aQ,aR,aU,aV,⟨S6,hle6,e13,e18,hI⟩⟩
 ·intro D a6 dl cd cf ce bD bE cO cQ cR cM cP cN gu fF eP fC d4 d5 fM dZ eQ dY dX w_
  rintro ⟨aB,aC,aA,aD,ax,aF,aE,aG,aI,aM,ah,aj,ar,aJ,aK,aL,aP,aO,aQ,aR,aU,aV,⟨S6,hle6,e13,e18,hI⟩⟩
  obtain rfl:=aG dl
  repeat (first|refine ac ?_|refine af (by decide) ?_|refine ab ?_|refine al ?_|refine ak ?_)
  exact ⟨aB,aC,aA,aD,ax,aF,aE,aG,aI,fun _=>rfl,ah,aj,ar,aJ,aK,aL,aP,aO,aQ,aR,aU,aV,⟨S6,hle6,e13,e18,hI⟩⟩
 ·intro D a6 dl cd cf ce bD bE cO cQ cR cM cP cN gu fF eP fC d4 d5 fM dZ eQ dY dX w_
  rintro ⟨aB,aC,aA,aD,ax,aF,aE,aG,aI,aM,ah,aj,ar,aJ,aK,aL,aP,aO,aQ,aR,aU,aV,⟨S6,hle6,e13,e18,hI⟩⟩
  obtain rfl:=aG dl
  repeat (first|refine ac ?_|refine af (by decide) ?_|refine ab ?_|refine al ?_|refine ak ?_)
  exact ⟨aB,aC,aA,aD,ax,aF,aE,aG,aI,aM,fun _=>rfl,aj,ar,aJ,aK,aL,aP,aO,aQ,aR,aU,aV,⟨S6,hle6,e13,e18,hI⟩⟩
 ·intro D a6 xg ii nl cd cf ce bD bE cO cQ cR cM cP cN gu fF eP fC d4 d5 fM dZ eQ dY dX w_
  rintro ⟨aB,aC,aA,aD,ax,aF,aE,aG,aI,aM,ah,aj,ar,aJ,aK,aL,aP,aO,aQ,aR,aU,aV,⟨S6,hle6,e13,e18,hI⟩⟩
  obtain rfl:=aM xg
  obtain rfl:=ah ii
  obtain rfl:=aG nl
  repeat (first|refine ac ?_|refine af (by decide) ?_|refine ab ?_|refine al ?_|refine ak ?_)
  refine ba ay hk' ?_
  exact ⟨aB,aC,aA,aD,ax,aF,aE,aG,aI,aM,ah,fun _=>rfl,ar,aJ,aK,aL,aP,aO,aQ,aR,aU,aV,⟨S6,hle6,e13,e18,hI⟩⟩
 ·intro D a6 im mh cd cf ce bD bE cO cQ cR cM cP cN gu fF eP fC d4 d5 fM dZ eQ dY dX w_
  rintro ⟨aB,aC,aA,aD,ax,aF,aE,aG,aI,aM,ah,aj,ar,aJ,aK,aL,aP,aO,aQ,aR,aU,aV,⟨S6,hle6,e13,e18,hI⟩⟩
  obtain rfl:=aj im
  obtain rfl:=aG mh
  repeat (first|refine ac ?_|refine af (by decide) ?_|refine ab ?_|refine al ?_|refine ak ?_)
  refine cu ai hR.length (fun j v hj=>by rw [hI.cellS (hle6 _ _ hS)]; exact be rfl j v hj) ?_
  exact ⟨aB,aC,aA,aD,ax,aF,aE,aG,aI,aM,ah,aj,fun _=>rfl,aJ,aK,aL,aP,aO,aQ,aR,aU,aV,⟨S6,hle6,e13,e18,hI⟩⟩
 ·intro D a6 jc He nl Fp cd cf ce bD bE cO cQ cR cM cP cN gu fF eP fC d4 d5 fM dZ eQ dY dX w_
  rintro ⟨aB,aC,aA,aD,ax,aF,aE,aG,aI,aM,ah,aj,ar,aJ,aK,aL,aP,aO,aQ,aR,aU,aV,⟨S6,hle6,e13,e18,hI⟩⟩
  obtain rfl:=aI jc
  obtain rfl:=ar He
  obtain rfl:=aG nl
  repeat (first|refine ac ?_|refine af (by decide) ?_|refine ab ?_|refine al ?_|refine ak ?_)
  have hc13:Tri Tryz.prog pE [.slice au fs.length mu,.agg (bf c (o+k * 4) 4).toArray] [] S6 (uL 4 TrT S6 (cZ fs x)):=jD (hf5.monoT hle6) (hR.mono hle6) hw
  rw [hone] at hc13
  refine Run.pubTreeS mx mw hI hc13 fun u13 S6 w_ hle7 e13 hI=>?_
  have e13:=fun (_:aw D 13 13=true)=>e13
  have hle6:=hle6.trans hle7
  exact ⟨aB,aC,aA,aD,ax,aF,aE,aG,aI,aM,ah,aj,ar,fun _=>by first|assumption|trivial,aK,aL,aP,aO,aQ,aR,aU,aV,⟨S6,hle6,e13,e18,hI⟩⟩
 ·intro D a6 dl cd cf ce bD bE cO cQ cR cM cP cN gu fF eP fC d4 d5 fM dZ eQ dY dX w_
  rintro ⟨aB,aC,aA,aD,ax,aF,aE,aG,aI,aM,ah,aj,ar,aJ,aK,aL,aP,aO,aQ,aR,aU,aV,⟨S6,hle6,e13,e18,hI⟩⟩
  obtain rfl:=aG dl
  repeat (first|refine ac ?_|refine af (by decide) ?_|refine ab ?_|refine al ?_|refine ak ?_)
  exact ⟨aB,aC,aA,aD,ax,aF,aE,aG,aI,aM,ah,aj,ar,aJ,fun _=>rfl,aL,aP,aO,aQ,aR,aU,aV,⟨S6,hle6,e13,e18,hI⟩⟩
 ·intro D a6 dl cd cf ce bD bE cO cQ cR cM cP cN gu fF eP fC d4 d5 fM dZ eQ dY dX w_
  rintro ⟨aB,aC,aA,aD,ax,aF,aE,aG,aI,aM,ah,aj,ar,aJ,aK,aL,aP,aO,aQ,aR,aU,aV,⟨S6,hle6,e13,e18,hI⟩⟩
  obtain rfl:=aG dl
  repeat (first|refine ac ?_|refine af (by decide) ?_|refine ab ?_|refine al ?_|refine ak ?_)
  exact ⟨aB,aC,aA,aD,ax,aF,aE,aG,aI,aM,ah,aj,ar,aJ,aK,fun _=>rfl,aP,aO,aQ,aR,aU,aV,⟨S6,hle6,e13,e18,hI⟩⟩
 ·intro D a6 dl cd cf ce bD bE cO cQ cR cM cP cN gu fF eP fC d4 d5 fM dZ eQ dY dX w_
  rintro ⟨aB,aC,aA,aD,ax,aF,aE,aG,aI,aM,ah,aj,ar,aJ,aK,aL,aP,aO,aQ,aR,aU,aV,⟨S6,hle6,e13,e18,hI⟩⟩
  obtain rfl:=aG dl
  repeat (first|refine ac ?_|refine af (by decide) ?_|refine ab ?_|refine al ?_|refine ak ?_)
  exact ⟨aB,aC,aA,aD,ax,aF,aE,aG,aI,aM,ah,aj,ar,aJ,aK,aL,fun _=>rfl,aO,aQ,aR,aU,aV,⟨S6,hle6,e13,e18,hI⟩⟩
 ·intro D a6 D5 mh cd cf ce bD bE cO cQ cR cM cP cN gu fF eP fC d4 d5 fM dZ eQ dY dX w_
  rintro ⟨aB,aC,aA,aD,ax,aF,aE,aG,aI,aM,ah,aj,ar,aJ,aK,aL,aP,aO,aQ,aR,aU,aV,⟨S6,hle6,e13,e18,hI⟩⟩
  obtain rfl:=aP D5
  obtain rfl:=aG mh
  repeat (first|refine ac ?_|refine af (by decide) ?_|refine ab ?_|refine al ?_|refine ak ?_)
  refine bC (by omega) ?_
  exact ⟨aB,aC,aA,aD,ax,aF,aE,aG,aI,aM,ah,aj,ar,aJ,aK,aL,aP,fun _=>rfl,aQ,aR,aU,aV,⟨S6,hle6,e13,e18,hI⟩⟩
 ·intro D a6 zS DB G2 Fp cd cf ce bD bE cO cQ cR cM cP cN gu fF eP fC d4 d5 fM dZ eQ dY dX w_
  rintro ⟨aB,aC,aA,aD,ax,aF,aE,aG,aI,aM,ah,aj,ar,aJ,aK,aL,aP,aO,aQ,aR,aU,aV,⟨S6,hle6,e13,e18,hI⟩⟩
  obtain rfl:=aK zS
  obtain rfl:=aL DB
  obtain rfl:=aO G2
  obtain rfl:=aG Fp
  repeat (first|refine ac ?_|refine af (by decide) ?_|refine ab ?_|refine al ?_|refine ak ?_)
  refine Ba ay hu hk' fun v18 e18=>?_
  rw [<- hx] at e18
  have e18:=fun (_:aw D 18 18=true)=>e18
  exact ⟨aB,aC,aA,aD,ax,aF,aE,aG,aI,aM,ah,aj,ar,aJ,aK,aL,aP,aO,fun _=>by first|assumption|trivial,aR,aU,aV,⟨S6,hle6,e13,e18,hI⟩⟩
 ·intro D a6 iw FY Iv Fp cd cf ce bD bE cO cQ cR cM cP cN gu fF eP fC d4 d5 fM dZ eQ dY dX w_
  rintro ⟨aB,aC,aA,aD,ax,aF,aE,aG,aI,aM,ah,aj,ar,aJ,aK,aL,aP,aO,aQ,aR,aU,aV,⟨S6,hle6,e13,e18,hI⟩⟩
  have Gv:=aJ iw
  have HF:=aQ FY
  obtain rfl:=aG Fp
  repeat (first|refine ac ?_|refine af (by decide) ?_|refine ab ?_|refine al ?_|refine ak ?_)
  refine Run.callPure pa nU hI (mD (e13 iw) ((e18 FY).monoT hle6)) fun w_ hI=>?_
  exact ⟨aB,aC,aA,aD,ax,aF,aE,aG,aI,aM,ah,aj,ar,aJ,aK,aL,aP,aO,aQ,fun _=>rfl,aU,aV,⟨S6,hle6,e13,e18,hI⟩⟩
 ·intro D a6 fw mh cd cf ce bD bE cO cQ cR cM cP cN gu fF eP fC d4 d5 fM dZ eQ dY dX w_
  rintro ⟨aB,aC,aA,aD,ax,aF,aE,aG,aI,aM,ah,aj,ar,aJ,aK,aL,aP,aO,aQ,aR,aU,aV,⟨S6,hle6,e13,e18,hI⟩⟩
  obtain rfl:=aR fw
  obtain rfl:=aG mh
  repeat (first|refine ac ?_|refine af (by decide) ?_|refine ab ?_|refine al ?_|refine ak ?_)
  refine c9 ?_
  exact ⟨aB,aC,aA,aD,ax,aF,aE,aG,aI,aM,ah,aj,ar,aJ,aK,aL,aP,aO,aQ,aR,fun _=>rfl,aV,⟨S6,hle6,e13,e18,hI⟩⟩
 ·intro D a6 dl Hf cd cf ce bD bE cO cQ cR cM cP cN gu fF eP fC d4 d5 fM dZ eQ dY dX w_
  rintro ⟨aB,aC,aA,aD,ax,aF,aE,aG,aI,aM,ah,aj,ar,aJ,aK,aL,aP,aO,aQ,aR,aU,aV,⟨S6,hle6,e13,e18,hI⟩⟩
  obtain rfl:=aG dl
  obtain rfl:=aU Hf
  refine kX ?_
  exact ⟨aB,aC,aA,aD,ax,aF,aE,aG,aI,aM,ah,aj,ar,aJ,aK,aL,aP,aO,aQ,aR,aU,fun _=>rfl,⟨S6,hle6,e13,e18,hI⟩⟩
 intro D xi ye xG uQ sU sR oI pe qu i5 eR eX jG io gc gp f1 fL fJ fP fN fO cd cf ce bD bE cO cQ cR cM cP cN gu fF eP fC d4 d5 fM dZ eQ dY dX w_
 rintro ⟨aB,aC,aA,aD,ax,aF,aE,aG,aI,aM,ah,aj,ar,aJ,aK,aL,aP,aO,aQ,aR,aU,aV,⟨S6,hle6,e13,e18,hI⟩⟩
 obtain rfl:=aV xi
 obtain rfl:=aU ye
 obtain rfl:=aR xG
 have HF:=aQ uQ
 obtain rfl:=aO sU
 obtain rfl:=aP sR
 obtain rfl:=aL oI
 obtain rfl:=aK pe
 have Gv:=aJ qu
 obtain rfl:=ar i5
 obtain rfl:=aj eR
 obtain rfl:=ah eX
 obtain rfl:=aM jG
 obtain rfl:=aI io
 obtain rfl:=aG gc
 obtain rfl:=aE gp
 obtain rfl:=aF f1
 obtain rfl:=ax fL
 obtain rfl:=aD fJ
 obtain rfl:=aA fP
 obtain rfl:=aC fN
 obtain rfl:=aB fO
 clear aB aC aA aD ax aF aE aG aI aM ah aj ar aJ aK aL aP aO aQ aR aU aV
 refine aX (fun hb=>by cases hb) (fun _=>?_)
 refine bC (by omega) ?_
 exact ⟨⟨k+1,S6,hk',rfl,hle5.trans hle6,hI⟩,by simp [intOf]; omega⟩
end
end Go.Proofs.YtemmhhdnlbmicaaGreat

/- What every row of this seat owes beside its walk: the arguments read again as they did, and nothing that was there has turned. -/
namespace Go.Proofs.YtemmhhdnlbmicaaGreat
open Go Go.ChangeShapes Go.WideShapes Go.ChangeAt Go.RowKit

theorem Tryz.own:ownKnob Tryz.prog.godebug=none:=by kernel_rfl
theorem Tryz.kids:Kids Tryz.prog (·<Tryz.prog.types.size):=kids_rows (by kernel_rfl) (by kernel_rfl)
theorem Tryz.full:∀ t e,t<Tryz.prog.types.size->Tryz.prog.underlying t=some (.slice e)->0<Tryz.prog.cellsOf e:=slices_full_of Tryz.prog (by kernel_rfl)
section
variable {H:Type} {enc:TypeId × Value->H} {W W':World}
theorem yY {P:Program}:∀ {ts:List TypeId} {vs:List Value} {ds:List (DataW H)} {ps:List MemPlace},DataW.TrodAll enc P W 0 (fun _=>true) true ts vs ds ps->(∀ p∈ps,W.sameAt W' p)->
  DataW.TrodAll enc P W' 0 (fun _=>true) true ts vs ds ps
 | [],[],[],_,h,_=>h
 | _::_,_::_,_::_,_,⟨p,q,⟨n,h1⟩,h2,e⟩,hs=>
  ⟨p,q,⟨n,DataW.trod_carry n _ _ _ h1 fun x hx=>hs x (by rw [e]; exact List.mem_append_left _ hx)⟩,yY h2 fun x hx=>hs x (by rw [e]; exact List.mem_append_right _ hx),e⟩
theorem Fy {p:MemPlace} (h:∀ b,b<W.heap.size->W'.heap[b]?=W.heap[b]?) (hp:p.block<W.heap.size):W.sameAt W' p:=by
 cases p with
 | cell b off=>simp only [World.sameAt,World.cell?]; rw [h b hp]
 | map b=>exact h b hp
/- a function of the program whose walk ends with 'true' and with all that was there as it was: the row's 'post' -/
theorem Db {f:Func} {s:ChangeSpec} {args:Array Value} {ds gs:List (DataW H)} {before p q:List MemPlace}
  (hW:DataW.Whole enc Tryz.prog f.params.toList s.vars false W args.toList ds gs before) (hA:DataW.TrodAll enc Tryz.prog W 0 (fun _=>true) true f.params.toList args.toList ds p)
  (hV:DataW.TrodVars enc Tryz.prog W (fun _=>true) s.vars gs q) (hb:before=p++q) (hv:s.vars=[]) (hts:∀ t∈f.params.toList,t<Tryz.prog.types.size) (hr:f.resultTypes=#[F3])
  (hs:(s.fn H (ds++gs)).results=[.lit (.bool true)]) (ha:(s.fn H (ds++gs)).args=ds) (hsv:(s.fn H (ds++gs)).vars=[]) (hI:Inv W [] [] (CA W) W') :
  s.post enc Tryz.prog f false true false false W args (.bool true) W':=by
 have hsame:∀ b,b<W.heap.size->W'.heap[b]?=W.heap[b]?:=fun b hb=>hI.same b hb
 have hlt:=hW.lt
 rw [hv] at hV
 obtain ⟨hg,hq⟩:=trodVars_none hV
 subst hq
 rw [List.append_nil] at hb
 subst hb
 have hA':=yY (W':=W') hA fun x hx=>Fy hsame (hlt x hx)
 refine ⟨ds,gs,before,[],before,[],hW,?_,?_,?_,CW hI.os hI.output hsame,fun h=>by cases h⟩
 ·rw [hs,hr]
  exact trodAll_mk1 (shut_bool Cw true)
 ·rw [ha]
  exact DataW.TrodAll.respare Tryz.kids Tryz.full hts hA' fun x hx=>by simpa using hlt x hx
 ·rw [hv,hsv]
  rfl
end

end Go.Proofs.YtemmhhdnlbmicaaGreat

/- Queries parsed and drawn: spec.ParseQuery, l6Query, l6Pair, l6MutateAll, DrawReachOf. (printed by gen_drawq.py) -/
import Derived.Test.YtcpgagfdeflbkaaGreatDoorZSl9
import Derived.Test.YtcpgagfdeflbkaaGreatDoorZSl1
import Derived.Test.YtcpgagfdeflbkaaGreatDoorZSl18
import Derived.Test.YtcpgagfdeflbkaaGreatDoorZSl2
import Derived.Test.YtcpgagfdeflbkaaGreatDoorRows
import Derived.Test.YtcpgagfdeflbkaaGreatDoorTie
import Derived.ProofKit
import Derived.LaidMore
import Derived.LaidLaws
namespace Go.Proofs.YtcpgagfdeflbkaaGreatDoor
section
open Go Go.RowKit
def okQ (s:ByteArray):Bool:=match nh 60 8 (bs s) 0 [] with
 | some (q,n)=>decide (n=s.size) && (bT q && (decide (wL q<=300) && decide (s.size<=1000)))
 | none=>false
theorem Pj {s:ByteArray} (h:okQ s=true):∃ q,nh 60 8 (bs s) 0 []=some (q,s.size)/\bT q=true/\wL q<=300/\s.size<=1000:=by
 unfold okQ at h
 split at h
 ·rename_i q n hq
  simp only [bN,bC] at h
  obtain ⟨rfl,h2,h3,h4⟩:=h
  exact ⟨q,hq,h2,h3,h4⟩
 ·cases h
theorem KK {q:List T} (h:bT q=true):q.length<=6:=by
 rw [bT,bN] at h
 have:=h.1
 simp at this
 omega
def LightT (n m:Nat) (q:List T):Prop:=q.length<=n/\∀ t∈q,wT t<=m
theorem LightT.le {n m:Nat} {q:List T} (h:LightT n m q):q.length+wL q<=n+n * m:=by
 have:∀ q:List T,(∀ c∈q,wT c<=m)->wL q<=q.length * m:=by
  intro q
  induction q with
  | nil=>intro _; simp [wL]
  | cons c q ih=>
   intro h
   have h1:=h c (bq ..)
   have h2:=ih fun d hd=>h d (bv _ hd)
   simp only [wL,bk,jc]
   omega
 have h1:=this q h.2
 have h2:q.length * m<=n * m:=iy _ h.1
 have:=h.1
 omega
abbrev NS (br:Nat) (sl:Value) (p k n m:Nat):Value->List Item->ad->Prop:=fun v I' S'=>∃ p',p'<=p+k/\I'=[rdI br sl p']/\∃ q,RdSl S' 4 (RdT S') v q/\LightT n m q
section
variable {w0 w:World} {X:List Nat} {L A:List Item} {S:ad}
theorem rn {v:Value} {css:List (List Value)} {q:List T} (hI:Inv w0 X (aE v ab 4 css::A) S w) (hR:Rows 4 (RdT S) css q) :
  ∃ S',Ext w0.heap.size X S S'/\Inv w0 X A S' w/\RdSl S' 4 (RdT S') v q:=by
 have hI:Inv w0 X (A++[aE v ab 4 css]) S w:=hI.last 0 rfl
 obtain ⟨S',hE,hrd,hI⟩:=Inv.lendExt hI
 exact ⟨S',hE,hI,RowRd.rows (hR.monoR fun _ _ h=>RdT.mono hE.1 h) hrd⟩
end
section
variable {br:Nat} {sl:Value} {ys:List Nat} {S:ad}
attribute [local irreducible] Run CondV aq aK
theorem mM {s:ByteArray} (h:okQ s=true):Tri Tryz.prog Cv [.string s] [] S fun v I' S'=>I'=[]/\∃ u q,v=.tuple #[u,.bool true]/\RdSl S' 4 (RdT S') u q/\LightT 6 300 q:=by
 intro w hI
 obtain ⟨q,hq,hqv,hqw,hs⟩:=Pj h
 have hql:=KK hqv
 have hbs:(bs s).length=s.size:=(kU (bs s)).symm
 refine oe.2 ?_
 dsimp only[oe,aG]
 refine g8 aJ ?_
 refine ku (by omega) ?_
 refine aw (fun hb=>by cases hb) (fun _=>?_)
 refine Run.call0E u4 uK hI (r8 (i:=0) hq (il (Gn hbs) (by omega)) (aR _)) fun v I' S1 w'=>?_
 rintro ⟨rfl,u,rfl,hu⟩ hE1 hI
 have hI:Inv w [] [] S1 w':=hI
 refine al (v:=u) rfl ?_
 refine al (v:=.int .i64 (s.size:Int)) rfl ?_
 refine ⟨fun t w'=>t=.bool false/\Inv w [] [] S1 w',?_,?_⟩
 ·refine g8 aJ ?_
  refine gV ?_
  rw [aS rfl]
  refine rpG ?_
  refine Run.callPure oh oT hI (kD hu (by omega)) fun w' hI=>?_
  rw [hqv]
  refine ct ?_
  refine rpG ?_
  exact ⟨rfl,hI⟩
 intro t25 _ _ _ _ _ _ _ _ w'
 rintro ⟨rfl,hI⟩
 refine aw (fun hb=>by cases hb) (fun _=>?_)
 refine d3 hI bA fun v0 w' hI=>?_
 refine ⟨fun a b w'=>∃ (j:Nat) (S2:ad) (css:List (List Value)),a=.int .i64 (j:Int)/\j<=q.length/\Ext w.heap.size [] S S2/\Sle S1 S2/\Rows 4 (RdT S2) css (q.take j)/\Inv w [] [aE b ab 4 css] S2 w',
  fun a _ _=>q.length - (intOf a).toNat,⟨0,S1,[],rfl,aR _,hE1,Sle.refl _,Rows.nil _ _,hI⟩,?_⟩
 intro t7 _ _ t6 _ _ _ _ _ _ _ _ _ _ _ _ w'
 rintro ⟨j,S2,css,rfl,hj,hE2,hle,hR,hI⟩
 have hu:=hu.monoT hle
 have hcl:=hR.hc
 refine aF hu ah ?_
 refine bL ?_
 refine aH (fun hji=>?_) (fun hji=>?_)
 ·have hj':j<q.length:=by omega
  have hm:=jf (bQ hj')
  have htk:(q.take j).length=j:=by rw [dN]; omega
  refine cj hI hu ah ac hj' (fun _ _=>RdT.length) fun cs hcs=>?_
  refine Run.call0E eP eV hI (fV _ S2 cs hcs (by omega)) fun v' I' S3 w'=>?_
  rintro ⟨rfl,ds,M,rfl,rfl,hT⟩ hE3 hI
  obtain ⟨S3,hI,hE3,hins⟩:=hI.pubExt
  have hr3:=hT.rd hins
  refine cM (css:=css) hI 0 ds bA (by omega) (by omega) rfl hr3.length hr3.one (by omega) (by omega) fun v' w' hI=>?_
  refine bn (by omega) ?_
  exact ⟨⟨j+1,S3,_,rfl,hj',hE2.trans hE3,hle.trans hE3.1,by rw [fy hj']; exact (hR.monoR fun _ _ h=>RdT.mono hE3.1 h).snoc hr3 hr3.length,hI⟩,by simp [intOf]; omega⟩
 ·have:j=q.length:=by omega
  subst this
  rw [fM] at hR
  obtain ⟨S3,hE3,hI,hr⟩:=rn hI hR
  exact ⟨_,[],S3,rfl,hI,hE2.trans hE3,rfl,_,q,rfl,hr,hql,fun t ht=>by have:=jf ht; omega⟩
theorem zg (S:ad):Tri Tryz.prog DD [] [] S fun v I' S'=>I'=[]/\∃ l,RdSl S' 1 oP v l/\0<l.length/\l.all okQ=true:=by
 intro w hI
 refine qV.2 ?_
 dsimp only[qV,oJ]
 refine eX hI (by kernel_rfl) rfl (by omega) fun v S1 w' hE1 hv hI=>?_
 exact ⟨_,[],S1,rfl,hI,hE1,rfl,_,hv,by decide,by decide +kernel⟩
theorem Dr {p:Nat} (hrd:RdSl S 1 jB sl ys) (hp:p<=100000000):Tri Tryz.prog Ii [rdP br] [rdI br sl p] S (NS br sl p 1 6 300):=by
 intro w hI
 refine tB.2 ?_
 dsimp only[tB,aG]
 refine Run.call0E z2 Am hI (zg S) fun v' I' S1 w'=>?_
 rintro ⟨rfl,l,hl,hl0,hok⟩ hE1 hI
 have hI:Inv w [br] [rdI br sl p] S1 w':=hI
 refine aF hl bM ?_
 refine Run.callL bK bJ hI (cY (n:=l.length) (hrd.monoU hE1.1) (by omega) hl0) rfl fun v' I' S1 w'=>?_
 rintro ⟨rfl,rfl,k,hk,rfl⟩ _ hI
 have hI:Inv w [br] [rdI br sl (p+1)] S1 w':=hI
 refine hY hI hl bM aN hk (fun cs hcs=>hcs) ?_
 rw [ed] at hok
 refine Run.call0E om oq hI (mM (hok _ (bQ hk))) fun v I' S2 w'=>?_
 rintro ⟨rfl,u,q,rfl,hu,hq⟩ hE2 hI
 refine al (v:=u) rfl ?_
 refine al (v:=.bool true) rfl ?_
 exact ⟨_,_,S2,rfl,hI,hE1.trans hE2,p+1,aM _,rfl,q,hu,hq⟩
abbrev QN (br:Nat) (sl:Value) (p k:Nat):Value->List Item->ad->Prop:=fun v I' S'=>∃ p',p'<=p+k/\I'=[rdI br sl p']/\∃ u g ps q,v=.tuple #[u,g]/\RdSl S' 5 (RdC S') u ps/\Light 8 200 ps/\0<ps.length/\RdSl S' 4 (RdT S') g q/\LightT 6 300 q
theorem FC {p:Nat} (hrd:RdSl S 1 jB sl ys) (hp:p<=10000000):Tri Tryz.prog J0 [rdP br] [rdI br sl p] S (QN br sl p 5):=by
 intro w hI
 refine xU.2 ?_
 dsimp only[xU,aG]
 refine Run.call0E u6 tT hI (rU S) fun v' I' S1 w'=>?_
 rintro ⟨rfl,l,hl,hl11,hok⟩ hE1 hI
 have hI:Inv w [br] [rdI br sl p] S1 w':=hI
 refine aF hl bM ?_
 refine Run.callL bK bJ hI (cY (n:=l.length) (hrd.monoU hE1.1) (by omega) (by omega)) rfl fun v' I' S1 w'=>?_
 rintro ⟨rfl,rfl,k,hk,rfl⟩ _ hI
 have hI:Inv w [br] [rdI br sl (p+1)] S1 w':=hI
 refine hY hI hl bM aN hk (fun cs hcs=>hcs) ?_
 rw [ed] at hok
 refine Run.call0E lp kG hI (Ee (hok _ (bQ hk))) fun v I' S2 w'=>?_
 rintro ⟨u,css,ps,rfl,rfl,hR,h0,hps,_⟩ hE2 hI
 have hI:Inv w [br] [aE u ag 5 css,rdI br sl (p+1)] S2 w':=hI.last 0 rfl
 obtain ⟨T0,hE3,hI,hr⟩:=qy hI hR
 refine al (v:=u) rfl ?_
 refine al (v:=.bool true) rfl ?_
 have F0:Ext w.heap.size [br] S T0:=(hE1.trans hE2).trans hE3
 refine eX hI (by kernel_rfl) rfl (by omega) fun v1 T1 w' G1 h1 hI=>?_
 have F1:=F0.trans G1
 refine eX hI (by kernel_rfl) rfl (by omega) fun v2 T2 w' G2 h2 hI=>?_
 have F2:=F1.trans G2
 refine eX hI (by kernel_rfl) rfl (by omega) fun v3 T3 w' G3 h3 hI=>?_
 have F3:=F2.trans G3
 refine eX hI (by kernel_rfl) rfl (by omega) fun v4 T4 w' G4 h4 hI=>?_
 have F4:=F3.trans G4
 refine eX hI (by kernel_rfl) rfl (by omega) fun v5 T5 w' G5 h5 hI=>?_
 have F5:=F4.trans G5
 refine eX hI (by kernel_rfl) rfl (by omega) fun v6 T6 w' G6 h6 hI=>?_
 have F6:=F5.trans G6
 refine eX hI (by kernel_rfl) rfl (by omega) fun v7 T7 w' G7 h7 hI=>?_
 have F7:=F6.trans G7
 refine eX hI (by kernel_rfl) rfl (by omega) fun v8 T8 w' G8 h8 hI=>?_
 have F8:=F7.trans G8
 refine eX hI (by kernel_rfl) rfl (by omega) fun v9 T9 w' G9 h9 hI=>?_
 have F9:=F8.trans G9
 refine eX hI (by kernel_rfl) rfl (by omega) fun v10 T10 w' G10 h10 hI=>?_
 have F10:=F9.trans G10
 refine eX hI (by kernel_rfl) rfl (by omega) fun v11 T11 w' G11 h11 hI=>?_
 have F11:=F10.trans G11
 refine qD (v:=fun b=>.slice (some ⟨b,0,none⟩) 11 11) (o:=.cells #[v1,v2,v3,v4,v5,v6,v7,v8,v9,v10,v11] wk) hI ?_ fun b w' hI=>?_
 ·obtain ⟨a1,c1,rfl,_⟩:=id h1; obtain ⟨a2,c2,rfl,_⟩:=id h2; obtain ⟨a3,c3,rfl,_⟩:=id h3; obtain ⟨a4,c4,rfl,_⟩:=id h4; obtain ⟨a5,c5,rfl,_⟩:=id h5; obtain ⟨a6,c6,rfl,_⟩:=id h6; obtain ⟨a7,c7,rfl,_⟩:=id h7; obtain ⟨a8,c8,rfl,_⟩:=id h8; obtain ⟨a9,c9,rfl,_⟩:=id h9; obtain ⟨a10,c10,rfl,_⟩:=id h10; obtain ⟨a11,c11,rfl,_⟩:=id h11; kernel_rfl
 obtain ⟨T12,hI,G12,hS⟩:=Inv.pub1 (A:=[rdI br sl (p+1)]) hI
 have F12:=F11.trans G12
 have L11:=G12.1
 have L10:=G11.1.trans L11
 have L9:=G10.1.trans L10
 have L8:=G9.1.trans L9
 have L7:=G8.1.trans L8
 have L6:=G7.1.trans L7
 have L5:=G6.1.trans L6
 have L4:=G5.1.trans L5
 have L3:=G4.1.trans L4
 have L2:=G3.1.trans L3
 have L1:=G2.1.trans L2
 have hsel:∃ v l,(#[v1,v2,v3,v4,v5,v6,v7,v8,v9,v10,v11]:Array Value)[0+k * 1]?=some v/\RdSl T12 1 oP v l/\0<l.length/\l.all okQ=true:=by
  have hk:k<11:=by omega
  match k,hk with
  | 0,_=>exact ⟨v1,_,rfl,h1.monoS L1,by decide,by decide +kernel⟩
  | 1,_=>exact ⟨v2,_,rfl,h2.monoS L2,by decide,by decide +kernel⟩
  | 2,_=>exact ⟨v3,_,rfl,h3.monoS L3,by decide,by decide +kernel⟩
  | 3,_=>exact ⟨v4,_,rfl,h4.monoS L4,by decide,by decide +kernel⟩
  | 4,_=>exact ⟨v5,_,rfl,h5.monoS L5,by decide,by decide +kernel⟩
  | 5,_=>exact ⟨v6,_,rfl,h6.monoS L6,by decide,by decide +kernel⟩
  | 6,_=>exact ⟨v7,_,rfl,h7.monoS L7,by decide,by decide +kernel⟩
  | 7,_=>exact ⟨v8,_,rfl,h8.monoS L8,by decide,by decide +kernel⟩
  | 8,_=>exact ⟨v9,_,rfl,h9.monoS L9,by decide,by decide +kernel⟩
  | 9,_=>exact ⟨v10,_,rfl,h10.monoS L10,by decide,by decide +kernel⟩
  | 10,_=>exact ⟨v11,_,rfl,h11.monoS L11,by decide,by decide +kernel⟩
 obtain ⟨vk,lk,hcell,hlk,hlk0,hokq⟩:=hsel
 refine aD (k:=1) IA (by omega) ?_
 refine cA LB ((hI.cellS hS).trans hcell) ?_
 refine Run.callL bK bJ hI (cY (n:=5) (hrd.monoU F12.1) (by omega) (by omega)) rfl fun v' I' S3 w'=>?_
 rintro ⟨rfl,rfl,k5,hk5,rfl⟩ _ hI
 have hI:Inv w [br] [rdI br sl (p+2)] S3 w':=hI
 have hr:=hr.monoC (G1.1.trans L1)
 refine bl ?_
 refine aH (fun _=>?_) (fun _=>?_)
 ·refine Run.callL Fl Gl hI (Dr (hrd.monoU F12.1) (by omega)) rfl fun v' I' S4 w'=>?_
  rintro ⟨p3,hp3,rfl,q,hq,hlq⟩ hE4 hI
  exact ⟨_,_,S4,rfl,hI,F12.trans hE4,p3,by omega,rfl,_,_,ps,q,rfl,hr.monoC hE4.1,hps,h0,hq,hlq⟩
 ·refine aF hlk bM ?_
  refine Run.callL bK bJ hI (cY (n:=lk.length) (hrd.monoU F12.1) (by omega) hlk0) rfl fun v' I' S3 w'=>?_
  rintro ⟨rfl,rfl,k6,hk6,rfl⟩ _ hI
  have hI:Inv w [br] [rdI br sl (p+3)] S3 w':=hI
  refine hY hI hlk bM aN hk6 (fun cs hcs=>hcs) ?_
  rw [ed] at hokq
  refine Run.call0E om oq hI (mM (hokq _ (bQ hk6))) fun v I' S4 w'=>?_
  rintro ⟨rfl,g,q,rfl,hg,hlq⟩ hE4 hI
  refine al (v:=g) rfl ?_
  refine al (v:=.bool true) rfl ?_
  exact ⟨_,_,S4,rfl,hI,F12.trans hE4,p+3,by omega,rfl,u,g,ps,q,rfl,hr.monoC hE4.1,hps,h0,hg,hlq⟩
theorem u3 {p:Nat} {v:Value} {q:List T} (hrd:RdSl S 1 jB sl ys) (h:RdSl S 4 (RdT S) v q) (hq:LightT 6 300 q) (hp:p<=50000000) :
  Tri Tryz.prog ze [rdP br,v] [rdI br sl p] S (NS br sl p 20 10 400):=by
 intro w hI
 refine mS.2 ?_
 dsimp only[mS,aO]
 have hql:=hq.1
 refine d3 hI bA fun v0 w' hI=>?_
 have hI:Inv w [br] [aE v0 ab 4 [],rdI br sl p] S w':=hI.last 0 rfl
 refine ⟨fun a b w'=>∃ (j p1:Nat) (S1:ad) (css:List (List Value)) (q1:List T),a=.int .i64 (j:Int)/\j<=q.length/\q1.length=j/\p1<=p+2 * j/\Ext w.heap.size [br] S S1/\Rows 4 (RdT S1) css q1/\(∀ c∈q1,wT c<=400)/\Inv w [br] [aE b ab 4 css,rdI br sl p1] S1 w',
  fun a _ _=>q.length - (intOf a).toNat,⟨0,p,S,[],[],rfl,aR _,rfl,by omega,Ext.refl _ _ _,Rows.nil _ _,by simp,hI⟩,?_⟩
 intro t6 _ _ t5 _ _ _ _ _ _ _ _ _ _ _ _ _ w'
 rintro ⟨j,p1,S1,css,q1,rfl,hj,hq1,hp1,hE1,hR,hqw,hI⟩
 have hcl:=hR.hc
 have h':=h.monoT hE1.1
 refine aF h' ah ?_
 refine bL ?_
 refine aH (fun hjl=>?_) (fun hjl=>?_)
 ·have hj':j<q.length:=by omega
  refine cj hI h' ah ac hj' (fun _ _=>RdT.length) fun cs hcs=>?_
  have hwc:=hq.2 _ (bQ hj')
  refine Run.callL lV lT hI (kl (p:=p1) (hrd.monoU hE1.1) hcs (by omega) (by omega)) rfl fun v' I' S2 w'=>?_
  rintro ⟨p2,hp2,rfl,ds,d,rfl,hds,hwd⟩ hE2 hI
  refine cM (css:=css) hI 0 _ bA (by omega) (by omega) rfl hds.length hds.one (by omega) (by omega) fun v' w' hI=>?_
  refine bn (by omega) ?_
  exact ⟨⟨j+1,p2,S2,_,q1++[d],rfl,hj',by simp only [bh,hq1,bk,bG,cZ],by omega,hE1.trans hE2,(hR.monoR fun _ _ h=>RdT.mono hE2.1 h).snoc hds hds.length,fun c hc=>(cd.1 hc).elim (hqw c) (fun hc=>by simp only [bY] at hc; subst hc; omega),hI⟩,
   by simp only [intOf,dF]; omega⟩
 refine ⟨fun v w'=>∃ (p1:Nat) (S1:ad) (q1:List T),p1<=p+20/\Ext w.heap.size [br] S S1/\RdSl S1 4 (RdT S1) v q1/\LightT 10 400 q1/\Inv w [br] [rdI br sl p1] S1 w',?_,?_⟩
 ·refine Run.callL bK bJ hI (cY (n:=30) (hrd.monoU hE1.1) (by omega) (by omega)) rfl fun v' I' S1 w'=>?_
  rintro ⟨rfl,rfl,kk,hkk,rfl⟩ _ hI
  have hI:Inv w [br] [aE t5 ab 4 css,rdI br sl (p1+1)] S1 w':=hI
  refine bl ?_
  refine aH (fun _=>?_) (fun _=>?_)
  ·refine ⟨fun b w'=>∃ (S2:ad) (css:List (List Value)) (q1:List T),q1.length<=10/\Ext w.heap.size [br] S S2/\Rows 4 (RdT S2) css q1/\(∀ c∈q1,wT c<=400)/\Inv w [br] [aE b ab 4 css,rdI br sl (p1+1)] S2 w',
    fun b _=>30 - lenOf b,⟨S1,css,q1,by omega,hE1,hR,hqw,hI⟩,?_⟩
   intro t5 _ _ _ _ _ _ _ w'
   rintro ⟨S2,css,q1,hq1,hE2,hR,hqw,hI⟩
   have hlen:∀ {w':World} {S2:ad} {t5:Value} {css:List (List Value)} {q1:List T},Inv w [br] [aE t5 ab 4 css,rdI br sl (p1+1)] S2 w'->Rows 4 (RdT S2) css q1->∃ a m,t5=.slice a q1.length m:=by
    intro w' S2 t5 css q1 hI hR
    obtain ⟨_,_,_,a,m,e,_⟩:=rn hI hR
    exact ⟨a,m,e⟩
   obtain ⟨a1,m1,rfl⟩:=hlen hI hR
   have hcl:=hR.hc
   refine gL ah ?_
   refine eL ?_
   refine aH (fun hle=>?_) (fun hle=>?_)
   ·refine Run.call0E cV cU hI (dE ⟨#[116,114,117,101]⟩ (by decide) (iL S2) (by simp)) fun v' I' S3 w'=>?_
    rintro ⟨rfl,ds,rfl,hds⟩ hE3 hI
    refine cM (css:=css) hI 0 ds bA (by omega) (by omega) rfl hds.length hds.one (by omega) (by omega) fun v' w' hI=>?_
    have hI:Inv w [br] [aE v' ab 4 (css++[_]),rdI br sl (p1+1)] S3 w':=hI
    have hR2:=(hR.monoR fun _ _ h=>RdT.mono hE3.1 h).snoc hds hds.length
    obtain ⟨a2,m2,rfl⟩:=hlen hI hR2
    have e4:(ByteArray.mk #[116,114,117,101]).size=4:=rfl
    refine ⟨⟨S3,_,_,by rw [bh]; simp only [bk,bG]; omega,hE2.trans hE3,hR2,fun c hc=>(cd.1 hc).elim (hqw c) (fun hc=>by simp only [bY] at hc; subst hc; simp only [wT,wL,bG,e4]; omega),hI⟩,?_⟩
    simp only [lenOf,bh,bk,bG]
    omega
   ·obtain ⟨S3,hE3,hI,hr⟩:=rn hI hR
    exact ⟨_,S3,q1,by omega,hE2.trans hE3,hr,⟨hq1,hqw⟩,hI⟩
  ·obtain ⟨S3,hE3,hI,hr⟩:=rn hI hR
   exact ⟨_,S3,q1,by omega,hE1.trans hE3,hr,⟨by omega,hqw⟩,hI⟩
 intro t5 _ _ _ _ _ _ _ _ _ _ w'
 rintro ⟨p2,S2,q2,hp2,hE2,hr,hl,hI⟩
 exact ⟨_,_,S2,rfl,hI,hE2,p2,hp2,rfl,q2,hr,hl⟩
theorem tI {v:Value} (h:RdSl S 1 jB v ys):Tri Tryz.prog zA [v] [] S fun v' I' S'=>I'=[]/\∃ u g ps q,v'=.tuple #[u,g]/\RdSl S' 5 (RdC S') u ps/\Light 30 900 ps/\RdSl S' 4 (RdT S') g q/\LightT 10 400 q:=by
 intro w hI
 refine ml.2 ?_
 dsimp only[ml,aG]
 refine Run.call0E Gq Gd hI (JU h) fun v1 I' S1 w'=>?_
 rintro ⟨rfl,br,sl,ys',rfl,rfl,hrd⟩ _ hI
 have hI:Inv w [] [rdI br sl 0] S1 w':=hI
 refine Run.callL IV Jd hI (FC (p:=0) hrd (by omega)) rfl fun v2 I' S2 w'=>?_
 rintro ⟨p1,hp1,rfl,u,g,ps,q,rfl,hps,hlp,h0,hq,hlq⟩ hE2 hI
 refine al (v:=u) rfl ?_
 refine al (v:=g) rfl ?_
 refine Run.callL Aa B7 hI (zw (p:=p1) (hrd.monoU hE2.1) (by omega)) rfl fun v1 I' S3 w'=>?_
 rintro ⟨p2,css1,q1,hp2,rfl,hR1,hq1,h1,_⟩ hE3 hI
 have hI:Inv w [] [aE v1 ag 5 css1,rdI br sl p2] S3 w':=hI
 have hc1:=hR1.hc
 have hl1:=hq1.1
 have hl2:=hlp.1
 refine Bx hI 0 (css:=css1) de (by omega) rfl (hps.monoC hE3.1) (fun _ _=>RdC.length) (fun _ _=>RdC.one) (by omega) (by omega) fun v' w' css3 hR3 hI=>?_
 have hI:Inv w [] [aE v' ag 5 (css1++css3),rdI br sl p2] S3 w':=hI
 obtain ⟨S4,HE34,hI,hr⟩:=qy hI (hR1.append hR3)
 have hE4:=(hE2.trans hE3).trans HE34
 have hq14:=hq1.append hlp
 refine Run.callL xA wo hI (vG (m:=200) (p:=p2) (hrd.monoU hE4.1) hr ⟨by have:=hq14.1; omega,hq14.2⟩ (by rw [bh]; omega) (by omega) (by omega)) rfl fun v3 I' S5 w'=>?_
 rintro ⟨p3,hp3,rfl,q2,hr2,hq2⟩ hE5 hI
 refine Run.callL wU wX hI (u3 (p:=p3) (hrd.monoU (hE4.trans hE5).1) (hq.monoT (hE3.1.trans (HE34.1.trans hE5.1))) hlq (by omega)) rfl fun v4 I' S6 w'=>?_
 rintro ⟨p4,hp4,rfl,q3,hr3,hq3⟩ hE6 hI
 exact ⟨_,[],S6,rfl,hI.nil,(hE4.trans hE5).trans hE6,rfl,_,_,q2,q3,rfl,hr2.monoC hE6.1,hq2,hr3,hq3⟩
end
end
section
open Go Go.RowKit
section
attribute [local irreducible] Run CondV aq aK
theorem Dj {ts:List T} {S:ad} {u v:Value} (h:RdSl S 4 (RdT S) u ts) (g:RdSl S 4 (RdT S) v ts):Pure Tryz.prog Cp [.agg #[u],.agg #[v]] S (.bool true):=by
 intro w hI
 refine ov.2 ?_
 dsimp only[ov,aO]
 refine bp hI fun b2 w' hI=>?_
 refine bp hI fun b3 w' hI=>?_
 have hI:Inv w [] [.blk b2 (.cells #[u] dH),.blk b3 (.cells #[v] dH)] S w':=hI
 refine ae hI 0 rfl jx ao rfl ?_
 refine ae hI 1 rfl jx ao rfl ?_
 refine Run.callPure gj gn hI (nl (fun t _=>fW t) h g) fun w' hI=>?_
 rw [(uX _ _).2 rfl]
 exact done hI rfl
theorem zD {rs:List (List T)} {S:ad} {u v:Value} (h:RdSl S 1 (RdAns S) u rs) (g:RdSl S 1 (RdAns S) v rs):Pure Tryz.prog DA [u,v] S (.bool true):=by
 intro w hI
 have hlen:=h.le
 simp only [maxLen] at hlen
 refine p9.2 ?_
 dsimp only[p9,aO]
 refine aF h eq ?_
 refine aF g eq ?_
 refine gV ?_
 refine aw (fun hb=>by simp at hb) (fun _=>?_)
 refine ⟨fun i w'=>∃ k:Nat,k<=rs.length/\i=.int .i64 k/\Inv w [] [] S w',fun i _=>rs.length - (intOf i).toNat,⟨0,aR _,rfl,hI⟩,?_⟩
 clear hI
 intro t5 _ _ _ t26 t25 t24 t23 t22 t21 t20 t19 t18 t17 _ _ _ _ w'
 rintro ⟨k,hk,rfl,hI⟩
 refine aF h eq ?_
 refine bL ?_
 refine aH (fun hki=>?_) (fun hki=>done hI rfl)
 have hk':k<rs.length:=by omega
 obtain ⟨b,o,cap,c,E,fz,rfl,hS,u1,he,hR⟩:=h.at_ hk'
 obtain ⟨b2,o2,cap2,c2,E2,fz2,rfl,hS2,v1,he2,hR2⟩:=g.at_ hk'
 have hJ:=hI
 clear hI
 refine ⟨fun D qm ge pu z5 Cm s5 pf pH BX mZ w_=>Fx D 0 [mZ=.slice (some ⟨b,o,none⟩) rs.length cap,BX=.int .i64 k,pH=.pointer (some ⟨b,o+k * 1,none⟩),pf=.agg #[u1],s5=.slice (some ⟨b2,o2,none⟩) rs.length cap2,Cm=.int .i64 k,z5=.pointer (some ⟨b2,o2+k * 1,none⟩),pu=.agg #[v1],ge=.bool true,qm=.bool false]/\Inv w [] [] S w_,⟨Fx.nil _ _,hJ.draw⟩,⟨?_,?_,?_,?_,?_,?_,?_,?_,?_,?_,trivial⟩,?_⟩
 all_goals (intro D bI; intros; rename_i qm ge pu z5 Cm s5 pf pH BX mZ w_ hA_; have hF_:=hA_.1; obtain ⟨⟨cJ,cH,cK,cI,cN,cP,cz,dC,ek,fZ,_⟩,hI⟩:=hA_)
 ·exact ⟨hF_.set 0 rfl,hI⟩
 ·exact ⟨hF_.set 1 rfl,hI⟩
 ·obtain rfl:=cJ ‹_›
  obtain rfl:=cH ‹_›
  refine aD eq hk' ?_
  exact ⟨hF_.set 2 rfl,hI⟩
 ·obtain rfl:=cK ‹_›
  refine cm (cs:=[u1]) nE rfl (fun j v hj=>by rw [hI.cellS hS]; exact aL he j v hj) ?_
  exact ⟨hF_.set 3 rfl,hI⟩
 ·exact ⟨hF_.set 4 rfl,hI⟩
 ·exact ⟨hF_.set 5 rfl,hI⟩
 ·obtain rfl:=cN ‹_›
  obtain rfl:=cP ‹_›
  refine aD eq hk' ?_
  exact ⟨hF_.set 6 rfl,hI⟩
 ·obtain rfl:=cz ‹_›
  refine cm (cs:=[v1]) nE rfl (fun j v hj=>by rw [hI.cellS hS2]; exact aL he2 j v hj) ?_
  exact ⟨hF_.set 7 rfl,hI⟩
 ·obtain rfl:=cI ‹_›
  obtain rfl:=dC ‹_›
  refine Run.callPure zx zo hI (Dj hR hR2) fun w_ hI=>?_
  exact ⟨hF_.set 8 rfl,hI⟩
 ·obtain rfl:=ek ‹_›
  refine ct ?_
  exact ⟨hF_.set 9 rfl,hI⟩
 obtain ⟨rfl,rfl,rfl,rfl,rfl,rfl,rfl,rfl,rfl,rfl,_⟩:=hF_.all
 clear hF_ cJ cH cK cI cN cP cz dC ek fZ
 refine aw (fun hb=>by cases hb) (fun _=>?_)
 refine bn (by omega) ?_
 exact ⟨⟨k+1,hk',rfl,hI⟩,by simp [intOf]; omega⟩
theorem RdAnsL.mono {S S':ad} (hs:Sle S S') {v:Value} {rs:List (List T)} (h:RdSl S 1 (RdAns S) v rs):RdSl S' 1 (RdAns S') v rs:=h.mono hs fun _ _=>RdAns.mono hs
end
end
section
open Go Go.RowKit
section
attribute [local irreducible] Run CondV aq aK
theorem np {ys:List Nat} {S:ad} {v:Value} (h:RdSl S 1 jB v ys):Tri Tryz.prog ph [v] [] S fun v' I' S'=>I'=[]/\∃ u g ps q,v'=.tuple #[u,g]/\RdSl S' 5 (RdC S') u ps/\Light 30 900 ps/\RdSl S' 4 (RdT S') g q/\LightT 10 400 q:=by
 intro w hI
 refine ij.2 ?_
 dsimp only[ij,aG]
 refine Run.call0E xg xt hI (tI h) fun v1 I' S1 w'=>?_
 rintro ⟨rfl,u,g,ps,q,rfl,h1,h2,h3,h4⟩ hE1 hI
 refine al (v:=u) rfl ?_
 refine al (v:=g) rfl ?_
 exact ⟨_,_,S1,rfl,hI,hE1,rfl,u,g,ps,q,rfl,h1,h2,h3,h4⟩
theorem Gv {ys:List Nat} {S:ad} {v:Value} (h:RdSl S 1 jB v ys):Pure Tryz.prog cc [v] S (.bool true):=by
 intro w hI
 refine jp.2 ?_
 dsimp only[jp,aG]
 refine aF h dS ?_
 refine eU ?_
 refine aH (fun _=>done hI rfl) (fun _=>?_)
 refine Run.call0E o8 pd hI (np h) fun t20 I' S1 w'=>?_
 rintro ⟨rfl,u5,g5,p,q,rfl,hp,hlp,hq,hlq⟩ hE1 hI
 have hw:p.length+wP p<=1048576:=by have:=hlp.le; omega
 have hw2:q.length+wL q<=1048576:=by have:=hlq.le; omega
 refine al (v:=u5) rfl ?_
 refine al (v:=g5) rfl ?_
 refine Run.pubCB kH lh hI (iO hp hq hw hw2) fun s S2 w' hE2 hs hI=>?_
 have hp:=hp.monoC hE2.1
 have hq:=hq.monoT hE2.1
 refine al (v:=s) rfl ?_
 refine al (v:=.bool (ci p && bT q)) rfl ?_
 refine Run.pubCB vf uQ hI (qH hp hq hw hw2) fun t S3 w' hE3 ht hI=>?_
 have hp:=hp.monoC hE3.1
 have hq:=hq.monoT hE3.1
 have hs:=hs.monoC hE3.1
 have hle:=(hE1.1.trans hE2.1).trans hE3.1
 refine al (v:=t) rfl ?_
 refine al (v:=.bool (ci p && bT q)) rfl ?_
 refine ⟨fun t w'=>t=.bool (!(ci p && bT q))/\Inv w [] [] S3 w',?_,?_⟩
 ·refine Ou zX ?_
  rw [Kt]
  refine rpG ?_
  refine Run.callPure kf jQ hI (i8 hs ht) fun w' hI=>?_
  refine ct ?_
  refine rpG ?_
  refine ct ?_
  refine rpG ?_
  exact ⟨rfl,hI⟩
 repeat clear hI
 intro t47 _ _ _ _ _ _ _ _ _ _ _ _ w'
 rintro ⟨rfl,hI⟩
 refine aw (fun hb=>?_) (fun hb=>?_)
 ·refine Ry zX ?_
  rw [Kt]
  refine rpG ?_
  refine Run.callPure kf jQ hI (i8 hs ht) fun w' hI=>?_
  refine rpG ?_
  exact kC hI hle rfl
 ·have hv:(ci p && bT q)=true:=by simpa using hb
  obtain ⟨h2,htw⟩:=H8 hv
  obtain ⟨r,hr⟩:=SolR.ex p q 5 60
  have hr2:=hr.sliced hv
  have hsw:(fw p q).length+wP (fw p q)<=1048576:=by
   have e:fw p q=p.filter (inP (o4 p q)):=ai hv
   have:=BT (inP (o4 p q)) p
   rw [e]
   omega
  refine Run.call0E Bh zZ hI (yi (most:=5) (fuel:=60) hp hq (by omega) (by omega) hr) fun t71 I' S5 w'=>?_
  rintro ⟨rfl,v1,rfl,hv1⟩ hE5 hI
  refine al (v:=v1) rfl ?_
  refine al (v:=.int .i64 r.2) rfl ?_
  refine Run.call0E Bh zZ hI (yi (most:=5) (fuel:=60) (hs.monoC hE5.1) (hq.monoT hE5.1) (by omega) (by omega) hr2) fun t77 I' S6 w'=>?_
  rintro ⟨rfl,v2,rfl,hv2⟩ hE6 hI
  refine al (v:=v2) rfl ?_
  refine al (v:=.int .i64 r.2) rfl ?_
  have hE56:=hE5.trans hE6
  refine Run.pubCB kH lh hI (iO (hs.monoC hE56.1) (hq.monoT hE56.1) hsw hw2) fun s2 S7 w' hE7 hs2 hI=>?_
  rw [htw] at hs2
  rw [h2]
  refine al (v:=s2) rfl ?_
  refine al (v:=.bool true) rfl ?_
  have hE57:=hE56.trans hE7
  refine eW rfl ?_
  refine rpG ?_
  refine Run.callPure Ar BC hI (zD (RdAnsL.mono (hE6.trans hE7).1 hv1) (RdAnsL.mono hE7.1 hv2)) fun w' hI=>?_
  refine rpG ?_
  refine Run.callPure kf jQ hI (i8 hs2 (hs.monoC hE57.1)) fun w' hI=>?_
  refine rpG ?_
  exact kC hI (hle.trans hE57.1) rfl
end
end
section
open Go Go.ChangeShapes Go.WideShapes Go.RowKit
def L0:List (String × DataW Unit):=[("math/bits.deBruijn32tab",Rows.laid_math_bits_deBruijn32tab),("math/bits.deBruijn64tab",Rows.laid_math_bits_deBruijn64tab),("internal/strconv.uint64pow10",Rows.laid_internal_strconv_uint64pow10)]
theorem NT (os:Os) (args:Array Value):laidMetH Tryz.prog L0 ((World.doorLaid Tryz.prog 24 os).forCall (fun _ _=>0) ⟨#[],args,[]⟩).memory:=
 laidMetH_of_parts3 (fuel:=8) (laidMet_of_run' 8 (by kernel_rfl) (by kernel_rfl)) (by kernel_rfl) (by kernel_rfl)
end
section
open Go Go.ChangeShapes Go.WideShapes Go.ChangeAt Go.RowKit

theorem Tryz.own:ownKnob Tryz.prog.godebug=none:=by kernel_rfl
theorem Tryz.kids:Kids Tryz.prog (·<Tryz.prog.types.size):=kids_rows (by kernel_rfl) (by kernel_rfl)
theorem Tryz.full:∀ t e,t<Tryz.prog.types.size->Tryz.prog.underlying t=some (.slice e)->0<Tryz.prog.cellsOf e:=slices_full_of Tryz.prog (by kernel_rfl)
section
variable {H:Type} {enc:TypeId × Value->H} {W W':World}
theorem Jo {P:Program}:∀ {ts:List TypeId} {vs:List Value} {ds:List (DataW H)} {ps:List MemPlace},DataW.TrodAll enc P W 0 (fun _=>true) true ts vs ds ps->(∀ p∈ps,W.sameAt W' p)->
  DataW.TrodAll enc P W' 0 (fun _=>true) true ts vs ds ps
 | [],[],[],_,h,_=>h
 | _::_,_::_,_::_,_,⟨p,q,⟨n,h1⟩,h2,e⟩,hs=>
  ⟨p,q,⟨n,DataW.trod_carry n _ _ _ h1 fun x hx=>hs x (by rw [e]; exact eM _ hx)⟩,Jo h2 fun x hx=>hs x (by rw [e]; exact kw _ hx),e⟩
theorem Qr {p:MemPlace} (h:∀ b,b<W.heap.size->W'.heap[b]?=W.heap[b]?) (hp:p.block<W.heap.size):W.sameAt W' p:=by
 cases p with
 | cell b off=>simp only [World.sameAt,World.cell?]; rw [h b hp]
 | map b=>exact h b hp
theorem MX {f:Func} {s:ChangeSpec} {args:Array Value} {ds gs:List (DataW H)} {before p q:List MemPlace}
  (hW:DataW.Whole enc Tryz.prog f.params.toList s.vars false W args.toList ds gs before) (hA:DataW.TrodAll enc Tryz.prog W 0 (fun _=>true) true f.params.toList args.toList ds p)
  (hV:DataW.TrodVars enc Tryz.prog W (fun _=>true) s.vars gs q) (hb:before=p++q) (hv:s.vars=[]) (hts:∀ t∈f.params.toList,t<Tryz.prog.types.size) (hr:f.resultTypes=#[Kv])
  (hs:(s.fn H (ds++gs)).results=[.lit (.bool true)]) (ha:(s.fn H (ds++gs)).args=ds) (hsv:(s.fn H (ds++gs)).vars=[]) (hI:Inv W [] [] (LT W) W') :
  s.post enc Tryz.prog f false true false false W args (.bool true) W':=by
 have hsame:∀ b,b<W.heap.size->W'.heap[b]?=W.heap[b]?:=fun b hb=>hI.same b hb
 have hlt:=hW.lt
 rw [hv] at hV
 obtain ⟨hg,hq⟩:=trodVars_none hV
 subst hq
 rw [cX] at hb
 subst hb
 have hA':=Jo (W':=W') hA fun x hx=>Qr hsame (hlt x hx)
 refine ⟨ds,gs,before,[],before,[],hW,?_,?_,?_,Nd hI.os hI.output hsame,fun h=>by cases h⟩
 ·rw [hs,hr]
  exact trodAll_mk1 (shut_bool zX true)
 ·rw [ha]
  exact DataW.TrodAll.respare Tryz.kids Tryz.full hts hA' fun x hx=>by simpa using hlt x hx
 ·rw [hv,hsv]
  rfl
end
end
end Go.Proofs.YtcpgagfdeflbkaaGreatDoor

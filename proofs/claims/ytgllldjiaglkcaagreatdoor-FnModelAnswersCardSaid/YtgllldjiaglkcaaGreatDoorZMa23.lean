/- spec.l16Body. -/
import Derived.Test.YtgllldjiaglkcaaGreatDoorZMa21
import Derived.Test.YtgllldjiaglkcaaGreatDoorZMa5
import Derived.Test.YtgllldjiaglkcaaGreatDoorZMa22
namespace Go.Proofs.YtgllldjiaglkcaaGreatDoor
section
open Go Go.RowKit
def IsM (S:af) (v:Value) (r:Bool × ao):Prop:=∃ kb kp kc,v=.tuple #[kvn kb kp,.bool r.1]/\26<=kp/\kp<=maxLen/\S kb=some (.cells kc ac)/\KnownC S kc r.2
def IsKn (S:af) (v:Value) (st:ao):Prop:=∃ kb kp kc,v=kvn kb kp/\26<=kp/\kp<=maxLen/\S kb=some (.cells kc ac)/\KnownC S kc st
theorem IsM.mono {S S':af} {v:Value} {r:Bool × ao} (h:IsM S v r) (hs:Sle S S'):IsM S' v r:=by
 obtain ⟨kb,kp,kc,h1,h2,h3,h4,h5⟩:=h
 exact ⟨kb,kp,kc,h1,h2,h3,hs _ _ h4,h5.mono hs⟩
theorem IsKn.mono {S S':af} {v:Value} {st:ao} (h:IsKn S v st) (hs:Sle S S'):IsKn S' v st:=by
 obtain ⟨kb,kp,kc,h1,h2,h3,h4,h5⟩:=h
 exact ⟨kb,kp,kc,h1,h2,h3,hs _ _ h4,h5.mono hs⟩
theorem IsM.parts {S:af} {v:Value} {r:Bool × ao} (h:IsM S v r):∃ u,v=.tuple #[u,.bool r.1]/\IsKn S u r.2:=by
 obtain ⟨kb,kp,kc,h1,h2⟩:=h
 exact ⟨_,h1,kb,kp,kc,rfl,h2⟩
theorem aba {hd:T} {facts gs out:List T} {st:ao} (hh:Gl hd) (hfs:∀ f∈facts,Fct f) (hgs:∀ g∈gs,Gl g) (hst:StF st) (hc:kB hd gs st) (ho:∀ x∈out,okO x) (hn:out.length<=1000000) :
  (∀ x∈lM hd facts gs out st,okO x)/\(lM hd facts gs out st).length<=1000000:=by
 rw [AP]
 refine ⟨fun x hx=>?_,?_⟩
 ·rcases yO _ _ x hx with h|h
  ·exact ho x h
  ·exact (FZ hh hfs gs st hgs hst hc x h).ok.2.2.1
 ·have:=tD (eh hd facts gs st) out
  omega
theorem YF {hd f g:T} {facts gs out:List T} {st:ao} (hh:Gl hd) (hfs:∀ f∈facts,Fct f) (hf:Fct f) (hg:Gl g) (hgs:∀ g∈gs,Gl g) (hst:StF st) (hc:kB hd (g::gs) st) (ho:∀ x∈out,okO x) (hn:out.length<=1000000) :
  (∀ x∈(if (bm g f st).1=true then lM hd facts gs out (bm g f st).2 else out),okO x)/\(if (bm g f st).1=true then lM hd facts gs out (bm g f st).2 else out).length<=1000000:=by
 split
 ·rename_i hm
  exact aba hh hfs hgs (iS hg hf hst).1 (jb hc hg hf hst hm) ho hn
 ·exact ⟨ho,hn⟩
section
attribute [local irreducible] Run CondV aw aN
theorem JG (c0:C) (facts:List T) (hh:Gl c0.head) (hfs:∀ f∈facts,Fct f) (hbs:∀ g∈c0.body,Gl g):∀ (gs:List T) (i:Nat),i+gs.length=c0.body.length->c0.body.drop i=gs->
  ∀ (S:af) (cs:List Value) (v fv kn:Value) (out:List T) (st:ao),RdC S cs c0->RdSl S 4 (RdT S) v out->RdSl S 4 (RdT S) fv facts->IsKn S kn st->StF st->kB c0.head gs st->(∀ x∈out,okO x)->out.length<=1000000->
  Tri Tryz.prog QN [v,.agg cs.toArray,.int .i64 i,fv,kn] [] S (WJ (lM c0.head facts gs out st)):=by
 intro gs
 induction gs with
 | nil=>
  intro i hi hdr S cs v fv kn out st h hv hf hkn hst hc ho hn w hI
  obtain ⟨kb,kp,kc,rfl,hkp,hkm,hS,hkc⟩:=hkn
  obtain ⟨hd,ks,rfl,h1,h2⟩:=h
  have h1':=h1
  obtain ⟨kv,rfl,g1,g2,g3,g4⟩:=RdT.iff.1 h1
  simp only [bQ,ud] at hi
  refine lW.2 ?_
  dsimp only[lW,r3]
  refine bt hI fun b6 w' hI=>?_
  refine aC hv ae ?_
  refine dC ?_
  rw [lM]
  refine aI (fun hb=>?_) (fun hb=>?_)
  ·rw [ai (by omega)]
   exact ⟨_,_,_,rfl,hI.pick [false],Ext.refl _ _ _,rfl,hv⟩
  rw [ah (by omega)]
  refine ag hI 0 rfl bp aj rfl ?_
  refine aC h2 ae ?_
  refine bo ?_
  refine aI (fun _=>?_) (fun hb=>absurd (by omega) hb)
  refine aB cK ?_
  refine eE hI 0 [.int .i64 c0.head.kind,.int .i64 c0.head.n,.string c0.head.name,kv] ad rfl rfl VH ?_
  have hok:=hh.ok
  refine Run.call0 Mf M3 hI (IG h1' hok.1 (by omega) hst.ok.1 hst.ok.2 hS hkc) fun v' I' S' w'=>?_
  rintro ⟨rfl,cs1,L,rfl,rfl,hT⟩ _ hI
  obtain ⟨S1,hI,hE,hins⟩:=hI.pubExt
  have hct:=HE hh hst (fun y hy hk=>by
   rcases hc y hy hk with h|⟨g,hg,_⟩
   ·exact h
   ·cases hg)
  refine Run.call0E PW PR hI (NH (hv.monoT hE.1) (hT.rd hins) ho hct.ok.2.2.1 hn) fun v' I' S2 w'=>?_
  rintro ⟨rfl,hr⟩ hE2 hI
  exact ⟨_,_,_,rfl,hI.pick [false],hE.trans hE2,rfl,hr⟩
 | cons g gs ih=>
  intro i hi hdr S cs v fv kn out st h hv hf hkn hst hc ho hn w hI
  obtain ⟨kb,kp,kc,rfl,hkp,hkm,hS,hkc⟩:=hkn
  have h0:=h
  obtain ⟨hd,ks,rfl,h1,h2⟩:=h
  obtain ⟨kv,rfl,g1,g2,g3,g4⟩:=RdT.iff.1 h1
  simp only [bu] at hi
  have hib:i<c0.body.length:=by omega
  have hlen2:=h2.le
  have hlenf:=hf.le
  simp only [maxLen] at hlen2 hlenf
  have hge:c0.body[i]=g/\c0.body.drop (i+1)=gs:=by
   rw [cZ hib,jp] at hdr
   exact hdr
  have hg:Gl g:=by rw [<- hge.1]; exact hbs _ (bA hib)
  have hgs:∀ x∈gs,Gl x:=fun x hx=>hbs x (by rw [<- hge.2] at hx; exact xt hx)
  refine lW.2 ?_
  dsimp only[lW,r3]
  refine bt hI fun b6 w' hI=>?_
  refine aC hv ae ?_
  refine dC ?_
  rw [lM]
  refine aI (fun hb=>?_) (fun hb=>?_)
  ·rw [ai (by omega)]
   exact ⟨_,_,_,rfl,hI.pick [false],Ext.refl _ _ _,rfl,hv⟩
  rw [ah (by omega)]
  refine ag hI 0 rfl bp aj rfl ?_
  refine aC h2 ae ?_
  refine bo ?_
  refine aI (fun hb=>by omega) (fun _=>?_)
  generalize hF:(fun (out:List T) (f:T)=>if (bm g f st).1=true then lM c0.head facts gs out (bm g f st).2 else out)=F
  have hF2:∀ o f,F o f=if (bm g f st).1=true then lM c0.head facts gs o (bm g f st).2 else o:=fun o f=>by rw [<- hF]
  refine ⟨fun j t w'=>∃ (k:Nat) (o:List T) (S':af),k<=facts.length/\j=.int .i64 k/\(facts.drop k).foldl F o=facts.foldl F out/\(∀ x∈o,okO x)/\o.length<=1000000/\Ext w.heap.size [] S S'/\RdSl S' 4 (RdT S') t o/\
    Inv w [] [.blk b6 (.cells #[.int .i64 c0.head.kind,.int .i64 c0.head.n,.string c0.head.name,kv,ks] au)] S' w',
   fun j _ _=>facts.length - (intOf j).toNat,⟨0,out,S,be _,rfl,rfl,ho,hn,Ext.refl _ _ _,hv,hI⟩,?_⟩
  intro t11 _ _ t0 _ _ _ _ _ _ _ _ _ _ _ _ _ _ _ _ _ _ _ _ _ _ _ _ _ _ _ _ w'
  rintro ⟨k,o,S',hk,rfl,hrel,hoo,hno,hE,hv',hI⟩
  have hf':=hf.monoT hE.1
  refine aC hf' ae ?_
  refine bF ?_
  refine aI (fun hki=>?_) (fun hki=>?_)
  ·have hk':k<facts.length:=by omega
   rw [cZ hk',nD] at hrel
   have hfk:=hfs _ (bA hk')
   have hso:=YF hh hfs hfk hg hgs hst hc hoo hno
   obtain ⟨b1,o1,cap1,c1,E1,fz1,rfl,hS1,hR1⟩:=(h2.monoT hE.1).at_ hib
   obtain ⟨b2,o2,cap2,c2,E2,fz2,rfl,hS2,hR2⟩:=hf'.at_ hk'
   rw [hge.1] at hR1
   obtain ⟨r,hr⟩:∃ r,r=bm g facts[k] st:=⟨_,rfl⟩
   refine ⟨fun t w'=>∃ S2,Ext w.heap.size [] S S2/\RdSl S2 4 (RdT S2) t (F o facts[k])/\Inv w [] [.blk b6 (.cells #[.int .i64 c0.head.kind,.int .i64 c0.head.n,.string c0.head.name,kv,.slice (some ⟨b1,o1,none⟩) c0.body.length cap1] au)] S2 w',?_,?_⟩
   ·have hkd:=hkc.1
    refine ⟨fun D wH vZ rY rx yH Az Eg DK Em Dd x1 Fl CY oM CP zE w_=>Fx D 0 [zE=.pointer (some ⟨b6,4,none⟩),CP=.slice (some ⟨b1,o1,none⟩) c0.body.length cap1,oM=.int .i64 i,CY=.pointer (some ⟨b1,o1+i * 4,none⟩),Fl=.agg (aO c1 (o1+i * 4) 4).toArray,x1=.slice (some ⟨b2,o2,none⟩) facts.length cap2,Dd=.int .i64 k,Em=.pointer (some ⟨b2,o2+k * 4,none⟩),DK=.agg (aO c2 (o2+k * 4) 4).toArray,Eg=kvn kb kp,True,True,True,True,True,True]/\∃ SN,Ext w.heap.size [] S' SN/\(D 10=true->IsM SN Az r)/\(D 11=true->IsM SN yH r)/\(D 12=true->IsKn SN rx r.2)/\(D 13=true->rY=.bool r.1)/\(D 14=true->IsKn SN vZ r.2)/\(D 15=true->wH=.bool r.1)/\Inv w [] [.blk b6 (.cells #[.int .i64 c0.head.kind,.int .i64 c0.head.n,.string c0.head.name,kv,.slice (some ⟨b1,o1,none⟩) c0.body.length cap1] au)] SN w_,⟨Fx.nil _ _,⟨S',Ext.refl _ _ _,ba,ba,ba,ba,ba,ba,hI.draw⟩⟩,⟨?_,?_,?_,?_,?_,?_,?_,?_,?_,?_,?_,?_,?_,?_,?_,?_,trivial⟩,?_⟩
    all_goals (intro D bP; intros; rename_i wH vZ rY rx yH Az Eg DK Em Dd x1 Fl CY oM CP zE w_ hA_; have hF_:=hA_.1; obtain ⟨⟨cm,cj,cd,ci,bT,ct,bZ,cR,dq,er,co,cG,dJ,fl,fS,gD,_⟩,⟨SN,hN,e10,e11,e12,e13,e14,e15,hI⟩⟩:=hA_)
    ·refine aB bp ?_
     exact ⟨hF_.set 0 rfl,⟨SN,hN,e10,e11,e12,e13,e14,e15,hI⟩⟩
    ·obtain rfl:=cm ‹_›
     refine aX hI 0 aj rfl rfl ?_
     exact ⟨hF_.set 1 rfl,⟨SN,hN,e10,e11,e12,e13,e14,e15,hI⟩⟩
    ·exact ⟨hF_.set 2 rfl,⟨SN,hN,e10,e11,e12,e13,e14,e15,hI⟩⟩
    ·obtain rfl:=cj ‹_›
     obtain rfl:=cd ‹_›
     refine aD ae hib ?_
     exact ⟨hF_.set 3 rfl,⟨SN,hN,e10,e11,e12,e13,e14,e15,hI⟩⟩
    ·obtain rfl:=ci ‹_›
     refine bK ad hR1.length (fun j v hj=>by rw [hI.cellS (hN.1 _ _ hS1)]; exact aK rfl j v hj) ?_
     exact ⟨hF_.set 4 rfl,⟨SN,hN,e10,e11,e12,e13,e14,e15,hI⟩⟩
    ·exact ⟨hF_.set 5 rfl,⟨SN,hN,e10,e11,e12,e13,e14,e15,hI⟩⟩
    ·exact ⟨hF_.set 6 rfl,⟨SN,hN,e10,e11,e12,e13,e14,e15,hI⟩⟩
    ·obtain rfl:=ct ‹_›
     obtain rfl:=bZ ‹_›
     refine aD ae hk' ?_
     exact ⟨hF_.set 7 rfl,⟨SN,hN,e10,e11,e12,e13,e14,e15,hI⟩⟩
    ·obtain rfl:=cR ‹_›
     refine bK ad hR2.length (fun j v hj=>by rw [hI.cellS (hN.1 _ _ hS2)]; exact aK rfl j v hj) ?_
     exact ⟨hF_.set 8 rfl,⟨SN,hN,e10,e11,e12,e13,e14,e15,hI⟩⟩
    ·exact ⟨hF_.set 9 rfl,⟨SN,hN,e10,e11,e12,e13,e14,e15,hI⟩⟩
    ·obtain rfl:=bT ‹_›
     obtain rfl:=dq ‹_›
     obtain rfl:=er ‹_›
     refine Run.call0E Ji JA hI (Hv (hR1.mono hN.1) (hR2.mono hN.1) hg.ok.1 hfk.ok.2.1 hst.ok.1 hkp hkm (hN.1 _ _ (hE.1 _ _ hS)) ((hkc.mono hE.1).mono hN.1)) fun v' I' SN w_=>?_
     rw [<- hr]
     rintro ⟨rfl,kb',kp',kc',rfl,hk1,hk2,hk3,hk4⟩ hE3 hI
     have e10:=fun (_:aF D 10 10=true)=>(⟨kb',kp',kc',rfl,hk1,hk2,hk3,hk4⟩:IsM SN (.tuple #[kvn kb' kp',.bool r.1]) r)
     have e11:=fun (e:aF D 10 11=true)=>(e11 e).mono hE3.1
     have e12:=fun (e:aF D 10 12=true)=>(e12 e).mono hE3.1
     have e14:=fun (e:aF D 10 14=true)=>(e14 e).mono hE3.1
     have hN:=hN.trans hE3
     exact ⟨hF_.set 10 (by first|assumption|trivial),⟨SN,hN,e10,e11,e12,e13,e14,e15,hI⟩⟩
    ·have Wa:=co ‹_›
     have e11:=fun (_:aF D 11 11=true)=>e10 ‹D 10=true›
     exact ⟨hF_.set 11 (by first|assumption|trivial),⟨SN,hN,e10,e11,e12,e13,e14,e15,hI⟩⟩
    ·have YI:=cG ‹_›
     obtain ⟨u,rfl,hu⟩:=(e11 ‹D 11=true›).parts
     refine aq rfl ?_
     have e12:=fun (_:aF D 12 12=true)=>hu
     exact ⟨hF_.set 12 (by first|assumption|trivial),⟨SN,hN,e10,e11,e12,e13,e14,e15,hI⟩⟩
    ·have YI:=cG ‹_›
     obtain ⟨u,rfl,hu⟩:=(e11 ‹D 11=true›).parts
     refine aq rfl ?_
     have e13:=fun (_:aF D 13 13=true)=>(rfl:Value.bool r.1=.bool r.1)
     exact ⟨hF_.set 13 (by first|assumption|trivial),⟨SN,hN,e10,e11,e12,e13,e14,e15,hI⟩⟩
    ·have W5:=dJ ‹_›
     have e14:=fun (_:aF D 14 14=true)=>e12 ‹D 12=true›
     exact ⟨hF_.set 14 (by first|assumption|trivial),⟨SN,hN,e10,e11,e12,e13,e14,e15,hI⟩⟩
    ·have adg:=fl ‹_›
     have e15:=fun (_:aF D 15 15=true)=>e13 ‹D 13=true›
     exact ⟨hF_.set 15 (by first|assumption|trivial),⟨SN,hN,e10,e11,e12,e13,e14,e15,hI⟩⟩
    obtain ⟨rfl,rfl,rfl,rfl,rfl,rfl,rfl,rfl,rfl,rfl,Wa,YI,W5,adg,abt,adn,_⟩:=hF_.all
    have ac7:D 14=true:=by assumption
    have aaI:D 15=true:=by assumption
    clear hF_ cm cj cd ci bT ct bZ cR dq er co cG dJ fl fS gD
    have hx12:=e14 ac7
    have hx13:=e15 aaI
    subst hx13
    have hE3:=hE.trans hN
    clear e10 e11 e12 e13 e14 e15
    refine az (fun hb=>?_) (fun hb=>?_)
    ·have hFo:F o facts[k]=lM c0.head facts gs o r.2:=by rw [hF2,<- hr,ai hb]
     rw [hFo]
     refine ar hI 0 bz rfl rfl ?_
     refine bq (by omega) ?_
     have hst2:StF r.2:=by rw [hr]; exact (iS hg hfk hst).1
     have hc2:kB c0.head gs r.2:=by rw [hr]; exact jb hc hg hfk hst (by rw [<- hr]; exact hb)
     refine Run.call0E yw x3 hI (ih (i+1) (by omega) hge.2 SN _ t0 _ _ o r.2 (h0.mono hE3.1) (hv'.monoT hN.1) (hf.monoT hE3.1) hx12 hst2 hc2 hoo hno) fun v' I' S2 w'=>?_
     rintro ⟨rfl,hr2⟩ hE4 hI
     exact ⟨S2,hE3.trans hE4,hr2,hI.pick [true]⟩
    ·have hFo:F o facts[k]=o:=by rw [hF2,<- hr,ah (by rw [hb]; decide)]
     rw [hFo]
     exact ⟨SN,hE3,hv'.monoT hN.1,hI⟩
   intro t0' _ _ _ _ _ _ _ _ _ _ _ _ _ _ _ _ _ _ _ _ _ _ _ _ w'
   rintro ⟨S2,hE2,hv2,hI⟩
   refine bq (by omega) ?_
   have hFo:=hF2 o facts[k]
   refine ⟨⟨k+1,_,S2,hk',rfl,hrel,?_,?_,hE2,hv2,hI⟩,by simp [intOf]; omega⟩
   ·rw [hFo]; exact hso.1
   ·rw [hFo]; exact hso.2
  ·have:k=facts.length:=by omega
   subst this
   rw [dL,Uc] at hrel
   rw [<- hrel]
   exact ⟨_,_,_,rfl,hI.pick [false],hE,rfl,hv'⟩
end
end
section
open Go Go.RowKit
theorem Ko {t:T} {d:Int} (h:d6 t d=true):dS t=true/\d4 t.kids (d - 1)=true:=by
 cases t
 rw [d6] at h
 split at h
 ·cases h
 ·rw [bw] at h
  exact h
theorem FM:∀ {ts:List T} {d:Int},d4 ts d=true->∀ t∈ts,d6 t d=true
 | [],_,_,t,ht=>by cases ht
 | x::ts,d,h,t,ht=>by
  rw [d4,bw] at h
  rcases bG.1 ht with rfl|ht
  ·exact h.1
  ·exact FM h.2 t ht
theorem Um {t:T} (hv:cn t=true) (hf:eJ t=true):Gl t:=by
 rw [eJ,bw,dE] at hf
 obtain ⟨hk,hp⟩:=hf
 rw [cF,bw,bk] at hp
 obtain ⟨h1,h2⟩:=Ko (lk hv)
 refine ⟨hp.1,h1,fun y hy=>⟨(Ko (FM h2 y hy)).1,?_⟩⟩
 have:=hk y hy
 rw [kw,bk] at this
 exact gr this
theorem X7 {l:List Int} {n m:Int} (h:m∈jd l n):m∈l ∨ m=n:=by
 unfold jd at h
 split at h
 ·exact .inl h
 ·simpa using h
theorem K0 (t:T) (l:List Int):eI t l=bM t.kids (if t.kind=1 then jd l t.n else l):=by cases t; rw [eI]; rfl
theorem Ge:∀ (ks:List T) (l:List Int),(∀ y∈ks,y.kids=[])->∀ n,n∈bM ks l↔n∈l ∨ ∃ z∈ks,z.kind=1/\z.n=n
 | [],l,_,n=>by simp [bM]
 | k::ks,l,hk,n=>by
  rw [bM,Ge ks _ (fun y hy=>hk y (aS _ hy)),K0,hk k (aT ..),bM]
  have hsrc:(n∈if k.kind=1 then jd l k.n else l)↔n∈l ∨ (k.kind=1/\k.n=n):=by
   split
   ·rename_i h
    constructor
    ·intro hm
     rcases X7 hm with h1|h1
     ·exact .inl h1
     ·exact .inr ⟨h,h1.symm⟩
    ·rintro (h1|⟨_,rfl⟩)
     ·exact (show ∀ m∈l,m∈jd l k.n from fun m hm=>by unfold jd; split; exact hm; simp [hm]) n h1
     ·unfold jd
      split
      ·rename_i h2
       simpa [jO] using h2
      ·simp
   ·rename_i h
    exact ⟨.inl,fun h1=>h1.elim id fun h2=>absurd h2.1 h⟩
  rw [hsrc]
  constructor
  ·rintro ((h|⟨h1,h2⟩)|⟨z,hz,h⟩)
   ·exact .inl h
   ·exact .inr ⟨k,aT ..,h1,h2⟩
   ·exact .inr ⟨z,aS _ hz,h⟩
  ·rintro (h|⟨z,hz,h⟩)
   ·exact .inl (.inl h)
   ·rcases bG.1 hz with rfl|hz
    ·exact .inl (.inr h)
    ·exact .inr ⟨z,hz,h⟩
theorem FO {g:T} (h:Gl g) (l:List Int) (n:Int):n∈eI g l↔n∈l ∨ ∃ z∈g.kids,z.kind=1/\z.n=n:=by
 rw [K0,ah (by have:=h.1; omega)]
 exact Ge g.kids l (fun y hy=>(h.2.2 y hy).2) n
theorem Qc:∀ (gs:List T) (l:List Int),(∀ g∈gs,Gl g)->∀ n,n∈bM gs l->n∈l ∨ ∃ g∈gs,∃ z∈g.kids,z.kind=1/\z.n=n
 | [],l,_,n,h=>.inl h
 | g::gs,l,hg,n,h=>by
  rw [bM] at h
  rcases Qc gs _ (fun x hx=>hg x (aS _ hx)) n h with h|⟨x,hx,h⟩
  ·rcases (FO (hg g (aT ..)) l n).1 h with h|h
   ·exact .inl h
   ·exact .inr ⟨g,aT ..,h⟩
  ·exact .inr ⟨x,aS _ hx,h⟩
theorem TM {c:C} (hv:bN c=true) (hf:gL c=true):Gl c.head/\(∀ g∈c.body,Gl g)/\kB c.head c.body st0:=by
 rw [bN] at hv
 simp only [bw,dE] at hv
 rw [gL] at hf
 simp only [bw,dE] at hf
 have hb:∀ g∈c.body,Gl g:=fun g hg=>by
  have h1:=hv.2.1 g hg
  rw [eX,bw] at h1
  exact Um h1.1 (hf.2.2.1 g hg)
 have hh:=Um hv.2.2.1 hf.1
 refine ⟨hh,hb,fun y hy hk=>?_⟩
 right
 have h1:=hf.2.2.2 y.n ((FO hh [] y.n).2 (.inr ⟨y,hy,hk,rfl⟩))
 have h2:y.n∈bM c.body []:=by simpa [jO] using h1
 rcases Qc c.body [] hb y.n h2 with h|h
 ·cases h
 ·exact h
theorem Oh {p:List C} (h:fi p=true):∀ c∈p,Gl c.head/\(∀ g∈c.body,Gl g)/\kB c.head c.body st0:=by
 intro c hc
 rw [fi,bw,dE] at h
 have h1:=h.1
 rw [dx] at h1
 simp only [bw,dE] at h1
 exact TM (h1.2 c hc) (h.2 c hc)
def W9 (t:T):Bool:=cn t && (eJ t && decide ((eI t []).length=0))
def Xb (l:List T):Bool:=l.all W9 && decide (l.length<=60)
def UQ (facts:List T) (c:C):Bool:=(eh c.head facts c.body st0).all (VV facts)
def RN (p:List C) (facts:List T):Bool:=fi p && (Xb facts && p.all (UQ facts))
section
attribute [local irreducible] Run CondV aw aN
end
end
section
open Go Go.RowKit
theorem Vd {g:T} {st:ao} (h:Gl g):qq (vj st) g=r5 g st:=by
 obtain ⟨k,n,s,ks⟩:=g
 obtain ⟨h1,h2,h3⟩:=h
 have hk:k=3:=h1
 have hn:n=0:=by
  rcases Ie h2 with h|h
  ·have:=h.1
   simp only [T.kind] at this
   omega
  ·exact h.2
 rw [qq,ah (by omega),r5,l7,hn]
 congr 1
 refine List.map_congr_left fun y hy=>?_
 obtain ⟨_,hyk⟩:=h3 y hy
 obtain ⟨k',n',s',ks'⟩:=y
 simp only [T.kids] at hyk
 subst hyk
 rw [qq,jF]
 split
 ·rename_i hk'
  rw [ai (show (T.mk k' n' s' []).kind=1 from hk')]; rfl
 ·rename_i hk'
  rw [ah (show ¬ (T.mk k' n' s' []).kind=1 from hk'),pf]
theorem KnownM.mono {S S':af} {es:Array MapEntry} {st:ao} (h:KnownM S es st) (hs:Sle S S'):KnownM S' es st:=
 ⟨fun e he=>by
  obtain ⟨n,t,cs,h1,h2,h3,h4⟩:=h.1 e he
  exact ⟨n,t,cs,h1,h2,h3.mono hs,h4⟩,h.2⟩
structure Tell (f:FuncId) (fn:Func) (cap:List Value) {σ:Type} (It:σ->af->List Item->Prop) (can:σ->Nat->Prop) (step:σ->T->σ) (S0:af):Prop where
 hf:Tryz.prog.funcs[f]?=some fn
 hn:(fn.name == "runtime.NumGoroutine" || fn.body.isNone)=false
 up:∀ (s:σ) (S S':af) (I:List Item),Sle S S'->It s S I->It s S' I
 down:∀ (s:σ) (x:T) (n:Nat),Fct x->can s (n+1)->can (step s x) n
 call:∀ (S:af) (s:σ) (x:T) (cs:List Value) (I:List Item) (n:Nat),Sle S0 S->Fct x->RdT S cs x->It s S I->can s (n+1)->Tri Tryz.prog f (.agg cs.toArray::cap) I S fun r I' S'=>r=.tuple #[]/\It (step s x) S' I'
theorem Tell.mono {f:FuncId} {fn:Func} {cap:List Value} {σ:Type} {It:σ->af->List Item->Prop} {can:σ->Nat->Prop} {step:σ->T->σ} {S0 S1:af} (h:Tell f fn cap It can step S0) (hs:Sle S0 S1):Tell f fn cap It can step S1:=
 ⟨h.hf,h.hn,h.up,h.down,fun S s x cs I n h1=>h.call S s x cs I n (hs.trans h1)⟩
section
attribute [local irreducible] Run CondV aw aN
theorem I7 {S:af} {gb mb ck:Nat} {E:TypeId} {es:Array MapEntry} {st:ao} (hg:S gb=some (.cells #[.map (some mb)] E)) (hm:S mb=some (.map es ck)) (hk:KnownM S es st):Fun Ja [.pointer (some ⟨gb,0,none⟩)] S (vj st):=by
 intro S' hs n hn0 hn25
 obtain ⟨m,rfl⟩:∃ m:Nat,n=m:=⟨n.toNat,by omega⟩
 have hk':=hk.mono hs
 have hfind:∃ v cs,v=.agg (List.toArray cs)/\RdT S' cs (vj st m)/\((∃ j,Instr.findNow (.int .i64) (.int .i64 m) es.toList 0=some (some (j,v))) ∨ (Instr.findNow (.int .i64) (.int .i64 m) es.toList 0=some none/\v=.agg #[.int .i64 0,.int .i64 0,.string ⟨#[]⟩,.slice none 0 0])):=by
  rcases hk'.find m with ⟨j,v,t,cs,hf,hv,hR,hs⟩|⟨hno,hf⟩
  ·refine ⟨v,cs,hv,?_,.inl ⟨j,hf⟩⟩
   rw [vj,cV,hs]
   exact hR
  ·refine ⟨_,ot,rfl,?_,.inr ⟨hf,rfl⟩⟩
   have e:vj st m=yc:=by
    rw [vj,cV]
    split
    ·rename_i t h
     exact absurd h (hno t)
    ·rfl
   rw [e]
   exact RdT.zero S'
 obtain ⟨v,cs,rfl,hR,hf⟩:=hfind
 refine ⟨cs,hR,fun w hI=>?_⟩
 refine uu.2 ?_
 dsimp only[uu,aZ]
 refine aV hI aY fun b3 w' hI=>?_
 refine cw (by decide +kernel) (by rw [hI.cellS (hs _ _ hg)]; rfl) ?_
 refine VB hI (kt:=cc) (et:=ac) (by kernel_rfl) (by kernel_rfl) (z:=.agg #[.int .i64 0,.int .i64 0,.string ⟨#[]⟩,.slice none 0 0]) (by kernel_rfl) (hs _ _ hm) hf ?_
 refine aA hI 0 rfl ad (by simpa using hR.length) rfl (by simpa using hR.one) fun w' hI=>?_
 refine bC hI 0 ad rfl (by simpa using hR.length) ?_
 exact done hI rfl
theorem Jn {f:FuncId} {fn:Func} {cap:List Value} {σ:Type} {It:σ->af->List Item->Prop} {can:σ->Nat->Prop} {step:σ->T->σ} (c0:C) (facts:List T) (hh:Gl c0.head) (hfs:∀ f∈facts,Fct f) (hbs:∀ g∈c0.body,Gl g) :
  ∀ (gs:List T) (i:Nat),i+gs.length=c0.body.length->c0.body.drop i=gs->
  ∀ (S:af) (cs:List Value) (fsv:Value) (mb ck:Nat) (es:Array MapEntry) (s:σ) (I:List Item) (st:ao) (m:Nat),Tell f fn cap It can step S->RdC S cs c0->RdSl S 4 (RdT S) fsv facts->S mb=some (.map es ck)->KnownM S es st->StF st->kB c0.head gs st->It s S I->can s ((eh c0.head facts gs st).length+m)->
  Tri Tryz.prog Qx [.agg cs.toArray,.int .i64 i,fsv,.map (some mb),fv f cap] I S fun r I' S'=>r=.tuple #[]/\It ((eh c0.head facts gs st).foldl step s) S' I'/\can ((eh c0.head facts gs st).foldl step s) m:=by
 intro gs
 induction gs with
 | nil=>
  intro i hi hdr S cs fsv mb ck es s I st m ht h hf hm hk hst hc hIt hcan w hI
  have hcan:can s (m+1):=by rw [eh,pP,qy] at hcan; exact hcan
  obtain ⟨hd,ks,rfl,h1,h2⟩:=h
  have h1':=h1
  obtain ⟨kv,rfl,g1,g2,g3,g4⟩:=RdT.iff.1 h1
  simp only [bQ,ud] at hi
  refine l4.2 ?_
  dsimp only[l4,r3]
  refine bt hI fun b5 w' hI=>?_
  obtain ⟨S1,hI,hE1,hb5⟩:=hI.pub1
  refine bt hI fun b8 w' hI=>?_
  obtain ⟨S2,hI,hE2,hb8⟩:=hI.pub1
  have hE:=hE1.trans hE2
  have hb5:=hE2.1 _ _ hb5
  refine aB bp ?_
  refine cw aj (by rw [hI.cellS hb5]; rfl) ?_
  refine aC (h2.monoT hE.1) ae ?_
  refine bo ?_
  refine aI (fun _=>?_) (fun hb=>absurd (by omega) hb)
  refine aB cK ?_
  refine bK (cs:=[.int .i64 c0.head.kind,.int .i64 c0.head.n,.string c0.head.name,kv]) ad rfl (fun j v hj=>by rw [hI.cellS hb5]; exact VH j v hj) ?_
  refine gf ?_
  have hok:=hh.ok
  refine Run.callE (A:=I) (I:=[]) ft fy (by simpa using hI) (wY [.pointer (some ⟨b8,0,none⟩)] (vj st) F5 H3 _ S2 _ (h1'.mono hE.1) hok.1 (by omega) (I7 hb8 (hE.1 _ _ hm) (hk.mono hE.1))) fun v' I' S3 w'=>?_
  rintro ⟨rfl,cs1,rfl,hR⟩ hE3 hI
  rw [Vd hh] at hR
  have hct:=HE hh hst (fun y hy hk=>by
   rcases hc y hy hk with h|⟨g,hg,_⟩
   ·exact h
   ·cases hg)
  have hI:Inv w (bI I) ([]++I) S3 w':=by simpa using hI
  refine Run.callVE (A:=[]) ht.hf ht.hn hI (ht.call S3 s _ cs1 I m (hE.1.trans hE3.1) hct hR (ht.up _ _ _ _ (hE.1.trans hE3.1) hIt) hcan) fun v' I' S4 w'=>?_
  rintro ⟨rfl,hIt'⟩ hE4 hI
  exact ⟨_,_,_,rfl,hI,(hE.trans hE3).trans hE4,rfl,hIt',ht.down _ _ _ hct hcan⟩
 | cons g gs ih=>
  intro i hi hdr S cs fsv mb ck es s I st m ht h hf hm hk hst hc hIt hcan w hI
  have h0:=h
  obtain ⟨hd,ks,rfl,h1,h2⟩:=h
  obtain ⟨kv,rfl,g1,g2,g3,g4⟩:=RdT.iff.1 h1
  simp only [bu] at hi
  have hib:i<c0.body.length:=by omega
  have hlen2:=h2.le
  have hlenf:=hf.le
  simp only [maxLen] at hlen2 hlenf
  have hge:c0.body[i]=g/\c0.body.drop (i+1)=gs:=by
   rw [cZ hib,jp] at hdr
   exact hdr
  have hg:Gl g:=by rw [<- hge.1]; exact hbs _ (bA hib)
  have hgs:∀ x∈gs,Gl x:=fun x hx=>hbs x (by rw [<- hge.2] at hx; exact xt hx)
  obtain ⟨b1,o1,cap1,c1,E1,fz1,rfl,hS1,hR1⟩:=h2.at_ hib
  rw [hge.1] at hR1
  obtain ⟨X,hX⟩:∃ X,X=bI I:=⟨_,rfl⟩
  rw [<- hX] at hI ⊢
  refine l4.2 ?_
  dsimp only[l4,r3]
  refine bt hI fun b5 w' hI=>?_
  obtain ⟨S1,hI,hE1,hb5⟩:=hI.pub1
  refine bt hI fun b8 w' hI=>?_
  obtain ⟨S2,hI,hE2,hb8⟩:=hI.pub1
  have hE:=hE1.trans hE2
  have hb5:=hE2.1 _ _ hb5
  have hb8:S2 b8=some (.cells #[.map (some mb)] _):=hb8
  refine aB bp ?_
  refine cw aj (by rw [hI.cellS hb5]; rfl) ?_
  refine aC (h2.monoT hE.1) ae ?_
  refine bo ?_
  refine aI (fun hb=>by omega) (fun _=>?_)
  refine aC (hf.monoT hE.1) ae ?_
  rw [eh] at hcan ⊢
  generalize hF:(fun f:T=>if (bm g f st).1=true then eh c0.head facts gs (bm g f st).2 else [])=F at hcan ⊢
  have hF2:∀ f,F f=if (bm g f st).1=true then eh c0.head facts gs (bm g f st).2 else []:=fun f=>by rw [<- hF]
  refine ⟨fun j w'=>∃ (k:Nat) (s':σ) (I':List Item) (S':af),k<=facts.length/\j=.int .i64 k/\((facts.drop k).flatMap F).foldl step s'=(facts.flatMap F).foldl step s/\can s' (((facts.drop k).flatMap F).length+m)/\It s' S' I'/\Ext w.heap.size X S S'/\Sle S2 S'/\Inv w X I' S' w',
   fun j _=>facts.length - (intOf j).toNat,⟨0,s,I,S2,be _,rfl,rfl,hcan,ht.up _ _ _ _ hE.1 hIt,hE,Sle.refl _,hI⟩,?_⟩
  intro t26 _ _ _ _ _ _ _ _ _ _ _ _ _ _ _ _ _ _ _ _ _ _ _ w'
  rintro ⟨k,s',I',S',hkl,rfl,hrel,hcan',hIt',hE',hle,hI⟩
  refine bF ?_
  refine aI (fun hki=>?_) (fun hki=>?_)
  ·have hk':k<facts.length:=by omega
   rw [cZ hk',rF,TY] at hrel
   rw [cZ hk',rF,bx,Mz] at hcan'
   have hfk:=hfs _ (bA hk')
   refine ⟨fun w'=>∃ (I2:List Item) (S2:af),It ((F facts[k]).foldl step s') S2 I2/\can ((F facts[k]).foldl step s') (((facts.drop (k+1)).flatMap F).length+m)/\Ext w.heap.size X S' S2/\Inv w X I2 S2 w',?_,?_⟩
   ·refine cE hI (hf.monoT hE'.1) ae ad hk' (fun _ _=>RdT.length) fun ds hds=>?_
    refine aV hI aY fun b11 w' hI=>?_
    have hI:=hI.perm (M:=.blk b11 _::I') (cu (l₁:=[_]))
    refine aA hI 0 rfl ad (by simpa using hds.length) rfl (by simpa using hds.one) fun w' hI=>?_
    have hI:=hI.perm (M:=I'++[.blk b11 (.cells ds.toArray ac)]) (cu (l₂:=[_]))
    obtain ⟨S3,hI,hE3,hb11⟩:=hI.pub1
    refine cw (by decide +kernel) (by rw [hI.cellS (hE3.1 _ _ (hle _ _ hb8))]; rfl) ?_
    refine Run.callE (A:=I') (I:=[]) Cw Cv (by simpa using hI) (NW (hE3.1 _ _ (hE'.1 _ _ hm))) fun v' J' S4 w'=>?_
    rintro ⟨e4,nb,rfl,rfl⟩ _ hI
    rw [e4] at hI
    clear e4
    have hk3:=(hk.mono hE'.1).mono hE3.1
    have hds3:=hds.mono hE3.1
    have hS1':=hE3.1 _ _ (hE'.1 _ _ hS1)
    have hR1':=(hR1.mono hE'.1).mono hE3.1
    obtain ⟨r,hr⟩:∃ r,r=bm g facts[k] st:=⟨_,rfl⟩
    have hb5':=hE3.1 _ _ (hle _ _ hb5)
    refine ⟨fun D CY oM CP zE yH JJ GE LH w_=>Fx D 0 [LH=.agg ds.toArray,GE=.pointer (some ⟨b5,4,none⟩),JJ=.slice (some ⟨b1,o1,none⟩) c0.body.length cap1,yH=.int .i64 i,zE=.pointer (some ⟨b1,o1+i * 4,none⟩),CP=.agg (aO c1 (o1+i * 4) 4).toArray,oM=.map (some nb),CY=.bool r.1]/\∃ es' ck',(D 7=false->KnownM S3 es' st)/\(D 7=true->KnownM S3 es' r.2)/\Inv w X (I'++[.blk nb (.map es' ck')]) S3 w_,⟨Fx.nil _ _,⟨es,ck,fun _=>hk3,ba,hI.draw⟩⟩,⟨?_,?_,?_,?_,?_,?_,?_,?_,trivial⟩,?_⟩
    all_goals (intro D bP; intros; rename_i CY oM CP zE yH JJ GE LH w_ hA_; have hF_:=hA_.1; obtain ⟨⟨cm,cj,cd,ci,bT,ct,bZ,cR,_⟩,⟨es',ck',kf,kt,hI⟩⟩:=hA_)
    ·refine bK (cs:=ds) ad hds.length (fun j v hj=>by rw [hI.cellS hb11,bR]; simpa using hj) ?_
     exact ⟨hF_.set 0 rfl,⟨es',ck',kf,kt,hI⟩⟩
    ·refine aB bp ?_
     exact ⟨hF_.set 1 rfl,⟨es',ck',kf,kt,hI⟩⟩
    ·obtain rfl:=cj ‹_›
     refine cw aj (by rw [hI.cellS hb5']; rfl) ?_
     exact ⟨hF_.set 2 rfl,⟨es',ck',kf,kt,hI⟩⟩
    ·exact ⟨hF_.set 3 rfl,⟨es',ck',kf,kt,hI⟩⟩
    ·obtain rfl:=cd ‹_›
     obtain rfl:=ci ‹_›
     refine aD ae hib ?_
     exact ⟨hF_.set 4 rfl,⟨es',ck',kf,kt,hI⟩⟩
    ·obtain rfl:=bT ‹_›
     refine bK ad hR1'.length (fun j v hj=>by rw [hI.cellS hS1']; exact aK rfl j v hj) ?_
     exact ⟨hF_.set 5 rfl,⟨es',ck',kf,kt,hI⟩⟩
    ·exact ⟨hF_.set 6 rfl,⟨es',ck',kf,kt,hI⟩⟩
    ·obtain rfl:=cm ‹_›
     obtain rfl:=ct ‹_›
     obtain rfl:=bZ ‹_›
     refine Run.callE (A:=I') oX o7 hI (um g facts[k] S3 _ _ nb ck' es' st hR1' hds3 hg.ok.1 hfk.ok.2.1 hst.ok.1 (kf bP)) fun v' J' S5 w_=>?_
     rw [<- hr]
     rintro ⟨e5,rfl,es',ck',rfl,hk2⟩ _ hI
     rw [e5] at hI
     clear e5
     have kf:=fun (e:aF D 7 7=false)=>(Bool.noConfusion e:KnownM S3 es' st)
     have kt:=fun (_:aF D 7 7=true)=>hk2
     exact ⟨hF_.set 7 rfl,⟨es',ck',kf,kt,hI⟩⟩
    obtain ⟨rfl,rfl,rfl,rfl,rfl,rfl,rfl,rfl,_⟩:=hF_.all
    have EA:D 7=true:=by assumption
    clear hF_ cm cj cd ci bT ct bZ cR
    have hk2:=kt EA
    clear kf kt
    refine az (fun hb=>?_) (fun hb=>?_)
    ·have hFo:F facts[k]=eh c0.head facts gs r.2:=by rw [hF2,<- hr,ai hb]
     rw [hFo] at hcan' ⊢
     obtain ⟨S5,hI,hE5,hnb⟩:=hI.pub1
     have hEa:=hE3.trans hE5
     refine bK (cs:=[.int .i64 c0.head.kind,.int .i64 c0.head.n,.string c0.head.name,kv,.slice (some ⟨b1,o1,none⟩) c0.body.length cap1]) bz rfl (fun j v hj=>by rw [hI.cellS (hE5.1 _ _ hb5'),bR]; simpa [Value.cells] using hj) ?_
     refine bq (by omega) ?_
     have hst2:StF r.2:=by rw [hr]; exact (iS hg hfk hst).1
     have hc2:kB c0.head gs r.2:=by rw [hr]; exact jb hc hg hfk hst (by rw [<- hr]; exact hb)
     have hSa:=hE'.1.trans hEa.1
     have hI:Inv w X ([]++I') S5 w_:=hI
     refine Run.callE (A:=[]) yQ zj hI (ih (i+1) (by omega) hge.2 S5 _ _ nb _ _ s' I' r.2 _ (ht.mono hSa) (h0.mono hSa) (hf.monoT hSa) hnb (hk2.mono hE5.1) hst2 hc2 (ht.up _ _ _ _ hEa.1 hIt') hcan') fun v' J' S6 w'=>?_
     rintro ⟨rfl,hIt2,hcan2⟩ hE6 hI
     exact ⟨_,S6,hIt2,hcan2,hEa.trans hE6,hI⟩
    ·have hFo:F facts[k]=[]:=by rw [hF2,<- hr,ah (by rw [hb]; decide)]
     rw [hFo] at hcan' ⊢
     rw [bQ,bR] at hcan'
     exact ⟨_,S3,ht.up _ _ _ _ hE3.1 hIt',hcan',hE3,hI.sub (dr _ _)⟩
   intro _ _ _ _ _ _ _ _ _ _ _ _ _ _ _ _ _ _ _ _ _ w'
   rintro ⟨I2,S5,hIt2,hcan2,hE5,hI⟩
   refine bq (by omega) ?_
   exact ⟨⟨k+1,_,I2,S5,hk',rfl,hrel,hcan2,hIt2,hE'.trans hE5,hle.trans hE5.1,hI⟩,by simp [intOf]; omega⟩
  ·have:k=facts.length:=by omega
   subst this
   rw [dL] at hrel hcan'
   simp only [List.flatMap_nil,Uc,bQ,bR] at hrel hcan'
   rw [<- hrel]
   exact ⟨_,_,_,rfl,hI,hE',rfl,hIt',hcan'⟩
end
end
section
open Go Go.RowKit
theorem Rows.insert {α:Type} {k:Nat} {R:List Value->α->Prop} {css:List (List Value)} {ys:List α} (h:Rows k R css ys) {cs:List Value} {y:α} (hR:R cs y) (hl:cs.length=k) (i:Nat) :
  Rows k R (css.take i++cs::css.drop i) (ys.take i++y::ys.drop i):=by
 have h1:Rows k R (css.take i) (ys.take i):=⟨by simp [h.hc],fun c hc=>h.hk c (xU hc),fun j h2 h3=>by
  rw [DP,DP]
  exact h.hR j _ _⟩
 have h2:Rows k R (css.drop i) (ys.drop i):=⟨by simp [h.hc],fun c hc=>h.hk c (xt hc),fun j h2 h3=>by
  rw [WW,WW]
  exact h.hR (i+j) _ _⟩
 have:=(h1.append (Rows.one hR hl)).append h2
 simpa using this
theorem RdT.oneRows {S:af} {css:List (List Value)} {ys:List T} (h:Rows 4 (RdT S) css ys):∀ c∈css,∀ u∈c,u.oneCell'=true:=by
 intro c hc
 obtain ⟨j,hj,rfl⟩:=Cx.1 hc
 have e:=h.hc
 exact (h.hR j (by omega) hj).one
theorem Kn {w:World} {v:Value} {e:TypeId} {k n:Nat} {xs:List Value} (h:(Item.row v e k n xs).holds w):v.cells=#[v]/\v.oneCell'=true:=by
 have h:w.ownsRow 0 e k v n xs:=h
 rcases h.2 with ⟨rfl,_⟩|⟨g,cap,cur,rfl,_⟩ <;> exact ⟨rfl,rfl⟩
section
attribute [local irreducible] Run CondV aw aN
theorem FP {l:List T} {t:T} {S:af} {v:Value} {css:List (List Value)} {cs:List Value} (hR:Rows 4 (RdT S) css l) (hcs:RdT S cs t) (hl:∀ x∈l,okO x) (ht:okO t) (hs:Sorted l) (hn:l.length<=100000000) (hw:wT t<=1048576) :
  Tri Tryz.prog Rk [v,.agg cs.toArray] [aJ v ac 4 css] S fun r I' S'=>∃ css',I'=[aJ r ac 4 css']/\Rows 4 (RdT S') css' (fg l t):=by
 intro w hI
 have hlc:=hcs.length
 have hcl:=hR.hc
 obtain ⟨X,hX⟩:∃ X,X=bI [aJ v ac 4 css]:=⟨_,rfl⟩
 rw [<- hX] at hI ⊢
 refine C0.2 ?_
 dsimp only[C0,aZ]
 refine bt hI fun b1 w' hI=>?_
 have hI:Inv w X ([.blk b1 (.cells cs.toArray ac)]++[aJ v ac 4 css]) S w':=hI.perm (cu (l₁:=[_]))
 refine ar hI 0 ad rfl (by simpa using hlc) ?_
 obtain ⟨S1,hle1,hrd,hI1,hback⟩:=Inv.lend (A:=[_]) hI
 have hrows:=RowRd.rows (hR.monoR fun _ _ h=>RdT.mono hle1 h) hrd
 obtain ⟨i,hpos,hcall⟩:=xZ hrows (hcs.mono hle1) hl ht hs hn
 refine Run.callPure mg mv hI1 hcall fun w' hI1=>?_
 have hI:=hback _ _ hI1
 refine aq rfl ?_
 refine aq rfl ?_
 refine az (fun hb=>?_) (fun hb=>?_)
 ·have hb':xD l t i=true:=hb
  rw [xD] at hb'
  split at hb'
  ·rename_i hi
   rw [XC hpos hi hb']
   exact ⟨_,_,_,rfl,hI.pick [false,true],Ext.refl _ _ _,css,rfl,hR⟩
  ·cases hb'
 ·have hb':xD l t i=false:=hb
  have hnew:fg l t=l.take i++t::l.drop i:=Y9 hpos fun hi=>by
   rw [xD,dif_pos hi] at hb'
   exact hb'
  have hil:=hpos.1
  refine ar hI 0 ad rfl (by simpa using hlc) ?_
  refine Run.call0E OU PO hI (KQ t S cs hcs hw) fun v' I' S' w'=>?_
  rintro ⟨rfl,cs',L,rfl,rfl,hT⟩ _ hI
  obtain ⟨S2,hI,hE2,hins⟩:=Inv.pubExt hI
  have hrd:=TrT.rd hT hins
  refine d5 hI bj (by simp [Value.cells,hrd.length]) (by decide) (by decide) fun ub w' hI=>?_
  have hI:Inv w X ([.blk b1 (.cells cs.toArray ac)]++[aJ v ac 4 css,.blk ub (.cells cs'.toArray ac)]) S2 w':=hI
  refine Run.callE (A:=[_]) Cu A4 hI (LY hR.hk (RdT.oneRows hR) hrd.length hrd.one (by omega) (by omega)) fun r I' S3 w'=>?_
  rintro ⟨e3,rfl⟩ _ hI
  rw [e3] at hI
  refine ⟨_,_,_,rfl,hI.pick [false,true],hE2,_,rfl,?_⟩
  rw [hnew]
  exact (hR.monoR fun _ _ h=>RdT.mono hE2.1 h).insert hrd hrd.length i
def ItR (b:Nat) (s:List T) (S:af) (I:List Item):Prop:=Fs s/\∃ v css,I=[.blk b (.cells #[v] cr),aJ v ac 4 css]/\Rows 4 (RdT S) css s
def ZF (s:List T) (n:Nat):Prop:=s.length+n<=100000000
theorem Z9 {S0:af} {b:Nat}:Tell N4 Tryz.f233 [.pointer (some ⟨b,0,none⟩)] (ItR b) ZF fg S0:=by
 refine ⟨Nv,L9,fun s S S' I hle h=>?_,fun s x n hx h=>?_,fun S s x cs I n hle hx hcs hIt hcan w hI=>?_⟩
 ·obtain ⟨h1,v,css,h2,h3⟩:=h
  exact ⟨h1,v,css,h2,h3.monoR fun _ _ h=>RdT.mono hle h⟩
 ·unfold ZF at h ⊢
  have:=Hh s x
  omega
 ·obtain ⟨hFs,v,css,rfl,hR⟩:=hIt
  unfold ZF at hcan
  have hlc:=hcs.length
  obtain ⟨X,hX⟩:∃ X,X=bI [Item.blk b (.cells #[v] cr),aJ v ac 4 css]:=⟨_,rfl⟩
  rw [<- hX] at hI ⊢
  refine zO.2 ?_
  dsimp only[zO,aZ]
  refine bt hI fun b1 w' hI=>?_
  have hI:Inv w X [.blk b1 (.cells cs.toArray ac),.blk b (.cells #[v] cr),aJ v ac 4 css] S w':=hI.perm (cu (l₁:=[_]))
  refine aX hI 1 aj rfl rfl ?_
  refine ar hI 0 ad rfl (by simpa using hlc) ?_
  have hok:=hx.ok
  have hI:Inv w X ([.blk b1 (.cells cs.toArray ac),.blk b (.cells #[v] cr)]++[aJ v ac 4 css]) S w':=hI
  refine Run.callE ON OE hI (FP hR hcs hFs.okO hok.2.2.1 hFs.sorted (by omega) (by omega)) fun r I' S1 w'=>?_
  rintro ⟨css',rfl,hR'⟩ hE hI
  have hI:Inv w X [.blk b1 (.cells cs.toArray ac),.blk b (.cells #[v] cr),aJ r ac 4 css'] S1 w':=hI
  have hr:r.cells=#[r]/\r.oneCell'=true:=Kn (hI.its (aJ r ac 4 css') (by simp))
  refine c8 hI 1 (n:=1) (by rw [hr.1]; rfl) (by decide +kernel) rfl (by simp) (by rw [hr.1]; intro u hu; simp at hu; subst hu; exact hr.2) fun w' hI=>?_
  have hI:Inv w X [.blk b1 (.cells cs.toArray ac),.blk b (.cells (bl #[v] 0 r.cells.toList) cr),aJ r ac 4 css'] S1 w':=hI
  have e:bl #[v] 0 r.cells.toList=#[r]:=by rw [hr.1]; rfl
  rw [e] at hI
  refine ⟨_,_,_,rfl,hI.pick [false,true,true],hE,rfl,⟨uz hFs.sorted hFs.okO hok.2.2.1,fun y hy=>?_⟩,r,css',rfl,hR'⟩
  rcases tV hy with hy|rfl
  ·exact hFs.fct y hy
  ·exact hx
end
end
section
open Go Go.RowKit
theorem iG {p:List C} (h:fi p=true):Pf p:=by
 have h0:=h
 rw [fi,bw,dE] at h
 have h1:=h.1
 rw [dx] at h1
 simp only [bw,bk] at h1
 refine ⟨h1.1,Oh h0,fun c hc=>?_⟩
 have h2:=h.2 c hc
 rw [gL] at h2
 simp only [bw,bk] at h2
 exact h2.2.1
def lenV:Value->Nat
 | .slice _ n _=>n
 | _=>0
theorem RdSl.lenV {α:Type} {S:af} {k:Nat} {R:List Value->α->Prop} {v:Value} {xs:List α} (h:RdSl S k R v xs):lenV v=xs.length:=by
 obtain ⟨a,cap,rfl,_⟩:=h
 rfl
abbrev BP (ys:List T) (b:Bool):Value->List Item->af->Prop:=fun r I' _=>∃ u L,r=.tuple #[u,.bool b]/\I'=bv L/\TrSl 4 TrT L u ys
theorem Lh {w:World} {v:Value} {e:TypeId} {k n:Nat} {xs:List Value} (h:(Item.row v e k n xs).holds w):∃ a cap,v=.slice a n cap:=by
 have h:w.ownsRow 0 e k v n xs:=h
 rcases h.2 with ⟨rfl,rfl⟩|⟨g,cap,cur,rfl,_⟩ <;> exact ⟨_,_,rfl⟩
section
attribute [local irreducible] Run CondV aw aN
theorem Js {p:List C} {f:List T} {S:af} {v u:Value} (h:RdSl S 5 (RdC S) v p) (hq:RdSl S 4 (RdT S) u f) (hp:Pf p) (hf:Fs f) (hl:f.length<=60) :
  Tri Tryz.prog Vb [v,u] [] S fun r I' S'=>I'=[]/\∃ x,r=.tuple #[x,.bool (decide ((iu p f).length<=60))]/\RdSl S' 4 (RdT S') x (iu p f):=by
 intro w hI
 have hlen:=hp.len
 have hI:Inv w [] [] S w:=hI
 refine Im.2 ?_
 dsimp only[Im,aZ]
 refine Run.call0 sa rX hI (p6 hq (by omega)) fun x0 I' S' w'=>?_
 rintro ⟨eS,css,rfl,hR⟩ _ hI
 rw [eS] at hI
 clear eS
 have hz:fZ Tryz.prog cr=some (.slice none 0 0):=by kernel_rfl
 refine aV hI hz fun b6 w' hI=>?_
 have hI:=hI.perm (M:=.blk b6 _::[aJ x0 ac 4 css]) (cu (l₁:=[_]))
 have hx0:=Kn (hI.its (aJ x0 ac 4 css) (by simp))
 refine c8 hI 0 (n:=1) (by rw [hx0.1]; rfl) (by decide +kernel) rfl (by simp [Value.cells]) (by rw [hx0.1]; intro u hu; simp at hu; subst hu; exact hx0.2) fun w' hI=>?_
 have e:bl (Value.slice none 0 0).cells 0 x0.cells.toList=#[x0]:=by rw [hx0.1]; rfl
 rw [e] at hI
 have hI:Inv w [] [.blk b6 (.cells #[x0] cr),aJ x0 ac 4 css] S w':=hI
 refine aC h cD ?_
 refine ⟨fun i w'=>∃ (j:Nat) (S':af) (I':List Item),j<=p.length/\i=.int .i64 j/\Ext w.heap.size [] S S'/\ItR b6 ((eK (p.take j) f).foldl fg f) S' I'/\Inv w [] I' S' w',
  fun i _=>p.length - (intOf i).toNat,⟨0,S,_,be _,rfl,Ext.refl _ _ _,⟨hf,x0,css,rfl,hR⟩,hI⟩,?_⟩
 intro t13 _ _ _ _ _ _ _ _ _ _ w'
 rintro ⟨j,S',I',hj,rfl,hE,hIt,hI⟩
 refine bF ?_
 refine aI (fun hji=>?_) (fun hji=>?_)
 ·have hj':j<p.length:=by omega
  obtain ⟨hp1,hp2,hp3⟩:=hp.parts _ (bA hj')
  have h3:=hp.three _ (bA hj')
  refine cE hI (h.monoC hE.1) cD bz hj' (fun _ _=>RdC.length) fun cs hcs=>?_
  have hlc:=hcs.length
  refine aV hI ff fun b7 w' hI=>?_
  have hI:=hI.perm (M:=.blk b7 _::I') (cu (l₁:=[_]))
  refine aA hI 0 rfl bz (by simpa using hlc) rfl (by simpa using hcs.one) fun w' hI=>?_
  refine ar hI 0 bz rfl (by simpa using hlc) ?_
  have hI:Inv w [] I' S' w':=hI.sub (iB _ _)
  refine uY hI fun mb w' hI=>?_
  obtain ⟨S2,hI,hE2,hmb⟩:=hI.pub1
  refine gf ?_
  have hI:Inv w [] ([]++I') S2 w':=hI
  have hle:=hE.1.trans hE2.1
  have hb1:=KP hp hl j (by omega)
  have hb2:=QZ h3 hl
  have hb3:=tK (eK (p.take j) f) f
  have hIt2:=(Z9 (b:=b6) (S0:=S2)).up _ _ _ _ hE2.1 hIt
  refine Run.callE (A:=[]) yQ zj hI (Jn p[j] f hp1 hf.fct hp2 p[j].body 0 (by simp) rfl S2 cs _ mb 0 #[] _ _ st0 0 (Z9 (b:=b6)) (hcs.mono hE2.1) (hq.monoT hle) hmb (KnownM.empty S2) Pz hp3 hIt2 (by unfold ZF; omega)) fun v' I3 S3 w'=>?_
  rintro ⟨rfl,hIt3,_⟩ hE3 hI
  refine bq (by omega) ?_
  refine ⟨⟨j+1,S3,I3,hj',rfl,(hE.trans hE2).trans hE3,?_,hI⟩,by simp [intOf]; omega⟩
  rw [xl p f j hj',TY]
  exact hIt3
 ·have:j=p.length:=by omega
  subst this
  rw [fk] at hIt
  obtain ⟨hFs,x,css2,rfl,hR2⟩:=hIt
  have hcl:=hR2.hc
  obtain ⟨ax,capx,rfl⟩:=Lh (hI.its (aJ x ac 4 css2) (by simp))
  refine ⟨fun D x5 x4 lE fF kU tA w_=>Fx D 0 [tA=.slice ax css2.length capx,kU=.slice ax css2.length capx,fF=.int .i64 css2.length,lE=.bool (decide ((css2.length:Int)<=60)),x4=.slice ax css2.length capx,x5=.bool (decide ((css2.length:Int)<=60))]/\Inv w [] [.blk b6 (.cells #[.slice ax css2.length capx] cr),aJ (.slice ax css2.length capx) ac 4 css2] S' w_,⟨Fx.nil _ _,hI.draw⟩,⟨?_,?_,?_,?_,?_,?_,trivial⟩,?_⟩
  all_goals (intro D bP; intros; rename_i x5 x4 lE fF kU tA w_ hA_; have hF_:=hA_.1; obtain ⟨⟨cm,cj,cd,ci,bT,ct,_⟩,hI⟩:=hA_)
  ·refine aX hI 0 aj rfl rfl ?_
   exact ⟨hF_.set 0 rfl,hI⟩
  ·refine aX hI 0 aj rfl rfl ?_
   exact ⟨hF_.set 1 rfl,hI⟩
  ·obtain rfl:=cj ‹_›
   refine eP ae ?_
   exact ⟨hF_.set 2 rfl,hI⟩
  ·obtain rfl:=cd ‹_›
   refine fU ?_
   exact ⟨hF_.set 3 rfl,hI⟩
  ·obtain rfl:=cm ‹_›
   exact ⟨hF_.set 4 rfl,hI⟩
  ·obtain rfl:=ci ‹_›
   exact ⟨hF_.set 5 rfl,hI⟩
  obtain ⟨rfl,rfl,rfl,rfl,rfl,rfl,_⟩:=hF_.all
  clear hF_ cm cj cd ci bT ct
  have hI:Inv w [] ([.blk b6 (.cells #[.slice ax css2.length capx] cr)]++[aJ (.slice ax css2.length capx) ac 4 css2]) S' w_:=hI
  obtain ⟨S3,hE3,hrd,hI⟩:=hI.lendExt
  have hr:=RowRd.rows (hR2.monoR fun _ _ h=>RdT.mono hE3.1 h) hrd
  refine ⟨_,_,_,rfl,hI.nil,hE.trans hE3,rfl,_,?_,hr⟩
  have e1:(iu p f).length=css2.length:=by rw [hcl]; rfl
  have e2:decide ((css2.length:Int)<=60)=decide ((iu p f).length<=60):=by
   rw [e1,mP,bk,bk]
   omega
  rw [e2]
theorem F2 {p:List C} {S:af} {v:Value} (h:RdSl S 5 (RdC S) v p) (hw:wP p<=1048576) (k:Nat) (hk:k<=9223372036854775807) :
  Tri Tryz.prog Sd [v,.int .i64 k] [] S fun r I' S'=>I'=[]/\((fi p=true/\∃ x f n,stI p k [] 0=some (f,n)/\r=.tuple #[x,.int .i64 (n:Nat),.bool true]/\RdSl S' 4 (RdT S') x f) ∨
   ((fi p=false ∨ stI p k [] 0=none)/\r=.tuple #[.slice none 0 0,.int .i64 0,.bool false])):=by
 intro w hI
 have hI:Inv w [] [] S w:=hI
 refine Dx.2 ?_
 dsimp only[Dx,aZ]
 refine Run.callPure BB Cy hI (xN h hw) fun w' hI=>?_
 refine bX ?_
 refine az (fun hb=>?_) (fun hb=>?_)
 ·exact ⟨_,_,_,rfl,hI,Ext.refl _ _ _,rfl,.inr ⟨.inl (by simpa using hb),rfl⟩⟩
 have hfl:fi p=true:=by simpa using hb
 have hp:=iG hfl
 refine ⟨fun t8 t7 w'=>∃ (n:Nat) (f:List T) (S':af),t8=.int .i64 n/\RdSl S' 4 (RdT S') t7 f/\stI p k [] 0=some (f,n)/\Ext w.heap.size [] S S'/\Inv w [] [] S' w',?_,?_⟩
 ·refine ⟨fun t8 t7 w'=>∃ (n:Nat) (f:List T) (S':af),t8=.int .i64 n/\n<=k/\RdSl S' 4 (RdT S') t7 f/\Fs f/\f.length<=60/\stI p (k - n) f n=stI p k [] 0/\Ext w.heap.size [] S S'/\Inv w [] [] S' w',
   fun _ t7 _=>61 - lenV t7,⟨0,[],S,rfl,be _,⟨none,0,rfl,aR _,be _,.inl rfl⟩,Fs.nil,by simp,rfl,Ext.refl _ _ _,hI⟩,?_⟩
  intro t8 _ _ t7 _ _ _ _ _ _ _ _ _ _ _ _ _ _ _ _ _ _ _ _ _ _ w'
  rintro ⟨n,f,S',rfl,hnk,hq,hF,hl,hst,hE,hI⟩
  refine bF ?_
  refine aI (fun hnk'=>?_) (fun hnk'=>?_)
  ·have hnk2:n<k:=by omega
   rw [show k - n=(k - (n+1))+1 by omega,stI] at hst
   refine Run.call0E Q6 Q7 hI (Js (h.monoC hE.1) hq hp hF hl) fun v' I' S2 w'=>?_
   rintro ⟨rfl,x,rfl,hx⟩ hE2 hI
   have hI:Inv w [] [] S2 w':=hI
   have hE3:=hE.trans hE2
   refine aq rfl ?_
   refine aq rfl ?_
   refine bX ?_
   refine az (fun hb=>?_) (fun hb=>?_)
   ·have hb':¬ (iu p f).length<=60:=by simpa using hb
    rw [ai (by omega)] at hst
    exact ⟨_,_,_,rfl,hI,hE3,rfl,.inr ⟨.inr hst.symm,rfl⟩⟩
   ·have hb':(iu p f).length<=60:=by simpa using hb
    rw [ah (by omega)] at hst
    refine aC hx ae ?_
    refine aC (hq.monoT hE2.1) ae ?_
    refine bo ?_
    refine aI (fun he=>?_) (fun he=>?_)
    ·rw [ai (by omega)] at hst
     exact ⟨n,f,S2,rfl,hq.monoT hE2.1,hst.symm,hE3,hI⟩
    ·rw [ah (by omega)] at hst
     have hgr:=(tK (eK p f) f).1
     have hgr:f.length<=(iu p f).length:=hgr
     refine bq (by omega) ?_
     refine ⟨⟨n+1,_,S2,rfl,hnk2,hx,V8 hp hF,hb',hst,hE3,hI⟩,?_⟩
     show 61 - lenV x<61 - lenV t7
     rw [hx.lenV,hq.lenV]
     omega
  ·have:n=k:=by omega
   subst this
   rw [eD,stI] at hst
   exact ⟨n,f,S',rfl,hq,hst.symm,hE,hI⟩
 ·intro t8 _ _ t7 _ _ _ _ _ _ _ _ _ _ _ _ _ _ _ _ _ _ _ _ _ _ w'
  rintro ⟨n,f,S',rfl,hq,hst,hE,hI⟩
  exact ⟨_,_,_,rfl,hI,hE,rfl,.inl ⟨hfl,t7,f,n,hst,rfl,hq⟩⟩
theorem xh {p:List C} {S:af} {v:Value} (h:RdSl S 5 (RdC S) v p) (hw:wP p<=1048576) (r:Int) (hr:r<=9223372036854775807) :
  Tri Tryz.prog Ga [v,.int .i64 r] [] S (BP (bU p r).1 (bU p r).2):=by
 intro w hI
 have hI:Inv w [] [] S w:=hI
 refine rM.2 ?_
 dsimp only[rM,aZ]
 refine bF ?_
 refine aI (fun hr0=>?_) (fun hr0=>?_)
 ·have e:bU p r=([],false):=by
   rw [bU,aM (by omega:r<0),Bool.not_true,lP,ah (by decide)]
  rw [e]
  exact ⟨_,_,_,rfl,hI,Ext.refl _ _ _,_,[],rfl,rfl,TrSl.nil (be _)⟩
 have hr0':0<=r:=by omega
 obtain ⟨k,rfl⟩:∃ k:Nat,r=k:=⟨r.toNat,by omega⟩
 refine Run.call0E N8 OB hI (F2 h hw k (by omega)) fun v' I' S2 w'=>?_
 rintro ⟨rfl,hcase⟩ hE hI
 have hI:Inv w [] [] S2 w':=hI
 have key:∃ x n,v'=.tuple #[x,.int .i64 n,.bool (bU p k).2]/\RdSl S2 4 (RdT S2) x (bU p k).1:=by
  rcases hcase with ⟨hfl,x,f,n,hst,rfl,hx⟩|⟨hno,rfl⟩
  ·rcases PT p (k:Int) with ⟨h1,h2⟩|⟨h1,h2⟩
   ·rw [cV,hst] at h1; cases h1
   ·rw [cV,hst,bg] at h1
    have e:bU p k=((stS p (gT k) [] 0).1,true):=by
     rw [bU,hfl,aW (by omega),ai (by decide),ai h2]
    rw [e,<- h1]
    exact ⟨x,n,rfl,hx⟩
  ·have e:bU p k=([],false):=by
    rcases hno with hno|hno
    ·rw [bU,hno,g6,ah (by decide)]
    ·rcases PT p (k:Int) with ⟨h1,h2⟩|⟨h1,h2⟩
     ·rw [bU]
      split
      ·rw [ah (by omega)]
      ·rfl
     ·rw [cV,hno] at h1; cases h1
   rw [e]
   exact ⟨_,0,rfl,none,0,rfl,aR _,be _,.inl rfl⟩
 obtain ⟨x,n,rfl,hx⟩:=key
 have hsw:=GM (fun h=>iG h) (p:=p) (k:Int)
 refine aq rfl ?_
 refine aq rfl ?_
 refine aq rfl ?_
 refine Run.call0E jG jm hI (kI hx (by omega)) fun v' I' S3 w'=>?_
 rintro ⟨rfl,L,rfl,hT⟩ hE2 hI
 have hI:Inv w [] (bv L) S3 w':=hI
 exact ⟨_,_,_,rfl,hI,hE.trans hE2,_,L,rfl,rfl,hT⟩
theorem xE {p:List C} {S:af} {v:Value} (h:RdSl S 5 (RdC S) v p) (hw:wP p<=1048576) :
  Tri Tryz.prog Gi [v] [] S (BP (bU p 61).1 (bU p 61).2):=by
 intro w hI
 have hI:Inv w [] [] S w:=hI
 refine sd.2 ?_
 dsimp only[sd,aL]
 refine Run.call0E Fe Fb hI (xh h hw 61 (by omega)) fun v' I' S2 w'=>?_
 rintro ⟨u,L,rfl,rfl,hT⟩ hE hI
 have hI:Inv w [] (bv L) S2 w':=hI
 refine aq rfl ?_
 refine aq rfl ?_
 exact ⟨_,_,_,rfl,hI,hE,_,L,rfl,rfl,hT⟩
end
end
section
open Go Go.RowKit
section
attribute [local irreducible] Run CondV aw aN
end
end
section
open Go Go.RowKit
theorem H9 {hd:T} {f g:List T} (h:∀ x∈f,x∈g):∀ (gs:List T) (st:ao) (y:T),y∈eh hd f gs st->y∈eh hd g gs st
 | [],st,y,hy=>by rw [eh] at hy ⊢; exact hy
 | a::gs,st,y,hy=>by
  rw [eh,oT] at hy ⊢
  obtain ⟨x,hx,hy⟩:=hy
  refine ⟨x,h x hx,?_⟩
  split at hy
  ·rename_i hm
   rw [ai hm]
   exact H9 h gs _ y hy
  ·cases hy
theorem Rb {p:List C} {f g:List T} (h:∀ x∈f,x∈g) {y:T} (hy:y∈eK p f):y∈eK p g:=by
 rw [eK,oT] at hy ⊢
 obtain ⟨c,hc,hy⟩:=hy
 exact ⟨c,hc,H9 h _ _ _ hy⟩
theorem Hr (p:List C) (f:List T) {y:T} (h:y∈f):y∈eU p f:=A0 _ _ _ h
theorem Vh {p:List C} {f:List T} (hl:(eU p f).length<=60) {y:T} (h:y∈eK p f):y∈eU p f:=by
 rcases P7 (eK p f) f y h with h1|h1
 ·have h1:60<(eU p f).length:=h1
  omega
 ·exact h1
theorem La {p:List C} {f:List T} {y:T} (h:y∈eU p f):y∈f ∨ y∈eK p f:=yO _ _ _ h
theorem Lu (p:List C) (f:List T):f.length<=(eU p f).length:=(tD (eK p f) f).1
theorem U8 (p:List C):∀ (k:Nat) (f:List T) (n:Nat),61<=k+f.length->(stS p k f n).1.length<=60->(eU p (stS p k f n).1).length=(stS p k f n).1.length
 | 0,f,n,h1,h2=>by rw [stS] at h2; simp only [] at h2; omega
 | k+1,f,n,h1,h2=>by
  rw [stS] at h2 ⊢
  split at h2
  ·rename_i hc
   rw [ai hc]
   rcases hc with hc|hc
   ·exact hc
   ·simp only [] at h2
    omega
  ·rename_i hc
   rw [ah hc]
   have:=Lu p f
   exact U8 p k _ _ (by omega) h2
theorem AM (p:List C):∀ (k:Nat) (f:List T) (n:Nat),n<=(stS p k f n).2/\(stS p k f n).2+f.length<=n+(stS p k f n).1.length
 | 0,f,n=>by rw [stS]; exact ⟨aR _,aR _⟩
 | k+1,f,n=>by
  rw [stS]
  split
  ·exact ⟨aR _,aR _⟩
  ·have h1:=Lu p f
   have h2:=AM p k (eU p f) (n+1)
   omega
theorem Lb (p:List C):∀ (k:Nat) (f:List T) (n j:Nat),j+n=(stS p k f n).2->stS p j f n=stS p k f n
 | 0,f,n,j,h=>by
  rw [stS] at h ⊢
  have:j=0:=by simp only [] at h; omega
  subst this
  rw [stS]
 | k+1,f,n,j,h=>by
  rw [stS] at h ⊢
  split at h
  ·rename_i hc
   rw [ai hc]
   have:j=0:=by simp only [] at h; omega
   subst this
   rw [stS]
  ·rename_i hc
   rw [ah hc]
   have h2:=(AM p k (eU p f) (n+1)).1
   obtain ⟨i,rfl⟩:∃ i,j=i+1:=⟨j - 1,by omega⟩
   rw [stS,ah hc]
   exact Lb p k _ _ i (by omega)
theorem Y6 (a b:T):a=b ∨ a≠b:=by
 cases h:eqT a b
 ·exact .inr fun e=>by rw [(jJ a b).2 e] at h; cases h
 ·exact .inl ((jJ a b).1 h)
theorem wi:∀ {l:List T} {x:T},x∈l->∃ l':List T,l'.length+1=l.length/\∀ y,y∈l->y=x ∨ y∈l'
 | [],x,h=>by cases h
 | z::l,x,h=>by
  rcases Y6 z x with e|e
  ·exact ⟨l,rfl,fun y hy=>by rcases bG.1 hy with rfl|hy; exact .inl e; exact .inr hy⟩
  ·rcases bG.1 h with rfl|h
   ·exact absurd rfl e
   ·obtain ⟨l',h1,h2⟩:=wi h
    refine ⟨z::l',by simp [h1],fun y hy=>?_⟩
    rcases bG.1 hy with rfl|hy
    ·exact .inr (aT ..)
    ·exact (h2 y hy).imp_right fun h=>aS _ h
theorem wb:∀ {l m:List T},l.Nodup->(∀ x∈l,x∈m)->l.length<=m.length
 | [],_,_,_=>be _
 | x::l,m,h,hs=>by
  rw [BC] at h
  obtain ⟨m',h1,h2⟩:=wi (hs x (aT ..))
  have h3:=wb (l:=l) (m:=m') h.2 fun y hy=>by
   rcases h2 y (hs y (aS _ hy)) with e|h4
   ·rw [e] at hy; exact absurd hy h.1
   ·exact h4
  rw [bu]
  omega
theorem Rh {a b:List T} (ha:a.Nodup) (h:∀ x∈a,x∈b) (hl:b.length=a.length) {y:T} (hy:y∈b):y∈a:=by
 refine Classical.byContradiction fun hn=>?_
 have:=wb (l:=y::a) (m:=b) (BC.2 ⟨hn,ha⟩) fun x hx=>by
  rcases bG.1 hx with rfl|hx
  ·exact hy
  ·exact h x hx
 rw [bu] at this
 omega
theorem Tu {p:List C} {m:List T} (hm:Fs m) (hl:m.length<=60) (hfix:(eU p m).length=m.length) {y:T} (hy:y∈eK p m):y∈m:=
 Rh hm.sorted.nodup (fun x hx=>Hr p m hx) hfix (Vh (by omega) hy)
theorem SX (h:T) (st:ao):cF (r5 h st)=cF h:=by
 cases h
 simp only [cF,r5,T.kind,T.name,T.kids,jH]
 rfl
theorem Hj {hd:T} {facts:List T}:∀ (gs:List T) (st:ao) (y:T),y∈eh hd facts gs st->cF y=cF hd
 | [],st,y,h=>by
  rw [eh,bL] at h
  rw [h,SX]
 | g::gs,st,y,h=>by
  rw [eh,oT] at h
  obtain ⟨f,_,h⟩:=h
  split at h
  ·exact Hj gs _ y h
  ·cases h
theorem Tg {p:List C} (h:fi p=true):∀ c∈p,cF c.head=true:=by
 intro c hc
 rw [fi,bw,dE] at h
 have:=h.2 c hc
 rw [gL,bw,eJ,bw] at this
 exact this.1.2
theorem Cz {p:List C} (hp:fi p=true):∀ (k:Nat) (f:List T) (n:Nat),(∀ y∈f,cF y=true)->∀ y∈(stS p k f n).1,cF y=true
 | 0,f,n,hf,y,h=>hf y h
 | k+1,f,n,hf,y,h=>by
  rw [stS] at h
  split at h
  ·exact hf y h
  ·refine Cz hp k _ _ (fun x hx=>?_) y h
   rcases La hx with hx|hx
   ·exact hf x hx
   ·rw [eK,oT] at hx
    obtain ⟨c,hc,hx⟩:=hx
    rw [Hj _ _ _ hx]
    exact Tg hp c hc
theorem Gp {y:T} (h:DX y) (d:Int) (hd:1<=d):d6 y d=true:=by
 obtain ⟨h1,h2,_⟩:=h
 obtain ⟨k,n,s,ks⟩:=y
 simp only [T.kids] at h2
 subst h2
 rw [d6,ah (by omega),h1,d4]
 rfl
theorem Do (d:Int) (hd:1<=d):∀ ks:List T,(∀ y∈ks,DX y)->d4 ks d=true
 | [],_=>rfl
 | y::ks,h=>by
  rw [d4,Gp (h y (aT ..)) d hd,Do d hd ks fun z hz=>h z (aS _ hz)]
  rfl
theorem Bf:∀ ks:List T,(∀ y∈ks,DX y)->cY ks=ks.length
 | [],_=>rfl
 | y::ks,h=>by
  rw [cY,Bf ks fun z hz=>h z (aS _ hz)]
  obtain ⟨_,h2,_⟩:=h y (aT ..)
  obtain ⟨k,n,s,l⟩:=y
  simp only [T.kids] at h2
  subst h2
  rw [eq,cY,bu]
  omega
theorem Fct.valid {x:T} (h:Fct x):cn x=true:=by
 obtain ⟨hk,ho,hy⟩:=h
 have hlen:=(Cf ho).2
 obtain ⟨k,n,s,ks⟩:=x
 simp only [T.kids] at hy hlen
 rw [cn,d6,ah (by omega),ho,Do (30 - 1) (by omega) ks hy,eq,Bf ks hy,aM (by omega)]
 rfl
theorem Fct.fact {x:T} (h:Fct x) (hp:cF x=true):W9 x=true:=by
 have hv:=h.valid
 have hg:Gl x:=⟨h.1,h.2.1,fun y hy=>⟨(h.2.2 y hy).1,(h.2.2 y hy).2.1⟩⟩
 have hvars:(eI x []).length=0:=by
  cases e:eI x [] with
  | nil=>rfl
  | cons a l=>
   have:a∈eI x []:=by rw [e]; exact aT ..
   rcases (FO hg [] a).1 this with h1|⟨z,hz,hk,_⟩
   ·cases h1
   ·exact absurd hk (h.2.2 z hz).2.2
 rw [W9,hv,eJ,hp,hvars]
 simp only [dM,UP,decide_true,dE]
 intro y hy
 rw [kw,(h.2.2 y hy).2.1]
 rfl
abbrev gQ (p:List C):List T:=(stS p 61 [] 0).1
theorem z6 {p:List C} (h:fi p=true):Fs (gQ p):=(Hq (iG h) 61 [] 0 Fs.nil (by simp)).1
theorem vO {p:List C} (h:fi p=true) (hl:(gQ p).length<=60) {y:T} (hy:y∈eK p (gQ p)):y∈gQ p:=
 Tu (z6 h) hl (U8 p 61 [] 0 (by simp) hl) hy
theorem Oj {p:List C} (h:fi p=true) (hl:(gQ p).length<=60):RN p (gQ p)=true:=by
 have hF:=z6 h
 have hP:=Cz h 61 [] 0 (by simp)
 rw [RN,h,Xb,aM hl]
 simp only [dM,UP,bw,dE]
 refine ⟨fun x hx=>(hF.fct x hx).fact (hP x hx),fun c hc=>?_⟩
 rw [UQ,dE]
 intro y hy
 rw [PH]
 refine vO h hl ?_
 rw [eK,oT]
 exact ⟨c,hc,hy⟩
theorem OZ {p:List C} {r:Int} (h:(bU p r).2=true):fi p=true/\0<=r/\(stS p (gT r) [] 0).1.length<=60/\(bU p r).1=(stS p (gT r) [] 0).1:=by
 unfold bU at h ⊢
 split at h
 ·rename_i h1
  rw [ai h1]
  rw [bw] at h1
  split at h
  ·rename_i h2
   rw [ai h2]
   refine ⟨h1.1,?_,h2,rfl⟩
   have:=h1.2
   simp at this
   omega
  ·cases h
 ·cases h
theorem RK {p:List C} (h:(bU p 61).2=true):Fs (bU p 61).1/\RN p (bU p 61).1=true/\0<=n3 p/\n3 p<=(bU p 61).1.length/\(bU p (n3 p)).2=true/\(bU p (n3 p)).1=(bU p 61).1/\(bU p 61).1.length<=60:=by
 obtain ⟨hf,_,hl,e⟩:=OZ h
 have hl:(gQ p).length<=60:=hl
 have e:(bU p 61).1=gQ p:=e
 have hr:n3 p=((stS p 61 [] 0).2:Int):=by
  rw [n3,ai hf,ai hl]
 have hc:=(AM p 61 [] 0).2
 simp only [bQ,ud,bR] at hc
 have hc:(stS p 61 [] 0).2<=(gQ p).length:=hc
 have hst:stS p (gT (n3 p)) [] 0=stS p 61 [] 0:=by
  rw [hr,gT,ah (by omega),cV]
  exact Lb p 61 [] 0 _ (by simp)
 have hsr:bU p (n3 p)=(gQ p,true):=by
  unfold bU
  rw [hst,hf,hr,aW (by omega),Bool.not_false,UP,ai rfl,ai hl]
 refine ⟨by rw [e]; exact z6 hf,by rw [e]; exact Oj hf hl,by rw [hr]; omega,by rw [hr,e]; omega,by rw [hsr],by rw [hsr,e],by rw [e]; exact hl⟩
end
end Go.Proofs.YtgllldjiaglkcaaGreatDoor

/- Matching with a map: impl.instance. -/
import Derived.Test.YtgllldjiaglkcaaGreatDoorZMa2
import Derived.Test.YtgllldjiaglkcaaGreatDoorZMa6
import Derived.Test.YtgllldjiaglkcaaGreatDoorZMa5
import Derived.Test.YtgllldjiaglkcaaGreatDoorZMa1
import Derived.Test.YtgllldjiaglkcaaGreatDoorZMa4
namespace Go.Proofs.YtgllldjiaglkcaaGreatDoor
section
open Go Go.RowKit

def KnownM (S:af) (es:Array MapEntry) (st:ao):Prop:=
 (∀ e∈es.toList,∃ (n:Nat) (t:T) (cs:List Value),e.key=.int .i64 n/\e.val=.agg cs.toArray/\RdT S cs t/\st[n]?=some (some t))/\(∀ (n:Nat) (t:T),st[n]?=some (some t)->∃ e∈es.toList,e.key=.int .i64 n)/\(es.toList.map (·.key)).Nodup
theorem KnownM.find {S:af} {es:Array MapEntry} {st:ao} (h:KnownM S es st) (n:Nat) :
  (∃ j v t cs,Instr.findNow (.int .i64) (.int .i64 n) es.toList 0=some (some (j,v))/\v=.agg cs.toArray/\RdT S cs t/\st[n]?=some (some t)) ∨
  ((∀ t,st[n]?≠some (some t))/\Instr.findNow (.int .i64) (.int .i64 n) es.toList 0=some none):=by
 rcases sT (n:=n) es.toList 0 (fun e he=>by obtain ⟨m,_,_,hk,_⟩:=h.1 e he; exact ⟨m,hk⟩) with ⟨j,e,he,hk,hf⟩|⟨hk,hf⟩
 ·obtain ⟨m,t,cs,hk2,hv,hR,hs⟩:=h.1 e he
  rw [hk] at hk2
  simp only [Value.int.injEq,wS] at hk2
  have:n=m:=by omega
  subst this
  exact .inl ⟨j,e.val,t,cs,hf,hv,hR,hs⟩
 ·refine .inr ⟨fun t ht=>?_,hf⟩
  obtain ⟨e,he,hk2⟩:=h.2.1 n t ht
  exact hk e he hk2
theorem KnownM.push {S:af} {es:Array MapEntry} {st:ao} (h:KnownM S es st) {n:Nat} (hn:n<st.length) (hno:∀ t,st[n]?≠some (some t)) {cs:List Value} {u:T} (hu:RdT S cs u) (ck:Nat) :
  KnownM S (es.push { key:=.int .i64 n,val:=.agg cs.toArray,born:=ck }) (st.set n (some u)):=by
 refine ⟨fun e he=>?_,fun m t ht=>?_,?_⟩
 ·rw [WL] at he
  rcases bJ.1 he with he|he
  ·obtain ⟨m,t,cs',hk,hv,hR,hs⟩:=h.1 e he
   refine ⟨m,t,cs',hk,hv,hR,?_⟩
   have:n≠m:=fun e=>hno t (by rw [e]; exact hs)
   rw [vR this]
   exact hs
  ·simp at he
   subst he
   exact ⟨n,u,cs,rfl,rfl,hu,by rw [F3 hn]⟩
 ·rw [WL]
  by_cases e:n=m
  ·exact ⟨_,gA _ (bL.2 rfl),by rw [e]⟩
  ·rw [vR e] at ht
   obtain ⟨x,hx,hk⟩:=h.2.1 m t ht
   exact ⟨x,dg _ hx,hk⟩
 ·rw [WL,BD,oN]
  refine ⟨h.2.2,by simp,fun a ha b hb e=>?_⟩
  simp only [lx,List.map_nil,bL] at hb
  subst hb
  obtain ⟨x,hx,rfl⟩:=eF.1 ha
  obtain ⟨m,t,cs',hk,_,_,hs⟩:=h.1 x hx
  rw [hk] at e
  simp only [Value.int.injEq,wS] at e
  have:m=n:=by omega
  subst this
  exact hno t hs
theorem KO (t u:T):jM t u=jM u t:=by
 rw [jM,jM,mP]
 simp only [bw,bk]
 constructor
 ·rintro ⟨a,b,c,d⟩; exact ⟨a.symm,b.symm,c.symm,d.symm⟩
 ·rintro ⟨a,b,c,d⟩; exact ⟨a.symm,b.symm,c.symm,d.symm⟩
section
attribute [local irreducible] Run CondV aw aN
theorem um:∀ (t u:T) (S:af) (cs ds:List Value) (mb ck:Nat) (es:Array MapEntry) (st:ao),RdT S cs t->RdT S ds u->okV t->okK u->z2 st->KnownM S es st->
  Tri Tryz.prog Nu [.agg ds.toArray,.agg cs.toArray,.map (some mb)] [.blk mb (.map es ck)] S fun r I' S'=>S'=S/\r=.bool (bm t u st).1/\∃ es' ck',I'=[.blk mb (.map es' ck')]/\KnownM S es' (bm t u st).2:=by
 refine T.ind fun k' n' s' ks' ih u S cs ds mb ck es st h' h hv hu hst hkc=>?_
 intro w hI
 have hds:=h
 obtain ⟨kv',rfl,_,_,_,hks'⟩:=RdT.iff.1 h'
 obtain ⟨kv,rfl,_,_,_,hks⟩:=RdT.iff.1 h
 obtain ⟨k,n,s,ks⟩:=u
 simp only [T.name,T.kids,T.kind,T.n] at hks hks' ⊢
 have hlen:=hks'.le
 simp only [maxLen] at hlen
 rw [okV] at hv
 obtain ⟨hv1,hv2⟩:=hv
 have huk:=hu
 rw [okK] at hu
 obtain ⟨X,hX⟩:∃ X,X=bI [Item.blk mb (.map es ck)]:=⟨_,rfl⟩
 rw [<- hX] at hI ⊢
 refine vW.2 ?_
 dsimp only[vW,dV]
 refine bt hI fun b1 w' hI=>?_
 refine bt hI fun b2 w' hI=>?_
 have hI:Inv w X [.blk b1 (.cells #[.int .i64 k,.int .i64 n,.string s,kv] ac),.blk b2 (.cells #[.int .i64 k',.int .i64 n',.string s',kv'] ac),.blk mb (.map es ck)] S w':=hI.perm (by
  refine (cu (l₁:=[_,_]) (l₂:=[_])).trans ?_
  exact List.Perm.refl _)
 refine ag hI 1 rfl aP aH rfl ?_
 refine bo ?_
 refine aI (fun hk1=>?_) (fun hk1=>?_)
 ·obtain ⟨hn0,hn25⟩:=hv1 hk1
  obtain ⟨j,rfl⟩:∃ j:Nat,n'=j:=⟨n'.toNat,by omega⟩
  have hj:j<26:=by omega
  have hjs:j<st.length:=by rw [hst.1]; exact hj
  refine ag hI 1 rfl bh aH rfl ?_
  rcases hkc.find j with ⟨q,v,t0,cs0,hf,rfl,hR,hst2⟩|⟨hno,hf⟩
  ·refine QE (v:=.agg cs0.toArray) (ok:=true) hI 2 fB fQ aY rfl (.inl ⟨q,hf,rfl⟩) ?_
   refine aq rfl ?_
   refine aq rfl ?_
   have hlc:=hR.length
   refine aV hI aY fun b7 w' hI=>?_
   refine aA hI 3 rfl ad (by simpa using hlc) rfl (by simpa using hR.one) fun w' hI=>?_
   refine bX ?_
   refine az (fun hb=>by cases hb) (fun _=>?_)
   refine ar hI 3 ad rfl (by simpa using hlc) ?_
   refine ar hI 0 ad rfl rfl ?_
   refine Run.callPure iH iD hI (ib t0 _ S _ _ hR hds) fun w' hI=>?_
   have hm:bm (.mk k' j s' ks') (.mk k n s ks) st=(eqT t0 (.mk k n s ks),st):=by
    rw [bm,ai hk1,cV,hst2]
   rw [hm]
   exact ⟨_,_,_,rfl,hI.pick [false,false,true,false],Ext.refl _ _ _,rfl,rfl,_,_,rfl,hkc⟩
  ·refine QE (ok:=false) hI 2 fB fQ aY rfl (.inr ⟨hf,rfl,rfl⟩) ?_
   refine aq rfl ?_
   refine aq rfl ?_
   refine aV hI aY fun b7 w' hI=>?_
   refine aA hI 3 rfl ad rfl rfl (by simp [Value.oneCell']) fun w' hI=>?_
   refine bX ?_
   refine az (fun _=>?_) (fun hb=>by cases hb)
   refine ag hI 1 rfl bh aH rfl ?_
   refine ar hI 0 ad rfl rfl ?_
   refine G5 hI 2 fB fQ rfl hf fun w' hI=>?_
   have hm:bm (.mk k' j s' ks') (.mk k n s ks) st=(true,st.set j (some (.mk k n s ks))):=by
    rw [bm,ai hk1,cV,fT hjs]
    cases hq:st[j] with
    | none=>rfl
    | some t=>exact absurd (by rw [fT hjs,hq]) (hno t)
   rw [hm]
   exact ⟨_,_,_,rfl,hI.pick [false,false,true,false],Ext.refl _ _ _,rfl,rfl,_,_,rfl,hkc.push hjs hno hds ck⟩
 refine ⟨fun q w'=>q=.bool (!jM (.mk k n s ks) (.mk k' n' s' ks'))/\Inv w X [.blk b1 (.cells #[.int .i64 k,.int .i64 n,.string s,kv] ac),.blk b2 (.cells #[.int .i64 k',.int .i64 n',.string s',kv'] ac),.blk mb (.map es ck)] S w',?_,?_⟩
 ·refine ag hI 0 rfl aP aH rfl ?_
  refine ag hI 1 rfl aP aH rfl ?_
  refine ei ?_
  by_cases e1:k=k'
  ·rw [aM e1]
   refine rpG ?_
   refine ag hI 0 rfl bh aH rfl ?_
   refine ag hI 1 rfl bh aH rfl ?_
   refine ei ?_
   by_cases e2:n=n'
   ·rw [aM e2]
    refine rpG ?_
    refine ag hI 0 rfl bb aQ rfl ?_
    refine ag hI 1 rfl bb aQ rfl ?_
    refine uD ?_
    by_cases e3:s=s'
    ·rw [aM e3]
     refine rpG ?_
     refine ag hI 0 rfl al aj rfl ?_
     refine aC hks ae ?_
     refine ag hI 1 rfl al aj rfl ?_
     refine aC hks' ae ?_
     refine ei ?_
     refine rpG ?_
     exact ⟨by rw [eL,aM e1,aM e2,aM e3,T4]; rfl,hI⟩
    ·rw [aW e3]
     refine rpG ?_
     exact ⟨by rw [eL,aM e1,aM e2,aW e3]; rfl,hI⟩
   ·rw [aW e2]
    refine rpG ?_
    exact ⟨by rw [eL,aM e1,aW e2]; rfl,hI⟩
  ·rw [aW e1]
   refine rpG ?_
   exact ⟨by rw [eL,aW e1]; rfl,hI⟩

 intro q _ _ _ _ _ _ _ _ _ _ _ _ _ _ _ _ _ _ _ _ _ _ _ _ _ _ _ w'
 rintro ⟨rfl,hI⟩
 cases hd:jM (.mk k n s ks) (.mk k' n' s' ks')
 ·refine az (fun _=>?_) (fun hb=>by cases hb)
  have hm:bm (.mk k' n' s' ks') (.mk k n s ks) st=(false,st):=by rw [bm,ah hk1,ah (by rw [KO,hd]; decide)]
  rw [hm]
  exact ⟨_,_,_,rfl,hI.pick [false,false,true],Ext.refl _ _ _,rfl,rfl,_,_,rfl,hkc⟩
 refine az (fun hb=>by cases hb) (fun _=>?_)
 have hle:ks.length=ks'.length:=by
  rw [eL] at hd
  simp only [bw,bk] at hd
  exact hd.2.2.2
 have hm:bm (.mk k' n' s' ks') (.mk k n s ks) st=di ks' ks st:=by rw [bm,ah hk1,ai (by rw [KO,hd])]; rfl
 rw [hm]
 have hu2:=hu.2
 refine ag hI 1 rfl al aj rfl ?_
 refine aC hks' ae ?_
 refine ⟨fun i w'=>∃ (j:Nat) (st':ao) (es':Array MapEntry) (ck':Nat),j<=ks'.length/\i=.int .i64 j/\di (ks'.drop j) (ks.drop j) st'=di ks' ks st/\z2 st'/\KnownM S es' st'/\Inv w X [.blk b1 (.cells #[.int .i64 k,.int .i64 n,.string s,kv] ac),.blk b2 (.cells #[.int .i64 k',.int .i64 n',.string s',kv'] ac),.blk mb (.map es' ck')] S w',fun i _=>ks'.length - (intOf i).toNat,⟨0,st,es,ck,be _,rfl,rfl,hst,hkc,hI⟩,?_⟩
 intro t60 _ _ _ _ _ _ _ _ _ _ _ _ _ _ _ _ _ _ w'
 rintro ⟨j,st',es',ck',hj,rfl,hrel,hst',hkc',hI⟩
 refine bF ?_
 refine aI (fun hji=>?_) (fun hji=>?_)
 ·have hj2:j<ks'.length:=by omega
  have hj1:j<ks.length:=by omega
  obtain ⟨c1,o1,cap1,a1,E1,fz1,rfl,hS1,hR1⟩:=hks.at_ hj1
  obtain ⟨c2,o2,cap2,a2,E2,fz2,rfl,hS2,hR2⟩:=hks'.at_ hj2
  rw [Df ks' ks st' j hj2 hj1] at hrel
  have hcall:=ih _ (bA hj2) ks[j] S _ _ mb ck' es' st' hR2 hR1 (qi hv2 _ (bA hj2)) (ux hu2 _ (bA hj1)) hst' hkc'
  have hsn:=yd ks'[j] ks[j] st' hst' (ux hu2 _ (bA hj1))
  generalize hr:bm ks'[j] ks[j] st'=r at hrel hcall hsn
  refine ⟨fun D UO Ua Us Uw UK TS WK x68 x67 Yk KZ Ok DW w_=>Fx D 0 [DW=.pointer (some ⟨b1,3,none⟩),Ok=.slice (some ⟨c1,o1,none⟩) ks.length cap1,KZ=.int .i64 j,Yk=.pointer (some ⟨c1,o1+j * 4,none⟩),x67=.agg (aO a1 (o1+j * 4) 4).toArray,x68=.pointer (some ⟨b2,3,none⟩),WK=.slice (some ⟨c2,o2,none⟩) ks'.length cap2,TS=.int .i64 j,UK=.pointer (some ⟨c2,o2+j * 4,none⟩),Uw=.agg (aO a2 (o2+j * 4) 4).toArray,Us=.map (some mb),Ua=.bool r.1,UO=.bool (!r.1)]/\(D 11=false->Inv w X [.blk b1 (.cells #[.int .i64 k,.int .i64 n,.string s,.slice (some ⟨c1,o1,none⟩) ks.length cap1] ac),.blk b2 (.cells #[.int .i64 k',.int .i64 n',.string s',.slice (some ⟨c2,o2,none⟩) ks'.length cap2] ac),.blk mb (.map es' ck')] S w_)/\(D 11=true->∃ es2 ck2,KnownM S es2 r.2/\Inv w X [.blk b1 (.cells #[.int .i64 k,.int .i64 n,.string s,.slice (some ⟨c1,o1,none⟩) ks.length cap1] ac),.blk b2 (.cells #[.int .i64 k',.int .i64 n',.string s',.slice (some ⟨c2,o2,none⟩) ks'.length cap2] ac),.blk mb (.map es2 ck2)] S w_)/\∃ es3 ck3,Inv w X [.blk b1 (.cells #[.int .i64 k,.int .i64 n,.string s,.slice (some ⟨c1,o1,none⟩) ks.length cap1] ac),.blk b2 (.cells #[.int .i64 k',.int .i64 n',.string s',.slice (some ⟨c2,o2,none⟩) ks'.length cap2] ac),.blk mb (.map es3 ck3)] S w_,⟨Fx.nil _ _,⟨fun _=>hI.draw,ba,es',ck',hI.draw⟩⟩,⟨?_,?_,?_,?_,?_,?_,?_,?_,?_,?_,?_,?_,?_,trivial⟩,?_⟩
  all_goals (intro D bP; intros; rename_i UO Ua Us Uw UK TS WK x68 x67 Yk KZ Ok DW w_ hA_; have hF_:=hA_.1; obtain ⟨⟨cm,cj,cd,ci,bT,ct,bZ,cR,dq,er,co,cG,dJ,_⟩,⟨hI0,hI1,es3,ck3,hI⟩⟩:=hA_)
  ·refine aB al ?_
   exact ⟨hF_.set 0 rfl,⟨hI0,hI1,es3,ck3,hI⟩⟩
  ·obtain rfl:=cm ‹_›
   refine aX hI 0 aj rfl rfl ?_
   exact ⟨hF_.set 1 rfl,⟨hI0,hI1,es3,ck3,hI⟩⟩
  ·exact ⟨hF_.set 2 rfl,⟨hI0,hI1,es3,ck3,hI⟩⟩
  ·obtain rfl:=cj ‹_›
   obtain rfl:=cd ‹_›
   refine aD ae hj1 ?_
   exact ⟨hF_.set 3 rfl,⟨hI0,hI1,es3,ck3,hI⟩⟩
  ·obtain rfl:=ci ‹_›
   refine bK ad hR1.length (fun j v hj=>by rw [hI.cellS hS1]; exact aK rfl j v hj) ?_
   exact ⟨hF_.set 4 rfl,⟨hI0,hI1,es3,ck3,hI⟩⟩
  ·refine aB al ?_
   exact ⟨hF_.set 5 rfl,⟨hI0,hI1,es3,ck3,hI⟩⟩
  ·obtain rfl:=ct ‹_›
   refine aX hI 1 aj rfl rfl ?_
   exact ⟨hF_.set 6 rfl,⟨hI0,hI1,es3,ck3,hI⟩⟩
  ·exact ⟨hF_.set 7 rfl,⟨hI0,hI1,es3,ck3,hI⟩⟩
  ·obtain rfl:=bZ ‹_›
   obtain rfl:=cR ‹_›
   refine aD ae hj2 ?_
   exact ⟨hF_.set 8 rfl,⟨hI0,hI1,es3,ck3,hI⟩⟩
  ·obtain rfl:=dq ‹_›
   refine bK ad hR2.length (fun j v hj=>by rw [hI.cellS hS2]; exact aK rfl j v hj) ?_
   exact ⟨hF_.set 9 rfl,⟨hI0,hI1,es3,ck3,hI⟩⟩
  ·exact ⟨hF_.set 10 rfl,⟨hI0,hI1,es3,ck3,hI⟩⟩
  ·obtain rfl:=bT ‹_›
   obtain rfl:=er ‹_›
   obtain rfl:=co ‹_›
   refine Run.call (A:=[_,_]) oX o7 (hI0 bP) hcall fun v' I' S w_=>?_
   rintro ⟨rfl,rfl,es2,ck2,rfl,hk2⟩ _ hI
   have hI0:=fun (h:aF D 11 11=false)=>(Bool.noConfusion h:Inv w X [.blk b1 (.cells #[.int .i64 k,.int .i64 n,.string s,.slice (some ⟨c1,o1,none⟩) ks.length cap1] ac),.blk b2 (.cells #[.int .i64 k',.int .i64 n',.string s',.slice (some ⟨c2,o2,none⟩) ks'.length cap2] ac),.blk mb (.map es' ck')] S w_)
   have hI1:=fun (_:aF D 11 11=true)=>(⟨es2,ck2,hk2,hI⟩:∃ es2 ck2,KnownM S es2 r.2/\Inv w X [.blk b1 (.cells #[.int .i64 k,.int .i64 n,.string s,.slice (some ⟨c1,o1,none⟩) ks.length cap1] ac),.blk b2 (.cells #[.int .i64 k',.int .i64 n',.string s',.slice (some ⟨c2,o2,none⟩) ks'.length cap2] ac),.blk mb (.map es2 ck2)] S w_)
   obtain ⟨es3,ck3,hI⟩:∃ es3 ck3,Inv w X [.blk b1 (.cells #[.int .i64 k,.int .i64 n,.string s,.slice (some ⟨c1,o1,none⟩) ks.length cap1] ac),.blk b2 (.cells #[.int .i64 k',.int .i64 n',.string s',.slice (some ⟨c2,o2,none⟩) ks'.length cap2] ac),.blk mb (.map es3 ck3)] S w_:=⟨es2,ck2,hI⟩
   exact ⟨hF_.set 11 rfl,⟨hI0,hI1,es3,ck3,hI⟩⟩
  ·obtain rfl:=cG ‹_›
   refine bX ?_
   exact ⟨hF_.set 12 rfl,⟨hI0,hI1,es3,ck3,hI⟩⟩
  obtain ⟨rfl,rfl,rfl,rfl,rfl,rfl,rfl,rfl,rfl,rfl,rfl,rfl,rfl,_⟩:=hF_.all
  have xw:D 11=true:=by assumption
  clear hF_ cm cj cd ci bT ct bZ cR dq er co cG dJ
  obtain ⟨es2,ck2,hk2,hI⟩:=hI1 xw
  clear hI0 hI1
  refine az (fun hne=>?_) (fun he'=>?_)
  ·simp only [js] at hne
   rw [hne,ah (by decide)] at hrel
   rw [<- hrel]
   exact ⟨_,_,_,rfl,hI.pick [false,false,true],Ext.refl _ _ _,rfl,rfl,_,_,rfl,hk2⟩
  ·simp only [uk] at he'
   rw [he',ai rfl] at hrel
   refine bq (by omega) ?_
   exact ⟨⟨j+1,r.2,es2,ck2,hj2,rfl,hrel,hsn,hk2,hI⟩,by simp [intOf]; omega⟩
 ·have:j=ks'.length:=by omega
  subst this
  rw [dL,<- hle,dL] at hrel
  rw [<- hrel]
  exact ⟨_,_,_,rfl,hI.pick [false,false,true],Ext.refl _ _ _,rfl,rfl,_,_,rfl,hkc'⟩
end
end
section
open Go Go.RowKit

def st0:ao:=List.replicate 26 none
theorem aa9:z2 st0:=⟨by simp [st0],fun t ht=>by simp [st0] at ht⟩
theorem KnownM.empty (S:af):KnownM S #[] st0:=by
 refine ⟨by simp,fun n t ht=>?_,by simp⟩
 rw [st0,Ll] at ht
 split at ht <;> cases ht
theorem NO:∀ {ts:List T},(∀ t∈ts,okV t)->nl ts
 | [],_=>by simp [nl]
 | t::ts,h=>by rw [nl]; exact ⟨h t (aT ..),NO fun u hu=>h u (aS _ hu)⟩
theorem Ub:∀ {ts:List T},(∀ t∈ts,okK t)->Ci ts
 | [],_=>by simp [Ci]
 | t::ts,h=>by rw [Ci]; exact ⟨h t (aT ..),Ub fun u hu=>h u (aS _ hu)⟩
theorem YV (z:Array Value) (hz:z=#[.int .i64 0,.int .i64 0,.string ⟨#[]⟩,.slice none 0 0]) (S:af):KnownC S ((Array.range 104).map (z[· % z.size]!)) st0:=by
 subst hz
 refine ⟨by simp,fun i hi=>⟨fun _=>?_,fun t ht=>?_⟩⟩
 ·simp only [st0,List.length_replicate] at hi
  apply wv
  intro j
  rw [aO,uj]
  match j with
  | 0|1|2|3=>
   rw [ai (by omega),Ax,aaP,Array.getElem?_map,Array.getElem?_range,ai (by omega)]
   simp only [rj,Rz,bu,bQ]
   first
    | rw [show (i * 4+0) % 4=0 by omega]; rfl
    | rw [show (i * 4+1) % 4=1 by omega]; rfl
    | rw [show (i * 4+2) % 4=2 by omega]; rfl
    | rw [show (i * 4+3) % 4=3 by omega]; rfl
  | j+4=>
   rw [ah (by omega)]
   rfl
 ·have e:st0[i]=none:=by simp only [st0,List.getElem_replicate]
  rw [e] at ht
  cases ht
section
variable {P:Program} {w w0:World} {X:List Nat} {L:List Item} {S:af} {K:Value->World->Prop}
attribute [local irreducible] Run CondV aw aN
theorem M9 (h:Inv w0 X L S w) {T ty e:TypeId} {k by_ n:Nat} {z:Value} (hT:nq P T=some (e,k,by_,z)) (hn:n<=4294967296) (hby:by_<=65536) (hn0:n * k≠0)
  (hk:∀ b w',Inv w0 X (L++[.blk b (.cells ((Array.range (n * k)).map (z.cells[· % z.cells.size]!)) e)]) S w'->K (.slice (some ⟨b,0,none⟩) n n) w') :
  Run P (sOp (.makeSlice T (.const (.int .i64 n)) (.const (.int .i64 n))) ty) w K:=by
 obtain ⟨hu,i,hi,hz,hs,hb,hzs⟩:=iW hT
 have hw:IntKind.i64.wrap (n:Int)=n:=IntWalk.i64_in _ (by omega)
 have hle:by_ * n<=2 ^ 48:=gB (HA hby hn) (by decide)
 have h1:¬ ((n:Int)<0):=by omega
 have h2:¬ (281474976710656<(i.bytes:Int) * (n:Int)):=by
  rw [hb]
  have:((by_ * n:Nat):Int)<=((2 ^ 48:Nat):Int):=by exact_mod_cast hle
  have e:(((2 ^ 48:Nat)):Int)=281474976710656:=by decide
  rw [e,Int.natCast_mul] at this
  omega
 refine Run.of (v:=.slice (some ⟨w.heap.size,0,none⟩) n n) (w':={ w with heap:=w.heap.push (.cells ((Array.range (n * k)).map (z.cells[· % z.cells.size]!)) e) }) ?_ (hk _ _ (h.alloc _))
 simp [sOp,execOp,ev0,evE,Instr.makeSlice,run_underlying hu,asInt,asIntOf,typeInfo,hi,hw,h1,h2,sizeOf,hs,newRow,newObj,Sem.run,hn0,zeroValue,hz]
end
section
attribute [local irreducible] Run CondV aw aN
end
end
section
open Go Go.RowKit
section
variable {P:Program} {w:World} {K:Value->World->Prop}
attribute [local irreducible] Run
end
section
attribute [local irreducible] Run CondV aw aN
theorem nf (n:Int) (S:af):Pure Tryz.prog LW [.int .i64 n] S (.agg #[.int .i64 1,.int .i64 n,.string ⟨#[]⟩,.slice none 0 0]):=by
 intro w hI
 refine vN.2 ?_
 dsimp only[vN,aL]
 refine aV hI aY fun b1 w' hI=>?_
 have hb:∀ {K:Value->World->Prop} {w':World},K (.agg #[.int .i64 1,.int .i64 n,.string ⟨#[]⟩,.slice none 0 0]) w'->Run Tryz.prog (cU ac [(0,.int .i64 1),(1,.int .i64 n)]) w' K:=by
  intro K w' hk
  refine Run.of (v:=.agg #[.int .i64 1,.int .i64 n,.string ⟨#[]⟩,.slice none 0 0]) (w':=w') ?_ hk
  unfold cU
  rw [Sem.run_bind,run_build w' ac _ #[.int .i64 1,.int .i64 n,.string ⟨#[]⟩,.slice none 0 0] (by kernel_rfl),Result.andThen_ok]
  rfl
 refine hb ?_
 refine aA hI 0 rfl ad rfl rfl (by simp [Value.oneCell']) fun w' hI=>?_
 refine bC hI 0 ad rfl rfl ?_
 exact done hI rfl
theorem xA {vs:List Int} {S:af} {g:Nat} {vv:Value} {E:TypeId} (n:Int) (hS:S g=some (.cells #[vv] E)) (hv:RdSl S 1 i5 vv vs) :
  Pure Tryz.prog ik [.int .i64 n,.pointer (some ⟨g,0,none⟩)] S (.agg #[.int .i64 1,.int .i64 (sS vs n),.string ⟨#[]⟩,.slice none 0 0]):=by
 intro w hI
 refine nC.2 ?_
 dsimp only[nC,aZ]
 refine aV hI aY fun b1 w' hI=>?_
 refine cw gH (by rw [hI.cellS hS]; rfl) ?_
 refine Run.callPure mG mO hI (lz n hv) fun w' hI=>?_
 refine Run.callPure oO oS hI (nf _ S) fun w' hI=>?_
 refine aA hI 0 rfl ad rfl rfl (by simp [Value.oneCell']) fun w' hI=>?_
 refine bC hI 0 ad rfl rfl ?_
 exact done hI rfl
theorem JQ (vs:List Int) (hvl:vs.length<=1000000000):∀ (t:T) (S:af) (cs:List Value) (g:Nat) (vv:Value) (E:TypeId),RdT S cs t->S g=some (.cells #[vv] E)->RdSl S 1 i5 vv vs->wT t<=1048576->
  Tri Tryz.prog nJ [.agg cs.toArray,fv ik [.pointer (some ⟨g,0,none⟩)]] [] S (G4 S (pk vs t)):=by
 refine T.ind fun k n s ks ih0 S cs g vv E h hS hv hw=>?_
 have ih:∀ t∈ks,∀ (S:af) (cs:List Value),RdT S cs t->S g=some (.cells #[vv] E)->RdSl S 1 i5 vv vs->wT t<=1048576->
  Tri Tryz.prog nJ [.agg cs.toArray,fv ik [.pointer (some ⟨g,0,none⟩)]] [] S (G4 S (pk vs t)):=fun t ht S cs h1 h2 h3 h4=>ih0 t ht S cs g vv E h1 h2 h3 h4
 clear ih0
 intro w hI
 obtain ⟨kv,rfl,h1,h2,hs,hks⟩:=RdT.iff.1 h
 simp only [T.name,T.kids,T.kind,T.n] at h1 h2 hs hks ⊢
 simp only [wT] at hw
 have hir:=XQ vs n
 refine ig.2 ?_
 dsimp only[ig,aZ]
 refine bt hI fun b2 w' hI=>?_
 refine aV hI aY fun b4 w' hI=>?_
 refine ag hI 0 rfl aP aH rfl ?_
 refine bo ?_
 rw [pk]
 refine aI (fun hk1=>?_) (fun hk1=>?_)
 ·rw [ai hk1]
  refine ag hI 0 rfl bh aH rfl ?_
  refine Run.callVPure Al Ar hI (xA n hS hv) fun w' hI=>?_
  refine aA hI 1 rfl ad rfl rfl (by simp [Value.oneCell']) fun w' hI=>?_
  refine bC hI 1 ad rfl rfl ?_
  exact ⟨_,_,_,rfl,hI.pick [false,false],Ext.refl _ _ _,rfl,[_,_,_,_],[],rfl,rfl,TrT.iff.2 ⟨_,rfl,by simp [inI,T.kind],by simp only [inI,T.n]; omega,by rw [T.name]; decide +kernel,TrSl.nil (by simp [maxLen])⟩⟩
 rw [ah hk1]
 refine ag hI 0 rfl al aj rfl ?_
 refine dh hI 0 rfl al aj rfl rfl rfl fun w' hI=>?_
 refine aC hks ae ?_
 have hI:Inv w [] [.blk b4 (.cells #[.int .i64 0,.int .i64 0,.string ⟨#[]⟩,.slice none 0 0] ac),.blk b2 (.cells #[.int .i64 k,.int .i64 n,.string s,.slice none 0 0] ac)] S w':=hI.perm (List.Perm.swap _ _ _)
 have hI:=hI.rowNil ac 4
 refine ⟨fun i w'=>∃ (j:Nat) (kvc:Value) (Ls:List bn) (css:List (List Value)),j<=ks.length/\i=.int .i64 j/\Grown 4 TrT Ls css (gn vs (ks.take j))/\
   Inv w [] (.blk b4 (.cells #[.int .i64 0,.int .i64 0,.string ⟨#[]⟩,.slice none 0 0] ac)::.blk b2 (.cells #[.int .i64 k,.int .i64 n,.string s,kvc] ac)::aJ kvc ac 4 css::bv Ls.flatten) S w',
  fun i _=>ks.length - (intOf i).toNat,⟨0,_,[],[],be _,rfl,Grown.nil _ _,hI⟩,?_⟩
 intro t20 _ _ _ _ _ _ _ _ _ _ _ _ _ w'
 rintro ⟨j,kvc,Ls,css,hj,rfl,hg,hI⟩
 refine bF ?_
 refine aI (fun hji=>?_) (fun hji=>?_)
 ·have hj':j<ks.length:=by omega
  have hjl:(ks.take j).length=j:=by simp; omega
  have hcl:=hg.hc
  rw [l8] at hcl
  have hm:=bA hj'
  have hwm:=jI hm
  refine cE hI hks ae ad hj' (fun _ _=>RdT.length) fun cs0 hcs0=>?_
  refine aV hI aY fun b7 w' hI=>?_
  have hI:=hI.perm (M:=.blk b7 _::(.blk b4 (.cells #[.int .i64 0,.int .i64 0,.string ⟨#[]⟩,.slice none 0 0] ac)::.blk b2 (.cells #[.int .i64 k,.int .i64 n,.string s,kvc] ac)::aJ kvc ac 4 css::bv Ls.flatten)) (cu (l₁:=[_]))
  refine aA hI 0 rfl ad (by simpa using hcs0.length) rfl (by simpa using hcs0.one) fun w' hI=>?_
  refine ⟨fun D v9 iq qs jL r2 lE fF kU w_=>Fx D 0 [kU=.pointer (some ⟨b2,3,none⟩),fF=kvc,lE=.agg cs0.toArray,r2=fv ik [.pointer (some ⟨g,0,none⟩)],True,True,True,v9=.pointer (some ⟨b2,3,none⟩),True]/\∃ M cs7 b8,(D 4=true->jL=.agg cs7.toArray/\TrT M cs7 (pk vs ks[j]))/\(D 5=true->qs=.slice (some ⟨b8,0,none⟩) 1 1)/\(D 5=true->D 4=true)/\(D 6=true->D 5=true)/\(D 8=true->D 6=true)/\(D 8=true->D 1=true)/\Inv w [] (bf (.blk b7 (.cells cs0.toArray ac)) (.blk b4 (.cells #[.int .i64 0,.int .i64 0,.string ⟨#[]⟩,.slice none 0 0] ac)) (.blk b2 (.cells #[.int .i64 k,.int .i64 n,.string s,kvc] ac)) (.blk b2 (.cells #[.int .i64 k,.int .i64 n,.string s,iq] ac)) (aJ kvc ac 4 css) (aJ iq ac 4 (css++[cs7])) (bv Ls.flatten) M (.blk b8 (.cells cs7.toArray ac)) (D 4) (D 5) (D 6) (D 8)) S w_,⟨Fx.nil _ _,⟨[],[],0,ba,ba,ba,ba,ba,ba,by simpa [bf,bv] using hI.draw⟩⟩,⟨?_,?_,?_,?_,?_,?_,?_,?_,?_,trivial⟩,?_⟩
  all_goals (intro D bP; intros; rename_i v9 iq qs jL r2 lE fF kU w_ hA_; have hF_:=hA_.1; obtain ⟨⟨cm,cj,cd,ci,bT,ct,bZ,cR,dq,_⟩,⟨M,cs7,b8,e7,e8,k8,k9,k11,k1,hI⟩⟩:=hA_)
  ·refine aB al ?_
   exact ⟨hF_.set 0 rfl,⟨M,cs7,b8,e7,e8,k8,k9,k11,k1,hI⟩⟩
  ·obtain rfl:=cm ‹_›
   have f11:D 8=false:=bH.2 fun h=>by rw [k1 h] at bP; cases bP
   refine aX (b:=b2) hI 2 (c:=(#[.int .i64 k,.int .i64 n,.string s,kvc])) aj (by rw [f11]; rfl) rfl ?_
   have k1:=fun (_:aF D 1 8=true)=>(rfl:aF D 1 1=true)
   exact ⟨hF_.set 1 rfl,⟨M,cs7,b8,e7,e8,k8,k9,k11,k1,hI⟩⟩
  ·refine ar hI 0 ad rfl (by simpa using hcs0.length) ?_
   exact ⟨hF_.set 2 rfl,⟨M,cs7,b8,e7,e8,k8,k9,k11,k1,hI⟩⟩
  ·exact ⟨hF_.set 3 rfl,⟨M,cs7,b8,e7,e8,k8,k9,k11,k1,hI⟩⟩
  ·obtain rfl:=cd ‹_›
   obtain rfl:=ci ‹_›
   have f8:D 5=false:=bH.2 fun h=>by rw [k8 h] at bP; cases bP
   have f9:D 6=false:=bH.2 fun h=>by rw [k9 h] at f8; cases f8
   have f11:D 8=false:=bH.2 fun h=>by rw [k11 h] at f9; cases f9
   rw [bP,f8,f9,f11] at hI
   refine Run.call0 ft fy hI (ih _ (bA hj') S cs0 hcs0 hS hv (by omega)) fun v' I' S w_=>?_
   rintro ⟨rfl,cs7,M,rfl,rfl,hT⟩ _ hI
   have e7:aF D 4 4=true->Value.agg cs7.toArray=Value.agg cs7.toArray/\TrT M cs7 (pk vs ks[j]):=fun _=>⟨rfl,hT⟩
   have k8:=fun (_:aF D 4 5=true)=>(rfl:aF D 4 4=true)
   have hI:Inv w [] (bf (.blk b7 (.cells cs0.toArray ac)) (.blk b4 (.cells #[.int .i64 0,.int .i64 0,.string ⟨#[]⟩,.slice none 0 0] ac)) (.blk b2 (.cells #[.int .i64 k,.int .i64 n,.string s,kvc] ac)) (.blk b2 (.cells #[.int .i64 k,.int .i64 n,.string s,iq] ac)) (aJ kvc ac 4 css) (aJ iq ac 4 (css++[cs7])) (bv Ls.flatten) M (.blk b8 (.cells cs7.toArray ac)) true (D 5) (D 6) (D 8)) S w_:=by
    rw [f8,f9,f11]
    simpa [bf] using hI
   exact ⟨hF_.set 4 (by first|assumption|trivial),⟨M,cs7,b8,e7,e8,k8,k9,k11,k1,hI⟩⟩
  ·have Q1:=bT ‹_›
   have f9:D 6=false:=bH.2 fun h=>by rw [k9 h] at bP; cases bP
   have f11:D 8=false:=bH.2 fun h=>by rw [k11 h] at f9; cases f9
   obtain ⟨q7,hT⟩:=e7 ‹D 4=true›
   subst q7
   rw [‹D 4=true›,bP,f9,f11] at hI
   refine d5 hI bj (by simp [Value.cells,hT.length]) (by omega) (by omega) fun b8 w_ hI=>?_
   have e7:aF D 5 4=true->Value.agg cs7.toArray=Value.agg cs7.toArray/\TrT M cs7 (pk vs ks[j]):=fun _=>⟨rfl,hT⟩
   have e8:=fun (_:aF D 5 5=true)=>(rfl:Value.slice (some ⟨b8,0,none⟩) 1 1=_)
   have k8:=fun (_:aF D 5 5=true)=>‹D 4=true›
   have k9:=fun (_:aF D 5 6=true)=>(rfl:aF D 5 5=true)
   have hI:Inv w [] (bf (.blk b7 (.cells cs0.toArray ac)) (.blk b4 (.cells #[.int .i64 0,.int .i64 0,.string ⟨#[]⟩,.slice none 0 0] ac)) (.blk b2 (.cells #[.int .i64 k,.int .i64 n,.string s,kvc] ac)) (.blk b2 (.cells #[.int .i64 k,.int .i64 n,.string s,iq] ac)) (aJ kvc ac 4 css) (aJ iq ac 4 (css++[cs7])) (bv Ls.flatten) M (.blk b8 (.cells cs7.toArray ac)) (D 4) true (D 6) (D 8)) S w_:=by
    rw [‹D 4=true›,f9,f11]
    simpa [bf,Value.cells] using hI
   exact ⟨hF_.set 5 (by first|assumption|trivial),⟨M,cs7,b8,e7,e8,k8,k9,k11,k1,hI⟩⟩
  ·obtain rfl:=cj ‹_›
   have VA:=ct ‹_›
   have f11:D 8=false:=bH.2 fun h=>by rw [k11 h] at bP; cases bP
   have q8:=e8 ‹D 5=true›
   subst q8
   obtain ⟨_,hT⟩:=e7 ‹D 4=true›
   rw [‹D 4=true›,‹D 5=true›,bP,f11] at hI
   have hblk:((bf (.blk b7 (.cells cs0.toArray ac)) (.blk b4 (.cells #[.int .i64 0,.int .i64 0,.string ⟨#[]⟩,.slice none 0 0] ac)) (.blk b2 (.cells #[.int .i64 k,.int .i64 n,.string s,fF] ac)) (.blk b2 (.cells #[.int .i64 k,.int .i64 n,.string s,iq] ac)) (aJ fF ac 4 css) (aJ iq ac 4 (css++[cs7])) (bv Ls.flatten) M (.blk b8 (.cells cs7.toArray ac)) true true false false))[4+(bv Ls.flatten).length+(bv M).length]?=some (.blk b8 (.cells cs7.toArray ac)):=by
    have e4:4+(bv Ls.flatten).length+(bv M).length=((bv Ls.flatten).length+(bv M).length)+1+1+1+1:=by omega
    rw [e4]
    simp only [bf,mL]
    rw [ir (by omega),oR,ir (aR _),eD]; rfl
   refine dQ hI 3 cs7 bj (by omega) rfl (by rw [hT.length]) (m:=1) (o:=0) ?_ hT.one (by omega) (by omega) fun v' w_ hI=>?_
   ·intro i u hi
    rw [hI.cellL hblk,bR]
    simpa using hi
   rw [eG] at hI
   have k9:=fun (_:aF D 6 6=true)=>‹D 5=true›
   have k11:=fun (_:aF D 6 8=true)=>(rfl:aF D 6 6=true)
   have hI:Inv w [] (bf (.blk b7 (.cells cs0.toArray ac)) (.blk b4 (.cells #[.int .i64 0,.int .i64 0,.string ⟨#[]⟩,.slice none 0 0] ac)) (.blk b2 (.cells #[.int .i64 k,.int .i64 n,.string s,fF] ac)) (.blk b2 (.cells #[.int .i64 k,.int .i64 n,.string s,v'] ac)) (aJ fF ac 4 css) (aJ v' ac 4 (css++[cs7])) (bv Ls.flatten) M (.blk b8 (.cells cs7.toArray ac)) (D 4) (D 5) true (D 8)) S w_:=by
    rw [‹D 4=true›,‹D 5=true›,f11]
    exact hI
   exact ⟨hF_.set 6 (by first|assumption|trivial),⟨M,cs7,b8,e7,e8,k8,k9,k11,k1,hI⟩⟩
  ·refine aB al ?_
   exact ⟨hF_.set 7 rfl,⟨M,cs7,b8,e7,e8,k8,k9,k11,k1,hI⟩⟩
  ·obtain rfl:=cR ‹_›
   have Q4:=bZ ‹_›
   rw [‹D 4=true›,‹D 5=true›,‹D 6=true›,bP] at hI
   obtain ⟨va,vn,vc,hv9⟩:=Inv.rowSlice hI 3 rfl
   refine c8 hI 2 (n:=1) (by rw [hv9]; rfl) (by decide +kernel) rfl (by simp) (by rw [hv9]; simp [Value.cells,Value.oneCell']) fun w_ hI=>?_
   have hcl9:Value.cells iq=#[iq]:=by rw [hv9]; rfl
   rw [hcl9] at hI
   have k1:=fun (_:aF D 8 8=true)=>‹D 1=true›
   have k11:=fun (_:aF D 8 8=true)=>‹D 6=true›
   have hI:Inv w [] (bf (.blk b7 (.cells cs0.toArray ac)) (.blk b4 (.cells #[.int .i64 0,.int .i64 0,.string ⟨#[]⟩,.slice none 0 0] ac)) (.blk b2 (.cells #[.int .i64 k,.int .i64 n,.string s,kvc] ac)) (.blk b2 (.cells #[.int .i64 k,.int .i64 n,.string s,iq] ac)) (aJ kvc ac 4 css) (aJ iq ac 4 (css++[cs7])) (bv Ls.flatten) M (.blk b8 (.cells cs7.toArray ac)) (D 4) (D 5) (D 6) true) S w_:=by
    rw [‹D 4=true›,‹D 5=true›,‹D 6=true›]
    exact hI
   exact ⟨hF_.set 8 trivial,⟨M,cs7,b8,e7,e8,k8,k9,k11,k1,hI⟩⟩
  obtain ⟨rfl,rfl,rfl,rfl,Q1,VA,Q4,rfl,_,_⟩:=hF_.all
  have d4_:D 4=true:=by assumption
  have ZS:D 5=true:=by assumption
  have TH:D 6=true:=by assumption
  have LK:D 8=true:=by assumption
  clear hF_ cm cj cd ci bT ct bZ cR dq
  obtain ⟨_,hT⟩:=e7 d4_
  rw [d4_,ZS,TH,LK] at hI
  refine bq (by omega) ?_
  refine ⟨⟨j+1,iq,Ls++[M],css++[cs7],hj',rfl,?_,?_⟩,by simp [intOf]; omega⟩
  ·rw [G8 vs ks j hj']
   exact hg.snoc hT hT.length
  ·simp only [wc,iE,tM,dB,eC]
   refine hI.sub ?_
   simp only [bf]
   rw [<- eW]
   exact ((((dr _ _).cons_cons _).cons_cons _).cons_cons _).cons _
 ·have:j=ks.length:=by omega
  subst this
  rw [fk] at hg
  obtain ⟨va,vn,vc,hvk⟩:=hI.rowSlice 2 rfl
  have hv1:kvc.oneCell'=true:=by rw [hvk]; rfl
  refine ar hI 1 ad rfl rfl ?_
  refine aA hI 0 rfl ad rfl rfl ?_ fun w' hI=>?_
  ·intro u hu
   have hu':u∈([.int .i64 k,.int .i64 n,.string s,kvc]:List Value):=hu
   simp at hu'
   rcases hu' with rfl|rfl|rfl|rfl <;> first|rfl|exact hv1
  refine bC hI 0 ad rfl rfl ?_
  have hI:Inv w [] ([]++(aJ kvc ac 4 css::bv Ls.flatten)) S w':=hI.sub (dX [_,_] _)
  obtain ⟨L,hT,hI⟩:=Inv.rowTree hI hg
  exact ⟨_,_,_,rfl,hI,Ext.refl _ _ _,rfl,_,L,rfl,rfl,TrT.iff.2 ⟨kvc,rfl,h1,h2,hs,hT⟩⟩
theorem BQ {ts:List T} {S:af} {v:Value} (h:RdSl S 4 (RdT S) v ts) (hw:ts.length+wL ts<=1048577):Tri Tryz.prog Hy [v] [] S (PC 4 TrT S (gn (bM ts []) ts)):=by
 intro w hI
 have hlen:=h.le
 simp only [maxLen] at hlen
 have hcl:=Bq ts
 have hvl:=AE ts []
 simp only [bQ] at hvl
 refine rZ.2 ?_
 dsimp only[rZ,aL]
 refine Run.call0 i6 ja hI (il h (by omega)) fun v1 I' S w'=>?_
 rintro ⟨rfl,rfl⟩ _ hI
 have hl':(bM ts []).length<=1000000000:=by omega
 generalize bM ts []=vs at hI hl' ⊢
 refine aV hI T6 fun b3 w' hI=>?_
 have hv1:v1.cells=#[v1]/\v1.oneCell'=true:=by
  have:=hI.its (dt v1 vs) (by simp)
  rcases this.2 with ⟨rfl,_⟩|⟨g,cap,cur,rfl,_⟩ <;> exact ⟨rfl,rfl⟩
 refine c8 hI 1 (n:=1) (by rw [hv1.1]; rfl) (by rw [gH]; rfl) rfl (lC rfl) (by rw [hv1.1]; simpa using hv1.2) fun w' hI=>?_
 have hst:bl (Value.slice none 0 0).cells 0 v1.cells.toList=#[v1]:=by
  rw [hv1.1]; rfl
 have hI:Inv w [] [dt v1 vs,.blk b3 (.cells #[v1] jw)] S w':=by
  have:=hI
  simp only [iC,s3] at this
  rw [hst] at this
  exact this
 have hI:=hI.perm (M:=[.blk b3 (.cells #[v1] jw)]++[dt v1 vs]) (List.Perm.swap _ _ _)
 obtain ⟨S1,hle1,hrd1,hI,_⟩:=Inv.lend (A:=[_]) hI
 obtain ⟨hI,hle2⟩:=Inv.publishLast (L:=[]) hI
 have hb:jj S1 b3 (.cells #[v1] jw) b3=some (.cells #[v1] jw):=by simp [jj]
 generalize jj S1 b3 (.cells #[v1] jw)=S2 at hI hle2 hb
 have hr1:=hrd1.ints.mono hle2 fun _ _ h=>h
 have hle:=hle1.trans hle2
 have h:=h.mono hle fun _ _ h=>h.mono hle
 refine aC h ae ?_
 refine ⟨fun i t w'=>∃ (k:Nat) (Ls:List bn) (css:List (List Value)),k<=ts.length/\i=.int .i64 k/\Grown 4 TrT Ls css (gn vs (ts.take k))/\Inv w [] (aJ t ac 4 css::bv Ls.flatten) S2 w',
  fun i _ _=>ts.length - (intOf i).toNat,⟨0,[],[],be _,rfl,Grown.nil _ _,hI.rowNil ac 4⟩,?_⟩
 intro t11 _ t4 _ _ _ _ _ _ _ _ _ _ w'
 rintro ⟨k,Ls,css,hk,rfl,hg,hI⟩
 refine bF ?_
 refine aI (fun hki=>?_) (fun hki=>?_)
 ·have hk':k<ts.length:=by omega
  have htl:(ts.take k).length=k:=by simp; omega
  have hcl:=hg.hc
  rw [l8] at hcl
  have hm:=bA hk'
  have hwm:=jI hm
  refine cE hI h ae ad hk' (fun _ _=>RdT.length) fun cs hcs=>?_
  have hlc:=hcs.length
  refine aV hI aY fun b6 w' hI=>?_
  have hI:=hI.perm (M:=.blk b6 _::(aJ t4 ac 4 css::bv Ls.flatten)) (cu (l₁:=[_]))
  refine aA hI 0 rfl ad (by simpa using hlc) rfl (by simpa using hcs.one) fun w' hI=>?_
  refine ar hI 0 ad rfl (by simpa using hlc) ?_
  have hI:Inv w [] (aJ t4 ac 4 css::bv Ls.flatten) S2 w':=hI.sub (iB _ _)
  refine gf ?_
  refine Run.call0 ft fy hI (JQ vs hl' _ S2 cs b3 v1 jw hcs hb hr1 (by omega)) fun v' I' S' w'=>?_
  rintro ⟨rfl,cs',L,rfl,rfl,hT⟩ _ hI
  refine dD hI 0 cs' bj (by omega) (by omega) rfl hT.length hT.one (by omega) (by omega) fun v' w' hI=>?_
  refine bq (by omega) ?_
  refine ⟨⟨k+1,Ls++[L],css++[cs'],hk',rfl,?_,?_⟩,by simp [intOf]; omega⟩
  ·rw [G8 vs ts k hk']
   exact hg.snoc hT hT.length
  ·simp only [wc,iE,tM,dB,eC]
   exact hI
 ·have:k=ts.length:=by omega
  subst this
  rw [fk] at hg
  obtain ⟨L,hT,hI⟩:=Inv.rowTree (A:=[]) hI hg
  exact ⟨_,_,_,rfl,hI.less hle,Ext.refl _ _ _,rfl,_,rfl,hT⟩
end
end
section
open Go Go.RowKit
mutual
theorem Uj (vs:List Int):∀ t:T,wT (UL vs t)=wT t
 | .mk k n s ks=>by rw [UL,wT,wT,Cj,MC vs ks]
theorem MC (vs:List Int):∀ ts:List T,wL (Id vs ts)=wL ts
 | []=>rfl
 | t::ts=>by rw [Id,wL,wL,Uj vs t,MC vs ts]
end
theorem aaC (vs:List Int) (c:C):wC (Zf vs c)=wC c:=by
 simp only [wC,Zf,Uj,MC,Cj]
section
attribute [local irreducible] Run CondV aw aN
theorem TrC.zero:TrC [] [.int .i64 0,.int .i64 0,.string ⟨#[]⟩,.slice none 0 0,.slice none 0 0] ⟨⟨0,0,⟨#[]⟩,[]⟩,[]⟩:=
 ⟨[.int .i64 0,.int .i64 0,.string ⟨#[]⟩,.slice none 0 0],.slice none 0 0,[],[],rfl,rfl,TrT.iff.2 ⟨_,rfl,by simp [inI,T.kind],by simp [inI,T.n],by rw [T.name]; decide +kernel,TrSl.nil (by simp [maxLen])⟩,TrSl.nil (by simp [maxLen])⟩
end
end
section
open Go Go.RowKit
def abr:Option (Option C)->Bool
 | some (some r)=>bN r
 | _=>false
def Up:C:=⟨⟨0,0,⟨#[]⟩,[]⟩,[]⟩
def clO:Option (Option C)->C
 | some (some r)=>r
 | _=>Up
section
variable {P:Program} {w:World} {K:Value->World->Prop}
attribute [local irreducible] Run
theorem Hm {T:TypeId} {cx cy:Bool} {a b:Int} (hr:-9223372036854775808<=a * b/\a * b<=9223372036854775807) (hk:K (.int .i64 (a * b)) w):Run P (cN .mul T cx cy (.int .i64 a) (.int .i64 b)) w K:=by
 refine Run.of ?_ hk
 simp [cN,c9,binOp,Op.intArith,IntWalk.i64_in _ hr]
end
section
attribute [local irreducible] Run CondV aw aN
end
end
section
open Go Go.RowKit

abbrev Bs:=List UInt8
abbrev bs (s:ByteArray):Bs:=s.data.toList
abbrev st (l:Bs):ByteArray:=⟨l.toArray⟩
theorem acX (s:ByteArray):st (bs s)=s:=rfl
theorem Kq (l:Bs):bs (st l)=l:=by simp [bs]
theorem oh (l:Bs):(st l).size=l.length:=by simp [ByteArray.size]

def sgn (s:Bs) (i:Nat) (c:Nat):Bool:=match s[i]? with
 | some b=>decide (b.toNat=c)
 | none=>false
def btw (s:Bs) (i:Nat) (a b:Nat):Bool:=match s[i]? with
 | some x=>decide (a<=x.toNat) && decide (x.toNat<=b)
 | none=>false
def sml (s:Bs) (i:Nat):Bool:=btw s i 97 122
def dig (s:Bs) (i:Nat):Bool:=btw s i 48 57
def upp (s:Bs) (i:Nat):Bool:=btw s i 65 90
def cut (s:Bs) (a b:Nat):Bs:=(s.take b).drop a

def EE (s:Bs):Nat->Nat->Nat
 | 0,e=>e
 | n+1,e=>if sml s e=true then EE s n (e+1) else e
def jR (s:Bs) (i:Nat):List ByteArray->Bs->Bs
 | [],b=>b
 | x::l,b=>jR s i l (if decide (i+x.size<=s.length)=true/\cut s i (i+x.size)=bs x/\b.length<x.size then bs x else b)
def rz (s:Bs) (i:Nat):Option (Bs × Nat):=
 let e:=EE s (s.length - i) i
 if i+6<e then none else if i<e then some (cut s i e,e) else
  let b:=jR s i signs []
  if b=[] then none else some (b,i+b.length)
def vC (s:Bs):Nat->Nat->Nat
 | 0,e=>e
 | n+1,e=>if dig s e=true then vC s n (e+1) else e
def J0:Bs->Nat->Nat
 | [],n=>n
 | b::l,n=>J0 l (n * 10+(b.toNat - 48))
def Yd (s:Bs) (i:Nat):Option (T × Nat):=
 let from_:=if sgn s i 45=true then i+1 else i
 let e:=vC s 4 from_
 let d:=cut s from_ e
 let n:=J0 d 0
 if d=[] ∨ (sgn d 0 48=true/\1<d.length) ∨ (i<from_/\n=0) ∨ 999<n then none
 else some (.mk 2 (if i<from_ then -(n:Int) else n) emptyB [],e)
def Es (name:Bs) (kids:List T):T:=.mk 3 0 (st name) kids
def aaw:T:=Es [91,93] []
def Pb (a b:T):T:=Es [46] [a,b]
def ko:List T->T->T
 | [],t=>t
 | a::l,t=>Pb a (ko l t)
def opF (s:Bs) (i:Nat):Option (Bs × Nat):=
 let from_:=if sgn s i 32=true then i+1 else i
 if s.length<=from_ then none else match rz s from_ with
  | none=>none
  | some (name,next)=>
   let word:=decide (name=[105,115]) || decide (name=[109,111,100])
   if cM (st name)=0 ∨ word≠decide (i<from_) ∨ (word=true/\sgn s next 32=false) then none
   else some (name,if word=true then next+1 else next)
mutual
def kT:Nat->Bs->Nat->Nat->Nat->Option (T × Nat)
 | 0,_,_,_,_=>none
 | f+1,s,i,d,0=>wX f s i d
 | f+1,s,i,d,l+1=>match kT f s i d l with
  | none=>none
  | some (t,n)=>PY f s n d l t
def PY:Nat->Bs->Nat->Nat->Nat->T->Option (T × Nat)
 | 0,_,_,_,_,_=>none
 | f+1,s,i,d,l,t=>match opF s i with
  | none=>some (t,i)
  | some (name,after)=>if cM (st name)=((l+1:Nat):Int) then match kT f s after d l with
    | none=>none
    | some (r,e)=>if l=2 then some (Es name [t,r],e) else PY f s e d l (Es name [t,r])
   else some (t,i)
def wX:Nat->Bs->Nat->Nat->Option (T × Nat)
 | 0,_,_,_=>none
 | f+1,s,i,d=>if d=0 ∨ s.length<=i then none else if sgn s i 40=true then match kT f s (i+1) d 3 with
    | none=>none
    | some (t,n)=>if sgn s n 41=true then some (t,n+1) else none
  else if sgn s i 91=true/\sgn s (i+1) 93=false then match jE f s (i+1) (d - 1) 93 124 [] with
    | none=>none
    | some (ts,n)=>if sgn s n 93=true then some (ko ts aaw,n+1) else match kT f s (n+1) (d - 1) 3 with
     | none=>none
     | some (t,e)=>if sgn s e 93=true then some (ko ts t,e+1) else none
  else if upp s i=true then some (.mk 1 ((s.getD i 0).toNat - 65) emptyB [],i+1)
  else if dig s i=true ∨ (sgn s i 45=true/\dig s (i+1)=true) then Yd s i
  else match rz s i with
   | none=>none
   | some (name,n)=>if sgn s n 40=false then some (Es name [],n) else match jE f s (n+1) (d - 1) 41 41 [] with
    | none=>none
    | some (ts,e)=>some (Es name ts,e+1)
def jE:Nat->Bs->Nat->Nat->Nat->Nat->List T->Option (List T × Nat)
 | 0,_,_,_,_,_,_=>none
 | f+1,s,i,d,e,o,acc=>match kT f s i d 3 with
  | none=>none
  | some (t,n)=>if sgn s n e=true ∨ sgn s n o=true then some (acc++[t],n) else if sgn s n 44=true then jE f s (n+1) d e o (acc++[t]) else none
end

def rb (t:T):Bool:=decide (t.kind=3) && (decide (t.kids.length=2) && decide (0<cM t.name))
def yS (t:T):Bool:=decide (t.kind=3) && (decide (t.name=st [46]) && decide (t.kids.length=2))
def W2 (t:T):Bool:=decide (t.kind=3) && (decide (t.name=st [91,93]) && decide (t.kids.length=0))
def DE (t:T):Bool:=decide (t.kind=3) && (decide (t.kids.length=0) && decide (0<cM t.name))
def Mc (s:Bs):Bool:=sml s 0 || (dig s 0 || (upp s 0 || (sgn s 0 91 || sgn s 0 40)))
def jB (n:Bs):Bs:=if n=[105,115] ∨ n=[109,111,100] then 32::(n++[32]) else n
def JR:Nat->Nat->Bs->Option Bs
 | 0,_,_=>none
 | f+1,n,out=>if 9<n then JR f (n / 10) (UInt8.ofNat (48+n % 10)::out) else some (UInt8.ofNat (48+n)::out)
def aaL (n:Int):Option Bs:=if n<0 then (JR 20 (-n).toNat []).map fun l=>45::l else JR 20 n.toNat []
def Ud (t:T):Option Bs:=if t.kind=1 then (if 0<=t.n/\t.n<=25 then some [UInt8.ofNat (65+t.n.toNat)] else none)
 else if t.kind=2 then (if -999<=t.n/\t.n<=999 then aaL t.n else none) else if t.kids.length=0 then some (bs t.name) else none
mutual
def Nd:Nat->T->Option Bs
 | 0,_=>none
 | f+1,t=>if yS t=true then K7 f t [] else if rb t=true then match t.kids with
   | [a,b]=>match Uq f a (if cM t.name=3 then 2 else cM t.name),Mv f b (cM t.name - 1) with
    | some x,some y=>some (x++jB (bs t.name)++y)
    | _,_=>none
   | _=>none
  else if t.kind=3/\0<t.kids.length then match rU f t.kids [] with
   | some x=>some (bs t.name++[40]++x++[41])
   | none=>none
  else Ud t
def K7:Nat->T->List T->Option Bs
 | 0,_,_=>none
 | f+1,t,items=>if yS t=true then match t.kids with
   | [a,b]=>K7 f b (items++[a])
   | _=>none
  else match rU f items [] with
   | none=>none
   | some x=>if W2 t=true then some ([91]++x++[93]) else match Nd f t with
    | none=>none
    | some y=>some ([91]++x++[124]++y++[93])
def rU:Nat->List T->Bs->Option Bs
 | 0,_,_=>none
 | _+1,[],out=>some out
 | f+1,t::l,out=>match Nd f t with
  | none=>none
  | some x=>rU f l (out++x++(if l=[] then [] else [44]))
def uh:Nat->T->Int->Option Bs
 | 0,_,_=>none
 | f+1,t,l=>match Nd f t with
  | none=>none
  | some x=>some (if rb t=true/\l<cM t.name then [40]++x++[41] else x)
def Uq:Nat->T->Int->Option Bs
 | 0,_,_=>none
 | f+1,t,l=>if DE t=true then match Nd f t with
   | none=>none
   | some x=>some ([40]++x++[41])
  else uh f t l
def Mv:Nat->T->Int->Option Bs
 | 0,_,_=>none
 | f+1,t,l=>match uh f t l with
  | none=>none
  | some x=>if x=[] then none else some (if DE t=true ∨ Mc x=false then [40]++x++[41] else x)
end
def Du (f:Nat):List T->Bool->Bs->Option Bs
 | [],_,out=>some out
 | t::l,first,out=>match Nd f t with
  | none=>none
  | some x=>Du f l false (out++(if first=true then [58,45] else [44])++x)
def UF (f:Nat) (c:C):Option Bs:=match Nd f c.head with
 | none=>none
 | some x=>match Du f c.body true x with
  | none=>none
  | some y=>some (y++[46])

def wO (f:Nat):Nat->Bs->Nat->List T->Option (List T × Nat)
 | 0,_,_,_=>none
 | k+1,s,i,acc=>if 6<acc.length then none else match kT f s i 30 3 with
  | none=>none
  | some (t,n)=>if sgn s n 44=true then wO f k s (n+1) (acc++[t]) else some (acc++[t],n)
def VG (f:Nat) (s:Bs) (c:C) (n:Nat):Option C:=
 if n+1=s.length/\sgn s n 46=true/\bN c=true/\wC c<=200/\UF f c=some s then some c else none
def yL (f:Nat) (s:Bs):Option C:=if 1000<s.length then none else match kT f s 0 30 3 with
 | none=>none
 | some (h,n)=>if sgn s n 58=true/\sgn s (n+1) 45=true then match wO f 8 s (n+2) [] with
   | none=>none
   | some (b,n2)=>VG f s ⟨h,b⟩ n2
  else VG f s ⟨h,[]⟩ n
def JN (s:Bs) (c:Nat):Nat->Nat->Nat->List Bs->List Bs
 | 0,i,from_,acc=>acc++[cut s from_ i]
 | n+1,i,from_,acc=>if sgn s i c=true then JN s c n (i+1) (i+1) (acc++[cut s from_ i]) else JN s c n (i+1) from_ acc
def Xz (s:Bs):List Bs:=JN s 10 s.length 0 0 []
def mZ (f:Nat):List Bs->List C->Option (List C)
 | [],acc=>some acc
 | l::ls,acc=>match yL f l with
  | none=>none
  | some c=>mZ f ls (acc++[c])
def UD (f:Nat) (s:Bs):Option (List C):=
 let ls:=Xz s
 if 21<ls.length ∨ ls.getLast?≠some [] then none else mZ f ls.dropLast []
def Xa (s:Bs):Bool:=match UD 60 s with
 | some p=>decide (0<p.length) && (decide (p.length<=8) && p.all fun c=>bN c && decide (wC c<=200))
 | none=>false
end
section
open Go Go.RowKit
section
variable {P:Program} {w w0:World} {X:List Nat} {L:List Item} {S:af} {K:Value->World->Prop}
theorem Gc {T:TypeId} {cx cy:Bool} {k:IntKind} {a b:Int} (h:a<b) (hk:K (.bool true) w):Run P (cN .lss T cx cy (.int k a) (.int k b)) w K:=by
 refine bF ?_
 rw [aM h]
 exact hk
theorem eT {T:TypeId} {cx cy:Bool} {k:IntKind} {a b:Int} (h:¬ (a<b)) (hk:K (.bool false) w):Run P (cN .lss T cx cy (.int k a) (.int k b)) w K:=by
 refine bF ?_
 rw [aW h]
 exact hk
theorem Fu {T:TypeId} {cx cy:Bool} {k:IntKind} {a b:Int} (h:a<=b) (hk:K (.bool true) w):Run P (cN .leq T cx cy (.int k a) (.int k b)) w K:=by
 refine fU ?_
 rw [aM h]
 exact hk
theorem Wu {T:TypeId} {cx cy:Bool} {k:IntKind} {a b:Int} (h:¬ (a<=b)) (hk:K (.bool false) w):Run P (cN .leq T cx cy (.int k a) (.int k b)) w K:=by
 refine fU ?_
 rw [aW h]
 exact hk
theorem Sa {T:TypeId} {cx cy:Bool} {k:IntKind} {a b:Int} (h:b<a) (hk:K (.bool true) w):Run P (cN .gtr T cx cy (.int k a) (.int k b)) w K:=by
 refine dC ?_
 rw [aM h]
 exact hk
theorem oZ {T:TypeId} {cx cy:Bool} {k:IntKind} {a b:Int} (h:¬ (b<a)) (hk:K (.bool false) w):Run P (cN .gtr T cx cy (.int k a) (.int k b)) w K:=by
 refine dC ?_
 rw [aW h]
 exact hk
theorem o9 {T:TypeId} {cx cy:Bool} {k:IntKind} {a b:Int} (h:b<=a) (hk:K (.bool true) w):Run P (cN .geq T cx cy (.int k a) (.int k b)) w K:=by
 refine mY ?_
 rw [aM h]
 exact hk
theorem tO {T:TypeId} {cx cy:Bool} {k:IntKind} {a b:Int} (h:¬ (b<=a)) (hk:K (.bool false) w):Run P (cN .geq T cx cy (.int k a) (.int k b)) w K:=by
 refine mY ?_
 rw [aW h]
 exact hk
theorem gk {T:TypeId} {cx cy:Bool} {k:IntKind} {a b:Int} (h:a=b) (hk:K (.bool true) w):Run P (cN .eql T cx cy (.int k a) (.int k b)) w K:=by
 refine bo ?_
 rw [aM h]
 exact hk
theorem ew {T:TypeId} {cx cy:Bool} {k:IntKind} {a b:Int} (h:¬ (a=b)) (hk:K (.bool false) w):Run P (cN .eql T cx cy (.int k a) (.int k b)) w K:=by
 refine bo ?_
 rw [aW h]
 exact hk
theorem aaz {T:TypeId} {cx cy:Bool} {a b:Nat} (hb:0<b) (ha:a<=9223372036854775807) (hk:K (.int .i64 ((a / b:Nat):Int)) w):Run P (cN .quo T cx cy (.int .i64 (a:Int)) (.int .i64 (b:Int))) w K:=by
 refine Run.of ?_ hk
 have h0:¬ ((b:Int)=0):=by omega
 have h1:IntKind.i64.wrap ((a:Int).tdiv b)=((a / b:Nat):Int):=by
  rw [IntWalk.i64_quo _ _ (by omega)]; rfl
 simp only [cN,c9,binOp,Op.intDiv,Sem.run_bind,Result.andThen_ok,ah h0,Sem.run_pure]
 exact congrArg (fun v=>Result.ok (Next.value (.int .i64 v)) w) h1
theorem R7 {T:TypeId} {cx cy:Bool} {a b:Nat} (hb:0<b) (hk:K (.int .i64 ((a % b:Nat):Int)) w):Run P (cN .rem T cx cy (.int .i64 (a:Int)) (.int .i64 (b:Int))) w K:=by
 refine Run.of ?_ hk
 have h1:(a:Int).tmod b=((a % b:Nat):Int):=by
  rw [IntWalk.rem_in _ _ (by omega)]; rfl
 have h0:¬ ((b:Int)=0):=by omega
 simp only [cN,c9,binOp,Op.intDiv,Sem.run_bind,Result.andThen_ok,ah h0,Sem.run_pure]
 exact congrArg (fun v=>Result.ok (Next.value (.int .i64 v)) w) h1
theorem aa0 {T:TypeId} {cx cy:Bool} {a b:Nat} (ha:a<4611686018427387904) (hb:b<4611686018427387904) (hk:K (.int .i64 ((a ^^^ b:Nat):Int)) w):Run P (cN .xor T cx cy (.int .i64 (a:Int)) (.int .i64 (b:Int))) w K:=by
 refine Run.of ?_ hk
 have hx:a ^^^ b<2 ^ 62:=Nat.xor_lt_two_pow (by simpa using ha) (by simpa using hb)
 have e1:(BitVec.ofInt 64 (a:Int)).toNat=a:=by rw [BitVec.toNat_ofInt]; omega
 have e2:(BitVec.ofInt 64 (b:Int)).toNat=b:=by rw [BitVec.toNat_ofInt]; omega
 have h1:IntKind.i64.wrap ((BitVec.ofInt 64 (a:Int) ^^^ BitVec.ofInt 64 (b:Int)).toNat:Int)=((a ^^^ b:Nat):Int):=by
  rw [BitVec.toNat_xor,e1,e2]
  exact IntWalk.i64_in _ (by omega)
 simp only [cN,c9,binOp,Op.intBits,Sem.run_bind,Result.andThen_ok,Sem.run_pure]
 exact congrArg (fun v=>Result.ok (Next.value (.int .i64 v)) w) h1
theorem abm {T:TypeId} {cx cy:Bool} {k:IntKind} {a b c:Int} (hr:k.wrap (a+b)=c) (hk:K (.int k c) w):Run P (cN .add T cx cy (.int k a) (.int k b)) w K:=
 Run.of (by simp [cN,c9,binOp,Op.intArith,hr]) hk
theorem Tz {T:TypeId} {cx cy:Bool} {k:IntKind} {a b c:Int} (hr:k.wrap (a - b)=c) (hk:K (.int k c) w):Run P (cN .sub T cx cy (.int k a) (.int k b)) w K:=
 Run.of (by simp [cN,c9,binOp,Op.intArith,hr]) hk
theorem qz {src dst ty:TypeId} {k k':IntKind} {n m:Int} {d:TypeDesc} (hs:P.underlying src=some d) (hd:P.underlying dst=some (.int k')) (hr:k'.wrap n=m) (hk:K (.int k' m) w) :
  Run P (sOp (.convert src dst (.const (.int k n))) ty) w K:=by
 refine Run.of ?_ hk
 simp [sOp,execOp,ev0,evE,convert,run_underlying hs,run_underlying hd,Conv.intToInt,hr]
theorem ZZ {T ty:TypeId} {n:Int} (hr:-9223372036854775808<=-n/\-n<=9223372036854775807) (hk:K (.int .i64 (-n)) w):Run P (sOp (.unOp .neg T (.const (.int .i64 n))) ty) w K:=
 Run.of (by simp [sOp,execOp,ev0,evE,Op.unary,Op.intArith,Int.zero_sub,IntWalk.i64_in _ hr]) hk
theorem aaG (a b:Bs):st a++st b=st (a++b):=by
 apply ByteArray.ext
 simp [st]
theorem du {T:TypeId} {cx cy:Bool} {a b:Bs} (hl:a.length+b.length<=9223372036854775807) (hk:K (.string (st (a++b))) w):Run P (cN .add T cx cy (.string (st a)) (.string (st b))) w K:=by
 refine Run.of ?_ hk
 have h1:¬ (9223372036854775807<(((st a).size+(st b).size:Nat):Int)):=by rw [oh,oh]; omega
 have h2:IntKind.i64.max=9223372036854775807:=by decide
 simp only [cN,binOp,Op.stringOp,Sem.run_bind,kY,Result.andThen_ok,gt_iff_lt,h2,ah h1,Sem.run_pure,aaG]
theorem aaD (s:Bs) (a b:Nat):(st s).extract a b=st (cut s a b):=by
 apply ByteArray.ext
 apply FW.1
 simp [cut,ByteArray.data_extract,List.drop_take]
theorem G2 {T ty:TypeId} {s:Bs} {a b:Nat} (hu:P.underlying T=some .string) (hab:a<=b) (hb:b<=s.length) (hk:K (.string (st (cut s a b))) w) :
  Run P (sOp (.slice T (.const (.string (st s))) (some (.const (.int .i64 a))) (some (.const (.int .i64 b))) none) ty) w K:=by
 refine Run.of ?_ hk
 have hb':b<=(st s).size:=by rw [oh]; exact hb
 simp [sOp,execOp,ev0,evE,Instr.sliceAt,Instr.slice,Instr.sliceBounds,run_underlying hu,u3 hab,u3 hb',aaD]
theorem dZ {T ty:TypeId} {s:Bs} {i:Nat} (hu:P.underlying T=some .string) (hi:i<s.length) (hk:K (.int .u8 s[i].toNat) w) :
  Run P (sOp (.index T (.const (.string (st s))) (.const (.int .i64 i))) ty) w K:=by
 have hi':i<(st s).size:=by rw [oh]; exact hi
 refine mp hu hi' ?_
 have:(st s)[i]=s[i]:=by simp [st,ByteArray.getElem_eq_getElem_data]
 rw [this]
 exact hk
theorem fR {T ty:TypeId} {cs:List Bool} {s:Bs} (hu:P.underlying T=some .string) (hk:K (.int .i64 s.length) w):Run P (bD .len #[T] ty cs [.string (st s)]) w K:=by
 refine lj hu ?_
 rw [oh]
 exact hk
theorem Hf {T:TypeId} {cx cy:Bool} {a b:Bs} (hk:K (.bool (decide (a=b))) w):Run P (cN .eql T cx cy (.string (st a)) (.string (st b))) w K:=by
 refine bO ?_
 have:decide (st a=st b)=decide (a=b):=by
  rw [fK]
  exact ⟨fun h=>by rw [<- Kq a,h,Kq],fun h=>by rw [h]⟩
 rw [this]
 exact hk
theorem T8 {T:TypeId} {cx cy:Bool} {a b:Bs} (hk:K (.bool (!decide (a=b))) w):Run P (cN .neq T cx cy (.string (st a)) (.string (st b))) w K:=by
 refine uD ?_
 have:decide (st a=st b)=decide (a=b):=by
  rw [fK]
  exact ⟨fun h=>by rw [<- Kq a,h,Kq],fun h=>by rw [h]⟩
 rw [this]
 exact hk
theorem GA (h:Inv w0 X L S w) {T T' D ty e:TypeId} {by_:Nat} {z:Value} {n:Nat} (hT:nq P T=some (e,1,by_,z)) (he:P.underlying T'=some (.slice e)) (hb:P.underlying e=some (.int .u8)) (hD:P.underlying D=some .string)
  {K:Value->Value->World->Prop} (hk:∀ w',Inv w0 X L S w'->K (.slice (some ⟨w.heap.size,0,none⟩) 1 1) (.string (st [UInt8.ofNat n])) w') :
  Run P (bE T 1 [(0,.int .u8 (n:Int))]) w fun u w'=>Run P (sOp (.convert T' D (.const u)) ty) w' (K u):=by
 refine u4 h hT rfl (by omega) (by omega) fun w' hI=>?_
 have hi:(L++[Item.blk w.heap.size (.cells (Value.int .u8 (n:Int)).cells e)])[L.length]?=some (.blk w.heap.size (.cells (Value.int .u8 (n:Int)).cells e)):=by
  rw [ir (aR _),eD]; rfl
 have hc:w'.cell? ⟨w.heap.size,0,none⟩=some (.int .u8 (n:Int)):=by rw [hI.cellL hi]; rfl
 have hl:=run_loadCells_list (P:=P) (w:=w') ⟨w.heap.size,0,none⟩ [.int .u8 (n:Int)] (fun j v hj=>by
  match j with
  | 0=>simp only [LA,bg] at hj; subst hj; rw [fx]; exact hc
  | j+1=>simp at hj)
 simp only [bu,bQ] at hl
 refine Run.of (w':=w') ?_ (hk _ (hI.sub (dr _ _)))
 simp [sOp,execOp,ev0,evE,convert,run_underlying he,run_underlying hb,run_underlying hD,Conv.bytesToString,hl,st]
 rfl
end
end
end Go.Proofs.YtgllldjiaglkcaaGreatDoor

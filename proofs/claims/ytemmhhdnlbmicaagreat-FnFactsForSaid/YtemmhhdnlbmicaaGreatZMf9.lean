/- Matching with a map: impl.instance. -/
import Derived.Test.YtemmhhdnlbmicaaGreatZMf7
import Derived.Test.YtemmhhdnlbmicaaGreatZMf8
import Derived.Test.YtemmhhdnlbmicaaGreatZMf1
import Derived.Lib.Overlaps
import Derived.Test.YtemmhhdnlbmicaaGreatZMf0
import Derived.Test.YtemmhhdnlbmicaaGreatZMf3
namespace Go.Proofs.YtemmhhdnlbmicaaGreat
open Go Go.RowKit

/- the map of impl.instance -/
def KnownM (S:av) (es:Array MapEntry) (st:bg):Prop:=
 (∀ e∈es.toList,∃ (n:Nat) (t:T) (cs:List Value),e.key=.int .i64 n/\e.val=.agg cs.toArray/\RdT S cs t/\st[n]?=some (some t))/\(∀ (n:Nat) (t:T),st[n]?=some (some t)->∃ e∈es.toList,e.key=.int .i64 n)
theorem KnownM.find {S:av} {es:Array MapEntry} {st:bg} (h:KnownM S es st) (n:Nat) :
  (∃ j v t cs,Instr.findNow (.int .i64) (.int .i64 n) es.toList 0=some (some (j,v))/\v=.agg cs.toArray/\RdT S cs t/\st[n]?=some (some t)) ∨
  ((∀ t,st[n]?≠some (some t))/\Instr.findNow (.int .i64) (.int .i64 n) es.toList 0=some none):=by
 rcases qQ (n:=n) es.toList 0 (fun e he=>by obtain ⟨m,_,_,hk,_⟩:=h.1 e he; exact ⟨m,hk⟩) with ⟨j,e,he,hk,hf⟩|⟨hk,hf⟩
 ·obtain ⟨m,t,cs,hk2,hv,hR,hs⟩:=h.1 e he
  rw [hk] at hk2
  simp only [Value.int.injEq,true_and] at hk2
  have:n=m:=by omega
  subst this
  exact .inl ⟨j,e.val,t,cs,hf,hv,hR,hs⟩
 ·refine .inr ⟨fun t ht=>?_,hf⟩
  obtain ⟨e,he,hk2⟩:=h.2 n t ht
  exact hk e he hk2
theorem KnownM.push {S:av} {es:Array MapEntry} {st:bg} (h:KnownM S es st) {n:Nat} (hn:n<st.length) (hno:∀ t,st[n]?≠some (some t)) {cs:List Value} {u:T} (hu:RdT S cs u) (ck:Nat) :
  KnownM S (es.push { key:=.int .i64 n,val:=.agg cs.toArray,born:=ck }) (st.set n (some u)):=by
 refine ⟨fun e he=>?_,fun m t ht=>?_⟩
 ·rw [Array.toList_push] at he
  rcases List.mem_append.1 he with he|he
  ·obtain ⟨m,t,cs',hk,hv,hR,hs⟩:=h.1 e he
   refine ⟨m,t,cs',hk,hv,hR,?_⟩
   have:n≠m:=fun e=>hno t (by rw [e]; exact hs)
   rw [List.getElem?_set_ne this]
   exact hs
  ·simp at he
   subst he
   exact ⟨n,u,cs,rfl,rfl,hu,by rw [List.getElem?_set_self hn]⟩
 ·rw [Array.toList_push]
  by_cases e:n=m
  ·exact ⟨_,List.mem_append_right _ (List.mem_singleton.2 rfl),by rw [e]⟩
  ·rw [List.getElem?_set_ne e] at ht
   obtain ⟨x,hx,hk⟩:=h.2 m t ht
   exact ⟨x,List.mem_append_left _ hx,hk⟩
theorem ws (t u:T):iz t u=iz u t:=by
 rw [iz,iz,Bool.eq_iff_iff]
 simp only [Bool.and_eq_true,decide_eq_true_eq]
 constructor
 ·rintro ⟨a,b,c,d⟩; exact ⟨a.symm,b.symm,c.symm,d.symm⟩
 ·rintro ⟨a,b,c,d⟩; exact ⟨a.symm,b.symm,c.symm,d.symm⟩
section
attribute [local irreducible] Run CondV ag a4
theorem tv:∀ (t u:T) (S:av) (cs ds:List Value) (mb ck:Nat) (es:Array MapEntry) (st:bg),RdT S cs t->RdT S ds u->okV t->okK u->nF st->KnownM S es st->
  Tri Tryz.prog yj [.agg ds.toArray,.agg cs.toArray,.map (some mb)] [.blk mb (.map es ck)] S fun r I' S'=>S'=S/\r=.bool (bm t u st).1/\∃ es' ck',I'=[.blk mb (.map es' ck')]/\KnownM S es' (bm t u st).2:=by
 refine T.ind fun k' n' s' ks' ih u S cs ds mb ck es st h' h hv hu hst hkc=>?_
 intro w hI
 have hds:=h
 obtain ⟨kv',rfl,_,_,_,hks'⟩:=RdT.iff.1 h'
 obtain ⟨kv,rfl,_,_,_,hks⟩:=RdT.iff.1 h
 obtain ⟨k,n,s,ks⟩:=u
 simp only [T.name,T.kids,T.kind,T.n] at hks hks' ⊢
 have hlen:=hks'.le
 simp only [maxLen] at hlen
 rw [okV] at hv
 obtain ⟨hv1,hv2⟩:=hv
 have huk:=hu
 rw [okK] at hu
 obtain ⟨X,hX⟩:∃ X,X=bF [Item.blk mb (.map es ck)]:=⟨_,rfl⟩
 rw [<- hX] at hI ⊢
 refine qp ?_
 unfold mR;dsimp only
 refine ca hI fun b1 w' hI=>?_
 refine ca hI fun b2 w' hI=>?_
 have hI:Inv w X [.blk b1 (.cells #[.int .i64 k,.int .i64 n,.string s,kv] ad),.blk b2 (.cells #[.int .i64 k',.int .i64 n',.string s',kv'] ad),.blk mb (.map es ck)] S w':=hI.perm (by
  refine (List.perm_append_comm (l₁:=[_,_]) (l₂:=[_])).trans ?_
  exact List.Perm.refl _)
 refine az hI 1 rfl bt bj rfl ?_
 refine cw ?_
 refine bp (fun hk1=>?_) (fun hk1=>?_)
 ·obtain ⟨hn0,hn25⟩:=hv1 hk1
  obtain ⟨j,rfl⟩:∃ j:Nat,n'=j:=⟨n'.toNat,by omega⟩
  have hj:j<26:=by omega
  have hjs:j<st.length:=by rw [hst.1]; exact hj
  refine az hI 1 rfl bv bj rfl ?_
  rcases hkc.find j with ⟨q,v,t0,cs0,hf,rfl,hR,hst2⟩|⟨hno,hf⟩
  ·refine AQ (v:=.agg cs0.toArray) (ok:=true) hI 2 iW gJ bu rfl (.inl ⟨q,hf,rfl⟩) ?_
   refine a5 rfl ?_
   refine a5 rfl ?_
   have hlc:=hR.length
   refine bw hI bu fun b7 w' hI=>?_
   refine bd hI 3 rfl ai (by simpa using hlc) rfl (by simpa using hR.one) fun w' hI=>?_
   refine c9 ?_
   refine aX (fun hb=>by cases hb) (fun _=>?_)
   refine a8 hI 3 ai rfl (by simpa using hlc) ?_
   refine a8 hI 0 ai rfl rfl ?_
   refine Run.callPure iX ja hI (jF t0 _ S _ _ hR hds) fun w' hI=>?_
   have hm:bm (.mk k' j s' ks') (.mk k n s ks) st=(eqT t0 (.mk k n s ks),st):=by
    rw [bm,if_pos hk1,Int.toNat_natCast,hst2]
   rw [hm]
   exact ⟨_,_,_,rfl,hI.pick [false,false,true,false],Ext.refl _ _ _,rfl,rfl,_,_,rfl,hkc⟩
  ·refine AQ (ok:=false) hI 2 iW gJ bu rfl (.inr ⟨hf,rfl,rfl⟩) ?_
   refine a5 rfl ?_
   refine a5 rfl ?_
   refine bw hI bu fun b7 w' hI=>?_
   refine bd hI 3 rfl ai rfl rfl (by simp [Value.oneCell']) fun w' hI=>?_
   refine c9 ?_
   refine aX (fun _=>?_) (fun hb=>by cases hb)
   refine az hI 1 rfl bv bj rfl ?_
   refine a8 hI 0 ai rfl rfl ?_
   refine E3 hI 2 iW gJ rfl hf fun w' hI=>?_
   have hm:bm (.mk k' j s' ks') (.mk k n s ks) st=(true,st.set j (some (.mk k n s ks))):=by
    rw [bm,if_pos hk1,Int.toNat_natCast,List.getElem?_eq_getElem hjs]
    cases hq:st[j] with
    | none=>rfl
    | some t=>exact absurd (by rw [List.getElem?_eq_getElem hjs,hq]) (hno t)
   rw [hm]
   exact ⟨_,_,_,rfl,hI.pick [false,false,true,false],Ext.refl _ _ _,rfl,rfl,_,_,rfl,hkc.push hjs hno hds ck⟩
 refine ⟨fun q w'=>q=.bool (!iz (.mk k n s ks) (.mk k' n' s' ks'))/\Inv w X [.blk b1 (.cells #[.int .i64 k,.int .i64 n,.string s,kv] ad),.blk b2 (.cells #[.int .i64 k',.int .i64 n',.string s',kv'] ad),.blk mb (.map es ck)] S w',?_,?_⟩
 ·refine az hI 0 rfl bt bj rfl ?_
  refine az hI 1 rfl bt bj rfl ?_
  refine fA ?_
  by_cases e1:k=k'
  ·rw [decide_eq_true e1]
   repeat (first|refine ac ?_|refine af (by decide) ?_|refine ab ?_|refine al ?_|refine ak ?_)
   refine az hI 0 rfl bv bj rfl ?_
   refine az hI 1 rfl bv bj rfl ?_
   refine fA ?_
   by_cases e2:n=n'
   ·rw [decide_eq_true e2]
    repeat (first|refine ac ?_|refine af (by decide) ?_|refine ab ?_|refine al ?_|refine ak ?_)
    refine az hI 0 rfl bk bi rfl ?_
    refine az hI 1 rfl bk bi rfl ?_
    refine pU ?_
    by_cases e3:s=s'
    ·rw [decide_eq_true e3]
     repeat (first|refine ac ?_|refine af (by decide) ?_|refine ab ?_|refine al ?_|refine ak ?_)
     refine az hI 0 rfl aT aS rfl ?_
     refine a9 hks ay ?_
     refine az hI 1 rfl aT aS rfl ?_
     refine a9 hks' ay ?_
     refine fA ?_
     repeat (first|refine ac ?_|refine af (by decide) ?_|refine ab ?_|refine al ?_|refine ak ?_)
     exact ⟨by rw [d6,decide_eq_true e1,decide_eq_true e2,decide_eq_true e3,ED]; rfl,hI⟩
    ·rw [decide_eq_false e3]
     repeat (first|refine ac ?_|refine af (by decide) ?_|refine ab ?_|refine al ?_|refine ak ?_)
     exact ⟨by rw [d6,decide_eq_true e1,decide_eq_true e2,decide_eq_false e3]; rfl,hI⟩
   ·rw [decide_eq_false e2]
    repeat (first|refine ac ?_|refine af (by decide) ?_|refine ab ?_|refine al ?_|refine ak ?_)
    exact ⟨by rw [d6,decide_eq_true e1,decide_eq_false e2]; rfl,hI⟩
  ·rw [decide_eq_false e1]
   repeat (first|refine ac ?_|refine af (by decide) ?_|refine ab ?_|refine al ?_|refine ak ?_)
   exact ⟨by rw [d6,decide_eq_false e1]; rfl,hI⟩

 intro q _ _ _ _ _ _ _ _ _ _ _ _ _ _ _ _ _ _ _ _ _ _ _ _ _ _ _ w'
 rintro ⟨rfl,hI⟩
 cases hd:iz (.mk k n s ks) (.mk k' n' s' ks')
 ·refine aX (fun _=>?_) (fun hb=>by cases hb)
  have hm:bm (.mk k' n' s' ks') (.mk k n s ks) st=(false,st):=by rw [bm,if_neg hk1,if_neg (by rw [ws,hd]; decide)]
  rw [hm]
  exact ⟨_,_,_,rfl,hI.pick [false,false,true],Ext.refl _ _ _,rfl,rfl,_,_,rfl,hkc⟩
 refine aX (fun hb=>by cases hb) (fun _=>?_)
 have hle:ks.length=ks'.length:=by
  rw [d6] at hd
  simp only [Bool.and_eq_true,decide_eq_true_eq] at hd
  exact hd.2.2.2
 have hm:bm (.mk k' n' s' ks') (.mk k n s ks) st=cS ks' ks st:=by rw [bm,if_neg hk1,if_pos (by rw [ws,hd])]; rfl
 rw [hm]
 have hu2:=hu.2
 refine az hI 1 rfl aT aS rfl ?_
 refine a9 hks' ay ?_
 refine ⟨fun i w'=>∃ (j:Nat) (st':bg) (es':Array MapEntry) (ck':Nat),j<=ks'.length/\i=.int .i64 j/\cS (ks'.drop j) (ks.drop j) st'=cS ks' ks st/\nF st'/\KnownM S es' st'/\Inv w X [.blk b1 (.cells #[.int .i64 k,.int .i64 n,.string s,kv] ad),.blk b2 (.cells #[.int .i64 k',.int .i64 n',.string s',kv'] ad),.blk mb (.map es' ck')] S w',fun i _=>ks'.length - (intOf i).toNat,⟨0,st,es,ck,Nat.zero_le _,rfl,rfl,hst,hkc,hI⟩,?_⟩
 intro t60 _ _ _ _ _ _ _ _ _ _ _ _ _ _ _ _ _ _ w'
 rintro ⟨j,st',es',ck',hj,rfl,hrel,hst',hkc',hI⟩
 refine co ?_
 refine bp (fun hji=>?_) (fun hji=>?_)
 ·have hj2:j<ks'.length:=by omega
  have hj1:j<ks.length:=by omega
  obtain ⟨c1,o1,cap1,a1,E1,fz1,rfl,hS1,hR1⟩:=hks.at_ hj1
  obtain ⟨c2,o2,cap2,a2,E2,fz2,rfl,hS2,hR2⟩:=hks'.at_ hj2
  rw [rE ks' ks st' j hj2 hj1] at hrel
  have hcall:=ih _ (List.getElem_mem hj2) ks[j] S _ _ mb ck' es' st' hR2 hR1 (nP hv2 _ (List.getElem_mem hj2)) (kP hu2 _ (List.getElem_mem hj1)) hst' hkc'
  have hsn:=oz ks'[j] ks[j] st' hst' (kP hu2 _ (List.getElem_mem hj1))
  generalize hr:bm ks'[j] ks[j] st'=r at hrel hcall hsn
  refine ⟨fun D ev ex eD eq ez eE eC eF eA dM ch cr ct w_=>(D 0=true->ct=.pointer (some ⟨b1,3,none⟩))/\(D 1=true->cr=.slice (some ⟨c1,o1,none⟩) ks.length cap1)/\(D 2=true->ch=.int .i64 j)/\(D 3=true->dM=.pointer (some ⟨c1,o1+j * 4,none⟩))/\(D 4=true->eA=.agg (bf a1 (o1+j * 4) 4).toArray)/\(D 5=true->eF=.pointer (some ⟨b2,3,none⟩))/\(D 6=true->eC=.slice (some ⟨c2,o2,none⟩) ks'.length cap2)/\(D 7=true->eE=.int .i64 j)/\(D 8=true->ez=.pointer (some ⟨c2,o2+j * 4,none⟩))/\(D 9=true->eq=.agg (bf a2 (o2+j * 4) 4).toArray)/\(D 10=true->eD=.map (some mb))/\(D 11=true->ex=.bool r.1)/\(D 12=true->ev=.bool (!r.1))/\(D 11=false->Inv w X [.blk b1 (.cells #[.int .i64 k,.int .i64 n,.string s,.slice (some ⟨c1,o1,none⟩) ks.length cap1] ad),.blk b2 (.cells #[.int .i64 k',.int .i64 n',.string s',.slice (some ⟨c2,o2,none⟩) ks'.length cap2] ad),.blk mb (.map es' ck')] S w_)/\(D 11=true->∃ es2 ck2,KnownM S es2 r.2/\Inv w X [.blk b1 (.cells #[.int .i64 k,.int .i64 n,.string s,.slice (some ⟨c1,o1,none⟩) ks.length cap1] ad),.blk b2 (.cells #[.int .i64 k',.int .i64 n',.string s',.slice (some ⟨c2,o2,none⟩) ks'.length cap2] ad),.blk mb (.map es2 ck2)] S w_)/\∃ es3 ck3,Inv w X [.blk b1 (.cells #[.int .i64 k,.int .i64 n,.string s,.slice (some ⟨c1,o1,none⟩) ks.length cap1] ad),.blk b2 (.cells #[.int .i64 k',.int .i64 n',.string s',.slice (some ⟨c2,o2,none⟩) ks'.length cap2] ad),.blk mb (.map es3 ck3)] S w_,⟨ae,ae,ae,ae,ae,ae,ae,ae,ae,ae,ae,ae,ae,⟨fun _=>hI.draw,ae,es',ck',hI.draw⟩⟩,⟨?_,?_,?_,?_,?_,?_,?_,?_,?_,?_,?_,?_,?_,trivial⟩,?_⟩
  ·intro D a6  ev ex eD eq ez eE eC eF eA dM ch cr ct w_
   rintro ⟨aB,aC,aA,aD,ax,aF,aE,aG,aI,aM,ah,aj,ar,⟨hI0,hI1,es3,ck3,hI⟩⟩
   refine bo aT ?_
   exact ⟨fun _=>rfl,aC,aA,aD,ax,aF,aE,aG,aI,aM,ah,aj,ar,⟨hI0,hI1,es3,ck3,hI⟩⟩
  ·intro D a6 cV ev ex eD eq ez eE eC eF eA dM ch cr ct w_
   rintro ⟨aB,aC,aA,aD,ax,aF,aE,aG,aI,aM,ah,aj,ar,⟨hI0,hI1,es3,ck3,hI⟩⟩
   obtain rfl:=aB cV
   refine bA hI 0 aS rfl rfl ?_
   exact ⟨aB,fun _=>rfl,aA,aD,ax,aF,aE,aG,aI,aM,ah,aj,ar,⟨hI0,hI1,es3,ck3,hI⟩⟩
  ·intro D a6  ev ex eD eq ez eE eC eF eA dM ch cr ct w_
   rintro ⟨aB,aC,aA,aD,ax,aF,aE,aG,aI,aM,ah,aj,ar,⟨hI0,hI1,es3,ck3,hI⟩⟩
   exact ⟨aB,aC,fun _=>rfl,aD,ax,aF,aE,aG,aI,aM,ah,aj,ar,⟨hI0,hI1,es3,ck3,hI⟩⟩
  ·intro D a6 d3 jg ev ex eD eq ez eE eC eF eA dM ch cr ct w_
   rintro ⟨aB,aC,aA,aD,ax,aF,aE,aG,aI,aM,ah,aj,ar,⟨hI0,hI1,es3,ck3,hI⟩⟩
   obtain rfl:=aC d3
   obtain rfl:=aA jg
   refine ba ay hj1 ?_
   exact ⟨aB,aC,aA,fun _=>rfl,ax,aF,aE,aG,aI,aM,ah,aj,ar,⟨hI0,hI1,es3,ck3,hI⟩⟩
  ·intro D a6 dg ev ex eD eq ez eE eC eF eA dM ch cr ct w_
   rintro ⟨aB,aC,aA,aD,ax,aF,aE,aG,aI,aM,ah,aj,ar,⟨hI0,hI1,es3,ck3,hI⟩⟩
   obtain rfl:=aD dg
   refine cu ai hR1.length (fun j v hj=>by rw [hI.cellS hS1]; exact be rfl j v hj) ?_
   exact ⟨aB,aC,aA,aD,fun _=>rfl,aF,aE,aG,aI,aM,ah,aj,ar,⟨hI0,hI1,es3,ck3,hI⟩⟩
  ·intro D a6  ev ex eD eq ez eE eC eF eA dM ch cr ct w_
   rintro ⟨aB,aC,aA,aD,ax,aF,aE,aG,aI,aM,ah,aj,ar,⟨hI0,hI1,es3,ck3,hI⟩⟩
   refine bo aT ?_
   exact ⟨aB,aC,aA,aD,ax,fun _=>rfl,aE,aG,aI,aM,ah,aj,ar,⟨hI0,hI1,es3,ck3,hI⟩⟩
  ·intro D a6 ef ev ex eD eq ez eE eC eF eA dM ch cr ct w_
   rintro ⟨aB,aC,aA,aD,ax,aF,aE,aG,aI,aM,ah,aj,ar,⟨hI0,hI1,es3,ck3,hI⟩⟩
   obtain rfl:=aF ef
   refine bA hI 1 aS rfl rfl ?_
   exact ⟨aB,aC,aA,aD,ax,aF,fun _=>rfl,aG,aI,aM,ah,aj,ar,⟨hI0,hI1,es3,ck3,hI⟩⟩
  ·intro D a6  ev ex eD eq ez eE eC eF eA dM ch cr ct w_
   rintro ⟨aB,aC,aA,aD,ax,aF,aE,aG,aI,aM,ah,aj,ar,⟨hI0,hI1,es3,ck3,hI⟩⟩
   exact ⟨aB,aC,aA,aD,ax,aF,aE,fun _=>rfl,aI,aM,ah,aj,ar,⟨hI0,hI1,es3,ck3,hI⟩⟩
  ·intro D a6 cA mh ev ex eD eq ez eE eC eF eA dM ch cr ct w_
   rintro ⟨aB,aC,aA,aD,ax,aF,aE,aG,aI,aM,ah,aj,ar,⟨hI0,hI1,es3,ck3,hI⟩⟩
   obtain rfl:=aE cA
   obtain rfl:=aG mh
   refine ba ay hj2 ?_
   exact ⟨aB,aC,aA,aD,ax,aF,aE,aG,fun _=>rfl,aM,ah,aj,ar,⟨hI0,hI1,es3,ck3,hI⟩⟩
  ·intro D a6 jc ev ex eD eq ez eE eC eF eA dM ch cr ct w_
   rintro ⟨aB,aC,aA,aD,ax,aF,aE,aG,aI,aM,ah,aj,ar,⟨hI0,hI1,es3,ck3,hI⟩⟩
   obtain rfl:=aI jc
   refine cu ai hR2.length (fun j v hj=>by rw [hI.cellS hS2]; exact be rfl j v hj) ?_
   exact ⟨aB,aC,aA,aD,ax,aF,aE,aG,aI,fun _=>rfl,ah,aj,ar,⟨hI0,hI1,es3,ck3,hI⟩⟩
  ·intro D a6  ev ex eD eq ez eE eC eF eA dM ch cr ct w_
   rintro ⟨aB,aC,aA,aD,ax,aF,aE,aG,aI,aM,ah,aj,ar,⟨hI0,hI1,es3,ck3,hI⟩⟩
   exact ⟨aB,aC,aA,aD,ax,aF,aE,aG,aI,aM,fun _=>rfl,aj,ar,⟨hI0,hI1,es3,ck3,hI⟩⟩
  ·intro D a6 dr fB Ef ev ex eD eq ez eE eC eF eA dM ch cr ct w_
   rintro ⟨aB,aC,aA,aD,ax,aF,aE,aG,aI,aM,ah,aj,ar,⟨hI0,hI1,es3,ck3,hI⟩⟩
   obtain rfl:=ax dr
   obtain rfl:=aM fB
   obtain rfl:=ah Ef
   refine Run.call (A:=[_,_]) mz mH (hI0 a6) hcall fun v' I' S w_=>?_
   rintro ⟨rfl,rfl,es2,ck2,rfl,hk2⟩ _ hI
   have hI0:=fun (h:aw D 11 11=false)=>(Bool.noConfusion h:Inv w X [.blk b1 (.cells #[.int .i64 k,.int .i64 n,.string s,.slice (some ⟨c1,o1,none⟩) ks.length cap1] ad),.blk b2 (.cells #[.int .i64 k',.int .i64 n',.string s',.slice (some ⟨c2,o2,none⟩) ks'.length cap2] ad),.blk mb (.map es' ck')] S w_)
   have hI1:=fun (_:aw D 11 11=true)=>(⟨es2,ck2,hk2,hI⟩:∃ es2 ck2,KnownM S es2 r.2/\Inv w X [.blk b1 (.cells #[.int .i64 k,.int .i64 n,.string s,.slice (some ⟨c1,o1,none⟩) ks.length cap1] ad),.blk b2 (.cells #[.int .i64 k',.int .i64 n',.string s',.slice (some ⟨c2,o2,none⟩) ks'.length cap2] ad),.blk mb (.map es2 ck2)] S w_)
   obtain ⟨es3,ck3,hI⟩:∃ es3 ck3,Inv w X [.blk b1 (.cells #[.int .i64 k,.int .i64 n,.string s,.slice (some ⟨c1,o1,none⟩) ks.length cap1] ad),.blk b2 (.cells #[.int .i64 k',.int .i64 n',.string s',.slice (some ⟨c2,o2,none⟩) ks'.length cap2] ad),.blk mb (.map es3 ck3)] S w_:=⟨es2,ck2,hI⟩
   exact ⟨aB,aC,aA,aD,ax,aF,aE,aG,aI,aM,ah,fun _=>rfl,ar,⟨hI0,hI1,es3,ck3,hI⟩⟩
  ·intro D a6 im ev ex eD eq ez eE eC eF eA dM ch cr ct w_
   rintro ⟨aB,aC,aA,aD,ax,aF,aE,aG,aI,aM,ah,aj,ar,⟨hI0,hI1,es3,ck3,hI⟩⟩
   obtain rfl:=aj im
   refine c9 ?_
   exact ⟨aB,aC,aA,aD,ax,aF,aE,aG,aI,aM,ah,aj,fun _=>rfl,⟨hI0,hI1,es3,ck3,hI⟩⟩
  intro D i5 eR eX jG io gc gp f1 fL fJ fP fN fO ev ex eD eq ez eE eC eF eA dM ch cr ct w_
  rintro ⟨aB,aC,aA,aD,ax,aF,aE,aG,aI,aM,ah,aj,ar,⟨hI0,hI1,es3,ck3,hI⟩⟩
  obtain rfl:=ar i5
  obtain rfl:=aj eR
  obtain rfl:=ah eX
  obtain rfl:=aM jG
  obtain rfl:=aI io
  obtain rfl:=aG gc
  obtain rfl:=aE gp
  obtain rfl:=aF f1
  obtain rfl:=ax fL
  obtain rfl:=aD fJ
  obtain rfl:=aA fP
  obtain rfl:=aC fN
  obtain rfl:=aB fO
  clear aB aC aA aD ax aF aE aG aI aM ah aj ar
  obtain ⟨es2,ck2,hk2,hI⟩:=hI1 eR
  clear hI0 hI1
  refine aX (fun hne=>?_) (fun he'=>?_)
  ·simp only [Bool.not_eq_true'] at hne
   rw [hne,if_neg (by decide)] at hrel
   rw [<- hrel]
   exact ⟨_,_,_,rfl,hI.pick [false,false,true],Ext.refl _ _ _,rfl,rfl,_,_,rfl,hk2⟩
  ·simp only [Bool.not_eq_false'] at he'
   rw [he',if_pos rfl] at hrel
   refine bC (by omega) ?_
   exact ⟨⟨j+1,r.2,es2,ck2,hj2,rfl,hrel,hsn,hk2,hI⟩,by simp [intOf]; omega⟩
 ·have:j=ks'.length:=by omega
  subst this
  rw [List.drop_length,<- hle,List.drop_length] at hrel
  rw [<- hrel]
  exact ⟨_,_,_,rfl,hI.pick [false,false,true],Ext.refl _ _ _,rfl,rfl,_,_,rfl,hkc'⟩
end

end Go.Proofs.YtemmhhdnlbmicaaGreat

/- SubsumedClause: both sides. -/
namespace Go.Proofs.YtemmhhdnlbmicaaGreat
open Go Go.RowKit

def st0:bg:=List.replicate 26 none
theorem DL:nF st0:=⟨by simp [st0],fun t ht=>by simp [st0] at ht⟩
theorem KnownM.empty (S:av):KnownM S #[] st0:=⟨by simp,fun n t ht=>by
 rw [st0,List.getElem?_replicate] at ht
 split at ht <;> cases ht⟩
theorem CM:∀ {ts:List T},(∀ t∈ts,okV t)->lp ts
 | [],_=>by simp [lp]
 | t::ts,h=>by rw [lp]; exact ⟨h t (List.mem_cons_self ..),CM fun u hu=>h u (List.mem_cons_of_mem _ hu)⟩
theorem Cr:∀ {ts:List T},(∀ t∈ts,okK t)->pO ts
 | [],_=>by simp [pO]
 | t::ts,h=>by rw [pO]; exact ⟨h t (List.mem_cons_self ..),Cr fun u hu=>h u (List.mem_cons_of_mem _ hu)⟩
theorem CN (z:Array Value) (hz:z=#[.int .i64 0,.int .i64 0,.string ⟨#[]⟩,.slice none 0 0]) (S:av):KnownC S ((Array.range 104).map (z[· % z.size]!)) st0:=by
 subst hz
 refine ⟨by simp,fun i hi=>⟨fun _=>?_,fun t ht=>?_⟩⟩
 ·simp only [st0,List.length_replicate] at hi
  apply List.ext_getElem?
  intro j
  rw [bf,List.getElem?_take]
  match j with
  | 0|1|2|3=>
   rw [if_pos (by omega),List.getElem?_drop,Array.getElem?_toList,Array.getElem?_map,Array.getElem?_range,if_pos (by omega)]
   simp only [Option.map_some,List.size_toArray,List.length_cons,List.length_nil]
   first
    | rw [show (i * 4+0) % 4=0 by omega]; rfl
    | rw [show (i * 4+1) % 4=1 by omega]; rfl
    | rw [show (i * 4+2) % 4=2 by omega]; rfl
    | rw [show (i * 4+3) % 4=3 by omega]; rfl
  | j+4=>
   rw [if_neg (by omega)]
   rfl
 ·have e:st0[i]=none:=by simp only [st0,List.getElem_replicate]
  rw [e] at ht
  cases ht
section
variable {P:Program} {w w0:World} {X:List Nat} {L:List Item} {S:av} {K:Value->World->Prop}
attribute [local irreducible] Run CondV ag a4
theorem pi (h:Inv w0 X L S w) {T ty e:TypeId} {k by_ n:Nat} {z:Value} (hT:l1 P T=some (e,k,by_,z)) (hn:n<=4294967296) (hby:by_<=65536) (hn0:n * k≠0)
  (hk:∀ b w',Inv w0 X (L++[.blk b (.cells ((Array.range (n * k)).map (z.cells[· % z.cells.size]!)) e)]) S w'->K (.slice (some ⟨b,0,none⟩) n n) w') :
  Run P (sOp (.makeSlice T (.const (.int .i64 n)) (.const (.int .i64 n))) ty) w K:=by
 obtain ⟨hu,i,hi,hz,hs,hb,hzs⟩:=g6 hT
 have hw:IntKind.i64.wrap (n:Int)=n:=IntWalk.i64_in _ (by omega)
 have hle:by_ * n<=2 ^ 48:=Nat.le_trans (Nat.mul_le_mul hby hn) (by decide)
 have h1:¬ ((n:Int)<0):=by omega
 have h2:¬ (281474976710656<(i.bytes:Int) * (n:Int)):=by
  rw [hb]
  have:((by_ * n:Nat):Int)<=((2 ^ 48:Nat):Int):=by exact_mod_cast hle
  have e:(((2 ^ 48:Nat)):Int)=281474976710656:=by decide
  rw [e,Int.natCast_mul] at this
  omega
 refine Run.of (v:=.slice (some ⟨w.heap.size,0,none⟩) n n) (w':={ w with heap:=w.heap.push (.cells ((Array.range (n * k)).map (z.cells[· % z.cells.size]!)) e) }) ?_ (hk _ _ (h.alloc _))
 simp [sOp,execOp,ev0,evE,Instr.makeSlice,run_underlying hu,asInt,asIntOf,typeInfo,hi,hw,h1,h2,sizeOf,hs,newRow,newObj,Sem.run,hn0,zeroValue,hz]
end
section
attribute [local irreducible] Run CondV ag a4
end

end Go.Proofs.YtemmhhdnlbmicaaGreat

/- Flat programs: what follows from facts. The plain form. -/
namespace Go.Proofs.YtemmhhdnlbmicaaGreat
open Go Go.RowKit

def wA (y:T):Prop:=dE y=true/\y.kids=[]/\y.kind≠1
def Fct (x:T):Prop:=x.kind=3/\dE x=true/\∀ y∈x.kids,wA y
def Gl (g:T):Prop:=g.kind=3/\dE g=true/\∀ y∈g.kids,dE y=true/\y.kids=[]
def StF (st:bg):Prop:=st.length=26/\∀ t,some t∈st->wA t
def bnd (st:bg) (n:Int):Prop:=∃ t,st[n.toNat]?=some (some t)
theorem Bv {s:ByteArray} (h:jq s=true):s.size<=6:=by
 rw [jq,Bool.or_eq_true] at h
 rcases h with h|h
 ·rw [kw] at h
  simp only [Bool.and_eq_true,decide_eq_true_eq] at h
  exact h.2.2
 ·simp only [List.any_eq_true,decide_eq_true_eq] at h
  obtain ⟨x,hx,rfl⟩:=h
  have:∀ y∈signs,y.size<=6:=by decide +kernel
  exact this x hx
theorem pL {t:T} (h:dE t=true):t.name.size<=6/\t.kids.length<=4:=by
 unfold dE at h
 have he:emptyB.size=0:=by decide +kernel
 by_cases e1:t.kind=1
 ·rw [if_pos e1] at h
  simp only [Bool.and_eq_true,decide_eq_true_eq] at h
  rw [h.2.2.1]; omega
 ·rw [if_neg e1] at h
  by_cases e2:t.kind=2
  ·rw [if_pos e2] at h
   simp only [Bool.and_eq_true,decide_eq_true_eq] at h
   rw [h.2.2.1]; omega
  ·rw [if_neg e2] at h
   by_cases e3:t.kind=3
   ·rw [if_pos e3] at h
    simp only [Bool.and_eq_true,decide_eq_true_eq] at h
    exact ⟨Bv h.2.1,h.2.2⟩
   ·rw [if_neg e3] at h
    cases h
theorem Eo (t:T):wT t=t.name.size+t.kids.length+wL t.kids:=by cases t; rw [wT]; rfl
theorem CF (t:T):okV t↔(t.kind=1->0<=t.n/\t.n<=25)/\lp t.kids:=by cases t; rw [okV]; rfl
theorem CQ (t:T):okK t↔t.kind≠0/\pO t.kids:=by cases t; rw [okK]; rfl
theorem CE (t:T):okO t↔(((t.kind=1 ∨ t.kind=2)/\t.name=emptyB/\t.kids=[]) ∨ (t.kind=3/\t.n=0))/\tY t.kids:=by cases t; rw [okO]; rfl
theorem CO:∀ {ts:List T},(∀ t∈ts,okO t)->tY ts
 | [],_=>by simp [tY]
 | t::ts,h=>by rw [tY]; exact ⟨h t (List.mem_cons_self ..),CO fun u hu=>h u (List.mem_cons_of_mem _ hu)⟩
theorem xC {y:T} (h:dE y=true) (hk:y.kids=[]):okV y/\okK y/\okO y/\wT y<=6:=by
 have h1:=yx h
 have h2:=AM h
 have h3:=pL h
 refine ⟨(CF y).2 ⟨h1.1,by rw [hk]; simp [lp]⟩,(CQ y).2 ⟨h1.2,by rw [hk]; simp [pO]⟩,(CE y).2 ⟨h2,by rw [hk]; simp [tY]⟩,?_⟩
 rw [Eo,hk]
 simp only [List.length_nil,wL]
 omega
theorem uq:∀ (ts:List T) (b:Nat),(∀ t∈ts,wT t<=b)->wL ts<=ts.length * b
 | [],b,_=>by simp [wL]
 | t::ts,b,h=>by
  rw [wL,List.length_cons,Nat.succ_mul]
  have h1:=h t (List.mem_cons_self ..)
  have h2:=uq ts b fun u hu=>h u (List.mem_cons_of_mem _ hu)
  omega
theorem Ct {x:T} (ho:dE x=true) (hk:∀ y∈x.kids,dE y=true/\y.kids=[]):okV x/\okK x/\okO x/\wT x<=34:=by
 have h1:=yx ho
 have h2:=AM ho
 have h3:=pL ho
 have hl:=fun y hy=>xC (hk y hy).1 (hk y hy).2
 refine ⟨(CF x).2 ⟨h1.1,CM fun y hy=>(hl y hy).1⟩,(CQ x).2 ⟨h1.2,Cr fun y hy=>(hl y hy).2.1⟩,(CE x).2 ⟨h2,CO fun y hy=>(hl y hy).2.2.1⟩,?_⟩
 have h4:=uq x.kids 6 fun y hy=>(hl y hy).2.2.2
 have h5:x.kids.length * 6<=4 * 6:=Nat.mul_le_mul_right 6 h3.2
 rw [Eo]
 omega
theorem Fct.ok {x:T} (h:Fct x):okV x/\okK x/\okO x/\wT x<=34:=Ct h.2.1 fun y hy=>⟨(h.2.2 y hy).1,(h.2.2 y hy).2.1⟩
theorem Gl.ok {x:T} (h:Gl x):okV x/\okK x/\okO x/\wT x<=34:=Ct h.2.1 h.2.2
theorem StF.ok {st:bg} (h:StF st):nF st/\stW st:=⟨⟨h.1,fun t ht=>(xC (h.2 t ht).1 (h.2 t ht).2.1).2.1⟩,fun t ht=>by have:=(xC (h.2 t ht).1 (h.2 t ht).2.1).2.2.2; omega⟩
theorem FU:StF st0:=⟨by simp [st0],fun t ht=>by simp [st0] at ht⟩
theorem Dk {y:T} (h:dE y=true) (hk:y.kind=1):0<=y.n/\y.n<=25:=(yx h).1 hk
/- matching -/
theorem rB:∀ (ts us:List T) (st:bg),st.length=26->(∀ y∈ts,dE y=true/\y.kids=[])->ts.length=us.length->
  (cS ts us st).2.length=26/\(∀ x,some x∈(cS ts us st).2->some x∈st ∨ x∈us)/\(∀ n,bnd st n->bnd (cS ts us st).2 n)/\((cS ts us st).1=true->∀ y∈ts,y.kind=1->bnd (cS ts us st).2 y.n)
 | [],us,st,hst,_,_=>by
  rw [cS]
  exact ⟨hst,fun x hx=>.inl hx,fun n h=>h,fun _ y hy=>by cases hy⟩
 | _::_,[],st,_,_,hl=>by simp at hl
 | t::ts,u::us,st,hst,hk,hl=>by
  obtain ⟨ho,hks⟩:=hk t (List.mem_cons_self ..)
  have hk':=fun y hy=>hk y (List.mem_cons_of_mem _ hy)
  have hl':ts.length=us.length:=by simpa using hl
  rw [cS]
  have key:(bm t u st).2.length=26/\(∀ x,some x∈(bm t u st).2->some x∈st ∨ x=u)/\(∀ n,bnd st n->bnd (bm t u st).2 n)/\((bm t u st).1=true->t.kind=1->bnd (bm t u st).2 t.n):=by
   obtain ⟨k,n,s,ks⟩:=t
   rw [bm]
   by_cases hk1:k=1
   ·have hr:=Dk ho hk1
    simp only [T.n] at hr
    rw [if_pos hk1]
    split
    ·rename_i t0 h0
     refine ⟨hst,fun x hx=>.inl hx,fun n h=>h,fun _ _=>⟨t0,?_⟩⟩
     exact h0
    ·refine ⟨by rw [List.length_set]; exact hst,fun x hx=>?_,fun m ⟨t1,h1⟩=>?_,fun _ _=>⟨u,?_⟩⟩
     ·rcases List.mem_or_eq_of_mem_set hx with hx|hx
      ·exact .inl hx
      ·simp only [Option.some.injEq] at hx
       exact .inr hx
     ·by_cases e:n.toNat=m.toNat
      ·refine ⟨u,?_⟩
       rw [<- e,List.getElem?_set_self (by omega)]
      ·refine ⟨t1,?_⟩
       rw [List.getElem?_set_ne e]
       exact h1
     ·show (st.set n.toNat (some u))[n.toNat]?=_
      rw [List.getElem?_set_self (by omega)]
   ·rw [if_neg hk1]
    split
    ·simp only [T.kids] at hks
     subst hks
     rw [cS]
     exact ⟨hst,fun x hx=>.inl hx,fun n h=>h,fun _ h=>absurd h hk1⟩
    ·exact ⟨hst,fun x hx=>.inl hx,fun n h=>h,fun _ h=>absurd h hk1⟩
  obtain ⟨k1,k2,k3,k4⟩:=key
  split
  ·rename_i hm
   obtain ⟨i1,i2,i3,i4⟩:=rB ts us (bm t u st).2 k1 hk' hl'
   refine ⟨i1,fun x hx=>?_,fun n h=>i3 n (k3 n h),fun h y hy hy1=>?_⟩
   ·rcases i2 x hx with hx|hx
    ·rcases k2 x hx with hx|rfl
     ·exact .inl hx
     ·exact .inr (List.mem_cons_self ..)
    ·exact .inr (List.mem_cons_of_mem _ hx)
   ·rcases List.mem_cons.1 hy with rfl|hy
    ·exact i3 _ (k4 hm hy1)
    ·exact i4 h y hy hy1
  ·refine ⟨k1,fun x hx=>?_,k3,fun h=>by cases h⟩
   rcases k2 x hx with hx|rfl
   ·exact .inl hx
   ·exact .inr (List.mem_cons_self ..)
theorem jJ {g f:T} {st:bg} (hg:Gl g) (hf:Fct f) (hst:StF st):StF (bm g f st).2/\(∀ n,bnd st n->bnd (bm g f st).2 n)/\((bm g f st).1=true->∀ y∈g.kids,y.kind=1->bnd (bm g f st).2 y.n):=by
 obtain ⟨k,n,s,ks⟩:=g
 have hk3:k=3:=hg.1
 rw [bm,if_neg (by omega)]
 split
 ·rename_i hd
  have hl:ks.length=f.kids.length:=by
   rw [iz] at hd
   simp only [Bool.and_eq_true,decide_eq_true_eq] at hd
   exact hd.2.2.2
  obtain ⟨i1,i2,i3,i4⟩:=rB ks f.kids st hst.1 hg.2.2 hl
  refine ⟨⟨i1,fun t ht=>?_⟩,i3,i4⟩
  rcases i2 t ht with h|h
  ·exact hst.2 t h
  ·exact hf.2.2 t h
 ·exact ⟨hst,fun n h=>h,fun h=>by cases h⟩
theorem AG {h:T} {st:bg} (hh:Gl h) (hst:StF st) (hb:∀ y∈h.kids,y.kind=1->bnd st y.n):Fct (wN h st):=by
 refine ⟨hh.1,?_,fun y hy=>?_⟩
 ·have h1:=hh.2.1
  unfold dE at h1 ⊢
  have e3:(wN h st).kind=3:=hh.1
  rw [if_neg (by have:=hh.1; omega),if_neg (by have:=hh.1; omega),if_pos hh.1] at h1
  rw [if_neg (by omega),if_neg (by omega),if_pos e3]
  simp only [Bool.and_eq_true,decide_eq_true_eq] at h1 ⊢
  refine ⟨rfl,h1.2.1,?_⟩
  show (h.kids.map (gL st)).length<=4
  rw [List.length_map]
  exact h1.2.2
 ·have hy:y∈h.kids.map (gL st):=hy
  obtain ⟨x,hx,rfl⟩:=List.mem_map.1 hy
  rw [gL]
  split
  ·rename_i hk
   obtain ⟨t,ht⟩:=hb x hx hk
   have e:zv st x.n=t:=by rw [zv,ht]
   rw [e]
   exact hst.2 t (List.mem_of_getElem? ht)
  ·rename_i hk
   exact ⟨(hh.2.2 x hx).1,(hh.2.2 x hx).2,hk⟩
/- what follows -/
def gO (hd:T) (facts:List T):List T->List T->bg->List T
 | [],out,st=>if 60<out.length then out else ix out (wN hd st)
 | g::gs,out,st=>if 60<out.length then out else facts.foldl (fun out f=>if (bm g f st).1=true then gO hd facts gs out (bm g f st).2 else out) out
def l0 (hd:T) (facts:List T):List T->bg->List T
 | [],st=>[wN hd st]
 | g::gs,st=>facts.flatMap fun f=>if (bm g f st).1=true then l0 hd facts gs (bm g f st).2 else []
def jK (out:List T) (t:T):List T:=if 60<out.length then out else ix out t
theorem wO:∀ (l:List T) (out:List T),60<out.length->l.foldl jK out=out
 | [],out,_=>rfl
 | t::l,out,h=>by
  rw [List.foldl_cons,jK,if_pos h]
  exact wO l out h
theorem pG (hd:T) (facts:List T):∀ (gs out:List T) (st:bg),gO hd facts gs out st=(l0 hd facts gs st).foldl jK out
 | [],out,st=>by rw [gO,l0]; rfl
 | g::gs,out,st=>by
  rw [gO,l0]
  split
  ·rename_i h
   exact (wO _ _ h).symm
  ·rename_i h
   clear h
   have:∀ (fs out:List T),fs.foldl (fun out f=>if (bm g f st).1=true then gO hd facts gs out (bm g f st).2 else out) out =
     (fs.flatMap fun f=>if (bm g f st).1=true then l0 hd facts gs (bm g f st).2 else []).foldl jK out:=by
    intro fs
    induction fs with
    | nil=>intro out; rfl
    | cons f fs ih=>
     intro out
     rw [List.foldl_cons,List.flatMap_cons,List.foldl_append,ih]
     congr 1
     split
     ·exact pG hd facts gs out _
     ·rfl
   exact this facts out
/- the variables of the head are bound in the end -/
def jb (hd:T) (gs:List T) (st:bg):Prop:=∀ y∈hd.kids,y.kind=1->bnd st y.n ∨ ∃ g∈gs,∃ z∈g.kids,z.kind=1/\z.n=y.n
theorem kY {hd g f:T} {gs:List T} {st:bg} (h:jb hd (g::gs) st) (hg:Gl g) (hf:Fct f) (hst:StF st) (hm:(bm g f st).1=true):jb hd gs (bm g f st).2:=by
 obtain ⟨_,h2,h3⟩:=jJ hg hf hst
 intro y hy hk
 rcases h y hy hk with hb|⟨x,hx,z,hz,hz1,hzn⟩
 ·exact .inl (h2 _ hb)
 ·rcases List.mem_cons.1 hx with rfl|hx
  ·left
   rw [<- hzn]
   exact h3 hm z hz hz1
  ·exact .inr ⟨x,hx,z,hz,hz1,hzn⟩
theorem tp {hd:T} {facts:List T} (hh:Gl hd) (hfs:∀ f∈facts,Fct f):∀ (gs:List T) (st:bg),(∀ g∈gs,Gl g)->StF st->jb hd gs st->∀ x∈l0 hd facts gs st,Fct x
 | [],st,_,hst,hc,x,hx=>by
  rw [l0,List.mem_singleton] at hx
  subst hx
  refine AG hh hst fun y hy hk=>?_
  rcases hc y hy hk with h|⟨g,hg,_⟩
  ·exact h
  ·cases hg
 | g::gs,st,hgs,hst,hc,x,hx=>by
  rw [l0,List.mem_flatMap] at hx
  obtain ⟨f,hf,hx⟩:=hx
  split at hx
  ·rename_i hm
   have hg:=hgs g (List.mem_cons_self ..)
   exact tp hh hfs gs _ (fun g' h'=>hgs g' (List.mem_cons_of_mem _ h')) (jJ hg (hfs f hf) hst).1 (kY hc hg (hfs f hf) hst hm) x hx
  ·cases hx
theorem ER (out:List T) (t:T):out.length<=(jK out t).length/\(jK out t).length<=max out.length 61:=by
 unfold jK
 split
 ·omega
 ·have:=Ez out t
  omega
theorem uk:∀ (l out:List T),out.length<=(l.foldl jK out).length/\(l.foldl jK out).length<=max out.length 61
 | [],out=>by simp only [List.foldl_nil]; omega
 | t::l,out=>by
  rw [List.foldl_cons]
  have h1:=ER out t
  have h2:=uk l (jK out t)
  omega
theorem z3 {out:List T} {t y:T} (h:y∈jK out t):y∈out ∨ y=t:=by
 unfold jK at h
 split at h
 ·exact .inl h
 ·exact y8 h
theorem ux:∀ (l out:List T) (y:T),y∈l.foldl jK out->y∈out ∨ y∈l
 | [],out,y,h=>.inl h
 | t::l,out,y,h=>by
  rw [List.foldl_cons] at h
  rcases ux l _ y h with h|h
  ·rcases z3 h with h|rfl
   ·exact .inl h
   ·exact .inr (List.mem_cons_self ..)
  ·exact .inr (List.mem_cons_of_mem _ h)
theorem qU:∀ (l out:List T),Sorted out->(∀ x∈out,okO x)->(∀ x∈l,okO x)->Sorted (l.foldl jK out)
 | [],out,h,_,_=>h
 | t::l,out,h,ho,hl=>by
  rw [List.foldl_cons]
  have ht:=hl t (List.mem_cons_self ..)
  refine qU l _ ?_ (fun x hx=>?_) fun x hx=>hl x (List.mem_cons_of_mem _ hx)
  ·unfold jK
   split
   ·exact h
   ·exact zd h ho ht
  ·rcases z3 hx with hx|rfl
   ·exact ho x hx
   ·exact ht
/- a list that was cut off is longer than the facts -/
end Go.Proofs.YtemmhhdnlbmicaaGreat

/- Rounds of facts: the plain law. -/
namespace Go.Proofs.YtemmhhdnlbmicaaGreat
open Go Go.RowKit
def mF (p:List C) (facts:List T):List T:=p.flatMap fun c=>l0 c.head facts c.body st0
def gI (p:List C) (facts:List T):List T:=(mF p facts).foldl jK facts
/- the facts of a stage -/
structure Fs (f:List T):Prop where
 sorted:Sorted f
 fct:∀ x∈f,Fct x
theorem Fs.nil:Fs []:=⟨trivial,by simp⟩
theorem Fs.okO {f:List T} (h:Fs f):∀ x∈f,okO x:=fun x hx=>(h.fct x hx).ok.2.2.1
structure Pf (p:List C):Prop where
 len:p.length<=20
 parts:∀ c∈p,Gl c.head/\(∀ g∈c.body,Gl g)/\jb c.head c.body st0
 three:∀ c∈p,c.body.length<=3
theorem C9 {p:List C} {f:List T} (hp:Pf p) (hf:Fs f):∀ x∈mF p f,Fct x:=by
 intro x hx
 rw [mF,List.mem_flatMap] at hx
 obtain ⟨c,hc,hx⟩:=hx
 obtain ⟨h1,h2,h3⟩:=hp.parts c hc
 exact tp h1 hf.fct c.body st0 h2 FU h3 x hx
theorem pI {p:List C} {f:List T} (hp:Pf p) (hf:Fs f):Fs (gI p f):=by
 have h1:=C9 hp hf
 refine ⟨qU _ _ hf.sorted hf.okO fun x hx=>(h1 x hx).ok.2.2.1,fun x hx=>?_⟩
 rcases ux _ _ _ hx with hx|hx
 ·exact hf.fct x hx
 ·exact h1 x hx
theorem nu (p:List C) (f:List T) (h:f.length<=61):f.length<=(gI p f).length/\(gI p f).length<=61:=by
 have:=uk (mF p f) f
 rw [gI]
 omega
def stS (p:List C):Nat->List T->Nat->List T × Nat
 | 0,f,n=>(f,n)
 | k+1,f,n=>if (gI p f).length=f.length ∨ 60<f.length then (f,n) else stS p k (gI p f) (n+1)
theorem yN {p:List C} (hp:Pf p):∀ (k:Nat) (f:List T) (n:Nat),Fs f->f.length<=61->Fs (stS p k f n).1/\(stS p k f n).1.length<=61
 | 0,f,n,hf,hl=>⟨hf,hl⟩
 | k+1,f,n,hf,hl=>by
  rw [stS]
  split
  ·exact ⟨hf,hl⟩
  ·exact yN hp k _ _ (pI hp hf) (nu p f hl).2
def jt (r:Int):Nat:=if 60<r then 61 else r.toNat
def fo (p:List C) (r:Int):List T × Bool:=
 if (jn p && !decide (r<0))=true then
  (if (stS p (jt r) [] 0).1.length<=60 then ((stS p (jt r) [] 0).1,true) else ([],false))
 else ([],false)
theorem Pf.take {p:List C} (h:Pf p) (j:Nat):Pf (p.take j):=⟨by have:=h.len; rw [List.length_take]; omega,fun c hc=>h.parts c (List.mem_of_mem_take hc),fun c hc=>h.three c (List.mem_of_mem_take hc)⟩
theorem B9 (p:List C) (f:List T) (j:Nat) (hj:j<p.length):mF (p.take (j+1)) f=mF (p.take j) f++l0 p[j].head f p[j].body st0:=by
 rw [mF,List.take_succ_eq_append_getElem hj,List.flatMap_append,List.flatMap_cons,List.flatMap_nil,List.append_nil]
 rfl
theorem Fs.w {f:List T} (h:Fs f):wL f<=f.length * 34:=uq f 34 fun t ht=>(h.fct t ht).ok.2.2.2
theorem Eu {p:List C} (hp:jn p=true->Pf p) (r:Int):(fo p r).1.length<=60/\wL (fo p r).1<=2040:=by
 unfold fo
 split
 ·rename_i h
  rw [Bool.and_eq_true] at h
  have h1:=(yN (hp h.1) (jt r) [] 0 Fs.nil (by simp)).1
  split
  ·rename_i h2
   have:=h1.w
   refine ⟨h2,?_⟩
   show wL (stS p (jt r) [] 0).1<=2040
   omega
  ·simp [wL]
 ·simp [wL]

end Go.Proofs.YtemmhhdnlbmicaaGreat

/- slices.Insert of one element into a row of the caller's own. -/
namespace Go.Proofs.YtemmhhdnlbmicaaGreat
open Go Go.RowKit
section
variable {P:Program} {w w0:World} {X:List Nat} {L:List Item} {S:av} {K:Value->World->Prop}
attribute [local irreducible] Run CondV ag a4
end
section
attribute [local irreducible] Run CondV ag a4
end

end Go.Proofs.YtemmhhdnlbmicaaGreat

/- slices.Delete on a tree of the function's own. -/
namespace Go.Proofs.YtemmhhdnlbmicaaGreat
open Go Go.RowKit
section
variable {P:Program} {w w0:World} {X:List Nat} {L:List Item} {S:av} {K:Value->World->Prop}
attribute [local irreducible] Run CondV ag a4
/- append within the room of a block -/
theorem FK (h:Inv w0 X L S w) {T ty e E:TypeId} {k by_ n g o cp:Nat} {z:Value} {cs:List Bool} {cur:Array Value} (i:Nat)
  (hT:l1 P T=some (e,k,by_,z)) (hi:L[i]?=some (.blk g (.cells cur E))) (hfit:o+n * k<=cur.size) (hn:0<n) (h1:∀ u∈(Builtin.zeroCells z.cells n).toList,u.oneCell'=true)
  (hk:∀ w',Inv w0 X (L.set i (.blk g (.cells (cc cur o (Builtin.zeroCells z.cells n).toList) E))) S w'->K (.tuple #[]) w') :
  Run P (aq .clear #[T] ty cs [.slice (some ⟨g,o,none⟩) n cp]) w K:=by
 obtain ⟨hu,inf,hi',hz,hs,hb,hzs⟩:=g6 hT
 have hg:=h.its _ (List.mem_of_getElem? hi)
 simp only [Item.holds] at hg
 obtain ⟨n',rfl⟩:∃ n',n=n'+1:=⟨n - 1,by omega⟩
 have hst:=run_storeCells_at P g o E (Builtin.zeroCells z.cells (n'+1)).toList 0 cur w hg (by rw [Array.length_toList,size_zeroCells,hzs]; simpa using hfit) h1
 simp only [Nat.add_zero] at hst
 refine Run.of (v:=.tuple #[]) (w':=w.setRow g (cc cur o (Builtin.zeroCells z.cells (n'+1)).toList)) ?_ (hk _ (h.setBlk hi _ (wX hg)))
 simp [aq,builtin,Builtin.clear_,run_underlying hu,zeroValue,typeInfo,hi',hz,hst,cc]
end
end Go.Proofs.YtemmhhdnlbmicaaGreat

/- slices.Clone and slices.DeleteFunc of terms. -/
namespace Go.Proofs.YtemmhhdnlbmicaaGreat
open Go Go.RowKit

theorem rN {α:Type} (p:α->Bool):∀ (xs:List α) (k:Nat),((dP (σ:=Unit) (fun _ x=>(p x,())) () xs k).1=-1/\xs.filter (fun x=>!p x)=xs) ∨
  ∃ j,∃ h:j<xs.length,(dP (σ:=Unit) (fun _ x=>(p x,())) () xs k).1=((k+j:Nat):Int)/\p xs[j]=true/\(xs.take j).filter (fun x=>!p x)=xs.take j
 | [],k=>.inl ⟨rfl,rfl⟩
 | x::xs,k=>by
  rw [dP]
  cases hp:p x with
  | true=>exact .inr ⟨0,by simp,by simp,by simpa using hp,by simp⟩
  | false=>
   rcases rN p xs (k+1) with ⟨h1,h2⟩|⟨j,hj,h1,h2,h3⟩
   ·refine .inl ⟨by simpa using h1,?_⟩
    rw [List.filter_cons,hp]
    simp [h2]
   ·refine .inr ⟨j+1,by simpa using hj,?_,by simpa using h2,?_⟩
    ·simp only [Bool.false_eq_true,if_false]
     rw [h1]
     congr 1
     omega
    ·rw [List.take_succ_cons,List.filter_cons,hp]
     simp [h3]
section
variable {P:Program} {w w0:World} {X:List Nat} {L:List Item} {S:av} {K:Value->World->Prop}
attribute [local irreducible] Run CondV ag a4
theorem Fv {T e:TypeId} {k n c:Nat} {cx cy:Bool} {a:Option Addr} (hT:c8 P T=some (e,k)) (hk:K (.bool a.isNone) w):Run P (ao .eql T cx cy (.slice a n c) (.slice none 0 0)) w K:=by
 obtain ⟨hu,_⟩:=gQ hT
 refine Run.of (v:=.bool a.isNone) (w':=w) ?_ hk
 have he:(Op.equal T (.slice a n c) (.slice none 0 0)).run P w=.ok a.isNone w:=by
  rw [Op.equal,Op.maxDepth,Op.equalIn.eq_def]
  cases a <;> simp [run_underlying hu]
 have hg:∀ x y,(eqGuard .eql T x y (.slice a n c) (.slice none 0 0)).run P w=.ok () w:=fun x y=>by unfold eqGuard; simp
 simp only [ao,binOp,Sem.run_bind,hg,Result.andThen_ok,he,Sem.run_pure]
theorem Run.callVPure {f:FuncId} {fn:Func} {cap args:List Value} {r:Value} (hf:P.funcs[f]?=some fn) (hn:(fn.name == "runtime.NumGoroutine" || fn.body.isNone)=false) (h:Inv w0 X L S w) (hc:Pure P f (args++cap) S r)
  (hk:∀ w',Inv w0 X L S w'->K r w'):Run P (aH (fv f cap) args) w K:=by
 refine Run.callV (A:=L) (I:=[]) hf hn (by simpa using h) (Post:=fun v I' S'=>v=r/\I'=[]/\S'=S) ?_ fun v' I' S' w'=>?_
 ·intro w1 hI
  exact (hc w1 hI).mono fun e w' ⟨he,hI⟩=>⟨_,_,_,he,hI,Ext.refl _ _ _,rfl,rfl,rfl⟩
 ·rintro ⟨rfl,rfl,rfl⟩ _ hI
  exact hk _ (by simpa using hI)
end
section
attribute [local irreducible] Run CondV ag a4
theorem qk {xs:List T} {S:av} {v:Value} (h:RdSl S 4 (RdT S) v xs) (hl:xs.length<=4000000000):Tri Tryz.prog s9 [v] [] S fun r I' S'=>S'=S/\∃ css,I'=[bq r ad 4 css]/\Rows 4 (RdT S) css xs:=by
 intro w hI
 obtain ⟨a,cap,rfl,hlc,hcm,hx⟩:=id h
 refine nf ?_
 unfold ko
 refine Fv ay ?_
 cases a with
 | none=>
  refine aX (fun _=>?_) (fun hb=>by cases hb)
  rcases hx with rfl|⟨b,o,c,E,fz,hc,_⟩
  ·exact ⟨_,_,_,rfl,hI.rowNil ad 4,Ext.refl _ _ _,rfl,[],rfl,Rows.nil _ _⟩
  ·cases hc
 | some a=>
  refine aX (fun hb=>by cases hb) (fun _=>?_)
  refine dL hI bn fun v0 w' hI=>?_
  refine iv (css:=[]) hI 0 bn (by omega) rfl h (fun _ _=>RdT.length) (fun _ _=>RdT.one) (by simp; omega) (by omega) fun v1 w' css2 hR hI=>?_
  exact ⟨_,_,_,rfl,hI,Ext.refl _ _ _,rfl,css2,rfl,hR⟩
theorem kJ {f:FuncId} {fn:Func} {cap:List Value} {S:av} {p:T->Bool} {xs:List T} {v:Value} {css:List (List Value)} (hf:Tryz.prog.funcs[f]?=some fn) (hn:(fn.name == "runtime.NumGoroutine" || fn.body.isNone)=false)
  (hcall:∀ (S':av),Sle S S'->∀ x∈xs,∀ cs,RdT S' cs x->Pure Tryz.prog f (.agg cs.toArray::cap) S' (.bool (p x))) (hR:Rows 4 (RdT S) css xs) (hl:xs.length<=1000000000) :
  Tri Tryz.prog mc [v,fv f cap] [bq v ad 4 css] S fun r I' S'=>I'=[]/\RdSl S' 4 (RdT S') r (xs.filter fun x=>!p x):=by
 intro w hI
 obtain ⟨X,hX⟩:∃ X,X=bF [bq v ad 4 css]:=⟨_,rfl⟩
 rw [<- hX] at hI ⊢
 have hcl:=hR.hc
 refine js ?_
 unfold gy
 obtain ⟨hfl,ho⟩:=Inv.openRow (A:=[]) hI
 rcases ho with ⟨rfl,h0⟩|⟨g,cp,cur,rfl,hnc,hcm,hcs,ht,hI⟩
 ·have:xs=[]:=List.eq_nil_of_length_eq_zero (by omega)
  subst this
  have hrr:RdSl S 4 (RdT S) (.slice none 0 0) ([]:List T):=⟨none,0,rfl,Nat.le_refl _,Nat.zero_le _,.inl rfl⟩
  have hcb:Cb Tryz.prog f fn cap S (fun _:Unit=>[]) (fun _=>True) (fun _ x=>(p x,())) (fun v x=>∃ cs,v=.agg cs.toArray/\RdT S cs x) ([]:List T):=
   Cb.pure [] hf hn fun x u hx=>by simp at hx
  refine Run.call0 fp fk hI (fY hcb hrr (st:=()) trivial) fun t10 I' S' w'=>?_
  rintro ⟨rfl,rfl,rfl⟩ _ hI
  refine cw ?_
  refine bp (fun _=>?_) (fun hb=>absurd rfl hb)
  exact ⟨_,_,_,rfl,hI.nil,Ext.refl _ _ _,rfl,hrr⟩
 have hgX:g∈X:=by rw [hX]; simp [bF,Item.foot,Value.ownBlock]
 rw [hcl] at hnc
 have hcell:∀ i (h:i<xs.length),RdT S (bf cur (i * 4) 4) xs[i]:=by
  intro i hi
  have h1:=ge 4 css i hR.hk (by omega)
  have hik:i * 4+4<=css.length * 4:=by omega
  rw [<- ht,List.drop_take,List.take_take,Nat.min_eq_left (by omega)] at h1
  rw [bf,h1]
  exact hR.hR i hi (by omega)
 simp only [maxLen] at hcm
 have hfin:∀ (w':World) (c':Array Value) (m:Nat) (ys:List T),Inv w X [.blk g (.cells c' ad)] S w'->m=ys.length->m<=cp->(∀ i (h:i<ys.length),RdT S (bf c' (i * 4) 4) ys[i])->
   ∃ v' I' S',Ending.returned (.slice (some ⟨g,0,none⟩) m cp)=Ending.returned v'/\Inv w X I' S' w'/\Ext w.heap.size X S S'/\I'=[]/\RdSl S' 4 (RdT S') v' ys:=by
  intro w' c' m ys hI hm hmc hy
  subst hm
  obtain ⟨h1,h2⟩:=Inv.publishLast (L:=[]) hI
  refine ⟨_,[],gz S g (.cells c' ad),rfl,h1,⟨h2,fun b o hb=>?_⟩,rfl,some ⟨g,0,none⟩,cp,rfl,hmc,by simp only [maxLen]; omega,.inr ⟨g,0,c',ad,(0,0),rfl,by simp [gz],fun i hi=>?_⟩⟩
  ·simp only [gz] at hb
   split at hb
   ·rename_i e; subst e; exact .inr (.inl hgX)
   ·exact .inl hb
  ·rw [Nat.zero_add]
   exact (hy i hi).mono h2
 have hI:Inv w X ([]++bB [(g,.cells cur ad)]) S w:=hI
 obtain ⟨S1,hle,hins,hI1,hback⟩:=Inv.lendAll _ hI
 have hrr:RdSl S1 4 (RdT S1) (.slice (some ⟨g,0,none⟩) css.length cp) xs:=by
  rw [hcl]
  exact ⟨_,cp,rfl,hnc,by simp only [maxLen]; omega,.inr ⟨g,0,cur,ad,(0,0),rfl,hins _ (List.mem_cons_self ..),fun i hi=>by rw [Nat.zero_add]; exact (hcell i hi).mono hle⟩⟩
 have hcb:Cb Tryz.prog f fn cap S1 (fun _:Unit=>[]) (fun _=>True) (fun _ x=>(p x,())) (fun v x=>∃ cs,v=.agg cs.toArray/\RdT S1 cs x) xs:=
  Cb.pure [] hf hn fun x u hx=>by
   rintro ⟨cs,rfl,hcs⟩ w1 hI
   exact (hcall S1 hle x hx cs hcs w1 hI).mono fun e w' ⟨he,hI⟩=>⟨_,_,_,he,hI,Ext.refl _ _ _,rfl,rfl,rfl⟩
 refine Run.call (A:=[]) fp fk hI1 (fY hcb hrr (st:=()) trivial) fun t10 I' S' w'=>?_
 rintro ⟨rfl,rfl,rfl⟩ _ hI1
 have hI:Inv w X [.blk g (.cells cur ad)] S w':=hback _ _ hI1
 rw [hcl]
 refine cw ?_
 rcases rN p xs 0 with ⟨h1,h2⟩|⟨j0,hj0,h1,h2,h3⟩
 ·rw [h1]
  refine bp (fun _=>?_) (fun hb=>absurd rfl hb)
  rw [h2]
  exact hfin _ _ _ _ hI rfl hnc hcell
 rw [h1,Nat.zero_add]
 refine bp (fun hb=>by omega) (fun _=>?_)
 refine bC (by omega) ?_
 have htk:(xs.take (j0+1)).filter (fun x=>!p x)=xs.take j0:=by
  rw [List.take_succ_eq_append_getElem hj0,List.filter_append,h3,List.filter_cons,h2]
  simp
 refine ⟨fun a b w'=>∃ (j m:Nat) (c':Array Value),j0<j/\j<=xs.length/\a=.int .i64 j/\b=.int .i64 m/\m<j/\m=((xs.take j).filter fun x=>!p x).length/\c'.size=cur.size/\
   (∀ i (h:i<((xs.take j).filter fun x=>!p x).length),RdT S (bf c' (i * 4) 4) ((xs.take j).filter fun x=>!p x)[i])/\(∀ i (h:i<xs.length),j<=i->RdT S (bf c' (i * 4) 4) xs[i])/\Inv w X [.blk g (.cells c' ad)] S w',
  fun a _ _=>xs.length - (intOf a).toNat,⟨j0+1,j0,cur,by omega,by omega,by congr 1,rfl,by omega,by rw [htk,List.length_take]; omega,rfl,?_,fun i hi _=>hcell i hi,hI⟩,?_⟩
 ·rw [htk]
  intro i hi
  rw [List.getElem_take]
  exact hcell i (by simp at hi; omega)
 intro t6 _ _ t5 _ _ _ _ _ _ _ _ _ _ _ _ _ _ _ _ _ _ _ w'
 rintro ⟨j,m,c',hj0j,hj,rfl,rfl,hmj,hm,hcsz,hA,hB,hI⟩
 refine fu ay ?_
 refine co ?_
 refine bp (fun hji=>?_) (fun hji=>?_)
 ·have hj':j<xs.length:=by omega
  have hts:(xs.take (j+1)).filter (fun x=>!p x)=(xs.take j).filter (fun x=>!p x)++(if p xs[j]=true then [] else [xs[j]]):=by
   rw [List.take_succ_eq_append_getElem hj',List.filter_append,List.filter_cons]
   cases p xs[j] <;> simp
  have hRj:=hB j hj' (Nat.le_refl _)
  have hlj:=hRj.length
  refine ⟨fun b w'=>∃ (m':Nat) (c2:Array Value),b=.int .i64 m'/\m'<j+1/\m'=((xs.take (j+1)).filter fun x=>!p x).length/\c2.size=cur.size/\
    (∀ i (h:i<((xs.take (j+1)).filter fun x=>!p x).length),RdT S (bf c2 (i * 4) 4) ((xs.take (j+1)).filter fun x=>!p x)[i])/\(∀ i (h:i<xs.length),j+1<=i->RdT S (bf c2 (i * 4) 4) xs[i])/\Inv w X [.blk g (.cells c2 ad)] S w',?_,?_⟩
  ·refine ba ay hj' ?_
   rw [Nat.zero_add]
   refine ft hI 0 (bf c' (j * 4) 4) ai rfl hlj (fun i v hi=>be rfl i v hi) ?_
   refine bw hI bu fun b7 w' hI=>?_
   refine bd hI 1 rfl ai (by simpa using hlj) rfl (by simpa using hRj.one) fun w' hI=>?_
   refine a8 hI 1 ai rfl (by simpa using hlj) ?_
   refine Run.callVPure hf hn hI (hcall S (Sle.refl S) xs[j] (List.getElem_mem hj') _ hRj) fun w' hI=>?_
   refine c9 ?_
   cases hp:p xs[j]
   ·refine aX (fun _=>?_) (fun hb=>by cases hb)
    have htl:(xs.take (j+1)).filter (fun x=>!p x)=(xs.take j).filter (fun x=>!p x)++[xs[j]]:=by rw [hts,hp]; rfl
    refine a8 hI 1 ai rfl (by simpa using hlj) ?_
    refine ba ay (show m<xs.length by omega) ?_
    rw [Nat.zero_add]
    refine yR hI 0 rfl ai (by simpa [Value.cells] using hlj) (Nat.ble_eq_true_of_le (by omega)) (by simpa [Value.cells] using hRj.one) fun w' hI=>?_
    refine bC (by omega) ?_
    refine ⟨m+1,cc c' (m * 4) (bf c' (j * 4) 4),by congr 1,by omega,by rw [htl]; simp; omega,?_,?_,?_,hI.pick [true,false]⟩
    ·rw [i8 _ _ _ (by omega)]; exact hcsz
    ·rw [htl]
     intro i hi
     by_cases hi2:i<((xs.take j).filter fun x=>!p x).length
     ·rw [List.getElem_append_left hi2,eh (by omega) (by omega)]
      exact hA i hi2
     ·have hie:i=m:=by simp at hi; omega
      subst hie
      rw [List.getElem_append_right (by omega)]
      have hps:=fj (c:=c') (o:=i * 4) (vs:=bf c' (j * 4) 4) (by omega)
      rw [hlj] at hps
      rw [hps]
      simpa using hRj
    ·intro i hi hji2
     rw [eh (by omega) (by omega)]
     exact hB i hi (by omega)
   ·refine aX (fun hb=>by cases hb) (fun _=>?_)
    have htl:(xs.take (j+1)).filter (fun x=>!p x)=(xs.take j).filter (fun x=>!p x):=by rw [hts,hp]; simp
    refine ⟨m,c',rfl,by omega,by rw [htl]; exact hm,hcsz,by rw [htl]; exact hA,fun i hi h2=>hB i hi (by omega),hI.pick [true,false]⟩
  ·intro t5 _ _ _ _ _ _ _ _ _ _ _ _ _ _ _ w'
   rintro ⟨m',c2,rfl,hm1,hm2,hcs2,hA2,hB2,hI⟩
   refine bC (by omega) ?_
   exact ⟨⟨j+1,m',c2,by omega,hj',by congr 1,rfl,hm1,hm2,hcs2,hA2,hB2,hI⟩,by simp [intOf]; omega⟩
 ·have:j=xs.length:=by omega
  subst this
  rw [List.take_length] at hm hA
  refine zO ay (show m<=xs.length by omega) ?_
  rw [if_neg (by omega)]
  have ead:(some (⟨g,0,none⟩:Addr)).map (·.add (m * 4))=some ⟨g,m * 4,none⟩:=by rw [Option.map_some,gT,Nat.zero_add]
  rw [ead]
  have hzl:(Builtin.zeroCells (Value.agg #[.int .i64 0,.int .i64 0,.string ⟨#[]⟩,.slice none 0 0]).cells (xs.length - m)).toList.length=(xs.length - m) * 4:=by
   rw [Array.length_toList,size_zeroCells]; rfl
  refine FK (n:=xs.length - m) (o:=m * 4) hI 0 bn rfl (by omega) (by omega) ?_ fun w' hI=>?_
  ·intro u hu
   simp only [Builtin.zeroCells,Array.toList_map,List.mem_map] at hu
   obtain ⟨q,_,rfl⟩:=hu
   have hq4:q % (Value.agg #[.int .i64 0,.int .i64 0,.string ⟨#[]⟩,.slice none 0 0]).cells.size<4:=Nat.mod_lt _ (by decide)
   generalize q % (Value.agg #[.int .i64 0,.int .i64 0,.string ⟨#[]⟩,.slice none 0 0]).cells.size=r at hq4
   match r,hq4 with
   | 0,_|1,_|2,_|3,_=>rfl
  refine A4 ay (show m<=cp by omega) ?_
  rw [if_neg (by omega)]
  have ead0:(some (⟨g,0,none⟩:Addr)).map (·.add (0 * 4))=some ⟨g,0,none⟩:=by rw [Option.map_some,gT]
  rw [ead0]
  refine hfin _ _ _ _ hI hm (by omega) fun i hi=>?_
  rw [eh (by omega) (by omega)]
  exact hA i hi
end

end Go.Proofs.YtemmhhdnlbmicaaGreat

/- impl.compare: the standard order. -/
namespace Go.Proofs.YtemmhhdnlbmicaaGreat
open Go Go.RowKit
section
variable {P:Program} {w w0:World} {X:List Nat} {L:List Item} {S:av} {K:Value->World->Prop}
attribute [local irreducible] Run CondV ag a4
end
section
attribute [local irreducible] Run CondV ag a4
end

end Go.Proofs.YtemmhhdnlbmicaaGreat

/- slices.BinarySearchFunc in facts that stand in order. -/
namespace Go.Proofs.YtemmhhdnlbmicaaGreat
open Go Go.RowKit
section
variable {P:Program} {w:World} {K:Value->World->Prop}
attribute [local irreducible] Run
end
/- where a fact belongs -/
section
attribute [local irreducible] Run CondV ag a4
end

end Go.Proofs.YtemmhhdnlbmicaaGreat

/- impl.mapVars with a function that only reads: the result is published. -/
namespace Go.Proofs.YtemmhhdnlbmicaaGreat
open Go Go.RowKit
/- a function from numbers to terms that only reads -/
def Fun (f:FuncId) (cap:List Value) (S:av) (φ:Int->T):Prop:=∀ S',Sle S S'->∀ n:Int,0<=n->n<=25->∃ cs,RdT S' cs (φ n)/\Pure Tryz.prog f (.int .i64 n::cap) S' (.agg cs.toArray)
theorem Fun.mono {f:FuncId} {cap:List Value} {S S':av} {φ:Int->T} (h:Fun f cap S φ) (hs:Sle S S'):Fun f cap S' φ:=fun S2 h2=>h S2 (hs.trans h2)
section
attribute [local irreducible] Run CondV ag a4
end

end Go.Proofs.YtemmhhdnlbmicaaGreat

/- maps.Clone of maps from numbers to terms; reading a published map. -/
namespace Go.Proofs.YtemmhhdnlbmicaaGreat
open Go Go.RowKit
section
variable {P:Program} {w w0:World} {X:List Nat} {L:List Item} {S:av} {K:Value->World->Prop}
attribute [local irreducible] Run CondV ag a4
end
section
attribute [local irreducible] Run CondV ag a4
end

end Go.Proofs.YtemmhhdnlbmicaaGreat

/- spec.l16Body. -/
namespace Go.Proofs.YtemmhhdnlbmicaaGreat
open Go Go.RowKit
def IsM (S:av) (v:Value) (r:Bool × bg):Prop:=∃ kb kp kc,v=.tuple #[kvn kb kp,.bool r.1]/\26<=kp/\kp<=maxLen/\S kb=some (.cells kc ad)/\KnownC S kc r.2
def IsKn (S:av) (v:Value) (st:bg):Prop:=∃ kb kp kc,v=kvn kb kp/\26<=kp/\kp<=maxLen/\S kb=some (.cells kc ad)/\KnownC S kc st
theorem IsM.mono {S S':av} {v:Value} {r:Bool × bg} (h:IsM S v r) (hs:Sle S S'):IsM S' v r:=by
 obtain ⟨kb,kp,kc,h1,h2,h3,h4,h5⟩:=h
 exact ⟨kb,kp,kc,h1,h2,h3,hs _ _ h4,h5.mono hs⟩
theorem IsKn.mono {S S':av} {v:Value} {st:bg} (h:IsKn S v st) (hs:Sle S S'):IsKn S' v st:=by
 obtain ⟨kb,kp,kc,h1,h2,h3,h4,h5⟩:=h
 exact ⟨kb,kp,kc,h1,h2,h3,hs _ _ h4,h5.mono hs⟩
theorem IsM.parts {S:av} {v:Value} {r:Bool × bg} (h:IsM S v r):∃ u,v=.tuple #[u,.bool r.1]/\IsKn S u r.2:=by
 obtain ⟨kb,kp,kc,h1,h2⟩:=h
 exact ⟨_,h1,kb,kp,kc,rfl,h2⟩
theorem Gc {hd:T} {facts gs out:List T} {st:bg} (hh:Gl hd) (hfs:∀ f∈facts,Fct f) (hgs:∀ g∈gs,Gl g) (hst:StF st) (hc:jb hd gs st) (ho:∀ x∈out,okO x) (hn:out.length<=1000000) :
  (∀ x∈gO hd facts gs out st,okO x)/\(gO hd facts gs out st).length<=1000000:=by
 rw [pG]
 refine ⟨fun x hx=>?_,?_⟩
 ·rcases ux _ _ x hx with h|h
  ·exact ho x h
  ·exact (tp hh hfs gs st hgs hst hc x h).ok.2.2.1
 ·have:=uk (l0 hd facts gs st) out
  omega
theorem FO {hd f g:T} {facts gs out:List T} {st:bg} (hh:Gl hd) (hfs:∀ f∈facts,Fct f) (hf:Fct f) (hg:Gl g) (hgs:∀ g∈gs,Gl g) (hst:StF st) (hc:jb hd (g::gs) st) (ho:∀ x∈out,okO x) (hn:out.length<=1000000) :
  (∀ x∈(if (bm g f st).1=true then gO hd facts gs out (bm g f st).2 else out),okO x)/\(if (bm g f st).1=true then gO hd facts gs out (bm g f st).2 else out).length<=1000000:=by
 split
 ·rename_i hm
  exact Gc hh hfs hgs (jJ hg hf hst).1 (kY hc hg hf hst hm) ho hn
 ·exact ⟨ho,hn⟩
section
attribute [local irreducible] Run CondV ag a4
theorem vr (c0:C) (facts:List T) (hh:Gl c0.head) (hfs:∀ f∈facts,Fct f) (hbs:∀ g∈c0.body,Gl g):∀ (gs:List T) (i:Nat),i+gs.length=c0.body.length->c0.body.drop i=gs->
  ∀ (S:av) (cs:List Value) (v fv kn:Value) (out:List T) (st:bg),RdC S cs c0->RdSl S 4 (RdT S) v out->RdSl S 4 (RdT S) fv facts->IsKn S kn st->StF st->jb c0.head gs st->(∀ x∈out,okO x)->out.length<=1000000->
  Tri Tryz.prog zA [v,.agg cs.toArray,.int .i64 i,fv,kn] [] S (E5 (gO c0.head facts gs out st)):=by
 intro gs
 induction gs with
 | nil=>
  intro i hi hdr S cs v fv kn out st h hv hf hkn hst hc ho hn w hI
  obtain ⟨kb,kp,kc,rfl,hkp,hkm,hS,hkc⟩:=hkn
  obtain ⟨hd,ks,rfl,h1,h2⟩:=h
  have h1':=h1
  obtain ⟨kv,rfl,g1,g2,g3,g4⟩:=RdT.iff.1 h1
  simp only [List.length_nil,Nat.add_zero] at hi
  refine kr ?_
  unfold j3
  refine ca hI fun b6 w' hI=>?_
  refine a9 hv ay ?_
  refine dS ?_
  rw [gO]
  refine bp (fun hb=>?_) (fun hb=>?_)
  ·rw [if_pos (by omega)]
   exact ⟨_,_,_,rfl,hI.pick [false],Ext.refl _ _ _,rfl,hv⟩
  rw [if_neg (by omega)]
  refine az hI 0 rfl cj aS rfl ?_
  refine a9 h2 ay ?_
  refine cw ?_
  refine bp (fun _=>?_) (fun hb=>absurd (by omega) hb)
  refine bo eJ ?_
  refine ft hI 0 [.int .i64 c0.head.kind,.int .i64 c0.head.n,.string c0.head.name,kv] ai rfl rfl Gi ?_
  have hok:=hh.ok
  refine Run.call0 yF xh hI (vz h1' hok.1 (by omega) hst.ok.1 hst.ok.2 hS hkc) fun v' I' S' w'=>?_
  rintro ⟨rfl,cs1,L,rfl,rfl,hT⟩ _ hI
  obtain ⟨S1,hI,hE,hins⟩:=hI.pubExt
  have hct:=AG hh hst (fun y hy hk=>by
   rcases hc y hy hk with h|⟨g,hg,_⟩
   ·exact h
   ·cases hg)
  refine Run.call0E z1 y6 hI (xO (hv.monoT hE.1) (hT.rd hins) ho hct.ok.2.2.1 hn) fun v' I' S2 w'=>?_
  rintro ⟨rfl,hr⟩ hE2 hI
  exact ⟨_,_,_,rfl,hI.pick [false],hE.trans hE2,rfl,hr⟩
 | cons g gs ih=>
  intro i hi hdr S cs v fv kn out st h hv hf hkn hst hc ho hn w hI
  obtain ⟨kb,kp,kc,rfl,hkp,hkm,hS,hkc⟩:=hkn
  have h0:=h
  obtain ⟨hd,ks,rfl,h1,h2⟩:=h
  obtain ⟨kv,rfl,g1,g2,g3,g4⟩:=RdT.iff.1 h1
  simp only [List.length_cons] at hi
  have hib:i<c0.body.length:=by omega
  have hlen2:=h2.le
  have hlenf:=hf.le
  simp only [maxLen] at hlen2 hlenf
  have hge:c0.body[i]=g/\c0.body.drop (i+1)=gs:=by
   rw [List.drop_eq_getElem_cons hib,List.cons.injEq] at hdr
   exact hdr
  have hg:Gl g:=by rw [<- hge.1]; exact hbs _ (List.getElem_mem hib)
  have hgs:∀ x∈gs,Gl x:=fun x hx=>hbs x (by rw [<- hge.2] at hx; exact List.mem_of_mem_drop hx)
  refine kr ?_
  unfold j3
  refine ca hI fun b6 w' hI=>?_
  refine a9 hv ay ?_
  refine dS ?_
  rw [gO]
  refine bp (fun hb=>?_) (fun hb=>?_)
  ·rw [if_pos (by omega)]
   exact ⟨_,_,_,rfl,hI.pick [false],Ext.refl _ _ _,rfl,hv⟩
  rw [if_neg (by omega)]
  refine az hI 0 rfl cj aS rfl ?_
  refine a9 h2 ay ?_
  refine cw ?_
  refine bp (fun hb=>by omega) (fun _=>?_)
  generalize hF:(fun (out:List T) (f:T)=>if (bm g f st).1=true then gO c0.head facts gs out (bm g f st).2 else out)=F
  have hF2:∀ o f,F o f=if (bm g f st).1=true then gO c0.head facts gs o (bm g f st).2 else o:=fun o f=>by rw [<- hF]
  refine ⟨fun j t w'=>∃ (k:Nat) (o:List T) (S':av),k<=facts.length/\j=.int .i64 k/\(facts.drop k).foldl F o=facts.foldl F out/\(∀ x∈o,okO x)/\o.length<=1000000/\Ext w.heap.size [] S S'/\RdSl S' 4 (RdT S') t o/\
    Inv w [] [.blk b6 (.cells #[.int .i64 c0.head.kind,.int .i64 c0.head.n,.string c0.head.name,kv,ks] bb)] S' w',
   fun j _ _=>facts.length - (intOf j).toNat,⟨0,out,S,Nat.zero_le _,rfl,rfl,ho,hn,Ext.refl _ _ _,hv,hI⟩,?_⟩
  intro t11 _ _ t0 _ _ _ _ _ _ _ _ _ _ _ _ _ _ _ _ _ _ _ _ _ _ _ _ _ _ _ _ w'
  rintro ⟨k,o,S',hk,rfl,hrel,hoo,hno,hE,hv',hI⟩
  have hf':=hf.monoT hE.1
  refine a9 hf' ay ?_
  refine co ?_
  refine bp (fun hki=>?_) (fun hki=>?_)
  ·have hk':k<facts.length:=by omega
   rw [List.drop_eq_getElem_cons hk',List.foldl_cons] at hrel
   have hfk:=hfs _ (List.getElem_mem hk')
   have hso:=FO hh hfs hfk hg hgs hst hc hoo hno
   obtain ⟨b1,o1,cap1,c1,E1,fz1,rfl,hS1,hR1⟩:=(h2.monoT hE.1).at_ hib
   obtain ⟨b2,o2,cap2,c2,E2,fz2,rfl,hS2,hR2⟩:=hf'.at_ hk'
   rw [hge.1] at hR1
   obtain ⟨r,hr⟩:∃ r,r=bm g facts[k] st:=⟨_,rfl⟩
   refine ⟨fun t w'=>∃ S2,Ext w.heap.size [] S S2/\RdSl S2 4 (RdT S2) t (F o facts[k])/\Inv w [] [.blk b6 (.cells #[.int .i64 c0.head.kind,.int .i64 c0.head.n,.string c0.head.name,kv,.slice (some ⟨b1,o1,none⟩) c0.body.length cap1] bb)] S2 w',?_,?_⟩
   ·have hkd:=hkc.1
    refine ⟨fun D fl fV bD bE d5 cO cQ cR cM cP cN gu fF eP fC d4 w_=>(D 0=true->d4=.pointer (some ⟨b6,4,none⟩))/\(D 1=true->fC=.slice (some ⟨b1,o1,none⟩) c0.body.length cap1)/\(D 2=true->eP=.int .i64 i)/\(D 3=true->fF=.pointer (some ⟨b1,o1+i * 4,none⟩))/\(D 4=true->gu=.agg (bf c1 (o1+i * 4) 4).toArray)/\(D 5=true->cN=.slice (some ⟨b2,o2,none⟩) facts.length cap2)/\(D 6=true->cP=.int .i64 k)/\(D 7=true->cM=.pointer (some ⟨b2,o2+k * 4,none⟩))/\(D 8=true->cR=.agg (bf c2 (o2+k * 4) 4).toArray)/\(D 9=true->cQ=kvn kb kp)/\(D 10=true->True)/\(D 11=true->True)/\(D 12=true->True)/\(D 13=true->True)/\(D 14=true->True)/\(D 15=true->True)/\∃ SN,Ext w.heap.size [] S' SN/\(D 10=true->IsM SN cO r)/\(D 11=true->IsM SN d5 r)/\(D 12=true->IsKn SN bE r.2)/\(D 13=true->bD=.bool r.1)/\(D 14=true->IsKn SN fV r.2)/\(D 15=true->fl=.bool r.1)/\Inv w [] [.blk b6 (.cells #[.int .i64 c0.head.kind,.int .i64 c0.head.n,.string c0.head.name,kv,.slice (some ⟨b1,o1,none⟩) c0.body.length cap1] bb)] SN w_,⟨ae,ae,ae,ae,ae,ae,ae,ae,ae,ae,ae,ae,ae,ae,ae,ae,⟨S',Ext.refl _ _ _,ae,ae,ae,ae,ae,ae,hI.draw⟩⟩,⟨?_,?_,?_,?_,?_,?_,?_,?_,?_,?_,?_,?_,?_,?_,?_,?_,trivial⟩,?_⟩
    ·intro D a6  fl fV bD bE d5 cO cQ cR cM cP cN gu fF eP fC d4 w_
     rintro ⟨aB,aC,aA,aD,ax,aF,aE,aG,aI,aM,ah,aj,ar,aJ,aK,aL,⟨SN,hN,e10,e11,e12,e13,e14,e15,hI⟩⟩
     refine bo cj ?_
     exact ⟨fun _=>rfl,aC,aA,aD,ax,aF,aE,aG,aI,aM,ah,aj,ar,aJ,aK,aL,⟨SN,hN,e10,e11,e12,e13,e14,e15,hI⟩⟩
    ·intro D a6 cV fl fV bD bE d5 cO cQ cR cM cP cN gu fF eP fC d4 w_
     rintro ⟨aB,aC,aA,aD,ax,aF,aE,aG,aI,aM,ah,aj,ar,aJ,aK,aL,⟨SN,hN,e10,e11,e12,e13,e14,e15,hI⟩⟩
     obtain rfl:=aB cV
     refine bA hI 0 aS rfl rfl ?_
     exact ⟨aB,fun _=>rfl,aA,aD,ax,aF,aE,aG,aI,aM,ah,aj,ar,aJ,aK,aL,⟨SN,hN,e10,e11,e12,e13,e14,e15,hI⟩⟩
    ·intro D a6  fl fV bD bE d5 cO cQ cR cM cP cN gu fF eP fC d4 w_
     rintro ⟨aB,aC,aA,aD,ax,aF,aE,aG,aI,aM,ah,aj,ar,aJ,aK,aL,⟨SN,hN,e10,e11,e12,e13,e14,e15,hI⟩⟩
     exact ⟨aB,aC,fun _=>rfl,aD,ax,aF,aE,aG,aI,aM,ah,aj,ar,aJ,aK,aL,⟨SN,hN,e10,e11,e12,e13,e14,e15,hI⟩⟩
    ·intro D a6 d3 jg fl fV bD bE d5 cO cQ cR cM cP cN gu fF eP fC d4 w_
     rintro ⟨aB,aC,aA,aD,ax,aF,aE,aG,aI,aM,ah,aj,ar,aJ,aK,aL,⟨SN,hN,e10,e11,e12,e13,e14,e15,hI⟩⟩
     obtain rfl:=aC d3
     obtain rfl:=aA jg
     refine ba ay hib ?_
     exact ⟨aB,aC,aA,fun _=>rfl,ax,aF,aE,aG,aI,aM,ah,aj,ar,aJ,aK,aL,⟨SN,hN,e10,e11,e12,e13,e14,e15,hI⟩⟩
    ·intro D a6 dg fl fV bD bE d5 cO cQ cR cM cP cN gu fF eP fC d4 w_
     rintro ⟨aB,aC,aA,aD,ax,aF,aE,aG,aI,aM,ah,aj,ar,aJ,aK,aL,⟨SN,hN,e10,e11,e12,e13,e14,e15,hI⟩⟩
     obtain rfl:=aD dg
     refine cu ai hR1.length (fun j v hj=>by rw [hI.cellS (hN.1 _ _ hS1)]; exact be rfl j v hj) ?_
     exact ⟨aB,aC,aA,aD,fun _=>rfl,aF,aE,aG,aI,aM,ah,aj,ar,aJ,aK,aL,⟨SN,hN,e10,e11,e12,e13,e14,e15,hI⟩⟩
    ·intro D a6  fl fV bD bE d5 cO cQ cR cM cP cN gu fF eP fC d4 w_
     rintro ⟨aB,aC,aA,aD,ax,aF,aE,aG,aI,aM,ah,aj,ar,aJ,aK,aL,⟨SN,hN,e10,e11,e12,e13,e14,e15,hI⟩⟩
     exact ⟨aB,aC,aA,aD,ax,fun _=>rfl,aE,aG,aI,aM,ah,aj,ar,aJ,aK,aL,⟨SN,hN,e10,e11,e12,e13,e14,e15,hI⟩⟩
    ·intro D a6  fl fV bD bE d5 cO cQ cR cM cP cN gu fF eP fC d4 w_
     rintro ⟨aB,aC,aA,aD,ax,aF,aE,aG,aI,aM,ah,aj,ar,aJ,aK,aL,⟨SN,hN,e10,e11,e12,e13,e14,e15,hI⟩⟩
     exact ⟨aB,aC,aA,aD,ax,aF,fun _=>rfl,aG,aI,aM,ah,aj,ar,aJ,aK,aL,⟨SN,hN,e10,e11,e12,e13,e14,e15,hI⟩⟩
    ·intro D a6 ef jh fl fV bD bE d5 cO cQ cR cM cP cN gu fF eP fC d4 w_
     rintro ⟨aB,aC,aA,aD,ax,aF,aE,aG,aI,aM,ah,aj,ar,aJ,aK,aL,⟨SN,hN,e10,e11,e12,e13,e14,e15,hI⟩⟩
     obtain rfl:=aF ef
     obtain rfl:=aE jh
     refine ba ay hk' ?_
     exact ⟨aB,aC,aA,aD,ax,aF,aE,fun _=>rfl,aI,aM,ah,aj,ar,aJ,aK,aL,⟨SN,hN,e10,e11,e12,e13,e14,e15,hI⟩⟩
    ·intro D a6 dl fl fV bD bE d5 cO cQ cR cM cP cN gu fF eP fC d4 w_
     rintro ⟨aB,aC,aA,aD,ax,aF,aE,aG,aI,aM,ah,aj,ar,aJ,aK,aL,⟨SN,hN,e10,e11,e12,e13,e14,e15,hI⟩⟩
     obtain rfl:=aG dl
     refine cu ai hR2.length (fun j v hj=>by rw [hI.cellS (hN.1 _ _ hS2)]; exact be rfl j v hj) ?_
     exact ⟨aB,aC,aA,aD,ax,aF,aE,aG,fun _=>rfl,aM,ah,aj,ar,aJ,aK,aL,⟨SN,hN,e10,e11,e12,e13,e14,e15,hI⟩⟩
    ·intro D a6  fl fV bD bE d5 cO cQ cR cM cP cN gu fF eP fC d4 w_
     rintro ⟨aB,aC,aA,aD,ax,aF,aE,aG,aI,aM,ah,aj,ar,aJ,aK,aL,⟨SN,hN,e10,e11,e12,e13,e14,e15,hI⟩⟩
     exact ⟨aB,aC,aA,aD,ax,aF,aE,aG,aI,fun _=>rfl,ah,aj,ar,aJ,aK,aL,⟨SN,hN,e10,e11,e12,e13,e14,e15,hI⟩⟩
    ·intro D a6 dr gf Fa fl fV bD bE d5 cO cQ cR cM cP cN gu fF eP fC d4 w_
     rintro ⟨aB,aC,aA,aD,ax,aF,aE,aG,aI,aM,ah,aj,ar,aJ,aK,aL,⟨SN,hN,e10,e11,e12,e13,e14,e15,hI⟩⟩
     obtain rfl:=ax dr
     obtain rfl:=aI gf
     obtain rfl:=aM Fa
     refine Run.call0E uU vS hI (tV (hR1.mono hN.1) (hR2.mono hN.1) hg.ok.1 hfk.ok.2.1 hst.ok.1 hkp hkm (hN.1 _ _ (hE.1 _ _ hS)) ((hkc.mono hE.1).mono hN.1)) fun v' I' SN w_=>?_
     rw [<- hr]
     rintro ⟨rfl,kb',kp',kc',rfl,hk1,hk2,hk3,hk4⟩ hE3 hI
     have e10:=fun (_:aw D 10 10=true)=>(⟨kb',kp',kc',rfl,hk1,hk2,hk3,hk4⟩:IsM SN (.tuple #[kvn kb' kp',.bool r.1]) r)
     have e11:=fun (e:aw D 10 11=true)=>(e11 e).mono hE3.1
     have e12:=fun (e:aw D 10 12=true)=>(e12 e).mono hE3.1
     have e14:=fun (e:aw D 10 14=true)=>(e14 e).mono hE3.1
     have hN:=hN.trans hE3
     exact ⟨aB,aC,aA,aD,ax,aF,aE,aG,aI,aM,fun _=>by first|assumption|trivial,aj,ar,aJ,aK,aL,⟨SN,hN,e10,e11,e12,e13,e14,e15,hI⟩⟩
    ·intro D a6 f2 fl fV bD bE d5 cO cQ cR cM cP cN gu fF eP fC d4 w_
     rintro ⟨aB,aC,aA,aD,ax,aF,aE,aG,aI,aM,ah,aj,ar,aJ,aK,aL,⟨SN,hN,e10,e11,e12,e13,e14,e15,hI⟩⟩
     have HO:=ah f2
     have e11:=fun (_:aw D 11 11=true)=>e10 f2
     exact ⟨aB,aC,aA,aD,ax,aF,aE,aG,aI,aM,ah,fun _=>by first|assumption|trivial,ar,aJ,aK,aL,⟨SN,hN,e10,e11,e12,e13,e14,e15,hI⟩⟩
    ·intro D a6 im fl fV bD bE d5 cO cQ cR cM cP cN gu fF eP fC d4 w_
     rintro ⟨aB,aC,aA,aD,ax,aF,aE,aG,aI,aM,ah,aj,ar,aJ,aK,aL,⟨SN,hN,e10,e11,e12,e13,e14,e15,hI⟩⟩
     have Hi:=aj im
     obtain ⟨u,rfl,hu⟩:=(e11 im).parts
     refine a5 rfl ?_
     have e12:=fun (_:aw D 12 12=true)=>hu
     exact ⟨aB,aC,aA,aD,ax,aF,aE,aG,aI,aM,ah,aj,fun _=>by first|assumption|trivial,aJ,aK,aL,⟨SN,hN,e10,e11,e12,e13,e14,e15,hI⟩⟩
    ·intro D a6 im fl fV bD bE d5 cO cQ cR cM cP cN gu fF eP fC d4 w_
     rintro ⟨aB,aC,aA,aD,ax,aF,aE,aG,aI,aM,ah,aj,ar,aJ,aK,aL,⟨SN,hN,e10,e11,e12,e13,e14,e15,hI⟩⟩
     have Hi:=aj im
     obtain ⟨u,rfl,hu⟩:=(e11 im).parts
     refine a5 rfl ?_
     have e13:=fun (_:aw D 13 13=true)=>(rfl:Value.bool r.1=.bool r.1)
     exact ⟨aB,aC,aA,aD,ax,aF,aE,aG,aI,aM,ah,aj,ar,fun _=>by first|assumption|trivial,aK,aL,⟨SN,hN,e10,e11,e12,e13,e14,e15,hI⟩⟩
    ·intro D a6 kf ii ul ve u5 vw yh Ar z0 Dv EZ Ec A2 DO EF fl fV bD bE d5 cO cQ cR cM cP cN gu fF eP fC d4 w_
     rintro ⟨aB,aC,aA,aD,ax,aF,aE,aG,aI,aM,ah,aj,ar,aJ,aK,aL,⟨SN,hN,e10,e11,e12,e13,e14,e15,hI⟩⟩
     have HQ:=ar kf
     have e14:=fun (_:aw D 14 14=true)=>e12 kf
     exact ⟨aB,aC,aA,aD,ax,aF,aE,aG,aI,aM,ah,aj,ar,aJ,fun _=>by first|assumption|trivial,aL,⟨SN,hN,e10,e11,e12,e13,e14,e15,hI⟩⟩
    ·intro D a6 iw wK ul ve u5 vw yh Ar z0 Dv EZ Ec A2 DO EF Gu F0 fl fV bD bE d5 cO cQ cR cM cP cN gu fF eP fC d4 w_
     rintro ⟨aB,aC,aA,aD,ax,aF,aE,aG,aI,aM,ah,aj,ar,aJ,aK,aL,⟨SN,hN,e10,e11,e12,e13,e14,e15,hI⟩⟩
     have Gv:=aJ iw
     have e15:=fun (_:aw D 15 15=true)=>e13 iw
     exact ⟨aB,aC,aA,aD,ax,aF,aE,aG,aI,aM,ah,aj,ar,aJ,aK,fun _=>by first|assumption|trivial,⟨SN,hN,e10,e11,e12,e13,e14,e15,hI⟩⟩
    intro D oI pe qu i5 eR eX jG io gc gp f1 fL fJ fP fN fO fl fV bD bE d5 cO cQ cR cM cP cN gu fF eP fC d4 w_
    rintro ⟨aB,aC,aA,aD,ax,aF,aE,aG,aI,aM,ah,aj,ar,aJ,aK,aL,⟨SN,hN,e10,e11,e12,e13,e14,e15,hI⟩⟩
    have IM:=aL oI
    have ID:=aK pe
    have Gv:=aJ qu
    have HQ:=ar i5
    have Hi:=aj eR
    have HO:=ah eX
    obtain rfl:=aM jG
    obtain rfl:=aI io
    obtain rfl:=aG gc
    obtain rfl:=aE gp
    obtain rfl:=aF f1
    obtain rfl:=ax fL
    obtain rfl:=aD fJ
    obtain rfl:=aA fP
    obtain rfl:=aC fN
    obtain rfl:=aB fO
    clear aB aC aA aD ax aF aE aG aI aM ah aj ar aJ aK aL
    have hx12:=e14 pe
    have hx13:=e15 oI
    subst hx13
    have hE3:=hE.trans hN
    clear e10 e11 e12 e13 e14 e15
    refine aX (fun hb=>?_) (fun hb=>?_)
    ·have hFo:F o facts[k]=gO c0.head facts gs o r.2:=by rw [hF2,<- hr,if_pos hb]
     rw [hFo]
     refine a8 hI 0 cL rfl rfl ?_
     refine bC (by omega) ?_
     have hst2:StF r.2:=by rw [hr]; exact (jJ hg hfk hst).1
     have hc2:jb c0.head gs r.2:=by rw [hr]; exact kY hc hg hfk hst (by rw [<- hr]; exact hb)
     refine Run.call0E oS nN hI (ih (i+1) (by omega) hge.2 SN _ t0 _ _ o r.2 (h0.mono hE3.1) (hv'.monoT hN.1) (hf.monoT hE3.1) hx12 hst2 hc2 hoo hno) fun v' I' S2 w'=>?_
     rintro ⟨rfl,hr2⟩ hE4 hI
     exact ⟨S2,hE3.trans hE4,hr2,hI.pick [true]⟩
    ·have hFo:F o facts[k]=o:=by rw [hF2,<- hr,if_neg (by rw [hb]; decide)]
     rw [hFo]
     exact ⟨SN,hE3,hv'.monoT hN.1,hI⟩
   intro t0' _ _ _ _ _ _ _ _ _ _ _ _ _ _ _ _ _ _ _ _ _ _ _ _ w'
   rintro ⟨S2,hE2,hv2,hI⟩
   refine bC (by omega) ?_
   have hFo:=hF2 o facts[k]
   refine ⟨⟨k+1,_,S2,hk',rfl,hrel,?_,?_,hE2,hv2,hI⟩,by simp [intOf]; omega⟩
   ·rw [hFo]; exact hso.1
   ·rw [hFo]; exact hso.2
  ·have:k=facts.length:=by omega
   subst this
   rw [List.drop_length,List.foldl_nil] at hrel
   rw [<- hrel]
   exact ⟨_,_,_,rfl,hI.pick [false],hE,rfl,hv'⟩
end

end Go.Proofs.YtemmhhdnlbmicaaGreat

/- spec.ModelClosed. -/
namespace Go.Proofs.YtemmhhdnlbmicaaGreat
open Go Go.RowKit
theorem wj {t:T} {d:Int} (h:dK t d=true):dE t=true/\dF t.kids (d - 1)=true:=by
 cases t
 rw [dK] at h
 split at h
 ·cases h
 ·rw [Bool.and_eq_true] at h
  exact h
theorem uv:∀ {ts:List T} {d:Int},dF ts d=true->∀ t∈ts,dK t d=true
 | [],_,_,t,ht=>by cases ht
 | x::ts,d,h,t,ht=>by
  rw [dF,Bool.and_eq_true] at h
  rcases List.mem_cons.1 ht with rfl|ht
  ·exact h.1
  ·exact uv h.2 t ht
theorem Co {t:T} (hv:dd t=true) (hf:f4 t=true):Gl t:=by
 rw [f4,Bool.and_eq_true,List.all_eq_true] at hf
 obtain ⟨hk,hp⟩:=hf
 rw [iY,Bool.and_eq_true,decide_eq_true_eq] at hp
 obtain ⟨h1,h2⟩:=wj (lc hv)
 refine ⟨hp.1,h1,fun y hy=>⟨(wj (uv h2 y hy)).1,?_⟩⟩
 have:=hk y hy
 rw [jN,decide_eq_true_eq] at this
 exact List.eq_nil_of_length_eq_zero this
theorem DE {l:List Int} {n m:Int} (h:m∈oq l n):m∈l ∨ m=n:=by
 unfold oq at h
 split at h
 ·exact .inl h
 ·simpa using h
theorem wx (t:T) (l:List Int):iq t l=gP t.kids (if t.kind=1 then oq l t.n else l):=by cases t; rw [iq]; rfl
theorem uS:∀ (ks:List T) (l:List Int),(∀ y∈ks,y.kids=[])->∀ n,n∈gP ks l↔n∈l ∨ ∃ z∈ks,z.kind=1/\z.n=n
 | [],l,_,n=>by simp [gP]
 | k::ks,l,hk,n=>by
  rw [gP,uS ks _ (fun y hy=>hk y (List.mem_cons_of_mem _ hy)),wx,hk k (List.mem_cons_self ..),gP]
  have hsrc:(n∈if k.kind=1 then oq l k.n else l)↔n∈l ∨ (k.kind=1/\k.n=n):=by
   split
   ·rename_i h
    constructor
    ·intro hm
     rcases DE hm with h1|h1
     ·exact .inl h1
     ·exact .inr ⟨h,h1.symm⟩
    ·rintro (h1|⟨_,rfl⟩)
     ·exact (show ∀ m∈l,m∈oq l k.n from fun m hm=>by unfold oq; split; exact hm; simp [hm]) n h1
     ·unfold oq
      split
      ·rename_i h2
       simpa [iZ] using h2
      ·simp
   ·rename_i h
    exact ⟨.inl,fun h1=>h1.elim id fun h2=>absurd h2.1 h⟩
  rw [hsrc]
  constructor
  ·rintro ((h|⟨h1,h2⟩)|⟨z,hz,h⟩)
   ·exact .inl h
   ·exact .inr ⟨k,List.mem_cons_self ..,h1,h2⟩
   ·exact .inr ⟨z,List.mem_cons_of_mem _ hz,h⟩
  ·rintro (h|⟨z,hz,h⟩)
   ·exact .inl (.inl h)
   ·rcases List.mem_cons.1 hz with rfl|hz
    ·exact .inl (.inr h)
    ·exact .inr ⟨z,hz,h⟩
theorem uG {g:T} (h:Gl g) (l:List Int) (n:Int):n∈iq g l↔n∈l ∨ ∃ z∈g.kids,z.kind=1/\z.n=n:=by
 rw [wx,if_neg (by have:=h.1; omega)]
 exact uS g.kids l (fun y hy=>(h.2.2 y hy).2) n
theorem zm:∀ (gs:List T) (l:List Int),(∀ g∈gs,Gl g)->∀ n,n∈gP gs l->n∈l ∨ ∃ g∈gs,∃ z∈g.kids,z.kind=1/\z.n=n
 | [],l,_,n,h=>.inl h
 | g::gs,l,hg,n,h=>by
  rw [gP] at h
  rcases zm gs _ (fun x hx=>hg x (List.mem_cons_of_mem _ hx)) n h with h|⟨x,hx,h⟩
  ·rcases (uG (hg g (List.mem_cons_self ..)) l n).1 h with h|h
   ·exact .inl h
   ·exact .inr ⟨g,List.mem_cons_self ..,h⟩
  ·exact .inr ⟨x,List.mem_cons_of_mem _ hx,h⟩
theorem BU {c:C} (hv:dt c=true) (hf:iI c=true):Gl c.head/\(∀ g∈c.body,Gl g)/\jb c.head c.body st0:=by
 rw [dt] at hv
 simp only [Bool.and_eq_true,List.all_eq_true] at hv
 rw [iI] at hf
 simp only [Bool.and_eq_true,List.all_eq_true] at hf
 have hb:∀ g∈c.body,Gl g:=fun g hg=>by
  have h1:=hv.2.1 g hg
  rw [kq,Bool.and_eq_true] at h1
  exact Co h1.1 (hf.2.2.1 g hg)
 have hh:=Co hv.2.2.1 hf.1
 refine ⟨hh,hb,fun y hy hk=>?_⟩
 right
 have h1:=hf.2.2.2 y.n ((uG hh [] y.n).2 (.inr ⟨y,hy,hk,rfl⟩))
 have h2:y.n∈gP c.body []:=by simpa [iZ] using h1
 rcases zm c.body [] hb y.n h2 with h|h
 ·cases h
 ·exact h
theorem zP {p:List C} (h:jn p=true):∀ c∈p,Gl c.head/\(∀ g∈c.body,Gl g)/\jb c.head c.body st0:=by
 intro c hc
 rw [jn,Bool.and_eq_true,List.all_eq_true] at h
 have h1:=h.1
 rw [qL] at h1
 simp only [Bool.and_eq_true,List.all_eq_true] at h1
 exact BU (h1.2 c hc) (h.2 c hc)
/- facts -/
def FV (t:T):Bool:=dd t && (f4 t && decide ((iq t []).length=0))
section
attribute [local irreducible] Run CondV ag a4
end

end Go.Proofs.YtemmhhdnlbmicaaGreat

/- impl.follows, with a function that is told the facts. -/
namespace Go.Proofs.YtemmhhdnlbmicaaGreat
open Go Go.RowKit
theorem KnownM.mono {S S':av} {es:Array MapEntry} {st:bg} (h:KnownM S es st) (hs:Sle S S'):KnownM S' es st:=
 ⟨fun e he=>by
  obtain ⟨n,t,cs,h1,h2,h3,h4⟩:=h.1 e he
  exact ⟨n,t,cs,h1,h2,h3.mono hs,h4⟩,h.2⟩
/- a function that is told facts and keeps a state; 'can s n': n more facts can be told -/
structure Tell (f:FuncId) (fn:Func) (cap:List Value) {σ:Type} (It:σ->av->List Item->Prop) (can:σ->Nat->Prop) (step:σ->T->σ) (S0:av):Prop where
 hf:Tryz.prog.funcs[f]?=some fn
 hn:(fn.name == "runtime.NumGoroutine" || fn.body.isNone)=false
 up:∀ (s:σ) (S S':av) (I:List Item),Sle S S'->It s S I->It s S' I
 down:∀ (s:σ) (x:T) (n:Nat),Fct x->can s (n+1)->can (step s x) n
 call:∀ (S:av) (s:σ) (x:T) (cs:List Value) (I:List Item) (n:Nat),Sle S0 S->Fct x->RdT S cs x->It s S I->can s (n+1)->Tri Tryz.prog f (.agg cs.toArray::cap) I S fun r I' S'=>r=.tuple #[]/\It (step s x) S' I'
theorem Tell.mono {f:FuncId} {fn:Func} {cap:List Value} {σ:Type} {It:σ->av->List Item->Prop} {can:σ->Nat->Prop} {step:σ->T->σ} {S0 S1:av} (h:Tell f fn cap It can step S0) (hs:Sle S0 S1):Tell f fn cap It can step S1:=
 ⟨h.hf,h.hn,h.up,h.down,fun S s x cs I n h1=>h.call S s x cs I n (hs.trans h1)⟩
section
attribute [local irreducible] Run CondV ag a4
end

end Go.Proofs.YtemmhhdnlbmicaaGreat

/- impl.insert; a round's function that is told facts. -/
namespace Go.Proofs.YtemmhhdnlbmicaaGreat
open Go Go.RowKit
theorem Rows.insert {α:Type} {k:Nat} {R:List Value->α->Prop} {css:List (List Value)} {ys:List α} (h:Rows k R css ys) {cs:List Value} {y:α} (hR:R cs y) (hl:cs.length=k) (i:Nat) :
  Rows k R (css.take i++cs::css.drop i) (ys.take i++y::ys.drop i):=by
 have h1:Rows k R (css.take i) (ys.take i):=⟨by simp [h.hc],fun c hc=>h.hk c (List.mem_of_mem_take hc),fun j h2 h3=>by
  rw [List.getElem_take,List.getElem_take]
  exact h.hR j _ _⟩
 have h2:Rows k R (css.drop i) (ys.drop i):=⟨by simp [h.hc],fun c hc=>h.hk c (List.mem_of_mem_drop hc),fun j h2 h3=>by
  rw [List.getElem_drop,List.getElem_drop]
  exact h.hR (i+j) _ _⟩
 have:=(h1.append (Rows.one hR hl)).append h2
 simpa using this
section
attribute [local irreducible] Run CondV ag a4
end

end Go.Proofs.YtemmhhdnlbmicaaGreat

/- impl: rounds and stages. -/
namespace Go.Proofs.YtemmhhdnlbmicaaGreat
open Go Go.RowKit
theorem tA {p:List C} (h:jn p=true):Pf p:=by
 have h0:=h
 rw [jn,Bool.and_eq_true,List.all_eq_true] at h
 have h1:=h.1
 rw [qL] at h1
 simp only [Bool.and_eq_true,decide_eq_true_eq] at h1
 refine ⟨h1.1,zP h0,fun c hc=>?_⟩
 have h2:=h.2 c hc
 rw [iI] at h2
 simp only [Bool.and_eq_true,decide_eq_true_eq] at h2
 exact h2.2.1
abbrev Bz (ys:List T) (b:Bool):Value->List Item->av->Prop:=fun r I' _=>∃ u L,r=.tuple #[u,.bool b]/\I'=bB L/\TrSl 4 TrT L u ys
section
attribute [local irreducible] Run CondV ag a4
end

end Go.Proofs.YtemmhhdnlbmicaaGreat

/- impl.ModelClosed. -/
namespace Go.Proofs.YtemmhhdnlbmicaaGreat
open Go Go.RowKit
section
attribute [local irreducible] Run CondV ag a4
end

end Go.Proofs.YtemmhhdnlbmicaaGreat

/- Rounds of facts in plain Lean: they grow, end, are closed and least. -/
namespace Go.Proofs.YtemmhhdnlbmicaaGreat
open Go Go.RowKit
theorem FM (a b:T):a=b ∨ a≠b:=by
 cases h:eqT a b
 ·exact .inr fun e=>by rw [(gl a b).2 e] at h; cases h
 ·exact .inl ((gl a b).1 h)
/- sorted lists with the same members are the same -/
/- facts have plain names -/
theorem AW {y:T} (h:wA y) (d:Int) (hd:1<=d):dK y d=true:=by
 obtain ⟨h1,h2,_⟩:=h
 obtain ⟨k,n,s,ks⟩:=y
 simp only [T.kids] at h2
 subst h2
 rw [dK,if_neg (by omega),h1,dF]
 rfl
theorem ri (d:Int) (hd:1<=d):∀ ks:List T,(∀ y∈ks,wA y)->dF ks d=true
 | [],_=>rfl
 | y::ks,h=>by
  rw [dF,AW (h y (List.mem_cons_self ..)) d hd,ri d hd ks fun z hz=>h z (List.mem_cons_of_mem _ hz)]
  rfl
theorem wd:∀ ks:List T,(∀ y∈ks,wA y)->dH ks=ks.length
 | [],_=>rfl
 | y::ks,h=>by
  rw [dH,wd ks fun z hz=>h z (List.mem_cons_of_mem _ hz)]
  obtain ⟨_,h2,_⟩:=h y (List.mem_cons_self ..)
  obtain ⟨k,n,s,l⟩:=y
  simp only [T.kids] at h2
  subst h2
  rw [dV,dH,List.length_cons]
  omega
theorem Fct.valid {x:T} (h:Fct x):dd x=true:=by
 obtain ⟨hk,ho,hy⟩:=h
 have hlen:=(pL ho).2
 obtain ⟨k,n,s,ks⟩:=x
 simp only [T.kids] at hy hlen
 rw [dd,dK,if_neg (by omega),ho,ri (30 - 1) (by omega) ks hy,dV,wd ks hy,decide_eq_true (by omega)]
 rfl
theorem Fct.fact {x:T} (h:Fct x) (hp:iY x=true):FV x=true:=by
 have hv:=h.valid
 have hg:Gl x:=⟨h.1,h.2.1,fun y hy=>⟨(h.2.2 y hy).1,(h.2.2 y hy).2.1⟩⟩
 have hvars:(iq x []).length=0:=by
  cases e:iq x [] with
  | nil=>rfl
  | cons a l=>
   have:a∈iq x []:=by rw [e]; exact List.mem_cons_self ..
   rcases (uG hg [] a).1 this with h1|⟨z,hz,hk,_⟩
   ·cases h1
   ·exact absurd hk (h.2.2 z hz).2.2
 rw [FV,hv,f4,hp,hvars]
 simp only [Bool.true_and,Bool.and_true,decide_true,List.all_eq_true]
 intro y hy
 rw [jN,(h.2.2 y hy).2.1]
 rfl
/- the least model -/
/- what a law about the least model asks -/
/- a fact that holds adds nothing -/
end Go.Proofs.YtemmhhdnlbmicaaGreat

/- Steps that the laws' walks share: copies lent and marked, results compared, marked and read again. -/
namespace Go.Proofs.YtemmhhdnlbmicaaGreat
open Go Go.RowKit
section
variable {w w0:World} {X:List Nat} {L A:List Item} {S:av} {K:Value->World->Prop}
attribute [local irreducible] Run CondV ag a4
/- copies that will be marked: their blocks are known -/
/- they are marked, and nobody looks at them again -/
/- rows of predicates -/
end

end Go.Proofs.YtemmhhdnlbmicaaGreat

/- Steps that the laws' walks share: results that are trees. -/
namespace Go.Proofs.YtemmhhdnlbmicaaGreat
open Go Go.RowKit
section
variable {w w0:World} {X:List Nat} {L A:List Item} {S:av} {K:Value->World->Prop}
attribute [local irreducible] Run CondV ag a4
end

end Go.Proofs.YtemmhhdnlbmicaaGreat

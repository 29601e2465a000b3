/- Matching with a map: impl.instance. -/
import Derived.Test.YtmnnpgdeecnfpaaGreatZPe6
import Derived.Test.YtmnnpgdeecnfpaaGreatZPe7
import Derived.Test.YtmnnpgdeecnfpaaGreatZPe0
import Derived.Test.YtmnnpgdeecnfpaaGreatZPe8
import Derived.Test.YtmnnpgdeecnfpaaGreatZPe1
namespace Go.Proofs.YtmnnpgdeecnfpaaGreat
open Go Go.RowKit

/- the map of impl.instance -/
def KnownM (S:Store) (es:Array MapEntry) (st:aE):Prop:=
 (∀ e∈es.toList,∃ (n:Nat) (t:T) (cs:List Value),e.key=.int .i64 n/\e.val=.agg cs.toArray/\RdT S cs t/\st[n]?=some (some t))/\(∀ (n:Nat) (t:T),st[n]?=some (some t)->∃ e∈es.toList,e.key=.int .i64 n)
theorem KnownM.find {S:Store} {es:Array MapEntry} {st:aE} (h:KnownM S es st) (n:Nat) :
  (∃ j v t cs,Instr.findNow (.int .i64) (.int .i64 n) es.toList 0=some (some (j,v))/\v=.agg cs.toArray/\RdT S cs t/\st[n]?=some (some t)) ∨
  ((∀ t,st[n]?≠some (some t))/\Instr.findNow (.int .i64) (.int .i64 n) es.toList 0=some none):=by
 rcases ly (n:=n) es.toList 0 (fun e he=>by obtain ⟨m,_,_,hk,_⟩:=h.1 e he; exact ⟨m,hk⟩) with ⟨j,e,he,hk,hf⟩|⟨hk,hf⟩
 ·obtain ⟨m,t,cs,hk2,hv,hR,hs⟩:=h.1 e he
  rw [hk] at hk2
  simp only [Value.int.injEq,true_and] at hk2
  have:n=m:=by omega
  subst this
  exact .inl ⟨j,e.val,t,cs,hf,hv,hR,hs⟩
 ·refine .inr ⟨fun t ht=>?_,hf⟩
  obtain ⟨e,he,hk2⟩:=h.2 n t ht
  exact hk e he hk2
theorem KnownM.push {S:Store} {es:Array MapEntry} {st:aE} (h:KnownM S es st) {n:Nat} (hn:n<st.length) (hno:∀ t,st[n]?≠some (some t)) {cs:List Value} {u:T} (hu:RdT S cs u) (ck:Nat) :
  KnownM S (es.push { key:=.int .i64 n,val:=.agg cs.toArray,born:=ck }) (st.set n (some u)):=by
 refine ⟨fun e he=>?_,fun m t ht=>?_⟩
 ·rw [Array.toList_push] at he
  rcases List.mem_append.1 he with he|he
  ·obtain ⟨m,t,cs',hk,hv,hR,hs⟩:=h.1 e he
   refine ⟨m,t,cs',hk,hv,hR,?_⟩
   have:n≠m:=fun e=>hno t (by rw [e]; exact hs)
   rw [List.getElem?_set_ne this]
   exact hs
  ·simp at he
   subst he
   exact ⟨n,u,cs,rfl,rfl,hu,by rw [List.getElem?_set_self hn]⟩
 ·rw [Array.toList_push]
  by_cases e:n=m
  ·exact ⟨_,List.mem_append_right _ (List.mem_singleton.2 rfl),by rw [e]⟩
  ·rw [List.getElem?_set_ne e] at ht
   obtain ⟨x,hx,hk⟩:=h.2 m t ht
   exact ⟨x,List.mem_append_left _ hx,hk⟩
theorem pQ (t u:T):dR t u=dR u t:=by
 rw [dR,dR,Bool.eq_iff_iff]
 simp only [Bool.and_eq_true,decide_eq_true_eq]
 constructor
 ·rintro ⟨a,b,c,d⟩; exact ⟨a.symm,b.symm,c.symm,d.symm⟩
 ·rintro ⟨a,b,c,d⟩; exact ⟨a.symm,b.symm,c.symm,d.symm⟩
section
attribute [local irreducible] Run CondV GuardV LoadV
theorem dA:∀ (t u:T) (S:Store) (cs ds:List Value) (mb ck:Nat) (es:Array MapEntry) (st:aE),RdT S cs t->RdT S ds u->okV t->okK u->kM st->KnownM S es st->
  Tri Tryz.prog qC [.agg ds.toArray,.agg cs.toArray,.map (some mb)] [.blk mb (.map es ck)] S fun r I' S'=>S'=S/\r=.bool (aN t u st).1/\∃ es' ck',I'=[.blk mb (.map es' ck')]/\KnownM S es' (aN t u st).2:=by
 refine T.ind fun k' n' s' ks' ih u S cs ds mb ck es st h' h hv hu hst hkc=>?_
 intro w hI
 have hds:=h
 obtain ⟨kv',rfl,_,_,_,hks'⟩:=RdT.iff.1 h'
 obtain ⟨kv,rfl,_,_,_,hks⟩:=RdT.iff.1 h
 obtain ⟨k,n,s,ks⟩:=u
 simp only [T.name,T.kids,T.kind,T.n] at hks hks' ⊢
 have hlen:=hks'.le
 simp only [maxLen] at hlen
 rw [okV] at hv
 obtain ⟨hv1,hv2⟩:=hv
 have huk:=hu
 rw [okK] at hu
 obtain ⟨X,hX⟩:∃ X,X=feet [Item.blk mb (.map es ck)]:=⟨_,rfl⟩
 rw [<- hX] at hI ⊢
 refine kS ?_
 unfold ib
 refine r_box hI fun b1 w' hI=>?_
 refine r_box hI fun b2 w' hI=>?_
 have hI:Inv w X [.blk b1 (.cells #[.int .i64 k,.int .i64 n,.string s,kv] ad),.blk b2 (.cells #[.int .i64 k',.int .i64 n',.string s',kv'] ad),.blk mb (.map es ck)] S w':=hI.perm (by
  refine (List.perm_append_comm (l₁:=[_,_]) (l₂:=[_])).trans ?_
  exact List.Perm.refl _)
 refine r_fieldL hI 1 rfl aI aC rfl ?_
 refine r_eql ?_
 refine condP (fun hk1=>?_) (fun hk1=>?_)
 ·obtain ⟨hn0,hn25⟩:=hv1 hk1
  obtain ⟨j,rfl⟩:∃ j:Nat,n'=j:=⟨n'.toNat,by omega⟩
  have hj:j<26:=by omega
  have hjs:j<st.length:=by rw [hst.1]; exact hj
  refine r_fieldL hI 1 rfl aJ aC rfl ?_
  rcases hkc.find j with ⟨q,v,t0,cs0,hf,rfl,hR,hst2⟩|⟨hno,hf⟩
  ·refine sD (v:=.agg cs0.toArray) (ok:=true) hI 2 dQ dw aK rfl (.inl ⟨q,hf,rfl⟩) ?_
   refine r_extract rfl ?_
   refine r_extract rfl ?_
   have hlc:=hR.length
   refine r_alloc hI aK fun b7 w' hI=>?_
   refine au hI 3 rfl aj (by simpa using hlc) rfl (by simpa using hR.one) fun w' hI=>?_
   refine r_not ?_
   refine condV (fun hb=>by cases hb) (fun _=>?_)
   refine r_loadW hI 3 aj rfl (by simpa using hlc) ?_
   refine r_loadW hI 0 aj rfl rfl ?_
   refine Run.callPure gV gY hI (lb t0 _ S _ _ hR hds) fun w' hI=>?_
   have hm:aN (.mk k' j s' ks') (.mk k n s ks) st=(eqT t0 (.mk k n s ks),st):=by
    rw [aN,if_pos hk1,Int.toNat_natCast,hst2]
   rw [hm]
   exact ⟨_,_,_,rfl,hI.pick [false,false,true,false],Ext.refl _ _ _,rfl,rfl,_,_,rfl,hkc⟩
  ·refine sD (ok:=false) hI 2 dQ dw aK rfl (.inr ⟨hf,rfl,rfl⟩) ?_
   refine r_extract rfl ?_
   refine r_extract rfl ?_
   refine r_alloc hI aK fun b7 w' hI=>?_
   refine au hI 3 rfl aj rfl rfl (by simp [Value.oneCell']) fun w' hI=>?_
   refine r_not ?_
   refine condV (fun _=>?_) (fun hb=>by cases hb)
   refine r_fieldL hI 1 rfl aJ aC rfl ?_
   refine r_loadW hI 0 aj rfl rfl ?_
   refine wH hI 2 dQ dw rfl hf fun w' hI=>?_
   have hm:aN (.mk k' j s' ks') (.mk k n s ks) st=(true,st.set j (some (.mk k n s ks))):=by
    rw [aN,if_pos hk1,Int.toNat_natCast,List.getElem?_eq_getElem hjs]
    cases hq:st[j] with
    | none=>rfl
    | some t=>exact absurd (by rw [List.getElem?_eq_getElem hjs,hq]) (hno t)
   rw [hm]
   exact ⟨_,_,_,rfl,hI.pick [false,false,true,false],Ext.refl _ _ _,rfl,rfl,_,_,rfl,hkc.push hjs hno hds ck⟩
 refine ⟨fun q w'=>q=.bool (!dR (.mk k n s ks) (.mk k' n' s' ks'))/\Inv w X [.blk b1 (.cells #[.int .i64 k,.int .i64 n,.string s,kv] ad),.blk b2 (.cells #[.int .i64 k',.int .i64 n',.string s',kv'] ad),.blk mb (.map es ck)] S w',?_,?_⟩
 ·refine r_fieldL hI 0 rfl aI aC rfl ?_
  refine r_fieldL hI 1 rfl aI aC rfl ?_
  refine r_neq ?_
  by_cases e1:k=k'
  ·rw [decide_eq_true e1]
   repeat (first|refine ac ?_|refine ag (by decide) ?_|refine ae ?_|refine ai ?_|refine ah ?_)
   refine r_fieldL hI 0 rfl aJ aC rfl ?_
   refine r_fieldL hI 1 rfl aJ aC rfl ?_
   refine r_neq ?_
   by_cases e2:n=n'
   ·rw [decide_eq_true e2]
    repeat (first|refine ac ?_|refine ag (by decide) ?_|refine ae ?_|refine ai ?_|refine ah ?_)
    refine r_fieldL hI 0 rfl aA az rfl ?_
    refine r_fieldL hI 1 rfl aA az rfl ?_
    refine r_sneq ?_
    by_cases e3:s=s'
    ·rw [decide_eq_true e3]
     repeat (first|refine ac ?_|refine ag (by decide) ?_|refine ae ?_|refine ai ?_|refine ah ?_)
     refine r_fieldL hI 0 rfl ar ao rfl ?_
     refine r_lenSl hks aq ?_
     refine r_fieldL hI 1 rfl ar ao rfl ?_
     refine r_lenSl hks' aq ?_
     refine r_neq ?_
     repeat (first|refine ac ?_|refine ag (by decide) ?_|refine ae ?_|refine ai ?_|refine ah ?_)
     exact ⟨by rw [bA,decide_eq_true e1,decide_eq_true e2,decide_eq_true e3,vY]; rfl,hI⟩
    ·rw [decide_eq_false e3]
     repeat (first|refine ac ?_|refine ag (by decide) ?_|refine ae ?_|refine ai ?_|refine ah ?_)
     exact ⟨by rw [bA,decide_eq_true e1,decide_eq_true e2,decide_eq_false e3]; rfl,hI⟩
   ·rw [decide_eq_false e2]
    repeat (first|refine ac ?_|refine ag (by decide) ?_|refine ae ?_|refine ai ?_|refine ah ?_)
    exact ⟨by rw [bA,decide_eq_true e1,decide_eq_false e2]; rfl,hI⟩
  ·rw [decide_eq_false e1]
   repeat (first|refine ac ?_|refine ag (by decide) ?_|refine ae ?_|refine ai ?_|refine ah ?_)
   exact ⟨by rw [bA,decide_eq_false e1]; rfl,hI⟩

 intro q _ _ _ _ _ _ _ _ _ _ _ _ _ _ _ _ _ _ _ _ _ _ _ _ _ _ _ w'
 rintro ⟨rfl,hI⟩
 cases hd:dR (.mk k n s ks) (.mk k' n' s' ks')
 ·refine condV (fun _=>?_) (fun hb=>by cases hb)
  have hm:aN (.mk k' n' s' ks') (.mk k n s ks) st=(false,st):=by rw [aN,if_neg hk1,if_neg (by rw [pQ,hd]; decide)]
  rw [hm]
  exact ⟨_,_,_,rfl,hI.pick [false,false,true],Ext.refl _ _ _,rfl,rfl,_,_,rfl,hkc⟩
 refine condV (fun hb=>by cases hb) (fun _=>?_)
 have hle:ks.length=ks'.length:=by
  rw [bA] at hd
  simp only [Bool.and_eq_true,decide_eq_true_eq] at hd
  exact hd.2.2.2
 have hm:aN (.mk k' n' s' ks') (.mk k n s ks) st=ba ks' ks st:=by rw [aN,if_neg hk1,if_pos (by rw [pQ,hd])]; rfl
 rw [hm]
 have hu2:=hu.2
 refine r_fieldL hI 1 rfl ar ao rfl ?_
 refine r_lenSl hks' aq ?_
 refine ⟨fun i w'=>∃ (j:Nat) (st':aE) (es':Array MapEntry) (ck':Nat),j<=ks'.length/\i=.int .i64 j/\ba (ks'.drop j) (ks.drop j) st'=ba ks' ks st/\kM st'/\KnownM S es' st'/\Inv w X [.blk b1 (.cells #[.int .i64 k,.int .i64 n,.string s,kv] ad),.blk b2 (.cells #[.int .i64 k',.int .i64 n',.string s',kv'] ad),.blk mb (.map es' ck')] S w',fun i _=>ks'.length - (intOf i).toNat,⟨0,st,es,ck,Nat.zero_le _,rfl,rfl,hst,hkc,hI⟩,?_⟩
 intro t60 _ _ _ _ _ _ _ _ _ _ _ _ _ _ _ _ _ _ w'
 rintro ⟨j,st',es',ck',hj,rfl,hrel,hst',hkc',hI⟩
 refine r_lss ?_
 refine condP (fun hji=>?_) (fun hji=>?_)
 ·have hj2:j<ks'.length:=by omega
  have hj1:j<ks.length:=by omega
  obtain ⟨c1,o1,cap1,a1,E1,fz1,rfl,hS1,hR1⟩:=hks.at_ hj1
  obtain ⟨c2,o2,cap2,a2,E2,fz2,rfl,hS2,hR2⟩:=hks'.at_ hj2
  rw [dK ks' ks st' j hj2 hj1] at hrel
  have hcall:=ih _ (List.getElem_mem hj2) ks[j] S _ _ mb ck' es' st' hR2 hR1 (fh hv2 _ (List.getElem_mem hj2)) (cJ hu2 _ (List.getElem_mem hj1)) hst' hkc'
  have hsn:=cX ks'[j] ks[j] st' hst' (cJ hu2 _ (List.getElem_mem hj1))
  generalize hr:aN ks'[j] ks[j] st'=r at hrel hcall hsn
  refine ⟨fun D x75 x74 x73 x72 x71 x70 x69 x68 x67 x66 x65 x64 x63 w_=>(D 0=true->x63=.pointer (some ⟨b1,3,none⟩))/\(D 1=true->x64=.slice (some ⟨c1,o1,none⟩) ks.length cap1)/\(D 2=true->x65=.int .i64 j)/\(D 3=true->x66=.pointer (some ⟨c1,o1+j * 4,none⟩))/\(D 4=true->x67=.agg (cellsAt a1 (o1+j * 4) 4).toArray)/\(D 5=true->x68=.pointer (some ⟨b2,3,none⟩))/\(D 6=true->x69=.slice (some ⟨c2,o2,none⟩) ks'.length cap2)/\(D 7=true->x70=.int .i64 j)/\(D 8=true->x71=.pointer (some ⟨c2,o2+j * 4,none⟩))/\(D 9=true->x72=.agg (cellsAt a2 (o2+j * 4) 4).toArray)/\(D 10=true->x73=.map (some mb))/\(D 11=true->x74=.bool r.1)/\(D 12=true->x75=.bool (!r.1))/\(D 11=false->Inv w X [.blk b1 (.cells #[.int .i64 k,.int .i64 n,.string s,.slice (some ⟨c1,o1,none⟩) ks.length cap1] ad),.blk b2 (.cells #[.int .i64 k',.int .i64 n',.string s',.slice (some ⟨c2,o2,none⟩) ks'.length cap2] ad),.blk mb (.map es' ck')] S w_)/\(D 11=true->∃ es2 ck2,KnownM S es2 r.2/\Inv w X [.blk b1 (.cells #[.int .i64 k,.int .i64 n,.string s,.slice (some ⟨c1,o1,none⟩) ks.length cap1] ad),.blk b2 (.cells #[.int .i64 k',.int .i64 n',.string s',.slice (some ⟨c2,o2,none⟩) ks'.length cap2] ad),.blk mb (.map es2 ck2)] S w_)/\∃ es3 ck3,Inv w X [.blk b1 (.cells #[.int .i64 k,.int .i64 n,.string s,.slice (some ⟨c1,o1,none⟩) ks.length cap1] ad),.blk b2 (.cells #[.int .i64 k',.int .i64 n',.string s',.slice (some ⟨c2,o2,none⟩) ks'.length cap2] ad),.blk mb (.map es3 ck3)] S w_,⟨fun h=>Bool.noConfusion h,fun h=>Bool.noConfusion h,fun h=>Bool.noConfusion h,fun h=>Bool.noConfusion h,fun h=>Bool.noConfusion h,fun h=>Bool.noConfusion h,fun h=>Bool.noConfusion h,fun h=>Bool.noConfusion h,fun h=>Bool.noConfusion h,fun h=>Bool.noConfusion h,fun h=>Bool.noConfusion h,fun h=>Bool.noConfusion h,fun h=>Bool.noConfusion h,⟨fun _=>hI.draw,fun h=>Bool.noConfusion h,es',ck',hI.draw⟩⟩,⟨?_,?_,?_,?_,?_,?_,?_,?_,?_,?_,?_,?_,?_,trivial⟩,?_⟩
  ·intro D hD_  x75 x74 x73 x72 x71 x70 x69 x68 x67 x66 x65 x64 x63 w_
   rintro ⟨h0_,h1_,h2_,h3_,h4_,h5_,h6_,h7_,h8_,h9_,h10_,h11_,h12_,⟨hI0,hI1,es3,ck3,hI⟩⟩
   refine r_field ar ?_
   exact ⟨fun _=>rfl,h1_,h2_,h3_,h4_,h5_,h6_,h7_,h8_,h9_,h10_,h11_,h12_,⟨hI0,hI1,es3,ck3,hI⟩⟩
  ·intro D hD_ d0_0 x75 x74 x73 x72 x71 x70 x69 x68 x67 x66 x65 x64 x63 w_
   rintro ⟨h0_,h1_,h2_,h3_,h4_,h5_,h6_,h7_,h8_,h9_,h10_,h11_,h12_,⟨hI0,hI1,es3,ck3,hI⟩⟩
   obtain rfl:=h0_ d0_0
   refine r_loadL hI 0 ao rfl rfl ?_
   exact ⟨h0_,fun _=>rfl,h2_,h3_,h4_,h5_,h6_,h7_,h8_,h9_,h10_,h11_,h12_,⟨hI0,hI1,es3,ck3,hI⟩⟩
  ·intro D hD_  x75 x74 x73 x72 x71 x70 x69 x68 x67 x66 x65 x64 x63 w_
   rintro ⟨h0_,h1_,h2_,h3_,h4_,h5_,h6_,h7_,h8_,h9_,h10_,h11_,h12_,⟨hI0,hI1,es3,ck3,hI⟩⟩
   exact ⟨h0_,h1_,fun _=>rfl,h3_,h4_,h5_,h6_,h7_,h8_,h9_,h10_,h11_,h12_,⟨hI0,hI1,es3,ck3,hI⟩⟩
  ·intro D hD_ d1_0 d2_1 x75 x74 x73 x72 x71 x70 x69 x68 x67 x66 x65 x64 x63 w_
   rintro ⟨h0_,h1_,h2_,h3_,h4_,h5_,h6_,h7_,h8_,h9_,h10_,h11_,h12_,⟨hI0,hI1,es3,ck3,hI⟩⟩
   obtain rfl:=h1_ d1_0
   obtain rfl:=h2_ d2_1
   refine r_indexAddr aq hj1 ?_
   exact ⟨h0_,h1_,h2_,fun _=>rfl,h4_,h5_,h6_,h7_,h8_,h9_,h10_,h11_,h12_,⟨hI0,hI1,es3,ck3,hI⟩⟩
  ·intro D hD_ d3_0 x75 x74 x73 x72 x71 x70 x69 x68 x67 x66 x65 x64 x63 w_
   rintro ⟨h0_,h1_,h2_,h3_,h4_,h5_,h6_,h7_,h8_,h9_,h10_,h11_,h12_,⟨hI0,hI1,es3,ck3,hI⟩⟩
   obtain rfl:=h3_ d3_0
   refine r_loadA aj hR1.length (fun j v hj=>by rw [hI.cellS hS1]; exact cellsAt_get rfl j v hj) ?_
   exact ⟨h0_,h1_,h2_,h3_,fun _=>rfl,h5_,h6_,h7_,h8_,h9_,h10_,h11_,h12_,⟨hI0,hI1,es3,ck3,hI⟩⟩
  ·intro D hD_  x75 x74 x73 x72 x71 x70 x69 x68 x67 x66 x65 x64 x63 w_
   rintro ⟨h0_,h1_,h2_,h3_,h4_,h5_,h6_,h7_,h8_,h9_,h10_,h11_,h12_,⟨hI0,hI1,es3,ck3,hI⟩⟩
   refine r_field ar ?_
   exact ⟨h0_,h1_,h2_,h3_,h4_,fun _=>rfl,h6_,h7_,h8_,h9_,h10_,h11_,h12_,⟨hI0,hI1,es3,ck3,hI⟩⟩
  ·intro D hD_ d5_0 x75 x74 x73 x72 x71 x70 x69 x68 x67 x66 x65 x64 x63 w_
   rintro ⟨h0_,h1_,h2_,h3_,h4_,h5_,h6_,h7_,h8_,h9_,h10_,h11_,h12_,⟨hI0,hI1,es3,ck3,hI⟩⟩
   obtain rfl:=h5_ d5_0
   refine r_loadL hI 1 ao rfl rfl ?_
   exact ⟨h0_,h1_,h2_,h3_,h4_,h5_,fun _=>rfl,h7_,h8_,h9_,h10_,h11_,h12_,⟨hI0,hI1,es3,ck3,hI⟩⟩
  ·intro D hD_  x75 x74 x73 x72 x71 x70 x69 x68 x67 x66 x65 x64 x63 w_
   rintro ⟨h0_,h1_,h2_,h3_,h4_,h5_,h6_,h7_,h8_,h9_,h10_,h11_,h12_,⟨hI0,hI1,es3,ck3,hI⟩⟩
   exact ⟨h0_,h1_,h2_,h3_,h4_,h5_,h6_,fun _=>rfl,h8_,h9_,h10_,h11_,h12_,⟨hI0,hI1,es3,ck3,hI⟩⟩
  ·intro D hD_ d6_0 d7_1 x75 x74 x73 x72 x71 x70 x69 x68 x67 x66 x65 x64 x63 w_
   rintro ⟨h0_,h1_,h2_,h3_,h4_,h5_,h6_,h7_,h8_,h9_,h10_,h11_,h12_,⟨hI0,hI1,es3,ck3,hI⟩⟩
   obtain rfl:=h6_ d6_0
   obtain rfl:=h7_ d7_1
   refine r_indexAddr aq hj2 ?_
   exact ⟨h0_,h1_,h2_,h3_,h4_,h5_,h6_,h7_,fun _=>rfl,h9_,h10_,h11_,h12_,⟨hI0,hI1,es3,ck3,hI⟩⟩
  ·intro D hD_ d8_0 x75 x74 x73 x72 x71 x70 x69 x68 x67 x66 x65 x64 x63 w_
   rintro ⟨h0_,h1_,h2_,h3_,h4_,h5_,h6_,h7_,h8_,h9_,h10_,h11_,h12_,⟨hI0,hI1,es3,ck3,hI⟩⟩
   obtain rfl:=h8_ d8_0
   refine r_loadA aj hR2.length (fun j v hj=>by rw [hI.cellS hS2]; exact cellsAt_get rfl j v hj) ?_
   exact ⟨h0_,h1_,h2_,h3_,h4_,h5_,h6_,h7_,h8_,fun _=>rfl,h10_,h11_,h12_,⟨hI0,hI1,es3,ck3,hI⟩⟩
  ·intro D hD_  x75 x74 x73 x72 x71 x70 x69 x68 x67 x66 x65 x64 x63 w_
   rintro ⟨h0_,h1_,h2_,h3_,h4_,h5_,h6_,h7_,h8_,h9_,h10_,h11_,h12_,⟨hI0,hI1,es3,ck3,hI⟩⟩
   exact ⟨h0_,h1_,h2_,h3_,h4_,h5_,h6_,h7_,h8_,h9_,fun _=>rfl,h11_,h12_,⟨hI0,hI1,es3,ck3,hI⟩⟩
  ·intro D hD_ d4_0 d9_1 d10_2 x75 x74 x73 x72 x71 x70 x69 x68 x67 x66 x65 x64 x63 w_
   rintro ⟨h0_,h1_,h2_,h3_,h4_,h5_,h6_,h7_,h8_,h9_,h10_,h11_,h12_,⟨hI0,hI1,es3,ck3,hI⟩⟩
   obtain rfl:=h4_ d4_0
   obtain rfl:=h9_ d9_1
   obtain rfl:=h10_ d10_2
   refine Run.call (A:=[_,_]) cS cR (hI0 hD_) hcall fun v' I' S w_=>?_
   rintro ⟨rfl,rfl,es2,ck2,rfl,hk2⟩ _ hI
   have hI0:=fun (h:setD D 11 11=false)=>(Bool.noConfusion h:Inv w X [.blk b1 (.cells #[.int .i64 k,.int .i64 n,.string s,.slice (some ⟨c1,o1,none⟩) ks.length cap1] ad),.blk b2 (.cells #[.int .i64 k',.int .i64 n',.string s',.slice (some ⟨c2,o2,none⟩) ks'.length cap2] ad),.blk mb (.map es' ck')] S w_)
   have hI1:=fun (_:setD D 11 11=true)=>(⟨es2,ck2,hk2,hI⟩:∃ es2 ck2,KnownM S es2 r.2/\Inv w X [.blk b1 (.cells #[.int .i64 k,.int .i64 n,.string s,.slice (some ⟨c1,o1,none⟩) ks.length cap1] ad),.blk b2 (.cells #[.int .i64 k',.int .i64 n',.string s',.slice (some ⟨c2,o2,none⟩) ks'.length cap2] ad),.blk mb (.map es2 ck2)] S w_)
   obtain ⟨es3,ck3,hI⟩:∃ es3 ck3,Inv w X [.blk b1 (.cells #[.int .i64 k,.int .i64 n,.string s,.slice (some ⟨c1,o1,none⟩) ks.length cap1] ad),.blk b2 (.cells #[.int .i64 k',.int .i64 n',.string s',.slice (some ⟨c2,o2,none⟩) ks'.length cap2] ad),.blk mb (.map es3 ck3)] S w_:=⟨es2,ck2,hI⟩
   exact ⟨h0_,h1_,h2_,h3_,h4_,h5_,h6_,h7_,h8_,h9_,h10_,fun _=>rfl,h12_,⟨hI0,hI1,es3,ck3,hI⟩⟩
  ·intro D hD_ d11_0 x75 x74 x73 x72 x71 x70 x69 x68 x67 x66 x65 x64 x63 w_
   rintro ⟨h0_,h1_,h2_,h3_,h4_,h5_,h6_,h7_,h8_,h9_,h10_,h11_,h12_,⟨hI0,hI1,es3,ck3,hI⟩⟩
   obtain rfl:=h11_ d11_0
   refine r_not ?_
   exact ⟨h0_,h1_,h2_,h3_,h4_,h5_,h6_,h7_,h8_,h9_,h10_,h11_,fun _=>rfl,⟨hI0,hI1,es3,ck3,hI⟩⟩
  intro D d12_ d11_ d10_ d9_ d8_ d7_ d6_ d5_ d4_ d3_ d2_ d1_ d0_ x75 x74 x73 x72 x71 x70 x69 x68 x67 x66 x65 x64 x63 w_
  rintro ⟨h0_,h1_,h2_,h3_,h4_,h5_,h6_,h7_,h8_,h9_,h10_,h11_,h12_,⟨hI0,hI1,es3,ck3,hI⟩⟩
  obtain rfl:=h12_ d12_
  obtain rfl:=h11_ d11_
  obtain rfl:=h10_ d10_
  obtain rfl:=h9_ d9_
  obtain rfl:=h8_ d8_
  obtain rfl:=h7_ d7_
  obtain rfl:=h6_ d6_
  obtain rfl:=h5_ d5_
  obtain rfl:=h4_ d4_
  obtain rfl:=h3_ d3_
  obtain rfl:=h2_ d2_
  obtain rfl:=h1_ d1_
  obtain rfl:=h0_ d0_
  clear h0_ h1_ h2_ h3_ h4_ h5_ h6_ h7_ h8_ h9_ h10_ h11_ h12_
  obtain ⟨es2,ck2,hk2,hI⟩:=hI1 d11_
  clear hI0 hI1
  refine condV (fun hne=>?_) (fun he'=>?_)
  ·simp only [Bool.not_eq_true'] at hne
   rw [hne,if_neg (by decide)] at hrel
   rw [<- hrel]
   exact ⟨_,_,_,rfl,hI.pick [false,false,true],Ext.refl _ _ _,rfl,rfl,_,_,rfl,hk2⟩
  ·simp only [Bool.not_eq_false'] at he'
   rw [he',if_pos rfl] at hrel
   refine r_add (by omega) ?_
   exact ⟨⟨j+1,r.2,es2,ck2,hj2,rfl,hrel,hsn,hk2,hI⟩,by simp [intOf]; omega⟩
 ·have:j=ks'.length:=by omega
  subst this
  rw [List.drop_length,<- hle,List.drop_length] at hrel
  rw [<- hrel]
  exact ⟨_,_,_,rfl,hI.pick [false,false,true],Ext.refl _ _ _,rfl,rfl,_,_,rfl,hkc'⟩
end

end Go.Proofs.YtmnnpgdeecnfpaaGreat

/- SubsumedClause: both sides. -/
namespace Go.Proofs.YtmnnpgdeecnfpaaGreat
open Go Go.RowKit

def st0:aE:=List.replicate 26 none
theorem ox:kM st0:=⟨by simp [st0],fun t ht=>by simp [st0] at ht⟩
theorem KnownM.empty (S:Store):KnownM S #[] st0:=⟨by simp,fun n t ht=>by
 rw [st0,List.getElem?_replicate] at ht
 split at ht <;> cases ht⟩
def gh (c d:C):Bool:=aO c && (aO d && decide (d.body.length<=c.body.length))
def ed (c d:C):Bool:=gh c d && ((aN d.head c.head st0).1 && (ba d.body c.body (aN d.head c.head st0).2).1)
theorem jv (c d:C):ed c d=(gh c d && ((aN d.head c.head st0).1 && (ba d.body c.body (aN d.head c.head st0).2).1)):=rfl
theorem ui:∀ {ts:List T},(∀ t∈ts,okV t)->fc ts
 | [],_=>by simp [fc]
 | t::ts,h=>by rw [fc]; exact ⟨h t (List.mem_cons_self ..),ui fun u hu=>h u (List.mem_cons_of_mem _ hu)⟩
theorem ul:∀ {ts:List T},(∀ t∈ts,okK t)->kU ts
 | [],_=>by simp [kU]
 | t::ts,h=>by rw [kU]; exact ⟨h t (List.mem_cons_self ..),ul fun u hu=>h u (List.mem_cons_of_mem _ hu)⟩
theorem gq {c:C} (h:aO c=true):(okV c.head/\okK c.head)/\fc c.body/\kU c.body:=by
 rw [aO] at h
 simp only [Bool.and_eq_true,List.all_eq_true] at h
 obtain ⟨_,h2,h3,_⟩:=h
 have hb:∀ t∈c.body,okV t/\okK t:=fun t ht=>by
  have:=h2 t ht
  rw [di,Bool.and_eq_true] at this
  exact iY this.1
 exact ⟨iY h3,ui fun t ht=>(hb t ht).1,ul fun t ht=>(hb t ht).2⟩
theorem un {c d:C} (h:gh c d=true):okV d.head/\okK c.head/\fc d.body/\kU c.body/\d.body.length<=c.body.length:=by
 rw [gh] at h
 simp only [Bool.and_eq_true,decide_eq_true_eq] at h
 obtain ⟨h1,h2⟩:=gq h.1
 obtain ⟨h3,h4⟩:=gq h.2.1
 exact ⟨h3.1,h1.2,h4.1,h2.2,h.2.2⟩
theorem xL (z:Array Value) (hz:z=#[.int .i64 0,.int .i64 0,.string ⟨#[]⟩,.slice none 0 0]) (S:Store):KnownC S ((Array.range 104).map (z[· % z.size]!)) st0:=by
 subst hz
 refine ⟨by simp,fun i hi=>⟨fun _=>?_,fun t ht=>?_⟩⟩
 ·simp only [st0,List.length_replicate] at hi
  apply List.ext_getElem?
  intro j
  rw [cellsAt,List.getElem?_take]
  match j with
  | 0|1|2|3=>
   rw [if_pos (by omega),List.getElem?_drop,Array.getElem?_toList,Array.getElem?_map,Array.getElem?_range,if_pos (by omega)]
   simp only [Option.map_some,List.size_toArray,List.length_cons,List.length_nil]
   first
    | rw [show (i * 4+0) % 4=0 by omega]; rfl
    | rw [show (i * 4+1) % 4=1 by omega]; rfl
    | rw [show (i * 4+2) % 4=2 by omega]; rfl
    | rw [show (i * 4+3) % 4=3 by omega]; rfl
  | j+4=>
   rw [if_neg (by omega)]
   rfl
 ·have e:st0[i]=none:=by simp only [st0,List.getElem_replicate]
  rw [e] at ht
  cases ht
section
variable {P:Program} {w w0:World} {X:List Nat} {L:List Item} {S:Store} {K:Value->World->Prop}
attribute [local irreducible] Run CondV GuardV LoadV
theorem qj (h:Inv w0 X L S w) {T ty e:TypeId} {k by_ n:Nat} {z:Value} (hT:mkOf P T=some (e,k,by_,z)) (hn:n<=4294967296) (hby:by_<=65536) (hn0:n * k≠0)
  (hk:∀ b w',Inv w0 X (L++[.blk b (.cells ((Array.range (n * k)).map (z.cells[· % z.cells.size]!)) e)]) S w'->K (.slice (some ⟨b,0,none⟩) n n) w') :
  Run P (sOp (.makeSlice T (.const (.int .i64 n)) (.const (.int .i64 n))) ty) w K:=by
 obtain ⟨hu,i,hi,hz,hs,hb,hzs⟩:=mkOf_some hT
 have hw:IntKind.i64.wrap (n:Int)=n:=IntWalk.i64_in _ (by omega)
 have hle:by_ * n<=2 ^ 48:=Nat.le_trans (Nat.mul_le_mul hby hn) (by decide)
 have h1:¬ ((n:Int)<0):=by omega
 have h2:¬ (281474976710656<(i.bytes:Int) * (n:Int)):=by
  rw [hb]
  have:((by_ * n:Nat):Int)<=((2 ^ 48:Nat):Int):=by exact_mod_cast hle
  have e:(((2 ^ 48:Nat)):Int)=281474976710656:=by decide
  rw [e,Int.natCast_mul] at this
  omega
 refine Run.of (v:=.slice (some ⟨w.heap.size,0,none⟩) n n) (w':={ w with heap:=w.heap.push (.cells ((Array.range (n * k)).map (z.cells[· % z.cells.size]!)) e) }) ?_ (hk _ _ (h.alloc _))
 simp [sOp,execOp,ev0,evE,Instr.makeSlice,run_underlying hu,asInt,asIntOf,typeInfo,hi,hw,h1,h2,sizeOf,hs,newRow,newObj,Sem.run,hn0,zeroValue,hz]
end
section
attribute [local irreducible] Run CondV GuardV LoadV
theorem bo {c0 d0:C} {S:Store} {cs ds:List Value} (h:RdC S cs c0) (g:RdC S ds d0) (hw:wC c0<=1048576) (hw2:wC d0<=1048576):Pure Tryz.prog io [.agg cs.toArray,.agg ds.toArray] S (.bool (ed c0 d0)):=by
 intro w hI
 obtain ⟨hd,kb1,rfl,h1,h2⟩:=h
 obtain ⟨hd2,kb2,rfl,g1,g2⟩:=g
 have h1':=h1
 have g1':=g1
 obtain ⟨kv,rfl,_,_,_,_⟩:=RdT.iff.1 h1
 obtain ⟨kv2,rfl,_,_,_,_⟩:=RdT.iff.1 g1
 have h0:RdC S [.int .i64 c0.head.kind,.int .i64 c0.head.n,.string c0.head.name,kv,kb1] c0:=⟨_,kb1,rfl,h1',h2⟩
 have g0:RdC S [.int .i64 d0.head.kind,.int .i64 d0.head.n,.string d0.head.name,kv2,kb2] d0:=⟨_,kb2,rfl,g1',g2⟩
 refine eB ?_
 unfold df
 refine r_box hI fun b1 w' hI=>?_
 refine r_box hI fun b2 w' hI=>?_
 have hI:Inv w [] [.blk b1 (.cells #[.int .i64 c0.head.kind,.int .i64 c0.head.n,.string c0.head.name,kv,kb1] af),.blk b2 (.cells #[.int .i64 d0.head.kind,.int .i64 d0.head.n,.string d0.head.name,kv2,kb2] af)] S w':=hI
 refine ⟨fun q w'=>q=.bool (!gh c0 d0)/\Inv w [] [.blk b1 (.cells #[.int .i64 c0.head.kind,.int .i64 c0.head.n,.string c0.head.name,kv,kb1] af),.blk b2 (.cells #[.int .i64 d0.head.kind,.int .i64 d0.head.n,.string d0.head.name,kv2,kb2] af)] S w',?_,?_⟩
 ·refine r_loadW hI 0 al rfl rfl ?_
  refine Run.callPure cN cP hI (cu h0 hw) fun w' hI=>?_
  refine r_not ?_
  cases hv1:aO c0
  ·repeat (first|refine ac ?_|refine ag (by decide) ?_|refine ae ?_|refine ai ?_|refine ah ?_)
   exact ⟨by rw [gh,hv1]; rfl,hI⟩
  repeat (first|refine ac ?_|refine ag (by decide) ?_|refine ae ?_|refine ai ?_|refine ah ?_)
  refine r_loadW hI 1 al rfl rfl ?_
  refine Run.callPure cN cP hI (cu g0 hw2) fun w' hI=>?_
  refine r_not ?_
  cases hv2:aO d0
  ·repeat (first|refine ac ?_|refine ag (by decide) ?_|refine ae ?_|refine ai ?_|refine ah ?_)
   exact ⟨by rw [gh,hv1,hv2]; rfl,hI⟩
  repeat (first|refine ac ?_|refine ag (by decide) ?_|refine ae ?_|refine ai ?_|refine ah ?_)
  refine r_fieldL hI 1 rfl aw ao rfl ?_
  refine r_lenSl g2 aq ?_
  refine r_fieldL hI 0 rfl aw ao rfl ?_
  refine r_lenSl h2 aq ?_
  refine r_gtr ?_
  repeat (first|refine ac ?_|refine ag (by decide) ?_|refine ae ?_|refine ai ?_|refine ah ?_)
  refine ⟨?_,hI⟩
  have e:decide ((c0.body.length:Int)<d0.body.length)=!decide (d0.body.length<=c0.body.length):=by
   by_cases hq:d0.body.length<=c0.body.length
   ·rw [decide_eq_true hq,decide_eq_false (by omega)]; rfl
   ·rw [decide_eq_false hq,decide_eq_true (by omega)]; rfl
  rw [gh,hv1,hv2,e]; rfl
 intro q _ _ _ _ _ _ _ _ _ _ _ _ _ _ _ _ w'
 rintro ⟨rfl,hI⟩
 rw [jv]
 cases hsg:gh c0 d0
 ·refine condV (fun _=>done hI rfl) (fun hb=>by cases hb)
 refine condV (fun hb=>by cases hb) (fun _=>?_)
 obtain ⟨hok1,hok2,hok3,hok4,hlen⟩:=un hsg
 simp only [Bool.true_and]
 have hlb:=g2.le
 simp only [maxLen] at hlb
 refine qj (n:=26) hI aR (by omega) (by omega) (by omega) fun kb w' hI=>?_
 have hkc0:=xL _ rfl S
 obtain ⟨kc,hkce⟩:∃ kc,kc=(Array.range 104).map ((#[.int .i64 0,.int .i64 0,.string ⟨#[]⟩,.slice none 0 0]:Array Value)[· % (#[.int .i64 0,.int .i64 0,.string ⟨#[]⟩,.slice none 0 0]:Array Value).size]!):=⟨_,rfl⟩
 rw [<- hkce] at hkc0
 have hI:Inv w [] [.blk b1 (.cells #[.int .i64 c0.head.kind,.int .i64 c0.head.n,.string c0.head.name,kv,kb1] af),.blk b2 (.cells #[.int .i64 d0.head.kind,.int .i64 d0.head.n,.string d0.head.name,kv2,kb2] af),.blk kb (.cells kc ad)] S w':=by rw [hkce]; exact hI
 refine r_field aQ ?_
 refine r_loadLA hI 1 [.int .i64 d0.head.kind,.int .i64 d0.head.n,.string d0.head.name,kv2] aj rfl rfl mK ?_
 refine r_field aQ ?_
 refine r_loadLA hI 0 [.int .i64 c0.head.kind,.int .i64 c0.head.n,.string c0.head.name,kv] aj rfl rfl mK ?_
 have hcall:=hG 26 d0.head c0.head S _ _ kb kc st0 g1' h1' hok1 hok2 ox hkc0
 have hsn:=cX d0.head c0.head st0 ox hok2
 generalize aN d0.head c0.head st0=r0 at hcall hsn ⊢
 refine Run.call (A:=[_,_]) eH eN hI hcall fun v' I' S w'=>?_
 rintro ⟨rfl,rfl,kc,rfl,hkc⟩ _ hI
 refine r_not ?_
 cases hr0:r0.1
 ·refine condV (fun _=>done hI rfl) (fun hb=>by cases hb)
 refine condV (fun hb=>by cases hb) (fun _=>?_)
 simp only [Bool.true_and]
 refine ⟨fun i w'=>∃ (j:Nat) (st':aE) (kc:Array Value),j<=d0.body.length/\i=.int .i64 j/\ba (d0.body.drop j) (c0.body.drop j) st'=ba d0.body c0.body r0.2/\kM st'/\KnownC S kc st'/\Inv w [] [.blk b1 (.cells #[.int .i64 c0.head.kind,.int .i64 c0.head.n,.string c0.head.name,kv,kb1] af),.blk b2 (.cells #[.int .i64 d0.head.kind,.int .i64 d0.head.n,.string d0.head.name,kv2,kb2] af),.blk kb (.cells kc ad)] S w',fun i _=>d0.body.length - (intOf i).toNat,⟨0,r0.2,kc,Nat.zero_le _,rfl,rfl,hsn,hkc,hI⟩,?_⟩
 intro t6 _ _ _ _ _ _ _ _ _ _ _ _ _ _ _ _ _ _ _ _ _ w'
 rintro ⟨j,st',kc,hj,rfl,hrel,hst',hkc,hI⟩
 refine r_fieldL hI 1 rfl aw ao rfl ?_
 refine r_lenSl g2 aq ?_
 refine r_lss ?_
 refine condP (fun hji=>?_) (fun hji=>?_)
 ·have hj1:j<d0.body.length:=by omega
  have hj2:j<c0.body.length:=by omega
  obtain ⟨c1,o1,cap1,a1,E1,fz1,rfl,hS1,hR1⟩:=h2.at_ hj2
  obtain ⟨c2,o2,cap2,a2,E2,fz2,rfl,hS2,hR2⟩:=g2.at_ hj1
  rw [dK d0.body c0.body st' j hj1 hj2] at hrel
  have hcall:=hG 26 d0.body[j] c0.body[j] S _ _ kb kc st' hR2 hR1 (fh hok3 _ (List.getElem_mem hj1)) (cJ hok4 _ (List.getElem_mem hj2)) hst' hkc
  have hsn:=cX d0.body[j] c0.body[j] st' hst' (cJ hok4 _ (List.getElem_mem hj2))
  generalize aN d0.body[j] c0.body[j] st'=r at hrel hcall hsn
  refine ⟨fun D x51 x50 x49 x48 x47 x46 x45 x44 x43 x42 x41 x40 x39 w_=>(D 0=true->x39=.pointer (some ⟨b2,4,none⟩))/\(D 1=true->x40=.slice (some ⟨c2,o2,none⟩) d0.body.length cap2)/\(D 2=true->x41=.int .i64 j)/\(D 3=true->x42=.pointer (some ⟨c2,o2+j * 4,none⟩))/\(D 4=true->x43=.agg (cellsAt a2 (o2+j * 4) 4).toArray)/\(D 5=true->x44=.pointer (some ⟨b1,4,none⟩))/\(D 6=true->x45=.slice (some ⟨c1,o1,none⟩) c0.body.length cap1)/\(D 7=true->x46=.int .i64 j)/\(D 8=true->x47=.pointer (some ⟨c1,o1+j * 4,none⟩))/\(D 9=true->x48=.agg (cellsAt a1 (o1+j * 4) 4).toArray)/\(D 10=true->x49=kv0 kb)/\(D 11=true->x50=.bool r.1)/\(D 12=true->x51=.bool (!r.1))/\(D 11=false->Inv w [] [.blk b1 (.cells #[.int .i64 c0.head.kind,.int .i64 c0.head.n,.string c0.head.name,kv,.slice (some ⟨c1,o1,none⟩) c0.body.length cap1] af),.blk b2 (.cells #[.int .i64 d0.head.kind,.int .i64 d0.head.n,.string d0.head.name,kv2,.slice (some ⟨c2,o2,none⟩) d0.body.length cap2] af),.blk kb (.cells kc ad)] S w_)/\(D 11=true->∃ kc2,KnownC S kc2 r.2/\Inv w [] [.blk b1 (.cells #[.int .i64 c0.head.kind,.int .i64 c0.head.n,.string c0.head.name,kv,.slice (some ⟨c1,o1,none⟩) c0.body.length cap1] af),.blk b2 (.cells #[.int .i64 d0.head.kind,.int .i64 d0.head.n,.string d0.head.name,kv2,.slice (some ⟨c2,o2,none⟩) d0.body.length cap2] af),.blk kb (.cells kc2 ad)] S w_)/\∃ kc3,Inv w [] [.blk b1 (.cells #[.int .i64 c0.head.kind,.int .i64 c0.head.n,.string c0.head.name,kv,.slice (some ⟨c1,o1,none⟩) c0.body.length cap1] af),.blk b2 (.cells #[.int .i64 d0.head.kind,.int .i64 d0.head.n,.string d0.head.name,kv2,.slice (some ⟨c2,o2,none⟩) d0.body.length cap2] af),.blk kb (.cells kc3 ad)] S w_,⟨fun h=>Bool.noConfusion h,fun h=>Bool.noConfusion h,fun h=>Bool.noConfusion h,fun h=>Bool.noConfusion h,fun h=>Bool.noConfusion h,fun h=>Bool.noConfusion h,fun h=>Bool.noConfusion h,fun h=>Bool.noConfusion h,fun h=>Bool.noConfusion h,fun h=>Bool.noConfusion h,fun h=>Bool.noConfusion h,fun h=>Bool.noConfusion h,fun h=>Bool.noConfusion h,⟨fun _=>hI.draw,fun h=>Bool.noConfusion h,kc,hI.draw⟩⟩,⟨?_,?_,?_,?_,?_,?_,?_,?_,?_,?_,?_,?_,?_,trivial⟩,?_⟩
  ·intro D hD_  x51 x50 x49 x48 x47 x46 x45 x44 x43 x42 x41 x40 x39 w_
   rintro ⟨h0_,h1_,h2_,h3_,h4_,h5_,h6_,h7_,h8_,h9_,h10_,h11_,h12_,⟨hI0,hI1,kc3,hI⟩⟩
   refine r_field aw ?_
   exact ⟨fun _=>rfl,h1_,h2_,h3_,h4_,h5_,h6_,h7_,h8_,h9_,h10_,h11_,h12_,⟨hI0,hI1,kc3,hI⟩⟩
  ·intro D hD_ d0_0 x51 x50 x49 x48 x47 x46 x45 x44 x43 x42 x41 x40 x39 w_
   rintro ⟨h0_,h1_,h2_,h3_,h4_,h5_,h6_,h7_,h8_,h9_,h10_,h11_,h12_,⟨hI0,hI1,kc3,hI⟩⟩
   obtain rfl:=h0_ d0_0
   refine r_loadL hI 1 ao rfl rfl ?_
   exact ⟨h0_,fun _=>rfl,h2_,h3_,h4_,h5_,h6_,h7_,h8_,h9_,h10_,h11_,h12_,⟨hI0,hI1,kc3,hI⟩⟩
  ·intro D hD_  x51 x50 x49 x48 x47 x46 x45 x44 x43 x42 x41 x40 x39 w_
   rintro ⟨h0_,h1_,h2_,h3_,h4_,h5_,h6_,h7_,h8_,h9_,h10_,h11_,h12_,⟨hI0,hI1,kc3,hI⟩⟩
   exact ⟨h0_,h1_,fun _=>rfl,h3_,h4_,h5_,h6_,h7_,h8_,h9_,h10_,h11_,h12_,⟨hI0,hI1,kc3,hI⟩⟩
  ·intro D hD_ d1_0 d2_1 x51 x50 x49 x48 x47 x46 x45 x44 x43 x42 x41 x40 x39 w_
   rintro ⟨h0_,h1_,h2_,h3_,h4_,h5_,h6_,h7_,h8_,h9_,h10_,h11_,h12_,⟨hI0,hI1,kc3,hI⟩⟩
   obtain rfl:=h1_ d1_0
   obtain rfl:=h2_ d2_1
   refine r_indexAddr aq hj1 ?_
   exact ⟨h0_,h1_,h2_,fun _=>rfl,h4_,h5_,h6_,h7_,h8_,h9_,h10_,h11_,h12_,⟨hI0,hI1,kc3,hI⟩⟩
  ·intro D hD_ d3_0 x51 x50 x49 x48 x47 x46 x45 x44 x43 x42 x41 x40 x39 w_
   rintro ⟨h0_,h1_,h2_,h3_,h4_,h5_,h6_,h7_,h8_,h9_,h10_,h11_,h12_,⟨hI0,hI1,kc3,hI⟩⟩
   obtain rfl:=h3_ d3_0
   refine r_loadA aj hR2.length (fun j v hj=>by rw [hI.cellS hS2]; exact cellsAt_get rfl j v hj) ?_
   exact ⟨h0_,h1_,h2_,h3_,fun _=>rfl,h5_,h6_,h7_,h8_,h9_,h10_,h11_,h12_,⟨hI0,hI1,kc3,hI⟩⟩
  ·intro D hD_  x51 x50 x49 x48 x47 x46 x45 x44 x43 x42 x41 x40 x39 w_
   rintro ⟨h0_,h1_,h2_,h3_,h4_,h5_,h6_,h7_,h8_,h9_,h10_,h11_,h12_,⟨hI0,hI1,kc3,hI⟩⟩
   refine r_field aw ?_
   exact ⟨h0_,h1_,h2_,h3_,h4_,fun _=>rfl,h6_,h7_,h8_,h9_,h10_,h11_,h12_,⟨hI0,hI1,kc3,hI⟩⟩
  ·intro D hD_ d5_0 x51 x50 x49 x48 x47 x46 x45 x44 x43 x42 x41 x40 x39 w_
   rintro ⟨h0_,h1_,h2_,h3_,h4_,h5_,h6_,h7_,h8_,h9_,h10_,h11_,h12_,⟨hI0,hI1,kc3,hI⟩⟩
   obtain rfl:=h5_ d5_0
   refine r_loadL hI 0 ao rfl rfl ?_
   exact ⟨h0_,h1_,h2_,h3_,h4_,h5_,fun _=>rfl,h7_,h8_,h9_,h10_,h11_,h12_,⟨hI0,hI1,kc3,hI⟩⟩
  ·intro D hD_  x51 x50 x49 x48 x47 x46 x45 x44 x43 x42 x41 x40 x39 w_
   rintro ⟨h0_,h1_,h2_,h3_,h4_,h5_,h6_,h7_,h8_,h9_,h10_,h11_,h12_,⟨hI0,hI1,kc3,hI⟩⟩
   exact ⟨h0_,h1_,h2_,h3_,h4_,h5_,h6_,fun _=>rfl,h8_,h9_,h10_,h11_,h12_,⟨hI0,hI1,kc3,hI⟩⟩
  ·intro D hD_ d6_0 d7_1 x51 x50 x49 x48 x47 x46 x45 x44 x43 x42 x41 x40 x39 w_
   rintro ⟨h0_,h1_,h2_,h3_,h4_,h5_,h6_,h7_,h8_,h9_,h10_,h11_,h12_,⟨hI0,hI1,kc3,hI⟩⟩
   obtain rfl:=h6_ d6_0
   obtain rfl:=h7_ d7_1
   refine r_indexAddr aq hj2 ?_
   exact ⟨h0_,h1_,h2_,h3_,h4_,h5_,h6_,h7_,fun _=>rfl,h9_,h10_,h11_,h12_,⟨hI0,hI1,kc3,hI⟩⟩
  ·intro D hD_ d8_0 x51 x50 x49 x48 x47 x46 x45 x44 x43 x42 x41 x40 x39 w_
   rintro ⟨h0_,h1_,h2_,h3_,h4_,h5_,h6_,h7_,h8_,h9_,h10_,h11_,h12_,⟨hI0,hI1,kc3,hI⟩⟩
   obtain rfl:=h8_ d8_0
   refine r_loadA aj hR1.length (fun j v hj=>by rw [hI.cellS hS1]; exact cellsAt_get rfl j v hj) ?_
   exact ⟨h0_,h1_,h2_,h3_,h4_,h5_,h6_,h7_,h8_,fun _=>rfl,h10_,h11_,h12_,⟨hI0,hI1,kc3,hI⟩⟩
  ·intro D hD_  x51 x50 x49 x48 x47 x46 x45 x44 x43 x42 x41 x40 x39 w_
   rintro ⟨h0_,h1_,h2_,h3_,h4_,h5_,h6_,h7_,h8_,h9_,h10_,h11_,h12_,⟨hI0,hI1,kc3,hI⟩⟩
   exact ⟨h0_,h1_,h2_,h3_,h4_,h5_,h6_,h7_,h8_,h9_,fun _=>rfl,h11_,h12_,⟨hI0,hI1,kc3,hI⟩⟩
  ·intro D hD_ d4_0 d9_1 d10_2 x51 x50 x49 x48 x47 x46 x45 x44 x43 x42 x41 x40 x39 w_
   rintro ⟨h0_,h1_,h2_,h3_,h4_,h5_,h6_,h7_,h8_,h9_,h10_,h11_,h12_,⟨hI0,hI1,kc3,hI⟩⟩
   obtain rfl:=h4_ d4_0
   obtain rfl:=h9_ d9_1
   obtain rfl:=h10_ d10_2
   refine Run.call (A:=[_,_]) eH eN (hI0 hD_) hcall fun v' I' S w_=>?_
   rintro ⟨rfl,rfl,kc2,rfl,hk2⟩ _ hI
   have hI0:=fun (h:setD D 11 11=false)=>(Bool.noConfusion h:Inv w [] [.blk b1 (.cells #[.int .i64 c0.head.kind,.int .i64 c0.head.n,.string c0.head.name,kv,.slice (some ⟨c1,o1,none⟩) c0.body.length cap1] af),.blk b2 (.cells #[.int .i64 d0.head.kind,.int .i64 d0.head.n,.string d0.head.name,kv2,.slice (some ⟨c2,o2,none⟩) d0.body.length cap2] af),.blk kb (.cells kc ad)] S w_)
   have hI1:=fun (_:setD D 11 11=true)=>(⟨kc2,hk2,hI⟩:∃ kc2,KnownC S kc2 r.2/\Inv w [] [.blk b1 (.cells #[.int .i64 c0.head.kind,.int .i64 c0.head.n,.string c0.head.name,kv,.slice (some ⟨c1,o1,none⟩) c0.body.length cap1] af),.blk b2 (.cells #[.int .i64 d0.head.kind,.int .i64 d0.head.n,.string d0.head.name,kv2,.slice (some ⟨c2,o2,none⟩) d0.body.length cap2] af),.blk kb (.cells kc2 ad)] S w_)
   obtain ⟨kc3,hI⟩:∃ kc3,Inv w [] [.blk b1 (.cells #[.int .i64 c0.head.kind,.int .i64 c0.head.n,.string c0.head.name,kv,.slice (some ⟨c1,o1,none⟩) c0.body.length cap1] af),.blk b2 (.cells #[.int .i64 d0.head.kind,.int .i64 d0.head.n,.string d0.head.name,kv2,.slice (some ⟨c2,o2,none⟩) d0.body.length cap2] af),.blk kb (.cells kc3 ad)] S w_:=⟨kc2,hI⟩
   exact ⟨h0_,h1_,h2_,h3_,h4_,h5_,h6_,h7_,h8_,h9_,h10_,fun _=>rfl,h12_,⟨hI0,hI1,kc3,hI⟩⟩
  ·intro D hD_ d11_0 x51 x50 x49 x48 x47 x46 x45 x44 x43 x42 x41 x40 x39 w_
   rintro ⟨h0_,h1_,h2_,h3_,h4_,h5_,h6_,h7_,h8_,h9_,h10_,h11_,h12_,⟨hI0,hI1,kc3,hI⟩⟩
   obtain rfl:=h11_ d11_0
   refine r_not ?_
   exact ⟨h0_,h1_,h2_,h3_,h4_,h5_,h6_,h7_,h8_,h9_,h10_,h11_,fun _=>rfl,⟨hI0,hI1,kc3,hI⟩⟩
  intro D d12_ d11_ d10_ d9_ d8_ d7_ d6_ d5_ d4_ d3_ d2_ d1_ d0_ x51 x50 x49 x48 x47 x46 x45 x44 x43 x42 x41 x40 x39 w_
  rintro ⟨h0_,h1_,h2_,h3_,h4_,h5_,h6_,h7_,h8_,h9_,h10_,h11_,h12_,⟨hI0,hI1,kc3,hI⟩⟩
  obtain rfl:=h12_ d12_
  obtain rfl:=h11_ d11_
  obtain rfl:=h10_ d10_
  obtain rfl:=h9_ d9_
  obtain rfl:=h8_ d8_
  obtain rfl:=h7_ d7_
  obtain rfl:=h6_ d6_
  obtain rfl:=h5_ d5_
  obtain rfl:=h4_ d4_
  obtain rfl:=h3_ d3_
  obtain rfl:=h2_ d2_
  obtain rfl:=h1_ d1_
  obtain rfl:=h0_ d0_
  clear h0_ h1_ h2_ h3_ h4_ h5_ h6_ h7_ h8_ h9_ h10_ h11_ h12_
  obtain ⟨kc2,hk2,hI⟩:=hI1 d11_
  clear hI0 hI1
  refine condV (fun hne=>?_) (fun he'=>?_)
  ·simp only [Bool.not_eq_true'] at hne
   rw [hne,if_neg (by decide)] at hrel
   rw [<- hrel]
   exact done hI rfl
  ·simp only [Bool.not_eq_false'] at he'
   rw [he',if_pos rfl] at hrel
   refine r_add (by omega) ?_
   exact ⟨⟨j+1,r.2,kc2,hj1,rfl,hrel,hsn,hk2,hI⟩,by simp [intOf]; omega⟩
 ·have:j=d0.body.length:=by omega
  subst this
  rw [List.drop_length,ba] at hrel
  rw [<- hrel]
  exact done hI rfl
theorem aS {c0 d0:C} {S:Store} {cs ds:List Value} (h:RdC S cs c0) (g:RdC S ds d0):Pure Tryz.prog iD [.agg cs.toArray,.agg ds.toArray] S (.bool (ed c0 d0)):=by
 intro w hI
 obtain ⟨hd,kb1,rfl,h1,h2⟩:=h
 obtain ⟨hd2,kb2,rfl,g1,g2⟩:=g
 have h1':=h1
 have g1':=g1
 obtain ⟨kv,rfl,_,_,_,_⟩:=RdT.iff.1 h1
 obtain ⟨kv2,rfl,_,_,_,_⟩:=RdT.iff.1 g1
 have h0:RdC S [.int .i64 c0.head.kind,.int .i64 c0.head.n,.string c0.head.name,kv,kb1] c0:=⟨_,kb1,rfl,h1',h2⟩
 have g0:RdC S [.int .i64 d0.head.kind,.int .i64 d0.head.n,.string d0.head.name,kv2,kb2] d0:=⟨_,kb2,rfl,g1',g2⟩
 refine ew ?_
 unfold dh
 refine r_box hI fun b1 w' hI=>?_
 refine r_box hI fun b2 w' hI=>?_
 have hI:Inv w [] [.blk b1 (.cells #[.int .i64 c0.head.kind,.int .i64 c0.head.n,.string c0.head.name,kv,kb1] af),.blk b2 (.cells #[.int .i64 d0.head.kind,.int .i64 d0.head.n,.string d0.head.name,kv2,kb2] af)] S w':=hI
 refine ⟨fun q w'=>q=.bool (!gh c0 d0)/\Inv w [] [.blk b1 (.cells #[.int .i64 c0.head.kind,.int .i64 c0.head.n,.string c0.head.name,kv,kb1] af),.blk b2 (.cells #[.int .i64 d0.head.kind,.int .i64 d0.head.n,.string d0.head.name,kv2,kb2] af)] S w',?_,?_⟩
 ·refine r_loadW hI 0 al rfl rfl ?_
  refine Run.callPure bq bt hI (bk h0) fun w' hI=>?_
  refine r_not ?_
  cases hv1:aO c0
  ·repeat (first|refine ac ?_|refine ag (by decide) ?_|refine ae ?_|refine ai ?_|refine ah ?_)
   exact ⟨by rw [gh,hv1]; rfl,hI⟩
  repeat (first|refine ac ?_|refine ag (by decide) ?_|refine ae ?_|refine ai ?_|refine ah ?_)
  refine r_loadW hI 1 al rfl rfl ?_
  refine Run.callPure bq bt hI (bk g0) fun w' hI=>?_
  refine r_not ?_
  cases hv2:aO d0
  ·repeat (first|refine ac ?_|refine ag (by decide) ?_|refine ae ?_|refine ai ?_|refine ah ?_)
   exact ⟨by rw [gh,hv1,hv2]; rfl,hI⟩
  repeat (first|refine ac ?_|refine ag (by decide) ?_|refine ae ?_|refine ai ?_|refine ah ?_)
  refine r_fieldL hI 1 rfl aw ao rfl ?_
  refine r_lenSl g2 aq ?_
  refine r_fieldL hI 0 rfl aw ao rfl ?_
  refine r_lenSl h2 aq ?_
  refine r_gtr ?_
  repeat (first|refine ac ?_|refine ag (by decide) ?_|refine ae ?_|refine ai ?_|refine ah ?_)
  refine ⟨?_,hI⟩
  have e:decide ((c0.body.length:Int)<d0.body.length)=!decide (d0.body.length<=c0.body.length):=by
   by_cases hq:d0.body.length<=c0.body.length
   ·rw [decide_eq_true hq,decide_eq_false (by omega)]; rfl
   ·rw [decide_eq_false hq,decide_eq_true (by omega)]; rfl
  rw [gh,hv1,hv2,e]; rfl
 intro q _ _ _ _ _ _ _ _ _ _ _ _ _ _ _ _ w'
 rintro ⟨rfl,hI⟩
 rw [jv]
 cases hsg:gh c0 d0
 ·refine condV (fun _=>done hI rfl) (fun hb=>by cases hb)
 refine condV (fun hb=>by cases hb) (fun _=>?_)
 obtain ⟨hok1,hok2,hok3,hok4,hlen⟩:=un hsg
 simp only [Bool.true_and]
 have hlb:=g2.le
 simp only [maxLen] at hlb
 refine pA hI fun mb w' hI=>?_
 refine r_field aQ ?_
 refine r_loadLA hI 0 [.int .i64 c0.head.kind,.int .i64 c0.head.n,.string c0.head.name,kv] aj rfl rfl mK ?_
 refine r_field aQ ?_
 refine r_loadLA hI 1 [.int .i64 d0.head.kind,.int .i64 d0.head.n,.string d0.head.name,kv2] aj rfl rfl mK ?_
 have hcall:=dA d0.head c0.head S _ _ mb 0 #[] st0 g1' h1' hok1 hok2 ox (KnownM.empty S)
 have hsn:=cX d0.head c0.head st0 ox hok2
 generalize aN d0.head c0.head st0=r0 at hcall hsn ⊢
 refine Run.call (A:=[_,_]) cS cR hI hcall fun v' I' S w'=>?_
 rintro ⟨rfl,rfl,es,ck,rfl,hkc⟩ _ hI
 refine r_not ?_
 cases hr0:r0.1
 ·refine condV (fun _=>done hI rfl) (fun hb=>by cases hb)
 refine condV (fun hb=>by cases hb) (fun _=>?_)
 simp only [Bool.true_and]
 refine r_fieldL hI 1 rfl aw ao rfl ?_
 refine r_lenSl g2 aq ?_
 refine ⟨fun i w'=>∃ (j:Nat) (st':aE) (es:Array MapEntry) (ck:Nat),j<=d0.body.length/\i=.int .i64 j/\ba (d0.body.drop j) (c0.body.drop j) st'=ba d0.body c0.body r0.2/\kM st'/\KnownM S es st'/\Inv w [] [.blk b1 (.cells #[.int .i64 c0.head.kind,.int .i64 c0.head.n,.string c0.head.name,kv,kb1] af),.blk b2 (.cells #[.int .i64 d0.head.kind,.int .i64 d0.head.n,.string d0.head.name,kv2,kb2] af),.blk mb (.map es ck)] S w',fun i _=>d0.body.length - (intOf i).toNat,⟨0,r0.2,es,ck,Nat.zero_le _,rfl,rfl,hsn,hkc,hI⟩,?_⟩
 intro t36 _ _ _ _ _ _ _ _ _ _ _ _ _ _ _ _ _ w'
 rintro ⟨j,st',es,ck,hj,rfl,hrel,hst',hkc,hI⟩
 refine r_lss ?_
 refine condP (fun hji=>?_) (fun hji=>?_)
 ·have hj1:j<d0.body.length:=by omega
  have hj2:j<c0.body.length:=by omega
  obtain ⟨c1,o1,cap1,a1,E1,fz1,rfl,hS1,hR1⟩:=h2.at_ hj2
  obtain ⟨c2,o2,cap2,a2,E2,fz2,rfl,hS2,hR2⟩:=g2.at_ hj1
  rw [dK d0.body c0.body st' j hj1 hj2] at hrel
  have hcall:=dA d0.body[j] c0.body[j] S _ _ mb ck es st' hR2 hR1 (fh hok3 _ (List.getElem_mem hj1)) (cJ hok4 _ (List.getElem_mem hj2)) hst' hkc
  have hsn:=cX d0.body[j] c0.body[j] st' hst' (cJ hok4 _ (List.getElem_mem hj2))
  generalize aN d0.body[j] c0.body[j] st'=r at hrel hcall hsn
  refine r_indexAddr aq hj1 ?_
  refine r_loadA (cs:=cellsAt a2 (o2+j * 4) 4) aj hR2.length (fun j v hj=>by rw [hI.cellS hS2]; exact cellsAt_get rfl j v hj) ?_
  have hl2:=hR2.length
  refine r_alloc hI aK fun b7 w' hI=>?_
  refine au hI 3 rfl aj (by simpa using hl2) rfl (by simpa using hR2.one) fun w' hI=>?_
  have hI:Inv w [] [.blk b1 (.cells #[.int .i64 c0.head.kind,.int .i64 c0.head.n,.string c0.head.name,kv,.slice (some ⟨c1,o1,none⟩) c0.body.length cap1] af),.blk b2 (.cells #[.int .i64 d0.head.kind,.int .i64 d0.head.n,.string d0.head.name,kv2,.slice (some ⟨c2,o2,none⟩) d0.body.length cap2] af),.blk b7 (.cells (cellsAt a2 (o2+j * 4) 4).toArray ad),.blk mb (.map es ck)] S w':=hI.perm (((List.Perm.swap _ _ _).cons _).cons _)
  refine ⟨fun D x49 x48 x47 x46 x45 x44 x43 x42 x41 w_=>(D 0=true->x41=.pointer (some ⟨b1,4,none⟩))/\(D 1=true->x42=.slice (some ⟨c1,o1,none⟩) c0.body.length cap1)/\(D 2=true->x43=.int .i64 j)/\(D 3=true->x44=.pointer (some ⟨c1,o1+j * 4,none⟩))/\(D 4=true->x45=.agg (cellsAt a1 (o1+j * 4) 4).toArray)/\(D 5=true->x46=.agg (cellsAt a2 (o2+j * 4) 4).toArray)/\(D 6=true->x47=.map (some mb))/\(D 7=true->x48=.bool r.1)/\(D 8=true->x49=.bool (!r.1))/\(D 7=false->Inv w [] [.blk b1 (.cells #[.int .i64 c0.head.kind,.int .i64 c0.head.n,.string c0.head.name,kv,.slice (some ⟨c1,o1,none⟩) c0.body.length cap1] af),.blk b2 (.cells #[.int .i64 d0.head.kind,.int .i64 d0.head.n,.string d0.head.name,kv2,.slice (some ⟨c2,o2,none⟩) d0.body.length cap2] af),.blk b7 (.cells (cellsAt a2 (o2+j * 4) 4).toArray ad),.blk mb (.map es ck)] S w_)/\(D 7=true->∃ es2 ck2,KnownM S es2 r.2/\Inv w [] [.blk b1 (.cells #[.int .i64 c0.head.kind,.int .i64 c0.head.n,.string c0.head.name,kv,.slice (some ⟨c1,o1,none⟩) c0.body.length cap1] af),.blk b2 (.cells #[.int .i64 d0.head.kind,.int .i64 d0.head.n,.string d0.head.name,kv2,.slice (some ⟨c2,o2,none⟩) d0.body.length cap2] af),.blk b7 (.cells (cellsAt a2 (o2+j * 4) 4).toArray ad),.blk mb (.map es2 ck2)] S w_)/\∃ es3 ck3,Inv w [] [.blk b1 (.cells #[.int .i64 c0.head.kind,.int .i64 c0.head.n,.string c0.head.name,kv,.slice (some ⟨c1,o1,none⟩) c0.body.length cap1] af),.blk b2 (.cells #[.int .i64 d0.head.kind,.int .i64 d0.head.n,.string d0.head.name,kv2,.slice (some ⟨c2,o2,none⟩) d0.body.length cap2] af),.blk b7 (.cells (cellsAt a2 (o2+j * 4) 4).toArray ad),.blk mb (.map es3 ck3)] S w_,⟨fun h=>Bool.noConfusion h,fun h=>Bool.noConfusion h,fun h=>Bool.noConfusion h,fun h=>Bool.noConfusion h,fun h=>Bool.noConfusion h,fun h=>Bool.noConfusion h,fun h=>Bool.noConfusion h,fun h=>Bool.noConfusion h,fun h=>Bool.noConfusion h,⟨fun _=>hI.draw,fun h=>Bool.noConfusion h,es,ck,hI.draw⟩⟩,⟨?_,?_,?_,?_,?_,?_,?_,?_,?_,trivial⟩,?_⟩
  ·intro D hD_  x49 x48 x47 x46 x45 x44 x43 x42 x41 w_
   rintro ⟨h0_,h1_,h2_,h3_,h4_,h5_,h6_,h7_,h8_,⟨hI0,hI1,es3,ck3,hI⟩⟩
   refine r_field aw ?_
   exact ⟨fun _=>rfl,h1_,h2_,h3_,h4_,h5_,h6_,h7_,h8_,⟨hI0,hI1,es3,ck3,hI⟩⟩
  ·intro D hD_ d0_0 x49 x48 x47 x46 x45 x44 x43 x42 x41 w_
   rintro ⟨h0_,h1_,h2_,h3_,h4_,h5_,h6_,h7_,h8_,⟨hI0,hI1,es3,ck3,hI⟩⟩
   obtain rfl:=h0_ d0_0
   refine r_loadL hI 0 ao rfl rfl ?_
   exact ⟨h0_,fun _=>rfl,h2_,h3_,h4_,h5_,h6_,h7_,h8_,⟨hI0,hI1,es3,ck3,hI⟩⟩
  ·intro D hD_  x49 x48 x47 x46 x45 x44 x43 x42 x41 w_
   rintro ⟨h0_,h1_,h2_,h3_,h4_,h5_,h6_,h7_,h8_,⟨hI0,hI1,es3,ck3,hI⟩⟩
   exact ⟨h0_,h1_,fun _=>rfl,h3_,h4_,h5_,h6_,h7_,h8_,⟨hI0,hI1,es3,ck3,hI⟩⟩
  ·intro D hD_ d1_0 d2_1 x49 x48 x47 x46 x45 x44 x43 x42 x41 w_
   rintro ⟨h0_,h1_,h2_,h3_,h4_,h5_,h6_,h7_,h8_,⟨hI0,hI1,es3,ck3,hI⟩⟩
   obtain rfl:=h1_ d1_0
   obtain rfl:=h2_ d2_1
   refine r_indexAddr aq hj2 ?_
   exact ⟨h0_,h1_,h2_,fun _=>rfl,h4_,h5_,h6_,h7_,h8_,⟨hI0,hI1,es3,ck3,hI⟩⟩
  ·intro D hD_ d3_0 x49 x48 x47 x46 x45 x44 x43 x42 x41 w_
   rintro ⟨h0_,h1_,h2_,h3_,h4_,h5_,h6_,h7_,h8_,⟨hI0,hI1,es3,ck3,hI⟩⟩
   obtain rfl:=h3_ d3_0
   refine r_loadA aj hR1.length (fun j v hj=>by rw [hI.cellS hS1]; exact cellsAt_get rfl j v hj) ?_
   exact ⟨h0_,h1_,h2_,h3_,fun _=>rfl,h5_,h6_,h7_,h8_,⟨hI0,hI1,es3,ck3,hI⟩⟩
  ·intro D hD_  x49 x48 x47 x46 x45 x44 x43 x42 x41 w_
   rintro ⟨h0_,h1_,h2_,h3_,h4_,h5_,h6_,h7_,h8_,⟨hI0,hI1,es3,ck3,hI⟩⟩
   refine r_loadW hI 2 aj rfl (by simpa using hl2) ?_
   exact ⟨h0_,h1_,h2_,h3_,h4_,fun _=>rfl,h6_,h7_,h8_,⟨hI0,hI1,es3,ck3,hI⟩⟩
  ·intro D hD_  x49 x48 x47 x46 x45 x44 x43 x42 x41 w_
   rintro ⟨h0_,h1_,h2_,h3_,h4_,h5_,h6_,h7_,h8_,⟨hI0,hI1,es3,ck3,hI⟩⟩
   exact ⟨h0_,h1_,h2_,h3_,h4_,h5_,fun _=>rfl,h7_,h8_,⟨hI0,hI1,es3,ck3,hI⟩⟩
  ·intro D hD_ d4_0 d5_1 d6_2 x49 x48 x47 x46 x45 x44 x43 x42 x41 w_
   rintro ⟨h0_,h1_,h2_,h3_,h4_,h5_,h6_,h7_,h8_,⟨hI0,hI1,es3,ck3,hI⟩⟩
   obtain rfl:=h4_ d4_0
   obtain rfl:=h5_ d5_1
   obtain rfl:=h6_ d6_2
   refine Run.call (A:=[_,_,_]) cS cR (hI0 hD_) hcall fun v' I' S w_=>?_
   rintro ⟨rfl,rfl,es2,ck2,rfl,hk2⟩ _ hI
   have hI0:=fun (h:setD D 7 7=false)=>(Bool.noConfusion h:Inv w [] [.blk b1 (.cells #[.int .i64 c0.head.kind,.int .i64 c0.head.n,.string c0.head.name,kv,.slice (some ⟨c1,o1,none⟩) c0.body.length cap1] af),.blk b2 (.cells #[.int .i64 d0.head.kind,.int .i64 d0.head.n,.string d0.head.name,kv2,.slice (some ⟨c2,o2,none⟩) d0.body.length cap2] af),.blk b7 (.cells (cellsAt a2 (o2+j * 4) 4).toArray ad),.blk mb (.map es ck)] S w_)
   have hI1:=fun (_:setD D 7 7=true)=>(⟨es2,ck2,hk2,hI⟩:∃ es2 ck2,KnownM S es2 r.2/\Inv w [] [.blk b1 (.cells #[.int .i64 c0.head.kind,.int .i64 c0.head.n,.string c0.head.name,kv,.slice (some ⟨c1,o1,none⟩) c0.body.length cap1] af),.blk b2 (.cells #[.int .i64 d0.head.kind,.int .i64 d0.head.n,.string d0.head.name,kv2,.slice (some ⟨c2,o2,none⟩) d0.body.length cap2] af),.blk b7 (.cells (cellsAt a2 (o2+j * 4) 4).toArray ad),.blk mb (.map es2 ck2)] S w_)
   obtain ⟨es3,ck3,hI⟩:∃ es3 ck3,Inv w [] [.blk b1 (.cells #[.int .i64 c0.head.kind,.int .i64 c0.head.n,.string c0.head.name,kv,.slice (some ⟨c1,o1,none⟩) c0.body.length cap1] af),.blk b2 (.cells #[.int .i64 d0.head.kind,.int .i64 d0.head.n,.string d0.head.name,kv2,.slice (some ⟨c2,o2,none⟩) d0.body.length cap2] af),.blk b7 (.cells (cellsAt a2 (o2+j * 4) 4).toArray ad),.blk mb (.map es3 ck3)] S w_:=⟨es2,ck2,hI⟩
   exact ⟨h0_,h1_,h2_,h3_,h4_,h5_,h6_,fun _=>rfl,h8_,⟨hI0,hI1,es3,ck3,hI⟩⟩
  ·intro D hD_ d7_0 x49 x48 x47 x46 x45 x44 x43 x42 x41 w_
   rintro ⟨h0_,h1_,h2_,h3_,h4_,h5_,h6_,h7_,h8_,⟨hI0,hI1,es3,ck3,hI⟩⟩
   obtain rfl:=h7_ d7_0
   refine r_not ?_
   exact ⟨h0_,h1_,h2_,h3_,h4_,h5_,h6_,h7_,fun _=>rfl,⟨hI0,hI1,es3,ck3,hI⟩⟩
  intro D d8_ d7_ d6_ d5_ d4_ d3_ d2_ d1_ d0_ x49 x48 x47 x46 x45 x44 x43 x42 x41 w_
  rintro ⟨h0_,h1_,h2_,h3_,h4_,h5_,h6_,h7_,h8_,⟨hI0,hI1,es3,ck3,hI⟩⟩
  obtain rfl:=h8_ d8_
  obtain rfl:=h7_ d7_
  obtain rfl:=h6_ d6_
  obtain rfl:=h5_ d5_
  obtain rfl:=h4_ d4_
  obtain rfl:=h3_ d3_
  obtain rfl:=h2_ d2_
  obtain rfl:=h1_ d1_
  obtain rfl:=h0_ d0_
  clear h0_ h1_ h2_ h3_ h4_ h5_ h6_ h7_ h8_
  obtain ⟨es2,ck2,hk2,hI⟩:=hI1 d7_
  clear hI0 hI1
  refine condV (fun hne=>?_) (fun he'=>?_)
  ·simp only [Bool.not_eq_true'] at hne
   rw [hne,if_neg (by decide)] at hrel
   rw [<- hrel]
   exact done hI rfl
  ·simp only [Bool.not_eq_false'] at he'
   rw [he',if_pos rfl] at hrel
   refine r_add (by omega) ?_
   exact ⟨⟨j+1,r.2,es2,ck2,hj1,rfl,hrel,hsn,hk2,hI.pick [true,true,false,true]⟩,by simp [intOf]; omega⟩
 ·have:j=d0.body.length:=by omega
  subst this
  rw [List.drop_length,ba] at hrel
  rw [<- hrel]
  exact done hI rfl
end

end Go.Proofs.YtmnnpgdeecnfpaaGreat

/- slices.Clone and slices.DeleteFunc of terms. -/
namespace Go.Proofs.YtmnnpgdeecnfpaaGreat
open Go Go.RowKit

section
variable {P:Program} {w w0:World} {X:List Nat} {L:List Item} {S:Store} {K:Value->World->Prop}
attribute [local irreducible] Run CondV GuardV LoadV
end
section
attribute [local irreducible] Run CondV GuardV LoadV
end

end Go.Proofs.YtmnnpgdeecnfpaaGreat

/- InstanceOf and FactsFor: both sides. -/
namespace Go.Proofs.YtmnnpgdeecnfpaaGreat
open Go Go.RowKit

def pW (u t:T):Bool:=bn u && (bn t && (aN t u st0).1)
section
attribute [local irreducible] Run CondV GuardV LoadV
theorem dv {u t:T} {S:Store} {ds cs:List Value} (h:RdT S ds u) (h':RdT S cs t):Pure Tryz.prog fw [.agg ds.toArray,.agg cs.toArray] S (.bool (pW u t)):=by
 intro w hI
 have hds:=h
 have hcs:=h'
 obtain ⟨kv,rfl,_,_,_,hks⟩:=RdT.iff.1 h
 obtain ⟨kv',rfl,_,_,_,hks'⟩:=RdT.iff.1 h'
 obtain ⟨k,n,s,ks⟩:=u
 obtain ⟨k',n',s',ks'⟩:=t
 simp only [T.name,T.kids,T.kind,T.n] at hks hks' hds hcs ⊢
 refine iB ?_
 unfold eR
 refine r_box hI fun b1 w' hI=>?_
 refine r_box hI fun b2 w' hI=>?_
 have hI:Inv w [] [.blk b1 (.cells #[.int .i64 k,.int .i64 n,.string s,kv] ad),.blk b2 (.cells #[.int .i64 k',.int .i64 n',.string s',kv'] ad)] S w':=hI
 refine r_loadW hI 0 aj rfl rfl ?_
 refine Run.callPure cG cI hI (ch hds) fun w' hI=>?_
 rw [pW]
 cases hv1:bn (.mk k n s ks)
 ·repeat (first|refine ac ?_|refine ag (by decide) ?_|refine ae ?_|refine ai ?_|refine ah ?_)
  exact done hI rfl
 repeat (first|refine ac ?_|refine ag (by decide) ?_|refine ae ?_|refine ai ?_|refine ah ?_)
 refine r_loadW hI 1 aj rfl rfl ?_
 refine Run.callPure cG cI hI (ch hcs) fun w' hI=>?_
 cases hv2:bn (.mk k' n' s' ks')
 ·repeat (first|refine ac ?_|refine ag (by decide) ?_|refine ae ?_|refine ai ?_|refine ah ?_)
  exact done hI rfl
 repeat (first|refine ac ?_|refine ag (by decide) ?_|refine ae ?_|refine ai ?_|refine ah ?_)
 refine r_loadW hI 0 aj rfl rfl ?_
 refine r_loadW hI 1 aj rfl rfl ?_
 refine pA hI fun mb w' hI=>?_
 refine Run.call (A:=[_,_]) cS cR hI (dA _ _ S _ _ mb 0 #[] st0 hcs hds (iY hv2).1 (iY hv1).2 ox (KnownM.empty S)) fun v' I' S' w'=>?_
 rintro ⟨rfl,rfl,es,ck,rfl,_⟩ _ hI
 repeat (first|refine ac ?_|refine ag (by decide) ?_|refine ae ?_|refine ai ?_|refine ah ?_)
 exact done hI rfl
end

end Go.Proofs.YtmnnpgdeecnfpaaGreat

/- Matching and substitution, in plain Lean: a match is found exactly if there is a substitution; subsumption is an order. -/
namespace Go.Proofs.YtmnnpgdeecnfpaaGreat
open Go Go.RowKit
mutual
def sbT (σ:Int->T):T->T
 | .mk k n s ks=>if k=1 then σ n else .mk k n s (sbL σ ks)
def sbL (σ:Int->T):List T->List T
 | []=>[]
 | t::ts=>sbT σ t::sbL σ ts
end
theorem qh (σ:Int->T):∀ ts:List T,(sbL σ ts).length=ts.length
 | []=>rfl
 | t::ts=>by rw [sbL,List.length_cons,qh σ ts,List.length_cons]
mutual
theorem rv (σ τ:Int->T):∀ t:T,sbT σ (sbT τ t)=sbT (fun n=>sbT σ (τ n)) t
 | .mk k n s ks=>by
  by_cases hk:k=1
  ·rw [sbT,if_pos hk,sbT,if_pos hk]
  ·rw [sbT,if_neg hk,sbT,if_neg hk,sbT,if_neg hk,nT σ τ ks]
theorem nT (σ τ:Int->T):∀ ts:List T,sbL σ (sbL τ ts)=sbL (fun n=>sbT σ (τ n)) ts
 | []=>rfl
 | t::ts=>by rw [sbL,sbL,sbL,rv σ τ t,nT σ τ ts]
end
def idS (n:Int):T:=.mk 1 n emptyB []
mutual
theorem wN {N:Nat}:∀ t:T,okU N t->sbT idS t=t
 | .mk k n s ks,h=>by
  rw [okU] at h
  by_cases hk:k=1
  ·obtain ⟨_,_,rfl,rfl⟩:=h.2.1 hk
   rw [sbT,if_pos hk,hk,idS]
  ·rw [sbT,if_neg hk,tW ks h.2.2.1]
theorem tW {N:Nat}:∀ ts:List T,bY N ts->sbL idS ts=ts
 | [],_=>rfl
 | t::ts,h=>by
  rw [bY] at h
  rw [sbL,wN t h.1,tW ts h.2]
end
/- a substitution that a table knows -/
def Agk (σ:Int->T) (st:aE):Prop:=∀ (i:Nat) (t:T),st[i]?=some (some t)->σ i=t
def Gek (st st':aE):Prop:=st'.length=st.length/\∀ (i:Nat) (t:T),st[i]?=some (some t)->st'[i]?=some (some t)
theorem Gek.refl (st:aE):Gek st st:=⟨rfl,fun _ _ h=>h⟩
theorem Gek.trans {a b c:aE} (h:Gek a b) (h':Gek b c):Gek a c:=⟨h'.1.trans h.1,fun i t hi=>h'.2 i t (h.2 i t hi)⟩
theorem Agk.less {σ:Int->T} {a b:aE} (h:Agk σ b) (hg:Gek a b):Agk σ a:=fun i t hi=>h i t (hg.2 i t hi)
theorem r3 {t u:T}:dR t u=true↔t.kind=u.kind/\t.n=u.n/\t.name=u.name/\t.kids.length=u.kids.length:=by
 simp [dR]
mutual
theorem dr:∀ (t u:T) (st:aE),okV t->Gek st (aN t u st).2
 | .mk k n s ks,u,st,hv=>by
  rw [okV] at hv
  rw [aN]
  by_cases hk:k=1
  ·rw [if_pos hk]
   split
   ·exact Gek.refl _
   ·rename_i hno
    refine ⟨by simp,fun i t hi=>?_⟩
    rw [List.getElem?_set]
    split
    ·rename_i e
     subst e
     exact absurd hi (hno t)
    ·exact hi
  ·rw [if_neg hk]
   split
   ·exact gn ks u.kids st hv.2
   ·exact Gek.refl _
theorem gn:∀ (ts us:List T) (st:aE),fc ts->Gek st (ba ts us st).2
 | [],_,st,_=>by rw [ba]; exact Gek.refl _
 | _::_,[],st,_=>by rw [ba]; exact Gek.refl _
 | t::ts,u::us,st,hv=>by
  rw [fc] at hv
  rw [ba]
  split
  ·exact (dr t u st hv.1).trans (gn ts us _ hv.2)
  ·exact dr t u st hv.1
end
/- what is found is right -/
mutual
theorem km (σ:Int->T):∀ (t u:T) (st:aE),okV t->st.length=26->(aN t u st).1=true->Agk σ (aN t u st).2->sbT σ t=u
 | .mk k n s ks,u,st,hv,hl,hm,ha=>by
  rw [okV] at hv
  rw [aN] at hm ha
  by_cases hk:k=1
  ·obtain ⟨h0,h1⟩:=hv.1 hk
   rw [if_pos hk] at hm ha
   rw [sbT,if_pos hk]
   split at hm
   ·rename_i t0 hst
    rw [hst] at ha
    have:=ha n.toNat t0 hst
    rw [Int.toNat_of_nonneg h0] at this
    rw [this]
    exact (qD _ _).1 hm
   ·rename_i hno
    split at ha
    ·rename_i t0 hst
     exact absurd hst (hno t0)
    ·have:=ha n.toNat u (by rw [List.getElem?_set_self (by omega)])
     rwa [Int.toNat_of_nonneg h0] at this
  ·rw [if_neg hk] at hm ha
   rw [sbT,if_neg hk]
   split at hm
   ·rename_i hh
    rw [if_pos hh] at ha
    obtain ⟨h1,h2,h3,h4⟩:=r3.1 hh
    have:=eK σ ks u.kids st hv.2 hl (Nat.le_of_eq h4) hm ha
    rw [this]
    cases u
    simp only [T.kind,T.n,T.name,T.kids] at h1 h2 h3 ⊢
    rw [h1,h2,h3]
    congr 1
    rw [List.take_of_length_le]
    simp only [T.kids] at h4
    omega
   ·cases hm
theorem eK (σ:Int->T):∀ (ts us:List T) (st:aE),fc ts->st.length=26->ts.length<=us.length->(ba ts us st).1=true->Agk σ (ba ts us st).2->sbL σ ts=us.take ts.length
 | [],us,st,_,_,_,_,_=>by rw [sbL]; rfl
 | t::ts,[],st,_,_,hlen,_,_=>by simp at hlen
 | t::ts,u::us,st,hv,hl,hlen,hm,ha=>by
  rw [fc] at hv
  rw [ba] at hm ha
  split at hm
  ·rename_i h1
   rw [if_pos h1] at ha
   have hg:=dr t u st hv.1
   have hg2:=gn ts us (aN t u st).2 hv.2
   rw [sbL,List.length_cons,List.take_succ_cons,km σ t u st hv.1 hl h1 (ha.less hg2),eK σ ts us _ hv.2 (hg.1.trans hl) (by simpa using hlen) hm ha]
  ·cases hm
end
/- what is right is found -/
mutual
theorem iH (σ:Int->T):∀ (t u:T) (st:aE),okV t->st.length=26->Agk σ st->sbT σ t=u->(aN t u st).1=true/\Agk σ (aN t u st).2
 | .mk k n s ks,u,st,hv,hl,ha,hs=>by
  rw [okV] at hv
  rw [aN]
  by_cases hk:k=1
  ·obtain ⟨h0,h1⟩:=hv.1 hk
   rw [sbT,if_pos hk] at hs
   rw [if_pos hk]
   split
   ·rename_i t0 hst
    have:=ha n.toNat t0 hst
    rw [Int.toNat_of_nonneg h0,hs] at this
    exact ⟨(qD _ _).2 this.symm,ha⟩
   ·refine ⟨rfl,fun i t hi=>?_⟩
    rw [List.getElem?_set] at hi
    split at hi
    ·rename_i e
     subst e
     rw [if_pos (by omega)] at hi
     simp only [Option.some.injEq] at hi
     rw [Int.toNat_of_nonneg h0,hs,hi]
    ·exact ha i t hi
  ·rw [sbT,if_neg hk] at hs
   subst hs
   rw [if_neg hk,if_pos ((r3 (t:=.mk k n s ks) (u:=.mk k n s (sbL σ ks))).2 ⟨rfl,rfl,rfl,(qh σ ks).symm⟩)]
   exact eL σ ks (sbL σ ks) st hv.2 hl ha (by rw [List.take_of_length_le (by rw [qh]; exact Nat.le_refl _)])
theorem eL (σ:Int->T):∀ (ts us:List T) (st:aE),fc ts->st.length=26->Agk σ st->sbL σ ts=us.take ts.length->(ba ts us st).1=true/\Agk σ (ba ts us st).2
 | [],us,st,_,_,ha,_=>by rw [ba]; exact ⟨rfl,ha⟩
 | t::ts,[],st,_,_,_,hs=>by simp [sbL] at hs
 | t::ts,u::us,st,hv,hl,ha,hs=>by
  rw [fc] at hv
  rw [sbL,List.length_cons,List.take_succ_cons,List.cons.injEq] at hs
  rw [ba]
  obtain ⟨h1,h2⟩:=iH σ t u st hv.1 hl ha hs.1
  rw [if_pos h1]
  exact eL σ ts us _ hv.2 ((dr t u st hv.1).1.trans hl) h2 hs.2
end
def ofK (st:aE) (n:Int):T:=match st[n.toNat]? with
 | some (some t)=>t
 | _=>idS n
theorem xM (st:aE):Agk (ofK st) st:=fun i t h=>by rw [ofK,Int.toNat_natCast,h]
theorem xG (σ:Int->T):Agk σ st0:=fun i t h=>by
 simp only [st0,List.getElem?_replicate] at h
 split at h <;> cases h
theorem rp {c:C} (h:aO c=true):okV c.head/\fc c.body:=⟨(gq h).1.1,(gq h).2.1⟩
theorem up (c d:C):ed c d=true↔aO c=true/\aO d=true/\d.body.length<=c.body.length/\∃ σ,sbT σ d.head=c.head/\sbL σ d.body=c.body.take d.body.length:=by
 rw [jv,gh]
 simp only [Bool.and_eq_true,decide_eq_true_eq]
 constructor
 ·rintro ⟨⟨h1,h2,h3⟩,h4,h5⟩
  obtain ⟨v1,v2⟩:=rp h2
  have hg:=dr d.head c.head st0 v1
  have hg2:=gn d.body c.body (aN d.head c.head st0).2 v2
  have ha:=xM (ba d.body c.body (aN d.head c.head st0).2).2
  exact ⟨h1,h2,h3,_,km _ _ _ _ v1 (by simp [st0]) h4 (ha.less hg2),eK _ _ _ _ v2 (hg.1.trans (by simp [st0])) h3 h5 ha⟩
 ·rintro ⟨h1,h2,h3,σ,h4,h5⟩
  obtain ⟨v1,v2⟩:=rp h2
  have hg:=dr d.head c.head st0 v1
  obtain ⟨m1,a1⟩:=iH σ d.head c.head st0 v1 (by simp [st0]) (xG σ) h4
  exact ⟨⟨h1,h2,h3⟩,m1,(eL σ d.body c.body _ v2 (hg.1.trans (by simp [st0])) a1 h5).1⟩
theorem py {N:Nat}:∀ {ts:List T},(∀ t∈ts,okU N t)->bY N ts
 | [],_=>by rw [bY]; trivial
 | t::ts,h=>by rw [bY]; exact ⟨h t (List.mem_cons_self ..),py fun u hu=>h u (List.mem_cons_of_mem _ hu)⟩
theorem sH (c:C):ed c c=aO c:=by
 rw [Bool.eq_iff_iff,up]
 constructor
 ·exact fun h=>h.1
 ·intro h
  obtain ⟨h1,h2,_⟩:=im h
  exact ⟨h,h,Nat.le_refl _,idS,wN _ h1,by rw [tW _ (py h2),List.take_length]⟩
theorem r9 (σ:Int->T):∀ (ts:List T) (k:Nat),sbL σ (ts.take k)=(sbL σ ts).take k
 | [],k=>by simp [sbL]
 | t::ts,0=>by simp [sbL]
 | t::ts,k+1=>by rw [List.take_succ_cons,sbL,sbL,List.take_succ_cons,r9 σ ts k]
theorem pN {c d x:C} (h:ed c d=true) (h':ed d x=true):ed c x=true:=by
 rw [up] at h h' ⊢
 obtain ⟨c1,d1,l1,σ,a1,b1⟩:=h
 obtain ⟨_,x1,l2,τ,a2,b2⟩:=h'
 refine ⟨c1,x1,Nat.le_trans l2 l1,_,(rv σ τ x.head).symm.trans (by rw [a2,a1]),(nT σ τ x.body).symm.trans ?_⟩
 rw [b2,r9,b1,List.take_take,Nat.min_eq_left l2]
theorem dI {c:C} (h:aO c=true):bn c.head=true:=by
 rw [aO] at h
 simp only [Bool.and_eq_true] at h
 exact h.2.2.1
theorem wz {c d:C} (h:ed c d=true):pW c.head d.head=true:=by
 rw [jv,gh] at h
 simp only [Bool.and_eq_true] at h
 rw [pW,dI h.1.1,dI h.1.2.1,h.2.1]
 rfl
theorem wS {c d:C} (hc:aO c=true) (hd:aO d=true) (h1:c.body=[]) (h2:d.body=[]):ed c d=pW c.head d.head:=by
 rw [jv,gh,hc,hd,pW,dI hc,dI hd,h1,h2,ba]
 simp
end Go.Proofs.YtmnnpgdeecnfpaaGreat

/- FnSubsumedFact and FnSubsumedClause return true, whatever bytes come in: the walks. -/
namespace Go.Proofs.YtmnnpgdeecnfpaaGreat
open Go Go.RowKit
section
variable {S:Store} {ys zs:List Nat} {v u:Value}
attribute [local irreducible] Run CondV GuardV LoadV
theorem RdC.cells {S:Store} {cs:List Value} {c:C} (h:RdC S cs c):∃ kv kb,cs=[.int .i64 c.head.kind,.int .i64 c.head.n,.string c.head.name,kv,kb]/\RdT S [.int .i64 c.head.kind,.int .i64 c.head.n,.string c.head.name,kv] c.head/\RdSl S 4 (RdT S) kb c.body:=by
 obtain ⟨hd,kb,rfl,h1,h2⟩:=h
 have h1':=h1
 obtain ⟨kv,rfl,_⟩:=RdT.iff.1 h1
 exact ⟨kv,kb,rfl,h1',h2⟩
theorem oq (h:RdSl S 1 dD v ys):Pure Tryz.prog aW [v] S (.bool true):=by
 intro w hI
 refine eC ?_
 unfold de
 refine r_lenSl h bi ?_
 refine r_gtr ?_
 refine condP (fun _=>done hI rfl) (fun _=>?_)
 refine Run.call0E bF bD hI (bw h) fun t10 I' S1 w'=>?_
 rintro ⟨rfl,cs,ds,c,d,rfl,hc,hd,hwc,hwd⟩ hE1 hI
 obtain ⟨kv,kb,rfl,hh,hb⟩:=hc.cells
 obtain ⟨kv',kb',rfl,hh',hb'⟩:=hd.cells
 refine r_extract (v:=.agg [.int .i64 c.head.kind,.int .i64 c.head.n,.string c.head.name,kv,kb].toArray) rfl ?_
 refine r_extract (v:=.agg [.int .i64 d.head.kind,.int .i64 d.head.n,.string d.head.name,kv',kb'].toArray) rfl ?_
 refine r_alloc hI aP fun b3 w' hI=>?_
 refine r_alloc hI aP fun b4 w' hI=>?_
 have hI:Inv w [] [.blk b3 (.cells zCl af),.blk b4 (.cells zCl af)] S1 w':=hI
 refine au hI 0 rfl al rfl rfl (by simpa using hc.one) fun w' hI=>?_
 refine au hI 1 rfl al rfl rfl (by simpa using hd.one) fun w' hI=>?_
 have hI:Inv w [] [.blk b3 (.cells #[.int .i64 c.head.kind,.int .i64 c.head.n,.string c.head.name,kv,kb] af),.blk b4 (.cells #[.int .i64 d.head.kind,.int .i64 d.head.n,.string d.head.name,kv',kb'] af)] S1 w':=hI
 refine r_loadW hI 0 al rfl rfl ?_
 refine r_loadW hI 1 al rfl rfl ?_
 refine Run.callPure aY aX hI (aS hc hd) fun w' hI=>?_
 refine ⟨fun t w'=>∃ q:Bool,t=.bool q/\(q=false->aO c=true/\aO d=true/\c.body=[]/\d.body=[])/\Inv w [] [.blk b3 (.cells #[.int .i64 c.head.kind,.int .i64 c.head.n,.string c.head.name,kv,kb] af),.blk b4 (.cells #[.int .i64 d.head.kind,.int .i64 d.head.n,.string d.head.name,kv',kb'] af)] S1 w',?_,?_⟩
 ·refine r_loadW hI 0 al rfl rfl ?_
  refine r_loadW hI 1 al rfl rfl ?_
  refine Run.callPure bC bB hI (bo hc hd (by omega) (by omega)) fun w' hI=>?_
  refine r_bneq dp ?_
  rw [beq_self_eq_true]
  repeat (first|refine ac ?_|refine ag (by decide) ?_|refine ae ?_|refine ai ?_|refine ah ?_)
  refine r_loadW hI 0 al rfl rfl ?_
  refine Run.callPure bq bt hI (bk hc) fun w' hI=>?_
  refine r_not ?_
  cases hcv:aO c
  ·repeat (first|refine ac ?_|refine ag (by decide) ?_|refine ae ?_|refine ai ?_|refine ah ?_)
   exact ⟨true,rfl,(fun h=>by cases h),hI⟩
  repeat (first|refine ac ?_|refine ag (by decide) ?_|refine ae ?_|refine ai ?_|refine ah ?_)
  refine r_loadW hI 1 al rfl rfl ?_
  refine Run.callPure bq bt hI (bk hd) fun w' hI=>?_
  refine r_not ?_
  cases hdv:aO d
  ·repeat (first|refine ac ?_|refine ag (by decide) ?_|refine ae ?_|refine ai ?_|refine ah ?_)
   exact ⟨true,rfl,(fun h=>by cases h),hI⟩
  repeat (first|refine ac ?_|refine ag (by decide) ?_|refine ae ?_|refine ai ?_|refine ah ?_)
  refine r_fieldL hI 0 rfl aw ao rfl ?_
  refine r_lenSl hb aq ?_
  refine r_gtr ?_
  cases hcl:decide ((0:Int)<(c.body.length:Int))
  ·repeat (first|refine ac ?_|refine ag (by decide) ?_|refine ae ?_|refine ai ?_|refine ah ?_)
   refine r_fieldL hI 1 rfl aw ao rfl ?_
   refine r_lenSl hb' aq ?_
   refine r_gtr ?_
   repeat (first|refine ac ?_|refine ag (by decide) ?_|refine ae ?_|refine ai ?_|refine ah ?_)
   refine ⟨_,rfl,fun hdl=>⟨rfl,rfl,?_,?_⟩,hI⟩
   ·have:=of_decide_eq_false hcl
    exact List.eq_nil_of_length_eq_zero (by omega)
   ·have:=of_decide_eq_false hdl
    exact List.eq_nil_of_length_eq_zero (by omega)
  ·repeat (first|refine ac ?_|refine ag (by decide) ?_|refine ae ?_|refine ai ?_|refine ah ?_)
   exact ⟨true,rfl,(fun h=>by cases h),hI⟩
 intro t43 _ _ _ _ _ _ _ _ _ _ _ _ _ _ _ _ _ _ _ _ _ _ _ _ _ _ w'
 rintro ⟨q,rfl,hq,hI⟩
 refine condV (fun _=>?_) (fun hqf=>?_)
 ·refine r_loadW hI 0 al rfl rfl ?_
  refine r_loadW hI 1 al rfl rfl ?_
  refine Run.callPure bC bB hI (bo hc hd (by omega) (by omega)) fun w' hI=>?_
  refine qJ dp ?_
  rw [beq_self_eq_true]
  exact gR hI hE1.1 rfl
 ·obtain ⟨h1,h2,h3,h4⟩:=hq hqf
  refine r_field aQ ?_
  refine r_loadLA hI 0 [.int .i64 c.head.kind,.int .i64 c.head.n,.string c.head.name,kv] aj rfl rfl mK ?_
  refine r_field aQ ?_
  refine r_loadLA hI 1 [.int .i64 d.head.kind,.int .i64 d.head.n,.string d.head.name,kv'] aj rfl rfl mK ?_
  refine Run.callPure eZ fa hI (dv hh hh') fun w' hI=>?_
  rw [wS h1 h2 h3 h4]
  refine qJ dp ?_
  rw [beq_self_eq_true]
  exact gR hI hE1.1 rfl
theorem ou (h:RdSl S 1 dD v ys) (g:RdSl S 1 dD u zs):Pure Tryz.prog aT [v,u] S (.bool true):=by
 intro w hI
 refine dT ?_
 unfold cM
 refine ⟨fun t w'=>∃ q:Bool,t=.bool q/\Inv w [] [] S w',?_,?_⟩
 ·refine r_lenSl h bi ?_
  refine r_gtr ?_
  cases decide ((1048576:Int)<(ys.length:Int))
  ·repeat (first|refine ac ?_|refine ag (by decide) ?_|refine ae ?_|refine ai ?_|refine ah ?_)
   refine r_lenSl g bi ?_
   refine r_gtr ?_
   repeat (first|refine ac ?_|refine ag (by decide) ?_|refine ae ?_|refine ai ?_|refine ah ?_)
   exact ⟨_,rfl,hI⟩
  ·repeat (first|refine ac ?_|refine ag (by decide) ?_|refine ae ?_|refine ai ?_|refine ah ?_)
   exact ⟨true,rfl,hI⟩
 intro t17 _ _ _ _ _ _ _ w'
 rintro ⟨q,rfl,hI⟩
 refine condV (fun _=>done hI rfl) (fun _=>?_)
 refine Run.call0E bF bD hI (bw h) fun t10 I' S1 w'=>?_
 rintro ⟨rfl,cs,ds,c,d,rfl,hc,hd,hwc,hwd⟩ hE1 hI
 obtain ⟨kv,kb,rfl,hh,hb⟩:=hc.cells
 obtain ⟨kv',kb',rfl,hh',hb'⟩:=hd.cells
 refine r_extract (v:=.agg [.int .i64 c.head.kind,.int .i64 c.head.n,.string c.head.name,kv,kb].toArray) rfl ?_
 refine r_extract (v:=.agg [.int .i64 d.head.kind,.int .i64 d.head.n,.string d.head.name,kv',kb'].toArray) rfl ?_
 refine r_alloc hI aP fun b5 w' hI=>?_
 refine r_alloc hI aP fun b6 w' hI=>?_
 have hI:Inv w [] [.blk b5 (.cells zCl af),.blk b6 (.cells zCl af)] S1 w':=hI
 refine au hI 0 rfl al rfl rfl (by simpa using hc.one) fun w' hI=>?_
 refine au hI 1 rfl al rfl rfl (by simpa using hd.one) fun w' hI=>?_
 have hI:Inv w [] [.blk b5 (.cells #[.int .i64 c.head.kind,.int .i64 c.head.n,.string c.head.name,kv,kb] af),.blk b6 (.cells #[.int .i64 d.head.kind,.int .i64 d.head.n,.string d.head.name,kv',kb'] af)] S1 w':=hI
 refine r_loadW hI 0 al rfl rfl ?_
 refine r_loadW hI 1 al rfl rfl ?_
 refine Run.callPure aY aX hI (aS hc hd) fun w' hI=>?_
 refine ⟨fun D x42 x41 x40 x39 x38 x37 x36 x35 x34 x33 x32 x31 x30 x29 x28 x27 x26 w_=>(D 0=true->x26=.bool (ed c d))/\(D 1=true->x27=.agg #[.int .i64 c.head.kind,.int .i64 c.head.n,.string c.head.name,kv,kb])/\(D 2=true->x28=.agg #[.int .i64 d.head.kind,.int .i64 d.head.n,.string d.head.name,kv',kb'])/\(D 3=true->x29=.bool (ed c d))/\(D 4=true->x30=.bool false)/\(D 5=true->x31=.bool false)/\(D 6=true->x32=.agg #[.int .i64 c.head.kind,.int .i64 c.head.n,.string c.head.name,kv,kb])/\(D 7=true->x33=.agg #[.int .i64 c.head.kind,.int .i64 c.head.n,.string c.head.name,kv,kb])/\(D 8=true->x34=.bool (aO c))/\(D 9=true->x35=.agg #[.int .i64 c.head.kind,.int .i64 c.head.n,.string c.head.name,kv,kb])/\(D 10=true->x36=.bool (aO c))/\(D 11=true->x37=.bool false)/\(D 12=true->x38=.bool false)/\(D 13=true->x39=.bool false)/\(D 14=true->x40=.bool (ed c d))/\(D 15=true->x41=.bool (!ed c d))/\(D 16=true->x42=.bool (!ed c d))/\Inv w [] [.blk b5 (.cells #[.int .i64 c.head.kind,.int .i64 c.head.n,.string c.head.name,kv,kb] af),.blk b6 (.cells #[.int .i64 d.head.kind,.int .i64 d.head.n,.string d.head.name,kv',kb'] af)] S1 w_,⟨fun h=>Bool.noConfusion h,fun h=>Bool.noConfusion h,fun h=>Bool.noConfusion h,fun h=>Bool.noConfusion h,fun h=>Bool.noConfusion h,fun h=>Bool.noConfusion h,fun h=>Bool.noConfusion h,fun h=>Bool.noConfusion h,fun h=>Bool.noConfusion h,fun h=>Bool.noConfusion h,fun h=>Bool.noConfusion h,fun h=>Bool.noConfusion h,fun h=>Bool.noConfusion h,fun h=>Bool.noConfusion h,fun h=>Bool.noConfusion h,fun h=>Bool.noConfusion h,fun h=>Bool.noConfusion h,hI.draw⟩,⟨?_,?_,?_,?_,?_,?_,?_,?_,?_,?_,?_,?_,?_,?_,?_,?_,?_,trivial⟩,?_⟩
 ·intro D hD_  x42 x41 x40 x39 x38 x37 x36 x35 x34 x33 x32 x31 x30 x29 x28 x27 x26 w_
  rintro ⟨h0_,h1_,h2_,h3_,h4_,h5_,h6_,h7_,h8_,h9_,h10_,h11_,h12_,h13_,h14_,h15_,h16_,hI⟩
  exact ⟨fun _=>rfl,h1_,h2_,h3_,h4_,h5_,h6_,h7_,h8_,h9_,h10_,h11_,h12_,h13_,h14_,h15_,h16_,hI⟩
 ·intro D hD_  x42 x41 x40 x39 x38 x37 x36 x35 x34 x33 x32 x31 x30 x29 x28 x27 x26 w_
  rintro ⟨h0_,h1_,h2_,h3_,h4_,h5_,h6_,h7_,h8_,h9_,h10_,h11_,h12_,h13_,h14_,h15_,h16_,hI⟩
  refine r_loadW hI 0 al rfl rfl ?_
  exact ⟨h0_,fun _=>rfl,h2_,h3_,h4_,h5_,h6_,h7_,h8_,h9_,h10_,h11_,h12_,h13_,h14_,h15_,h16_,hI⟩
 ·intro D hD_  x42 x41 x40 x39 x38 x37 x36 x35 x34 x33 x32 x31 x30 x29 x28 x27 x26 w_
  rintro ⟨h0_,h1_,h2_,h3_,h4_,h5_,h6_,h7_,h8_,h9_,h10_,h11_,h12_,h13_,h14_,h15_,h16_,hI⟩
  refine r_loadW hI 1 al rfl rfl ?_
  exact ⟨h0_,h1_,fun _=>rfl,h3_,h4_,h5_,h6_,h7_,h8_,h9_,h10_,h11_,h12_,h13_,h14_,h15_,h16_,hI⟩
 ·intro D hD_ d1_0 d2_1 x42 x41 x40 x39 x38 x37 x36 x35 x34 x33 x32 x31 x30 x29 x28 x27 x26 w_
  rintro ⟨h0_,h1_,h2_,h3_,h4_,h5_,h6_,h7_,h8_,h9_,h10_,h11_,h12_,h13_,h14_,h15_,h16_,hI⟩
  obtain rfl:=h1_ d1_0
  obtain rfl:=h2_ d2_1
  refine Run.callPure bC bB hI (bo hc hd (by omega) (by omega)) fun w_ hI=>?_
  exact ⟨h0_,h1_,h2_,fun _=>rfl,h4_,h5_,h6_,h7_,h8_,h9_,h10_,h11_,h12_,h13_,h14_,h15_,h16_,hI⟩
 ·intro D hD_ d0_0 d3_1 x42 x41 x40 x39 x38 x37 x36 x35 x34 x33 x32 x31 x30 x29 x28 x27 x26 w_
  rintro ⟨h0_,h1_,h2_,h3_,h4_,h5_,h6_,h7_,h8_,h9_,h10_,h11_,h12_,h13_,h14_,h15_,h16_,hI⟩
  obtain rfl:=h0_ d0_0
  obtain rfl:=h3_ d3_1
  refine r_bneq dp ?_
  rw [beq_self_eq_true]
  exact ⟨h0_,h1_,h2_,h3_,fun _=>rfl,h5_,h6_,h7_,h8_,h9_,h10_,h11_,h12_,h13_,h14_,h15_,h16_,hI⟩
 ·intro D hD_ d4_0 d3_1 x42 x41 x40 x39 x38 x37 x36 x35 x34 x33 x32 x31 x30 x29 x28 x27 x26 w_
  rintro ⟨h0_,h1_,h2_,h3_,h4_,h5_,h6_,h7_,h8_,h9_,h10_,h11_,h12_,h13_,h14_,h15_,h16_,hI⟩
  obtain rfl:=h4_ d4_0
  exact ⟨h0_,h1_,h2_,h3_,h4_,fun _=>rfl,h6_,h7_,h8_,h9_,h10_,h11_,h12_,h13_,h14_,h15_,h16_,hI⟩
 ·intro D hD_ d5_0 x42 x41 x40 x39 x38 x37 x36 x35 x34 x33 x32 x31 x30 x29 x28 x27 x26 w_
  rintro ⟨h0_,h1_,h2_,h3_,h4_,h5_,h6_,h7_,h8_,h9_,h10_,h11_,h12_,h13_,h14_,h15_,h16_,hI⟩
  obtain rfl:=h5_ d5_0
  refine ac (b:=false) ?_
  refine r_loadW hI 0 al rfl rfl ?_
  exact ⟨h0_,h1_,h2_,h3_,h4_,h5_,fun _=>rfl,h7_,h8_,h9_,h10_,h11_,h12_,h13_,h14_,h15_,h16_,hI⟩
 ·intro D hD_ d5_0 x42 x41 x40 x39 x38 x37 x36 x35 x34 x33 x32 x31 x30 x29 x28 x27 x26 w_
  rintro ⟨h0_,h1_,h2_,h3_,h4_,h5_,h6_,h7_,h8_,h9_,h10_,h11_,h12_,h13_,h14_,h15_,h16_,hI⟩
  obtain rfl:=h5_ d5_0
  refine ac (b:=false) ?_
  refine r_loadW hI 0 al rfl rfl ?_
  exact ⟨h0_,h1_,h2_,h3_,h4_,h5_,h6_,fun _=>rfl,h8_,h9_,h10_,h11_,h12_,h13_,h14_,h15_,h16_,hI⟩
 ·intro D hD_ d6_0 d7_1 d5_2 d5_3 x42 x41 x40 x39 x38 x37 x36 x35 x34 x33 x32 x31 x30 x29 x28 x27 x26 w_
  rintro ⟨h0_,h1_,h2_,h3_,h4_,h5_,h6_,h7_,h8_,h9_,h10_,h11_,h12_,h13_,h14_,h15_,h16_,hI⟩
  obtain rfl:=h6_ d6_0
  obtain rfl:=h7_ d7_1
  obtain rfl:=h5_ d5_2
  refine ac (b:=false) ?_
  refine Run.callPure aY aX hI (aS hc hc) fun w_ hI=>?_
  rw [sH]
  exact ⟨h0_,h1_,h2_,h3_,h4_,h5_,h6_,h7_,fun _=>rfl,h9_,h10_,h11_,h12_,h13_,h14_,h15_,h16_,hI⟩
 ·intro D hD_ d5_0 x42 x41 x40 x39 x38 x37 x36 x35 x34 x33 x32 x31 x30 x29 x28 x27 x26 w_
  rintro ⟨h0_,h1_,h2_,h3_,h4_,h5_,h6_,h7_,h8_,h9_,h10_,h11_,h12_,h13_,h14_,h15_,h16_,hI⟩
  obtain rfl:=h5_ d5_0
  refine ac (b:=false) ?_
  refine r_loadW hI 0 al rfl rfl ?_
  exact ⟨h0_,h1_,h2_,h3_,h4_,h5_,h6_,h7_,h8_,fun _=>rfl,h10_,h11_,h12_,h13_,h14_,h15_,h16_,hI⟩
 ·intro D hD_ d9_0 d8_1 d5_2 x42 x41 x40 x39 x38 x37 x36 x35 x34 x33 x32 x31 x30 x29 x28 x27 x26 w_
  rintro ⟨h0_,h1_,h2_,h3_,h4_,h5_,h6_,h7_,h8_,h9_,h10_,h11_,h12_,h13_,h14_,h15_,h16_,hI⟩
  obtain rfl:=h9_ d9_0
  obtain rfl:=h5_ d5_2
  refine ac (b:=false) ?_
  refine Run.callPure bq bt hI (bk hc) fun w_ hI=>?_
  exact ⟨h0_,h1_,h2_,h3_,h4_,h5_,h6_,h7_,h8_,h9_,fun _=>rfl,h11_,h12_,h13_,h14_,h15_,h16_,hI⟩
 ·intro D hD_ d8_0 d10_1 d5_2 x42 x41 x40 x39 x38 x37 x36 x35 x34 x33 x32 x31 x30 x29 x28 x27 x26 w_
  rintro ⟨h0_,h1_,h2_,h3_,h4_,h5_,h6_,h7_,h8_,h9_,h10_,h11_,h12_,h13_,h14_,h15_,h16_,hI⟩
  obtain rfl:=h8_ d8_0
  obtain rfl:=h10_ d10_1
  obtain rfl:=h5_ d5_2
  refine ac (b:=false) ?_
  refine r_bneq dp ?_
  rw [beq_self_eq_true]
  exact ⟨h0_,h1_,h2_,h3_,h4_,h5_,h6_,h7_,h8_,h9_,h10_,fun _=>rfl,h12_,h13_,h14_,h15_,h16_,hI⟩
 ·intro D hD_ d5_0 d11_1 x42 x41 x40 x39 x38 x37 x36 x35 x34 x33 x32 x31 x30 x29 x28 x27 x26 w_
  rintro ⟨h0_,h1_,h2_,h3_,h4_,h5_,h6_,h7_,h8_,h9_,h10_,h11_,h12_,h13_,h14_,h15_,h16_,hI⟩
  obtain rfl:=h5_ d5_0
  obtain rfl:=h11_ d11_1
  refine ah ?_
  exact ⟨h0_,h1_,h2_,h3_,h4_,h5_,h6_,h7_,h8_,h9_,h10_,h11_,fun _=>rfl,h13_,h14_,h15_,h16_,hI⟩
 ·intro D hD_ d12_0 d10_1 x42 x41 x40 x39 x38 x37 x36 x35 x34 x33 x32 x31 x30 x29 x28 x27 x26 w_
  rintro ⟨h0_,h1_,h2_,h3_,h4_,h5_,h6_,h7_,h8_,h9_,h10_,h11_,h12_,h13_,h14_,h15_,h16_,hI⟩
  obtain rfl:=h12_ d12_0
  exact ⟨h0_,h1_,h2_,h3_,h4_,h5_,h6_,h7_,h8_,h9_,h10_,h11_,h12_,fun _=>rfl,h14_,h15_,h16_,hI⟩
 ·intro D hD_ d13_0 x42 x41 x40 x39 x38 x37 x36 x35 x34 x33 x32 x31 x30 x29 x28 x27 x26 w_
  rintro ⟨h0_,h1_,h2_,h3_,h4_,h5_,h6_,h7_,h8_,h9_,h10_,h11_,h12_,h13_,h14_,h15_,h16_,hI⟩
  obtain rfl:=h13_ d13_0
  refine ac (b:=false) ?_
  exact ⟨h0_,h1_,h2_,h3_,h4_,h5_,h6_,h7_,h8_,h9_,h10_,h11_,h12_,h13_,fun _=>rfl,h15_,h16_,hI⟩
 ·intro D hD_ d14_0 d13_1 x42 x41 x40 x39 x38 x37 x36 x35 x34 x33 x32 x31 x30 x29 x28 x27 x26 w_
  rintro ⟨h0_,h1_,h2_,h3_,h4_,h5_,h6_,h7_,h8_,h9_,h10_,h11_,h12_,h13_,h14_,h15_,h16_,hI⟩
  obtain rfl:=h14_ d14_0
  obtain rfl:=h13_ d13_1
  refine ac (b:=false) ?_
  refine r_not ?_
  exact ⟨h0_,h1_,h2_,h3_,h4_,h5_,h6_,h7_,h8_,h9_,h10_,h11_,h12_,h13_,h14_,fun _=>rfl,h16_,hI⟩
 ·intro D hD_ d13_0 d15_1 x42 x41 x40 x39 x38 x37 x36 x35 x34 x33 x32 x31 x30 x29 x28 x27 x26 w_
  rintro ⟨h0_,h1_,h2_,h3_,h4_,h5_,h6_,h7_,h8_,h9_,h10_,h11_,h12_,h13_,h14_,h15_,h16_,hI⟩
  obtain rfl:=h13_ d13_0
  obtain rfl:=h15_ d15_1
  refine ah ?_
  exact ⟨h0_,h1_,h2_,h3_,h4_,h5_,h6_,h7_,h8_,h9_,h10_,h11_,h12_,h13_,h14_,h15_,fun _=>rfl,hI⟩
 intro D d16_ d15_ d14_ d13_ d12_ d11_ d10_ d9_ d8_ d7_ d6_ d5_ d4_ d3_ d2_ d1_ d0_ x42 x41 x40 x39 x38 x37 x36 x35 x34 x33 x32 x31 x30 x29 x28 x27 x26 w_
 rintro ⟨h0_,h1_,h2_,h3_,h4_,h5_,h6_,h7_,h8_,h9_,h10_,h11_,h12_,h13_,h14_,h15_,h16_,hI⟩
 obtain rfl:=h16_ d16_
 obtain rfl:=h15_ d15_
 obtain rfl:=h14_ d14_
 obtain rfl:=h13_ d13_
 obtain rfl:=h12_ d12_
 obtain rfl:=h11_ d11_
 obtain rfl:=h10_ d10_
 obtain rfl:=h9_ d9_
 obtain rfl:=h8_ d8_
 obtain rfl:=h7_ d7_
 obtain rfl:=h6_ d6_
 obtain rfl:=h5_ d5_
 obtain rfl:=h4_ d4_
 obtain rfl:=h3_ d3_
 obtain rfl:=h2_ d2_
 obtain rfl:=h1_ d1_
 obtain rfl:=h0_ d0_
 clear h0_ h1_ h2_ h3_ h4_ h5_ h6_ h7_ h8_ h9_ h10_ h11_ h12_ h13_ h14_ h15_ h16_
 refine condV (fun _=>?_) (fun hs=>?_)
 ·have hI:=hI
  refine ⟨fun D x4 x55 x54 x53 x52 x51 x50 x49 x48 x47 x46 x45 x44 x43 w_=>(D 0=true->x43=.bool (ed c d))/\(D 1=true->x44=.agg #[.int .i64 c.head.kind,.int .i64 c.head.n,.string c.head.name,kv,kb])/\(D 2=true->x45=.agg #[.int .i64 d.head.kind,.int .i64 d.head.n,.string d.head.name,kv',kb'])/\(D 3=true->x46=.bool (ed c d))/\(D 4=true->x47=.bool true)/\(D 5=true->x48=.bool true)/\(D 6=true->x49=.agg #[.int .i64 c.head.kind,.int .i64 c.head.n,.string c.head.name,kv,kb])/\(D 7=true->x50=.agg #[.int .i64 c.head.kind,.int .i64 c.head.n,.string c.head.name,kv,kb])/\(D 8=true->x51=.bool (aO c))/\(D 9=true->x52=.agg #[.int .i64 c.head.kind,.int .i64 c.head.n,.string c.head.name,kv,kb])/\(D 10=true->x53=.bool (aO c))/\(D 11=true->x54=.bool true)/\(D 12=true->x55=.bool true)/\(D 13=true->x4=.bool true)/\Inv w [] [.blk b5 (.cells #[.int .i64 c.head.kind,.int .i64 c.head.n,.string c.head.name,kv,kb] af),.blk b6 (.cells #[.int .i64 d.head.kind,.int .i64 d.head.n,.string d.head.name,kv',kb'] af)] S1 w_,⟨fun h=>Bool.noConfusion h,fun h=>Bool.noConfusion h,fun h=>Bool.noConfusion h,fun h=>Bool.noConfusion h,fun h=>Bool.noConfusion h,fun h=>Bool.noConfusion h,fun h=>Bool.noConfusion h,fun h=>Bool.noConfusion h,fun h=>Bool.noConfusion h,fun h=>Bool.noConfusion h,fun h=>Bool.noConfusion h,fun h=>Bool.noConfusion h,fun h=>Bool.noConfusion h,fun h=>Bool.noConfusion h,hI.draw⟩,⟨?_,?_,?_,?_,?_,?_,?_,?_,?_,?_,?_,?_,?_,?_,trivial⟩,?_⟩
  ·intro D hD_  x4 x55 x54 x53 x52 x51 x50 x49 x48 x47 x46 x45 x44 x43 w_
   rintro ⟨h0_,h1_,h2_,h3_,h4_,h5_,h6_,h7_,h8_,h9_,h10_,h11_,h12_,h13_,hI⟩
   exact ⟨fun _=>rfl,h1_,h2_,h3_,h4_,h5_,h6_,h7_,h8_,h9_,h10_,h11_,h12_,h13_,hI⟩
  ·intro D hD_  x4 x55 x54 x53 x52 x51 x50 x49 x48 x47 x46 x45 x44 x43 w_
   rintro ⟨h0_,h1_,h2_,h3_,h4_,h5_,h6_,h7_,h8_,h9_,h10_,h11_,h12_,h13_,hI⟩
   refine r_loadW hI 0 al rfl rfl ?_
   exact ⟨h0_,fun _=>rfl,h2_,h3_,h4_,h5_,h6_,h7_,h8_,h9_,h10_,h11_,h12_,h13_,hI⟩
  ·intro D hD_  x4 x55 x54 x53 x52 x51 x50 x49 x48 x47 x46 x45 x44 x43 w_
   rintro ⟨h0_,h1_,h2_,h3_,h4_,h5_,h6_,h7_,h8_,h9_,h10_,h11_,h12_,h13_,hI⟩
   refine r_loadW hI 1 al rfl rfl ?_
   exact ⟨h0_,h1_,fun _=>rfl,h3_,h4_,h5_,h6_,h7_,h8_,h9_,h10_,h11_,h12_,h13_,hI⟩
  ·intro D hD_ d1_0 d2_1 x4 x55 x54 x53 x52 x51 x50 x49 x48 x47 x46 x45 x44 x43 w_
   rintro ⟨h0_,h1_,h2_,h3_,h4_,h5_,h6_,h7_,h8_,h9_,h10_,h11_,h12_,h13_,hI⟩
   obtain rfl:=h1_ d1_0
   obtain rfl:=h2_ d2_1
   refine Run.callPure bC bB hI (bo hc hd (by omega) (by omega)) fun w_ hI=>?_
   exact ⟨h0_,h1_,h2_,fun _=>rfl,h4_,h5_,h6_,h7_,h8_,h9_,h10_,h11_,h12_,h13_,hI⟩
  ·intro D hD_ d0_0 d3_1 x4 x55 x54 x53 x52 x51 x50 x49 x48 x47 x46 x45 x44 x43 w_
   rintro ⟨h0_,h1_,h2_,h3_,h4_,h5_,h6_,h7_,h8_,h9_,h10_,h11_,h12_,h13_,hI⟩
   obtain rfl:=h0_ d0_0
   obtain rfl:=h3_ d3_1
   refine qJ dp ?_
   rw [beq_self_eq_true]
   exact ⟨h0_,h1_,h2_,h3_,fun _=>rfl,h5_,h6_,h7_,h8_,h9_,h10_,h11_,h12_,h13_,hI⟩
  ·intro D hD_ d4_0 d3_1 x4 x55 x54 x53 x52 x51 x50 x49 x48 x47 x46 x45 x44 x43 w_
   rintro ⟨h0_,h1_,h2_,h3_,h4_,h5_,h6_,h7_,h8_,h9_,h10_,h11_,h12_,h13_,hI⟩
   obtain rfl:=h4_ d4_0
   exact ⟨h0_,h1_,h2_,h3_,h4_,fun _=>rfl,h6_,h7_,h8_,h9_,h10_,h11_,h12_,h13_,hI⟩
  ·intro D hD_ d5_0 x4 x55 x54 x53 x52 x51 x50 x49 x48 x47 x46 x45 x44 x43 w_
   rintro ⟨h0_,h1_,h2_,h3_,h4_,h5_,h6_,h7_,h8_,h9_,h10_,h11_,h12_,h13_,hI⟩
   obtain rfl:=h5_ d5_0
   refine ac (b:=true) ?_
   refine r_loadW hI 0 al rfl rfl ?_
   exact ⟨h0_,h1_,h2_,h3_,h4_,h5_,fun _=>rfl,h7_,h8_,h9_,h10_,h11_,h12_,h13_,hI⟩
  ·intro D hD_ d5_0 x4 x55 x54 x53 x52 x51 x50 x49 x48 x47 x46 x45 x44 x43 w_
   rintro ⟨h0_,h1_,h2_,h3_,h4_,h5_,h6_,h7_,h8_,h9_,h10_,h11_,h12_,h13_,hI⟩
   obtain rfl:=h5_ d5_0
   refine ac (b:=true) ?_
   refine r_loadW hI 0 al rfl rfl ?_
   exact ⟨h0_,h1_,h2_,h3_,h4_,h5_,h6_,fun _=>rfl,h8_,h9_,h10_,h11_,h12_,h13_,hI⟩
  ·intro D hD_ d6_0 d7_1 d5_2 d5_3 x4 x55 x54 x53 x52 x51 x50 x49 x48 x47 x46 x45 x44 x43 w_
   rintro ⟨h0_,h1_,h2_,h3_,h4_,h5_,h6_,h7_,h8_,h9_,h10_,h11_,h12_,h13_,hI⟩
   obtain rfl:=h6_ d6_0
   obtain rfl:=h7_ d7_1
   obtain rfl:=h5_ d5_2
   refine ac (b:=true) ?_
   refine Run.callPure aY aX hI (aS hc hc) fun w_ hI=>?_
   rw [sH]
   exact ⟨h0_,h1_,h2_,h3_,h4_,h5_,h6_,h7_,fun _=>rfl,h9_,h10_,h11_,h12_,h13_,hI⟩
  ·intro D hD_ d5_0 x4 x55 x54 x53 x52 x51 x50 x49 x48 x47 x46 x45 x44 x43 w_
   rintro ⟨h0_,h1_,h2_,h3_,h4_,h5_,h6_,h7_,h8_,h9_,h10_,h11_,h12_,h13_,hI⟩
   obtain rfl:=h5_ d5_0
   refine ac (b:=true) ?_
   refine r_loadW hI 0 al rfl rfl ?_
   exact ⟨h0_,h1_,h2_,h3_,h4_,h5_,h6_,h7_,h8_,fun _=>rfl,h10_,h11_,h12_,h13_,hI⟩
  ·intro D hD_ d9_0 d8_1 d5_2 x4 x55 x54 x53 x52 x51 x50 x49 x48 x47 x46 x45 x44 x43 w_
   rintro ⟨h0_,h1_,h2_,h3_,h4_,h5_,h6_,h7_,h8_,h9_,h10_,h11_,h12_,h13_,hI⟩
   obtain rfl:=h9_ d9_0
   obtain rfl:=h5_ d5_2
   refine ac (b:=true) ?_
   refine Run.callPure bq bt hI (bk hc) fun w_ hI=>?_
   exact ⟨h0_,h1_,h2_,h3_,h4_,h5_,h6_,h7_,h8_,h9_,fun _=>rfl,h11_,h12_,h13_,hI⟩
  ·intro D hD_ d8_0 d10_1 d5_2 x4 x55 x54 x53 x52 x51 x50 x49 x48 x47 x46 x45 x44 x43 w_
   rintro ⟨h0_,h1_,h2_,h3_,h4_,h5_,h6_,h7_,h8_,h9_,h10_,h11_,h12_,h13_,hI⟩
   obtain rfl:=h8_ d8_0
   obtain rfl:=h10_ d10_1
   obtain rfl:=h5_ d5_2
   refine ac (b:=true) ?_
   refine qJ dp ?_
   rw [beq_self_eq_true]
   exact ⟨h0_,h1_,h2_,h3_,h4_,h5_,h6_,h7_,h8_,h9_,h10_,fun _=>rfl,h12_,h13_,hI⟩
  ·intro D hD_ d5_0 d11_1 x4 x55 x54 x53 x52 x51 x50 x49 x48 x47 x46 x45 x44 x43 w_
   rintro ⟨h0_,h1_,h2_,h3_,h4_,h5_,h6_,h7_,h8_,h9_,h10_,h11_,h12_,h13_,hI⟩
   obtain rfl:=h5_ d5_0
   obtain rfl:=h11_ d11_1
   refine ai ?_
   exact ⟨h0_,h1_,h2_,h3_,h4_,h5_,h6_,h7_,h8_,h9_,h10_,h11_,fun _=>rfl,h13_,hI⟩
  ·intro D hD_ d12_0 d10_1 d0_2 d1_3 d2_4 d3_5 d4_6 d5_7 d6_8 d7_9 d8_10 d9_11 d10_12 d11_13 d12_14 x4 x55 x54 x53 x52 x51 x50 x49 x48 x47 x46 x45 x44 x43 w_
   rintro ⟨h0_,h1_,h2_,h3_,h4_,h5_,h6_,h7_,h8_,h9_,h10_,h11_,h12_,h13_,hI⟩
   obtain rfl:=h12_ d12_0
   exact ⟨h0_,h1_,h2_,h3_,h4_,h5_,h6_,h7_,h8_,h9_,h10_,h11_,h12_,fun _=>rfl,hI⟩
  intro D d13_ d12_ d11_ d10_ d9_ d8_ d7_ d6_ d5_ d4_ d3_ d2_ d1_ d0_ x4 x55 x54 x53 x52 x51 x50 x49 x48 x47 x46 x45 x44 x43 w_
  rintro ⟨h0_,h1_,h2_,h3_,h4_,h5_,h6_,h7_,h8_,h9_,h10_,h11_,h12_,h13_,hI⟩
  obtain rfl:=h13_ d13_
  obtain rfl:=h12_ d12_
  obtain rfl:=h11_ d11_
  obtain rfl:=h10_ d10_
  obtain rfl:=h9_ d9_
  obtain rfl:=h8_ d8_
  obtain rfl:=h7_ d7_
  obtain rfl:=h6_ d6_
  obtain rfl:=h5_ d5_
  obtain rfl:=h4_ d4_
  obtain rfl:=h3_ d3_
  obtain rfl:=h2_ d2_
  obtain rfl:=h1_ d1_
  obtain rfl:=h0_ d0_
  clear h0_ h1_ h2_ h3_ h4_ h5_ h6_ h7_ h8_ h9_ h10_ h11_ h12_ h13_
  exact gR hI hE1.1 rfl
 have hs:ed c d=true:=by simpa using hs
 refine Run.call0E bF bD hI (bw (g.monoU hE1.1)) fun t58 I' S2 w'=>?_
 rintro ⟨rfl,xs,es,x,y,rfl,hx,hy,hwx,hwy⟩ hE2 hI
 have hc:=hc.mono hE2.1
 have hd:=hd.mono hE2.1
 have hh:=hh.mono hE2.1
 have hh':=hh'.mono hE2.1
 have hle:=hE1.1.trans hE2.1
 refine r_extract (v:=.agg xs.toArray) rfl ?_
 refine r_extract (v:=.agg es.toArray) rfl ?_
 refine r_alloc hI aP fun b8 w' hI=>?_
 refine r_alloc hI aP fun b9 w' hI=>?_
 have hI:Inv w [] [.blk b5 (.cells #[.int .i64 c.head.kind,.int .i64 c.head.n,.string c.head.name,kv,kb] af),.blk b6 (.cells #[.int .i64 d.head.kind,.int .i64 d.head.n,.string d.head.name,kv',kb'] af),.blk b8 (.cells zCl af),.blk b9 (.cells zCl af)] S2 w':=hI
 refine au hI 2 rfl al (by simpa using hx.length) rfl (by simpa using hx.one) fun w' hI=>?_
 refine au hI 3 rfl al (by simpa using hy.length) rfl (by simpa using hy.one) fun w' hI=>?_
 have hI:Inv w [] [.blk b5 (.cells #[.int .i64 c.head.kind,.int .i64 c.head.n,.string c.head.name,kv,kb] af),.blk b6 (.cells #[.int .i64 d.head.kind,.int .i64 d.head.n,.string d.head.name,kv',kb'] af),.blk b8 (.cells xs.toArray af),.blk b9 (.cells es.toArray af)] S2 w':=hI
 refine r_loadW hI 1 al rfl rfl ?_
 refine r_loadW hI 2 al rfl (by simpa using hx.length) ?_
 refine Run.callPure aY aX hI (aS hd hx) fun w' hI=>?_
 refine r_not ?_
 have hfin:∀ {w'':World},Inv w [] [.blk b5 (.cells #[.int .i64 c.head.kind,.int .i64 c.head.n,.string c.head.name,kv,kb] af),.blk b6 (.cells #[.int .i64 d.head.kind,.int .i64 d.head.n,.string d.head.name,kv',kb'] af),.blk b8 (.cells xs.toArray af),.blk b9 (.cells es.toArray af)] S2 w''->∀ {K:Value->World->Prop},(∀ w3,Inv w [] [.blk b5 (.cells #[.int .i64 c.head.kind,.int .i64 c.head.n,.string c.head.name,kv,kb] af),.blk b6 (.cells #[.int .i64 d.head.kind,.int .i64 d.head.n,.string d.head.name,kv',kb'] af),.blk b8 (.cells xs.toArray af),.blk b9 (.cells es.toArray af)] S2 w3->K (.bool true) w3)->
   Run Tryz.prog (sCall (.func (.func fw) #[] #[]) [.agg [.int .i64 c.head.kind,.int .i64 c.head.n,.string c.head.name,kv].toArray,.agg [.int .i64 d.head.kind,.int .i64 d.head.n,.string d.head.name,kv'].toArray]) w'' K:=by
  intro w'' hI K hk
  refine Run.callPure eZ fa hI (dv hh hh') fun w' hI=>?_
  rw [wz hs]
  exact hk _ hI
 cases hdx:ed d x
 all_goals repeat (first|refine ac ?_|refine ag (by decide) ?_|refine ae ?_|refine ai ?_|refine ah ?_)
 case' true=>
  refine r_loadW hI 0 al rfl rfl ?_
  refine r_loadW hI 2 al rfl (by simpa using hx.length) ?_
  refine Run.callPure aY aX hI (aS hc hx) fun w' hI=>?_
  rw [pN hs hdx]
  repeat (first|refine ac ?_|refine ag (by decide) ?_|refine ae ?_|refine ai ?_|refine ah ?_)
 all_goals
  refine r_loadW hI 3 al rfl (by simpa using hy.length) ?_
  refine r_loadW hI 0 al rfl rfl ?_
  refine Run.callPure aY aX hI (aS hy hc) fun w' hI=>?_
  refine r_not ?_
  cases hyc:ed y c
 all_goals repeat (first|refine ac ?_|refine ag (by decide) ?_|refine ae ?_|refine ai ?_|refine ah ?_)
 case' true.true|false.true=>
  refine r_loadW hI 3 al rfl (by simpa using hy.length) ?_
  refine r_loadW hI 1 al rfl rfl ?_
  refine Run.callPure aY aX hI (aS hy hd) fun w' hI=>?_
  rw [pN hyc hs]
  repeat (first|refine ac ?_|refine ag (by decide) ?_|refine ae ?_|refine ai ?_|refine ah ?_)
 all_goals
  refine r_field aQ ?_
  refine r_loadLA hI 0 [.int .i64 c.head.kind,.int .i64 c.head.n,.string c.head.name,kv] aj rfl rfl mK ?_
  refine r_field aQ ?_
  refine r_loadLA hI 1 [.int .i64 d.head.kind,.int .i64 d.head.n,.string d.head.name,kv'] aj rfl rfl mK ?_
  refine hfin hI fun w' hI=>?_
  repeat (first|refine ac ?_|refine ag (by decide) ?_|refine ae ?_|refine ai ?_|refine ah ?_)
  exact gR hI hle rfl
end
end Go.Proofs.YtmnnpgdeecnfpaaGreat

/- What every row of this seat owes beside its walk: the arguments read again as they did, and nothing that was there has turned. -/
namespace Go.Proofs.YtmnnpgdeecnfpaaGreat
open Go Go.ChangeShapes Go.WideShapes Go.ChangeAt Go.RowKit

theorem Tryz.own:ownKnob Tryz.prog.godebug=none:=by kernel_rfl
theorem Tryz.kids:Kids Tryz.prog (·<Tryz.prog.types.size):=kids_rows (by kernel_rfl) (by kernel_rfl)
theorem Tryz.full:∀ t e,t<Tryz.prog.types.size->Tryz.prog.underlying t=some (.slice e)->0<Tryz.prog.cellsOf e:=slices_full_of Tryz.prog (by kernel_rfl)
section
variable {H:Type} {enc:TypeId × Value->H} {W W':World}
theorem sL {P:Program}:∀ {ts:List TypeId} {vs:List Value} {ds:List (DataW H)} {ps:List MemPlace},DataW.TrodAll enc P W 0 (fun _=>true) true ts vs ds ps->(∀ p∈ps,W.sameAt W' p)->
  DataW.TrodAll enc P W' 0 (fun _=>true) true ts vs ds ps
 | [],[],[],_,h,_=>h
 | _::_,_::_,_::_,_,⟨p,q,⟨n,h1⟩,h2,e⟩,hs=>
  ⟨p,q,⟨n,DataW.trod_carry n _ _ _ h1 fun x hx=>hs x (by rw [e]; exact List.mem_append_left _ hx)⟩,sL h2 fun x hx=>hs x (by rw [e]; exact List.mem_append_right _ hx),e⟩
theorem xI {p:MemPlace} (h:∀ b,b<W.heap.size->W'.heap[b]?=W.heap[b]?) (hp:p.block<W.heap.size):W.sameAt W' p:=by
 cases p with
 | cell b off=>simp only [World.sameAt,World.cell?]; rw [h b hp]
 | map b=>exact h b hp
/- a function of the program whose walk ends with 'true' and with all that was there as it was: the row's 'post' -/
theorem pK {f:Func} {s:ChangeSpec} {args:Array Value} {ds gs:List (DataW H)} {before p q:List MemPlace}
  (hW:DataW.Whole enc Tryz.prog f.params.toList s.vars false W args.toList ds gs before) (hA:DataW.TrodAll enc Tryz.prog W 0 (fun _=>true) true f.params.toList args.toList ds p)
  (hV:DataW.TrodVars enc Tryz.prog W (fun _=>true) s.vars gs q) (hb:before=p++q) (hv:s.vars=[]) (hts:∀ t∈f.params.toList,t<Tryz.prog.types.size) (hr:f.resultTypes=#[xS])
  (hs:(s.fn H (ds++gs)).results=[.lit (.bool true)]) (ha:(s.fn H (ds++gs)).args=ds) (hsv:(s.fn H (ds++gs)).vars=[]) (hI:Inv W [] [] (ug W) W') :
  s.post enc Tryz.prog f false true false false W args (.bool true) W':=by
 have hsame:∀ b,b<W.heap.size->W'.heap[b]?=W.heap[b]?:=fun b hb=>hI.same b hb
 have hlt:=hW.lt
 rw [hv] at hV
 obtain ⟨hg,hq⟩:=trodVars_none hV
 subst hq
 rw [List.append_nil] at hb
 subst hb
 have hA':=sL (W':=W') hA fun x hx=>xI hsame (hlt x hx)
 refine ⟨ds,gs,before,[],before,[],hW,?_,?_,?_,vE hI.os hI.output hsame,fun h=>by cases h⟩
 ·rw [hs,hr]
  exact trodAll_mk1 (shut_bool dp true)
 ·rw [ha]
  exact DataW.TrodAll.respare Tryz.kids Tryz.full hts hA' fun x hx=>by simpa using hlt x hx
 ·rw [hv,hsv]
  rfl
end

end Go.Proofs.YtmnnpgdeecnfpaaGreat

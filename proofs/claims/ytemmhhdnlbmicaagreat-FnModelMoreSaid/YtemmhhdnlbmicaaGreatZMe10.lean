/- Matching with a map: impl.instance. -/
import Derived.Test.YtemmhhdnlbmicaaGreatZMe6
import Derived.Test.YtemmhhdnlbmicaaGreatZMe3
import Derived.Test.YtemmhhdnlbmicaaGreatZMe9
import Derived.Test.YtemmhhdnlbmicaaGreatZMe1
import Derived.Test.YtemmhhdnlbmicaaGreatZMe7
namespace Go.Proofs.YtemmhhdnlbmicaaGreat
open Go Go.RowKit

/- the map of impl.instance -/
def KnownM (S:aF) (es:Array MapEntry) (st:bt):Prop:=
 (∀ e∈es.toList,∃ (n:Nat) (t:T) (cs:List Value),e.key=.int .i64 n/\e.val=.agg cs.toArray/\RdT S cs t/\st[n]?=some (some t))/\(∀ (n:Nat) (t:T),st[n]?=some (some t)->∃ e∈es.toList,e.key=.int .i64 n)
theorem KnownM.find {S:aF} {es:Array MapEntry} {st:bt} (h:KnownM S es st) (n:Nat) :
  (∃ j v t cs,Instr.findNow (.int .i64) (.int .i64 n) es.toList 0=some (some (j,v))/\v=.agg cs.toArray/\RdT S cs t/\st[n]?=some (some t)) ∨
  ((∀ t,st[n]?≠some (some t))/\Instr.findNow (.int .i64) (.int .i64 n) es.toList 0=some none):=by
 rcases u9 (n:=n) es.toList 0 (fun e he=>by obtain ⟨m,_,_,hk,_⟩:=h.1 e he; exact ⟨m,hk⟩) with ⟨j,e,he,hk,hf⟩|⟨hk,hf⟩
 ·obtain ⟨m,t,cs,hk2,hv,hR,hs⟩:=h.1 e he
  rw [hk] at hk2
  simp only [Value.int.injEq,true_and] at hk2
  have:n=m:=by omega
  subst this
  exact .inl ⟨j,e.val,t,cs,hf,hv,hR,hs⟩
 ·refine .inr ⟨fun t ht=>?_,hf⟩
  obtain ⟨e,he,hk2⟩:=h.2 n t ht
  exact hk e he hk2
theorem KnownM.push {S:aF} {es:Array MapEntry} {st:bt} (h:KnownM S es st) {n:Nat} (hn:n<st.length) (hno:∀ t,st[n]?≠some (some t)) {cs:List Value} {u:T} (hu:RdT S cs u) (ck:Nat) :
  KnownM S (es.push { key:=.int .i64 n,val:=.agg cs.toArray,born:=ck }) (st.set n (some u)):=by
 refine ⟨fun e he=>?_,fun m t ht=>?_⟩
 ·rw [Array.toList_push] at he
  rcases List.mem_append.1 he with he|he
  ·obtain ⟨m,t,cs',hk,hv,hR,hs⟩:=h.1 e he
   refine ⟨m,t,cs',hk,hv,hR,?_⟩
   have:n≠m:=fun e=>hno t (by rw [e]; exact hs)
   rw [List.getElem?_set_ne this]
   exact hs
  ·simp at he
   subst he
   exact ⟨n,u,cs,rfl,rfl,hu,by rw [List.getElem?_set_self hn]⟩
 ·rw [Array.toList_push]
  by_cases e:n=m
  ·exact ⟨_,List.mem_append_right _ (List.mem_singleton.2 rfl),by rw [e]⟩
  ·rw [List.getElem?_set_ne e] at ht
   obtain ⟨x,hx,hk⟩:=h.2 m t ht
   exact ⟨x,List.mem_append_left _ hx,hk⟩
theorem Bv (t u:T):lk t u=lk u t:=by
 rw [lk,lk,Bool.eq_iff_iff]
 simp only [Bool.and_eq_true,decide_eq_true_eq]
 constructor
 ·rintro ⟨a,b,c,d⟩; exact ⟨a.symm,b.symm,c.symm,d.symm⟩
 ·rintro ⟨a,b,c,d⟩; exact ⟨a.symm,b.symm,c.symm,d.symm⟩
section
attribute [local irreducible] Run CondV ah be
theorem zf:∀ (t u:T) (S:aF) (cs ds:List Value) (mb ck:Nat) (es:Array MapEntry) (st:bt),RdT S cs t->RdT S ds u->okV t->okK u->uH st->KnownM S es st->
  Tri Tryz.prog Eh [.agg ds.toArray,.agg cs.toArray,.map (some mb)] [.blk mb (.map es ck)] S fun r I' S'=>S'=S/\r=.bool (bI t u st).1/\∃ es' ck',I'=[.blk mb (.map es' ck')]/\KnownM S es' (bI t u st).2:=by
 refine T.ind fun k' n' s' ks' ih u S cs ds mb ck es st h' h hv hu hst hkc=>?_
 intro w hI
 have hds:=h
 obtain ⟨kv',rfl,_,_,_,hks'⟩:=RdT.iff.1 h'
 obtain ⟨kv,rfl,_,_,_,hks⟩:=RdT.iff.1 h
 obtain ⟨k,n,s,ks⟩:=u
 simp only [T.name,T.kids,T.kind,T.n] at hks hks' ⊢
 have hlen:=hks'.le
 simp only [maxLen] at hlen
 rw [okV] at hv
 obtain ⟨hv1,hv2⟩:=hv
 have huk:=hu
 rw [okK] at hu
 obtain ⟨X,hX⟩:∃ X,X=bX [Item.blk mb (.map es ck)]:=⟨_,rfl⟩
 rw [<- hX] at hI ⊢
 refine uV ?_
 unfold p8;dsimp only
 refine bQ hI fun b1 w' hI=>?_
 refine bQ hI fun b2 w' hI=>?_
 have hI:Inv w X [.blk b1 (.cells #[.int .i64 k,.int .i64 n,.string s,kv] ab),.blk b2 (.cells #[.int .i64 k',.int .i64 n',.string s',kv'] ab),.blk mb (.map es ck)] S w':=hI.perm (by
  refine (List.perm_append_comm (l₁:=[_,_]) (l₂:=[_])).trans ?_
  exact List.Perm.refl _)
 refine aI hI 1 rfl bD bo rfl ?_
 refine bR ?_
 refine bl (fun hk1=>?_) (fun hk1=>?_)
 ·obtain ⟨hn0,hn25⟩:=hv1 hk1
  obtain ⟨j,rfl⟩:∃ j:Nat,n'=j:=⟨n'.toNat,by omega⟩
  have hj:j<26:=by omega
  have hjs:j<st.length:=by rw [hst.1]; exact hj
  refine aI hI 1 rfl bF bo rfl ?_
  rcases hkc.find j with ⟨q,v,t0,cs0,hf,rfl,hR,hst2⟩|⟨hno,hf⟩
  ·refine Fp (v:=.agg cs0.toArray) (ok:=true) hI 2 kX jJ bL rfl (.inl ⟨q,hf,rfl⟩) ?_
   refine bd rfl ?_
   refine bd rfl ?_
   have hlc:=hR.length
   refine bH hI bL fun b7 w' hI=>?_
   refine bg hI 3 rfl ao (by simpa using hlc) rfl (by simpa using hR.one) fun w' hI=>?_
   refine dh ?_
   refine ba (fun hb=>by cases hb) (fun _=>?_)
   refine bb hI 3 ao rfl (by simpa using hlc) ?_
   refine bb hI 0 ao rfl rfl ?_
   refine Run.callPure kI kQ hI (lc t0 _ S _ _ hR hds) fun w' hI=>?_
   have hm:bI (.mk k' j s' ks') (.mk k n s ks) st=(eqT t0 (.mk k n s ks),st):=by
    rw [bI,if_pos hk1,Int.toNat_natCast,hst2]
   rw [hm]
   exact ⟨_,_,_,rfl,hI.pick [false,false,true,false],Ext.refl _ _ _,rfl,rfl,_,_,rfl,hkc⟩
  ·refine Fp (ok:=false) hI 2 kX jJ bL rfl (.inr ⟨hf,rfl,rfl⟩) ?_
   refine bd rfl ?_
   refine bd rfl ?_
   refine bH hI bL fun b7 w' hI=>?_
   refine bg hI 3 rfl ao rfl rfl (by simp [Value.oneCell']) fun w' hI=>?_
   refine dh ?_
   refine ba (fun _=>?_) (fun hb=>by cases hb)
   refine aI hI 1 rfl bF bo rfl ?_
   refine bb hI 0 ao rfl rfl ?_
   refine KV hI 2 kX jJ rfl hf fun w' hI=>?_
   have hm:bI (.mk k' j s' ks') (.mk k n s ks) st=(true,st.set j (some (.mk k n s ks))):=by
    rw [bI,if_pos hk1,Int.toNat_natCast,List.getElem?_eq_getElem hjs]
    cases hq:st[j] with
    | none=>rfl
    | some t=>exact absurd (by rw [List.getElem?_eq_getElem hjs,hq]) (hno t)
   rw [hm]
   exact ⟨_,_,_,rfl,hI.pick [false,false,true,false],Ext.refl _ _ _,rfl,rfl,_,_,rfl,hkc.push hjs hno hds ck⟩
 refine ⟨fun q w'=>q=.bool (!lk (.mk k n s ks) (.mk k' n' s' ks'))/\Inv w X [.blk b1 (.cells #[.int .i64 k,.int .i64 n,.string s,kv] ab),.blk b2 (.cells #[.int .i64 k',.int .i64 n',.string s',kv'] ab),.blk mb (.map es ck)] S w',?_,?_⟩
 ·refine aI hI 0 rfl bD bo rfl ?_
  refine aI hI 1 rfl bD bo rfl ?_
  refine gh ?_
  by_cases e1:k=k'
  ·rw [decide_eq_true e1]
   repeat (first|refine ad ?_|refine af (by decide) ?_|refine ac ?_|refine al ?_|refine aj ?_)
   refine aI hI 0 rfl bF bo rfl ?_
   refine aI hI 1 rfl bF bo rfl ?_
   refine gh ?_
   by_cases e2:n=n'
   ·rw [decide_eq_true e2]
    repeat (first|refine ad ?_|refine af (by decide) ?_|refine ac ?_|refine al ?_|refine aj ?_)
    refine aI hI 0 rfl bp bm rfl ?_
    refine aI hI 1 rfl bp bm rfl ?_
    refine uf ?_
    by_cases e3:s=s'
    ·rw [decide_eq_true e3]
     repeat (first|refine ad ?_|refine af (by decide) ?_|refine ac ?_|refine al ?_|refine aj ?_)
     refine aI hI 0 rfl aT aR rfl ?_
     refine a9 hks ay ?_
     refine aI hI 1 rfl aT aR rfl ?_
     refine a9 hks' ay ?_
     refine gh ?_
     repeat (first|refine ad ?_|refine af (by decide) ?_|refine ac ?_|refine al ?_|refine aj ?_)
     exact ⟨by rw [fq,decide_eq_true e1,decide_eq_true e2,decide_eq_true e3,Ll]; rfl,hI⟩
    ·rw [decide_eq_false e3]
     repeat (first|refine ad ?_|refine af (by decide) ?_|refine ac ?_|refine al ?_|refine aj ?_)
     exact ⟨by rw [fq,decide_eq_true e1,decide_eq_true e2,decide_eq_false e3]; rfl,hI⟩
   ·rw [decide_eq_false e2]
    repeat (first|refine ad ?_|refine af (by decide) ?_|refine ac ?_|refine al ?_|refine aj ?_)
    exact ⟨by rw [fq,decide_eq_true e1,decide_eq_false e2]; rfl,hI⟩
  ·rw [decide_eq_false e1]
   repeat (first|refine ad ?_|refine af (by decide) ?_|refine ac ?_|refine al ?_|refine aj ?_)
   exact ⟨by rw [fq,decide_eq_false e1]; rfl,hI⟩

 intro q _ _ _ _ _ _ _ _ _ _ _ _ _ _ _ _ _ _ _ _ _ _ _ _ _ _ _ w'
 rintro ⟨rfl,hI⟩
 cases hd:lk (.mk k n s ks) (.mk k' n' s' ks')
 ·refine ba (fun _=>?_) (fun hb=>by cases hb)
  have hm:bI (.mk k' n' s' ks') (.mk k n s ks) st=(false,st):=by rw [bI,if_neg hk1,if_neg (by rw [Bv,hd]; decide)]
  rw [hm]
  exact ⟨_,_,_,rfl,hI.pick [false,false,true],Ext.refl _ _ _,rfl,rfl,_,_,rfl,hkc⟩
 refine ba (fun hb=>by cases hb) (fun _=>?_)
 have hle:ks.length=ks'.length:=by
  rw [fq] at hd
  simp only [Bool.and_eq_true,decide_eq_true_eq] at hd
  exact hd.2.2.2
 have hm:bI (.mk k' n' s' ks') (.mk k n s ks) st=eL ks' ks st:=by rw [bI,if_neg hk1,if_pos (by rw [Bv,hd])]; rfl
 rw [hm]
 have hu2:=hu.2
 refine aI hI 1 rfl aT aR rfl ?_
 refine a9 hks' ay ?_
 refine ⟨fun i w'=>∃ (j:Nat) (st':bt) (es':Array MapEntry) (ck':Nat),j<=ks'.length/\i=.int .i64 j/\eL (ks'.drop j) (ks.drop j) st'=eL ks' ks st/\uH st'/\KnownM S es' st'/\Inv w X [.blk b1 (.cells #[.int .i64 k,.int .i64 n,.string s,kv] ab),.blk b2 (.cells #[.int .i64 k',.int .i64 n',.string s',kv'] ab),.blk mb (.map es' ck')] S w',fun i _=>ks'.length - (intOf i).toNat,⟨0,st,es,ck,Nat.zero_le _,rfl,rfl,hst,hkc,hI⟩,?_⟩
 intro t60 _ _ _ _ _ _ _ _ _ _ _ _ _ _ _ _ _ _ w'
 rintro ⟨j,st',es',ck',hj,rfl,hrel,hst',hkc',hI⟩
 refine bW ?_
 refine bl (fun hji=>?_) (fun hji=>?_)
 ·have hj2:j<ks'.length:=by omega
  have hj1:j<ks.length:=by omega
  obtain ⟨c1,o1,cap1,a1,E1,fz1,rfl,hS1,hR1⟩:=hks.at_ hj1
  obtain ⟨c2,o2,cap2,a2,E2,fz2,rfl,hS2,hR2⟩:=hks'.at_ hj2
  rw [vt ks' ks st' j hj2 hj1] at hrel
  have hcall:=ih _ (List.getElem_mem hj2) ks[j] S _ _ mb ck' es' st' hR2 hR1 (nH hv2 _ (List.getElem_mem hj2)) (n3 hu2 _ (List.getElem_mem hj1)) hst' hkc'
  have hsn:=rG ks'[j] ks[j] st' hst' (n3 hu2 _ (List.getElem_mem hj1))
  generalize hr:bI ks'[j] ks[j] st'=r at hrel hcall hsn
  refine ⟨fun D eU ed ew eq ev el ey eQ fG eJ cE cV cH w_=>(D 0=true->cH=.pointer (some ⟨b1,3,none⟩))/\(D 1=true->cV=.slice (some ⟨c1,o1,none⟩) ks.length cap1)/\(D 2=true->cE=.int .i64 j)/\(D 3=true->eJ=.pointer (some ⟨c1,o1+j * 4,none⟩))/\(D 4=true->fG=.agg (bw a1 (o1+j * 4) 4).toArray)/\(D 5=true->eQ=.pointer (some ⟨b2,3,none⟩))/\(D 6=true->ey=.slice (some ⟨c2,o2,none⟩) ks'.length cap2)/\(D 7=true->el=.int .i64 j)/\(D 8=true->ev=.pointer (some ⟨c2,o2+j * 4,none⟩))/\(D 9=true->eq=.agg (bw a2 (o2+j * 4) 4).toArray)/\(D 10=true->ew=.map (some mb))/\(D 11=true->ed=.bool r.1)/\(D 12=true->eU=.bool (!r.1))/\(D 11=false->Inv w X [.blk b1 (.cells #[.int .i64 k,.int .i64 n,.string s,.slice (some ⟨c1,o1,none⟩) ks.length cap1] ab),.blk b2 (.cells #[.int .i64 k',.int .i64 n',.string s',.slice (some ⟨c2,o2,none⟩) ks'.length cap2] ab),.blk mb (.map es' ck')] S w_)/\(D 11=true->∃ es2 ck2,KnownM S es2 r.2/\Inv w X [.blk b1 (.cells #[.int .i64 k,.int .i64 n,.string s,.slice (some ⟨c1,o1,none⟩) ks.length cap1] ab),.blk b2 (.cells #[.int .i64 k',.int .i64 n',.string s',.slice (some ⟨c2,o2,none⟩) ks'.length cap2] ab),.blk mb (.map es2 ck2)] S w_)/\∃ es3 ck3,Inv w X [.blk b1 (.cells #[.int .i64 k,.int .i64 n,.string s,.slice (some ⟨c1,o1,none⟩) ks.length cap1] ab),.blk b2 (.cells #[.int .i64 k',.int .i64 n',.string s',.slice (some ⟨c2,o2,none⟩) ks'.length cap2] ab),.blk mb (.map es3 ck3)] S w_,⟨ae,ae,ae,ae,ae,ae,ae,ae,ae,ae,ae,ae,ae,⟨fun _=>hI.draw,ae,es',ck',hI.draw⟩⟩,⟨?_,?_,?_,?_,?_,?_,?_,?_,?_,?_,?_,?_,?_,trivial⟩,?_⟩
  ·intro D aY  eU ed ew eq ev el ey eQ fG eJ cE cV cH w_
   rintro ⟨aA,aB,aC,az,av,aE,aD,aH,aK,aP,ag,ai,aG,⟨hI0,hI1,es3,ck3,hI⟩⟩
   refine bi aT ?_
   exact ⟨fun _=>rfl,aB,aC,az,av,aE,aD,aH,aK,aP,ag,ai,aG,⟨hI0,hI1,es3,ck3,hI⟩⟩
  ·intro D aY b0 eU ed ew eq ev el ey eQ fG eJ cE cV cH w_
   rintro ⟨aA,aB,aC,az,av,aE,aD,aH,aK,aP,ag,ai,aG,⟨hI0,hI1,es3,ck3,hI⟩⟩
   obtain rfl:=aA b0
   refine bG hI 0 aR rfl rfl ?_
   exact ⟨aA,fun _=>rfl,aC,az,av,aE,aD,aH,aK,aP,ag,ai,aG,⟨hI0,hI1,es3,ck3,hI⟩⟩
  ·intro D aY  eU ed ew eq ev el ey eQ fG eJ cE cV cH w_
   rintro ⟨aA,aB,aC,az,av,aE,aD,aH,aK,aP,ag,ai,aG,⟨hI0,hI1,es3,ck3,hI⟩⟩
   exact ⟨aA,aB,fun _=>rfl,az,av,aE,aD,aH,aK,aP,ag,ai,aG,⟨hI0,hI1,es3,ck3,hI⟩⟩
  ·intro D aY dE gK eU ed ew eq ev el ey eQ fG eJ cE cV cH w_
   rintro ⟨aA,aB,aC,az,av,aE,aD,aH,aK,aP,ag,ai,aG,⟨hI0,hI1,es3,ck3,hI⟩⟩
   obtain rfl:=aB dE
   obtain rfl:=aC gK
   refine bk ay hj1 ?_
   exact ⟨aA,aB,aC,fun _=>rfl,av,aE,aD,aH,aK,aP,ag,ai,aG,⟨hI0,hI1,es3,ck3,hI⟩⟩
  ·intro D aY dB eU ed ew eq ev el ey eQ fG eJ cE cV cH w_
   rintro ⟨aA,aB,aC,az,av,aE,aD,aH,aK,aP,ag,ai,aG,⟨hI0,hI1,es3,ck3,hI⟩⟩
   obtain rfl:=az dB
   refine cU ao hR1.length (fun j v hj=>by rw [hI.cellS hS1]; exact bn rfl j v hj) ?_
   exact ⟨aA,aB,aC,az,fun _=>rfl,aE,aD,aH,aK,aP,ag,ai,aG,⟨hI0,hI1,es3,ck3,hI⟩⟩
  ·intro D aY  eU ed ew eq ev el ey eQ fG eJ cE cV cH w_
   rintro ⟨aA,aB,aC,az,av,aE,aD,aH,aK,aP,ag,ai,aG,⟨hI0,hI1,es3,ck3,hI⟩⟩
   refine bi aT ?_
   exact ⟨aA,aB,aC,az,av,fun _=>rfl,aD,aH,aK,aP,ag,ai,aG,⟨hI0,hI1,es3,ck3,hI⟩⟩
  ·intro D aY dT eU ed ew eq ev el ey eQ fG eJ cE cV cH w_
   rintro ⟨aA,aB,aC,az,av,aE,aD,aH,aK,aP,ag,ai,aG,⟨hI0,hI1,es3,ck3,hI⟩⟩
   obtain rfl:=aE dT
   refine bG hI 1 aR rfl rfl ?_
   exact ⟨aA,aB,aC,az,av,aE,fun _=>rfl,aH,aK,aP,ag,ai,aG,⟨hI0,hI1,es3,ck3,hI⟩⟩
  ·intro D aY  eU ed ew eq ev el ey eQ fG eJ cE cV cH w_
   rintro ⟨aA,aB,aC,az,av,aE,aD,aH,aK,aP,ag,ai,aG,⟨hI0,hI1,es3,ck3,hI⟩⟩
   exact ⟨aA,aB,aC,az,av,aE,aD,fun _=>rfl,aK,aP,ag,ai,aG,⟨hI0,hI1,es3,ck3,hI⟩⟩
  ·intro D aY cJ i7 eU ed ew eq ev el ey eQ fG eJ cE cV cH w_
   rintro ⟨aA,aB,aC,az,av,aE,aD,aH,aK,aP,ag,ai,aG,⟨hI0,hI1,es3,ck3,hI⟩⟩
   obtain rfl:=aD cJ
   obtain rfl:=aH i7
   refine bk ay hj2 ?_
   exact ⟨aA,aB,aC,az,av,aE,aD,aH,fun _=>rfl,aP,ag,ai,aG,⟨hI0,hI1,es3,ck3,hI⟩⟩
  ·intro D aY hY eU ed ew eq ev el ey eQ fG eJ cE cV cH w_
   rintro ⟨aA,aB,aC,az,av,aE,aD,aH,aK,aP,ag,ai,aG,⟨hI0,hI1,es3,ck3,hI⟩⟩
   obtain rfl:=aK hY
   refine cU ao hR2.length (fun j v hj=>by rw [hI.cellS hS2]; exact bn rfl j v hj) ?_
   exact ⟨aA,aB,aC,az,av,aE,aD,aH,aK,fun _=>rfl,ag,ai,aG,⟨hI0,hI1,es3,ck3,hI⟩⟩
  ·intro D aY  eU ed ew eq ev el ey eQ fG eJ cE cV cH w_
   rintro ⟨aA,aB,aC,az,av,aE,aD,aH,aK,aP,ag,ai,aG,⟨hI0,hI1,es3,ck3,hI⟩⟩
   exact ⟨aA,aB,aC,az,av,aE,aD,aH,aK,aP,fun _=>rfl,ai,aG,⟨hI0,hI1,es3,ck3,hI⟩⟩
  ·intro D aY cF fl yk eU ed ew eq ev el ey eQ fG eJ cE cV cH w_
   rintro ⟨aA,aB,aC,az,av,aE,aD,aH,aK,aP,ag,ai,aG,⟨hI0,hI1,es3,ck3,hI⟩⟩
   obtain rfl:=av cF
   obtain rfl:=aP fl
   obtain rfl:=ag yk
   refine Run.call (A:=[_,_]) pC p9 (hI0 aY) hcall fun v' I' S w_=>?_
   rintro ⟨rfl,rfl,es2,ck2,rfl,hk2⟩ _ hI
   have hI0:=fun (h:aw D 11 11=false)=>(Bool.noConfusion h:Inv w X [.blk b1 (.cells #[.int .i64 k,.int .i64 n,.string s,.slice (some ⟨c1,o1,none⟩) ks.length cap1] ab),.blk b2 (.cells #[.int .i64 k',.int .i64 n',.string s',.slice (some ⟨c2,o2,none⟩) ks'.length cap2] ab),.blk mb (.map es' ck')] S w_)
   have hI1:=fun (_:aw D 11 11=true)=>(⟨es2,ck2,hk2,hI⟩:∃ es2 ck2,KnownM S es2 r.2/\Inv w X [.blk b1 (.cells #[.int .i64 k,.int .i64 n,.string s,.slice (some ⟨c1,o1,none⟩) ks.length cap1] ab),.blk b2 (.cells #[.int .i64 k',.int .i64 n',.string s',.slice (some ⟨c2,o2,none⟩) ks'.length cap2] ab),.blk mb (.map es2 ck2)] S w_)
   obtain ⟨es3,ck3,hI⟩:∃ es3 ck3,Inv w X [.blk b1 (.cells #[.int .i64 k,.int .i64 n,.string s,.slice (some ⟨c1,o1,none⟩) ks.length cap1] ab),.blk b2 (.cells #[.int .i64 k',.int .i64 n',.string s',.slice (some ⟨c2,o2,none⟩) ks'.length cap2] ab),.blk mb (.map es3 ck3)] S w_:=⟨es2,ck2,hI⟩
   exact ⟨aA,aB,aC,az,av,aE,aD,aH,aK,aP,ag,fun _=>rfl,aG,⟨hI0,hI1,es3,ck3,hI⟩⟩
  ·intro D aY gZ eU ed ew eq ev el ey eQ fG eJ cE cV cH w_
   rintro ⟨aA,aB,aC,az,av,aE,aD,aH,aK,aP,ag,ai,aG,⟨hI0,hI1,es3,ck3,hI⟩⟩
   obtain rfl:=ai gZ
   refine dh ?_
   exact ⟨aA,aB,aC,az,av,aE,aD,aH,aK,aP,ag,ai,fun _=>rfl,⟨hI0,hI1,es3,ck3,hI⟩⟩
  intro D iO fk fw iK gI fK fL fH fC fB fE fM fJ eU ed ew eq ev el ey eQ fG eJ cE cV cH w_
  rintro ⟨aA,aB,aC,az,av,aE,aD,aH,aK,aP,ag,ai,aG,⟨hI0,hI1,es3,ck3,hI⟩⟩
  obtain rfl:=aG iO
  obtain rfl:=ai fk
  obtain rfl:=ag fw
  obtain rfl:=aP iK
  obtain rfl:=aK gI
  obtain rfl:=aH fK
  obtain rfl:=aD fL
  obtain rfl:=aE fH
  obtain rfl:=av fC
  obtain rfl:=az fB
  obtain rfl:=aC fE
  obtain rfl:=aB fM
  obtain rfl:=aA fJ
  clear aA aB aC az av aE aD aH aK aP ag ai aG
  obtain ⟨es2,ck2,hk2,hI⟩:=hI1 fk
  clear hI0 hI1
  refine ba (fun hne=>?_) (fun he'=>?_)
  ·simp only [Bool.not_eq_true'] at hne
   rw [hne,if_neg (by decide)] at hrel
   rw [<- hrel]
   exact ⟨_,_,_,rfl,hI.pick [false,false,true],Ext.refl _ _ _,rfl,rfl,_,_,rfl,hk2⟩
  ·simp only [Bool.not_eq_false'] at he'
   rw [he',if_pos rfl] at hrel
   refine bN (by omega) ?_
   exact ⟨⟨j+1,r.2,es2,ck2,hj2,rfl,hrel,hsn,hk2,hI⟩,by simp [intOf]; omega⟩
 ·have:j=ks'.length:=by omega
  subst this
  rw [List.drop_length,<- hle,List.drop_length] at hrel
  rw [<- hrel]
  exact ⟨_,_,_,rfl,hI.pick [false,false,true],Ext.refl _ _ _,rfl,rfl,_,_,rfl,hkc'⟩
end

end Go.Proofs.YtemmhhdnlbmicaaGreat

/- maps.Clone of maps from numbers to terms; reading a published map. -/
namespace Go.Proofs.YtemmhhdnlbmicaaGreat
open Go Go.RowKit
section
variable {P:Program} {w w0:World} {X:List Nat} {L:List Item} {S:aF} {K:Value->World->Prop}
attribute [local irreducible] Run CondV ah be
theorem JC (h:Inv w0 X L S w) {T kt et ty:TypeId} {b clock:Nat} {es:Array MapEntry} {n:Int} {z v:Value} (hT:P.underlying T=some (.map kt et)) (hkt:P.underlying kt=some (.int .i64))
  (hz:iL P et=some z) (hS:S b=some (.map es clock))
  (hf:(∃ j,Instr.findNow (.int .i64) (.int .i64 n) es.toList 0=some (some (j,v))) ∨ (Instr.findNow (.int .i64) (.int .i64 n) es.toList 0=some none/\v=z))
  (hk:K v w):Run P (sOp (.lookup T (.const (.map (some b))) (.const (.int .i64 n)) false) ty) w K:=by
 have hb:w.heap[b]?=some (.map es clock):=(h.pub _ _ hS).1
 have hck:∀ e,(Instr.checkKey e 10000 kt (.int .i64 n)).run P w=.ok () w:=fun e=>by
  rw [show (10000:Nat)=9999+1 from rfl,Instr.checkKey]
  simp [run_underlying hkt]
 obtain ⟨inf,hi1,hi2⟩:∃ inf,P.info? et=some inf/\inf.zero=some z:=by
  unfold iL at hz
  cases hinf:P.info? et with
  | none=>rw [hinf] at hz; simp at hz
  | some inf=>rw [hinf] at hz; exact ⟨inf,rfl,by simpa using hz⟩
 have hzv:(zeroValue et).run P w=.ok z w:=by simp [zeroValue,typeInfo,hi1,hi2]
 refine Run.of ?_ hk
 have hg:(getObj b).run P w=.ok (.map es clock) w:=by simp [getObj,Sem.run,hb]
 rcases hf with ⟨j,hf⟩|⟨hf,rfl⟩
 ·have hfk:=gT (P:=P) (w:=w) hkt hf
  simp [sOp,execOp,ev0,evE,Instr.lookup,run_underlying hT,hg,hck,hfk]
 ·have hfk:=gT (P:=P) (w:=w) hkt hf
  simp [sOp,execOp,ev0,evE,Instr.lookup,run_underlying hT,hg,hck,hfk,hzv]
theorem Lj {T kt et:TypeId} {cx cy:Bool} {b:Nat} (hT:P.underlying T=some (.map kt et)) (hk:K (.bool false) w):Run P (ar .eql T cx cy (.map (some b)) (.map none)) w K:=by
 refine Run.of (v:=.bool false) (w':=w) ?_ hk
 have he:(Op.equal T (.map (some b)) (.map none)).run P w=.ok false w:=by
  rw [Op.equal,Op.maxDepth,Op.equalIn.eq_def]
  simp [run_underlying hT]
 have hg:∀ x y,(eqGuard .eql T x y (.map (some b)) (.map none)).run P w=.ok () w:=fun x y=>by unfold eqGuard; simp
 simp only [ar,binOp,Sem.run_bind,hg,Result.andThen_ok,he,Sem.run_pure]
theorem L8 {T ty kt et:TypeId} {v:Value} (hT:P.underlying T=some (.map kt et)) (hk:K (.iface T v) w):Run P (sOp (.makeInterface T (.const v)) ty) w K:=by
 refine Run.of ?_ hk
 simp [sOp,execOp,ev0,evE,Instr.makeInterface,run_underlying hT]
theorem Lk {T U ty kt et:TypeId} {v:Value} (hT:P.underlying T=some (.map kt et)) (hk:K v w):Run P (sOp (.typeAssert (.const (.iface T v)) U T false) ty) w K:=by
 refine Run.of ?_ hk
 simp [sOp,execOp,ev0,evE,Instr.typeAssert,run_underlying hT]
theorem Lw (h:Inv w0 X L S w) {f:FuncId} {fn:Func} {t b clock:Nat} {es:Array MapEntry} (hf:P.funcs[f]?=some fn) (hn:(fn.name == "runtime.NumGoroutine")=false) (hb:fn.body.isNone=true)
  (hx:(Extern.findNext fn).isNone=true) (hy:Extern.find fn=some Extern.MapsClone.clone) (hS:S b=some (.map es clock))
  (hk:∀ nb w',Inv w0 X (L++[.blk nb (.map es clock)]) S w'->K (.iface t (.map (some nb))) w'):Run P (aJ (.func (.func f) #[] #[]) [.iface t (.map (some b))]) w K:=by
 have hbw:w.heap[b]?=some (.map es clock):=(h.pub _ _ hS).1
 refine Run.of (v:=.iface t (.map (some w.heap.size))) (w':={ w with heap:=w.heap.push (.map es clock) }) ?_ (hk _ _ (h.alloc _))
 have h1:¬ fn.name = "runtime.NumGoroutine" := by simpa using hn
 have h2:fn.body=none:=by simpa using hb
 have h3:Extern.findNext fn=none:=by simpa using hx
 have hg:(getObj b).run P w=.ok (.map es clock) w:=by simp [getObj,Sem.run,hbw]
 have hc:(Extern.MapsClone.clone #[.iface t (.map (some b))]).run P w=.ok (.iface t (.map (some w.heap.size))) { w with heap:=w.heap.push (.map es clock) }:=by
  have e:Extern.MapsClone.clone #[.iface t (.map (some b))]=(getObj b >>= fun o=>match o with
   | .map entries clock=>(newObj (.map entries clock) >>= fun n=>pure (.iface t (.map (some n))))
   | _=>stuck "maps.clone: a map expected"):=rfl
  rw [e]
  simp [hg,newObj,Sem.run,Result.andThen]
 simp [aJ,Deferred.ofValue,invoke,callFunc,hf,h1,h2,h3,hy,hc]
end
section
attribute [local irreducible] Run CondV ah be
theorem DC {S:aF} {mb ck:Nat} {es:Array MapEntry} (hS:S mb=some (.map es ck)):Tri Tryz.prog wz [.map (some mb)] [] S fun r I' S'=>S'=S/\∃ nb,r=.map (some nb)/\I'=[.blk nb (.map es ck)]:=by
 intro w hI
 refine o6 ?_
 unfold lO
 refine Lj (kt:=fu) (et:=ab) (by kernel_rfl) ?_
 refine ba (fun hb=>by cases hb) (fun _=>?_)
 refine L8 (kt:=fu) (et:=ab) (by kernel_rfl) ?_
 refine Lw hI Tryz.func144 (by kernel_rfl) (by kernel_rfl) (by kernel_rfl) (by kernel_rfl) hS fun nb w' hI=>?_
 refine Lk (kt:=fu) (et:=ab) (by kernel_rfl) ?_
 exact ⟨_,_,_,rfl,hI,Ext.refl _ _ _,rfl,nb,rfl,rfl⟩
end

end Go.Proofs.YtemmhhdnlbmicaaGreat

/- SubsumedClause: both sides. -/
namespace Go.Proofs.YtemmhhdnlbmicaaGreat
open Go Go.RowKit

def st0:bt:=List.replicate 26 none
theorem KnownM.empty (S:aF):KnownM S #[] st0:=⟨by simp,fun n t ht=>by
 rw [st0,List.getElem?_replicate] at ht
 split at ht <;> cases ht⟩
theorem IL:∀ {ts:List T},(∀ t∈ts,okV t)->FG ts
 | [],_=>by simp [FG]
 | t::ts,h=>by rw [FG]; exact ⟨h t (List.mem_cons_self ..),IL fun u hu=>h u (List.mem_cons_of_mem _ hu)⟩
theorem I7:∀ {ts:List T},(∀ t∈ts,okK t)->Bm ts
 | [],_=>by simp [Bm]
 | t::ts,h=>by rw [Bm]; exact ⟨h t (List.mem_cons_self ..),I7 fun u hu=>h u (List.mem_cons_of_mem _ hu)⟩
theorem L5 (z:Array Value) (hz:z=#[.int .i64 0,.int .i64 0,.string ⟨#[]⟩,.slice none 0 0]) (S:aF):KnownC S ((Array.range 104).map (z[· % z.size]!)) st0:=by
 subst hz
 refine ⟨by simp,fun i hi=>⟨fun _=>?_,fun t ht=>?_⟩⟩
 ·simp only [st0,List.length_replicate] at hi
  apply List.ext_getElem?
  intro j
  rw [bw,List.getElem?_take]
  match j with
  | 0|1|2|3=>
   rw [if_pos (by omega),List.getElem?_drop,Array.getElem?_toList,Array.getElem?_map,Array.getElem?_range,if_pos (by omega)]
   simp only [Option.map_some,List.size_toArray,List.length_cons,List.length_nil]
   first
    | rw [show (i * 4+0) % 4=0 by omega]; rfl
    | rw [show (i * 4+1) % 4=1 by omega]; rfl
    | rw [show (i * 4+2) % 4=2 by omega]; rfl
    | rw [show (i * 4+3) % 4=3 by omega]; rfl
  | j+4=>
   rw [if_neg (by omega)]
   rfl
 ·have e:st0[i]=none:=by simp only [st0,List.getElem_replicate]
  rw [e] at ht
  cases ht
section
variable {P:Program} {w w0:World} {X:List Nat} {L:List Item} {S:aF} {K:Value->World->Prop}
attribute [local irreducible] Run CondV ah be
theorem Dy (h:Inv w0 X L S w) {T ty e:TypeId} {k by_ n:Nat} {z:Value} (hT:nO P T=some (e,k,by_,z)) (hn:n<=4294967296) (hby:by_<=65536) (hn0:n * k≠0)
  (hk:∀ b w',Inv w0 X (L++[.blk b (.cells ((Array.range (n * k)).map (z.cells[· % z.cells.size]!)) e)]) S w'->K (.slice (some ⟨b,0,none⟩) n n) w') :
  Run P (sOp (.makeSlice T (.const (.int .i64 n)) (.const (.int .i64 n))) ty) w K:=by
 obtain ⟨hu,i,hi,hz,hs,hb,hzs⟩:=ig hT
 have hw:IntKind.i64.wrap (n:Int)=n:=IntWalk.i64_in _ (by omega)
 have hle:by_ * n<=2 ^ 48:=Nat.le_trans (Nat.mul_le_mul hby hn) (by decide)
 have h1:¬ ((n:Int)<0):=by omega
 have h2:¬ (281474976710656<(i.bytes:Int) * (n:Int)):=by
  rw [hb]
  have:((by_ * n:Nat):Int)<=((2 ^ 48:Nat):Int):=by exact_mod_cast hle
  have e:(((2 ^ 48:Nat)):Int)=281474976710656:=by decide
  rw [e,Int.natCast_mul] at this
  omega
 refine Run.of (v:=.slice (some ⟨w.heap.size,0,none⟩) n n) (w':={ w with heap:=w.heap.push (.cells ((Array.range (n * k)).map (z.cells[· % z.cells.size]!)) e) }) ?_ (hk _ _ (h.alloc _))
 simp [sOp,execOp,ev0,evE,Instr.makeSlice,run_underlying hu,asInt,asIntOf,typeInfo,hi,hw,h1,h2,sizeOf,hs,newRow,newObj,Sem.run,hn0,zeroValue,hz]
end
section
attribute [local irreducible] Run CondV ah be
end

end Go.Proofs.YtemmhhdnlbmicaaGreat

/- Flat programs: what follows from facts. The plain form. -/
namespace Go.Proofs.YtemmhhdnlbmicaaGreat
open Go Go.RowKit

def BC (y:T):Prop:=ez y=true/\y.kids=[]/\y.kind≠1
def Fct (x:T):Prop:=x.kind=3/\ez x=true/\∀ y∈x.kids,BC y
def Gl (g:T):Prop:=g.kind=3/\ez g=true/\∀ y∈g.kids,ez y=true/\y.kids=[]
def StF (st:bt):Prop:=st.length=26/\∀ t,some t∈st->BC t
def bnd (st:bt) (n:Int):Prop:=∃ t,st[n.toNat]?=some (some t)
theorem Il {s:ByteArray} (h:lM s=true):s.size<=6:=by
 rw [lM,Bool.or_eq_true] at h
 rcases h with h|h
 ·rw [kG] at h
  simp only [Bool.and_eq_true,decide_eq_true_eq] at h
  exact h.2.2
 ·simp only [List.any_eq_true,decide_eq_true_eq] at h
  obtain ⟨x,hx,rfl⟩:=h
  have:∀ y∈signs,y.size<=6:=by decide +kernel
  exact this x hx
theorem uY {t:T} (h:ez t=true):t.name.size<=6/\t.kids.length<=4:=by
 unfold ez at h
 have he:emptyB.size=0:=by decide +kernel
 by_cases e1:t.kind=1
 ·rw [if_pos e1] at h
  simp only [Bool.and_eq_true,decide_eq_true_eq] at h
  rw [h.2.2.1]; omega
 ·rw [if_neg e1] at h
  by_cases e2:t.kind=2
  ·rw [if_pos e2] at h
   simp only [Bool.and_eq_true,decide_eq_true_eq] at h
   rw [h.2.2.1]; omega
  ·rw [if_neg e2] at h
   by_cases e3:t.kind=3
   ·rw [if_pos e3] at h
    simp only [Bool.and_eq_true,decide_eq_true_eq] at h
    exact ⟨Il h.2.1,h.2.2⟩
   ·rw [if_neg e3] at h
    cases h
theorem Kq (t:T):wT t=t.name.size+t.kids.length+wL t.kids:=by cases t; rw [wT]; rfl
theorem Iy (t:T):okV t↔(t.kind=1->0<=t.n/\t.n<=25)/\FG t.kids:=by cases t; rw [okV]; rfl
theorem IU (t:T):okK t↔t.kind≠0/\Bm t.kids:=by cases t; rw [okK]; rfl
theorem I8 (t:T):okO t↔(((t.kind=1 ∨ t.kind=2)/\t.name=emptyB/\t.kids=[]) ∨ (t.kind=3/\t.n=0))/\uv t.kids:=by cases t; rw [okO]; rfl
theorem IC:∀ {ts:List T},(∀ t∈ts,okO t)->uv ts
 | [],_=>by simp [uv]
 | t::ts,h=>by rw [uv]; exact ⟨h t (List.mem_cons_self ..),IC fun u hu=>h u (List.mem_cons_of_mem _ hu)⟩
theorem CV {y:T} (h:ez y=true) (hk:y.kids=[]):okV y/\okK y/\okO y/\wT y<=6:=by
 have h1:=G0 h
 have h2:=sL h
 have h3:=uY h
 refine ⟨(Iy y).2 ⟨h1.1,by rw [hk]; simp [FG]⟩,(IU y).2 ⟨h1.2,by rw [hk]; simp [Bm]⟩,(I8 y).2 ⟨h2,by rw [hk]; simp [uv]⟩,?_⟩
 rw [Kq,hk]
 simp only [List.length_nil,wL]
 omega
theorem zw:∀ (ts:List T) (b:Nat),(∀ t∈ts,wT t<=b)->wL ts<=ts.length * b
 | [],b,_=>by simp [wL]
 | t::ts,b,h=>by
  rw [wL,List.length_cons,Nat.succ_mul]
  have h1:=h t (List.mem_cons_self ..)
  have h2:=zw ts b fun u hu=>h u (List.mem_cons_of_mem _ hu)
  omega
theorem Jd {x:T} (ho:ez x=true) (hk:∀ y∈x.kids,ez y=true/\y.kids=[]):okV x/\okK x/\okO x/\wT x<=34:=by
 have h1:=G0 ho
 have h2:=sL ho
 have h3:=uY ho
 have hl:=fun y hy=>CV (hk y hy).1 (hk y hy).2
 refine ⟨(Iy x).2 ⟨h1.1,IL fun y hy=>(hl y hy).1⟩,(IU x).2 ⟨h1.2,I7 fun y hy=>(hl y hy).2.1⟩,(I8 x).2 ⟨h2,IC fun y hy=>(hl y hy).2.2.1⟩,?_⟩
 have h4:=zw x.kids 6 fun y hy=>(hl y hy).2.2.2
 have h5:x.kids.length * 6<=4 * 6:=Nat.mul_le_mul_right 6 h3.2
 rw [Kq]
 omega
theorem Fct.ok {x:T} (h:Fct x):okV x/\okK x/\okO x/\wT x<=34:=Jd h.2.1 fun y hy=>⟨(h.2.2 y hy).1,(h.2.2 y hy).2.1⟩
theorem Gl.ok {x:T} (h:Gl x):okV x/\okK x/\okO x/\wT x<=34:=Jd h.2.1 h.2.2
theorem StF.ok {st:bt} (h:StF st):uH st/\stW st:=⟨⟨h.1,fun t ht=>(CV (h.2 t ht).1 (h.2 t ht).2.1).2.1⟩,fun t ht=>by have:=(CV (h.2 t ht).1 (h.2 t ht).2.1).2.2.2; omega⟩
theorem Lh:StF st0:=⟨by simp [st0],fun t ht=>by simp [st0] at ht⟩
theorem Jz {y:T} (h:ez y=true) (hk:y.kind=1):0<=y.n/\y.n<=25:=(G0 h).1 hk
/- matching -/
theorem wa:∀ (ts us:List T) (st:bt),st.length=26->(∀ y∈ts,ez y=true/\y.kids=[])->ts.length=us.length->
  (eL ts us st).2.length=26/\(∀ x,some x∈(eL ts us st).2->some x∈st ∨ x∈us)/\(∀ n,bnd st n->bnd (eL ts us st).2 n)/\((eL ts us st).1=true->∀ y∈ts,y.kind=1->bnd (eL ts us st).2 y.n)
 | [],us,st,hst,_,_=>by
  rw [eL]
  exact ⟨hst,fun x hx=>.inl hx,fun n h=>h,fun _ y hy=>by cases hy⟩
 | _::_,[],st,_,_,hl=>by simp at hl
 | t::ts,u::us,st,hst,hk,hl=>by
  obtain ⟨ho,hks⟩:=hk t (List.mem_cons_self ..)
  have hk':=fun y hy=>hk y (List.mem_cons_of_mem _ hy)
  have hl':ts.length=us.length:=by simpa using hl
  rw [eL]
  have key:(bI t u st).2.length=26/\(∀ x,some x∈(bI t u st).2->some x∈st ∨ x=u)/\(∀ n,bnd st n->bnd (bI t u st).2 n)/\((bI t u st).1=true->t.kind=1->bnd (bI t u st).2 t.n):=by
   obtain ⟨k,n,s,ks⟩:=t
   rw [bI]
   by_cases hk1:k=1
   ·have hr:=Jz ho hk1
    simp only [T.n] at hr
    rw [if_pos hk1]
    split
    ·rename_i t0 h0
     refine ⟨hst,fun x hx=>.inl hx,fun n h=>h,fun _ _=>⟨t0,?_⟩⟩
     exact h0
    ·refine ⟨by rw [List.length_set]; exact hst,fun x hx=>?_,fun m ⟨t1,h1⟩=>?_,fun _ _=>⟨u,?_⟩⟩
     ·rcases List.mem_or_eq_of_mem_set hx with hx|hx
      ·exact .inl hx
      ·simp only [Option.some.injEq] at hx
       exact .inr hx
     ·by_cases e:n.toNat=m.toNat
      ·refine ⟨u,?_⟩
       rw [<- e,List.getElem?_set_self (by omega)]
      ·refine ⟨t1,?_⟩
       rw [List.getElem?_set_ne e]
       exact h1
     ·show (st.set n.toNat (some u))[n.toNat]?=_
      rw [List.getElem?_set_self (by omega)]
   ·rw [if_neg hk1]
    split
    ·simp only [T.kids] at hks
     subst hks
     rw [eL]
     exact ⟨hst,fun x hx=>.inl hx,fun n h=>h,fun _ h=>absurd h hk1⟩
    ·exact ⟨hst,fun x hx=>.inl hx,fun n h=>h,fun _ h=>absurd h hk1⟩
  obtain ⟨k1,k2,k3,k4⟩:=key
  split
  ·rename_i hm
   obtain ⟨i1,i2,i3,i4⟩:=wa ts us (bI t u st).2 k1 hk' hl'
   refine ⟨i1,fun x hx=>?_,fun n h=>i3 n (k3 n h),fun h y hy hy1=>?_⟩
   ·rcases i2 x hx with hx|hx
    ·rcases k2 x hx with hx|rfl
     ·exact .inl hx
     ·exact .inr (List.mem_cons_self ..)
    ·exact .inr (List.mem_cons_of_mem _ hx)
   ·rcases List.mem_cons.1 hy with rfl|hy
    ·exact i3 _ (k4 hm hy1)
    ·exact i4 h y hy hy1
  ·refine ⟨k1,fun x hx=>?_,k3,fun h=>by cases h⟩
   rcases k2 x hx with hx|rfl
   ·exact .inl hx
   ·exact .inr (List.mem_cons_self ..)
theorem jQ {g f:T} {st:bt} (hg:Gl g) (hf:Fct f) (hst:StF st):StF (bI g f st).2/\(∀ n,bnd st n->bnd (bI g f st).2 n)/\((bI g f st).1=true->∀ y∈g.kids,y.kind=1->bnd (bI g f st).2 y.n):=by
 obtain ⟨k,n,s,ks⟩:=g
 have hk3:k=3:=hg.1
 rw [bI,if_neg (by omega)]
 split
 ·rename_i hd
  have hl:ks.length=f.kids.length:=by
   rw [lk] at hd
   simp only [Bool.and_eq_true,decide_eq_true_eq] at hd
   exact hd.2.2.2
  obtain ⟨i1,i2,i3,i4⟩:=wa ks f.kids st hst.1 hg.2.2 hl
  refine ⟨⟨i1,fun t ht=>?_⟩,i3,i4⟩
  rcases i2 t ht with h|h
  ·exact hst.2 t h
  ·exact hf.2.2 t h
 ·exact ⟨hst,fun n h=>h,fun h=>by cases h⟩
theorem z4 {h:T} {st:bt} (hh:Gl h) (hst:StF st) (hb:∀ y∈h.kids,y.kind=1->bnd st y.n):Fct (lq h st):=by
 refine ⟨hh.1,?_,fun y hy=>?_⟩
 ·have h1:=hh.2.1
  unfold ez at h1 ⊢
  have e3:(lq h st).kind=3:=hh.1
  rw [if_neg (by have:=hh.1; omega),if_neg (by have:=hh.1; omega),if_pos hh.1] at h1
  rw [if_neg (by omega),if_neg (by omega),if_pos e3]
  simp only [Bool.and_eq_true,decide_eq_true_eq] at h1 ⊢
  refine ⟨rfl,h1.2.1,?_⟩
  show (h.kids.map (gN st)).length<=4
  rw [List.length_map]
  exact h1.2.2
 ·have hy:y∈h.kids.map (gN st):=hy
  obtain ⟨x,hx,rfl⟩:=List.mem_map.1 hy
  rw [gN]
  split
  ·rename_i hk
   obtain ⟨t,ht⟩:=hb x hx hk
   have e:qS st x.n=t:=by rw [qS,ht]
   rw [e]
   exact hst.2 t (List.mem_of_getElem? ht)
  ·rename_i hk
   exact ⟨(hh.2.2 x hx).1,(hh.2.2 x hx).2,hk⟩
/- what follows -/
def iQ (hd:T) (facts:List T):List T->List T->bt->List T
 | [],out,st=>if 60<out.length then out else eP out (lq hd st)
 | g::gs,out,st=>if 60<out.length then out else facts.foldl (fun out f=>if (bI g f st).1=true then iQ hd facts gs out (bI g f st).2 else out) out
def eo (hd:T) (facts:List T):List T->bt->List T
 | [],st=>[lq hd st]
 | g::gs,st=>facts.flatMap fun f=>if (bI g f st).1=true then eo hd facts gs (bI g f st).2 else []
def g5 (out:List T) (t:T):List T:=if 60<out.length then out else eP out t
theorem uy:∀ (l:List T) (out:List T),60<out.length->l.foldl g5 out=out
 | [],out,_=>rfl
 | t::l,out,h=>by
  rw [List.foldl_cons,g5,if_pos h]
  exact uy l out h
theorem uM (hd:T) (facts:List T):∀ (gs out:List T) (st:bt),iQ hd facts gs out st=(eo hd facts gs st).foldl g5 out
 | [],out,st=>by rw [iQ,eo]; rfl
 | g::gs,out,st=>by
  rw [iQ,eo]
  split
  ·rename_i h
   exact (uy _ _ h).symm
  ·rename_i h
   clear h
   have:∀ (fs out:List T),fs.foldl (fun out f=>if (bI g f st).1=true then iQ hd facts gs out (bI g f st).2 else out) out =
     (fs.flatMap fun f=>if (bI g f st).1=true then eo hd facts gs (bI g f st).2 else []).foldl g5 out:=by
    intro fs
    induction fs with
    | nil=>intro out; rfl
    | cons f fs ih=>
     intro out
     rw [List.foldl_cons,List.flatMap_cons,List.foldl_append,ih]
     congr 1
     split
     ·exact uM hd facts gs out _
     ·rfl
   exact this facts out
/- the variables of the head are bound in the end -/
def iN (hd:T) (gs:List T) (st:bt):Prop:=∀ y∈hd.kids,y.kind=1->bnd st y.n ∨ ∃ g∈gs,∃ z∈g.kids,z.kind=1/\z.n=y.n
theorem j6 {hd g f:T} {gs:List T} {st:bt} (h:iN hd (g::gs) st) (hg:Gl g) (hf:Fct f) (hst:StF st) (hm:(bI g f st).1=true):iN hd gs (bI g f st).2:=by
 obtain ⟨_,h2,h3⟩:=jQ hg hf hst
 intro y hy hk
 rcases h y hy hk with hb|⟨x,hx,z,hz,hz1,hzn⟩
 ·exact .inl (h2 _ hb)
 ·rcases List.mem_cons.1 hx with rfl|hx
  ·left
   rw [<- hzn]
   exact h3 hm z hz hz1
  ·exact .inr ⟨x,hx,z,hz,hz1,hzn⟩
theorem xV {hd:T} {facts:List T} (hh:Gl hd) (hfs:∀ f∈facts,Fct f):∀ (gs:List T) (st:bt),(∀ g∈gs,Gl g)->StF st->iN hd gs st->∀ x∈eo hd facts gs st,Fct x
 | [],st,_,hst,hc,x,hx=>by
  rw [eo,List.mem_singleton] at hx
  subst hx
  refine z4 hh hst fun y hy hk=>?_
  rcases hc y hy hk with h|⟨g,hg,_⟩
  ·exact h
  ·cases hg
 | g::gs,st,hgs,hst,hc,x,hx=>by
  rw [eo,List.mem_flatMap] at hx
  obtain ⟨f,hf,hx⟩:=hx
  split at hx
  ·rename_i hm
   have hg:=hgs g (List.mem_cons_self ..)
   exact xV hh hfs gs _ (fun g' h'=>hgs g' (List.mem_cons_of_mem _ h')) (jQ hg (hfs f hf) hst).1 (j6 hc hg (hfs f hf) hst hm) x hx
  ·cases hx
theorem FP (out:List T) (t:T):out.length<=(g5 out t).length/\(g5 out t).length<=max out.length 61:=by
 unfold g5
 split
 ·omega
 ·have:=zN out t
  omega
theorem oe:∀ (l out:List T),out.length<=(l.foldl g5 out).length/\(l.foldl g5 out).length<=max out.length 61
 | [],out=>by simp only [List.foldl_nil]; omega
 | t::l,out=>by
  rw [List.foldl_cons]
  have h1:=FP out t
  have h2:=oe l (g5 out t)
  omega
theorem Fc {out:List T} {t y:T} (h:y∈g5 out t):y∈out ∨ y=t:=by
 unfold g5 at h
 split at h
 ·exact .inl h
 ·exact nu h
theorem qU:∀ (l out:List T) (y:T),y∈l.foldl g5 out->y∈out ∨ y∈l
 | [],out,y,h=>.inl h
 | t::l,out,y,h=>by
  rw [List.foldl_cons] at h
  rcases qU l _ y h with h|h
  ·rcases Fc h with h|rfl
   ·exact .inl h
   ·exact .inr (List.mem_cons_self ..)
  ·exact .inr (List.mem_cons_of_mem _ h)
theorem ul:∀ (l out:List T) (y:T),y∈out->y∈l.foldl g5 out
 | [],out,y,h=>h
 | t::l,out,y,h=>by
  rw [List.foldl_cons]
  refine ul l _ y ?_
  unfold g5
  split
  ·exact h
  ·exact (FF out t).2 y h
theorem Fi:∀ (l out:List T) (y:T),y∈l->60<(l.foldl g5 out).length ∨ y∈l.foldl g5 out
 | t::l,out,y,h=>by
  rw [List.foldl_cons]
  rcases List.mem_cons.1 h with rfl|h
  ·by_cases hc:60<out.length
   ·left
    have h1:=FP out y
    have h2:=oe l (g5 out y)
    omega
   ·right
    refine ul l _ _ ?_
    rw [g5,if_neg hc]
    exact (FF out y).1
  ·exact Fi l _ y h
theorem u4:∀ (l out:List T),Sorted out->(∀ x∈out,okO x)->(∀ x∈l,okO x)->Sorted (l.foldl g5 out)
 | [],out,h,_,_=>h
 | t::l,out,h,ho,hl=>by
  rw [List.foldl_cons]
  have ht:=hl t (List.mem_cons_self ..)
  refine u4 l _ ?_ (fun x hx=>?_) fun x hx=>hl x (List.mem_cons_of_mem _ hx)
  ·unfold g5
   split
   ·exact h
   ·exact oR h ho ht
  ·rcases Fc hx with hx|rfl
   ·exact ho x hx
   ·exact ht
theorem Ld (l:List T) (t:T):MG l t=true↔t∈l:=by
 rw [MG,List.any_eq_true]
 constructor
 ·rintro ⟨x,hx,he⟩
  rw [iZ] at he
  subst he
  exact hx
 ·intro h
  exact ⟨t,h,(iZ _ _).2 rfl⟩
/- a list that was cut off is longer than the facts -/
end Go.Proofs.YtemmhhdnlbmicaaGreat

/- spec.l16Body. -/
namespace Go.Proofs.YtemmhhdnlbmicaaGreat
open Go Go.RowKit
def IsM (S:aF) (v:Value) (r:Bool × bt):Prop:=∃ kb kp kc,v=.tuple #[kvn kb kp,.bool r.1]/\26<=kp/\kp<=maxLen/\S kb=some (.cells kc ab)/\KnownC S kc r.2
def IsKn (S:aF) (v:Value) (st:bt):Prop:=∃ kb kp kc,v=kvn kb kp/\26<=kp/\kp<=maxLen/\S kb=some (.cells kc ab)/\KnownC S kc st
theorem IsM.mono {S S':aF} {v:Value} {r:Bool × bt} (h:IsM S v r) (hs:Sle S S'):IsM S' v r:=by
 obtain ⟨kb,kp,kc,h1,h2,h3,h4,h5⟩:=h
 exact ⟨kb,kp,kc,h1,h2,h3,hs _ _ h4,h5.mono hs⟩
theorem IsKn.mono {S S':aF} {v:Value} {st:bt} (h:IsKn S v st) (hs:Sle S S'):IsKn S' v st:=by
 obtain ⟨kb,kp,kc,h1,h2,h3,h4,h5⟩:=h
 exact ⟨kb,kp,kc,h1,h2,h3,hs _ _ h4,h5.mono hs⟩
theorem IsM.parts {S:aF} {v:Value} {r:Bool × bt} (h:IsM S v r):∃ u,v=.tuple #[u,.bool r.1]/\IsKn S u r.2:=by
 obtain ⟨kb,kp,kc,h1,h2⟩:=h
 exact ⟨_,h1,kb,kp,kc,rfl,h2⟩
theorem Ms {hd:T} {facts gs out:List T} {st:bt} (hh:Gl hd) (hfs:∀ f∈facts,Fct f) (hgs:∀ g∈gs,Gl g) (hst:StF st) (hc:iN hd gs st) (ho:∀ x∈out,okO x) (hn:out.length<=1000000) :
  (∀ x∈iQ hd facts gs out st,okO x)/\(iQ hd facts gs out st).length<=1000000:=by
 rw [uM]
 refine ⟨fun x hx=>?_,?_⟩
 ·rcases qU _ _ x hx with h|h
  ·exact ho x h
  ·exact (xV hh hfs gs st hgs hst hc x h).ok.2.2.1
 ·have:=oe (eo hd facts gs st) out
  omega
theorem LJ {hd f g:T} {facts gs out:List T} {st:bt} (hh:Gl hd) (hfs:∀ f∈facts,Fct f) (hf:Fct f) (hg:Gl g) (hgs:∀ g∈gs,Gl g) (hst:StF st) (hc:iN hd (g::gs) st) (ho:∀ x∈out,okO x) (hn:out.length<=1000000) :
  (∀ x∈(if (bI g f st).1=true then iQ hd facts gs out (bI g f st).2 else out),okO x)/\(if (bI g f st).1=true then iQ hd facts gs out (bI g f st).2 else out).length<=1000000:=by
 split
 ·rename_i hm
  exact Ms hh hfs hgs (jQ hg hf hst).1 (j6 hc hg hf hst hm) ho hn
 ·exact ⟨ho,hn⟩
section
attribute [local irreducible] Run CondV ah be
theorem Bq (c0:C) (facts:List T) (hh:Gl c0.head) (hfs:∀ f∈facts,Fct f) (hbs:∀ g∈c0.body,Gl g):∀ (gs:List T) (i:Nat),i+gs.length=c0.body.length->c0.body.drop i=gs->
  ∀ (S:aF) (cs:List Value) (v fv kn:Value) (out:List T) (st:bt),RdC S cs c0->RdSl S 4 (RdT S) v out->RdSl S 4 (RdT S) fv facts->IsKn S kn st->StF st->iN c0.head gs st->(∀ x∈out,okO x)->out.length<=1000000->
  Tri Tryz.prog ER [v,.agg cs.toArray,.int .i64 i,fv,kn] [] S (Kr (iQ c0.head facts gs out st)):=by
 intro gs
 induction gs with
 | nil=>
  intro i hi hdr S cs v fv kn out st h hv hf hkn hst hc ho hn w hI
  obtain ⟨kb,kp,kc,rfl,hkp,hkm,hS,hkc⟩:=hkn
  obtain ⟨hd,ks,rfl,h1,h2⟩:=h
  have h1':=h1
  obtain ⟨kv,rfl,g1,g2,g3,g4⟩:=RdT.iff.1 h1
  simp only [List.length_nil,Nat.add_zero] at hi
  refine mr ?_
  unfold mc
  refine bQ hI fun b6 w' hI=>?_
  refine a9 hv ay ?_
  refine eh ?_
  rw [iQ]
  refine bl (fun hb=>?_) (fun hb=>?_)
  ·rw [if_pos (by omega)]
   exact ⟨_,_,_,rfl,hI.pick [false],Ext.refl _ _ _,rfl,hv⟩
  rw [if_neg (by omega)]
  refine aI hI 0 rfl bq aR rfl ?_
  refine a9 h2 ay ?_
  refine bR ?_
  refine bl (fun _=>?_) (fun hb=>absurd (by omega) hb)
  refine bi df ?_
  refine fe hI 0 [.int .i64 c0.head.kind,.int .i64 c0.head.n,.string c0.head.name,kv] ao rfl rfl K0 ?_
  have hok:=hh.ok
  refine Run.call0 C3 CG hI (Bc h1' hok.1 (by omega) hst.ok.1 hst.ok.2 hS hkc) fun v' I' S' w'=>?_
  rintro ⟨rfl,cs1,L,rfl,rfl,hT⟩ _ hI
  obtain ⟨S1,hI,hE,hins⟩:=hI.pubExt
  have hct:=z4 hh hst (fun y hy hk=>by
   rcases hc y hy hk with h|⟨g,hg,_⟩
   ·exact h
   ·cases hg)
  refine Run.call0E En F1 hI (Db (hv.monoT hE.1) (hT.rd hins) ho hct.ok.2.2.1 hn) fun v' I' S2 w'=>?_
  rintro ⟨rfl,hr⟩ hE2 hI
  exact ⟨_,_,_,rfl,hI.pick [false],hE.trans hE2,rfl,hr⟩
 | cons g gs ih=>
  intro i hi hdr S cs v fv kn out st h hv hf hkn hst hc ho hn w hI
  obtain ⟨kb,kp,kc,rfl,hkp,hkm,hS,hkc⟩:=hkn
  have h0:=h
  obtain ⟨hd,ks,rfl,h1,h2⟩:=h
  obtain ⟨kv,rfl,g1,g2,g3,g4⟩:=RdT.iff.1 h1
  simp only [List.length_cons] at hi
  have hib:i<c0.body.length:=by omega
  have hlen2:=h2.le
  have hlenf:=hf.le
  simp only [maxLen] at hlen2 hlenf
  have hge:c0.body[i]=g/\c0.body.drop (i+1)=gs:=by
   rw [List.drop_eq_getElem_cons hib,List.cons.injEq] at hdr
   exact hdr
  have hg:Gl g:=by rw [<- hge.1]; exact hbs _ (List.getElem_mem hib)
  have hgs:∀ x∈gs,Gl x:=fun x hx=>hbs x (by rw [<- hge.2] at hx; exact List.mem_of_mem_drop hx)
  refine mr ?_
  unfold mc
  refine bQ hI fun b6 w' hI=>?_
  refine a9 hv ay ?_
  refine eh ?_
  rw [iQ]
  refine bl (fun hb=>?_) (fun hb=>?_)
  ·rw [if_pos (by omega)]
   exact ⟨_,_,_,rfl,hI.pick [false],Ext.refl _ _ _,rfl,hv⟩
  rw [if_neg (by omega)]
  refine aI hI 0 rfl bq aR rfl ?_
  refine a9 h2 ay ?_
  refine bR ?_
  refine bl (fun hb=>by omega) (fun _=>?_)
  generalize hF:(fun (out:List T) (f:T)=>if (bI g f st).1=true then iQ c0.head facts gs out (bI g f st).2 else out)=F
  have hF2:∀ o f,F o f=if (bI g f st).1=true then iQ c0.head facts gs o (bI g f st).2 else o:=fun o f=>by rw [<- hF]
  refine ⟨fun j t w'=>∃ (k:Nat) (o:List T) (S':aF),k<=facts.length/\j=.int .i64 k/\(facts.drop k).foldl F o=facts.foldl F out/\(∀ x∈o,okO x)/\o.length<=1000000/\Ext w.heap.size [] S S'/\RdSl S' 4 (RdT S') t o/\
    Inv w [] [.blk b6 (.cells #[.int .i64 c0.head.kind,.int .i64 c0.head.n,.string c0.head.name,kv,ks] aQ)] S' w',
   fun j _ _=>facts.length - (intOf j).toNat,⟨0,out,S,Nat.zero_le _,rfl,rfl,ho,hn,Ext.refl _ _ _,hv,hI⟩,?_⟩
  intro t11 _ _ t0 _ _ _ _ _ _ _ _ _ _ _ _ _ _ _ _ _ _ _ _ _ _ _ _ _ _ _ _ w'
  rintro ⟨k,o,S',hk,rfl,hrel,hoo,hno,hE,hv',hI⟩
  have hf':=hf.monoT hE.1
  refine a9 hf' ay ?_
  refine bW ?_
  refine bl (fun hki=>?_) (fun hki=>?_)
  ·have hk':k<facts.length:=by omega
   rw [List.drop_eq_getElem_cons hk',List.foldl_cons] at hrel
   have hfk:=hfs _ (List.getElem_mem hk')
   have hso:=LJ hh hfs hfk hg hgs hst hc hoo hno
   obtain ⟨b1,o1,cap1,c1,E1,fz1,rfl,hS1,hR1⟩:=(h2.monoT hE.1).at_ hib
   obtain ⟨b2,o2,cap2,c2,E2,fz2,rfl,hS2,hR2⟩:=hf'.at_ hk'
   rw [hge.1] at hR1
   obtain ⟨r,hr⟩:∃ r,r=bI g facts[k] st:=⟨_,rfl⟩
   refine ⟨fun t w'=>∃ S2,Ext w.heap.size [] S S2/\RdSl S2 4 (RdT S2) t (F o facts[k])/\Inv w [] [.blk b6 (.cells #[.int .i64 c0.head.kind,.int .i64 c0.head.n,.string c0.head.name,kv,.slice (some ⟨b1,o1,none⟩) c0.body.length cap1] aQ)] S2 w',?_,?_⟩
   ·have hkd:=hkc.1
    refine ⟨fun D eV eT bT bU dO cS dq dk dp dr dn gz eG d5 eF dQ w_=>(D 0=true->dQ=.pointer (some ⟨b6,4,none⟩))/\(D 1=true->eF=.slice (some ⟨b1,o1,none⟩) c0.body.length cap1)/\(D 2=true->d5=.int .i64 i)/\(D 3=true->eG=.pointer (some ⟨b1,o1+i * 4,none⟩))/\(D 4=true->gz=.agg (bw c1 (o1+i * 4) 4).toArray)/\(D 5=true->dn=.slice (some ⟨b2,o2,none⟩) facts.length cap2)/\(D 6=true->dr=.int .i64 k)/\(D 7=true->dp=.pointer (some ⟨b2,o2+k * 4,none⟩))/\(D 8=true->dk=.agg (bw c2 (o2+k * 4) 4).toArray)/\(D 9=true->dq=kvn kb kp)/\(D 10=true->True)/\(D 11=true->True)/\(D 12=true->True)/\(D 13=true->True)/\(D 14=true->True)/\(D 15=true->True)/\∃ SN,Ext w.heap.size [] S' SN/\(D 10=true->IsM SN cS r)/\(D 11=true->IsM SN dO r)/\(D 12=true->IsKn SN bU r.2)/\(D 13=true->bT=.bool r.1)/\(D 14=true->IsKn SN eT r.2)/\(D 15=true->eV=.bool r.1)/\Inv w [] [.blk b6 (.cells #[.int .i64 c0.head.kind,.int .i64 c0.head.n,.string c0.head.name,kv,.slice (some ⟨b1,o1,none⟩) c0.body.length cap1] aQ)] SN w_,⟨ae,ae,ae,ae,ae,ae,ae,ae,ae,ae,ae,ae,ae,ae,ae,ae,⟨S',Ext.refl _ _ _,ae,ae,ae,ae,ae,ae,hI.draw⟩⟩,⟨?_,?_,?_,?_,?_,?_,?_,?_,?_,?_,?_,?_,?_,?_,?_,?_,trivial⟩,?_⟩
    ·intro D aY  eV eT bT bU dO cS dq dk dp dr dn gz eG d5 eF dQ w_
     rintro ⟨aA,aB,aC,az,av,aE,aD,aH,aK,aP,ag,ai,aG,aM,aO,aN,⟨SN,hN,e10,e11,e12,e13,e14,e15,hI⟩⟩
     refine bi bq ?_
     exact ⟨fun _=>rfl,aB,aC,az,av,aE,aD,aH,aK,aP,ag,ai,aG,aM,aO,aN,⟨SN,hN,e10,e11,e12,e13,e14,e15,hI⟩⟩
    ·intro D aY b0 eV eT bT bU dO cS dq dk dp dr dn gz eG d5 eF dQ w_
     rintro ⟨aA,aB,aC,az,av,aE,aD,aH,aK,aP,ag,ai,aG,aM,aO,aN,⟨SN,hN,e10,e11,e12,e13,e14,e15,hI⟩⟩
     obtain rfl:=aA b0
     refine bG hI 0 aR rfl rfl ?_
     exact ⟨aA,fun _=>rfl,aC,az,av,aE,aD,aH,aK,aP,ag,ai,aG,aM,aO,aN,⟨SN,hN,e10,e11,e12,e13,e14,e15,hI⟩⟩
    ·intro D aY  eV eT bT bU dO cS dq dk dp dr dn gz eG d5 eF dQ w_
     rintro ⟨aA,aB,aC,az,av,aE,aD,aH,aK,aP,ag,ai,aG,aM,aO,aN,⟨SN,hN,e10,e11,e12,e13,e14,e15,hI⟩⟩
     exact ⟨aA,aB,fun _=>rfl,az,av,aE,aD,aH,aK,aP,ag,ai,aG,aM,aO,aN,⟨SN,hN,e10,e11,e12,e13,e14,e15,hI⟩⟩
    ·intro D aY dE gK eV eT bT bU dO cS dq dk dp dr dn gz eG d5 eF dQ w_
     rintro ⟨aA,aB,aC,az,av,aE,aD,aH,aK,aP,ag,ai,aG,aM,aO,aN,⟨SN,hN,e10,e11,e12,e13,e14,e15,hI⟩⟩
     obtain rfl:=aB dE
     obtain rfl:=aC gK
     refine bk ay hib ?_
     exact ⟨aA,aB,aC,fun _=>rfl,av,aE,aD,aH,aK,aP,ag,ai,aG,aM,aO,aN,⟨SN,hN,e10,e11,e12,e13,e14,e15,hI⟩⟩
    ·intro D aY dB eV eT bT bU dO cS dq dk dp dr dn gz eG d5 eF dQ w_
     rintro ⟨aA,aB,aC,az,av,aE,aD,aH,aK,aP,ag,ai,aG,aM,aO,aN,⟨SN,hN,e10,e11,e12,e13,e14,e15,hI⟩⟩
     obtain rfl:=az dB
     refine cU ao hR1.length (fun j v hj=>by rw [hI.cellS (hN.1 _ _ hS1)]; exact bn rfl j v hj) ?_
     exact ⟨aA,aB,aC,az,fun _=>rfl,aE,aD,aH,aK,aP,ag,ai,aG,aM,aO,aN,⟨SN,hN,e10,e11,e12,e13,e14,e15,hI⟩⟩
    ·intro D aY  eV eT bT bU dO cS dq dk dp dr dn gz eG d5 eF dQ w_
     rintro ⟨aA,aB,aC,az,av,aE,aD,aH,aK,aP,ag,ai,aG,aM,aO,aN,⟨SN,hN,e10,e11,e12,e13,e14,e15,hI⟩⟩
     exact ⟨aA,aB,aC,az,av,fun _=>rfl,aD,aH,aK,aP,ag,ai,aG,aM,aO,aN,⟨SN,hN,e10,e11,e12,e13,e14,e15,hI⟩⟩
    ·intro D aY  eV eT bT bU dO cS dq dk dp dr dn gz eG d5 eF dQ w_
     rintro ⟨aA,aB,aC,az,av,aE,aD,aH,aK,aP,ag,ai,aG,aM,aO,aN,⟨SN,hN,e10,e11,e12,e13,e14,e15,hI⟩⟩
     exact ⟨aA,aB,aC,az,av,aE,fun _=>rfl,aH,aK,aP,ag,ai,aG,aM,aO,aN,⟨SN,hN,e10,e11,e12,e13,e14,e15,hI⟩⟩
    ·intro D aY dT f0 eV eT bT bU dO cS dq dk dp dr dn gz eG d5 eF dQ w_
     rintro ⟨aA,aB,aC,az,av,aE,aD,aH,aK,aP,ag,ai,aG,aM,aO,aN,⟨SN,hN,e10,e11,e12,e13,e14,e15,hI⟩⟩
     obtain rfl:=aE dT
     obtain rfl:=aD f0
     refine bk ay hk' ?_
     exact ⟨aA,aB,aC,az,av,aE,aD,fun _=>rfl,aK,aP,ag,ai,aG,aM,aO,aN,⟨SN,hN,e10,e11,e12,e13,e14,e15,hI⟩⟩
    ·intro D aY d6 eV eT bT bU dO cS dq dk dp dr dn gz eG d5 eF dQ w_
     rintro ⟨aA,aB,aC,az,av,aE,aD,aH,aK,aP,ag,ai,aG,aM,aO,aN,⟨SN,hN,e10,e11,e12,e13,e14,e15,hI⟩⟩
     obtain rfl:=aH d6
     refine cU ao hR2.length (fun j v hj=>by rw [hI.cellS (hN.1 _ _ hS2)]; exact bn rfl j v hj) ?_
     exact ⟨aA,aB,aC,az,av,aE,aD,aH,fun _=>rfl,aP,ag,ai,aG,aM,aO,aN,⟨SN,hN,e10,e11,e12,e13,e14,e15,hI⟩⟩
    ·intro D aY  eV eT bT bU dO cS dq dk dp dr dn gz eG d5 eF dQ w_
     rintro ⟨aA,aB,aC,az,av,aE,aD,aH,aK,aP,ag,ai,aG,aM,aO,aN,⟨SN,hN,e10,e11,e12,e13,e14,e15,hI⟩⟩
     exact ⟨aA,aB,aC,az,av,aE,aD,aH,aK,fun _=>rfl,ag,ai,aG,aM,aO,aN,⟨SN,hN,e10,e11,e12,e13,e14,e15,hI⟩⟩
    ·intro D aY cF gi Kg eV eT bT bU dO cS dq dk dp dr dn gz eG d5 eF dQ w_
     rintro ⟨aA,aB,aC,az,av,aE,aD,aH,aK,aP,ag,ai,aG,aM,aO,aN,⟨SN,hN,e10,e11,e12,e13,e14,e15,hI⟩⟩
     obtain rfl:=av cF
     obtain rfl:=aK gi
     obtain rfl:=aP Kg
     refine Run.call0E Bf AE hI (zO (hR1.mono hN.1) (hR2.mono hN.1) hg.ok.1 hfk.ok.2.1 hst.ok.1 hkp hkm (hN.1 _ _ (hE.1 _ _ hS)) ((hkc.mono hE.1).mono hN.1)) fun v' I' SN w_=>?_
     rw [<- hr]
     rintro ⟨rfl,kb',kp',kc',rfl,hk1,hk2,hk3,hk4⟩ hE3 hI
     have e10:=fun (_:aw D 10 10=true)=>(⟨kb',kp',kc',rfl,hk1,hk2,hk3,hk4⟩:IsM SN (.tuple #[kvn kb' kp',.bool r.1]) r)
     have e11:=fun (e:aw D 10 11=true)=>(e11 e).mono hE3.1
     have e12:=fun (e:aw D 10 12=true)=>(e12 e).mono hE3.1
     have e14:=fun (e:aw D 10 14=true)=>(e14 e).mono hE3.1
     have hN:=hN.trans hE3
     exact ⟨aA,aB,aC,az,av,aE,aD,aH,aK,aP,fun _=>by first|assumption|trivial,ai,aG,aM,aO,aN,⟨SN,hN,e10,e11,e12,e13,e14,e15,hI⟩⟩
    ·intro D aY gv eV eT bT bU dO cS dq dk dp dr dn gz eG d5 eF dQ w_
     rintro ⟨aA,aB,aC,az,av,aE,aD,aH,aK,aP,ag,ai,aG,aM,aO,aN,⟨SN,hN,e10,e11,e12,e13,e14,e15,hI⟩⟩
     have Ny:=ag gv
     have e11:=fun (_:aw D 11 11=true)=>e10 gv
     exact ⟨aA,aB,aC,az,av,aE,aD,aH,aK,aP,ag,fun _=>by first|assumption|trivial,aG,aM,aO,aN,⟨SN,hN,e10,e11,e12,e13,e14,e15,hI⟩⟩
    ·intro D aY gZ eV eT bT bU dO cS dq dk dp dr dn gz eG d5 eF dQ w_
     rintro ⟨aA,aB,aC,az,av,aE,aD,aH,aK,aP,ag,ai,aG,aM,aO,aN,⟨SN,hN,e10,e11,e12,e13,e14,e15,hI⟩⟩
     have Ns:=ai gZ
     obtain ⟨u,rfl,hu⟩:=(e11 gZ).parts
     refine bd rfl ?_
     have e12:=fun (_:aw D 12 12=true)=>hu
     exact ⟨aA,aB,aC,az,av,aE,aD,aH,aK,aP,ag,ai,fun _=>by first|assumption|trivial,aM,aO,aN,⟨SN,hN,e10,e11,e12,e13,e14,e15,hI⟩⟩
    ·intro D aY gZ eV eT bT bU dO cS dq dk dp dr dn gz eG d5 eF dQ w_
     rintro ⟨aA,aB,aC,az,av,aE,aD,aH,aK,aP,ag,ai,aG,aM,aO,aN,⟨SN,hN,e10,e11,e12,e13,e14,e15,hI⟩⟩
     have Ns:=ai gZ
     obtain ⟨u,rfl,hu⟩:=(e11 gZ).parts
     refine bd rfl ?_
     have e13:=fun (_:aw D 13 13=true)=>(rfl:Value.bool r.1=.bool r.1)
     exact ⟨aA,aB,aC,az,av,aE,aD,aH,aK,aP,ag,ai,aG,fun _=>by first|assumption|trivial,aO,aN,⟨SN,hN,e10,e11,e12,e13,e14,e15,hI⟩⟩
    ·intro D aY ku lz nY tb s0 qY s5 xu wt Ei BD Bz uE zr yc eV eT bT bU dO cS dq dk dp dr dn gz eG d5 eF dQ w_
     rintro ⟨aA,aB,aC,az,av,aE,aD,aH,aK,aP,ag,ai,aG,aM,aO,aN,⟨SN,hN,e10,e11,e12,e13,e14,e15,hI⟩⟩
     have Og:=aG ku
     have e14:=fun (_:aw D 14 14=true)=>e12 ku
     exact ⟨aA,aB,aC,az,av,aE,aD,aH,aK,aP,ag,ai,aG,aM,fun _=>by first|assumption|trivial,aN,⟨SN,hN,e10,e11,e12,e13,e14,e15,hI⟩⟩
    ·intro D aY g9 u3 nY tb s0 qY s5 xu wt Ei BD Bz uE zr yc CY CE eV eT bT bU dO cS dq dk dp dr dn gz eG d5 eF dQ w_
     rintro ⟨aA,aB,aC,az,av,aE,aD,aH,aK,aP,ag,ai,aG,aM,aO,aN,⟨SN,hN,e10,e11,e12,e13,e14,e15,hI⟩⟩
     have NX:=aM g9
     have e15:=fun (_:aw D 15 15=true)=>e13 g9
     exact ⟨aA,aB,aC,az,av,aE,aD,aH,aK,aP,ag,ai,aG,aM,aO,fun _=>by first|assumption|trivial,⟨SN,hN,e10,e11,e12,e13,e14,e15,hI⟩⟩
    intro D mQ m0 nh iO fk fw iK gI fK fL fH fC fB fE fM fJ eV eT bT bU dO cS dq dk dp dr dn gz eG d5 eF dQ w_
    rintro ⟨aA,aB,aC,az,av,aE,aD,aH,aK,aP,ag,ai,aG,aM,aO,aN,⟨SN,hN,e10,e11,e12,e13,e14,e15,hI⟩⟩
    have OO:=aN mQ
    have OW:=aO m0
    have NX:=aM nh
    have Og:=aG iO
    have Ns:=ai fk
    have Ny:=ag fw
    obtain rfl:=aP iK
    obtain rfl:=aK gI
    obtain rfl:=aH fK
    obtain rfl:=aD fL
    obtain rfl:=aE fH
    obtain rfl:=av fC
    obtain rfl:=az fB
    obtain rfl:=aC fE
    obtain rfl:=aB fM
    obtain rfl:=aA fJ
    clear aA aB aC az av aE aD aH aK aP ag ai aG aM aO aN
    have hx12:=e14 m0
    have hx13:=e15 mQ
    subst hx13
    have hE3:=hE.trans hN
    clear e10 e11 e12 e13 e14 e15
    refine ba (fun hb=>?_) (fun hb=>?_)
    ·have hFo:F o facts[k]=iQ c0.head facts gs o r.2:=by rw [hF2,<- hr,if_pos hb]
     rw [hFo]
     refine bb hI 0 bM rfl rfl ?_
     refine bN (by omega) ?_
     have hst2:StF r.2:=by rw [hr]; exact (jQ hg hfk hst).1
     have hc2:iN c0.head gs r.2:=by rw [hr]; exact j6 hc hg hfk hst (by rw [<- hr]; exact hb)
     refine Run.call0E s6 tp hI (ih (i+1) (by omega) hge.2 SN _ t0 _ _ o r.2 (h0.mono hE3.1) (hv'.monoT hN.1) (hf.monoT hE3.1) hx12 hst2 hc2 hoo hno) fun v' I' S2 w'=>?_
     rintro ⟨rfl,hr2⟩ hE4 hI
     exact ⟨S2,hE3.trans hE4,hr2,hI.pick [true]⟩
    ·have hFo:F o facts[k]=o:=by rw [hF2,<- hr,if_neg (by rw [hb]; decide)]
     rw [hFo]
     exact ⟨SN,hE3,hv'.monoT hN.1,hI⟩
   intro t0' _ _ _ _ _ _ _ _ _ _ _ _ _ _ _ _ _ _ _ _ _ _ _ _ w'
   rintro ⟨S2,hE2,hv2,hI⟩
   refine bN (by omega) ?_
   have hFo:=hF2 o facts[k]
   refine ⟨⟨k+1,_,S2,hk',rfl,hrel,?_,?_,hE2,hv2,hI⟩,by simp [intOf]; omega⟩
   ·rw [hFo]; exact hso.1
   ·rw [hFo]; exact hso.2
  ·have:k=facts.length:=by omega
   subst this
   rw [List.drop_length,List.foldl_nil] at hrel
   rw [<- hrel]
   exact ⟨_,_,_,rfl,hI.pick [false],hE,rfl,hv'⟩
end

end Go.Proofs.YtemmhhdnlbmicaaGreat

/- spec.ModelClosed. -/
namespace Go.Proofs.YtemmhhdnlbmicaaGreat
open Go Go.RowKit
theorem Cc {t:T} {d:Int} (h:fm t d=true):ez t=true/\eW t.kids (d - 1)=true:=by
 cases t
 rw [fm] at h
 split at h
 ·cases h
 ·rw [Bool.and_eq_true] at h
  exact h
theorem yb:∀ {ts:List T} {d:Int},eW ts d=true->∀ t∈ts,fm t d=true
 | [],_,_,t,ht=>by cases ht
 | x::ts,d,h,t,ht=>by
  rw [eW,Bool.and_eq_true] at h
  rcases List.mem_cons.1 ht with rfl|ht
  ·exact h.1
  ·exact yb h.2 t ht
theorem IQ {t:T} (hv:ft t=true) (hf:ef t=true):Gl t:=by
 rw [ef,Bool.and_eq_true,List.all_eq_true] at hf
 obtain ⟨hk,hp⟩:=hf
 rw [ei,Bool.and_eq_true,decide_eq_true_eq] at hp
 obtain ⟨h1,h2⟩:=Cc (ng hv)
 refine ⟨hp.1,h1,fun y hy=>⟨(Cc (yb h2 y hy)).1,?_⟩⟩
 have:=hk y hy
 rw [h8,decide_eq_true_eq] at this
 exact List.eq_nil_of_length_eq_zero this
theorem Kl {l:List Int} {n m:Int} (h:m∈jU l n):m∈l ∨ m=n:=by
 unfold jU at h
 split at h
 ·exact .inl h
 ·simpa using h
theorem Cq (t:T) (l:List Int):fQ t l=eE t.kids (if t.kind=1 then jU l t.n else l):=by cases t; rw [fQ]; rfl
theorem yl:∀ (ks:List T) (l:List Int),(∀ y∈ks,y.kids=[])->∀ n,n∈eE ks l↔n∈l ∨ ∃ z∈ks,z.kind=1/\z.n=n
 | [],l,_,n=>by simp [eE]
 | k::ks,l,hk,n=>by
  rw [eE,yl ks _ (fun y hy=>hk y (List.mem_cons_of_mem _ hy)),Cq,hk k (List.mem_cons_self ..),eE]
  have hsrc:(n∈if k.kind=1 then jU l k.n else l)↔n∈l ∨ (k.kind=1/\k.n=n):=by
   split
   ·rename_i h
    constructor
    ·intro hm
     rcases Kl hm with h1|h1
     ·exact .inl h1
     ·exact .inr ⟨h,h1.symm⟩
    ·rintro (h1|⟨_,rfl⟩)
     ·exact (show ∀ m∈l,m∈jU l k.n from fun m hm=>by unfold jU; split; exact hm; simp [hm]) n h1
     ·unfold jU
      split
      ·rename_i h2
       simpa [io] using h2
      ·simp
   ·rename_i h
    exact ⟨.inl,fun h1=>h1.elim id fun h2=>absurd h2.1 h⟩
  rw [hsrc]
  constructor
  ·rintro ((h|⟨h1,h2⟩)|⟨z,hz,h⟩)
   ·exact .inl h
   ·exact .inr ⟨k,List.mem_cons_self ..,h1,h2⟩
   ·exact .inr ⟨z,List.mem_cons_of_mem _ hz,h⟩
  ·rintro (h|⟨z,hz,h⟩)
   ·exact .inl (.inl h)
   ·rcases List.mem_cons.1 hz with rfl|hz
    ·exact .inl (.inr h)
    ·exact .inr ⟨z,hz,h⟩
theorem yf {g:T} (h:Gl g) (l:List Int) (n:Int):n∈fQ g l↔n∈l ∨ ∃ z∈g.kids,z.kind=1/\z.n=n:=by
 rw [Cq,if_neg (by have:=h.1; omega)]
 exact yl g.kids l (fun y hy=>(h.2.2 y hy).2) n
theorem EG:∀ (gs:List T) (l:List Int),(∀ g∈gs,Gl g)->∀ n,n∈eE gs l->n∈l ∨ ∃ g∈gs,∃ z∈g.kids,z.kind=1/\z.n=n
 | [],l,_,n,h=>.inl h
 | g::gs,l,hg,n,h=>by
  rw [eE] at h
  rcases EG gs _ (fun x hx=>hg x (List.mem_cons_of_mem _ hx)) n h with h|⟨x,hx,h⟩
  ·rcases (yf (hg g (List.mem_cons_self ..)) l n).1 h with h|h
   ·exact .inl h
   ·exact .inr ⟨g,List.mem_cons_self ..,h⟩
  ·exact .inr ⟨x,List.mem_cons_of_mem _ hx,h⟩
theorem GC {c:C} (hv:dC c=true) (hf:gl c=true):Gl c.head/\(∀ g∈c.body,Gl g)/\iN c.head c.body st0:=by
 rw [dC] at hv
 simp only [Bool.and_eq_true,List.all_eq_true] at hv
 rw [gl] at hf
 simp only [Bool.and_eq_true,List.all_eq_true] at hf
 have hb:∀ g∈c.body,Gl g:=fun g hg=>by
  have h1:=hv.2.1 g hg
  rw [g8,Bool.and_eq_true] at h1
  exact IQ h1.1 (hf.2.2.1 g hg)
 have hh:=IQ hv.2.2.1 hf.1
 refine ⟨hh,hb,fun y hy hk=>?_⟩
 right
 have h1:=hf.2.2.2 y.n ((yf hh [] y.n).2 (.inr ⟨y,hy,hk,rfl⟩))
 have h2:y.n∈eE c.body []:=by simpa [io] using h1
 rcases EG c.body [] hb y.n h2 with h|h
 ·cases h
 ·exact h
theorem Fy {p:List C} (h:eI p=true):∀ c∈p,Gl c.head/\(∀ g∈c.body,Gl g)/\iN c.head c.body st0:=by
 intro c hc
 rw [eI,Bool.and_eq_true,List.all_eq_true] at h
 have h1:=h.1
 rw [lo] at h1
 simp only [Bool.and_eq_true,List.all_eq_true] at h1
 exact GC (h1.2 c hc) (h.2 c hc)
/- facts -/
def BP (t:T):Bool:=ft t && (ef t && decide ((fQ t []).length=0))
def G3 (l:List T):Bool:=l.all BP && decide (l.length<=60)
def I0 (facts:List T) (c:C):Bool:=(eo c.head facts c.body st0).all (MG facts)
def Dl (p:List C) (facts:List T):Bool:=eI p && (G3 facts && p.all (I0 facts))
section
attribute [local irreducible] Run CondV ah be
end

end Go.Proofs.YtemmhhdnlbmicaaGreat

/- impl.follows, with a function that is told the facts. -/
namespace Go.Proofs.YtemmhhdnlbmicaaGreat
open Go Go.RowKit
theorem Jk {g:T} {st:bt} (h:Gl g):yY (qS st) g=lq g st:=by
 obtain ⟨k,n,s,ks⟩:=g
 obtain ⟨h1,h2,h3⟩:=h
 have hk:k=3:=h1
 have hn:n=0:=by
  rcases sL h2 with h|h
  ·have:=h.1
   simp only [T.kind] at this
   omega
  ·exact h.2
 rw [yY,if_neg (by omega),lq,lH,hn]
 congr 1
 refine List.map_congr_left fun y hy=>?_
 obtain ⟨_,hyk⟩:=h3 y hy
 obtain ⟨k',n',s',ks'⟩:=y
 simp only [T.kids] at hyk
 subst hyk
 rw [yY,gN]
 split
 ·rename_i hk'
  rw [if_pos (show (T.mk k' n' s' []).kind=1 from hk')]; rfl
 ·rename_i hk'
  rw [if_neg (show ¬ (T.mk k' n' s' []).kind=1 from hk'),wl]
theorem KnownM.mono {S S':aF} {es:Array MapEntry} {st:bt} (h:KnownM S es st) (hs:Sle S S'):KnownM S' es st:=
 ⟨fun e he=>by
  obtain ⟨n,t,cs,h1,h2,h3,h4⟩:=h.1 e he
  exact ⟨n,t,cs,h1,h2,h3.mono hs,h4⟩,h.2⟩
/- a function that is told facts and keeps a state; 'can s n': n more facts can be told -/
structure Tell (f:FuncId) (fn:Func) (cap:List Value) {σ:Type} (It:σ->aF->List Item->Prop) (can:σ->Nat->Prop) (step:σ->T->σ) (S0:aF):Prop where
 hf:Tryz.prog.funcs[f]?=some fn
 hn:(fn.name == "runtime.NumGoroutine" || fn.body.isNone)=false
 up:∀ (s:σ) (S S':aF) (I:List Item),Sle S S'->It s S I->It s S' I
 down:∀ (s:σ) (x:T) (n:Nat),Fct x->can s (n+1)->can (step s x) n
 call:∀ (S:aF) (s:σ) (x:T) (cs:List Value) (I:List Item) (n:Nat),Sle S0 S->Fct x->RdT S cs x->It s S I->can s (n+1)->Tri Tryz.prog f (.agg cs.toArray::cap) I S fun r I' S'=>r=.tuple #[]/\It (step s x) S' I'
theorem Tell.mono {f:FuncId} {fn:Func} {cap:List Value} {σ:Type} {It:σ->aF->List Item->Prop} {can:σ->Nat->Prop} {step:σ->T->σ} {S0 S1:aF} (h:Tell f fn cap It can step S0) (hs:Sle S0 S1):Tell f fn cap It can step S1:=
 ⟨h.hf,h.hn,h.up,h.down,fun S s x cs I n h1=>h.call S s x cs I n (hs.trans h1)⟩
section
attribute [local irreducible] Run CondV ah be
theorem A2 {S:aF} {gb mb ck:Nat} {E:TypeId} {es:Array MapEntry} {st:bt} (hg:S gb=some (.cells #[.map (some mb)] E)) (hm:S mb=some (.map es ck)) (hk:KnownM S es st):Fun Bi [.pointer (some ⟨gb,0,none⟩)] S (qS st):=by
 intro S' hs n hn0 hn25
 obtain ⟨m,rfl⟩:∃ m:Nat,n=m:=⟨n.toNat,by omega⟩
 have hk':=hk.mono hs
 have hfind:∃ v cs,v=.agg (List.toArray cs)/\RdT S' cs (qS st m)/\((∃ j,Instr.findNow (.int .i64) (.int .i64 m) es.toList 0=some (some (j,v))) ∨ (Instr.findNow (.int .i64) (.int .i64 m) es.toList 0=some none/\v=.agg #[.int .i64 0,.int .i64 0,.string ⟨#[]⟩,.slice none 0 0])):=by
  rcases hk'.find m with ⟨j,v,t,cs,hf,hv,hR,hs⟩|⟨hno,hf⟩
  ·refine ⟨v,cs,hv,?_,.inl ⟨j,hf⟩⟩
   rw [qS,Int.toNat_natCast,hs]
   exact hR
  ·refine ⟨_,o3,rfl,?_,.inr ⟨hf,rfl⟩⟩
   have e:qS st m=sY:=by
    rw [qS,Int.toNat_natCast]
    split
    ·rename_i t h
     exact absurd h (hno t)
    ·rfl
   rw [e]
   exact RdT.zero S'
 obtain ⟨v,cs,rfl,hR,hf⟩:=hfind
 refine ⟨cs,hR,fun w hI=>?_⟩
 refine sz ?_
 unfold oT
 refine bH hI bL fun b3 w' hI=>?_
 refine dY (by decide +kernel) (by rw [hI.cellS (hs _ _ hg)]; rfl) ?_
 refine JC hI (kt:=fu) (et:=ab) (by kernel_rfl) (by kernel_rfl) (z:=.agg #[.int .i64 0,.int .i64 0,.string ⟨#[]⟩,.slice none 0 0]) (by kernel_rfl) (hs _ _ hm) hf ?_
 refine bg hI 0 rfl ao (by simpa using hR.length) rfl (by simpa using hR.one) fun w' hI=>?_
 refine cG hI 0 ao rfl (by simpa using hR.length) ?_
 exact done hI rfl
theorem A8 {f:FuncId} {fn:Func} {cap:List Value} {σ:Type} {It:σ->aF->List Item->Prop} {can:σ->Nat->Prop} {step:σ->T->σ} (c0:C) (facts:List T) (hh:Gl c0.head) (hfs:∀ f∈facts,Fct f) (hbs:∀ g∈c0.body,Gl g) :
  ∀ (gs:List T) (i:Nat),i+gs.length=c0.body.length->c0.body.drop i=gs->
  ∀ (S:aF) (cs:List Value) (fsv:Value) (mb ck:Nat) (es:Array MapEntry) (s:σ) (I:List Item) (st:bt) (m:Nat),Tell f fn cap It can step S->RdC S cs c0->RdSl S 4 (RdT S) fsv facts->S mb=some (.map es ck)->KnownM S es st->StF st->iN c0.head gs st->It s S I->can s ((eo c0.head facts gs st).length+m)->
  Tri Tryz.prog Fq [.agg cs.toArray,.int .i64 i,fsv,.map (some mb),fv f cap] I S fun r I' S'=>r=.tuple #[]/\It ((eo c0.head facts gs st).foldl step s) S' I'/\can ((eo c0.head facts gs st).foldl step s) m:=by
 intro gs
 induction gs with
 | nil=>
  intro i hi hdr S cs fsv mb ck es s I st m ht h hf hm hk hst hc hIt hcan w hI
  have hcan:can s (m+1):=by rw [eo,List.length_singleton,Nat.add_comm] at hcan; exact hcan
  obtain ⟨hd,ks,rfl,h1,h2⟩:=h
  have h1':=h1
  obtain ⟨kv,rfl,g1,g2,g3,g4⟩:=RdT.iff.1 h1
  simp only [List.length_nil,Nat.add_zero] at hi
  refine my ?_
  unfold l9
  refine bQ hI fun b5 w' hI=>?_
  obtain ⟨S1,hI,hE1,hb5⟩:=hI.pub1
  refine bQ hI fun b8 w' hI=>?_
  obtain ⟨S2,hI,hE2,hb8⟩:=hI.pub1
  have hE:=hE1.trans hE2
  have hb5:=hE2.1 _ _ hb5
  refine bi bq ?_
  refine dY aR (by rw [hI.cellS hb5]; rfl) ?_
  refine a9 (h2.monoT hE.1) ay ?_
  refine bR ?_
  refine bl (fun _=>?_) (fun hb=>absurd (by omega) hb)
  refine bi df ?_
  refine cU (cs:=[.int .i64 c0.head.kind,.int .i64 c0.head.n,.string c0.head.name,kv]) ao rfl (fun j v hj=>by rw [hI.cellS hb5]; exact K0 j v hj) ?_
  refine mq ?_
  have hok:=hh.ok
  refine Run.callE (A:=I) (I:=[]) tk tw (by simpa using hI) (H5 [.pointer (some ⟨b8,0,none⟩)] (qS st) yz yv _ S2 _ (h1'.mono hE.1) hok.1 (by omega) (A2 hb8 (hE.1 _ _ hm) (hk.mono hE.1))) fun v' I' S3 w'=>?_
  rintro ⟨rfl,cs1,rfl,hR⟩ hE3 hI
  rw [Jk hh] at hR
  have hct:=z4 hh hst (fun y hy hk=>by
   rcases hc y hy hk with h|⟨g,hg,_⟩
   ·exact h
   ·cases hg)
  have hI:Inv w (bX I) ([]++I) S3 w':=by simpa using hI
  refine Run.callVE (A:=[]) ht.hf ht.hn hI (ht.call S3 s _ cs1 I m (hE.1.trans hE3.1) hct hR (ht.up _ _ _ _ (hE.1.trans hE3.1) hIt) hcan) fun v' I' S4 w'=>?_
  rintro ⟨rfl,hIt'⟩ hE4 hI
  exact ⟨_,_,_,rfl,hI,(hE.trans hE3).trans hE4,rfl,hIt',ht.down _ _ _ hct hcan⟩
 | cons g gs ih=>
  intro i hi hdr S cs fsv mb ck es s I st m ht h hf hm hk hst hc hIt hcan w hI
  have h0:=h
  obtain ⟨hd,ks,rfl,h1,h2⟩:=h
  obtain ⟨kv,rfl,g1,g2,g3,g4⟩:=RdT.iff.1 h1
  simp only [List.length_cons] at hi
  have hib:i<c0.body.length:=by omega
  have hlen2:=h2.le
  have hlenf:=hf.le
  simp only [maxLen] at hlen2 hlenf
  have hge:c0.body[i]=g/\c0.body.drop (i+1)=gs:=by
   rw [List.drop_eq_getElem_cons hib,List.cons.injEq] at hdr
   exact hdr
  have hg:Gl g:=by rw [<- hge.1]; exact hbs _ (List.getElem_mem hib)
  have hgs:∀ x∈gs,Gl x:=fun x hx=>hbs x (by rw [<- hge.2] at hx; exact List.mem_of_mem_drop hx)
  obtain ⟨b1,o1,cap1,c1,E1,fz1,rfl,hS1,hR1⟩:=h2.at_ hib
  rw [hge.1] at hR1
  obtain ⟨X,hX⟩:∃ X,X=bX I:=⟨_,rfl⟩
  rw [<- hX] at hI ⊢
  refine my ?_
  unfold l9
  refine bQ hI fun b5 w' hI=>?_
  obtain ⟨S1,hI,hE1,hb5⟩:=hI.pub1
  refine bQ hI fun b8 w' hI=>?_
  obtain ⟨S2,hI,hE2,hb8⟩:=hI.pub1
  have hE:=hE1.trans hE2
  have hb5:=hE2.1 _ _ hb5
  have hb8:S2 b8=some (.cells #[.map (some mb)] _):=hb8
  refine bi bq ?_
  refine dY aR (by rw [hI.cellS hb5]; rfl) ?_
  refine a9 (h2.monoT hE.1) ay ?_
  refine bR ?_
  refine bl (fun hb=>by omega) (fun _=>?_)
  refine a9 (hf.monoT hE.1) ay ?_
  rw [eo] at hcan ⊢
  generalize hF:(fun f:T=>if (bI g f st).1=true then eo c0.head facts gs (bI g f st).2 else [])=F at hcan ⊢
  have hF2:∀ f,F f=if (bI g f st).1=true then eo c0.head facts gs (bI g f st).2 else []:=fun f=>by rw [<- hF]
  refine ⟨fun j w'=>∃ (k:Nat) (s':σ) (I':List Item) (S':aF),k<=facts.length/\j=.int .i64 k/\((facts.drop k).flatMap F).foldl step s'=(facts.flatMap F).foldl step s/\can s' (((facts.drop k).flatMap F).length+m)/\It s' S' I'/\Ext w.heap.size X S S'/\Sle S2 S'/\Inv w X I' S' w',
   fun j _=>facts.length - (intOf j).toNat,⟨0,s,I,S2,Nat.zero_le _,rfl,rfl,hcan,ht.up _ _ _ _ hE.1 hIt,hE,Sle.refl _,hI⟩,?_⟩
  intro t26 _ _ _ _ _ _ _ _ _ _ _ _ _ _ _ _ _ _ _ _ _ _ _ w'
  rintro ⟨k,s',I',S',hkl,rfl,hrel,hcan',hIt',hE',hle,hI⟩
  refine bW ?_
  refine bl (fun hki=>?_) (fun hki=>?_)
  ·have hk':k<facts.length:=by omega
   rw [List.drop_eq_getElem_cons hk',List.flatMap_cons,List.foldl_append] at hrel
   rw [List.drop_eq_getElem_cons hk',List.flatMap_cons,List.length_append,Nat.add_assoc] at hcan'
   have hfk:=hfs _ (List.getElem_mem hk')
   refine ⟨fun w'=>∃ (I2:List Item) (S2:aF),It ((F facts[k]).foldl step s') S2 I2/\can ((F facts[k]).foldl step s') (((facts.drop (k+1)).flatMap F).length+m)/\Ext w.heap.size X S' S2/\Inv w X I2 S2 w',?_,?_⟩
   ·refine dZ hI (hf.monoT hE'.1) ay ao hk' (fun _ _=>RdT.length) fun ds hds=>?_
    refine bH hI bL fun b11 w' hI=>?_
    have hI:=hI.perm (M:=.blk b11 _::I') (List.perm_append_comm (l₁:=[_]))
    refine bg hI 0 rfl ao (by simpa using hds.length) rfl (by simpa using hds.one) fun w' hI=>?_
    have hI:=hI.perm (M:=I'++[.blk b11 (.cells ds.toArray ab)]) (List.perm_append_comm (l₂:=[_]))
    obtain ⟨S3,hI,hE3,hb11⟩:=hI.pub1
    refine dY (by decide +kernel) (by rw [hI.cellS (hE3.1 _ _ (hle _ _ hb8))]; rfl) ?_
    refine Run.callE (A:=I') (I:=[]) ug tC (by simpa using hI) (DC (hE3.1 _ _ (hE'.1 _ _ hm))) fun v' J' S4 w'=>?_
    rintro ⟨e4,nb,rfl,rfl⟩ _ hI
    rw [e4] at hI
    clear e4
    have hk3:=(hk.mono hE'.1).mono hE3.1
    have hds3:=hds.mono hE3.1
    have hS1':=hE3.1 _ _ (hE'.1 _ _ hS1)
    have hR1':=(hR1.mono hE'.1).mono hE3.1
    obtain ⟨r,hr⟩:∃ r,r=bI g facts[k] st:=⟨_,rfl⟩
    have hb5':=hE3.1 _ _ (hle _ _ hb5)
    refine ⟨fun D eG d5 eF dQ dO g6 ek eK w_=>(D 0=true->eK=.agg ds.toArray)/\(D 1=true->ek=.pointer (some ⟨b5,4,none⟩))/\(D 2=true->g6=.slice (some ⟨b1,o1,none⟩) c0.body.length cap1)/\(D 3=true->dO=.int .i64 i)/\(D 4=true->dQ=.pointer (some ⟨b1,o1+i * 4,none⟩))/\(D 5=true->eF=.agg (bw c1 (o1+i * 4) 4).toArray)/\(D 6=true->d5=.map (some nb))/\(D 7=true->eG=.bool r.1)/\∃ es' ck',(D 7=false->KnownM S3 es' st)/\(D 7=true->KnownM S3 es' r.2)/\Inv w X (I'++[.blk nb (.map es' ck')]) S3 w_,⟨ae,ae,ae,ae,ae,ae,ae,ae,⟨es,ck,fun _=>hk3,ae,hI.draw⟩⟩,⟨?_,?_,?_,?_,?_,?_,?_,?_,trivial⟩,?_⟩
    ·intro D aY  eG d5 eF dQ dO g6 ek eK w_
     rintro ⟨aA,aB,aC,az,av,aE,aD,aH,⟨es',ck',kf,kt,hI⟩⟩
     refine cU (cs:=ds) ao hds.length (fun j v hj=>by rw [hI.cellS hb11,Nat.zero_add]; simpa using hj) ?_
     exact ⟨fun _=>rfl,aB,aC,az,av,aE,aD,aH,⟨es',ck',kf,kt,hI⟩⟩
    ·intro D aY  eG d5 eF dQ dO g6 ek eK w_
     rintro ⟨aA,aB,aC,az,av,aE,aD,aH,⟨es',ck',kf,kt,hI⟩⟩
     refine bi bq ?_
     exact ⟨aA,fun _=>rfl,aC,az,av,aE,aD,aH,⟨es',ck',kf,kt,hI⟩⟩
    ·intro D aY dE eG d5 eF dQ dO g6 ek eK w_
     rintro ⟨aA,aB,aC,az,av,aE,aD,aH,⟨es',ck',kf,kt,hI⟩⟩
     obtain rfl:=aB dE
     refine dY aR (by rw [hI.cellS hb5']; rfl) ?_
     exact ⟨aA,aB,fun _=>rfl,az,av,aE,aD,aH,⟨es',ck',kf,kt,hI⟩⟩
    ·intro D aY  eG d5 eF dQ dO g6 ek eK w_
     rintro ⟨aA,aB,aC,az,av,aE,aD,aH,⟨es',ck',kf,kt,hI⟩⟩
     exact ⟨aA,aB,aC,fun _=>rfl,av,aE,aD,aH,⟨es',ck',kf,kt,hI⟩⟩
    ·intro D aY ec mi eG d5 eF dQ dO g6 ek eK w_
     rintro ⟨aA,aB,aC,az,av,aE,aD,aH,⟨es',ck',kf,kt,hI⟩⟩
     obtain rfl:=aC ec
     obtain rfl:=az mi
     refine bk ay hib ?_
     exact ⟨aA,aB,aC,az,fun _=>rfl,aE,aD,aH,⟨es',ck',kf,kt,hI⟩⟩
    ·intro D aY cF eG d5 eF dQ dO g6 ek eK w_
     rintro ⟨aA,aB,aC,az,av,aE,aD,aH,⟨es',ck',kf,kt,hI⟩⟩
     obtain rfl:=av cF
     refine cU ao hR1'.length (fun j v hj=>by rw [hI.cellS hS1']; exact bn rfl j v hj) ?_
     exact ⟨aA,aB,aC,az,av,fun _=>rfl,aD,aH,⟨es',ck',kf,kt,hI⟩⟩
    ·intro D aY  eG d5 eF dQ dO g6 ek eK w_
     rintro ⟨aA,aB,aC,az,av,aE,aD,aH,⟨es',ck',kf,kt,hI⟩⟩
     exact ⟨aA,aB,aC,az,av,aE,fun _=>rfl,aH,⟨es',ck',kf,kt,hI⟩⟩
    ·intro D aY b0 g0 lF eG d5 eF dQ dO g6 ek eK w_
     rintro ⟨aA,aB,aC,az,av,aE,aD,aH,⟨es',ck',kf,kt,hI⟩⟩
     obtain rfl:=aA b0
     obtain rfl:=aE g0
     obtain rfl:=aD lF
     refine Run.callE (A:=I') pC p9 hI (zf g facts[k] S3 _ _ nb ck' es' st hR1' hds3 hg.ok.1 hfk.ok.2.1 hst.ok.1 (kf aY)) fun v' J' S5 w_=>?_
     rw [<- hr]
     rintro ⟨e5,rfl,es',ck',rfl,hk2⟩ _ hI
     rw [e5] at hI
     clear e5
     have kf:=fun (e:aw D 7 7=false)=>(Bool.noConfusion e:KnownM S3 es' st)
     have kt:=fun (_:aw D 7 7=true)=>hk2
     exact ⟨aA,aB,aC,az,av,aE,aD,fun _=>rfl,⟨es',ck',kf,kt,hI⟩⟩
    intro D fK fL fH fC fB fE fM fJ eG d5 eF dQ dO g6 ek eK w_
    rintro ⟨aA,aB,aC,az,av,aE,aD,aH,⟨es',ck',kf,kt,hI⟩⟩
    obtain rfl:=aH fK
    obtain rfl:=aD fL
    obtain rfl:=aE fH
    obtain rfl:=av fC
    obtain rfl:=az fB
    obtain rfl:=aC fE
    obtain rfl:=aB fM
    obtain rfl:=aA fJ
    clear aA aB aC az av aE aD aH
    have hk2:=kt fK
    clear kf kt
    refine ba (fun hb=>?_) (fun hb=>?_)
    ·have hFo:F facts[k]=eo c0.head facts gs r.2:=by rw [hF2,<- hr,if_pos hb]
     rw [hFo] at hcan' ⊢
     obtain ⟨S5,hI,hE5,hnb⟩:=hI.pub1
     have hEa:=hE3.trans hE5
     refine cU (cs:=[.int .i64 c0.head.kind,.int .i64 c0.head.n,.string c0.head.name,kv,.slice (some ⟨b1,o1,none⟩) c0.body.length cap1]) bM rfl (fun j v hj=>by rw [hI.cellS (hE5.1 _ _ hb5'),Nat.zero_add]; simpa [Value.cells] using hj) ?_
     refine bN (by omega) ?_
     have hst2:StF r.2:=by rw [hr]; exact (jQ hg hfk hst).1
     have hc2:iN c0.head gs r.2:=by rw [hr]; exact j6 hc hg hfk hst (by rw [<- hr]; exact hb)
     have hSa:=hE'.1.trans hEa.1
     have hI:Inv w X ([]++I') S5 w_:=hI
     refine Run.callE (A:=[]) sM sG hI (ih (i+1) (by omega) hge.2 S5 _ _ nb _ _ s' I' r.2 _ (ht.mono hSa) (h0.mono hSa) (hf.monoT hSa) hnb (hk2.mono hE5.1) hst2 hc2 (ht.up _ _ _ _ hEa.1 hIt') hcan') fun v' J' S6 w'=>?_
     rintro ⟨rfl,hIt2,hcan2⟩ hE6 hI
     exact ⟨_,S6,hIt2,hcan2,hEa.trans hE6,hI⟩
    ·have hFo:F facts[k]=[]:=by rw [hF2,<- hr,if_neg (by rw [hb]; decide)]
     rw [hFo] at hcan' ⊢
     rw [List.length_nil,Nat.zero_add] at hcan'
     exact ⟨_,S3,ht.up _ _ _ _ hE3.1 hIt',hcan',hE3,hI.sub (List.sublist_append_left _ _)⟩
   intro _ _ _ _ _ _ _ _ _ _ _ _ _ _ _ _ _ _ _ _ _ w'
   rintro ⟨I2,S5,hIt2,hcan2,hE5,hI⟩
   refine bN (by omega) ?_
   exact ⟨⟨k+1,_,I2,S5,hk',rfl,hrel,hcan2,hIt2,hE'.trans hE5,hle.trans hE5.1,hI⟩,by simp [intOf]; omega⟩
  ·have:k=facts.length:=by omega
   subst this
   rw [List.drop_length] at hrel hcan'
   simp only [List.flatMap_nil,List.foldl_nil,List.length_nil,Nat.zero_add] at hrel hcan'
   rw [<- hrel]
   exact ⟨_,_,_,rfl,hI,hE',rfl,hIt',hcan'⟩
end

end Go.Proofs.YtemmhhdnlbmicaaGreat

/- Rounds of facts: the plain law. -/
namespace Go.Proofs.YtemmhhdnlbmicaaGreat
open Go Go.RowKit
def d4 (p:List C) (facts:List T):List T:=p.flatMap fun c=>eo c.head facts c.body st0
def gw (p:List C) (facts:List T):List T:=(d4 p facts).foldl eP facts
def eD (p:List C) (facts:List T):List T:=(d4 p facts).foldl g5 facts
theorem nn:∀ (l out:List T),out.length<=(l.foldl eP out).length/\(l.foldl eP out).length<=out.length+l.length
 | [],out=>⟨Nat.le_refl _,Nat.le_refl _⟩
 | t::l,out=>by
  rw [List.foldl_cons,List.length_cons]
  have h1:=zN out t
  have h2:=nn l (eP out t)
  omega
theorem EN:∀ (l out:List T) (y:T),y∈l.foldl eP out->y∈out ∨ y∈l
 | [],out,y,h=>.inl h
 | t::l,out,y,h=>by
  rw [List.foldl_cons] at h
  rcases EN l _ y h with h|h
  ·rcases nu h with h|rfl
   ·exact .inl h
   ·exact .inr (List.mem_cons_self ..)
  ·exact .inr (List.mem_cons_of_mem _ h)
theorem vZ:∀ (l out:List T),Sorted out->(∀ x∈out,okO x)->(∀ x∈l,okO x)->Sorted (l.foldl eP out)
 | [],out,h,_,_=>h
 | t::l,out,h,ho,hl=>by
  rw [List.foldl_cons]
  have ht:=hl t (List.mem_cons_self ..)
  refine vZ l _ (oR h ho ht) (fun x hx=>?_) fun x hx=>hl x (List.mem_cons_of_mem _ hx)
  rcases nu hx with hx|rfl
  ·exact ho x hx
  ·exact ht
theorem IJ:∀ (l out:List T),(60<(l.foldl eP out).length/\60<(l.foldl g5 out).length) ∨ ((l.foldl eP out).length<=60/\l.foldl g5 out=l.foldl eP out)
 | [],out=>by
  simp only [List.foldl_nil]
  by_cases h:60<out.length
  ·exact .inl ⟨h,h⟩
  ·exact .inr ⟨by omega,trivial⟩
 | t::l,out=>by
  by_cases h:60<out.length
  ·left
   have h1:=nn (t::l) out
   rw [uy _ _ h]
   omega
  ·rw [List.foldl_cons,List.foldl_cons,g5,if_neg h]
   exact IJ l (eP out t)
theorem Cj {hd:T} {facts:List T}:∀ (gs:List T) (st:bt),(eo hd facts gs st).length<=facts.length ^ gs.length
 | [],st=>by rw [eo]; simp
 | g::gs,st=>by
  rw [eo,List.length_cons,Nat.pow_succ]
  have:∀ fs:List T,(fs.flatMap fun f=>if (bI g f st).1=true then eo hd facts gs (bI g f st).2 else []).length<=facts.length ^ gs.length * fs.length:=by
   intro fs
   induction fs with
   | nil=>simp
   | cons f fs ih=>
    rw [List.flatMap_cons,List.length_append,List.length_cons,Nat.mul_succ]
    have:(if (bI g f st).1=true then eo hd facts gs (bI g f st).2 else []).length<=facts.length ^ gs.length:=by
     split
     ·exact Cj gs _
     ·simp
    omega
  exact this facts
/- the facts of a stage -/
structure Fs (f:List T):Prop where
 sorted:Sorted f
 fct:∀ x∈f,Fct x
theorem Fs.nil:Fs []:=⟨trivial,by simp⟩
theorem Fs.okO {f:List T} (h:Fs f):∀ x∈f,okO x:=fun x hx=>(h.fct x hx).ok.2.2.1
structure Pf (p:List C):Prop where
 len:p.length<=20
 parts:∀ c∈p,Gl c.head/\(∀ g∈c.body,Gl g)/\iN c.head c.body st0
 three:∀ c∈p,c.body.length<=3
theorem BT {p:List C} {f:List T} (hp:Pf p) (hf:Fs f):∀ x∈d4 p f,Fct x:=by
 intro x hx
 rw [d4,List.mem_flatMap] at hx
 obtain ⟨c,hc,hx⟩:=hx
 obtain ⟨h1,h2,h3⟩:=hp.parts c hc
 exact xV h1 hf.fct c.body st0 h2 Lh h3 x hx
theorem F2 {c:C} {f:List T} (h3:c.body.length<=3) (hf:f.length<=60):(eo c.head f c.body st0).length<=216000:=by
 refine Nat.le_trans (Cj _ _) ?_
 have h1:f.length ^ c.body.length<=60 ^ c.body.length:=Nat.pow_le_pow_left hf _
 have h2:60 ^ c.body.length<=60 ^ 3:=Nat.pow_le_pow_right (by decide) h3
 exact Nat.le_trans h1 (Nat.le_trans h2 (by decide))
theorem Jy {p:List C} {f:List T} (hp:Pf p) (hf:Fs f):Fs (gw p f):=by
 have h1:=BT hp hf
 refine ⟨vZ _ _ hf.sorted hf.okO fun x hx=>(h1 x hx).ok.2.2.1,fun x hx=>?_⟩
 rcases EN _ _ _ hx with hx|hx
 ·exact hf.fct x hx
 ·exact h1 x hx
theorem uR {p:List C} {f:List T} (hp:Pf p) (hf:Fs f):Fs (eD p f):=by
 have h1:=BT hp hf
 refine ⟨u4 _ _ hf.sorted hf.okO fun x hx=>(h1 x hx).ok.2.2.1,fun x hx=>?_⟩
 rcases qU _ _ _ hx with hx|hx
 ·exact hf.fct x hx
 ·exact h1 x hx
theorem qa (p:List C) (f:List T) (h:f.length<=61):f.length<=(eD p f).length/\(eD p f).length<=61:=by
 have:=oe (d4 p f) f
 rw [eD]
 omega
def stI (p:List C):Nat->List T->Nat->Option (List T × Nat)
 | 0,f,n=>some (f,n)
 | k+1,f,n=>if 60<(gw p f).length then none else if (gw p f).length=f.length then some (f,n) else stI p k (gw p f) (n+1)
def stS (p:List C):Nat->List T->Nat->List T × Nat
 | 0,f,n=>(f,n)
 | k+1,f,n=>if (eD p f).length=f.length ∨ 60<f.length then (f,n) else stS p k (eD p f) (n+1)
theorem IW (p:List C):∀ (k:Nat) (f:List T) (n:Nat),f.length<=60->(stI p k f n=none/\60<(stS p k f n).1.length) ∨ (stI p k f n=some (stS p k f n)/\(stS p k f n).1.length<=60)
 | 0,f,n,hf=>.inr ⟨rfl,hf⟩
 | k+1,f,n,hf=>by
  rw [stI,stS]
  rcases IJ (d4 p f) f with ⟨h1,h2⟩|⟨h1,h2⟩
  ·left
   have h1:60<(gw p f).length:=h1
   have h2:60<(eD p f).length:=h2
   rw [if_pos h1,if_neg (by omega)]
   refine ⟨rfl,?_⟩
   cases k with
   | zero=>exact h2
   | succ k=>
    rw [stS,if_pos (.inr h2)]
    exact h2
  ·have h1:(gw p f).length<=60:=h1
   have h2:eD p f=gw p f:=h2
   rw [if_neg (by omega),h2]
   by_cases he:(gw p f).length=f.length
   ·rw [if_pos he,if_pos (.inl he)]
    exact .inr ⟨rfl,hf⟩
   ·rw [if_neg he,if_neg (by omega)]
    exact IW p k _ _ h1
theorem FU (p:List C):∀ (j k:Nat) (f:List T) (n:Nat),j<=k->61<=j+f.length->f.length<=60->stI p k f n=stI p j f n
 | 0,k,f,n,_,h1,h2=>by omega
 | j+1,0,f,n,h,_,_=>by omega
 | j+1,k+1,f,n,h,h1,h2=>by
  rw [stI,stI]
  split
  ·rfl
  ·split
   ·rfl
   ·rename_i h3 h4
    have:=nn (d4 p f) f
    have h5:f.length<=(gw p f).length:=this.1
    exact FU p j k _ _ (by omega) (by omega) (by omega)
theorem Dc {p:List C} (hp:Pf p):∀ (k:Nat) (f:List T) (n:Nat),Fs f->f.length<=61->Fs (stS p k f n).1/\(stS p k f n).1.length<=61
 | 0,f,n,hf,hl=>⟨hf,hl⟩
 | k+1,f,n,hf,hl=>by
  rw [stS]
  split
  ·exact ⟨hf,hl⟩
  ·exact Dc hp k _ _ (uR hp hf) (qa p f hl).2
def gu (r:Int):Nat:=if 60<r then 61 else r.toNat
def bP (p:List C) (r:Int):List T × Bool:=
 if (eI p && !decide (r<0))=true then
  (if (stS p (gu r) [] 0).1.length<=60 then ((stS p (gu r) [] 0).1,true) else ([],false))
 else ([],false)
def ko (p:List C):Int:=if eI p=true then (if (stS p 61 [] 0).1.length<=60 then ((stS p 61 [] 0).2:Int) else -1) else -1
theorem Pf.take {p:List C} (h:Pf p) (j:Nat):Pf (p.take j):=⟨by have:=h.len; rw [List.length_take]; omega,fun c hc=>h.parts c (List.mem_of_mem_take hc),fun c hc=>h.three c (List.mem_of_mem_take hc)⟩
theorem qu (p:List C) (f:List T) (j:Nat) (hj:j<p.length):d4 (p.take (j+1)) f=d4 (p.take j) f++eo p[j].head f p[j].body st0:=by
 rw [d4,List.take_succ_eq_append_getElem hj,List.flatMap_append,List.flatMap_cons,List.flatMap_nil,List.append_nil]
 rfl
theorem Cd {p:List C} {f:List T} (hp:Pf p) (hf:f.length<=60):∀ j,j<=p.length->(d4 (p.take j) f).length<=j * 216000
 | 0,_=>by simp [d4]
 | j+1,h=>by
  have hj:j<p.length:=by omega
  rw [qu p f j hj,List.length_append]
  have h1:=Cd hp hf j (by omega)
  have h2:=F2 (hp.three _ (List.getElem_mem hj)) hf
  omega
theorem Gj (p:List C) (r:Int):(stI p r.toNat [] 0=none/\60<(stS p (gu r) [] 0).1.length) ∨ (stI p r.toNat [] 0=some (stS p (gu r) [] 0)/\(stS p (gu r) [] 0).1.length<=60):=by
 have e:stI p r.toNat [] 0=stI p (gu r) [] 0:=by
  unfold gu
  split
  ·exact FU p 61 _ [] 0 (by omega) (by simp) (by simp)
  ·rfl
 rw [e]
 exact IW p _ [] 0 (by simp)
theorem Fs.w {f:List T} (h:Fs f):wL f<=f.length * 34:=zw f 34 fun t ht=>(h.fct t ht).ok.2.2.2
theorem K4 {p:List C} (hp:eI p=true->Pf p) (r:Int):(bP p r).1.length<=60/\wL (bP p r).1<=2040:=by
 unfold bP
 split
 ·rename_i h
  rw [Bool.and_eq_true] at h
  have h1:=(Dc (hp h.1) (gu r) [] 0 Fs.nil (by simp)).1
  split
  ·rename_i h2
   have:=h1.w
   refine ⟨h2,?_⟩
   show wL (stS p (gu r) [] 0).1<=2040
   omega
  ·simp [wL]
 ·simp [wL]

end Go.Proofs.YtemmhhdnlbmicaaGreat

/- impl.insert; a round's function that is told facts. -/
namespace Go.Proofs.YtemmhhdnlbmicaaGreat
open Go Go.RowKit
theorem Rows.insert {α:Type} {k:Nat} {R:List Value->α->Prop} {css:List (List Value)} {ys:List α} (h:Rows k R css ys) {cs:List Value} {y:α} (hR:R cs y) (hl:cs.length=k) (i:Nat) :
  Rows k R (css.take i++cs::css.drop i) (ys.take i++y::ys.drop i):=by
 have h1:Rows k R (css.take i) (ys.take i):=⟨by simp [h.hc],fun c hc=>h.hk c (List.mem_of_mem_take hc),fun j h2 h3=>by
  rw [List.getElem_take,List.getElem_take]
  exact h.hR j _ _⟩
 have h2:Rows k R (css.drop i) (ys.drop i):=⟨by simp [h.hc],fun c hc=>h.hk c (List.mem_of_mem_drop hc),fun j h2 h3=>by
  rw [List.getElem_drop,List.getElem_drop]
  exact h.hR (i+j) _ _⟩
 have:=(h1.append (Rows.one hR hl)).append h2
 simpa using this
theorem RdT.oneRows {S:aF} {css:List (List Value)} {ys:List T} (h:Rows 4 (RdT S) css ys):∀ c∈css,∀ u∈c,u.oneCell'=true:=by
 intro c hc
 obtain ⟨j,hj,rfl⟩:=List.mem_iff_getElem.1 hc
 have e:=h.hc
 exact (h.hR j (by omega) hj).one
theorem B6 {w:World} {v:Value} {e:TypeId} {k n:Nat} {xs:List Value} (h:(Item.row v e k n xs).holds w):v.cells=#[v]/\v.oneCell'=true:=by
 have h:w.ownsRow 0 e k v n xs:=h
 rcases h.2 with ⟨rfl,_⟩|⟨g,cap,cur,rfl,_⟩ <;> exact ⟨rfl,rfl⟩
section
attribute [local irreducible] Run CondV ah be
theorem xT {l:List T} {t:T} {S:aF} {v:Value} {css:List (List Value)} {cs:List Value} (hR:Rows 4 (RdT S) css l) (hcs:RdT S cs t) (hl:∀ x∈l,okO x) (ht:okO t) (hs:Sorted l) (hn:l.length<=100000000) (hw:wT t<=1048576) :
  Tri Tryz.prog G5 [v,.agg cs.toArray] [bh v ab 4 css] S fun r I' S'=>∃ css',I'=[bh r ab 4 css']/\Rows 4 (RdT S') css' (eP l t):=by
 intro w hI
 have hlc:=hcs.length
 have hcl:=hR.hc
 obtain ⟨X,hX⟩:∃ X,X=bX [bh v ab 4 css]:=⟨_,rfl⟩
 rw [<- hX] at hI ⊢
 refine yK ?_
 unfold vy
 refine bQ hI fun b1 w' hI=>?_
 have hI:Inv w X ([.blk b1 (.cells cs.toArray ab)]++[bh v ab 4 css]) S w':=hI.perm (List.perm_append_comm (l₁:=[_]))
 refine bb hI 0 ao rfl (by simpa using hlc) ?_
 obtain ⟨S1,hle1,hrd,hI1,hback⟩:=Inv.lend (A:=[_]) hI
 have hrows:=RowRd.rows (hR.monoR fun _ _ h=>RdT.mono hle1 h) hrd
 obtain ⟨i,hpos,hcall⟩:=qR hrows (hcs.mono hle1) hl ht hs hn
 refine Run.callPure ju jE hI1 hcall fun w' hI1=>?_
 have hI:=hback _ _ hI1
 refine bd rfl ?_
 refine bd rfl ?_
 refine ba (fun hb=>?_) (fun hb=>?_)
 ·have hb':qe l t i=true:=hb
  rw [qe] at hb'
  split at hb'
  ·rename_i hi
   rw [KT hpos hi hb']
   exact ⟨_,_,_,rfl,hI.pick [false,true],Ext.refl _ _ _,css,rfl,hR⟩
  ·cases hb'
 ·have hb':qe l t i=false:=hb
  have hnew:eP l t=l.take i++t::l.drop i:=LB hpos fun hi=>by
   rw [qe,dif_pos hi] at hb'
   exact hb'
  have hil:=hpos.1
  refine bb hI 0 ao rfl (by simpa using hlc) ?_
  refine Run.call0E FQ Gq hI (B9 t S cs hcs hw) fun v' I' S' w'=>?_
  rintro ⟨rfl,cs',L,rfl,rfl,hT⟩ _ hI
  obtain ⟨S2,hI,hE2,hins⟩:=Inv.pubExt hI
  have hrd:=TrT.rd hT hins
  refine eN hI bK (by simp [Value.cells,hrd.length]) (by decide) (by decide) fun ub w' hI=>?_
  have hI:Inv w X ([.blk b1 (.cells cs.toArray ab)]++[bh v ab 4 css,.blk ub (.cells cs'.toArray ab)]) S2 w':=hI
  refine Run.callE (A:=[_]) tK uo hI (DY hR.hk (RdT.oneRows hR) hrd.length hrd.one (by omega) (by omega)) fun r I' S3 w'=>?_
  rintro ⟨e3,rfl⟩ _ hI
  rw [e3] at hI
  refine ⟨_,_,_,rfl,hI.pick [false,true],hE2,_,rfl,?_⟩
  rw [hnew]
  exact (hR.monoR fun _ _ h=>RdT.mono hE2.1 h).insert hrd hrd.length i
def ItR (b:Nat) (s:List T) (S:aF) (I:List Item):Prop:=Fs s/\∃ v css,I=[.blk b (.cells #[v] ce),bh v ab 4 css]/\Rows 4 (RdT S) css s
def LP (s:List T) (n:Nat):Prop:=s.length+n<=100000000
theorem Ma {S0:aF} {b:Nat}:Tell Er Tryz.f132 [.pointer (some ⟨b,0,none⟩)] (ItR b) LP eP S0:=by
 refine ⟨Du,CZ,fun s S S' I hle h=>?_,fun s x n hx h=>?_,fun S s x cs I n hle hx hcs hIt hcan w hI=>?_⟩
 ·obtain ⟨h1,v,css,h2,h3⟩:=h
  exact ⟨h1,v,css,h2,h3.monoR fun _ _ h=>RdT.mono hle h⟩
 ·unfold LP at h ⊢
  have:=zN s x
  omega
 ·obtain ⟨hFs,v,css,rfl,hR⟩:=hIt
  unfold LP at hcan
  have hlc:=hcs.length
  obtain ⟨X,hX⟩:∃ X,X=bX [Item.blk b (.cells #[v] ce),bh v ab 4 css]:=⟨_,rfl⟩
  rw [<- hX] at hI ⊢
  refine wH ?_
  unfold rF
  refine bQ hI fun b1 w' hI=>?_
  have hI:Inv w X [.blk b1 (.cells cs.toArray ab),.blk b (.cells #[v] ce),bh v ab 4 css] S w':=hI.perm (List.perm_append_comm (l₁:=[_]))
  refine bG hI 1 aR rfl rfl ?_
  refine bb hI 0 ao rfl (by simpa using hlc) ?_
  have hok:=hx.ok
  have hI:Inv w X ([.blk b1 (.cells cs.toArray ab),.blk b (.cells #[v] ce)]++[bh v ab 4 css]) S w':=hI
  refine Run.callE EJ EH hI (xT hR hcs hFs.okO hok.2.2.1 hFs.sorted (by omega) (by omega)) fun r I' S1 w'=>?_
  rintro ⟨css',rfl,hR'⟩ hE hI
  have hI:Inv w X [.blk b1 (.cells cs.toArray ab),.blk b (.cells #[v] ce),bh r ab 4 css'] S1 w':=hI
  have hr:r.cells=#[r]/\r.oneCell'=true:=B6 (hI.its (bh r ab 4 css') (by simp))
  refine fg hI 1 (n:=1) (by rw [hr.1]; rfl) (by decide +kernel) rfl (by simp) (by rw [hr.1]; intro u hu; simp at hu; subst hu; exact hr.2) fun w' hI=>?_
  have hI:Inv w X [.blk b1 (.cells cs.toArray ab),.blk b (.cells (bu #[v] 0 r.cells.toList) ce),bh r ab 4 css'] S1 w':=hI
  have e:bu #[v] 0 r.cells.toList=#[r]:=by rw [hr.1]; rfl
  rw [e] at hI
  refine ⟨_,_,_,rfl,hI.pick [false,true,true],hE,rfl,⟨oR hFs.sorted hFs.okO hok.2.2.1,fun y hy=>?_⟩,r,css',rfl,hR'⟩
  rcases nu hy with hy|rfl
  ·exact hFs.fct y hy
  ·exact hx
end

end Go.Proofs.YtemmhhdnlbmicaaGreat

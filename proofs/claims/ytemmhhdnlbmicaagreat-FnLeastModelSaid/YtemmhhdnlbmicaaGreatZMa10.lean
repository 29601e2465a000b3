/- Matching with a map: impl.instance. -/
import Derived.Test.YtemmhhdnlbmicaaGreatZMa6
import Derived.Test.YtemmhhdnlbmicaaGreatZMa3
import Derived.Test.YtemmhhdnlbmicaaGreatZMa9
import Derived.Test.YtemmhhdnlbmicaaGreatZMa1
import Derived.Test.YtemmhhdnlbmicaaGreatZMa7
namespace Go.Proofs.YtemmhhdnlbmicaaGreat
open Go Go.RowKit

/- the map of impl.instance -/
def KnownM (S:aF) (es:Array MapEntry) (st:bq):Prop:=
 (∀ e∈es.toList,∃ (n:Nat) (t:T) (cs:List Value),e.key=.int .i64 n/\e.val=.agg cs.toArray/\RdT S cs t/\st[n]?=some (some t))/\(∀ (n:Nat) (t:T),st[n]?=some (some t)->∃ e∈es.toList,e.key=.int .i64 n)
theorem KnownM.find {S:aF} {es:Array MapEntry} {st:bq} (h:KnownM S es st) (n:Nat) :
  (∃ j v t cs,Instr.findNow (.int .i64) (.int .i64 n) es.toList 0=some (some (j,v))/\v=.agg cs.toArray/\RdT S cs t/\st[n]?=some (some t)) ∨
  ((∀ t,st[n]?≠some (some t))/\Instr.findNow (.int .i64) (.int .i64 n) es.toList 0=some none):=by
 rcases xG (n:=n) es.toList 0 (fun e he=>by obtain ⟨m,_,_,hk,_⟩:=h.1 e he; exact ⟨m,hk⟩) with ⟨j,e,he,hk,hf⟩|⟨hk,hf⟩
 ·obtain ⟨m,t,cs,hk2,hv,hR,hs⟩:=h.1 e he
  rw [hk] at hk2
  simp only [Value.int.injEq,true_and] at hk2
  have:n=m:=by omega
  subst this
  exact .inl ⟨j,e.val,t,cs,hf,hv,hR,hs⟩
 ·refine .inr ⟨fun t ht=>?_,hf⟩
  obtain ⟨e,he,hk2⟩:=h.2 n t ht
  exact hk e he hk2
theorem KnownM.push {S:aF} {es:Array MapEntry} {st:bq} (h:KnownM S es st) {n:Nat} (hn:n<st.length) (hno:∀ t,st[n]?≠some (some t)) {cs:List Value} {u:T} (hu:RdT S cs u) (ck:Nat) :
  KnownM S (es.push { key:=.int .i64 n,val:=.agg cs.toArray,born:=ck }) (st.set n (some u)):=by
 refine ⟨fun e he=>?_,fun m t ht=>?_⟩
 ·rw [Array.toList_push] at he
  rcases List.mem_append.1 he with he|he
  ·obtain ⟨m,t,cs',hk,hv,hR,hs⟩:=h.1 e he
   refine ⟨m,t,cs',hk,hv,hR,?_⟩
   have:n≠m:=fun e=>hno t (by rw [e]; exact hs)
   rw [List.getElem?_set_ne this]
   exact hs
  ·simp at he
   subst he
   exact ⟨n,u,cs,rfl,rfl,hu,by rw [List.getElem?_set_self hn]⟩
 ·rw [Array.toList_push]
  by_cases e:n=m
  ·exact ⟨_,List.mem_append_right _ (List.mem_singleton.2 rfl),by rw [e]⟩
  ·rw [List.getElem?_set_ne e] at ht
   obtain ⟨x,hx,hk⟩:=h.2 m t ht
   exact ⟨x,List.mem_append_left _ hx,hk⟩
theorem DL (t u:T):mM t u=mM u t:=by
 rw [mM,mM,Bool.eq_iff_iff]
 simp only [Bool.and_eq_true,decide_eq_true_eq]
 constructor
 ·rintro ⟨a,b,c,d⟩; exact ⟨a.symm,b.symm,c.symm,d.symm⟩
 ·rintro ⟨a,b,c,d⟩; exact ⟨a.symm,b.symm,c.symm,d.symm⟩
section
attribute [local irreducible] Run CondV ag be
theorem AK:∀ (t u:T) (S:aF) (cs ds:List Value) (mb ck:Nat) (es:Array MapEntry) (st:bq),RdT S cs t->RdT S ds u->okV t->okK u->vR st->KnownM S es st->
  Tri Tryz.prog FR [.agg ds.toArray,.agg cs.toArray,.map (some mb)] [.blk mb (.map es ck)] S fun r I' S'=>S'=S/\r=.bool (bK t u st).1/\∃ es' ck',I'=[.blk mb (.map es' ck')]/\KnownM S es' (bK t u st).2:=by
 refine T.ind fun k' n' s' ks' ih u S cs ds mb ck es st h' h hv hu hst hkc=>?_
 intro w hI
 have hds:=h
 obtain ⟨kv',rfl,_,_,_,hks'⟩:=RdT.iff.1 h'
 obtain ⟨kv,rfl,_,_,_,hks⟩:=RdT.iff.1 h
 obtain ⟨k,n,s,ks⟩:=u
 simp only [T.name,T.kids,T.kind,T.n] at hks hks' ⊢
 have hlen:=hks'.le
 simp only [maxLen] at hlen
 rw [okV] at hv
 obtain ⟨hv1,hv2⟩:=hv
 have huk:=hu
 rw [okK] at hu
 obtain ⟨X,hX⟩:∃ X,X=bY [Item.blk mb (.map es ck)]:=⟨_,rfl⟩
 rw [<- hX] at hI ⊢
 refine vZ ?_
 unfold qS;dsimp only
 refine bO hI fun b1 w' hI=>?_
 refine bO hI fun b2 w' hI=>?_
 have hI:Inv w X [.blk b1 (.cells #[.int .i64 k,.int .i64 n,.string s,kv] ac),.blk b2 (.cells #[.int .i64 k',.int .i64 n',.string s',kv'] ac),.blk mb (.map es ck)] S w':=hI.perm (by
  refine (List.perm_append_comm (l₁:=[_,_]) (l₂:=[_])).trans ?_
  exact List.Perm.refl _)
 refine aJ hI 1 rfl bD bn rfl ?_
 refine bR ?_
 refine bk (fun hk1=>?_) (fun hk1=>?_)
 ·obtain ⟨hn0,hn25⟩:=hv1 hk1
  obtain ⟨j,rfl⟩:∃ j:Nat,n'=j:=⟨n'.toNat,by omega⟩
  have hj:j<26:=by omega
  have hjs:j<st.length:=by rw [hst.1]; exact hj
  refine aJ hI 1 rfl bI bn rfl ?_
  rcases hkc.find j with ⟨q,v,t0,cs0,hf,rfl,hR,hst2⟩|⟨hno,hf⟩
  ·refine He (v:=.agg cs0.toArray) (ok:=true) hI 2 lS kM bN rfl (.inl ⟨q,hf,rfl⟩) ?_
   refine a7 rfl ?_
   refine a7 rfl ?_
   have hlc:=hR.length
   refine bH hI bN fun b7 w' hI=>?_
   refine bf hI 3 rfl al (by simpa using hlc) rfl (by simpa using hR.one) fun w' hI=>?_
   refine cc ?_
   refine ba (fun hb=>by cases hb) (fun _=>?_)
   refine bb hI 3 al rfl (by simpa using hlc) ?_
   refine bb hI 0 al rfl rfl ?_
   refine Run.callPure gR gT hI (gE t0 _ S _ _ hR hds) fun w' hI=>?_
   have hm:bK (.mk k' j s' ks') (.mk k n s ks) st=(eqT t0 (.mk k n s ks),st):=by
    rw [bK,if_pos hk1,Int.toNat_natCast,hst2]
   rw [hm]
   exact ⟨_,_,_,rfl,hI.pick [false,false,true,false],Ext.refl _ _ _,rfl,rfl,_,_,rfl,hkc⟩
  ·refine He (ok:=false) hI 2 lS kM bN rfl (.inr ⟨hf,rfl,rfl⟩) ?_
   refine a7 rfl ?_
   refine a7 rfl ?_
   refine bH hI bN fun b7 w' hI=>?_
   refine bf hI 3 rfl al rfl rfl (by simp [Value.oneCell']) fun w' hI=>?_
   refine cc ?_
   refine ba (fun _=>?_) (fun hb=>by cases hb)
   refine aJ hI 1 rfl bI bn rfl ?_
   refine bb hI 0 al rfl rfl ?_
   refine Of hI 2 lS kM rfl hf fun w' hI=>?_
   have hm:bK (.mk k' j s' ks') (.mk k n s ks) st=(true,st.set j (some (.mk k n s ks))):=by
    rw [bK,if_pos hk1,Int.toNat_natCast,List.getElem?_eq_getElem hjs]
    cases hq:st[j] with
    | none=>rfl
    | some t=>exact absurd (by rw [List.getElem?_eq_getElem hjs,hq]) (hno t)
   rw [hm]
   exact ⟨_,_,_,rfl,hI.pick [false,false,true,false],Ext.refl _ _ _,rfl,rfl,_,_,rfl,hkc.push hjs hno hds ck⟩
 refine ⟨fun q w'=>q=.bool (!mM (.mk k n s ks) (.mk k' n' s' ks'))/\Inv w X [.blk b1 (.cells #[.int .i64 k,.int .i64 n,.string s,kv] ac),.blk b2 (.cells #[.int .i64 k',.int .i64 n',.string s',kv'] ac),.blk mb (.map es ck)] S w',?_,?_⟩
 ·refine aJ hI 0 rfl bD bn rfl ?_
  refine aJ hI 1 rfl bD bn rfl ?_
  refine gr ?_
  by_cases e1:k=k'
  ·rw [decide_eq_true e1]
   repeat (first|refine ad ?_|refine af (by decide) ?_|refine ab ?_|refine ai ?_|refine ah ?_)
   refine aJ hI 0 rfl bI bn rfl ?_
   refine aJ hI 1 rfl bI bn rfl ?_
   refine gr ?_
   by_cases e2:n=n'
   ·rw [decide_eq_true e2]
    repeat (first|refine ad ?_|refine af (by decide) ?_|refine ab ?_|refine ai ?_|refine ah ?_)
    refine aJ hI 0 rfl bo bm rfl ?_
    refine aJ hI 1 rfl bo bm rfl ?_
    refine vI ?_
    by_cases e3:s=s'
    ·rw [decide_eq_true e3]
     repeat (first|refine ad ?_|refine af (by decide) ?_|refine ab ?_|refine ai ?_|refine ah ?_)
     refine aJ hI 0 rfl aS aQ rfl ?_
     refine a9 hks av ?_
     refine aJ hI 1 rfl aS aQ rfl ?_
     refine a9 hks' av ?_
     refine gr ?_
     repeat (first|refine ad ?_|refine af (by decide) ?_|refine ab ?_|refine ai ?_|refine ah ?_)
     exact ⟨by rw [fA,decide_eq_true e1,decide_eq_true e2,decide_eq_true e3,Oj]; rfl,hI⟩
    ·rw [decide_eq_false e3]
     repeat (first|refine ad ?_|refine af (by decide) ?_|refine ab ?_|refine ai ?_|refine ah ?_)
     exact ⟨by rw [fA,decide_eq_true e1,decide_eq_true e2,decide_eq_false e3]; rfl,hI⟩
   ·rw [decide_eq_false e2]
    repeat (first|refine ad ?_|refine af (by decide) ?_|refine ab ?_|refine ai ?_|refine ah ?_)
    exact ⟨by rw [fA,decide_eq_true e1,decide_eq_false e2]; rfl,hI⟩
  ·rw [decide_eq_false e1]
   repeat (first|refine ad ?_|refine af (by decide) ?_|refine ab ?_|refine ai ?_|refine ah ?_)
   exact ⟨by rw [fA,decide_eq_false e1]; rfl,hI⟩

 intro q _ _ _ _ _ _ _ _ _ _ _ _ _ _ _ _ _ _ _ _ _ _ _ _ _ _ _ w'
 rintro ⟨rfl,hI⟩
 cases hd:mM (.mk k n s ks) (.mk k' n' s' ks')
 ·refine ba (fun _=>?_) (fun hb=>by cases hb)
  have hm:bK (.mk k' n' s' ks') (.mk k n s ks) st=(false,st):=by rw [bK,if_neg hk1,if_neg (by rw [DL,hd]; decide)]
  rw [hm]
  exact ⟨_,_,_,rfl,hI.pick [false,false,true],Ext.refl _ _ _,rfl,rfl,_,_,rfl,hkc⟩
 refine ba (fun hb=>by cases hb) (fun _=>?_)
 have hle:ks.length=ks'.length:=by
  rw [fA] at hd
  simp only [Bool.and_eq_true,decide_eq_true_eq] at hd
  exact hd.2.2.2
 have hm:bK (.mk k' n' s' ks') (.mk k n s ks) st=eQ ks' ks st:=by rw [bK,if_neg hk1,if_pos (by rw [DL,hd])]; rfl
 rw [hm]
 have hu2:=hu.2
 refine aJ hI 1 rfl aS aQ rfl ?_
 refine a9 hks' av ?_
 refine ⟨fun i w'=>∃ (j:Nat) (st':bq) (es':Array MapEntry) (ck':Nat),j<=ks'.length/\i=.int .i64 j/\eQ (ks'.drop j) (ks.drop j) st'=eQ ks' ks st/\vR st'/\KnownM S es' st'/\Inv w X [.blk b1 (.cells #[.int .i64 k,.int .i64 n,.string s,kv] ac),.blk b2 (.cells #[.int .i64 k',.int .i64 n',.string s',kv'] ac),.blk mb (.map es' ck')] S w',fun i _=>ks'.length - (intOf i).toNat,⟨0,st,es,ck,Nat.zero_le _,rfl,rfl,hst,hkc,hI⟩,?_⟩
 intro t60 _ _ _ _ _ _ _ _ _ _ _ _ _ _ _ _ _ _ w'
 rintro ⟨j,st',es',ck',hj,rfl,hrel,hst',hkc',hI⟩
 refine bU ?_
 refine bk (fun hji=>?_) (fun hji=>?_)
 ·have hj2:j<ks'.length:=by omega
  have hj1:j<ks.length:=by omega
  obtain ⟨c1,o1,cap1,a1,E1,fz1,rfl,hS1,hR1⟩:=hks.at_ hj1
  obtain ⟨c2,o2,cap2,a2,E2,fz2,rfl,hS2,hR2⟩:=hks'.at_ hj2
  rw [xM ks' ks st' j hj2 hj1] at hrel
  have hcall:=ih _ (List.getElem_mem hj2) ks[j] S _ _ mb ck' es' st' hR2 hR1 (og hv2 _ (List.getElem_mem hj2)) (o5 hu2 _ (List.getElem_mem hj1)) hst' hkc'
  have hsn:=u6 ks'[j] ks[j] st' hst' (o5 hu2 _ (List.getElem_mem hj1))
  generalize hr:bK ks'[j] ks[j] st'=r at hrel hcall hsn
  refine ⟨fun D eY fb eW fa eX e9 eZ fR fP eM cG cL ch w_=>(D 0=true->ch=.pointer (some ⟨b1,3,none⟩))/\(D 1=true->cL=.slice (some ⟨c1,o1,none⟩) ks.length cap1)/\(D 2=true->cG=.int .i64 j)/\(D 3=true->eM=.pointer (some ⟨c1,o1+j * 4,none⟩))/\(D 4=true->fP=.agg (bv a1 (o1+j * 4) 4).toArray)/\(D 5=true->fR=.pointer (some ⟨b2,3,none⟩))/\(D 6=true->eZ=.slice (some ⟨c2,o2,none⟩) ks'.length cap2)/\(D 7=true->e9=.int .i64 j)/\(D 8=true->eX=.pointer (some ⟨c2,o2+j * 4,none⟩))/\(D 9=true->fa=.agg (bv a2 (o2+j * 4) 4).toArray)/\(D 10=true->eW=.map (some mb))/\(D 11=true->fb=.bool r.1)/\(D 12=true->eY=.bool (!r.1))/\(D 11=false->Inv w X [.blk b1 (.cells #[.int .i64 k,.int .i64 n,.string s,.slice (some ⟨c1,o1,none⟩) ks.length cap1] ac),.blk b2 (.cells #[.int .i64 k',.int .i64 n',.string s',.slice (some ⟨c2,o2,none⟩) ks'.length cap2] ac),.blk mb (.map es' ck')] S w_)/\(D 11=true->∃ es2 ck2,KnownM S es2 r.2/\Inv w X [.blk b1 (.cells #[.int .i64 k,.int .i64 n,.string s,.slice (some ⟨c1,o1,none⟩) ks.length cap1] ac),.blk b2 (.cells #[.int .i64 k',.int .i64 n',.string s',.slice (some ⟨c2,o2,none⟩) ks'.length cap2] ac),.blk mb (.map es2 ck2)] S w_)/\∃ es3 ck3,Inv w X [.blk b1 (.cells #[.int .i64 k,.int .i64 n,.string s,.slice (some ⟨c1,o1,none⟩) ks.length cap1] ac),.blk b2 (.cells #[.int .i64 k',.int .i64 n',.string s',.slice (some ⟨c2,o2,none⟩) ks'.length cap2] ac),.blk mb (.map es3 ck3)] S w_,⟨ae,ae,ae,ae,ae,ae,ae,ae,ae,ae,ae,ae,ae,⟨fun _=>hI.draw,ae,es',ck',hI.draw⟩⟩,⟨?_,?_,?_,?_,?_,?_,?_,?_,?_,?_,?_,?_,?_,trivial⟩,?_⟩
  ·intro D aY  eY fb eW fa eX e9 eZ fR fP eM cG cL ch w_
   rintro ⟨az,ay,aA,aB,aw,aD,aE,aI,aL,aP,aj,ao,aH,⟨hI0,hI1,es3,ck3,hI⟩⟩
   refine bg aS ?_
   exact ⟨fun _=>rfl,ay,aA,aB,aw,aD,aE,aI,aL,aP,aj,ao,aH,⟨hI0,hI1,es3,ck3,hI⟩⟩
  ·intro D aY ce eY fb eW fa eX e9 eZ fR fP eM cG cL ch w_
   rintro ⟨az,ay,aA,aB,aw,aD,aE,aI,aL,aP,aj,ao,aH,⟨hI0,hI1,es3,ck3,hI⟩⟩
   obtain rfl:=az ce
   refine bE hI 0 aQ rfl rfl ?_
   exact ⟨az,fun _=>rfl,aA,aB,aw,aD,aE,aI,aL,aP,aj,ao,aH,⟨hI0,hI1,es3,ck3,hI⟩⟩
  ·intro D aY  eY fb eW fa eX e9 eZ fR fP eM cG cL ch w_
   rintro ⟨az,ay,aA,aB,aw,aD,aE,aI,aL,aP,aj,ao,aH,⟨hI0,hI1,es3,ck3,hI⟩⟩
   exact ⟨az,ay,fun _=>rfl,aB,aw,aD,aE,aI,aL,aP,aj,ao,aH,⟨hI0,hI1,es3,ck3,hI⟩⟩
  ·intro D aY dI gJ eY fb eW fa eX e9 eZ fR fP eM cG cL ch w_
   rintro ⟨az,ay,aA,aB,aw,aD,aE,aI,aL,aP,aj,ao,aH,⟨hI0,hI1,es3,ck3,hI⟩⟩
   obtain rfl:=ay dI
   obtain rfl:=aA gJ
   refine bh av hj1 ?_
   exact ⟨az,ay,aA,fun _=>rfl,aw,aD,aE,aI,aL,aP,aj,ao,aH,⟨hI0,hI1,es3,ck3,hI⟩⟩
  ·intro D aY dF eY fb eW fa eX e9 eZ fR fP eM cG cL ch w_
   rintro ⟨az,ay,aA,aB,aw,aD,aE,aI,aL,aP,aj,ao,aH,⟨hI0,hI1,es3,ck3,hI⟩⟩
   obtain rfl:=aB dF
   refine cJ al hR1.length (fun j v hj=>by rw [hI.cellS hS1]; exact bl rfl j v hj) ?_
   exact ⟨az,ay,aA,aB,fun _=>rfl,aD,aE,aI,aL,aP,aj,ao,aH,⟨hI0,hI1,es3,ck3,hI⟩⟩
  ·intro D aY  eY fb eW fa eX e9 eZ fR fP eM cG cL ch w_
   rintro ⟨az,ay,aA,aB,aw,aD,aE,aI,aL,aP,aj,ao,aH,⟨hI0,hI1,es3,ck3,hI⟩⟩
   refine bg aS ?_
   exact ⟨az,ay,aA,aB,aw,fun _=>rfl,aE,aI,aL,aP,aj,ao,aH,⟨hI0,hI1,es3,ck3,hI⟩⟩
  ·intro D aY dV eY fb eW fa eX e9 eZ fR fP eM cG cL ch w_
   rintro ⟨az,ay,aA,aB,aw,aD,aE,aI,aL,aP,aj,ao,aH,⟨hI0,hI1,es3,ck3,hI⟩⟩
   obtain rfl:=aD dV
   refine bE hI 1 aQ rfl rfl ?_
   exact ⟨az,ay,aA,aB,aw,aD,fun _=>rfl,aI,aL,aP,aj,ao,aH,⟨hI0,hI1,es3,ck3,hI⟩⟩
  ·intro D aY  eY fb eW fa eX e9 eZ fR fP eM cG cL ch w_
   rintro ⟨az,ay,aA,aB,aw,aD,aE,aI,aL,aP,aj,ao,aH,⟨hI0,hI1,es3,ck3,hI⟩⟩
   exact ⟨az,ay,aA,aB,aw,aD,aE,fun _=>rfl,aL,aP,aj,ao,aH,⟨hI0,hI1,es3,ck3,hI⟩⟩
  ·intro D aY c9 jL eY fb eW fa eX e9 eZ fR fP eM cG cL ch w_
   rintro ⟨az,ay,aA,aB,aw,aD,aE,aI,aL,aP,aj,ao,aH,⟨hI0,hI1,es3,ck3,hI⟩⟩
   obtain rfl:=aE c9
   obtain rfl:=aI jL
   refine bh av hj2 ?_
   exact ⟨az,ay,aA,aB,aw,aD,aE,aI,fun _=>rfl,aP,aj,ao,aH,⟨hI0,hI1,es3,ck3,hI⟩⟩
  ·intro D aY iM eY fb eW fa eX e9 eZ fR fP eM cG cL ch w_
   rintro ⟨az,ay,aA,aB,aw,aD,aE,aI,aL,aP,aj,ao,aH,⟨hI0,hI1,es3,ck3,hI⟩⟩
   obtain rfl:=aL iM
   refine cJ al hR2.length (fun j v hj=>by rw [hI.cellS hS2]; exact bl rfl j v hj) ?_
   exact ⟨az,ay,aA,aB,aw,aD,aE,aI,aL,fun _=>rfl,aj,ao,aH,⟨hI0,hI1,es3,ck3,hI⟩⟩
  ·intro D aY  eY fb eW fa eX e9 eZ fR fP eM cG cL ch w_
   rintro ⟨az,ay,aA,aB,aw,aD,aE,aI,aL,aP,aj,ao,aH,⟨hI0,hI1,es3,ck3,hI⟩⟩
   exact ⟨az,ay,aA,aB,aw,aD,aE,aI,aL,aP,fun _=>rfl,ao,aH,⟨hI0,hI1,es3,ck3,hI⟩⟩
  ·intro D aY cK fw Ac eY fb eW fa eX e9 eZ fR fP eM cG cL ch w_
   rintro ⟨az,ay,aA,aB,aw,aD,aE,aI,aL,aP,aj,ao,aH,⟨hI0,hI1,es3,ck3,hI⟩⟩
   obtain rfl:=aw cK
   obtain rfl:=aP fw
   obtain rfl:=aj Ac
   refine Run.call (A:=[_,_]) qT rq (hI0 aY) hcall fun v' I' S w_=>?_
   rintro ⟨rfl,rfl,es2,ck2,rfl,hk2⟩ _ hI
   have hI0:=fun (h:aC D 11 11=false)=>(Bool.noConfusion h:Inv w X [.blk b1 (.cells #[.int .i64 k,.int .i64 n,.string s,.slice (some ⟨c1,o1,none⟩) ks.length cap1] ac),.blk b2 (.cells #[.int .i64 k',.int .i64 n',.string s',.slice (some ⟨c2,o2,none⟩) ks'.length cap2] ac),.blk mb (.map es' ck')] S w_)
   have hI1:=fun (_:aC D 11 11=true)=>(⟨es2,ck2,hk2,hI⟩:∃ es2 ck2,KnownM S es2 r.2/\Inv w X [.blk b1 (.cells #[.int .i64 k,.int .i64 n,.string s,.slice (some ⟨c1,o1,none⟩) ks.length cap1] ac),.blk b2 (.cells #[.int .i64 k',.int .i64 n',.string s',.slice (some ⟨c2,o2,none⟩) ks'.length cap2] ac),.blk mb (.map es2 ck2)] S w_)
   obtain ⟨es3,ck3,hI⟩:∃ es3 ck3,Inv w X [.blk b1 (.cells #[.int .i64 k,.int .i64 n,.string s,.slice (some ⟨c1,o1,none⟩) ks.length cap1] ac),.blk b2 (.cells #[.int .i64 k',.int .i64 n',.string s',.slice (some ⟨c2,o2,none⟩) ks'.length cap2] ac),.blk mb (.map es3 ck3)] S w_:=⟨es2,ck2,hI⟩
   exact ⟨az,ay,aA,aB,aw,aD,aE,aI,aL,aP,aj,fun _=>rfl,aH,⟨hI0,hI1,es3,ck3,hI⟩⟩
  ·intro D aY hZ eY fb eW fa eX e9 eZ fR fP eM cG cL ch w_
   rintro ⟨az,ay,aA,aB,aw,aD,aE,aI,aL,aP,aj,ao,aH,⟨hI0,hI1,es3,ck3,hI⟩⟩
   obtain rfl:=ao hZ
   refine cc ?_
   exact ⟨az,ay,aA,aB,aw,aD,aE,aI,aL,aP,aj,ao,fun _=>rfl,⟨hI0,hI1,es3,ck3,hI⟩⟩
  intro D jh ft fm iW gN f0 f1 fM fF fI fK fL fN eY fb eW fa eX e9 eZ fR fP eM cG cL ch w_
  rintro ⟨az,ay,aA,aB,aw,aD,aE,aI,aL,aP,aj,ao,aH,⟨hI0,hI1,es3,ck3,hI⟩⟩
  obtain rfl:=aH jh
  obtain rfl:=ao ft
  obtain rfl:=aj fm
  obtain rfl:=aP iW
  obtain rfl:=aL gN
  obtain rfl:=aI f0
  obtain rfl:=aE f1
  obtain rfl:=aD fM
  obtain rfl:=aw fF
  obtain rfl:=aB fI
  obtain rfl:=aA fK
  obtain rfl:=ay fL
  obtain rfl:=az fN
  clear az ay aA aB aw aD aE aI aL aP aj ao aH
  obtain ⟨es2,ck2,hk2,hI⟩:=hI1 ft
  clear hI0 hI1
  refine ba (fun hne=>?_) (fun he'=>?_)
  ·simp only [Bool.not_eq_true'] at hne
   rw [hne,if_neg (by decide)] at hrel
   rw [<- hrel]
   exact ⟨_,_,_,rfl,hI.pick [false,false,true],Ext.refl _ _ _,rfl,rfl,_,_,rfl,hk2⟩
  ·simp only [Bool.not_eq_false'] at he'
   rw [he',if_pos rfl] at hrel
   refine bP (by omega) ?_
   exact ⟨⟨j+1,r.2,es2,ck2,hj2,rfl,hrel,hsn,hk2,hI⟩,by simp [intOf]; omega⟩
 ·have:j=ks'.length:=by omega
  subst this
  rw [List.drop_length,<- hle,List.drop_length] at hrel
  rw [<- hrel]
  exact ⟨_,_,_,rfl,hI.pick [false,false,true],Ext.refl _ _ _,rfl,rfl,_,_,rfl,hkc'⟩
end

end Go.Proofs.YtemmhhdnlbmicaaGreat

/- maps.Clone of maps from numbers to terms; reading a published map. -/
namespace Go.Proofs.YtemmhhdnlbmicaaGreat
open Go Go.RowKit
section
variable {P:Program} {w w0:World} {X:List Nat} {L:List Item} {S:aF} {K:Value->World->Prop}
attribute [local irreducible] Run CondV ag be
theorem ML (h:Inv w0 X L S w) {T kt et ty:TypeId} {b clock:Nat} {es:Array MapEntry} {n:Int} {z v:Value} (hT:P.underlying T=some (.map kt et)) (hkt:P.underlying kt=some (.int .i64))
  (hz:iE P et=some z) (hS:S b=some (.map es clock))
  (hf:(∃ j,Instr.findNow (.int .i64) (.int .i64 n) es.toList 0=some (some (j,v))) ∨ (Instr.findNow (.int .i64) (.int .i64 n) es.toList 0=some none/\v=z))
  (hk:K v w):Run P (sOp (.lookup T (.const (.map (some b))) (.const (.int .i64 n)) false) ty) w K:=by
 have hb:w.heap[b]?=some (.map es clock):=(h.pub _ _ hS).1
 have hck:∀ e,(Instr.checkKey e 10000 kt (.int .i64 n)).run P w=.ok () w:=fun e=>by
  rw [show (10000:Nat)=9999+1 from rfl,Instr.checkKey]
  simp [run_underlying hkt]
 obtain ⟨inf,hi1,hi2⟩:∃ inf,P.info? et=some inf/\inf.zero=some z:=by
  unfold iE at hz
  cases hinf:P.info? et with
  | none=>rw [hinf] at hz; simp at hz
  | some inf=>rw [hinf] at hz; exact ⟨inf,rfl,by simpa using hz⟩
 have hzv:(zeroValue et).run P w=.ok z w:=by simp [zeroValue,typeInfo,hi1,hi2]
 refine Run.of ?_ hk
 have hg:(getObj b).run P w=.ok (.map es clock) w:=by simp [getObj,Sem.run,hb]
 rcases hf with ⟨j,hf⟩|⟨hf,rfl⟩
 ·have hfk:=ib (P:=P) (w:=w) hkt hf
  simp [sOp,execOp,ev0,evE,Instr.lookup,run_underlying hT,hg,hck,hfk]
 ·have hfk:=ib (P:=P) (w:=w) hkt hf
  simp [sOp,execOp,ev0,evE,Instr.lookup,run_underlying hT,hg,hck,hfk,hzv]
theorem N3 {T kt et:TypeId} {cx cy:Bool} {b:Nat} (hT:P.underlying T=some (.map kt et)) (hk:K (.bool false) w):Run P (aq .eql T cx cy (.map (some b)) (.map none)) w K:=by
 refine Run.of (v:=.bool false) (w':=w) ?_ hk
 have he:(Op.equal T (.map (some b)) (.map none)).run P w=.ok false w:=by
  rw [Op.equal,Op.maxDepth,Op.equalIn.eq_def]
  simp [run_underlying hT]
 have hg:∀ x y,(eqGuard .eql T x y (.map (some b)) (.map none)).run P w=.ok () w:=fun x y=>by unfold eqGuard; simp
 simp only [aq,binOp,Sem.run_bind,hg,Result.andThen_ok,he,Sem.run_pure]
theorem OV {T ty kt et:TypeId} {v:Value} (hT:P.underlying T=some (.map kt et)) (hk:K (.iface T v) w):Run P (sOp (.makeInterface T (.const v)) ty) w K:=by
 refine Run.of ?_ hk
 simp [sOp,execOp,ev0,evE,Instr.makeInterface,run_underlying hT]
theorem N7 {T U ty kt et:TypeId} {v:Value} (hT:P.underlying T=some (.map kt et)) (hk:K v w):Run P (sOp (.typeAssert (.const (.iface T v)) U T false) ty) w K:=by
 refine Run.of ?_ hk
 simp [sOp,execOp,ev0,evE,Instr.typeAssert,run_underlying hT]
theorem NO (h:Inv w0 X L S w) {f:FuncId} {fn:Func} {t b clock:Nat} {es:Array MapEntry} (hf:P.funcs[f]?=some fn) (hn:(fn.name == "runtime.NumGoroutine")=false) (hb:fn.body.isNone=true)
  (hx:(Extern.findNext fn).isNone=true) (hy:Extern.find fn=some Extern.MapsClone.clone) (hS:S b=some (.map es clock))
  (hk:∀ nb w',Inv w0 X (L++[.blk nb (.map es clock)]) S w'->K (.iface t (.map (some nb))) w'):Run P (aG (.func (.func f) #[] #[]) [.iface t (.map (some b))]) w K:=by
 have hbw:w.heap[b]?=some (.map es clock):=(h.pub _ _ hS).1
 refine Run.of (v:=.iface t (.map (some w.heap.size))) (w':={ w with heap:=w.heap.push (.map es clock) }) ?_ (hk _ _ (h.alloc _))
 have h1:¬ fn.name = "runtime.NumGoroutine" := by simpa using hn
 have h2:fn.body=none:=by simpa using hb
 have h3:Extern.findNext fn=none:=by simpa using hx
 have hg:(getObj b).run P w=.ok (.map es clock) w:=by simp [getObj,Sem.run,hbw]
 have hc:(Extern.MapsClone.clone #[.iface t (.map (some b))]).run P w=.ok (.iface t (.map (some w.heap.size))) { w with heap:=w.heap.push (.map es clock) }:=by
  have e:Extern.MapsClone.clone #[.iface t (.map (some b))]=(getObj b >>= fun o=>match o with
   | .map entries clock=>(newObj (.map entries clock) >>= fun n=>pure (.iface t (.map (some n))))
   | _=>stuck "maps.clone: a map expected"):=rfl
  rw [e]
  simp [hg,newObj,Sem.run,Result.andThen]
 simp [aG,Deferred.ofValue,invoke,callFunc,hf,h1,h2,h3,hy,hc]
end
section
attribute [local irreducible] Run CondV ag be
theorem Eg {S:aF} {mb ck:Nat} {es:Array MapEntry} (hS:S mb=some (.map es ck)):Tri Tryz.prog yz [.map (some mb)] [] S fun r I' S'=>S'=S/\∃ nb,r=.map (some nb)/\I'=[.blk nb (.map es ck)]:=by
 intro w hI
 refine ql ?_
 unfold me
 refine N3 (kt:=fx) (et:=ac) (by kernel_rfl) ?_
 refine ba (fun hb=>by cases hb) (fun _=>?_)
 refine OV (kt:=fx) (et:=ac) (by kernel_rfl) ?_
 refine NO hI Tryz.func144 (by kernel_rfl) (by kernel_rfl) (by kernel_rfl) (by kernel_rfl) hS fun nb w' hI=>?_
 refine N7 (kt:=fx) (et:=ac) (by kernel_rfl) ?_
 exact ⟨_,_,_,rfl,hI,Ext.refl _ _ _,rfl,nb,rfl,rfl⟩
end

end Go.Proofs.YtemmhhdnlbmicaaGreat

/- SubsumedClause: both sides. -/
namespace Go.Proofs.YtemmhhdnlbmicaaGreat
open Go Go.RowKit

def st0:bq:=List.replicate 26 none
theorem KnownM.empty (S:aF):KnownM S #[] st0:=⟨by simp,fun n t ht=>by
 rw [st0,List.getElem?_replicate] at ht
 split at ht <;> cases ht⟩
theorem Lx:∀ {ts:List T},(∀ t∈ts,okV t)->GP ts
 | [],_=>by simp [GP]
 | t::ts,h=>by rw [GP]; exact ⟨h t (List.mem_cons_self ..),Lx fun u hu=>h u (List.mem_cons_of_mem _ hu)⟩
theorem Lo:∀ {ts:List T},(∀ t∈ts,okK t)->Ci ts
 | [],_=>by simp [Ci]
 | t::ts,h=>by rw [Ci]; exact ⟨h t (List.mem_cons_self ..),Lo fun u hu=>h u (List.mem_cons_of_mem _ hu)⟩
theorem OC (z:Array Value) (hz:z=#[.int .i64 0,.int .i64 0,.string ⟨#[]⟩,.slice none 0 0]) (S:aF):KnownC S ((Array.range 104).map (z[· % z.size]!)) st0:=by
 subst hz
 refine ⟨by simp,fun i hi=>⟨fun _=>?_,fun t ht=>?_⟩⟩
 ·simp only [st0,List.length_replicate] at hi
  apply List.ext_getElem?
  intro j
  rw [bv,List.getElem?_take]
  match j with
  | 0|1|2|3=>
   rw [if_pos (by omega),List.getElem?_drop,Array.getElem?_toList,Array.getElem?_map,Array.getElem?_range,if_pos (by omega)]
   simp only [Option.map_some,List.size_toArray,List.length_cons,List.length_nil]
   first
    | rw [show (i * 4+0) % 4=0 by omega]; rfl
    | rw [show (i * 4+1) % 4=1 by omega]; rfl
    | rw [show (i * 4+2) % 4=2 by omega]; rfl
    | rw [show (i * 4+3) % 4=3 by omega]; rfl
  | j+4=>
   rw [if_neg (by omega)]
   rfl
 ·have e:st0[i]=none:=by simp only [st0,List.getElem_replicate]
  rw [e] at ht
  cases ht
section
variable {P:Program} {w w0:World} {X:List Nat} {L:List Item} {S:aF} {K:Value->World->Prop}
attribute [local irreducible] Run CondV ag be
theorem Er (h:Inv w0 X L S w) {T ty e:TypeId} {k by_ n:Nat} {z:Value} (hT:oY P T=some (e,k,by_,z)) (hn:n<=4294967296) (hby:by_<=65536) (hn0:n * k≠0)
  (hk:∀ b w',Inv w0 X (L++[.blk b (.cells ((Array.range (n * k)).map (z.cells[· % z.cells.size]!)) e)]) S w'->K (.slice (some ⟨b,0,none⟩) n n) w') :
  Run P (sOp (.makeSlice T (.const (.int .i64 n)) (.const (.int .i64 n))) ty) w K:=by
 obtain ⟨hu,i,hi,hz,hs,hb,hzs⟩:=iw hT
 have hw:IntKind.i64.wrap (n:Int)=n:=IntWalk.i64_in _ (by omega)
 have hle:by_ * n<=2 ^ 48:=Nat.le_trans (Nat.mul_le_mul hby hn) (by decide)
 have h1:¬ ((n:Int)<0):=by omega
 have h2:¬ (281474976710656<(i.bytes:Int) * (n:Int)):=by
  rw [hb]
  have:((by_ * n:Nat):Int)<=((2 ^ 48:Nat):Int):=by exact_mod_cast hle
  have e:(((2 ^ 48:Nat)):Int)=281474976710656:=by decide
  rw [e,Int.natCast_mul] at this
  omega
 refine Run.of (v:=.slice (some ⟨w.heap.size,0,none⟩) n n) (w':={ w with heap:=w.heap.push (.cells ((Array.range (n * k)).map (z.cells[· % z.cells.size]!)) e) }) ?_ (hk _ _ (h.alloc _))
 simp [sOp,execOp,ev0,evE,Instr.makeSlice,run_underlying hu,asInt,asIntOf,typeInfo,hi,hw,h1,h2,sizeOf,hs,newRow,newObj,Sem.run,hn0,zeroValue,hz]
end
section
attribute [local irreducible] Run CondV ag be
end

end Go.Proofs.YtemmhhdnlbmicaaGreat

/- Flat programs: what follows from facts. The plain form. -/
namespace Go.Proofs.YtemmhhdnlbmicaaGreat
open Go Go.RowKit

def Ge (y:T):Prop:=eC y=true/\y.kids=[]/\y.kind≠1
def Fct (x:T):Prop:=x.kind=3/\eC x=true/\∀ y∈x.kids,Ge y
def Gl (g:T):Prop:=g.kind=3/\eC g=true/\∀ y∈g.kids,eC y=true/\y.kids=[]
def StF (st:bq):Prop:=st.length=26/\∀ t,some t∈st->Ge t
def bnd (st:bq) (n:Int):Prop:=∃ t,st[n.toNat]?=some (some t)
theorem IL {s:ByteArray} (h:mB s=true):s.size<=6:=by
 rw [mB,Bool.or_eq_true] at h
 rcases h with h|h
 ·rw [k0] at h
  simp only [Bool.and_eq_true,decide_eq_true_eq] at h
  exact h.2.2
 ·simp only [List.any_eq_true,decide_eq_true_eq] at h
  obtain ⟨x,hx,rfl⟩:=h
  have:∀ y∈signs,y.size<=6:=by decide +kernel
  exact this x hx
theorem vj {t:T} (h:eC t=true):t.name.size<=6/\t.kids.length<=4:=by
 unfold eC at h
 have he:emptyB.size=0:=by decide +kernel
 by_cases e1:t.kind=1
 ·rw [if_pos e1] at h
  simp only [Bool.and_eq_true,decide_eq_true_eq] at h
  rw [h.2.2.1]; omega
 ·rw [if_neg e1] at h
  by_cases e2:t.kind=2
  ·rw [if_pos e2] at h
   simp only [Bool.and_eq_true,decide_eq_true_eq] at h
   rw [h.2.2.1]; omega
  ·rw [if_neg e2] at h
   by_cases e3:t.kind=3
   ·rw [if_pos e3] at h
    simp only [Bool.and_eq_true,decide_eq_true_eq] at h
    exact ⟨IL h.2.1,h.2.2⟩
   ·rw [if_neg e3] at h
    cases h
theorem Ns (t:T):wT t=t.name.size+t.kids.length+wL t.kids:=by cases t; rw [wT]; rfl
theorem Lm (t:T):okV t↔(t.kind=1->0<=t.n/\t.n<=25)/\GP t.kids:=by cases t; rw [okV]; rfl
theorem Lc (t:T):okK t↔t.kind≠0/\Ci t.kids:=by cases t; rw [okK]; rfl
theorem Lh (t:T):okO t↔(((t.kind=1 ∨ t.kind=2)/\t.name=emptyB/\t.kids=[]) ∨ (t.kind=3/\t.n=0))/\qg t.kids:=by cases t; rw [okO]; rfl
theorem Ly:∀ {ts:List T},(∀ t∈ts,okO t)->qg ts
 | [],_=>by simp [qg]
 | t::ts,h=>by rw [qg]; exact ⟨h t (List.mem_cons_self ..),Ly fun u hu=>h u (List.mem_cons_of_mem _ hu)⟩
theorem EC {y:T} (h:eC y=true) (hk:y.kids=[]):okV y/\okK y/\okO y/\wT y<=6:=by
 have h1:=IA h
 have h2:=s0 h
 have h3:=vj h
 refine ⟨(Lm y).2 ⟨h1.1,by rw [hk]; simp [GP]⟩,(Lc y).2 ⟨h1.2,by rw [hk]; simp [Ci]⟩,(Lh y).2 ⟨h2,by rw [hk]; simp [qg]⟩,?_⟩
 rw [Ns,hk]
 simp only [List.length_nil,wL]
 omega
theorem Av:∀ (ts:List T) (b:Nat),(∀ t∈ts,wT t<=b)->wL ts<=ts.length * b
 | [],b,_=>by simp [wL]
 | t::ts,b,h=>by
  rw [wL,List.length_cons,Nat.succ_mul]
  have h1:=h t (List.mem_cons_self ..)
  have h2:=Av ts b fun u hu=>h u (List.mem_cons_of_mem _ hu)
  omega
theorem Li {x:T} (ho:eC x=true) (hk:∀ y∈x.kids,eC y=true/\y.kids=[]):okV x/\okK x/\okO x/\wT x<=34:=by
 have h1:=IA ho
 have h2:=s0 ho
 have h3:=vj ho
 have hl:=fun y hy=>EC (hk y hy).1 (hk y hy).2
 refine ⟨(Lm x).2 ⟨h1.1,Lx fun y hy=>(hl y hy).1⟩,(Lc x).2 ⟨h1.2,Lo fun y hy=>(hl y hy).2.1⟩,(Lh x).2 ⟨h2,Ly fun y hy=>(hl y hy).2.2.1⟩,?_⟩
 have h4:=Av x.kids 6 fun y hy=>(hl y hy).2.2.2
 have h5:x.kids.length * 6<=4 * 6:=Nat.mul_le_mul_right 6 h3.2
 rw [Ns]
 omega
theorem Fct.ok {x:T} (h:Fct x):okV x/\okK x/\okO x/\wT x<=34:=Li h.2.1 fun y hy=>⟨(h.2.2 y hy).1,(h.2.2 y hy).2.1⟩
theorem Gl.ok {x:T} (h:Gl x):okV x/\okK x/\okO x/\wT x<=34:=Li h.2.1 h.2.2
theorem StF.ok {st:bq} (h:StF st):vR st/\stW st:=⟨⟨h.1,fun t ht=>(EC (h.2 t ht).1 (h.2 t ht).2.1).2.1⟩,fun t ht=>by have:=(EC (h.2 t ht).1 (h.2 t ht).2.1).2.2.2; omega⟩
theorem LA:StF st0:=⟨by simp [st0],fun t ht=>by simp [st0] at ht⟩
theorem ME {y:T} (h:eC y=true) (hk:y.kind=1):0<=y.n/\y.n<=25:=(IA h).1 hk
/- matching -/
theorem xn:∀ (ts us:List T) (st:bq),st.length=26->(∀ y∈ts,eC y=true/\y.kids=[])->ts.length=us.length->
  (eQ ts us st).2.length=26/\(∀ x,some x∈(eQ ts us st).2->some x∈st ∨ x∈us)/\(∀ n,bnd st n->bnd (eQ ts us st).2 n)/\((eQ ts us st).1=true->∀ y∈ts,y.kind=1->bnd (eQ ts us st).2 y.n)
 | [],us,st,hst,_,_=>by
  rw [eQ]
  exact ⟨hst,fun x hx=>.inl hx,fun n h=>h,fun _ y hy=>by cases hy⟩
 | _::_,[],st,_,_,hl=>by simp at hl
 | t::ts,u::us,st,hst,hk,hl=>by
  obtain ⟨ho,hks⟩:=hk t (List.mem_cons_self ..)
  have hk':=fun y hy=>hk y (List.mem_cons_of_mem _ hy)
  have hl':ts.length=us.length:=by simpa using hl
  rw [eQ]
  have key:(bK t u st).2.length=26/\(∀ x,some x∈(bK t u st).2->some x∈st ∨ x=u)/\(∀ n,bnd st n->bnd (bK t u st).2 n)/\((bK t u st).1=true->t.kind=1->bnd (bK t u st).2 t.n):=by
   obtain ⟨k,n,s,ks⟩:=t
   rw [bK]
   by_cases hk1:k=1
   ·have hr:=ME ho hk1
    simp only [T.n] at hr
    rw [if_pos hk1]
    split
    ·rename_i t0 h0
     refine ⟨hst,fun x hx=>.inl hx,fun n h=>h,fun _ _=>⟨t0,?_⟩⟩
     exact h0
    ·refine ⟨by rw [List.length_set]; exact hst,fun x hx=>?_,fun m ⟨t1,h1⟩=>?_,fun _ _=>⟨u,?_⟩⟩
     ·rcases List.mem_or_eq_of_mem_set hx with hx|hx
      ·exact .inl hx
      ·simp only [Option.some.injEq] at hx
       exact .inr hx
     ·by_cases e:n.toNat=m.toNat
      ·refine ⟨u,?_⟩
       rw [<- e,List.getElem?_set_self (by omega)]
      ·refine ⟨t1,?_⟩
       rw [List.getElem?_set_ne e]
       exact h1
     ·show (st.set n.toNat (some u))[n.toNat]?=_
      rw [List.getElem?_set_self (by omega)]
   ·rw [if_neg hk1]
    split
    ·simp only [T.kids] at hks
     subst hks
     rw [eQ]
     exact ⟨hst,fun x hx=>.inl hx,fun n h=>h,fun _ h=>absurd h hk1⟩
    ·exact ⟨hst,fun x hx=>.inl hx,fun n h=>h,fun _ h=>absurd h hk1⟩
  obtain ⟨k1,k2,k3,k4⟩:=key
  split
  ·rename_i hm
   obtain ⟨i1,i2,i3,i4⟩:=xn ts us (bK t u st).2 k1 hk' hl'
   refine ⟨i1,fun x hx=>?_,fun n h=>i3 n (k3 n h),fun h y hy hy1=>?_⟩
   ·rcases i2 x hx with hx|hx
    ·rcases k2 x hx with hx|rfl
     ·exact .inl hx
     ·exact .inr (List.mem_cons_self ..)
    ·exact .inr (List.mem_cons_of_mem _ hx)
   ·rcases List.mem_cons.1 hy with rfl|hy
    ·exact i3 _ (k4 hm hy1)
    ·exact i4 h y hy hy1
  ·refine ⟨k1,fun x hx=>?_,k3,fun h=>by cases h⟩
   rcases k2 x hx with hx|rfl
   ·exact .inl hx
   ·exact .inr (List.mem_cons_self ..)
theorem kJ {g f:T} {st:bq} (hg:Gl g) (hf:Fct f) (hst:StF st):StF (bK g f st).2/\(∀ n,bnd st n->bnd (bK g f st).2 n)/\((bK g f st).1=true->∀ y∈g.kids,y.kind=1->bnd (bK g f st).2 y.n):=by
 obtain ⟨k,n,s,ks⟩:=g
 have hk3:k=3:=hg.1
 rw [bK,if_neg (by omega)]
 split
 ·rename_i hd
  have hl:ks.length=f.kids.length:=by
   rw [mM] at hd
   simp only [Bool.and_eq_true,decide_eq_true_eq] at hd
   exact hd.2.2.2
  obtain ⟨i1,i2,i3,i4⟩:=xn ks f.kids st hst.1 hg.2.2 hl
  refine ⟨⟨i1,fun t ht=>?_⟩,i3,i4⟩
  rcases i2 t ht with h|h
  ·exact hst.2 t h
  ·exact hf.2.2 t h
 ·exact ⟨hst,fun n h=>h,fun h=>by cases h⟩
theorem AY {h:T} {st:bq} (hh:Gl h) (hst:StF st) (hb:∀ y∈h.kids,y.kind=1->bnd st y.n):Fct (qM h st):=by
 refine ⟨hh.1,?_,fun y hy=>?_⟩
 ·have h1:=hh.2.1
  unfold eC at h1 ⊢
  have e3:(qM h st).kind=3:=hh.1
  rw [if_neg (by have:=hh.1; omega),if_neg (by have:=hh.1; omega),if_pos hh.1] at h1
  rw [if_neg (by omega),if_neg (by omega),if_pos e3]
  simp only [Bool.and_eq_true,decide_eq_true_eq] at h1 ⊢
  refine ⟨rfl,h1.2.1,?_⟩
  show (h.kids.map (iV st)).length<=4
  rw [List.length_map]
  exact h1.2.2
 ·have hy:y∈h.kids.map (iV st):=hy
  obtain ⟨x,hx,rfl⟩:=List.mem_map.1 hy
  rw [iV]
  split
  ·rename_i hk
   obtain ⟨t,ht⟩:=hb x hx hk
   have e:sw st x.n=t:=by rw [sw,ht]
   rw [e]
   exact hst.2 t (List.mem_of_getElem? ht)
  ·rename_i hk
   exact ⟨(hh.2.2 x hx).1,(hh.2.2 x hx).2,hk⟩
/- what follows -/
def jq (hd:T) (facts:List T):List T->List T->bq->List T
 | [],out,st=>if 60<out.length then out else eP out (qM hd st)
 | g::gs,out,st=>if 60<out.length then out else facts.foldl (fun out f=>if (bK g f st).1=true then jq hd facts gs out (bK g f st).2 else out) out
def fc (hd:T) (facts:List T):List T->bq->List T
 | [],st=>[qM hd st]
 | g::gs,st=>facts.flatMap fun f=>if (bK g f st).1=true then fc hd facts gs (bK g f st).2 else []
def ij (out:List T) (t:T):List T:=if 60<out.length then out else eP out t
theorem vp:∀ (l:List T) (out:List T),60<out.length->l.foldl ij out=out
 | [],out,_=>rfl
 | t::l,out,h=>by
  rw [List.foldl_cons,ij,if_pos h]
  exact vp l out h
theorem vA (hd:T) (facts:List T):∀ (gs out:List T) (st:bq),jq hd facts gs out st=(fc hd facts gs st).foldl ij out
 | [],out,st=>by rw [jq,fc]; rfl
 | g::gs,out,st=>by
  rw [jq,fc]
  split
  ·rename_i h
   exact (vp _ _ h).symm
  ·rename_i h
   clear h
   have:∀ (fs out:List T),fs.foldl (fun out f=>if (bK g f st).1=true then jq hd facts gs out (bK g f st).2 else out) out =
     (fs.flatMap fun f=>if (bK g f st).1=true then fc hd facts gs (bK g f st).2 else []).foldl ij out:=by
    intro fs
    induction fs with
    | nil=>intro out; rfl
    | cons f fs ih=>
     intro out
     rw [List.foldl_cons,List.flatMap_cons,List.foldl_append,ih]
     congr 1
     split
     ·exact vA hd facts gs out _
     ·rfl
   exact this facts out
/- the variables of the head are bound in the end -/
def jl (hd:T) (gs:List T) (st:bq):Prop:=∀ y∈hd.kids,y.kind=1->bnd st y.n ∨ ∃ g∈gs,∃ z∈g.kids,z.kind=1/\z.n=y.n
theorem lf {hd g f:T} {gs:List T} {st:bq} (h:jl hd (g::gs) st) (hg:Gl g) (hf:Fct f) (hst:StF st) (hm:(bK g f st).1=true):jl hd gs (bK g f st).2:=by
 obtain ⟨_,h2,h3⟩:=kJ hg hf hst
 intro y hy hk
 rcases h y hy hk with hb|⟨x,hx,z,hz,hz1,hzn⟩
 ·exact .inl (h2 _ hb)
 ·rcases List.mem_cons.1 hx with rfl|hx
  ·left
   rw [<- hzn]
   exact h3 hm z hz hz1
  ·exact .inr ⟨x,hx,z,hz,hz1,hzn⟩
theorem Bd {hd:T} {facts:List T} (hh:Gl hd) (hfs:∀ f∈facts,Fct f):∀ (gs:List T) (st:bq),(∀ g∈gs,Gl g)->StF st->jl hd gs st->∀ x∈fc hd facts gs st,Fct x
 | [],st,_,hst,hc,x,hx=>by
  rw [fc,List.mem_singleton] at hx
  subst hx
  refine AY hh hst fun y hy hk=>?_
  rcases hc y hy hk with h|⟨g,hg,_⟩
  ·exact h
  ·cases hg
 | g::gs,st,hgs,hst,hc,x,hx=>by
  rw [fc,List.mem_flatMap] at hx
  obtain ⟨f,hf,hx⟩:=hx
  split at hx
  ·rename_i hm
   have hg:=hgs g (List.mem_cons_self ..)
   exact Bd hh hfs gs _ (fun g' h'=>hgs g' (List.mem_cons_of_mem _ h')) (kJ hg (hfs f hf) hst).1 (lf hc hg (hfs f hf) hst hm) x hx
  ·cases hx
theorem Hz (out:List T) (t:T):out.length<=(ij out t).length/\(ij out t).length<=max out.length 61:=by
 unfold ij
 split
 ·omega
 ·have:=AS out t
  omega
theorem o3:∀ (l out:List T),out.length<=(l.foldl ij out).length/\(l.foldl ij out).length<=max out.length 61
 | [],out=>by simp only [List.foldl_nil]; omega
 | t::l,out=>by
  rw [List.foldl_cons]
  have h1:=Hz out t
  have h2:=o3 l (ij out t)
  omega
theorem GU {out:List T} {t y:T} (h:y∈ij out t):y∈out ∨ y=t:=by
 unfold ij at h
 split at h
 ·exact .inl h
 ·exact pu h
theorem tZ:∀ (l out:List T) (y:T),y∈l.foldl ij out->y∈out ∨ y∈l
 | [],out,y,h=>.inl h
 | t::l,out,y,h=>by
  rw [List.foldl_cons] at h
  rcases tZ l _ y h with h|h
  ·rcases GU h with h|rfl
   ·exact .inl h
   ·exact .inr (List.mem_cons_self ..)
  ·exact .inr (List.mem_cons_of_mem _ h)
theorem vU:∀ (l out:List T) (y:T),y∈out->y∈l.foldl ij out
 | [],out,y,h=>h
 | t::l,out,y,h=>by
  rw [List.foldl_cons]
  refine vU l _ y ?_
  unfold ij
  split
  ·exact h
  ·exact (HH out t).2 y h
theorem H4:∀ (l out:List T) (y:T),y∈l->60<(l.foldl ij out).length ∨ y∈l.foldl ij out
 | t::l,out,y,h=>by
  rw [List.foldl_cons]
  rcases List.mem_cons.1 h with rfl|h
  ·by_cases hc:60<out.length
   ·left
    have h1:=Hz out y
    have h2:=o3 l (ij out y)
    omega
   ·right
    refine vU l _ _ ?_
    rw [ij,if_neg hc]
    exact (HH out y).1
  ·exact H4 l _ y h
theorem wS:∀ (l out:List T),Sorted out->(∀ x∈out,okO x)->(∀ x∈l,okO x)->Sorted (l.foldl ij out)
 | [],out,h,_,_=>h
 | t::l,out,h,ho,hl=>by
  rw [List.foldl_cons]
  have ht:=hl t (List.mem_cons_self ..)
  refine wS l _ ?_ (fun x hx=>?_) fun x hx=>hl x (List.mem_cons_of_mem _ hx)
  ·unfold ij
   split
   ·exact h
   ·exact oL h ho ht
  ·rcases GU hx with hx|rfl
   ·exact ho x hx
   ·exact ht
theorem HC (l:List T) (t:T):HD l t=true↔t∈l:=by
 rw [HD,List.any_eq_true]
 constructor
 ·rintro ⟨x,hx,he⟩
  rw [jJ] at he
  subst he
  exact hx
 ·intro h
  exact ⟨t,h,(jJ _ _).2 rfl⟩
/- a list that was cut off is longer than the facts -/
end Go.Proofs.YtemmhhdnlbmicaaGreat

/- spec.l16Body. -/
namespace Go.Proofs.YtemmhhdnlbmicaaGreat
open Go Go.RowKit
def IsM (S:aF) (v:Value) (r:Bool × bq):Prop:=∃ kb kp kc,v=.tuple #[kvn kb kp,.bool r.1]/\26<=kp/\kp<=maxLen/\S kb=some (.cells kc ac)/\KnownC S kc r.2
def IsKn (S:aF) (v:Value) (st:bq):Prop:=∃ kb kp kc,v=kvn kb kp/\26<=kp/\kp<=maxLen/\S kb=some (.cells kc ac)/\KnownC S kc st
theorem IsM.mono {S S':aF} {v:Value} {r:Bool × bq} (h:IsM S v r) (hs:Sle S S'):IsM S' v r:=by
 obtain ⟨kb,kp,kc,h1,h2,h3,h4,h5⟩:=h
 exact ⟨kb,kp,kc,h1,h2,h3,hs _ _ h4,h5.mono hs⟩
theorem IsKn.mono {S S':aF} {v:Value} {st:bq} (h:IsKn S v st) (hs:Sle S S'):IsKn S' v st:=by
 obtain ⟨kb,kp,kc,h1,h2,h3,h4,h5⟩:=h
 exact ⟨kb,kp,kc,h1,h2,h3,hs _ _ h4,h5.mono hs⟩
theorem IsM.parts {S:aF} {v:Value} {r:Bool × bq} (h:IsM S v r):∃ u,v=.tuple #[u,.bool r.1]/\IsKn S u r.2:=by
 obtain ⟨kb,kp,kc,h1,h2⟩:=h
 exact ⟨_,h1,kb,kp,kc,rfl,h2⟩
theorem Pk {hd:T} {facts gs out:List T} {st:bq} (hh:Gl hd) (hfs:∀ f∈facts,Fct f) (hgs:∀ g∈gs,Gl g) (hst:StF st) (hc:jl hd gs st) (ho:∀ x∈out,okO x) (hn:out.length<=1000000) :
  (∀ x∈jq hd facts gs out st,okO x)/\(jq hd facts gs out st).length<=1000000:=by
 rw [vA]
 refine ⟨fun x hx=>?_,?_⟩
 ·rcases tZ _ _ x hx with h|h
  ·exact ho x h
  ·exact (Bd hh hfs gs st hgs hst hc x h).ok.2.2.1
 ·have:=o3 (fc hd facts gs st) out
  omega
theorem OH {hd f g:T} {facts gs out:List T} {st:bq} (hh:Gl hd) (hfs:∀ f∈facts,Fct f) (hf:Fct f) (hg:Gl g) (hgs:∀ g∈gs,Gl g) (hst:StF st) (hc:jl hd (g::gs) st) (ho:∀ x∈out,okO x) (hn:out.length<=1000000) :
  (∀ x∈(if (bK g f st).1=true then jq hd facts gs out (bK g f st).2 else out),okO x)/\(if (bK g f st).1=true then jq hd facts gs out (bK g f st).2 else out).length<=1000000:=by
 split
 ·rename_i hm
  exact Pk hh hfs hgs (kJ hg hf hst).1 (lf hc hg hf hst hm) ho hn
 ·exact ⟨ho,hn⟩
section
attribute [local irreducible] Run CondV ag be
theorem CU (c0:C) (facts:List T) (hh:Gl c0.head) (hfs:∀ f∈facts,Fct f) (hbs:∀ g∈c0.body,Gl g):∀ (gs:List T) (i:Nat),i+gs.length=c0.body.length->c0.body.drop i=gs->
  ∀ (S:aF) (cs:List Value) (v fv kn:Value) (out:List T) (st:bq),RdC S cs c0->RdSl S 4 (RdT S) v out->RdSl S 4 (RdT S) fv facts->IsKn S kn st->StF st->jl c0.head gs st->(∀ x∈out,okO x)->out.length<=1000000->
  Tri Tryz.prog Hr [v,.agg cs.toArray,.int .i64 i,fv,kn] [] S (M5 (jq c0.head facts gs out st)):=by
 intro gs
 induction gs with
 | nil=>
  intro i hi hdr S cs v fv kn out st h hv hf hkn hst hc ho hn w hI
  obtain ⟨kb,kp,kc,rfl,hkp,hkm,hS,hkc⟩:=hkn
  obtain ⟨hd,ks,rfl,h1,h2⟩:=h
  have h1':=h1
  obtain ⟨kv,rfl,g1,g2,g3,g4⟩:=RdT.iff.1 h1
  simp only [List.length_nil,Nat.add_zero] at hi
  refine nM ?_
  unfold mZ
  refine bO hI fun b6 w' hI=>?_
  refine a9 hv av ?_
  refine dX ?_
  rw [jq]
  refine bk (fun hb=>?_) (fun hb=>?_)
  ·rw [if_pos (by omega)]
   exact ⟨_,_,_,rfl,hI.pick [false],Ext.refl _ _ _,rfl,hv⟩
  rw [if_neg (by omega)]
  refine aJ hI 0 rfl bp aQ rfl ?_
  refine a9 h2 av ?_
  refine bR ?_
  refine bk (fun _=>?_) (fun hb=>absurd (by omega) hb)
  refine bg dh ?_
  refine fg hI 0 [.int .i64 c0.head.kind,.int .i64 c0.head.n,.string c0.head.name,kv] al rfl rfl NC ?_
  have hok:=hh.ok
  refine Run.call0 Ft Ej hI (B7 h1' hok.1 (by omega) hst.ok.1 hst.ok.2 hS hkc) fun v' I' S' w'=>?_
  rintro ⟨rfl,cs1,L,rfl,rfl,hT⟩ _ hI
  obtain ⟨S1,hI,hE,hins⟩:=hI.pubExt
  have hct:=AY hh hst (fun y hy hk=>by
   rcases hc y hy hk with h|⟨g,hg,_⟩
   ·exact h
   ·cases hg)
  refine Run.call0E F1 GB hI (EI (hv.monoT hE.1) (hT.rd hins) ho hct.ok.2.2.1 hn) fun v' I' S2 w'=>?_
  rintro ⟨rfl,hr⟩ hE2 hI
  exact ⟨_,_,_,rfl,hI.pick [false],hE.trans hE2,rfl,hr⟩
 | cons g gs ih=>
  intro i hi hdr S cs v fv kn out st h hv hf hkn hst hc ho hn w hI
  obtain ⟨kb,kp,kc,rfl,hkp,hkm,hS,hkc⟩:=hkn
  have h0:=h
  obtain ⟨hd,ks,rfl,h1,h2⟩:=h
  obtain ⟨kv,rfl,g1,g2,g3,g4⟩:=RdT.iff.1 h1
  simp only [List.length_cons] at hi
  have hib:i<c0.body.length:=by omega
  have hlen2:=h2.le
  have hlenf:=hf.le
  simp only [maxLen] at hlen2 hlenf
  have hge:c0.body[i]=g/\c0.body.drop (i+1)=gs:=by
   rw [List.drop_eq_getElem_cons hib,List.cons.injEq] at hdr
   exact hdr
  have hg:Gl g:=by rw [<- hge.1]; exact hbs _ (List.getElem_mem hib)
  have hgs:∀ x∈gs,Gl x:=fun x hx=>hbs x (by rw [<- hge.2] at hx; exact List.mem_of_mem_drop hx)
  refine nM ?_
  unfold mZ
  refine bO hI fun b6 w' hI=>?_
  refine a9 hv av ?_
  refine dX ?_
  rw [jq]
  refine bk (fun hb=>?_) (fun hb=>?_)
  ·rw [if_pos (by omega)]
   exact ⟨_,_,_,rfl,hI.pick [false],Ext.refl _ _ _,rfl,hv⟩
  rw [if_neg (by omega)]
  refine aJ hI 0 rfl bp aQ rfl ?_
  refine a9 h2 av ?_
  refine bR ?_
  refine bk (fun hb=>by omega) (fun _=>?_)
  generalize hF:(fun (out:List T) (f:T)=>if (bK g f st).1=true then jq c0.head facts gs out (bK g f st).2 else out)=F
  have hF2:∀ o f,F o f=if (bK g f st).1=true then jq c0.head facts gs o (bK g f st).2 else o:=fun o f=>by rw [<- hF]
  refine ⟨fun j t w'=>∃ (k:Nat) (o:List T) (S':aF),k<=facts.length/\j=.int .i64 k/\(facts.drop k).foldl F o=facts.foldl F out/\(∀ x∈o,okO x)/\o.length<=1000000/\Ext w.heap.size [] S S'/\RdSl S' 4 (RdT S') t o/\
    Inv w [] [.blk b6 (.cells #[.int .i64 c0.head.kind,.int .i64 c0.head.n,.string c0.head.name,kv,ks] aR)] S' w',
   fun j _ _=>facts.length - (intOf j).toNat,⟨0,out,S,Nat.zero_le _,rfl,rfl,ho,hn,Ext.refl _ _ _,hv,hI⟩,?_⟩
  intro t11 _ _ t0 _ _ _ _ _ _ _ _ _ _ _ _ _ _ _ _ _ _ _ _ _ _ _ _ _ _ _ _ w'
  rintro ⟨k,o,S',hk,rfl,hrel,hoo,hno,hE,hv',hI⟩
  have hf':=hf.monoT hE.1
  refine a9 hf' av ?_
  refine bU ?_
  refine bk (fun hki=>?_) (fun hki=>?_)
  ·have hk':k<facts.length:=by omega
   rw [List.drop_eq_getElem_cons hk',List.foldl_cons] at hrel
   have hfk:=hfs _ (List.getElem_mem hk')
   have hso:=OH hh hfs hfk hg hgs hst hc hoo hno
   obtain ⟨b1,o1,cap1,c1,E1,fz1,rfl,hS1,hR1⟩:=(h2.monoT hE.1).at_ hib
   obtain ⟨b2,o2,cap2,c2,E2,fz2,rfl,hS2,hR2⟩:=hf'.at_ hk'
   rw [hge.1] at hR1
   obtain ⟨r,hr⟩:∃ r,r=bK g facts[k] st:=⟨_,rfl⟩
   refine ⟨fun t w'=>∃ S2,Ext w.heap.size [] S S2/\RdSl S2 4 (RdT S2) t (F o facts[k])/\Inv w [] [.blk b6 (.cells #[.int .i64 c0.head.kind,.int .i64 c0.head.n,.string c0.head.name,kv,.slice (some ⟨b1,o1,none⟩) c0.body.length cap1] aR)] S2 w',?_,?_⟩
   ·have hkd:=hkc.1
    refine ⟨fun D eE eD bV bW d4 db du dv dw dx dy gM eI eo eJ dZ w_=>(D 0=true->dZ=.pointer (some ⟨b6,4,none⟩))/\(D 1=true->eJ=.slice (some ⟨b1,o1,none⟩) c0.body.length cap1)/\(D 2=true->eo=.int .i64 i)/\(D 3=true->eI=.pointer (some ⟨b1,o1+i * 4,none⟩))/\(D 4=true->gM=.agg (bv c1 (o1+i * 4) 4).toArray)/\(D 5=true->dy=.slice (some ⟨b2,o2,none⟩) facts.length cap2)/\(D 6=true->dx=.int .i64 k)/\(D 7=true->dw=.pointer (some ⟨b2,o2+k * 4,none⟩))/\(D 8=true->dv=.agg (bv c2 (o2+k * 4) 4).toArray)/\(D 9=true->du=kvn kb kp)/\(D 10=true->True)/\(D 11=true->True)/\(D 12=true->True)/\(D 13=true->True)/\(D 14=true->True)/\(D 15=true->True)/\∃ SN,Ext w.heap.size [] S' SN/\(D 10=true->IsM SN db r)/\(D 11=true->IsM SN d4 r)/\(D 12=true->IsKn SN bW r.2)/\(D 13=true->bV=.bool r.1)/\(D 14=true->IsKn SN eD r.2)/\(D 15=true->eE=.bool r.1)/\Inv w [] [.blk b6 (.cells #[.int .i64 c0.head.kind,.int .i64 c0.head.n,.string c0.head.name,kv,.slice (some ⟨b1,o1,none⟩) c0.body.length cap1] aR)] SN w_,⟨ae,ae,ae,ae,ae,ae,ae,ae,ae,ae,ae,ae,ae,ae,ae,ae,⟨S',Ext.refl _ _ _,ae,ae,ae,ae,ae,ae,hI.draw⟩⟩,⟨?_,?_,?_,?_,?_,?_,?_,?_,?_,?_,?_,?_,?_,?_,?_,?_,trivial⟩,?_⟩
    ·intro D aY  eE eD bV bW d4 db du dv dw dx dy gM eI eo eJ dZ w_
     rintro ⟨az,ay,aA,aB,aw,aD,aE,aI,aL,aP,aj,ao,aH,aM,aO,aN,⟨SN,hN,e10,e11,e12,e13,e14,e15,hI⟩⟩
     refine bg bp ?_
     exact ⟨fun _=>rfl,ay,aA,aB,aw,aD,aE,aI,aL,aP,aj,ao,aH,aM,aO,aN,⟨SN,hN,e10,e11,e12,e13,e14,e15,hI⟩⟩
    ·intro D aY ce eE eD bV bW d4 db du dv dw dx dy gM eI eo eJ dZ w_
     rintro ⟨az,ay,aA,aB,aw,aD,aE,aI,aL,aP,aj,ao,aH,aM,aO,aN,⟨SN,hN,e10,e11,e12,e13,e14,e15,hI⟩⟩
     obtain rfl:=az ce
     refine bE hI 0 aQ rfl rfl ?_
     exact ⟨az,fun _=>rfl,aA,aB,aw,aD,aE,aI,aL,aP,aj,ao,aH,aM,aO,aN,⟨SN,hN,e10,e11,e12,e13,e14,e15,hI⟩⟩
    ·intro D aY  eE eD bV bW d4 db du dv dw dx dy gM eI eo eJ dZ w_
     rintro ⟨az,ay,aA,aB,aw,aD,aE,aI,aL,aP,aj,ao,aH,aM,aO,aN,⟨SN,hN,e10,e11,e12,e13,e14,e15,hI⟩⟩
     exact ⟨az,ay,fun _=>rfl,aB,aw,aD,aE,aI,aL,aP,aj,ao,aH,aM,aO,aN,⟨SN,hN,e10,e11,e12,e13,e14,e15,hI⟩⟩
    ·intro D aY dI gJ eE eD bV bW d4 db du dv dw dx dy gM eI eo eJ dZ w_
     rintro ⟨az,ay,aA,aB,aw,aD,aE,aI,aL,aP,aj,ao,aH,aM,aO,aN,⟨SN,hN,e10,e11,e12,e13,e14,e15,hI⟩⟩
     obtain rfl:=ay dI
     obtain rfl:=aA gJ
     refine bh av hib ?_
     exact ⟨az,ay,aA,fun _=>rfl,aw,aD,aE,aI,aL,aP,aj,ao,aH,aM,aO,aN,⟨SN,hN,e10,e11,e12,e13,e14,e15,hI⟩⟩
    ·intro D aY dF eE eD bV bW d4 db du dv dw dx dy gM eI eo eJ dZ w_
     rintro ⟨az,ay,aA,aB,aw,aD,aE,aI,aL,aP,aj,ao,aH,aM,aO,aN,⟨SN,hN,e10,e11,e12,e13,e14,e15,hI⟩⟩
     obtain rfl:=aB dF
     refine cJ al hR1.length (fun j v hj=>by rw [hI.cellS (hN.1 _ _ hS1)]; exact bl rfl j v hj) ?_
     exact ⟨az,ay,aA,aB,fun _=>rfl,aD,aE,aI,aL,aP,aj,ao,aH,aM,aO,aN,⟨SN,hN,e10,e11,e12,e13,e14,e15,hI⟩⟩
    ·intro D aY  eE eD bV bW d4 db du dv dw dx dy gM eI eo eJ dZ w_
     rintro ⟨az,ay,aA,aB,aw,aD,aE,aI,aL,aP,aj,ao,aH,aM,aO,aN,⟨SN,hN,e10,e11,e12,e13,e14,e15,hI⟩⟩
     exact ⟨az,ay,aA,aB,aw,fun _=>rfl,aE,aI,aL,aP,aj,ao,aH,aM,aO,aN,⟨SN,hN,e10,e11,e12,e13,e14,e15,hI⟩⟩
    ·intro D aY  eE eD bV bW d4 db du dv dw dx dy gM eI eo eJ dZ w_
     rintro ⟨az,ay,aA,aB,aw,aD,aE,aI,aL,aP,aj,ao,aH,aM,aO,aN,⟨SN,hN,e10,e11,e12,e13,e14,e15,hI⟩⟩
     exact ⟨az,ay,aA,aB,aw,aD,fun _=>rfl,aI,aL,aP,aj,ao,aH,aM,aO,aN,⟨SN,hN,e10,e11,e12,e13,e14,e15,hI⟩⟩
    ·intro D aY dV gg eE eD bV bW d4 db du dv dw dx dy gM eI eo eJ dZ w_
     rintro ⟨az,ay,aA,aB,aw,aD,aE,aI,aL,aP,aj,ao,aH,aM,aO,aN,⟨SN,hN,e10,e11,e12,e13,e14,e15,hI⟩⟩
     obtain rfl:=aD dV
     obtain rfl:=aE gg
     refine bh av hk' ?_
     exact ⟨az,ay,aA,aB,aw,aD,aE,fun _=>rfl,aL,aP,aj,ao,aH,aM,aO,aN,⟨SN,hN,e10,e11,e12,e13,e14,e15,hI⟩⟩
    ·intro D aY el eE eD bV bW d4 db du dv dw dx dy gM eI eo eJ dZ w_
     rintro ⟨az,ay,aA,aB,aw,aD,aE,aI,aL,aP,aj,ao,aH,aM,aO,aN,⟨SN,hN,e10,e11,e12,e13,e14,e15,hI⟩⟩
     obtain rfl:=aI el
     refine cJ al hR2.length (fun j v hj=>by rw [hI.cellS (hN.1 _ _ hS2)]; exact bl rfl j v hj) ?_
     exact ⟨az,ay,aA,aB,aw,aD,aE,aI,fun _=>rfl,aP,aj,ao,aH,aM,aO,aN,⟨SN,hN,e10,e11,e12,e13,e14,e15,hI⟩⟩
    ·intro D aY  eE eD bV bW d4 db du dv dw dx dy gM eI eo eJ dZ w_
     rintro ⟨az,ay,aA,aB,aw,aD,aE,aI,aL,aP,aj,ao,aH,aM,aO,aN,⟨SN,hN,e10,e11,e12,e13,e14,e15,hI⟩⟩
     exact ⟨az,ay,aA,aB,aw,aD,aE,aI,aL,fun _=>rfl,aj,ao,aH,aM,aO,aN,⟨SN,hN,e10,e11,e12,e13,e14,e15,hI⟩⟩
    ·intro D aY cK gh LG eE eD bV bW d4 db du dv dw dx dy gM eI eo eJ dZ w_
     rintro ⟨az,ay,aA,aB,aw,aD,aE,aI,aL,aP,aj,ao,aH,aM,aO,aN,⟨SN,hN,e10,e11,e12,e13,e14,e15,hI⟩⟩
     obtain rfl:=aw cK
     obtain rfl:=aL gh
     obtain rfl:=aP LG
     refine Run.call0E CX CR hI (AB (hR1.mono hN.1) (hR2.mono hN.1) hg.ok.1 hfk.ok.2.1 hst.ok.1 hkp hkm (hN.1 _ _ (hE.1 _ _ hS)) ((hkc.mono hE.1).mono hN.1)) fun v' I' SN w_=>?_
     rw [<- hr]
     rintro ⟨rfl,kb',kp',kc',rfl,hk1,hk2,hk3,hk4⟩ hE3 hI
     have e10:=fun (_:aC D 10 10=true)=>(⟨kb',kp',kc',rfl,hk1,hk2,hk3,hk4⟩:IsM SN (.tuple #[kvn kb' kp',.bool r.1]) r)
     have e11:=fun (e:aC D 10 11=true)=>(e11 e).mono hE3.1
     have e12:=fun (e:aC D 10 12=true)=>(e12 e).mono hE3.1
     have e14:=fun (e:aC D 10 14=true)=>(e14 e).mono hE3.1
     have hN:=hN.trans hE3
     exact ⟨az,ay,aA,aB,aw,aD,aE,aI,aL,aP,fun _=>by first|assumption|trivial,ao,aH,aM,aO,aN,⟨SN,hN,e10,e11,e12,e13,e14,e15,hI⟩⟩
    ·intro D aY gH eE eD bV bW d4 db du dv dw dx dy gM eI eo eJ dZ w_
     rintro ⟨az,ay,aA,aB,aw,aD,aE,aI,aL,aP,aj,ao,aH,aM,aO,aN,⟨SN,hN,e10,e11,e12,e13,e14,e15,hI⟩⟩
     have QW:=aj gH
     have e11:=fun (_:aC D 11 11=true)=>e10 gH
     exact ⟨az,ay,aA,aB,aw,aD,aE,aI,aL,aP,aj,fun _=>by first|assumption|trivial,aH,aM,aO,aN,⟨SN,hN,e10,e11,e12,e13,e14,e15,hI⟩⟩
    ·intro D aY hZ eE eD bV bW d4 db du dv dw dx dy gM eI eo eJ dZ w_
     rintro ⟨az,ay,aA,aB,aw,aD,aE,aI,aL,aP,aj,ao,aH,aM,aO,aN,⟨SN,hN,e10,e11,e12,e13,e14,e15,hI⟩⟩
     have P7:=ao hZ
     obtain ⟨u,rfl,hu⟩:=(e11 hZ).parts
     refine a7 rfl ?_
     have e12:=fun (_:aC D 12 12=true)=>hu
     exact ⟨az,ay,aA,aB,aw,aD,aE,aI,aL,aP,aj,ao,fun _=>by first|assumption|trivial,aM,aO,aN,⟨SN,hN,e10,e11,e12,e13,e14,e15,hI⟩⟩
    ·intro D aY hZ eE eD bV bW d4 db du dv dw dx dy gM eI eo eJ dZ w_
     rintro ⟨az,ay,aA,aB,aw,aD,aE,aI,aL,aP,aj,ao,aH,aM,aO,aN,⟨SN,hN,e10,e11,e12,e13,e14,e15,hI⟩⟩
     have P7:=ao hZ
     obtain ⟨u,rfl,hu⟩:=(e11 hZ).parts
     refine a7 rfl ?_
     have e13:=fun (_:aC D 13 13=true)=>(rfl:Value.bool r.1=.bool r.1)
     exact ⟨az,ay,aA,aB,aw,aD,aE,aI,aL,aP,aj,ao,aH,fun _=>by first|assumption|trivial,aO,aN,⟨SN,hN,e10,e11,e12,e13,e14,e15,hI⟩⟩
    ·intro D aY lp mQ qK wn wF wJ vh Bl AA FC Dd Dm vQ z2 zZ eE eD bV bW d4 db du dv dw dx dy gM eI eo eJ dZ w_
     rintro ⟨az,ay,aA,aB,aw,aD,aE,aI,aL,aP,aj,ao,aH,aM,aO,aN,⟨SN,hN,e10,e11,e12,e13,e14,e15,hI⟩⟩
     have QR:=aH lp
     have e14:=fun (_:aC D 14 14=true)=>e12 lp
     exact ⟨az,ay,aA,aB,aw,aD,aE,aI,aL,aP,aj,ao,aH,aM,fun _=>by first|assumption|trivial,aN,⟨SN,hN,e10,e11,e12,e13,e14,e15,hI⟩⟩
    ·intro D aY iq xC qK wn wF wJ vh Bl AA FC Dd Dm vQ z2 zZ D9 EP eE eD bV bW d4 db du dv dw dx dy gM eI eo eJ dZ w_
     rintro ⟨az,ay,aA,aB,aw,aD,aE,aI,aL,aP,aj,ao,aH,aM,aO,aN,⟨SN,hN,e10,e11,e12,e13,e14,e15,hI⟩⟩
     have Ql:=aM iq
     have e15:=fun (_:aC D 15 15=true)=>e13 iq
     exact ⟨az,ay,aA,aB,aw,aD,aE,aI,aL,aP,aj,ao,aH,aM,aO,fun _=>by first|assumption|trivial,⟨SN,hN,e10,e11,e12,e13,e14,e15,hI⟩⟩
    intro D nZ n4 oG jh ft fm iW gN f0 f1 fM fF fI fK fL fN eE eD bV bW d4 db du dv dw dx dy gM eI eo eJ dZ w_
    rintro ⟨az,ay,aA,aB,aw,aD,aE,aI,aL,aP,aj,ao,aH,aM,aO,aN,⟨SN,hN,e10,e11,e12,e13,e14,e15,hI⟩⟩
    have RC:=aN nZ
    have Rx:=aO n4
    have Ql:=aM oG
    have QR:=aH jh
    have P7:=ao ft
    have QW:=aj fm
    obtain rfl:=aP iW
    obtain rfl:=aL gN
    obtain rfl:=aI f0
    obtain rfl:=aE f1
    obtain rfl:=aD fM
    obtain rfl:=aw fF
    obtain rfl:=aB fI
    obtain rfl:=aA fK
    obtain rfl:=ay fL
    obtain rfl:=az fN
    clear az ay aA aB aw aD aE aI aL aP aj ao aH aM aO aN
    have hx12:=e14 n4
    have hx13:=e15 nZ
    subst hx13
    have hE3:=hE.trans hN
    clear e10 e11 e12 e13 e14 e15
    refine ba (fun hb=>?_) (fun hb=>?_)
    ·have hFo:F o facts[k]=jq c0.head facts gs o r.2:=by rw [hF2,<- hr,if_pos hb]
     rw [hFo]
     refine bb hI 0 bF rfl rfl ?_
     refine bP (by omega) ?_
     have hst2:StF r.2:=by rw [hr]; exact (kJ hg hfk hst).1
     have hc2:jl c0.head gs r.2:=by rw [hr]; exact lf hc hg hfk hst (by rw [<- hr]; exact hb)
     refine Run.call0E ug td hI (ih (i+1) (by omega) hge.2 SN _ t0 _ _ o r.2 (h0.mono hE3.1) (hv'.monoT hN.1) (hf.monoT hE3.1) hx12 hst2 hc2 hoo hno) fun v' I' S2 w'=>?_
     rintro ⟨rfl,hr2⟩ hE4 hI
     exact ⟨S2,hE3.trans hE4,hr2,hI.pick [true]⟩
    ·have hFo:F o facts[k]=o:=by rw [hF2,<- hr,if_neg (by rw [hb]; decide)]
     rw [hFo]
     exact ⟨SN,hE3,hv'.monoT hN.1,hI⟩
   intro t0' _ _ _ _ _ _ _ _ _ _ _ _ _ _ _ _ _ _ _ _ _ _ _ _ w'
   rintro ⟨S2,hE2,hv2,hI⟩
   refine bP (by omega) ?_
   have hFo:=hF2 o facts[k]
   refine ⟨⟨k+1,_,S2,hk',rfl,hrel,?_,?_,hE2,hv2,hI⟩,by simp [intOf]; omega⟩
   ·rw [hFo]; exact hso.1
   ·rw [hFo]; exact hso.2
  ·have:k=facts.length:=by omega
   subst this
   rw [List.drop_length,List.foldl_nil] at hrel
   rw [<- hrel]
   exact ⟨_,_,_,rfl,hI.pick [false],hE,rfl,hv'⟩
end

end Go.Proofs.YtemmhhdnlbmicaaGreat

/- spec.ModelClosed. -/
namespace Go.Proofs.YtemmhhdnlbmicaaGreat
open Go Go.RowKit
theorem Dr {t:T} {d:Int} (h:eO t d=true):eC t=true/\eF t.kids (d - 1)=true:=by
 cases t
 rw [eO] at h
 split at h
 ·cases h
 ·rw [Bool.and_eq_true] at h
  exact h
theorem AJ:∀ {ts:List T} {d:Int},eF ts d=true->∀ t∈ts,eO t d=true
 | [],_,_,t,ht=>by cases ht
 | x::ts,d,h,t,ht=>by
  rw [eF,Bool.and_eq_true] at h
  rcases List.mem_cons.1 ht with rfl|ht
  ·exact h.1
  ·exact AJ h.2 t ht
theorem El {t:T} (hv:eA t=true) (hf:ew t=true):Gl t:=by
 rw [ew,Bool.and_eq_true,List.all_eq_true] at hf
 obtain ⟨hk,hp⟩:=hf
 rw [ef,Bool.and_eq_true,decide_eq_true_eq] at hp
 obtain ⟨h1,h2⟩:=Dr (p6 hv)
 refine ⟨hp.1,h1,fun y hy=>⟨(Dr (AJ h2 y hy)).1,?_⟩⟩
 have:=hk y hy
 rw [iJ,decide_eq_true_eq] at this
 exact List.eq_nil_of_length_eq_zero this
theorem Nj {l:List Int} {n m:Int} (h:m∈kR l n):m∈l ∨ m=n:=by
 unfold kR at h
 split at h
 ·exact .inl h
 ·simpa using h
theorem Dv (t:T) (l:List Int):gq t l=eT t.kids (if t.kind=1 then kR l t.n else l):=by cases t; rw [gq]; rfl
theorem BH:∀ (ks:List T) (l:List Int),(∀ y∈ks,y.kids=[])->∀ n,n∈eT ks l↔n∈l ∨ ∃ z∈ks,z.kind=1/\z.n=n
 | [],l,_,n=>by simp [eT]
 | k::ks,l,hk,n=>by
  rw [eT,BH ks _ (fun y hy=>hk y (List.mem_cons_of_mem _ hy)),Dv,hk k (List.mem_cons_self ..),eT]
  have hsrc:(n∈if k.kind=1 then kR l k.n else l)↔n∈l ∨ (k.kind=1/\k.n=n):=by
   split
   ·rename_i h
    constructor
    ·intro hm
     rcases Nj hm with h1|h1
     ·exact .inl h1
     ·exact .inr ⟨h,h1.symm⟩
    ·rintro (h1|⟨_,rfl⟩)
     ·exact (show ∀ m∈l,m∈kR l k.n from fun m hm=>by unfold kR; split; exact hm; simp [hm]) n h1
     ·unfold kR
      split
      ·rename_i h2
       simpa [jg] using h2
      ·simp
   ·rename_i h
    exact ⟨.inl,fun h1=>h1.elim id fun h2=>absurd h2.1 h⟩
  rw [hsrc]
  constructor
  ·rintro ((h|⟨h1,h2⟩)|⟨z,hz,h⟩)
   ·exact .inl h
   ·exact .inr ⟨k,List.mem_cons_self ..,h1,h2⟩
   ·exact .inr ⟨z,List.mem_cons_of_mem _ hz,h⟩
  ·rintro (h|⟨z,hz,h⟩)
   ·exact .inl (.inl h)
   ·rcases List.mem_cons.1 hz with rfl|hz
    ·exact .inl (.inr h)
    ·exact .inr ⟨z,hz,h⟩
theorem u5 {g:T} (h:Gl g) (l:List Int) (n:Int):n∈gq g l↔n∈l ∨ ∃ z∈g.kids,z.kind=1/\z.n=n:=by
 rw [Dv,if_neg (by have:=h.1; omega)]
 exact BH g.kids l (fun y hy=>(h.2.2 y hy).2) n
theorem Hp:∀ (gs:List T) (l:List Int),(∀ g∈gs,Gl g)->∀ n,n∈eT gs l->n∈l ∨ ∃ g∈gs,∃ z∈g.kids,z.kind=1/\z.n=n
 | [],l,_,n,h=>.inl h
 | g::gs,l,hg,n,h=>by
  rw [eT] at h
  rcases Hp gs _ (fun x hx=>hg x (List.mem_cons_of_mem _ hx)) n h with h|⟨x,hx,h⟩
  ·rcases (u5 (hg g (List.mem_cons_self ..)) l n).1 h with h|h
   ·exact .inl h
   ·exact .inr ⟨g,List.mem_cons_self ..,h⟩
  ·exact .inr ⟨x,List.mem_cons_of_mem _ hx,h⟩
theorem IV {c:C} (hv:dJ c=true) (hf:gv c=true):Gl c.head/\(∀ g∈c.body,Gl g)/\jl c.head c.body st0:=by
 rw [dJ] at hv
 simp only [Bool.and_eq_true,List.all_eq_true] at hv
 rw [gv] at hf
 simp only [Bool.and_eq_true,List.all_eq_true] at hf
 have hb:∀ g∈c.body,Gl g:=fun g hg=>by
  have h1:=hv.2.1 g hg
  rw [ir,Bool.and_eq_true] at h1
  exact El h1.1 (hf.2.2.1 g hg)
 have hh:=El hv.2.2.1 hf.1
 refine ⟨hh,hb,fun y hy hk=>?_⟩
 right
 have h1:=hf.2.2.2 y.n ((u5 hh [] y.n).2 (.inr ⟨y,hy,hk,rfl⟩))
 have h2:y.n∈eT c.body []:=by simpa [jg] using h1
 rcases Hp c.body [] hb y.n h2 with h|h
 ·cases h
 ·exact h
theorem wX {p:List C} (h:ei p=true):∀ c∈p,Gl c.head/\(∀ g∈c.body,Gl g)/\jl c.head c.body st0:=by
 intro c hc
 rw [ei,Bool.and_eq_true,List.all_eq_true] at h
 have h1:=h.1
 rw [nq] at h1
 simp only [Bool.and_eq_true,List.all_eq_true] at h1
 exact IV (h1.2 c hc) (h.2 c hc)
/- facts -/
def rA (t:T):Bool:=eA t && (ew t && decide ((gq t []).length=0))
theorem MS {t:T} (h:rA t=true):Fct t:=by
 rw [rA] at h
 simp only [Bool.and_eq_true,decide_eq_true_eq] at h
 have hg:=El h.1 h.2.1
 refine ⟨hg.1,hg.2.1,fun y hy=>⟨(hg.2.2 y hy).1,(hg.2.2 y hy).2,fun hk=>?_⟩⟩
 have h1:=(u5 hg [] y.n).2 (.inr ⟨y,hy,hk,rfl⟩)
 rw [List.eq_nil_of_length_eq_zero h.2.2] at h1
 cases h1
def sj (l:List T):Bool:=l.all rA && decide (l.length<=60)
theorem Ix {l:List T} (h:sj l=true):(∀ f∈l,Fct f)/\l.length<=60:=by
 rw [sj,Bool.and_eq_true,List.all_eq_true,decide_eq_true_eq] at h
 exact ⟨fun f hf=>MS (h.1 f hf),h.2⟩
def lx (facts:List T) (c:C):Bool:=(fc c.head facts c.body st0).all (HD facts)
def sm (p:List C) (facts:List T):Bool:=ei p && (sj facts && p.all (lx facts))
section
attribute [local irreducible] Run CondV ag be
end

end Go.Proofs.YtemmhhdnlbmicaaGreat

/- impl.follows, with a function that is told the facts. -/
namespace Go.Proofs.YtemmhhdnlbmicaaGreat
open Go Go.RowKit
theorem MJ {g:T} {st:bq} (h:Gl g):Bu (sw st) g=qM g st:=by
 obtain ⟨k,n,s,ks⟩:=g
 obtain ⟨h1,h2,h3⟩:=h
 have hk:k=3:=h1
 have hn:n=0:=by
  rcases s0 h2 with h|h
  ·have:=h.1
   simp only [T.kind] at this
   omega
  ·exact h.2
 rw [Bu,if_neg (by omega),qM,l7,hn]
 congr 1
 refine List.map_congr_left fun y hy=>?_
 obtain ⟨_,hyk⟩:=h3 y hy
 obtain ⟨k',n',s',ks'⟩:=y
 simp only [T.kids] at hyk
 subst hyk
 rw [Bu,iV]
 split
 ·rename_i hk'
  rw [if_pos (show (T.mk k' n' s' []).kind=1 from hk')]; rfl
 ·rename_i hk'
  rw [if_neg (show ¬ (T.mk k' n' s' []).kind=1 from hk'),wY]
theorem KnownM.mono {S S':aF} {es:Array MapEntry} {st:bq} (h:KnownM S es st) (hs:Sle S S'):KnownM S' es st:=
 ⟨fun e he=>by
  obtain ⟨n,t,cs,h1,h2,h3,h4⟩:=h.1 e he
  exact ⟨n,t,cs,h1,h2,h3.mono hs,h4⟩,h.2⟩
/- a function that is told facts and keeps a state; 'can s n': n more facts can be told -/
structure Tell (f:FuncId) (fn:Func) (cap:List Value) {σ:Type} (It:σ->aF->List Item->Prop) (can:σ->Nat->Prop) (step:σ->T->σ) (S0:aF):Prop where
 hf:Tryz.prog.funcs[f]?=some fn
 hn:(fn.name == "runtime.NumGoroutine" || fn.body.isNone)=false
 up:∀ (s:σ) (S S':aF) (I:List Item),Sle S S'->It s S I->It s S' I
 down:∀ (s:σ) (x:T) (n:Nat),Fct x->can s (n+1)->can (step s x) n
 call:∀ (S:aF) (s:σ) (x:T) (cs:List Value) (I:List Item) (n:Nat),Sle S0 S->Fct x->RdT S cs x->It s S I->can s (n+1)->Tri Tryz.prog f (.agg cs.toArray::cap) I S fun r I' S'=>r=.tuple #[]/\It (step s x) S' I'
theorem Tell.mono {f:FuncId} {fn:Func} {cap:List Value} {σ:Type} {It:σ->aF->List Item->Prop} {can:σ->Nat->Prop} {step:σ->T->σ} {S0 S1:aF} (h:Tell f fn cap It can step S0) (hs:Sle S0 S1):Tell f fn cap It can step S1:=
 ⟨h.hf,h.hn,h.up,h.down,fun S s x cs I n h1=>h.call S s x cs I n (hs.trans h1)⟩
section
attribute [local irreducible] Run CondV ag be
theorem BS {S:aF} {gb mb ck:Nat} {E:TypeId} {es:Array MapEntry} {st:bq} (hg:S gb=some (.cells #[.map (some mb)] E)) (hm:S mb=some (.map es ck)) (hk:KnownM S es st):Fun BU [.pointer (some ⟨gb,0,none⟩)] S (sw st):=by
 intro S' hs n hn0 hn25
 obtain ⟨m,rfl⟩:∃ m:Nat,n=m:=⟨n.toNat,by omega⟩
 have hk':=hk.mono hs
 have hfind:∃ v cs,v=.agg (List.toArray cs)/\RdT S' cs (sw st m)/\((∃ j,Instr.findNow (.int .i64) (.int .i64 m) es.toList 0=some (some (j,v))) ∨ (Instr.findNow (.int .i64) (.int .i64 m) es.toList 0=some none/\v=.agg #[.int .i64 0,.int .i64 0,.string ⟨#[]⟩,.slice none 0 0])):=by
  rcases hk'.find m with ⟨j,v,t,cs,hf,hv,hR,hs⟩|⟨hno,hf⟩
  ·refine ⟨v,cs,hv,?_,.inl ⟨j,hf⟩⟩
   rw [sw,Int.toNat_natCast,hs]
   exact hR
  ·refine ⟨_,qb,rfl,?_,.inr ⟨hf,rfl⟩⟩
   have e:sw st m=uG:=by
    rw [sw,Int.toNat_natCast]
    split
    ·rename_i t h
     exact absurd h (hno t)
    ·rfl
   rw [e]
   exact RdT.zero S'
 obtain ⟨v,cs,rfl,hR,hf⟩:=hfind
 refine ⟨cs,hR,fun w hI=>?_⟩
 refine tt ?_
 unfold oR
 refine bH hI bN fun b3 w' hI=>?_
 refine dM (by decide +kernel) (by rw [hI.cellS (hs _ _ hg)]; rfl) ?_
 refine ML hI (kt:=fx) (et:=ac) (by kernel_rfl) (by kernel_rfl) (z:=.agg #[.int .i64 0,.int .i64 0,.string ⟨#[]⟩,.slice none 0 0]) (by kernel_rfl) (hs _ _ hm) hf ?_
 refine bf hI 0 rfl al (by simpa using hR.length) rfl (by simpa using hR.one) fun w' hI=>?_
 refine cH hI 0 al rfl (by simpa using hR.length) ?_
 exact done hI rfl
theorem rb {f:FuncId} {fn:Func} {cap:List Value} {σ:Type} {It:σ->aF->List Item->Prop} {can:σ->Nat->Prop} {step:σ->T->σ} (c0:C) (facts:List T) (hh:Gl c0.head) (hfs:∀ f∈facts,Fct f) (hbs:∀ g∈c0.body,Gl g) :
  ∀ (gs:List T) (i:Nat),i+gs.length=c0.body.length->c0.body.drop i=gs->
  ∀ (S:aF) (cs:List Value) (fsv:Value) (mb ck:Nat) (es:Array MapEntry) (s:σ) (I:List Item) (st:bq) (m:Nat),Tell f fn cap It can step S->RdC S cs c0->RdSl S 4 (RdT S) fsv facts->S mb=some (.map es ck)->KnownM S es st->StF st->jl c0.head gs st->It s S I->can s ((fc c0.head facts gs st).length+m)->
  Tri Tryz.prog HM [.agg cs.toArray,.int .i64 i,fsv,.map (some mb),fv f cap] I S fun r I' S'=>r=.tuple #[]/\It ((fc c0.head facts gs st).foldl step s) S' I'/\can ((fc c0.head facts gs st).foldl step s) m:=by
 intro gs
 induction gs with
 | nil=>
  intro i hi hdr S cs fsv mb ck es s I st m ht h hf hm hk hst hc hIt hcan w hI
  have hcan:can s (m+1):=by rw [fc,List.length_singleton,Nat.add_comm] at hcan; exact hcan
  obtain ⟨hd,ks,rfl,h1,h2⟩:=h
  have h1':=h1
  obtain ⟨kv,rfl,g1,g2,g3,g4⟩:=RdT.iff.1 h1
  simp only [List.length_nil,Nat.add_zero] at hi
  refine nE ?_
  unfold mV
  refine bO hI fun b5 w' hI=>?_
  obtain ⟨S1,hI,hE1,hb5⟩:=hI.pub1
  refine bO hI fun b8 w' hI=>?_
  obtain ⟨S2,hI,hE2,hb8⟩:=hI.pub1
  have hE:=hE1.trans hE2
  have hb5:=hE2.1 _ _ hb5
  refine bg bp ?_
  refine dM aQ (by rw [hI.cellS hb5]; rfl) ?_
  refine a9 (h2.monoT hE.1) av ?_
  refine bR ?_
  refine bk (fun _=>?_) (fun hb=>absurd (by omega) hb)
  refine bg dh ?_
  refine cJ (cs:=[.int .i64 c0.head.kind,.int .i64 c0.head.n,.string c0.head.name,kv]) al rfl (fun j v hj=>by rw [hI.cellS hb5]; exact NC j v hj) ?_
  refine g7 ?_
  have hok:=hh.ok
  refine Run.callE (A:=I) (I:=[]) tD ta (by simpa using hI) (Js [.pointer (some ⟨b8,0,none⟩)] (sw st) BG Bf _ S2 _ (h1'.mono hE.1) hok.1 (by omega) (BS hb8 (hE.1 _ _ hm) (hk.mono hE.1))) fun v' I' S3 w'=>?_
  rintro ⟨rfl,cs1,rfl,hR⟩ hE3 hI
  rw [MJ hh] at hR
  have hct:=AY hh hst (fun y hy hk=>by
   rcases hc y hy hk with h|⟨g,hg,_⟩
   ·exact h
   ·cases hg)
  have hI:Inv w (bY I) ([]++I) S3 w':=by simpa using hI
  refine Run.callVE (A:=[]) ht.hf ht.hn hI (ht.call S3 s _ cs1 I m (hE.1.trans hE3.1) hct hR (ht.up _ _ _ _ (hE.1.trans hE3.1) hIt) hcan) fun v' I' S4 w'=>?_
  rintro ⟨rfl,hIt'⟩ hE4 hI
  exact ⟨_,_,_,rfl,hI,(hE.trans hE3).trans hE4,rfl,hIt',ht.down _ _ _ hct hcan⟩
 | cons g gs ih=>
  intro i hi hdr S cs fsv mb ck es s I st m ht h hf hm hk hst hc hIt hcan w hI
  have h0:=h
  obtain ⟨hd,ks,rfl,h1,h2⟩:=h
  obtain ⟨kv,rfl,g1,g2,g3,g4⟩:=RdT.iff.1 h1
  simp only [List.length_cons] at hi
  have hib:i<c0.body.length:=by omega
  have hlen2:=h2.le
  have hlenf:=hf.le
  simp only [maxLen] at hlen2 hlenf
  have hge:c0.body[i]=g/\c0.body.drop (i+1)=gs:=by
   rw [List.drop_eq_getElem_cons hib,List.cons.injEq] at hdr
   exact hdr
  have hg:Gl g:=by rw [<- hge.1]; exact hbs _ (List.getElem_mem hib)
  have hgs:∀ x∈gs,Gl x:=fun x hx=>hbs x (by rw [<- hge.2] at hx; exact List.mem_of_mem_drop hx)
  obtain ⟨b1,o1,cap1,c1,E1,fz1,rfl,hS1,hR1⟩:=h2.at_ hib
  rw [hge.1] at hR1
  obtain ⟨X,hX⟩:∃ X,X=bY I:=⟨_,rfl⟩
  rw [<- hX] at hI ⊢
  refine nE ?_
  unfold mV
  refine bO hI fun b5 w' hI=>?_
  obtain ⟨S1,hI,hE1,hb5⟩:=hI.pub1
  refine bO hI fun b8 w' hI=>?_
  obtain ⟨S2,hI,hE2,hb8⟩:=hI.pub1
  have hE:=hE1.trans hE2
  have hb5:=hE2.1 _ _ hb5
  have hb8:S2 b8=some (.cells #[.map (some mb)] _):=hb8
  refine bg bp ?_
  refine dM aQ (by rw [hI.cellS hb5]; rfl) ?_
  refine a9 (h2.monoT hE.1) av ?_
  refine bR ?_
  refine bk (fun hb=>by omega) (fun _=>?_)
  refine a9 (hf.monoT hE.1) av ?_
  rw [fc] at hcan ⊢
  generalize hF:(fun f:T=>if (bK g f st).1=true then fc c0.head facts gs (bK g f st).2 else [])=F at hcan ⊢
  have hF2:∀ f,F f=if (bK g f st).1=true then fc c0.head facts gs (bK g f st).2 else []:=fun f=>by rw [<- hF]
  refine ⟨fun j w'=>∃ (k:Nat) (s':σ) (I':List Item) (S':aF),k<=facts.length/\j=.int .i64 k/\((facts.drop k).flatMap F).foldl step s'=(facts.flatMap F).foldl step s/\can s' (((facts.drop k).flatMap F).length+m)/\It s' S' I'/\Ext w.heap.size X S S'/\Sle S2 S'/\Inv w X I' S' w',
   fun j _=>facts.length - (intOf j).toNat,⟨0,s,I,S2,Nat.zero_le _,rfl,rfl,hcan,ht.up _ _ _ _ hE.1 hIt,hE,Sle.refl _,hI⟩,?_⟩
  intro t26 _ _ _ _ _ _ _ _ _ _ _ _ _ _ _ _ _ _ _ _ _ _ _ w'
  rintro ⟨k,s',I',S',hkl,rfl,hrel,hcan',hIt',hE',hle,hI⟩
  refine bU ?_
  refine bk (fun hki=>?_) (fun hki=>?_)
  ·have hk':k<facts.length:=by omega
   rw [List.drop_eq_getElem_cons hk',List.flatMap_cons,List.foldl_append] at hrel
   rw [List.drop_eq_getElem_cons hk',List.flatMap_cons,List.length_append,Nat.add_assoc] at hcan'
   have hfk:=hfs _ (List.getElem_mem hk')
   refine ⟨fun w'=>∃ (I2:List Item) (S2:aF),It ((F facts[k]).foldl step s') S2 I2/\can ((F facts[k]).foldl step s') (((facts.drop (k+1)).flatMap F).length+m)/\Ext w.heap.size X S' S2/\Inv w X I2 S2 w',?_,?_⟩
   ·refine ec hI (hf.monoT hE'.1) av al hk' (fun _ _=>RdT.length) fun ds hds=>?_
    refine bH hI bN fun b11 w' hI=>?_
    have hI:=hI.perm (M:=.blk b11 _::I') (List.perm_append_comm (l₁:=[_]))
    refine bf hI 0 rfl al (by simpa using hds.length) rfl (by simpa using hds.one) fun w' hI=>?_
    have hI:=hI.perm (M:=I'++[.blk b11 (.cells ds.toArray ac)]) (List.perm_append_comm (l₂:=[_]))
    obtain ⟨S3,hI,hE3,hb11⟩:=hI.pub1
    refine dM (by decide +kernel) (by rw [hI.cellS (hE3.1 _ _ (hle _ _ hb8))]; rfl) ?_
    refine Run.callE (A:=I') (I:=[]) wc vE (by simpa using hI) (Eg (hE3.1 _ _ (hE'.1 _ _ hm))) fun v' J' S4 w'=>?_
    rintro ⟨e4,nb,rfl,rfl⟩ _ hI
    rw [e4] at hI
    clear e4
    have hk3:=(hk.mono hE'.1).mono hE3.1
    have hds3:=hds.mono hE3.1
    have hS1':=hE3.1 _ _ (hE'.1 _ _ hS1)
    have hR1':=(hR1.mono hE'.1).mono hE3.1
    obtain ⟨r,hr⟩:∃ r,r=bK g facts[k] st:=⟨_,rfl⟩
    have hb5':=hE3.1 _ _ (hle _ _ hb5)
    refine ⟨fun D eI eo eJ dZ d4 ii ex eR w_=>(D 0=true->eR=.agg ds.toArray)/\(D 1=true->ex=.pointer (some ⟨b5,4,none⟩))/\(D 2=true->ii=.slice (some ⟨b1,o1,none⟩) c0.body.length cap1)/\(D 3=true->d4=.int .i64 i)/\(D 4=true->dZ=.pointer (some ⟨b1,o1+i * 4,none⟩))/\(D 5=true->eJ=.agg (bv c1 (o1+i * 4) 4).toArray)/\(D 6=true->eo=.map (some nb))/\(D 7=true->eI=.bool r.1)/\∃ es' ck',(D 7=false->KnownM S3 es' st)/\(D 7=true->KnownM S3 es' r.2)/\Inv w X (I'++[.blk nb (.map es' ck')]) S3 w_,⟨ae,ae,ae,ae,ae,ae,ae,ae,⟨es,ck,fun _=>hk3,ae,hI.draw⟩⟩,⟨?_,?_,?_,?_,?_,?_,?_,?_,trivial⟩,?_⟩
    ·intro D aY  eI eo eJ dZ d4 ii ex eR w_
     rintro ⟨az,ay,aA,aB,aw,aD,aE,aI,⟨es',ck',kf,kt,hI⟩⟩
     refine cJ (cs:=ds) al hds.length (fun j v hj=>by rw [hI.cellS hb11,Nat.zero_add]; simpa using hj) ?_
     exact ⟨fun _=>rfl,ay,aA,aB,aw,aD,aE,aI,⟨es',ck',kf,kt,hI⟩⟩
    ·intro D aY  eI eo eJ dZ d4 ii ex eR w_
     rintro ⟨az,ay,aA,aB,aw,aD,aE,aI,⟨es',ck',kf,kt,hI⟩⟩
     refine bg bp ?_
     exact ⟨az,fun _=>rfl,aA,aB,aw,aD,aE,aI,⟨es',ck',kf,kt,hI⟩⟩
    ·intro D aY dI eI eo eJ dZ d4 ii ex eR w_
     rintro ⟨az,ay,aA,aB,aw,aD,aE,aI,⟨es',ck',kf,kt,hI⟩⟩
     obtain rfl:=ay dI
     refine dM aQ (by rw [hI.cellS hb5']; rfl) ?_
     exact ⟨az,ay,fun _=>rfl,aB,aw,aD,aE,aI,⟨es',ck',kf,kt,hI⟩⟩
    ·intro D aY  eI eo eJ dZ d4 ii ex eR w_
     rintro ⟨az,ay,aA,aB,aw,aD,aE,aI,⟨es',ck',kf,kt,hI⟩⟩
     exact ⟨az,ay,aA,fun _=>rfl,aw,aD,aE,aI,⟨es',ck',kf,kt,hI⟩⟩
    ·intro D aY ev nl eI eo eJ dZ d4 ii ex eR w_
     rintro ⟨az,ay,aA,aB,aw,aD,aE,aI,⟨es',ck',kf,kt,hI⟩⟩
     obtain rfl:=aA ev
     obtain rfl:=aB nl
     refine bh av hib ?_
     exact ⟨az,ay,aA,aB,fun _=>rfl,aD,aE,aI,⟨es',ck',kf,kt,hI⟩⟩
    ·intro D aY cK eI eo eJ dZ d4 ii ex eR w_
     rintro ⟨az,ay,aA,aB,aw,aD,aE,aI,⟨es',ck',kf,kt,hI⟩⟩
     obtain rfl:=aw cK
     refine cJ al hR1'.length (fun j v hj=>by rw [hI.cellS hS1']; exact bl rfl j v hj) ?_
     exact ⟨az,ay,aA,aB,aw,fun _=>rfl,aE,aI,⟨es',ck',kf,kt,hI⟩⟩
    ·intro D aY  eI eo eJ dZ d4 ii ex eR w_
     rintro ⟨az,ay,aA,aB,aw,aD,aE,aI,⟨es',ck',kf,kt,hI⟩⟩
     exact ⟨az,ay,aA,aB,aw,aD,fun _=>rfl,aI,⟨es',ck',kf,kt,hI⟩⟩
    ·intro D aY ce jk mt eI eo eJ dZ d4 ii ex eR w_
     rintro ⟨az,ay,aA,aB,aw,aD,aE,aI,⟨es',ck',kf,kt,hI⟩⟩
     obtain rfl:=az ce
     obtain rfl:=aD jk
     obtain rfl:=aE mt
     refine Run.callE (A:=I') qT rq hI (AK g facts[k] S3 _ _ nb ck' es' st hR1' hds3 hg.ok.1 hfk.ok.2.1 hst.ok.1 (kf aY)) fun v' J' S5 w_=>?_
     rw [<- hr]
     rintro ⟨e5,rfl,es',ck',rfl,hk2⟩ _ hI
     rw [e5] at hI
     clear e5
     have kf:=fun (e:aC D 7 7=false)=>(Bool.noConfusion e:KnownM S3 es' st)
     have kt:=fun (_:aC D 7 7=true)=>hk2
     exact ⟨az,ay,aA,aB,aw,aD,aE,fun _=>rfl,⟨es',ck',kf,kt,hI⟩⟩
    intro D f0 f1 fM fF fI fK fL fN eI eo eJ dZ d4 ii ex eR w_
    rintro ⟨az,ay,aA,aB,aw,aD,aE,aI,⟨es',ck',kf,kt,hI⟩⟩
    obtain rfl:=aI f0
    obtain rfl:=aE f1
    obtain rfl:=aD fM
    obtain rfl:=aw fF
    obtain rfl:=aB fI
    obtain rfl:=aA fK
    obtain rfl:=ay fL
    obtain rfl:=az fN
    clear az ay aA aB aw aD aE aI
    have hk2:=kt f0
    clear kf kt
    refine ba (fun hb=>?_) (fun hb=>?_)
    ·have hFo:F facts[k]=fc c0.head facts gs r.2:=by rw [hF2,<- hr,if_pos hb]
     rw [hFo] at hcan' ⊢
     obtain ⟨S5,hI,hE5,hnb⟩:=hI.pub1
     have hEa:=hE3.trans hE5
     refine cJ (cs:=[.int .i64 c0.head.kind,.int .i64 c0.head.n,.string c0.head.name,kv,.slice (some ⟨b1,o1,none⟩) c0.body.length cap1]) bF rfl (fun j v hj=>by rw [hI.cellS (hE5.1 _ _ hb5'),Nat.zero_add]; simpa [Value.cells] using hj) ?_
     refine bP (by omega) ?_
     have hst2:StF r.2:=by rw [hr]; exact (kJ hg hfk hst).1
     have hc2:jl c0.head gs r.2:=by rw [hr]; exact lf hc hg hfk hst (by rw [<- hr]; exact hb)
     have hSa:=hE'.1.trans hEa.1
     have hI:Inv w X ([]++I') S5 w_:=hI
     refine Run.callE (A:=[]) mR m7 hI (ih (i+1) (by omega) hge.2 S5 _ _ nb _ _ s' I' r.2 _ (ht.mono hSa) (h0.mono hSa) (hf.monoT hSa) hnb (hk2.mono hE5.1) hst2 hc2 (ht.up _ _ _ _ hEa.1 hIt') hcan') fun v' J' S6 w'=>?_
     rintro ⟨rfl,hIt2,hcan2⟩ hE6 hI
     exact ⟨_,S6,hIt2,hcan2,hEa.trans hE6,hI⟩
    ·have hFo:F facts[k]=[]:=by rw [hF2,<- hr,if_neg (by rw [hb]; decide)]
     rw [hFo] at hcan' ⊢
     rw [List.length_nil,Nat.zero_add] at hcan'
     exact ⟨_,S3,ht.up _ _ _ _ hE3.1 hIt',hcan',hE3,hI.sub (List.sublist_append_left _ _)⟩
   intro _ _ _ _ _ _ _ _ _ _ _ _ _ _ _ _ _ _ _ _ _ w'
   rintro ⟨I2,S5,hIt2,hcan2,hE5,hI⟩
   refine bP (by omega) ?_
   exact ⟨⟨k+1,_,I2,S5,hk',rfl,hrel,hcan2,hIt2,hE'.trans hE5,hle.trans hE5.1,hI⟩,by simp [intOf]; omega⟩
  ·have:k=facts.length:=by omega
   subst this
   rw [List.drop_length] at hrel hcan'
   simp only [List.flatMap_nil,List.foldl_nil,List.length_nil,Nat.zero_add] at hrel hcan'
   rw [<- hrel]
   exact ⟨_,_,_,rfl,hI,hE',rfl,hIt',hcan'⟩
end

end Go.Proofs.YtemmhhdnlbmicaaGreat

/- Rounds of facts: the plain law. -/
namespace Go.Proofs.YtemmhhdnlbmicaaGreat
open Go Go.RowKit
def fS (p:List C) (facts:List T):List T:=p.flatMap fun c=>fc c.head facts c.body st0
def gL (p:List C) (facts:List T):List T:=(fS p facts).foldl eP facts
def eH (p:List C) (facts:List T):List T:=(fS p facts).foldl ij facts
theorem pS:∀ (l out:List T),out.length<=(l.foldl eP out).length/\(l.foldl eP out).length<=out.length+l.length
 | [],out=>⟨Nat.le_refl _,Nat.le_refl _⟩
 | t::l,out=>by
  rw [List.foldl_cons,List.length_cons]
  have h1:=AS out t
  have h2:=pS l (eP out t)
  omega
theorem Ga:∀ (l out:List T) (y:T),y∈l.foldl eP out->y∈out ∨ y∈l
 | [],out,y,h=>.inl h
 | t::l,out,y,h=>by
  rw [List.foldl_cons] at h
  rcases Ga l _ y h with h|h
  ·rcases pu h with h|rfl
   ·exact .inl h
   ·exact .inr (List.mem_cons_self ..)
  ·exact .inr (List.mem_cons_of_mem _ h)
theorem xb:∀ (l out:List T),Sorted out->(∀ x∈out,okO x)->(∀ x∈l,okO x)->Sorted (l.foldl eP out)
 | [],out,h,_,_=>h
 | t::l,out,h,ho,hl=>by
  rw [List.foldl_cons]
  have ht:=hl t (List.mem_cons_self ..)
  refine xb l _ (oL h ho ht) (fun x hx=>?_) fun x hx=>hl x (List.mem_cons_of_mem _ hx)
  rcases pu hx with hx|rfl
  ·exact ho x hx
  ·exact ht
theorem Lw:∀ (l out:List T),(60<(l.foldl eP out).length/\60<(l.foldl ij out).length) ∨ ((l.foldl eP out).length<=60/\l.foldl ij out=l.foldl eP out)
 | [],out=>by
  simp only [List.foldl_nil]
  by_cases h:60<out.length
  ·exact .inl ⟨h,h⟩
  ·exact .inr ⟨by omega,trivial⟩
 | t::l,out=>by
  by_cases h:60<out.length
  ·left
   have h1:=pS (t::l) out
   rw [vp _ _ h]
   omega
  ·rw [List.foldl_cons,List.foldl_cons,ij,if_neg h]
   exact Lw l (eP out t)
theorem Dh {hd:T} {facts:List T}:∀ (gs:List T) (st:bq),(fc hd facts gs st).length<=facts.length ^ gs.length
 | [],st=>by rw [fc]; simp
 | g::gs,st=>by
  rw [fc,List.length_cons,Nat.pow_succ]
  have:∀ fs:List T,(fs.flatMap fun f=>if (bK g f st).1=true then fc hd facts gs (bK g f st).2 else []).length<=facts.length ^ gs.length * fs.length:=by
   intro fs
   induction fs with
   | nil=>simp
   | cons f fs ih=>
    rw [List.flatMap_cons,List.length_append,List.length_cons,Nat.mul_succ]
    have:(if (bK g f st).1=true then fc hd facts gs (bK g f st).2 else []).length<=facts.length ^ gs.length:=by
     split
     ·exact Dh gs _
     ·simp
    omega
  exact this facts
/- the facts of a stage -/
structure Fs (f:List T):Prop where
 sorted:Sorted f
 fct:∀ x∈f,Fct x
theorem Fs.nil:Fs []:=⟨trivial,by simp⟩
theorem Fs.okO {f:List T} (h:Fs f):∀ x∈f,okO x:=fun x hx=>(h.fct x hx).ok.2.2.1
structure Pf (p:List C):Prop where
 len:p.length<=20
 parts:∀ c∈p,Gl c.head/\(∀ g∈c.body,Gl g)/\jl c.head c.body st0
 three:∀ c∈p,c.body.length<=3
theorem Do {p:List C} {f:List T} (hp:Pf p) (hf:Fs f):∀ x∈fS p f,Fct x:=by
 intro x hx
 rw [fS,List.mem_flatMap] at hx
 obtain ⟨c,hc,hx⟩:=hx
 obtain ⟨h1,h2,h3⟩:=hp.parts c hc
 exact Bd h1 hf.fct c.body st0 h2 LA h3 x hx
theorem G1 {c:C} {f:List T} (h3:c.body.length<=3) (hf:f.length<=60):(fc c.head f c.body st0).length<=216000:=by
 refine Nat.le_trans (Dh _ _) ?_
 have h1:f.length ^ c.body.length<=60 ^ c.body.length:=Nat.pow_le_pow_left hf _
 have h2:60 ^ c.body.length<=60 ^ 3:=Nat.pow_le_pow_right (by decide) h3
 exact Nat.le_trans h1 (Nat.le_trans h2 (by decide))
theorem L8 {p:List C} {f:List T} (hp:Pf p) (hf:Fs f):Fs (gL p f):=by
 have h1:=Do hp hf
 refine ⟨xb _ _ hf.sorted hf.okO fun x hx=>(h1 x hx).ok.2.2.1,fun x hx=>?_⟩
 rcases Ga _ _ _ hx with hx|hx
 ·exact hf.fct x hx
 ·exact h1 x hx
theorem vw {p:List C} {f:List T} (hp:Pf p) (hf:Fs f):Fs (eH p f):=by
 have h1:=Do hp hf
 refine ⟨wS _ _ hf.sorted hf.okO fun x hx=>(h1 x hx).ok.2.2.1,fun x hx=>?_⟩
 rcases tZ _ _ _ hx with hx|hx
 ·exact hf.fct x hx
 ·exact h1 x hx
theorem si (p:List C) (f:List T) (h:f.length<=61):f.length<=(eH p f).length/\(eH p f).length<=61:=by
 have:=o3 (fS p f) f
 rw [eH]
 omega
def stI (p:List C):Nat->List T->Nat->Option (List T × Nat)
 | 0,f,n=>some (f,n)
 | k+1,f,n=>if 60<(gL p f).length then none else if (gL p f).length=f.length then some (f,n) else stI p k (gL p f) (n+1)
def stS (p:List C):Nat->List T->Nat->List T × Nat
 | 0,f,n=>(f,n)
 | k+1,f,n=>if (eH p f).length=f.length ∨ 60<f.length then (f,n) else stS p k (eH p f) (n+1)
theorem zq (p:List C):∀ (k:Nat) (f:List T) (n:Nat),f.length<=60->(stI p k f n=none/\60<(stS p k f n).1.length) ∨ (stI p k f n=some (stS p k f n)/\(stS p k f n).1.length<=60)
 | 0,f,n,hf=>.inr ⟨rfl,hf⟩
 | k+1,f,n,hf=>by
  rw [stI,stS]
  rcases Lw (fS p f) f with ⟨h1,h2⟩|⟨h1,h2⟩
  ·left
   have h1:60<(gL p f).length:=h1
   have h2:60<(eH p f).length:=h2
   rw [if_pos h1,if_neg (by omega)]
   refine ⟨rfl,?_⟩
   cases k with
   | zero=>exact h2
   | succ k=>
    rw [stS,if_pos (.inr h2)]
    exact h2
  ·have h1:(gL p f).length<=60:=h1
   have h2:eH p f=gL p f:=h2
   rw [if_neg (by omega),h2]
   by_cases he:(gL p f).length=f.length
   ·rw [if_pos he,if_pos (.inl he)]
    exact .inr ⟨rfl,hf⟩
   ·rw [if_neg he,if_neg (by omega)]
    exact zq p k _ _ h1
theorem GD (p:List C):∀ (j k:Nat) (f:List T) (n:Nat),j<=k->61<=j+f.length->f.length<=60->stI p k f n=stI p j f n
 | 0,k,f,n,_,h1,h2=>by omega
 | j+1,0,f,n,h,_,_=>by omega
 | j+1,k+1,f,n,h,h1,h2=>by
  rw [stI,stI]
  split
  ·rfl
  ·split
   ·rfl
   ·rename_i h3 h4
    have:=pS (fS p f) f
    have h5:f.length<=(gL p f).length:=this.1
    exact GD p j k _ _ (by omega) (by omega) (by omega)
theorem EQ {p:List C} (hp:Pf p):∀ (k:Nat) (f:List T) (n:Nat),Fs f->f.length<=61->Fs (stS p k f n).1/\(stS p k f n).1.length<=61
 | 0,f,n,hf,hl=>⟨hf,hl⟩
 | k+1,f,n,hf,hl=>by
  rw [stS]
  split
  ·exact ⟨hf,hl⟩
  ·exact EQ hp k _ _ (vw hp hf) (si p f hl).2
def fy (r:Int):Nat:=if 60<r then 61 else r.toNat
def bt (p:List C) (r:Int):List T × Bool:=
 if (ei p && !decide (r<0))=true then
  (if (stS p (fy r) [] 0).1.length<=60 then ((stS p (fy r) [] 0).1,true) else ([],false))
 else ([],false)
def er (p:List C):Int:=if ei p=true then (if (stS p 61 [] 0).1.length<=60 then ((stS p 61 [] 0).2:Int) else -1) else -1
theorem Pf.take {p:List C} (h:Pf p) (j:Nat):Pf (p.take j):=⟨by have:=h.len; rw [List.length_take]; omega,fun c hc=>h.parts c (List.mem_of_mem_take hc),fun c hc=>h.three c (List.mem_of_mem_take hc)⟩
theorem rZ (p:List C) (f:List T) (j:Nat) (hj:j<p.length):fS (p.take (j+1)) f=fS (p.take j) f++fc p[j].head f p[j].body st0:=by
 rw [fS,List.take_succ_eq_append_getElem hj,List.flatMap_append,List.flatMap_cons,List.flatMap_nil,List.append_nil]
 rfl
theorem Db {p:List C} {f:List T} (hp:Pf p) (hf:f.length<=60):∀ j,j<=p.length->(fS (p.take j) f).length<=j * 216000
 | 0,_=>by simp [fS]
 | j+1,h=>by
  have hj:j<p.length:=by omega
  rw [rZ p f j hj,List.length_append]
  have h1:=Db hp hf j (by omega)
  have h2:=G1 (hp.three _ (List.getElem_mem hj)) hf
  omega
theorem F9 (p:List C) (r:Int):(stI p r.toNat [] 0=none/\60<(stS p (fy r) [] 0).1.length) ∨ (stI p r.toNat [] 0=some (stS p (fy r) [] 0)/\(stS p (fy r) [] 0).1.length<=60):=by
 have e:stI p r.toNat [] 0=stI p (fy r) [] 0:=by
  unfold fy
  split
  ·exact GD p 61 _ [] 0 (by omega) (by simp) (by simp)
  ·rfl
 rw [e]
 exact zq p _ [] 0 (by simp)
theorem Fs.w {f:List T} (h:Fs f):wL f<=f.length * 34:=Av f 34 fun t ht=>(h.fct t ht).ok.2.2.2
theorem Ia {p:List C} (hp:ei p=true->Pf p) (r:Int):(bt p r).1.length<=60/\wL (bt p r).1<=2040:=by
 unfold bt
 split
 ·rename_i h
  rw [Bool.and_eq_true] at h
  have h1:=(EQ (hp h.1) (fy r) [] 0 Fs.nil (by simp)).1
  split
  ·rename_i h2
   have:=h1.w
   refine ⟨h2,?_⟩
   show wL (stS p (fy r) [] 0).1<=2040
   omega
  ·simp [wL]
 ·simp [wL]

end Go.Proofs.YtemmhhdnlbmicaaGreat

/- impl.insert; a round's function that is told facts. -/
namespace Go.Proofs.YtemmhhdnlbmicaaGreat
open Go Go.RowKit
theorem Rows.insert {α:Type} {k:Nat} {R:List Value->α->Prop} {css:List (List Value)} {ys:List α} (h:Rows k R css ys) {cs:List Value} {y:α} (hR:R cs y) (hl:cs.length=k) (i:Nat) :
  Rows k R (css.take i++cs::css.drop i) (ys.take i++y::ys.drop i):=by
 have h1:Rows k R (css.take i) (ys.take i):=⟨by simp [h.hc],fun c hc=>h.hk c (List.mem_of_mem_take hc),fun j h2 h3=>by
  rw [List.getElem_take,List.getElem_take]
  exact h.hR j _ _⟩
 have h2:Rows k R (css.drop i) (ys.drop i):=⟨by simp [h.hc],fun c hc=>h.hk c (List.mem_of_mem_drop hc),fun j h2 h3=>by
  rw [List.getElem_drop,List.getElem_drop]
  exact h.hR (i+j) _ _⟩
 have:=(h1.append (Rows.one hR hl)).append h2
 simpa using this
theorem RdT.oneRows {S:aF} {css:List (List Value)} {ys:List T} (h:Rows 4 (RdT S) css ys):∀ c∈css,∀ u∈c,u.oneCell'=true:=by
 intro c hc
 obtain ⟨j,hj,rfl⟩:=List.mem_iff_getElem.1 hc
 have e:=h.hc
 exact (h.hR j (by omega) hj).one
theorem Di {w:World} {v:Value} {e:TypeId} {k n:Nat} {xs:List Value} (h:(Item.row v e k n xs).holds w):v.cells=#[v]/\v.oneCell'=true:=by
 have h:w.ownsRow 0 e k v n xs:=h
 rcases h.2 with ⟨rfl,_⟩|⟨g,cap,cur,rfl,_⟩ <;> exact ⟨rfl,rfl⟩
section
attribute [local irreducible] Run CondV ag be
theorem Bz {l:List T} {t:T} {S:aF} {v:Value} {css:List (List Value)} {cs:List Value} (hR:Rows 4 (RdT S) css l) (hcs:RdT S cs t) (hl:∀ x∈l,okO x) (ht:okO t) (hs:Sorted l) (hn:l.length<=100000000) (hw:wT t<=1048576) :
  Tri Tryz.prog Kr [v,.agg cs.toArray] [bj v ac 4 css] S fun r I' S'=>∃ css',I'=[bj r ac 4 css']/\Rows 4 (RdT S') css' (eP l t):=by
 intro w hI
 have hlc:=hcs.length
 have hcl:=hR.hc
 obtain ⟨X,hX⟩:∃ X,X=bY [bj v ac 4 css]:=⟨_,rfl⟩
 rw [<- hX] at hI ⊢
 refine Al ?_
 unfold xW
 refine bO hI fun b1 w' hI=>?_
 have hI:Inv w X ([.blk b1 (.cells cs.toArray ac)]++[bj v ac 4 css]) S w':=hI.perm (List.perm_append_comm (l₁:=[_]))
 refine bb hI 0 al rfl (by simpa using hlc) ?_
 obtain ⟨S1,hle1,hrd,hI1,hback⟩:=Inv.lend (A:=[_]) hI
 have hrows:=RowRd.rows (hR.monoR fun _ _ h=>RdT.mono hle1 h) hrd
 obtain ⟨i,hpos,hcall⟩:=se hrows (hcs.mono hle1) hl ht hs hn
 refine Run.callPure kH kw hI1 hcall fun w' hI1=>?_
 have hI:=hback _ _ hI1
 refine a7 rfl ?_
 refine a7 rfl ?_
 refine ba (fun hb=>?_) (fun hb=>?_)
 ·have hb':r5 l t i=true:=hb
  rw [r5] at hb'
  split at hb'
  ·rename_i hi
   rw [NQ hpos hi hb']
   exact ⟨_,_,_,rfl,hI.pick [false,true],Ext.refl _ _ _,css,rfl,hR⟩
  ·cases hb'
 ·have hb':r5 l t i=false:=hb
  have hnew:eP l t=l.take i++t::l.drop i:=Oo hpos fun hi=>by
   rw [r5,dif_pos hi] at hb'
   exact hb'
  have hil:=hpos.1
  refine bb hI 0 al rfl (by simpa using hlc) ?_
  refine Run.call0E Gu HR hI (DB t S cs hcs hw) fun v' I' S' w'=>?_
  rintro ⟨rfl,cs',L,rfl,rfl,hT⟩ _ hI
  obtain ⟨S2,hI,hE2,hins⟩:=Inv.pubExt hI
  have hrd:=TrT.rd hT hins
  refine fl hI bM (by simp [Value.cells,hrd.length]) (by decide) (by decide) fun ub w' hI=>?_
  have hI:Inv w X ([.blk b1 (.cells cs.toArray ac)]++[bj v ac 4 css,.blk ub (.cells cs'.toArray ac)]) S2 w':=hI
  refine Run.callE (A:=[_]) wj wq hI (Fk hR.hk (RdT.oneRows hR) hrd.length hrd.one (by omega) (by omega)) fun r I' S3 w'=>?_
  rintro ⟨e3,rfl⟩ _ hI
  rw [e3] at hI
  refine ⟨_,_,_,rfl,hI.pick [false,true],hE2,_,rfl,?_⟩
  rw [hnew]
  exact (hR.monoR fun _ _ h=>RdT.mono hE2.1 h).insert hrd hrd.length i
def ItR (b:Nat) (s:List T) (S:aF) (I:List Item):Prop:=Fs s/\∃ v css,I=[.blk b (.cells #[v] cg),bj v ac 4 css]/\Rows 4 (RdT S) css s
def OW (s:List T) (n:Nat):Prop:=s.length+n<=100000000
theorem OX {S0:aF} {b:Nat}:Tell Gh Tryz.f132 [.pointer (some ⟨b,0,none⟩)] (ItR b) OW eP S0:=by
 refine ⟨EV,EX,fun s S S' I hle h=>?_,fun s x n hx h=>?_,fun S s x cs I n hle hx hcs hIt hcan w hI=>?_⟩
 ·obtain ⟨h1,v,css,h2,h3⟩:=h
  exact ⟨h1,v,css,h2,h3.monoR fun _ _ h=>RdT.mono hle h⟩
 ·unfold OW at h ⊢
  have:=AS s x
  omega
 ·obtain ⟨hFs,v,css,rfl,hR⟩:=hIt
  unfold OW at hcan
  have hlc:=hcs.length
  obtain ⟨X,hX⟩:∃ X,X=bY [Item.blk b (.cells #[v] cg),bj v ac 4 css]:=⟨_,rfl⟩
  rw [<- hX] at hI ⊢
  refine yq ?_
  unfold sI
  refine bO hI fun b1 w' hI=>?_
  have hI:Inv w X [.blk b1 (.cells cs.toArray ac),.blk b (.cells #[v] cg),bj v ac 4 css] S w':=hI.perm (List.perm_append_comm (l₁:=[_]))
  refine bE hI 1 aQ rfl rfl ?_
  refine bb hI 0 al rfl (by simpa using hlc) ?_
  have hok:=hx.ok
  have hI:Inv w X ([.blk b1 (.cells cs.toArray ac),.blk b (.cells #[v] cg)]++[bj v ac 4 css]) S w':=hI
  refine Run.callE Hn G3 hI (Bz hR hcs hFs.okO hok.2.2.1 hFs.sorted (by omega) (by omega)) fun r I' S1 w'=>?_
  rintro ⟨css',rfl,hR'⟩ hE hI
  have hI:Inv w X [.blk b1 (.cells cs.toArray ac),.blk b (.cells #[v] cg),bj r ac 4 css'] S1 w':=hI
  have hr:r.cells=#[r]/\r.oneCell'=true:=Di (hI.its (bj r ac 4 css') (by simp))
  refine eq hI 1 (n:=1) (by rw [hr.1]; rfl) (by decide +kernel) rfl (by simp) (by rw [hr.1]; intro u hu; simp at hu; subst hu; exact hr.2) fun w' hI=>?_
  have hI:Inv w X [.blk b1 (.cells cs.toArray ac),.blk b (.cells (bw #[v] 0 r.cells.toList) cg),bj r ac 4 css'] S1 w':=hI
  have e:bw #[v] 0 r.cells.toList=#[r]:=by rw [hr.1]; rfl
  rw [e] at hI
  refine ⟨_,_,_,rfl,hI.pick [false,true,true],hE,rfl,⟨oL hFs.sorted hFs.okO hok.2.2.1,fun y hy=>?_⟩,r,css',rfl,hR'⟩
  rcases pu hy with hy|rfl
  ·exact hFs.fct y hy
  ·exact hx
end

end Go.Proofs.YtemmhhdnlbmicaaGreat

/- Resolvents: the plain form. -/
import Derived.Test.YtfcbhfjomgopbaaGreatZFu5
import Derived.Test.YtfcbhfjomgopbaaGreatZFu2
import Derived.Test.YtfcbhfjomgopbaaGreatZFu8
import Derived.Test.YtfcbhfjomgopbaaGreatZFu4
import Derived.Test.YtfcbhfjomgopbaaGreatZFu7
import Derived.Test.YtfcbhfjomgopbaaGreatZFu1
namespace Go.Proofs.YtfcbhfjomgopbaaGreat
section
open Go Go.RowKit
theorem Iz {s:ByteArray} (h:md s=true):s.size<=6:=by
 rw [md,Bool.or_eq_true] at h
 rcases h with h|h
 ·rw [mt] at h
  simp only [Bool.and_eq_true,decide_eq_true_eq] at h
  exact h.2.2
 ·simp only [List.any_eq_true,decide_eq_true_eq] at h
  obtain ⟨x,hx,rfl⟩:=h
  have:∀ y∈signs,y.size<=6:=by decide +kernel
  exact this x hx
theorem Ly {t:T} (h:eM t=true):t.name.size<=6:=by
 unfold eM at h
 have he:emptyB.size=0:=by decide +kernel
 by_cases e1:t.kind=1
 ·rw [if_pos e1] at h
  simp only [Bool.and_eq_true,decide_eq_true_eq] at h
  rw [h.2.2.1]; omega
 ·rw [if_neg e1] at h
  by_cases e2:t.kind=2
  ·rw [if_pos e2] at h
   simp only [Bool.and_eq_true,decide_eq_true_eq] at h
   rw [h.2.2.1]; omega
  ·rw [if_neg e2] at h
   by_cases e3:t.kind=3
   ·rw [if_pos e3] at h
    simp only [Bool.and_eq_true,decide_eq_true_eq] at h
    exact Iz h.2.1
   ·rw [if_neg e3] at h
    cases h
mutual
theorem Fe:∀ (t:T) (d:Int),eZ t d=true->okU 26 t
 | .mk k n s ks,d,h=>by
  rw [eZ] at h
  split at h
  ·cases h
  ·rw [Bool.and_eq_true] at h
   have h1:=O4 h.1
   have h2:=fun hk=>OM h.1 hk
   have h3:=Ly h.1
   rw [okU]
   refine ⟨h1.2,fun hk=>?_,Bz ks _ h.2,h3⟩
   have h4:=h1.1 hk
   have h5:=h2 hk
   simp only [T.n] at h4
   simp only [T.name,T.kids] at h5
   exact ⟨h4.1,by omega,h5.1,List.eq_nil_of_length_eq_zero h5.2⟩
theorem Bz:∀ (ts:List T) (d:Int),eV ts d=true->dM 26 ts
 | [],_,_=>by rw [dM]; trivial
 | t::ts,d,h=>by
  rw [eV,Bool.and_eq_true] at h
  rw [dM]
  exact ⟨Fe t d h.1,Bz ts d h.2⟩
end
theorem iT {t:T} (h:dg t=true):okU 26 t:=Fe t 30 (qu h)
theorem kZ {c:C} (h:cC c=true):okU 26 c.head/\(∀ t∈c.body,okU 26 t)/\c.body.length<=6:=by
 rw [cC] at h
 simp only [Bool.and_eq_true,List.all_eq_true,decide_eq_true_eq] at h
 refine ⟨iT h.2.2.1,fun t ht=>?_,h.1⟩
 have:=h.2.1 t ht
 rw [ek,Bool.and_eq_true] at this
 exact iT this.1
mutual
theorem kM {N M:Nat} (h:N<=M):∀ t:T,okU N t->okU M t
 | .mk k n s ks,ht=>by
  rw [okU] at ht ⊢
  refine ⟨ht.1,fun hk=>?_,M4 h ks ht.2.2.1,ht.2.2.2⟩
  have:=ht.2.1 hk
  exact ⟨this.1,by omega,this.2.2⟩
theorem M4 {N M:Nat} (h:N<=M):∀ ts:List T,dM N ts->dM M ts
 | [],_=>by rw [dM]; trivial
 | t::ts,ht=>by
  rw [dM] at ht ⊢
  exact ⟨kM h t ht.1,M4 h ts ht.2⟩
end
mutual
theorem mX {N:Nat} (m:Nat):∀ t:T,okU N t->okU (N+m) (cK m t)
 | .mk k n s ks,ht=>by
  rw [okU] at ht
  rw [cK,okU]
  refine ⟨ht.1,fun hk=>?_,ub m ks ht.2.2.1,ht.2.2.2⟩
  have:=ht.2.1 hk
  rw [if_pos hk]
  refine ⟨by omega,by omega,this.2.2.1,?_⟩
  rw [this.2.2.2,fS]
theorem ub {N:Nat} (m:Nat):∀ ts:List T,dM N ts->dM (N+m) (fS m ts)
 | [],_=>by rw [fS,dM]; trivial
 | t::ts,ht=>by
  rw [dM] at ht
  rw [fS,dM]
  exact ⟨mX m t ht.1,ub m ts ht.2⟩
end
mutual
theorem qk (m:Int):∀ t:T,wT (cK m t)=wT t
 | .mk k n s ks=>by
  rw [cK,wT,wT,I6 m ks]
  rw [kO,List.length_map]
theorem I6 (m:Int):∀ ts:List T,wL (fS m ts)=wL ts
 | []=>rfl
 | t::ts=>by rw [fS,wL,wL,qk m t,I6 m ts]
end
mutual
theorem MQ {N:Nat}:∀ t:T,okU N t->(wT t:Int)+1<=7 * dE t
 | .mk k n s ks,h=>by
  rw [okU] at h
  have h1:=Pk ks h.2.2.1
  rw [wT,gC]
  omega
theorem Pk {N:Nat}:∀ ts:List T,dM N ts->(wL ts:Int)+ts.length<=7 * dd ts
 | [],_=>by simp [wL,dd]
 | t::ts,h=>by
  rw [dM] at h
  have h1:=MQ t h.1
  have h2:=Pk ts h.2
  rw [wL,dd,List.length_cons]
  omega
end
theorem Mk {N:Nat} {st:aF} {t v:T} (h:Good N st) (hw:cU st t v) (ht:okU N t):okU N v:=by
 induction hw with
 | stop=>exact ht
 | step hl _ ih=>exact ih (h.look_ok hl).1
theorem mi {N:Nat} {st:aF} (hg:Good N st) {j:N0} (hr:Res st j):match j with
  | .one t u=>okU N t->okU N u
  | .list ts us=>dM N ts->dM N us/\us.length=ts.length:=by
 induction hr with
 | one hw hl ih=>
  rename_i t v us
  intro ho
  have hv:=Mk hg hw ho
  obtain ⟨h1,h2⟩:=ih hv.kids
  obtain ⟨k,n,s,ks⟩:=v
  have hv2:=hv
  rw [okU] at hv2
  show okU N (.mk k n s us)
  rw [okU]
  refine ⟨hv2.1,fun hk=>?_,h1,hv2.2.2.2⟩
  have h3:=hv2.2.1 hk
  refine ⟨h3.1,h3.2.1,h3.2.2.1,?_⟩
  simp only [T.kids] at h2
  exact List.eq_nil_of_length_eq_zero (by rw [h2,h3.2.2.2]; rfl)
 | nil=>exact fun h=>⟨h,rfl⟩
 | cons _ _ ih1 ih2=>
  intro ho
  rw [dM] at ho
  obtain ⟨h1,h2⟩:=ih2 ho.2
  rw [dM]
  exact ⟨⟨ih1 ho.1,h1⟩,by simp [h2]⟩
theorem BW {N:Nat} {st:aF} (h:Good N st):∀ ts:List T,dM N ts->∃ us,Res st (.list ts us)
 | [],_=>⟨[],.nil⟩
 | t::ts,ho=>by
  rw [dM] at ho
  obtain ⟨u,hu⟩:=Gq h t ho.1
  obtain ⟨us,hus⟩:=BW h ts ho.2
  exact ⟨u::us,.cons hu hus⟩
def stU:aF:=List.replicate 52 none
theorem IX:Good 52 stU:=⟨by simp [stU],fun t ht=>by simp [stU] at ht,fun t ht=>by simp [stU] at ht,fun n=>n,fun n u hu=>by
 have:=List.mem_of_getElem? hu
 simp [stU] at this⟩
def NA (c d:C):List T:=c.head::(fS 26 d.body++c.body.drop 1)
def ofL:List T->C
 | []=>⟨⟨0,0,⟨#[]⟩,[]⟩,[]⟩
 | t::ts=>⟨t,ts⟩
def RO (c d:C) (o:Option (Option C)):Prop:=∃ r st,Uni stU (.one (c.body.headD ⟨0,0,⟨#[]⟩,[]⟩) (cK 26 d.head)) r st/\
 ((r=false/\o=none) ∨ (r=true/\∃ us,Res st (.list (NA c d) us)/\((us.all cI=false/\o=some none) ∨ (us.all cI=true/\o=some (some (UG (Tj (ofL us)) (ofL us)))))))
theorem Kk {N:Nat} {ts us:List T} (h:dM N ts) (h':dM N us):dM N (ts++us):=
 vG fun t ht=>by
  rcases List.mem_append.1 ht with ht|ht
  ·exact jr h t ht
  ·exact jr h' t ht
theorem PJ {c d:C} (hc:cC c=true) (hd:cC d=true):dM 52 (NA c d):=by
 obtain ⟨c1,c2,_⟩:=kZ hc
 obtain ⟨d1,d2,_⟩:=kZ hd
 rw [NA,dM]
 exact ⟨kM (by decide) _ c1,Kk (ub 26 _ (vG d2)) (vG fun t ht=>kM (by decide) _ (c2 t (List.mem_of_mem_drop ht)))⟩
theorem NW {c d:C} (hc:cC c=true) (hd:cC d=true) (hwc:wC c<=1048576) (hwd:wC d<=1048576) (hb:c.body≠[]):okJ 52 (.one (c.body.headD ⟨0,0,⟨#[]⟩,[]⟩) (cK 26 d.head)):=by
 obtain ⟨c1,c2,_⟩:=kZ hc
 obtain ⟨d1,d2,_⟩:=kZ hd
 unfold wC at hwc hwd
 cases hcb:c.body with
 | nil=>exact absurd hcb hb
 | cons t ts=>
  rw [List.headD_cons]
  have hm:t∈c.body:=by rw [hcb]; exact List.mem_cons_self ..
  have:=Hk hm
  exact ⟨⟨kM (by decide) _ (c2 t hm),by omega⟩,⟨mX 26 _ d1,by rw [qk]; omega⟩⟩
theorem RO.ex {c d:C} (hc:cC c=true) (hd:cC d=true) (hwc:wC c<=1048576) (hwd:wC d<=1048576) (hb:c.body≠[]):∃ o,RO c d o:=by
 have hj:=NW hc hd hwc hwd hb
 obtain ⟨r,st,hu⟩:=Hc (unb stU) stU IX (Nat.le_refl _) _ hj
 cases r with
 | false=>exact ⟨none,false,st,hu,.inl ⟨rfl,rfl⟩⟩
 | true=>
  obtain ⟨us,hus⟩:=BW (hu.good IX hj).1 (NA c d) (PJ hc hd)
  cases hs:us.all cI with
  | false=>exact ⟨some none,true,st,hu,.inr ⟨rfl,us,hus,.inl ⟨hs,rfl⟩⟩⟩
  | true=>exact ⟨_,true,st,hu,.inr ⟨rfl,us,hus,.inr ⟨hs,rfl⟩⟩⟩
theorem mB {N:Nat} {u:T} (h:cI u=true) (ho:okU N u):wT u<=840:=by
 rw [cI,Bool.and_eq_true,decide_eq_true_eq] at h
 have:=MQ u ho
 omega
end
section
open Go Go.RowKit

def KnownM (S:ae) (es:Array MapEntry) (st:aF):Prop:=
 (∀ e∈es.toList,∃ (n:Nat) (t:T) (cs:List Value),e.key=.int .i64 n/\e.val=.agg cs.toArray/\RdT S cs t/\st[n]?=some (some t))/\(∀ (n:Nat) (t:T),st[n]?=some (some t)->∃ e∈es.toList,e.key=.int .i64 n)/\(es.toList.map (·.key)).Nodup
theorem KnownM.find {S:ae} {es:Array MapEntry} {st:aF} (h:KnownM S es st) (n:Nat) :
  (∃ j v t cs,Instr.findNow (.int .i64) (.int .i64 n) es.toList 0=some (some (j,v))/\v=.agg cs.toArray/\RdT S cs t/\st[n]?=some (some t)) ∨
  ((∀ t,st[n]?≠some (some t))/\Instr.findNow (.int .i64) (.int .i64 n) es.toList 0=some none):=by
 rcases rn (n:=n) es.toList 0 (fun e he=>by obtain ⟨m,_,_,hk,_⟩:=h.1 e he; exact ⟨m,hk⟩) with ⟨j,e,he,hk,hf⟩|⟨hk,hf⟩
 ·obtain ⟨m,t,cs,hk2,hv,hR,hs⟩:=h.1 e he
  rw [hk] at hk2
  simp only [Value.int.injEq,true_and] at hk2
  have:n=m:=by omega
  subst this
  exact .inl ⟨j,e.val,t,cs,hf,hv,hR,hs⟩
 ·refine .inr ⟨fun t ht=>?_,hf⟩
  obtain ⟨e,he,hk2⟩:=h.2.1 n t ht
  exact hk e he hk2
theorem KnownM.push {S:ae} {es:Array MapEntry} {st:aF} (h:KnownM S es st) {n:Nat} (hn:n<st.length) (hno:∀ t,st[n]?≠some (some t)) {cs:List Value} {u:T} (hu:RdT S cs u) (ck:Nat) :
  KnownM S (es.push { key:=.int .i64 n,val:=.agg cs.toArray,born:=ck }) (st.set n (some u)):=by
 refine ⟨fun e he=>?_,fun m t ht=>?_,?_⟩
 ·rw [Array.toList_push] at he
  rcases List.mem_append.1 he with he|he
  ·obtain ⟨m,t,cs',hk,hv,hR,hs⟩:=h.1 e he
   refine ⟨m,t,cs',hk,hv,hR,?_⟩
   have:n≠m:=fun e=>hno t (by rw [e]; exact hs)
   rw [List.getElem?_set_ne this]
   exact hs
  ·simp at he
   subst he
   exact ⟨n,u,cs,rfl,rfl,hu,by rw [List.getElem?_set_self hn]⟩
 ·rw [Array.toList_push]
  by_cases e:n=m
  ·exact ⟨_,List.mem_append_right _ (List.mem_singleton.2 rfl),by rw [e]⟩
  ·rw [List.getElem?_set_ne e] at ht
   obtain ⟨x,hx,hk⟩:=h.2.1 m t ht
   exact ⟨x,List.mem_append_left _ hx,hk⟩
 ·rw [Array.toList_push,List.map_append,List.nodup_append]
  refine ⟨h.2.2,by simp,fun a ha b hb e=>?_⟩
  simp only [List.map_cons,List.map_nil,List.mem_singleton] at hb
  subst hb
  obtain ⟨x,hx,rfl⟩:=List.mem_map.1 ha
  obtain ⟨m,t,cs',hk,_,_,hs⟩:=h.1 x hx
  rw [hk] at e
  simp only [Value.int.injEq,true_and] at e
  have:m=n:=by omega
  subst this
  exact hno t hs
theorem E6 (t u:T):iF t u=iF u t:=by
 rw [iF,iF,Bool.eq_iff_iff]
 simp only [Bool.and_eq_true,decide_eq_true_eq]
 constructor
 ·rintro ⟨a,b,c,d⟩; exact ⟨a.symm,b.symm,c.symm,d.symm⟩
 ·rintro ⟨a,b,c,d⟩; exact ⟨a.symm,b.symm,c.symm,d.symm⟩
section
attribute [local irreducible] Run CondV aB aS
theorem kV:∀ (t u:T) (S:ae) (cs ds:List Value) (mb ck:Nat) (es:Array MapEntry) (st:aF),RdT S cs t->RdT S ds u->okV t->okK u->yF st->KnownM S es st->
  Tri Tryz.prog HC [.agg ds.toArray,.agg cs.toArray,.map (some mb)] [.blk mb (.map es ck)] S fun r I' S'=>S'=S/\r=.bool (cw t u st).1/\∃ es' ck',I'=[.blk mb (.map es' ck')]/\KnownM S es' (cw t u st).2:=by
 refine T.ind fun k' n' s' ks' ih u S cs ds mb ck es st h' h hv hu hst hkc=>?_
 intro w hI
 have hds:=h
 obtain ⟨kv',rfl,_,_,_,hks'⟩:=RdT.iff.1 h'
 obtain ⟨kv,rfl,_,_,_,hks⟩:=RdT.iff.1 h
 obtain ⟨k,n,s,ks⟩:=u
 simp only [T.name,T.kids,T.kind,T.n] at hks hks' ⊢
 have hlen:=hks'.le
 simp only [maxLen] at hlen
 rw [okV] at hv
 obtain ⟨hv1,hv2⟩:=hv
 have huk:=hu
 rw [okK] at hu
 obtain ⟨X,hX⟩:∃ X,X=bC [Item.blk mb (.map es ck)]:=⟨_,rfl⟩
 rw [<- hX] at hI ⊢
 refine sz.2 ?_
 dsimp only[sz,cW]
 refine bf hI fun b1 w' hI=>?_
 refine bf hI fun b2 w' hI=>?_
 have hI:Inv w X [.blk b1 (.cells #[.int .i64 k,.int .i64 n,.string s,kv] ab),.blk b2 (.cells #[.int .i64 k',.int .i64 n',.string s',kv'] ab),.blk mb (.map es ck)] S w':=hI.perm (by
  refine (List.perm_append_comm (l₁:=[_,_]) (l₂:=[_])).trans ?_
  exact List.Perm.refl _)
 refine ad hI 1 rfl aE av rfl ?_
 refine aZ ?_
 refine aI (fun hk1=>?_) (fun hk1=>?_)
 ·obtain ⟨hn0,hn25⟩:=hv1 hk1
  obtain ⟨j,rfl⟩:∃ j:Nat,n'=j:=⟨n'.toNat,by omega⟩
  have hj:j<26:=by omega
  have hjs:j<st.length:=by rw [hst.1]; exact hj
  refine ad hI 1 rfl aM av rfl ?_
  rcases hkc.find j with ⟨q,v,t0,cs0,hf,rfl,hR,hst2⟩|⟨hno,hf⟩
  ·refine JA (v:=.agg cs0.toArray) (ok:=true) hI 2 dR fj aQ rfl (.inl ⟨q,hf,rfl⟩) ?_
   refine aj rfl ?_
   refine aj rfl ?_
   have hlc:=hR.length
   refine aD hI aQ fun b7 w' hI=>?_
   refine aq hI 3 rfl ac (by simpa using hlc) rfl (by simpa using hR.one) fun w' hI=>?_
   refine bK ?_
   refine az (fun hb=>by cases hb) (fun _=>?_)
   refine ao hI 3 ac rfl (by simpa using hlc) ?_
   refine ao hI 0 ac rfl rfl ?_
   refine Run.callPure mQ mJ hI (nj t0 _ S _ _ hR hds) fun w' hI=>?_
   have hm:cw (.mk k' j s' ks') (.mk k n s ks) st=(eqT t0 (.mk k n s ks),st):=by
    rw [cw,if_pos hk1,Int.toNat_natCast,hst2]
   rw [hm]
   exact ⟨_,_,_,rfl,hI.pick [false,false,true,false],Ext.refl _ _ _,rfl,rfl,_,_,rfl,hkc⟩
  ·refine JA (ok:=false) hI 2 dR fj aQ rfl (.inr ⟨hf,rfl,rfl⟩) ?_
   refine aj rfl ?_
   refine aj rfl ?_
   refine aD hI aQ fun b7 w' hI=>?_
   refine aq hI 3 rfl ac rfl rfl (by simp [Value.oneCell']) fun w' hI=>?_
   refine bK ?_
   refine az (fun _=>?_) (fun hb=>by cases hb)
   refine ad hI 1 rfl aM av rfl ?_
   refine ao hI 0 ac rfl rfl ?_
   refine CK hI 2 dR fj rfl hf fun w' hI=>?_
   have hm:cw (.mk k' j s' ks') (.mk k n s ks) st=(true,st.set j (some (.mk k n s ks))):=by
    rw [cw,if_pos hk1,Int.toNat_natCast,List.getElem?_eq_getElem hjs]
    cases hq:st[j] with
    | none=>rfl
    | some t=>exact absurd (by rw [List.getElem?_eq_getElem hjs,hq]) (hno t)
   rw [hm]
   exact ⟨_,_,_,rfl,hI.pick [false,false,true,false],Ext.refl _ _ _,rfl,rfl,_,_,rfl,hkc.push hjs hno hds ck⟩
 refine ⟨fun q w'=>q=.bool (!iF (.mk k n s ks) (.mk k' n' s' ks'))/\Inv w X [.blk b1 (.cells #[.int .i64 k,.int .i64 n,.string s,kv] ab),.blk b2 (.cells #[.int .i64 k',.int .i64 n',.string s',kv'] ab),.blk mb (.map es ck)] S w',?_,?_⟩
 ·refine ad hI 0 rfl aE av rfl ?_
  refine ad hI 1 rfl aE av rfl ?_
  refine cD ?_
  by_cases e1:k=k'
  ·rw [decide_eq_true e1]
   refine rpG ?_
   refine ad hI 0 rfl aM av rfl ?_
   refine ad hI 1 rfl aM av rfl ?_
   refine cD ?_
   by_cases e2:n=n'
   ·rw [decide_eq_true e2]
    refine rpG ?_
    refine ad hI 0 rfl aO aJ rfl ?_
    refine ad hI 1 rfl aO aJ rfl ?_
    refine yM ?_
    by_cases e3:s=s'
    ·rw [decide_eq_true e3]
     refine rpG ?_
     refine ad hI 0 rfl al ah rfl ?_
     refine aC hks af ?_
     refine ad hI 1 rfl al ah rfl ?_
     refine aC hks' af ?_
     refine cD ?_
     refine rpG ?_
     exact ⟨by rw [dz,decide_eq_true e1,decide_eq_true e2,decide_eq_true e3,Jn]; rfl,hI⟩
    ·rw [decide_eq_false e3]
     refine rpG ?_
     exact ⟨by rw [dz,decide_eq_true e1,decide_eq_true e2,decide_eq_false e3]; rfl,hI⟩
   ·rw [decide_eq_false e2]
    refine rpG ?_
    exact ⟨by rw [dz,decide_eq_true e1,decide_eq_false e2]; rfl,hI⟩
  ·rw [decide_eq_false e1]
   refine rpG ?_
   exact ⟨by rw [dz,decide_eq_false e1]; rfl,hI⟩

 intro q _ _ _ _ _ _ _ _ _ _ _ _ _ _ _ _ _ _ _ _ _ _ _ _ _ _ _ w'
 rintro ⟨rfl,hI⟩
 cases hd:iF (.mk k n s ks) (.mk k' n' s' ks')
 ·refine az (fun _=>?_) (fun hb=>by cases hb)
  have hm:cw (.mk k' n' s' ks') (.mk k n s ks) st=(false,st):=by rw [cw,if_neg hk1,if_neg (by rw [E6,hd]; decide)]
  rw [hm]
  exact ⟨_,_,_,rfl,hI.pick [false,false,true],Ext.refl _ _ _,rfl,rfl,_,_,rfl,hkc⟩
 refine az (fun hb=>by cases hb) (fun _=>?_)
 have hle:ks.length=ks'.length:=by
  rw [dz] at hd
  simp only [Bool.and_eq_true,decide_eq_true_eq] at hd
  exact hd.2.2.2
 have hm:cw (.mk k' n' s' ks') (.mk k n s ks) st=gY ks' ks st:=by rw [cw,if_neg hk1,if_pos (by rw [E6,hd])]; rfl
 rw [hm]
 have hu2:=hu.2
 refine ad hI 1 rfl al ah rfl ?_
 refine aC hks' af ?_
 refine ⟨fun i w'=>∃ (j:Nat) (st':aF) (es':Array MapEntry) (ck':Nat),j<=ks'.length/\i=.int .i64 j/\gY (ks'.drop j) (ks.drop j) st'=gY ks' ks st/\yF st'/\KnownM S es' st'/\Inv w X [.blk b1 (.cells #[.int .i64 k,.int .i64 n,.string s,kv] ab),.blk b2 (.cells #[.int .i64 k',.int .i64 n',.string s',kv'] ab),.blk mb (.map es' ck')] S w',fun i _=>ks'.length - (intOf i).toNat,⟨0,st,es,ck,Nat.zero_le _,rfl,rfl,hst,hkc,hI⟩,?_⟩
 intro t60 _ _ _ _ _ _ _ _ _ _ _ _ _ _ _ _ _ _ w'
 rintro ⟨j,st',es',ck',hj,rfl,hrel,hst',hkc',hI⟩
 refine bq ?_
 refine aI (fun hji=>?_) (fun hji=>?_)
 ·have hj2:j<ks'.length:=by omega
  have hj1:j<ks.length:=by omega
  obtain ⟨c1,o1,cap1,a1,E1,fz1,rfl,hS1,hR1⟩:=hks.at_ hj1
  obtain ⟨c2,o2,cap2,a2,E2,fz2,rfl,hS2,hR2⟩:=hks'.at_ hj2
  rw [zl ks' ks st' j hj2 hj1] at hrel
  have hcall:=ih _ (List.getElem_mem hj2) ks[j] S _ _ mb ck' es' st' hR2 hR1 (od hv2 _ (List.getElem_mem hj2)) (qp hu2 _ (List.getElem_mem hj1)) hst' hkc'
  have hsn:=jI ks'[j] ks[j] st' hst' (qp hu2 _ (List.getElem_mem hj1))
  generalize hr:cw ks'[j] ks[j] st'=r at hrel hcall hsn
  refine ⟨fun D Bc A5 Dp CD Bn Bb AU Is OE OB FZ EP yd w_=>Fx D 0 [yd=.pointer (some ⟨b1,3,none⟩),EP=.slice (some ⟨c1,o1,none⟩) ks.length cap1,FZ=.int .i64 j,OB=.pointer (some ⟨c1,o1+j * 4,none⟩),OE=.agg (aH a1 (o1+j * 4) 4).toArray,Is=.pointer (some ⟨b2,3,none⟩),AU=.slice (some ⟨c2,o2,none⟩) ks'.length cap2,Bb=.int .i64 j,Bn=.pointer (some ⟨c2,o2+j * 4,none⟩),CD=.agg (aH a2 (o2+j * 4) 4).toArray,Dp=.map (some mb),A5=.bool r.1,Bc=.bool (!r.1)]/\(D 11=false->Inv w X [.blk b1 (.cells #[.int .i64 k,.int .i64 n,.string s,.slice (some ⟨c1,o1,none⟩) ks.length cap1] ab),.blk b2 (.cells #[.int .i64 k',.int .i64 n',.string s',.slice (some ⟨c2,o2,none⟩) ks'.length cap2] ab),.blk mb (.map es' ck')] S w_)/\(D 11=true->∃ es2 ck2,KnownM S es2 r.2/\Inv w X [.blk b1 (.cells #[.int .i64 k,.int .i64 n,.string s,.slice (some ⟨c1,o1,none⟩) ks.length cap1] ab),.blk b2 (.cells #[.int .i64 k',.int .i64 n',.string s',.slice (some ⟨c2,o2,none⟩) ks'.length cap2] ab),.blk mb (.map es2 ck2)] S w_)/\∃ es3 ck3,Inv w X [.blk b1 (.cells #[.int .i64 k,.int .i64 n,.string s,.slice (some ⟨c1,o1,none⟩) ks.length cap1] ab),.blk b2 (.cells #[.int .i64 k',.int .i64 n',.string s',.slice (some ⟨c2,o2,none⟩) ks'.length cap2] ab),.blk mb (.map es3 ck3)] S w_,⟨Fx.nil _ _,⟨fun _=>hI.draw,aV,es',ck',hI.draw⟩⟩,⟨?_,?_,?_,?_,?_,?_,?_,?_,?_,?_,?_,?_,?_,trivial⟩,?_⟩
  all_goals (intro D bn; intros; rename_i Bc A5 Dp CD Bn Bb AU Is OE OB FZ EP yd w_ hA_; have hF_:=hA_.1; obtain ⟨⟨bR,bQ,bG,bS,bU,bB,bD,cq,ci,cL,bH,bT,cH,_⟩,⟨hI0,hI1,es3,ck3,hI⟩⟩:=hA_)
  ·refine ai al ?_
   exact ⟨hF_.set 0 rfl,⟨hI0,hI1,es3,ck3,hI⟩⟩
  ·obtain rfl:=bR ‹_›
   refine aA hI 0 ah rfl rfl ?_
   exact ⟨hF_.set 1 rfl,⟨hI0,hI1,es3,ck3,hI⟩⟩
  ·exact ⟨hF_.set 2 rfl,⟨hI0,hI1,es3,ck3,hI⟩⟩
  ·obtain rfl:=bQ ‹_›
   obtain rfl:=bG ‹_›
   refine ar af hj1 ?_
   exact ⟨hF_.set 3 rfl,⟨hI0,hI1,es3,ck3,hI⟩⟩
  ·obtain rfl:=bS ‹_›
   refine bE ac hR1.length (fun j v hj=>by rw [hI.cellS hS1]; exact au rfl j v hj) ?_
   exact ⟨hF_.set 4 rfl,⟨hI0,hI1,es3,ck3,hI⟩⟩
  ·refine ai al ?_
   exact ⟨hF_.set 5 rfl,⟨hI0,hI1,es3,ck3,hI⟩⟩
  ·obtain rfl:=bB ‹_›
   refine aA hI 1 ah rfl rfl ?_
   exact ⟨hF_.set 6 rfl,⟨hI0,hI1,es3,ck3,hI⟩⟩
  ·exact ⟨hF_.set 7 rfl,⟨hI0,hI1,es3,ck3,hI⟩⟩
  ·obtain rfl:=bD ‹_›
   obtain rfl:=cq ‹_›
   refine ar af hj2 ?_
   exact ⟨hF_.set 8 rfl,⟨hI0,hI1,es3,ck3,hI⟩⟩
  ·obtain rfl:=ci ‹_›
   refine bE ac hR2.length (fun j v hj=>by rw [hI.cellS hS2]; exact au rfl j v hj) ?_
   exact ⟨hF_.set 9 rfl,⟨hI0,hI1,es3,ck3,hI⟩⟩
  ·exact ⟨hF_.set 10 rfl,⟨hI0,hI1,es3,ck3,hI⟩⟩
  ·obtain rfl:=bU ‹_›
   obtain rfl:=cL ‹_›
   obtain rfl:=bH ‹_›
   refine Run.call (A:=[_,_]) ja jp (hI0 bn) hcall fun v' I' S w_=>?_
   rintro ⟨rfl,rfl,es2,ck2,rfl,hk2⟩ _ hI
   have hI0:=fun (h:aG D 11 11=false)=>(Bool.noConfusion h:Inv w X [.blk b1 (.cells #[.int .i64 k,.int .i64 n,.string s,.slice (some ⟨c1,o1,none⟩) ks.length cap1] ab),.blk b2 (.cells #[.int .i64 k',.int .i64 n',.string s',.slice (some ⟨c2,o2,none⟩) ks'.length cap2] ab),.blk mb (.map es' ck')] S w_)
   have hI1:=fun (_:aG D 11 11=true)=>(⟨es2,ck2,hk2,hI⟩:∃ es2 ck2,KnownM S es2 r.2/\Inv w X [.blk b1 (.cells #[.int .i64 k,.int .i64 n,.string s,.slice (some ⟨c1,o1,none⟩) ks.length cap1] ab),.blk b2 (.cells #[.int .i64 k',.int .i64 n',.string s',.slice (some ⟨c2,o2,none⟩) ks'.length cap2] ab),.blk mb (.map es2 ck2)] S w_)
   obtain ⟨es3,ck3,hI⟩:∃ es3 ck3,Inv w X [.blk b1 (.cells #[.int .i64 k,.int .i64 n,.string s,.slice (some ⟨c1,o1,none⟩) ks.length cap1] ab),.blk b2 (.cells #[.int .i64 k',.int .i64 n',.string s',.slice (some ⟨c2,o2,none⟩) ks'.length cap2] ab),.blk mb (.map es3 ck3)] S w_:=⟨es2,ck2,hI⟩
   exact ⟨hF_.set 11 rfl,⟨hI0,hI1,es3,ck3,hI⟩⟩
  ·obtain rfl:=bT ‹_›
   refine bK ?_
   exact ⟨hF_.set 12 rfl,⟨hI0,hI1,es3,ck3,hI⟩⟩
  obtain ⟨rfl,rfl,rfl,rfl,rfl,rfl,rfl,rfl,rfl,rfl,rfl,rfl,rfl,_⟩:=hF_.all
  have jV:D 11=true:=by assumption
  clear hF_ bR bQ bG bS bU bB bD cq ci cL bH bT cH
  obtain ⟨es2,ck2,hk2,hI⟩:=hI1 jV
  clear hI0 hI1
  refine az (fun hne=>?_) (fun he'=>?_)
  ·simp only [Bool.not_eq_true'] at hne
   rw [hne,if_neg (by decide)] at hrel
   rw [<- hrel]
   exact ⟨_,_,_,rfl,hI.pick [false,false,true],Ext.refl _ _ _,rfl,rfl,_,_,rfl,hk2⟩
  ·simp only [Bool.not_eq_false'] at he'
   rw [he',if_pos rfl] at hrel
   refine bl (by omega) ?_
   exact ⟨⟨j+1,r.2,es2,ck2,hj2,rfl,hrel,hsn,hk2,hI⟩,by simp [intOf]; omega⟩
 ·have:j=ks'.length:=by omega
  subst this
  rw [List.drop_length,<- hle,List.drop_length] at hrel
  rw [<- hrel]
  exact ⟨_,_,_,rfl,hI.pick [false,false,true],Ext.refl _ _ _,rfl,rfl,_,_,rfl,hkc'⟩
end
end
section
open Go Go.RowKit

def st0:aF:=List.replicate 26 none
theorem HY:yF st0:=⟨by simp [st0],fun t ht=>by simp [st0] at ht⟩
theorem KnownM.empty (S:ae):KnownM S #[] st0:=by
 refine ⟨by simp,fun n t ht=>?_,by simp⟩
 rw [st0,List.getElem?_replicate] at ht
 split at ht <;> cases ht
theorem Ns:∀ {ts:List T},(∀ t∈ts,okV t)->Ec ts
 | [],_=>by simp [Ec]
 | t::ts,h=>by rw [Ec]; exact ⟨h t (List.mem_cons_self ..),Ns fun u hu=>h u (List.mem_cons_of_mem _ hu)⟩
theorem Ne:∀ {ts:List T},(∀ t∈ts,okK t)->Aq ts
 | [],_=>by simp [Aq]
 | t::ts,h=>by rw [Aq]; exact ⟨h t (List.mem_cons_self ..),Ne fun u hu=>h u (List.mem_cons_of_mem _ hu)⟩
theorem FG {c:C} (h:cC c=true):(okV c.head/\okK c.head)/\Ec c.body/\Aq c.body:=by
 rw [cC] at h
 simp only [Bool.and_eq_true,List.all_eq_true] at h
 obtain ⟨_,h2,h3,_⟩:=h
 have hb:∀ t∈c.body,okV t/\okK t:=fun t ht=>by
  have:=h2 t ht
  rw [ek,Bool.and_eq_true] at this
  exact iB this.1
 exact ⟨iB h3,Ns fun t ht=>(hb t ht).1,Ne fun t ht=>(hb t ht).2⟩
theorem Rm (z:Array Value) (hz:z=#[.int .i64 0,.int .i64 0,.string ⟨#[]⟩,.slice none 0 0]) (S:ae):KnownC S ((Array.range 104).map (z[· % z.size]!)) st0:=by
 subst hz
 refine ⟨by simp,fun i hi=>⟨fun _=>?_,fun t ht=>?_⟩⟩
 ·simp only [st0,List.length_replicate] at hi
  apply List.ext_getElem?
  intro j
  rw [aH,List.getElem?_take]
  match j with
  | 0|1|2|3=>
   rw [if_pos (by omega),List.getElem?_drop,Array.getElem?_toList,Array.getElem?_map,Array.getElem?_range,if_pos (by omega)]
   simp only [Option.map_some,List.size_toArray,List.length_cons,List.length_nil]
   first
    | rw [show (i * 4+0) % 4=0 by omega]; rfl
    | rw [show (i * 4+1) % 4=1 by omega]; rfl
    | rw [show (i * 4+2) % 4=2 by omega]; rfl
    | rw [show (i * 4+3) % 4=3 by omega]; rfl
  | j+4=>
   rw [if_neg (by omega)]
   rfl
 ·have e:st0[i]=none:=by simp only [st0,List.getElem_replicate]
  rw [e] at ht
  cases ht
section
variable {P:Program} {w w0:World} {X:List Nat} {L:List Item} {S:ae} {K:Value->World->Prop}
attribute [local irreducible] Run CondV aB aS
theorem ki (h:Inv w0 X L S w) {T ty e:TypeId} {k by_ n:Nat} {z:Value} (hT:fN P T=some (e,k,by_,z)) (hn:n<=4294967296) (hby:by_<=65536) (hn0:n * k≠0)
  (hk:∀ b w',Inv w0 X (L++[.blk b (.cells ((Array.range (n * k)).map (z.cells[· % z.cells.size]!)) e)]) S w'->K (.slice (some ⟨b,0,none⟩) n n) w') :
  Run P (sOp (.makeSlice T (.const (.int .i64 n)) (.const (.int .i64 n))) ty) w K:=by
 obtain ⟨hu,i,hi,hz,hs,hb,hzs⟩:=iS hT
 have hw:IntKind.i64.wrap (n:Int)=n:=IntWalk.i64_in _ (by omega)
 have hle:by_ * n<=2 ^ 48:=Nat.le_trans (Nat.mul_le_mul hby hn) (by decide)
 have h1:¬ ((n:Int)<0):=by omega
 have h2:¬ (281474976710656<(i.bytes:Int) * (n:Int)):=by
  rw [hb]
  have:((by_ * n:Nat):Int)<=((2 ^ 48:Nat):Int):=by exact_mod_cast hle
  have e:(((2 ^ 48:Nat)):Int)=281474976710656:=by decide
  rw [e,Int.natCast_mul] at this
  omega
 refine Run.of (v:=.slice (some ⟨w.heap.size,0,none⟩) n n) (w':={ w with heap:=w.heap.push (.cells ((Array.range (n * k)).map (z.cells[· % z.cells.size]!)) e) }) ?_ (hk _ _ (h.alloc _))
 simp [sOp,execOp,ev0,evE,Instr.makeSlice,run_underlying hu,asInt,asIntOf,typeInfo,hi,hw,h1,h2,sizeOf,hs,newRow,newObj,Sem.run,hn0,zeroValue,hz]
end
section
attribute [local irreducible] Run CondV aB aS
end
end
section
open Go Go.RowKit

section
variable {P:Program} {w w0:World} {X:List Nat} {L:List Item} {S:ae} {K:Value->World->Prop}
attribute [local irreducible] Run CondV aB aS
end
section
attribute [local irreducible] Run CondV aB aS
end
end
section
open Go Go.RowKit
section
variable {P:Program} {w:World} {K:Value->World->Prop}
attribute [local irreducible] Run
end
section
attribute [local irreducible] Run CondV aB aS
end
end
section
open Go Go.RowKit
mutual
theorem M7 (vs:List Int):∀ t:T,wT (gD vs t)=wT t
 | .mk k n s ks=>by rw [gD,wT,wT,xO,MW vs ks]
theorem MW (vs:List Int):∀ ts:List T,wL (my vs ts)=wL ts
 | []=>rfl
 | t::ts=>by rw [my,wL,wL,M7 vs t,MW vs ts]
end
section
attribute [local irreducible] Run CondV aB aS
theorem TrC.zero:TrC [] [.int .i64 0,.int .i64 0,.string ⟨#[]⟩,.slice none 0 0,.slice none 0 0] ⟨⟨0,0,⟨#[]⟩,[]⟩,[]⟩:=
 ⟨[.int .i64 0,.int .i64 0,.string ⟨#[]⟩,.slice none 0 0],.slice none 0 0,[],[],rfl,rfl,TrT.iff.2 ⟨_,rfl,by simp [inI,T.kind],by simp [inI,T.n],by rw [T.name]; decide +kernel,TrSl.nil (by simp [maxLen])⟩,TrSl.nil (by simp [maxLen])⟩
end
end
section
open Go Go.RowKit
section
variable {P:Program} {w:World} {K:Value->World->Prop}
attribute [local irreducible] Run
theorem y0 {T:TypeId} {cx cy:Bool} {a b:Int} (hr:-9223372036854775808<=a * b/\a * b<=9223372036854775807) (hk:K (.int .i64 (a * b)) w):Run P (cS .mul T cx cy (.int .i64 a) (.int .i64 b)) w K:=by
 refine Run.of ?_ hk
 simp [cS,cP,binOp,Op.intArith,IntWalk.i64_in _ hr]
end
section
attribute [local irreducible] Run CondV aB aS
end
end
section
open Go Go.RowKit

abbrev Bs:=List UInt8
abbrev bs (s:ByteArray):Bs:=s.data.toList
abbrev st (l:Bs):ByteArray:=⟨l.toArray⟩
theorem Fq (l:Bs):bs (st l)=l:=by simp [bs]
theorem kw (l:Bs):(st l).size=l.length:=by simp [ByteArray.size]

def sgn (s:Bs) (i:Nat) (c:Nat):Bool:=match s[i]? with
 | some b=>decide (b.toNat=c)
 | none=>false
def btw (s:Bs) (i:Nat) (a b:Nat):Bool:=match s[i]? with
 | some x=>decide (a<=x.toNat) && decide (x.toNat<=b)
 | none=>false
def sml (s:Bs) (i:Nat):Bool:=btw s i 97 122
def dig (s:Bs) (i:Nat):Bool:=btw s i 48 57
def upp (s:Bs) (i:Nat):Bool:=btw s i 65 90
def cut (s:Bs) (a b:Nat):Bs:=(s.take b).drop a

def Ah (s:Bs):Nat->Nat->Nat
 | 0,e=>e
 | n+1,e=>if sml s e=true then Ah s n (e+1) else e
def iK (s:Bs) (i:Nat):List ByteArray->Bs->Bs
 | [],b=>b
 | x::l,b=>iK s i l (if decide (i+x.size<=s.length)=true/\cut s i (i+x.size)=bs x/\b.length<x.size then bs x else b)
def wo (s:Bs) (i:Nat):Option (Bs × Nat):=
 let e:=Ah s (s.length - i) i
 if i+6<e then none else if i<e then some (cut s i e,e) else
  let b:=iK s i signs []
  if b=[] then none else some (b,i+b.length)
def r5 (s:Bs):Nat->Nat->Nat
 | 0,e=>e
 | n+1,e=>if dig s e=true then r5 s n (e+1) else e
def EG:Bs->Nat->Nat
 | [],n=>n
 | b::l,n=>EG l (n * 10+(b.toNat - 48))
def ON (s:Bs) (i:Nat):Option (T × Nat):=
 let from_:=if sgn s i 45=true then i+1 else i
 let e:=r5 s 4 from_
 let d:=cut s from_ e
 let n:=EG d 0
 if d=[] ∨ (sgn d 0 48=true/\1<d.length) ∨ (i<from_/\n=0) ∨ 999<n then none
 else some (.mk 2 (if i<from_ then -(n:Int) else n) emptyB [],e)
def JT (name:Bs) (kids:List T):T:=.mk 3 0 (st name) kids
def R7:T:=JT [91,93] []
def IY (a b:T):T:=JT [46] [a,b]
def i4:List T->T->T
 | [],t=>t
 | a::l,t=>IY a (i4 l t)
def opF (s:Bs) (i:Nat):Option (Bs × Nat):=
 let from_:=if sgn s i 32=true then i+1 else i
 if s.length<=from_ then none else match wo s from_ with
  | none=>none
  | some (name,next)=>
   let word:=decide (name=[105,115]) || decide (name=[109,111,100])
   if cn (st name)=0 ∨ word≠decide (i<from_) ∨ (word=true/\sgn s next 32=false) then none
   else some (name,if word=true then next+1 else next)
mutual
def io:Nat->Bs->Nat->Nat->Nat->Option (T × Nat)
 | 0,_,_,_,_=>none
 | f+1,s,i,d,0=>tF f s i d
 | f+1,s,i,d,l+1=>match io f s i d l with
  | none=>none
  | some (t,n)=>JS f s n d l t
def JS:Nat->Bs->Nat->Nat->Nat->T->Option (T × Nat)
 | 0,_,_,_,_,_=>none
 | f+1,s,i,d,l,t=>match opF s i with
  | none=>some (t,i)
  | some (name,after)=>if cn (st name)=((l+1:Nat):Int) then match io f s after d l with
    | none=>none
    | some (r,e)=>if l=2 then some (JT name [t,r],e) else JS f s e d l (JT name [t,r])
   else some (t,i)
def tF:Nat->Bs->Nat->Nat->Option (T × Nat)
 | 0,_,_,_=>none
 | f+1,s,i,d=>if d=0 ∨ s.length<=i then none else if sgn s i 40=true then match io f s (i+1) d 3 with
    | none=>none
    | some (t,n)=>if sgn s n 41=true then some (t,n+1) else none
  else if sgn s i 91=true/\sgn s (i+1) 93=false then match im f s (i+1) (d - 1) 93 124 [] with
    | none=>none
    | some (ts,n)=>if sgn s n 93=true then some (i4 ts R7,n+1) else match io f s (n+1) (d - 1) 3 with
     | none=>none
     | some (t,e)=>if sgn s e 93=true then some (i4 ts t,e+1) else none
  else if upp s i=true then some (.mk 1 ((s.getD i 0).toNat - 65) emptyB [],i+1)
  else if dig s i=true ∨ (sgn s i 45=true/\dig s (i+1)=true) then ON s i
  else match wo s i with
   | none=>none
   | some (name,n)=>if sgn s n 40=false then some (JT name [],n) else match im f s (n+1) (d - 1) 41 41 [] with
    | none=>none
    | some (ts,e)=>some (JT name ts,e+1)
def im:Nat->Bs->Nat->Nat->Nat->Nat->List T->Option (List T × Nat)
 | 0,_,_,_,_,_,_=>none
 | f+1,s,i,d,e,o,acc=>match io f s i d 3 with
  | none=>none
  | some (t,n)=>if sgn s n e=true ∨ sgn s n o=true then some (acc++[t],n) else if sgn s n 44=true then im f s (n+1) d e o (acc++[t]) else none
end

def oR (t:T):Bool:=decide (t.kind=3) && (decide (t.kids.length=2) && decide (0<cn t.name))
def Cr (t:T):Bool:=decide (t.kind=3) && (decide (t.name=st [46]) && decide (t.kids.length=2))
def PU (t:T):Bool:=decide (t.kind=3) && (decide (t.name=st [91,93]) && decide (t.kids.length=0))
def zX (t:T):Bool:=decide (t.kind=3) && (decide (t.kids.length=0) && decide (0<cn t.name))
def Hp (s:Bs):Bool:=sml s 0 || (dig s 0 || (upp s 0 || (sgn s 0 91 || sgn s 0 40)))
def iw (n:Bs):Bs:=if n=[105,115] ∨ n=[109,111,100] then 32::(n++[32]) else n
def EC:Nat->Nat->Bs->Option Bs
 | 0,_,_=>none
 | f+1,n,out=>if 9<n then EC f (n / 10) (UInt8.ofNat (48+n % 10)::out) else some (UInt8.ofNat (48+n)::out)
def Sk (n:Int):Option Bs:=if n<0 then (EC 20 (-n).toNat []).map fun l=>45::l else EC 20 n.toNat []
def Pf (t:T):Option Bs:=if t.kind=1 then (if 0<=t.n/\t.n<=25 then some [UInt8.ofNat (65+t.n.toNat)] else none)
 else if t.kind=2 then (if -999<=t.n/\t.n<=999 then Sk t.n else none) else if t.kids.length=0 then some (bs t.name) else none
mutual
def HE:Nat->T->Option Bs
 | 0,_=>none
 | f+1,t=>if Cr t=true then Fi f t [] else if oR t=true then match t.kids with
   | [a,b]=>match Nq f a (if cn t.name=3 then 2 else cn t.name),H8 f b (cn t.name - 1) with
    | some x,some y=>some (x++iw (bs t.name)++y)
    | _,_=>none
   | _=>none
  else if t.kind=3/\0<t.kids.length then match oV f t.kids [] with
   | some x=>some (bs t.name++[40]++x++[41])
   | none=>none
  else Pf t
def Fi:Nat->T->List T->Option Bs
 | 0,_,_=>none
 | f+1,t,items=>if Cr t=true then match t.kids with
   | [a,b]=>Fi f b (items++[a])
   | _=>none
  else match oV f items [] with
   | none=>none
   | some x=>if PU t=true then some ([91]++x++[93]) else match HE f t with
    | none=>none
    | some y=>some ([91]++x++[124]++y++[93])
def oV:Nat->List T->Bs->Option Bs
 | 0,_,_=>none
 | _+1,[],out=>some out
 | f+1,t::l,out=>match HE f t with
  | none=>none
  | some x=>oV f l (out++x++(if l=[] then [] else [44]))
def pL:Nat->T->Int->Option Bs
 | 0,_,_=>none
 | f+1,t,l=>match HE f t with
  | none=>none
  | some x=>some (if oR t=true/\l<cn t.name then [40]++x++[41] else x)
def Nq:Nat->T->Int->Option Bs
 | 0,_,_=>none
 | f+1,t,l=>if zX t=true then match HE f t with
   | none=>none
   | some x=>some ([40]++x++[41])
  else pL f t l
def H8:Nat->T->Int->Option Bs
 | 0,_,_=>none
 | f+1,t,l=>match pL f t l with
  | none=>none
  | some x=>if x=[] then none else some (if zX t=true ∨ Hp x=false then [40]++x++[41] else x)
end
def yV (f:Nat):List T->Bool->Bs->Option Bs
 | [],_,out=>some out
 | t::l,first,out=>match HE f t with
  | none=>none
  | some x=>yV f l false (out++(if first=true then [58,45] else [44])++x)
def Ng (f:Nat) (c:C):Option Bs:=match HE f c.head with
 | none=>none
 | some x=>match yV f c.body true x with
  | none=>none
  | some y=>some (y++[46])

def oi (f:Nat):Nat->Bs->Nat->List T->Option (List T × Nat)
 | 0,_,_,_=>none
 | k+1,s,i,acc=>if 6<acc.length then none else match io f s i 30 3 with
  | none=>none
  | some (t,n)=>if sgn s n 44=true then oi f k s (n+1) (acc++[t]) else some (acc++[t],n)
def NV (f:Nat) (s:Bs) (c:C) (n:Nat):Option C:=
 if n+1=s.length/\sgn s n 46=true/\cC c=true/\wC c<=200/\Ng f c=some s then some c else none
def wc (f:Nat) (s:Bs):Option C:=if 1000<s.length then none else match io f s 0 30 3 with
 | none=>none
 | some (h,n)=>if sgn s n 58=true/\sgn s (n+1) 45=true then match oi f 8 s (n+2) [] with
   | none=>none
   | some (b,n2)=>NV f s ⟨h,b⟩ n2
  else NV f s ⟨h,[]⟩ n
def DQ (s:Bs) (c:Nat):Nat->Nat->Nat->List Bs->List Bs
 | 0,i,from_,acc=>acc++[cut s from_ i]
 | n+1,i,from_,acc=>if sgn s i c=true then DQ s c n (i+1) (i+1) (acc++[cut s from_ i]) else DQ s c n (i+1) from_ acc
def PW (s:Bs):List Bs:=DQ s 10 s.length 0 0 []
def lG (f:Nat):List Bs->List C->Option (List C)
 | [],acc=>some acc
 | l::ls,acc=>match wc f l with
  | none=>none
  | some c=>lG f ls (acc++[c])
def Nc (f:Nat) (s:Bs):Option (List C):=
 let ls:=PW s
 if 21<ls.length ∨ ls.getLast?≠some [] then none else lG f ls.dropLast []
def O8 (s:Bs):Bool:=match Nc 60 s with
 | some p=>decide (0<p.length) && (decide (p.length<=8) && p.all fun c=>cC c && decide (wC c<=200))
 | none=>false
end
section
open Go Go.RowKit
section
variable {P:Program} {w w0:World} {X:List Nat} {L:List Item} {S:ae} {K:Value->World->Prop}
theorem Co {T:TypeId} {cx cy:Bool} {k:IntKind} {a b:Int} (h:a<b) (hk:K (.bool true) w):Run P (cS .lss T cx cy (.int k a) (.int k b)) w K:=by
 refine bq ?_
 rw [decide_eq_true h]
 exact hk
theorem eO {T:TypeId} {cx cy:Bool} {k:IntKind} {a b:Int} (h:¬ (a<b)) (hk:K (.bool false) w):Run P (cS .lss T cx cy (.int k a) (.int k b)) w K:=by
 refine bq ?_
 rw [decide_eq_false h]
 exact hk
theorem HL {T:TypeId} {cx cy:Bool} {k:IntKind} {a b:Int} (h:a<=b) (hk:K (.bool true) w):Run P (cS .leq T cx cy (.int k a) (.int k b)) w K:=by
 refine eC ?_
 rw [decide_eq_true h]
 exact hk
theorem PL {T:TypeId} {cx cy:Bool} {k:IntKind} {a b:Int} (h:¬ (a<=b)) (hk:K (.bool false) w):Run P (cS .leq T cx cy (.int k a) (.int k b)) w K:=by
 refine eC ?_
 rw [decide_eq_false h]
 exact hk
theorem KQ {T:TypeId} {cx cy:Bool} {k:IntKind} {a b:Int} (h:b<a) (hk:K (.bool true) w):Run P (cS .gtr T cx cy (.int k a) (.int k b)) w K:=by
 refine dl ?_
 rw [decide_eq_true h]
 exact hk
theorem jQ {T:TypeId} {cx cy:Bool} {k:IntKind} {a b:Int} (h:¬ (b<a)) (hk:K (.bool false) w):Run P (cS .gtr T cx cy (.int k a) (.int k b)) w K:=by
 refine dl ?_
 rw [decide_eq_false h]
 exact hk
theorem oj {T:TypeId} {cx cy:Bool} {k:IntKind} {a b:Int} (h:b<=a) (hk:K (.bool true) w):Run P (cS .geq T cx cy (.int k a) (.int k b)) w K:=by
 refine fw ?_
 rw [decide_eq_true h]
 exact hk
theorem xR {T:TypeId} {cx cy:Bool} {k:IntKind} {a b:Int} (h:¬ (b<=a)) (hk:K (.bool false) w):Run P (cS .geq T cx cy (.int k a) (.int k b)) w K:=by
 refine fw ?_
 rw [decide_eq_false h]
 exact hk
theorem fL {T:TypeId} {cx cy:Bool} {k:IntKind} {a b:Int} (h:a=b) (hk:K (.bool true) w):Run P (cS .eql T cx cy (.int k a) (.int k b)) w K:=by
 refine aZ ?_
 rw [decide_eq_true h]
 exact hk
theorem eD {T:TypeId} {cx cy:Bool} {k:IntKind} {a b:Int} (h:¬ (a=b)) (hk:K (.bool false) w):Run P (cS .eql T cx cy (.int k a) (.int k b)) w K:=by
 refine aZ ?_
 rw [decide_eq_false h]
 exact hk
theorem RX {T:TypeId} {cx cy:Bool} {a b:Nat} (hb:0<b) (ha:a<=9223372036854775807) (hk:K (.int .i64 ((a / b:Nat):Int)) w):Run P (cS .quo T cx cy (.int .i64 (a:Int)) (.int .i64 (b:Int))) w K:=by
 refine Run.of ?_ hk
 have h0:¬ ((b:Int)=0):=by omega
 have h1:IntKind.i64.wrap ((a:Int).tdiv b)=((a / b:Nat):Int):=by
  rw [IntWalk.i64_quo _ _ (by omega)]; rfl
 simp only [cS,cP,binOp,Op.intDiv,Sem.run_bind,Result.andThen_ok,if_neg h0,Sem.run_pure]
 exact congrArg (fun v=>Result.ok (Next.value (.int .i64 v)) w) h1
theorem Lk {T:TypeId} {cx cy:Bool} {a b:Nat} (hb:0<b) (hk:K (.int .i64 ((a % b:Nat):Int)) w):Run P (cS .rem T cx cy (.int .i64 (a:Int)) (.int .i64 (b:Int))) w K:=by
 refine Run.of ?_ hk
 have h1:(a:Int).tmod b=((a % b:Nat):Int):=by
  rw [IntWalk.rem_in _ _ (by omega)]; rfl
 have h0:¬ ((b:Int)=0):=by omega
 simp only [cS,cP,binOp,Op.intDiv,Sem.run_bind,Result.andThen_ok,if_neg h0,Sem.run_pure]
 exact congrArg (fun v=>Result.ok (Next.value (.int .i64 v)) w) h1
theorem Sg {T:TypeId} {cx cy:Bool} {a b:Nat} (ha:a<4611686018427387904) (hb:b<4611686018427387904) (hk:K (.int .i64 ((a ^^^ b:Nat):Int)) w):Run P (cS .xor T cx cy (.int .i64 (a:Int)) (.int .i64 (b:Int))) w K:=by
 refine Run.of ?_ hk
 have hx:a ^^^ b<2 ^ 62:=Nat.xor_lt_two_pow (by simpa using ha) (by simpa using hb)
 have e1:(BitVec.ofInt 64 (a:Int)).toNat=a:=by rw [BitVec.toNat_ofInt]; omega
 have e2:(BitVec.ofInt 64 (b:Int)).toNat=b:=by rw [BitVec.toNat_ofInt]; omega
 have h1:IntKind.i64.wrap ((BitVec.ofInt 64 (a:Int) ^^^ BitVec.ofInt 64 (b:Int)).toNat:Int)=((a ^^^ b:Nat):Int):=by
  rw [BitVec.toNat_xor,e1,e2]
  exact IntWalk.i64_in _ (by omega)
 simp only [cS,cP,binOp,Op.intBits,Sem.run_bind,Result.andThen_ok,Sem.run_pure]
 exact congrArg (fun v=>Result.ok (Next.value (.int .i64 v)) w) h1
theorem SR {T:TypeId} {cx cy:Bool} {k:IntKind} {a b c:Int} (hr:k.wrap (a+b)=c) (hk:K (.int k c) w):Run P (cS .add T cx cy (.int k a) (.int k b)) w K:=
 Run.of (by simp [cS,cP,binOp,Op.intArith,hr]) hk
theorem PE {T:TypeId} {cx cy:Bool} {k:IntKind} {a b c:Int} (hr:k.wrap (a - b)=c) (hk:K (.int k c) w):Run P (cS .sub T cx cy (.int k a) (.int k b)) w K:=
 Run.of (by simp [cS,cP,binOp,Op.intArith,hr]) hk
theorem qT {src dst ty:TypeId} {k k':IntKind} {n m:Int} {d:TypeDesc} (hs:P.underlying src=some d) (hd:P.underlying dst=some (.int k')) (hr:k'.wrap n=m) (hk:K (.int k' m) w) :
  Run P (sOp (.convert src dst (.const (.int k n))) ty) w K:=by
 refine Run.of ?_ hk
 simp [sOp,execOp,ev0,evE,convert,run_underlying hs,run_underlying hd,Conv.intToInt,hr]
theorem RQ {T ty:TypeId} {n:Int} (hr:-9223372036854775808<=-n/\-n<=9223372036854775807) (hk:K (.int .i64 (-n)) w):Run P (sOp (.unOp .neg T (.const (.int .i64 n))) ty) w K:=
 Run.of (by simp [sOp,execOp,ev0,evE,Op.unary,Op.intArith,Int.zero_sub,IntWalk.i64_in _ hr]) hk
theorem SQ (a b:Bs):st a++st b=st (a++b):=by
 apply ByteArray.ext
 simp [st]
theorem dJ {T:TypeId} {cx cy:Bool} {a b:Bs} (hl:a.length+b.length<=9223372036854775807) (hk:K (.string (st (a++b))) w):Run P (cS .add T cx cy (.string (st a)) (.string (st b))) w K:=by
 refine Run.of ?_ hk
 have h1:¬ (9223372036854775807<(((st a).size+(st b).size:Nat):Int)):=by rw [kw,kw]; omega
 have h2:IntKind.i64.max=9223372036854775807:=by decide
 simp only [cS,binOp,Op.stringOp,Sem.run_bind,qh,Result.andThen_ok,gt_iff_lt,h2,if_neg h1,Sem.run_pure,SQ]
theorem Ss (s:Bs) (a b:Nat):(st s).extract a b=st (cut s a b):=by
 apply ByteArray.ext
 apply Array.toList_inj.1
 simp [cut,ByteArray.data_extract,List.drop_take]
theorem De {T ty:TypeId} {s:Bs} {a b:Nat} (hu:P.underlying T=some .string) (hab:a<=b) (hb:b<=s.length) (hk:K (.string (st (cut s a b))) w) :
  Run P (sOp (.slice T (.const (.string (st s))) (some (.const (.int .i64 a))) (some (.const (.int .i64 b))) none) ty) w K:=by
 refine Run.of ?_ hk
 have hb':b<=(st s).size:=by rw [kw]; exact hb
 simp [sOp,execOp,ev0,evE,Instr.sliceAt,Instr.slice,Instr.sliceBounds,run_underlying hu,kG hab,kG hb',Ss]
theorem eA {T ty:TypeId} {s:Bs} {i:Nat} (hu:P.underlying T=some .string) (hi:i<s.length) (hk:K (.int .u8 s[i].toNat) w) :
  Run P (sOp (.index T (.const (.string (st s))) (.const (.int .i64 i))) ty) w K:=by
 have hi':i<(st s).size:=by rw [kw]; exact hi
 refine kT hu hi' ?_
 have:(st s)[i]=s[i]:=by simp [st,ByteArray.getElem_eq_getElem_data]
 rw [this]
 exact hk
theorem fA {T ty:TypeId} {cs:List Bool} {s:Bs} (hu:P.underlying T=some .string) (hk:K (.int .i64 s.length) w):Run P (bI .len #[T] ty cs [.string (st s)]) w K:=by
 refine fQ hu ?_
 rw [kw]
 exact hk
theorem Ca {T:TypeId} {cx cy:Bool} {a b:Bs} (hk:K (.bool (decide (a=b))) w):Run P (cS .eql T cx cy (.string (st a)) (.string (st b))) w K:=by
 refine bg ?_
 have:decide (st a=st b)=decide (a=b):=by
  rw [decide_eq_decide]
  exact ⟨fun h=>by rw [<- Fq a,h,Fq],fun h=>by rw [h]⟩
 rw [this]
 exact hk
theorem Nw {T:TypeId} {cx cy:Bool} {a b:Bs} (hk:K (.bool (!decide (a=b))) w):Run P (cS .neq T cx cy (.string (st a)) (.string (st b))) w K:=by
 refine yM ?_
 have:decide (st a=st b)=decide (a=b):=by
  rw [decide_eq_decide]
  exact ⟨fun h=>by rw [<- Fq a,h,Fq],fun h=>by rw [h]⟩
 rw [this]
 exact hk
theorem Be (h:Inv w0 X L S w) {T T' D ty e:TypeId} {by_:Nat} {z:Value} {n:Nat} (hT:fN P T=some (e,1,by_,z)) (he:P.underlying T'=some (.slice e)) (hb:P.underlying e=some (.int .u8)) (hD:P.underlying D=some .string)
  {K:Value->Value->World->Prop} (hk:∀ w',Inv w0 X L S w'->K (.slice (some ⟨w.heap.size,0,none⟩) 1 1) (.string (st [UInt8.ofNat n])) w') :
  Run P (bA T 1 [(0,.int .u8 (n:Int))]) w fun u w'=>Run P (sOp (.convert T' D (.const u)) ty) w' (K u):=by
 refine rF h hT rfl (by omega) (by omega) fun w' hI=>?_
 have hi:(L++[Item.blk w.heap.size (.cells (Value.int .u8 (n:Int)).cells e)])[L.length]?=some (.blk w.heap.size (.cells (Value.int .u8 (n:Int)).cells e)):=by
  rw [List.getElem?_append_right (Nat.le_refl _),Nat.sub_self]; rfl
 have hc:w'.cell? ⟨w.heap.size,0,none⟩=some (.int .u8 (n:Int)):=by rw [hI.cellL hi]; rfl
 have hl:=run_loadCells_list (P:=P) (w:=w') ⟨w.heap.size,0,none⟩ [.int .u8 (n:Int)] (fun j v hj=>by
  match j with
  | 0=>simp only [List.getElem?_cons_zero,Option.some.injEq] at hj; subst hj; rw [jg]; exact hc
  | j+1=>simp at hj)
 simp only [List.length_cons,List.length_nil] at hl
 refine Run.of (w':=w') ?_ (hk _ (hI.sub (List.sublist_append_left _ _)))
 simp [sOp,execOp,ev0,evE,convert,run_underlying he,run_underlying hb,run_underlying hD,Conv.bytesToString,hl,st]
 rfl
end
end
end Go.Proofs.YtfcbhfjomgopbaaGreat

/- spec.l3Unify. -/
import Derived.Test.YtcpgagfdeflbkaaGreatDoorZMv5
import Derived.Test.YtcpgagfdeflbkaaGreatDoorZMv2
import Derived.Test.YtcpgagfdeflbkaaGreatDoorZMv4
import Derived.Test.YtcpgagfdeflbkaaGreatDoorZMv1
namespace Go.Proofs.YtcpgagfdeflbkaaGreatDoor
section
open Go Go.RowKit
inductive Chain (Call:ah->T->T->Bool->ah->Prop):ah->List T->List T->Bool->ah->Prop
 | nil {st:ah}:Chain Call st [] [] true st
 | stop {st st':ah} {a b:T} {xs ys:List T}:Call st a b false st'->Chain Call st (a::xs) (b::ys) false st'
 | go {st st1 st':ah} {a b:T} {xs ys:List T} {r:Bool}:Call st a b true st1->Chain Call st1 xs ys r st'->Chain Call st (a::xs) (b::ys) r st'
theorem Chain.head {Call:ah->T->T->Bool->ah->Prop} {st st':ah} {a b:T} {xs ys:List T} {r:Bool} (h:Chain Call st (a::xs) (b::ys) r st') :
  ∃ r1 st1,Call st a b r1 st1/\(r1=false->r=false/\st'=st1)/\(r1=true->Chain Call st1 xs ys r st'):=by
 cases h with
 | stop h=>exact ⟨false,_,h,fun _=>⟨rfl,rfl⟩,fun e=>(by cases e)⟩
 | go h h'=>exact ⟨true,_,h,fun e=>(by cases e),fun _=>h'⟩
theorem Chain.done {Call:ah->T->T->Bool->ah->Prop} {st st':ah} {r:Bool} (h:Chain Call st [] [] r st'):r=true/\st'=st:=by
 cases h
 exact ⟨rfl,rfl⟩
def NT (Call:ah->T->T->Bool->ah->Prop) (st:ah) (a' b':T) (r:Bool) (st':ah):Prop:=
 (a'.kind=1/\b'.kind=1/\a'.n=b'.n/\r=true/\st'=st) ∨
 (a'.kind=1/\¬ (b'.kind=1/\a'.n=b'.n)/\((¬ fj st a'.n.toNat b'/\r=true/\st'=st.set a'.n.toNat (some b')) ∨ (fj st a'.n.toNat b'/\r=false/\st'=st))) ∨
 (a'.kind≠1/\b'.kind=1/\((¬ fj st b'.n.toNat a'/\r=true/\st'=st.set b'.n.toNat (some a')) ∨ (fj st b'.n.toNat a'/\r=false/\st'=st))) ∨
 (a'.kind≠1/\b'.kind≠1/\((tg a' b'=false/\r=false/\st'=st) ∨ (tg a' b'=true/\Chain Call st a'.kids b'.kids r st')))
theorem Uni.calls {N:Nat} {Call:ah->T->T->Bool->ah->Prop} (hcall:∀ st a b a' b' r st',Good N st->okJ N (.one a b)->cK st a a'->cK st b b'->NT Call st a' b' r st'->Call st a b r st') {st st':ah} {j:Job} {r:Bool} (hu:Uni st j r st') :
  Good N st->okJ N j->match j with
   | .one a b=>Call st a b r st'
   | .list xs ys=>Chain Call st xs ys r st':=by
 induction hu with
 | same h1 h2 h3 h4 h5=>exact fun hg hj=>hcall _ _ _ _ _ _ _ hg hj h1 h2 (.inl ⟨h3,h4,h5,rfl,rfl⟩)
 | bindA h1 h2 h3 h4 h5=>exact fun hg hj=>hcall _ _ _ _ _ _ _ hg hj h1 h2 (.inr (.inl ⟨h3,h4,.inl ⟨h5,rfl,rfl⟩⟩))
 | occA h1 h2 h3 h4 h5=>exact fun hg hj=>hcall _ _ _ _ _ _ _ hg hj h1 h2 (.inr (.inl ⟨h3,h4,.inr ⟨h5,rfl,rfl⟩⟩))
 | bindB h1 h2 h3 h4 h5=>exact fun hg hj=>hcall _ _ _ _ _ _ _ hg hj h1 h2 (.inr (.inr (.inl ⟨h3,h4,.inl ⟨h5,rfl,rfl⟩⟩)))
 | occB h1 h2 h3 h4 h5=>exact fun hg hj=>hcall _ _ _ _ _ _ _ hg hj h1 h2 (.inr (.inr (.inl ⟨h3,h4,.inr ⟨h5,rfl,rfl⟩⟩)))
 | clash h1 h2 h3 h4 h5=>exact fun hg hj=>hcall _ _ _ _ _ _ _ hg hj h1 h2 (.inr (.inr (.inr ⟨h3,h4,.inl ⟨h5,rfl,rfl⟩⟩)))
 | kids h1 h2 h3 h4 h5 _ ih=>
  exact fun hg hj=>hcall _ _ _ _ _ _ _ hg hj h1 h2 (.inr (.inr (.inr ⟨h3,h4,.inr ⟨h5,ih hg ⟨jx (eI hg h1 hj.1),jx (eI hg h2 hj.2),sT h5⟩⟩⟩)))
 | nil=>exact fun _ _=>.nil
 | stop _ ih=>exact fun hg hj=>.stop (ih hg ⟨hj.1 _ (List.mem_cons_self ..),hj.2.1 _ (List.mem_cons_self ..)⟩)
 | go h1 _ ih1 ih2=>
  intro hg hj
  have hj1:okJ N (.one _ _):=⟨hj.1 _ (List.mem_cons_self ..),hj.2.1 _ (List.mem_cons_self ..)⟩
  exact .go (ih1 hg hj1) (ih2 (h1.good hg hj1).1 ⟨fun a ha=>hj.1 a (List.mem_cons_of_mem _ ha),fun b hb=>hj.2.1 b (List.mem_cons_of_mem _ hb),by have:=hj.2.2; simpa using this⟩)
section
attribute [local irreducible] Run CondV ao aI
set_option maxHeartbeats 1000000 in
end
end
section
open Go Go.RowKit
mutual
def Jw:T->Int->Bool
 | .mk _ _ _ ks,d=>if d<1 then false else IQ ks (d - 1)
def IQ:List T->Int->Bool
 | [],_=>true
 | t::ts,d=>Jw t d && IQ ts d
end
theorem xJ:∀ (ts:List T) (d:Int),IQ ts d=ts.all fun t=>Jw t d
 | [],_=>rfl
 | t::ts,d=>by rw [IQ,xJ ts d]; rfl
def bB (u:T):Bool:=decide (dk u<=120) && Jw u 30
theorem JA (us:List T) (j:Nat) (h:j<us.length):co (us.take (j+1))=co (us.take j)+dk us[j]:=by
 induction us generalizing j with
 | nil=>simp at h
 | cons u us ih=>
  cases j with
  | zero=>simp only [List.take_succ_cons,List.take_zero,List.getElem_cons_zero,co]; omega
  | succ j=>
   have:=ih j (by simpa using h)
   simp only [List.take_succ_cons,List.getElem_cons_succ,co] at *
   omega
theorem Cd (us:List T) (j:Nat):co (us.take j)<=co us:=by
 induction us generalizing j with
 | nil=>simp
 | cons u us ih=>
  cases j with
  | zero=>simp only [List.take_zero]; exact d3 _
  | succ j=>
   have:=ih j
   simp only [List.take_succ_cons,co]
   omega
theorem B7 (k n:Int) (s:ByteArray) (ks:List T):dk (.mk k n s ks)=1+co ks:=rfl
theorem xp {w:World} {v:Value} {e:TypeId} {k n:Nat} {xs:List Value} (h:(Item.row v e k n xs).holds w):v.cells=#[v]/\v.oneCell'=true:=by
 have h:w.ownsRow 0 e k v n xs:=h
 rcases h.2 with ⟨rfl,_⟩|⟨g,cap,cur,rfl,_⟩ <;> exact ⟨rfl,rfl⟩
section
attribute [local irreducible] Run CondV ao aI
theorem r5 {K:Value->World->Prop} {w:World} (hk:K (.agg #[.int .i64 0,.int .i64 0,.string ⟨#[]⟩,.slice none 0 0]) w):Run Tryz.prog (bJ ab []) w K:=by
 refine Run.of ?_ hk
 kernel_rfl
theorem sM:∀ x∈([.int .i64 0,.int .i64 0,.string ⟨#[]⟩,.slice none 0 0]:List Value),x.oneCell'=true:=by simp [Value.oneCell']
end
end
section
open Go Go.RowKit
mutual
def cH (m:Int):T->T
 | .mk k n s ks=>.mk k (if k=1 then n+m else n) s (eB m ks)
def eB (m:Int):List T->List T
 | []=>[]
 | t::ts=>cH m t::eB m ts
end
theorem qs (m:Int):∀ ts:List T,eB m ts=ts.map (cH m)
 | []=>rfl
 | t::ts=>by rw [eB,qs m ts]; rfl
section
attribute [local irreducible] Run CondV ao aI
end
end
section
open Go Go.RowKit
def RdG (S:ad) (cs:List Value) (g:T × Int):Prop:=∃ hd,cs=hd++[.int .i64 g.2]/\RdT S hd g.1
theorem RdG.length {S:ad} {cs:List Value} {g:T × Int} (h:RdG S cs g):cs.length=5:=by
 obtain ⟨hd,rfl,h⟩:=h; simp [h.length]
theorem RdG.one {S:ad} {cs:List Value} {g:T × Int} (h:RdG S cs g):∀ u∈cs,u.oneCell'=true:=by
 obtain ⟨hd,rfl,h⟩:=h
 intro u hu
 rcases List.mem_append.1 hu with hu|hu
 ·exact h.one u hu
 ·rw [List.mem_singleton] at hu; subst hu; rfl
theorem RdG.mono {S S':ad} {cs:List Value} {g:T × Int} (hs:Sle S S') (h:RdG S cs g):RdG S' cs g:=by
 obtain ⟨hd,rfl,h⟩:=h; exact ⟨hd,rfl,h.mono hs⟩
theorem RdSl.monoG {S S':ad} {v:Value} {gs:List (T × Int)} (hs:Sle S S') (h:RdSl S 5 (RdG S) v gs):RdSl S' 5 (RdG S') v gs:=h.mono hs fun _ _=>RdG.mono hs
section
variable {w:World} {K:Value->World->Prop}
attribute [local irreducible] Run
end
section
attribute [local irreducible] Run CondV ao aI
end
end
section
open Go Go.RowKit
theorem D0 {s:ByteArray} (h:i5 s=true):s.size<=6:=by
 rw [i5,Bool.or_eq_true] at h
 rcases h with h|h
 ·rw [jt] at h
  simp only [Bool.and_eq_true,decide_eq_true_eq] at h
  exact h.2.2
 ·simp only [List.any_eq_true,decide_eq_true_eq] at h
  obtain ⟨x,hx,rfl⟩:=h
  have:∀ y∈signs,y.size<=6:=by decide +kernel
  exact this x hx
theorem HO {t:T} (h:dH t=true):t.name.size<=6:=by
 unfold dH at h
 have he:emptyB.size=0:=by decide +kernel
 by_cases e1:t.kind=1
 ·rw [if_pos e1] at h
  simp only [Bool.and_eq_true,decide_eq_true_eq] at h
  rw [h.2.2.1]; omega
 ·rw [if_neg e1] at h
  by_cases e2:t.kind=2
  ·rw [if_pos e2] at h
   simp only [Bool.and_eq_true,decide_eq_true_eq] at h
   rw [h.2.2.1]; omega
  ·rw [if_neg e2] at h
   by_cases e3:t.kind=3
   ·rw [if_pos e3] at h
    simp only [Bool.and_eq_true,decide_eq_true_eq] at h
    exact D0 h.2.1
   ·rw [if_neg e3] at h
    cases h
theorem vK:emptyB.size<=6:=by decide +kernel
mutual
theorem AR:∀ (t:T) (d:Int),eU t d=true->okU 26 t
 | .mk k n s ks,d,h=>by
  rw [eU] at h
  split at h
  ·cases h
  ·rw [Bool.and_eq_true] at h
   have h1:=Nn h.1
   have h2:=fun hk=>JV h.1 hk
   have h3:=HO h.1
   rw [okU]
   refine ⟨h1.2,fun hk=>?_,wZ ks _ h.2,h3⟩
   have h4:=h1.1 hk
   have h5:=h2 hk
   simp only [T.n] at h4
   simp only [T.name,T.kids] at h5
   exact ⟨h4.1,by omega,h5.1,List.eq_nil_of_length_eq_zero h5.2⟩
theorem wZ:∀ (ts:List T) (d:Int),eT ts d=true->cD 26 ts
 | [],_,_=>by rw [cD]; trivial
 | t::ts,d,h=>by
  rw [eT,Bool.and_eq_true] at h
  rw [cD]
  exact ⟨AR t d h.1,wZ ts d h.2⟩
end
theorem ib {t:T} (h:cZ t=true):okU 26 t:=AR t 30 (vI h)
theorem fl {c:C} (h:bH c=true):okU 26 c.head/\(∀ t∈c.body,okU 26 t)/\c.body.length<=6:=by
 rw [bH] at h
 simp only [Bool.and_eq_true,List.all_eq_true,decide_eq_true_eq] at h
 refine ⟨ib h.2.2.1,fun t ht=>?_,h.1⟩
 have:=h.2.1 t ht
 rw [dM,Bool.and_eq_true] at this
 exact ib this.1
mutual
theorem fk {N M:Nat} (h:N<=M):∀ t:T,okU N t->okU M t
 | .mk k n s ks,ht=>by
  rw [okU] at ht ⊢
  refine ⟨ht.1,fun hk=>?_,Im h ks ht.2.2.1,ht.2.2.2⟩
  have:=ht.2.1 hk
  exact ⟨this.1,by omega,this.2.2⟩
theorem Im {N M:Nat} (h:N<=M):∀ ts:List T,cD N ts->cD M ts
 | [],_=>by rw [cD]; trivial
 | t::ts,ht=>by
  rw [cD] at ht ⊢
  exact ⟨fk h t ht.1,Im h ts ht.2⟩
end
mutual
theorem ia {N:Nat} (m:Nat):∀ t:T,okU N t->okU (N+m) (cH m t)
 | .mk k n s ks,ht=>by
  rw [okU] at ht
  rw [cH,okU]
  refine ⟨ht.1,fun hk=>?_,qo m ks ht.2.2.1,ht.2.2.2⟩
  have:=ht.2.1 hk
  rw [if_pos hk]
  refine ⟨by omega,by omega,this.2.2.1,?_⟩
  rw [this.2.2.2,eB]
theorem qo {N:Nat} (m:Nat):∀ ts:List T,cD N ts->cD (N+m) (eB m ts)
 | [],_=>by rw [eB,cD]; trivial
 | t::ts,ht=>by
  rw [cD] at ht
  rw [eB,cD]
  exact ⟨ia m t ht.1,qo m ts ht.2⟩
end
mutual
theorem ku (m:Int):∀ t:T,wT (cH m t)=wT t
 | .mk k n s ks=>by
  rw [cH,wT,wT,DX m ks]
  rw [qs,List.length_map]
theorem DX (m:Int):∀ ts:List T,wL (eB m ts)=wL ts
 | []=>rfl
 | t::ts=>by rw [eB,wL,wL,ku m t,DX m ts]
end
mutual
theorem Gz {N:Nat}:∀ t:T,okU N t->(wT t:Int)+1<=7 * dk t
 | .mk k n s ks,h=>by
  rw [okU] at h
  have h1:=JQ ks h.2.2.1
  rw [wT,B7]
  omega
theorem JQ {N:Nat}:∀ ts:List T,cD N ts->(wL ts:Int)+ts.length<=7 * co ts
 | [],_=>by simp [wL,co]
 | t::ts,h=>by
  rw [cD] at h
  have h1:=Gz t h.1
  have h2:=JQ ts h.2
  rw [wL,co,List.length_cons]
  omega
end
theorem GE {N:Nat} {st:ah} {t v:T} (h:Good N st) (hw:cK st t v) (ht:okU N t):okU N v:=by
 induction hw with
 | stop=>exact ht
 | step hl _ ih=>exact ih (h.look_ok hl).1
theorem i9 {N:Nat} {st:ah} (hg:Good N st) {j:Md} (hr:Res st j):match j with
  | .one t u=>okU N t->okU N u
  | .list ts us=>cD N ts->cD N us/\us.length=ts.length:=by
 induction hr with
 | one hw hl ih=>
  rename_i t v us
  intro ho
  have hv:=GE hg hw ho
  obtain ⟨h1,h2⟩:=ih hv.kids
  obtain ⟨k,n,s,ks⟩:=v
  have hv2:=hv
  rw [okU] at hv2
  show okU N (.mk k n s us)
  rw [okU]
  refine ⟨hv2.1,fun hk=>?_,h1,hv2.2.2.2⟩
  have h3:=hv2.2.1 hk
  refine ⟨h3.1,h3.2.1,h3.2.2.1,?_⟩
  simp only [T.kids] at h2
  exact List.eq_nil_of_length_eq_zero (by rw [h2,h3.2.2.2]; rfl)
 | nil=>exact fun h=>⟨h,rfl⟩
 | cons _ _ ih1 ih2=>
  intro ho
  rw [cD] at ho
  obtain ⟨h1,h2⟩:=ih2 ho.2
  rw [cD]
  exact ⟨⟨ih1 ho.1,h1⟩,by simp [h2]⟩
theorem sw {N:Nat} {st:ah} (h:Good N st):∀ ts:List T,cD N ts->∃ us,Res st (.list ts us)
 | [],_=>⟨[],.nil⟩
 | t::ts,ho=>by
  rw [cD] at ho
  obtain ⟨u,hu⟩:=Lu h t ho.1
  obtain ⟨us,hus⟩:=sw h ts ho.2
  exact ⟨u::us,.cons hu hus⟩
theorem C5 {st:ah}:∀ {ts us:List T},Res st (.list ts us)->∀ i (h:i<ts.length) (h':i<us.length),Res st (.one ts[i] us[i])
 | _,_,.cons hu _,0,_,_=>hu
 | _,_,.cons _ hus,i+1,h,h'=>C5 hus i (by simpa using h) (by simpa using h')
def stU:ah:=List.replicate 52 none
theorem FN:Good 52 stU:=⟨by simp [stU],fun t ht=>by simp [stU] at ht,fun t ht=>by simp [stU] at ht,fun n=>n,fun n u hu=>by
 have:=List.mem_of_getElem? hu
 simp [stU] at this⟩
def H0 (c d:C):List T:=c.head::(eB 26 d.body++c.body.drop 1)
def ofL:List T->C
 | []=>⟨⟨0,0,⟨#[]⟩,[]⟩,[]⟩
 | t::ts=>⟨t,ts⟩
def RO (c d:C) (o:Option (Option C)):Prop:=∃ r st,Uni stU (.one (c.body.headD ⟨0,0,⟨#[]⟩,[]⟩) (cH 26 d.head)) r st/\
 ((r=false/\o=none) ∨ (r=true/\∃ us,Res st (.list (H0 c d) us)/\((us.all bB=false/\o=some none) ∨ (us.all bB=true/\o=some (some (PV (Pg (ofL us)) (ofL us)))))))
theorem FS {N:Nat} {ts us:List T} (h:cD N ts) (h':cD N us):cD N (ts++us):=
 oT fun t ht=>by
  rcases List.mem_append.1 ht with ht|ht
  ·exact iz h t ht
  ·exact iz h' t ht
theorem JD {c d:C} (hc:bH c=true) (hd:bH d=true):cD 52 (H0 c d):=by
 obtain ⟨c1,c2,_⟩:=fl hc
 obtain ⟨d1,d2,_⟩:=fl hd
 rw [H0,cD]
 exact ⟨fk (by decide) _ c1,FS (qo 26 _ (oT d2)) (oT fun t ht=>fk (by decide) _ (c2 t (List.mem_of_mem_drop ht)))⟩
theorem Jk {c d:C} (hc:bH c=true) (hd:bH d=true) (hwc:wC c<=1048576) (hwd:wC d<=1048576) (hb:c.body≠[]):okJ 52 (.one (c.body.headD ⟨0,0,⟨#[]⟩,[]⟩) (cH 26 d.head)):=by
 obtain ⟨c1,c2,_⟩:=fl hc
 obtain ⟨d1,d2,_⟩:=fl hd
 unfold wC at hwc hwd
 cases hcb:c.body with
 | nil=>exact absurd hcb hb
 | cons t ts=>
  rw [List.headD_cons]
  have hm:t∈c.body:=by rw [hcb]; exact List.mem_cons_self ..
  have:=Dw hm
  exact ⟨⟨fk (by decide) _ (c2 t hm),by omega⟩,⟨ia 26 _ d1,by rw [ku]; omega⟩⟩
theorem RO.ex {c d:C} (hc:bH c=true) (hd:bH d=true) (hwc:wC c<=1048576) (hwd:wC d<=1048576) (hb:c.body≠[]):∃ o,RO c d o:=by
 have hj:=Jk hc hd hwc hwd hb
 obtain ⟨r,st,hu⟩:=xC (unb stU) stU FN (Nat.le_refl _) _ hj
 cases r with
 | false=>exact ⟨none,false,st,hu,.inl ⟨rfl,rfl⟩⟩
 | true=>
  obtain ⟨us,hus⟩:=sw (hu.good FN hj).1 (H0 c d) (JD hc hd)
  cases hs:us.all bB with
  | false=>exact ⟨some none,true,st,hu,.inr ⟨rfl,us,hus,.inl ⟨hs,rfl⟩⟩⟩
  | true=>exact ⟨_,true,st,hu,.inr ⟨rfl,us,hus,.inr ⟨hs,rfl⟩⟩⟩
theorem fE {N:Nat} {u:T} (h:bB u=true) (ho:okU N u):wT u<=840:=by
 rw [bB,Bool.and_eq_true,decide_eq_true_eq] at h
 have:=Gz u ho
 omega
end
section
open Go Go.RowKit

def KnownM (S:ad) (es:Array MapEntry) (st:ah):Prop:=
 (∀ e∈es.toList,∃ (n:Nat) (t:T) (cs:List Value),e.key=.int .i64 n/\e.val=.agg cs.toArray/\RdT S cs t/\st[n]?=some (some t))/\(∀ (n:Nat) (t:T),st[n]?=some (some t)->∃ e∈es.toList,e.key=.int .i64 n)/\(es.toList.map (·.key)).Nodup
theorem KnownM.find {S:ad} {es:Array MapEntry} {st:ah} (h:KnownM S es st) (n:Nat) :
  (∃ j v t cs,Instr.findNow (.int .i64) (.int .i64 n) es.toList 0=some (some (j,v))/\v=.agg cs.toArray/\RdT S cs t/\st[n]?=some (some t)) ∨
  ((∀ t,st[n]?≠some (some t))/\Instr.findNow (.int .i64) (.int .i64 n) es.toList 0=some none):=by
 rcases nR (n:=n) es.toList 0 (fun e he=>by obtain ⟨m,_,_,hk,_⟩:=h.1 e he; exact ⟨m,hk⟩) with ⟨j,e,he,hk,hf⟩|⟨hk,hf⟩
 ·obtain ⟨m,t,cs,hk2,hv,hR,hs⟩:=h.1 e he
  rw [hk] at hk2
  simp only [Value.int.injEq,true_and] at hk2
  have:n=m:=by omega
  subst this
  exact .inl ⟨j,e.val,t,cs,hf,hv,hR,hs⟩
 ·refine .inr ⟨fun t ht=>?_,hf⟩
  obtain ⟨e,he,hk2⟩:=h.2.1 n t ht
  exact hk e he hk2
theorem KnownM.push {S:ad} {es:Array MapEntry} {st:ah} (h:KnownM S es st) {n:Nat} (hn:n<st.length) (hno:∀ t,st[n]?≠some (some t)) {cs:List Value} {u:T} (hu:RdT S cs u) (ck:Nat) :
  KnownM S (es.push { key:=.int .i64 n,val:=.agg cs.toArray,born:=ck }) (st.set n (some u)):=by
 refine ⟨fun e he=>?_,fun m t ht=>?_,?_⟩
 ·rw [Array.toList_push] at he
  rcases List.mem_append.1 he with he|he
  ·obtain ⟨m,t,cs',hk,hv,hR,hs⟩:=h.1 e he
   refine ⟨m,t,cs',hk,hv,hR,?_⟩
   have:n≠m:=fun e=>hno t (by rw [e]; exact hs)
   rw [List.getElem?_set_ne this]
   exact hs
  ·simp at he
   subst he
   exact ⟨n,u,cs,rfl,rfl,hu,by rw [List.getElem?_set_self hn]⟩
 ·rw [Array.toList_push]
  by_cases e:n=m
  ·exact ⟨_,List.mem_append_right _ (List.mem_singleton.2 rfl),by rw [e]⟩
  ·rw [List.getElem?_set_ne e] at ht
   obtain ⟨x,hx,hk⟩:=h.2.1 m t ht
   exact ⟨x,List.mem_append_left _ hx,hk⟩
 ·rw [Array.toList_push,List.map_append,List.nodup_append]
  refine ⟨h.2.2,by simp,fun a ha b hb e=>?_⟩
  simp only [List.map_cons,List.map_nil,List.mem_singleton] at hb
  subst hb
  obtain ⟨x,hx,rfl⟩:=List.mem_map.1 ha
  obtain ⟨m,t,cs',hk,_,_,hs⟩:=h.1 x hx
  rw [hk] at e
  simp only [Value.int.injEq,true_and] at e
  have:m=n:=by omega
  subst this
  exact hno t hs
section
attribute [local irreducible] Run CondV ao aI
end
end
section
open Go Go.RowKit

def st0:ah:=List.replicate 26 none
theorem KnownM.empty (S:ad):KnownM S #[] st0:=by
 refine ⟨by simp,fun n t ht=>?_,by simp⟩
 rw [st0,List.getElem?_replicate] at ht
 split at ht <;> cases ht
theorem HT:∀ {ts:List T},(∀ t∈ts,okV t)->y9 ts
 | [],_=>by simp [y9]
 | t::ts,h=>by rw [y9]; exact ⟨h t (List.mem_cons_self ..),HT fun u hu=>h u (List.mem_cons_of_mem _ hu)⟩
section
variable {P:Program} {w w0:World} {X:List Nat} {L:List Item} {S:ad} {K:Value->World->Prop}
attribute [local irreducible] Run CondV ao aI
end
section
attribute [local irreducible] Run CondV ao aI
end
end
section
open Go Go.RowKit

section
variable {P:Program} {w w0:World} {X:List Nat} {L:List Item} {S:ad} {K:Value->World->Prop}
attribute [local irreducible] Run CondV ao aI
theorem Run.callVPure {f:FuncId} {fn:Func} {cap args:List Value} {r:Value} (hf:P.funcs[f]?=some fn) (hn:(fn.name == "runtime.NumGoroutine" || fn.body.isNone)=false) (h:Inv w0 X L S w) (hc:Pure P f (args++cap) S r)
  (hk:∀ w',Inv w0 X L S w'->K r w'):Run P (dy (fv f cap) args) w K:=by
 refine Run.callV (A:=L) (I:=[]) hf hn (by simpa using h) (Post:=fun v I' S'=>v=r/\I'=[]/\S'=S) ?_ fun v' I' S' w'=>?_
 ·intro w1 hI
  exact (hc w1 hI).mono fun e w' ⟨he,hI⟩=>⟨_,_,_,he,hI,Ext.refl _ _ _,rfl,rfl,rfl⟩
 ·rintro ⟨rfl,rfl,rfl⟩ _ hI
  exact hk _ (by simpa using hI)
end
section
attribute [local irreducible] Run CondV ao aI
end
end
section
open Go Go.RowKit
section
variable {P:Program} {w:World} {K:Value->World->Prop}
attribute [local irreducible] Run
end
section
attribute [local irreducible] Run CondV ao aI
theorem iE (n:Int) (S:ad):Pure Tryz.prog Du [.int .i64 n] S (.agg #[.int .i64 1,.int .i64 n,.string ⟨#[]⟩,.slice none 0 0]):=by
 intro w hI
 refine pQ.2 ?_
 dsimp only[pQ,aC]
 refine aL hI aW fun b1 w' hI=>?_
 have hb:∀ {K:Value->World->Prop} {w':World},K (.agg #[.int .i64 1,.int .i64 n,.string ⟨#[]⟩,.slice none 0 0]) w'->Run Tryz.prog (bJ ab [(0,.int .i64 1),(1,.int .i64 n)]) w' K:=by
  intro K w' hk
  refine Run.of (v:=.agg #[.int .i64 1,.int .i64 n,.string ⟨#[]⟩,.slice none 0 0]) (w':=w') ?_ hk
  unfold bJ
  rw [Sem.run_bind,run_build w' ab _ #[.int .i64 1,.int .i64 n,.string ⟨#[]⟩,.slice none 0 0] (by kernel_rfl),Result.andThen_ok]
  rfl
 refine hb ?_
 refine au hI 0 rfl ac rfl rfl (by simp [Value.oneCell']) fun w' hI=>?_
 refine be hI 0 ac rfl rfl ?_
 exact done hI rfl
theorem ql {vs:List Int} {S:ad} {g:Nat} {vv:Value} {E:TypeId} (n:Int) (hS:S g=some (.cells #[vv] E)) (hv:RdSl S 1 jW vv vs) :
  Pure Tryz.prog eM [.int .i64 n,.pointer (some ⟨g,0,none⟩)] S (.agg #[.int .i64 1,.int .i64 (Ln vs n),.string ⟨#[]⟩,.slice none 0 0]):=by
 intro w hI
 refine i8.2 ?_
 dsimp only[i8,aR]
 refine aL hI aW fun b1 w' hI=>?_
 refine bW fD (by rw [hI.cellS hS]; rfl) ?_
 refine Run.callPure oh nZ hI (mF n hv) fun w' hI=>?_
 refine Run.callPure jU jH hI (iE _ S) fun w' hI=>?_
 refine au hI 0 rfl ac rfl rfl (by simp [Value.oneCell']) fun w' hI=>?_
 refine be hI 0 ac rfl rfl ?_
 exact done hI rfl
theorem zW (vs:List Int) (hvl:vs.length<=1000000000):∀ (t:T) (S:ad) (cs:List Value) (g:Nat) (vv:Value) (E:TypeId),RdT S cs t->S g=some (.cells #[vv] E)->RdSl S 1 jW vv vs->wT t<=1048576->
  Tri Tryz.prog mV [.agg cs.toArray,fv eM [.pointer (some ⟨g,0,none⟩)]] [] S (Bk S (pS vs t)):=by
 refine T.ind fun k n s ks ih0 S cs g vv E h hS hv hw=>?_
 have ih:∀ t∈ks,∀ (S:ad) (cs:List Value),RdT S cs t->S g=some (.cells #[vv] E)->RdSl S 1 jW vv vs->wT t<=1048576->
  Tri Tryz.prog mV [.agg cs.toArray,fv eM [.pointer (some ⟨g,0,none⟩)]] [] S (Bk S (pS vs t)):=fun t ht S cs h1 h2 h3 h4=>ih0 t ht S cs g vv E h1 h2 h3 h4
 clear ih0
 intro w hI
 obtain ⟨kv,rfl,h1,h2,hs,hks⟩:=RdT.iff.1 h
 simp only [T.name,T.kids,T.kind,T.n] at h1 h2 hs hks ⊢
 simp only [wT] at hw
 have hir:=Ld vs n
 refine g7.2 ?_
 dsimp only[g7,aR]
 refine bl hI fun b2 w' hI=>?_
 refine aL hI aW fun b4 w' hI=>?_
 refine ae hI 0 rfl aP aF rfl ?_
 refine ba ?_
 rw [pS]
 refine aH (fun hk1=>?_) (fun hk1=>?_)
 ·rw [if_pos hk1]
  refine ae hI 0 rfl bb aF rfl ?_
  refine Run.callVPure sN qX hI (ql n hS hv) fun w' hI=>?_
  refine au hI 1 rfl ac rfl rfl (by simp [Value.oneCell']) fun w' hI=>?_
  refine be hI 1 ac rfl rfl ?_
  exact ⟨_,_,_,rfl,hI.pick [false,false],Ext.refl _ _ _,rfl,[_,_,_,_],[],rfl,rfl,TrT.iff.2 ⟨_,rfl,by simp [inI,T.kind],by simp only [inI,T.n]; omega,by rw [T.name]; decide +kernel,TrSl.nil (by simp [maxLen])⟩⟩
 rw [if_neg hk1]
 refine ae hI 0 rfl ar aj rfl ?_
 refine cq hI 0 rfl ar aj rfl rfl rfl fun w' hI=>?_
 refine aD hks ag ?_
 have hI:Inv w [] [.blk b4 (.cells #[.int .i64 0,.int .i64 0,.string ⟨#[]⟩,.slice none 0 0] ab),.blk b2 (.cells #[.int .i64 k,.int .i64 n,.string s,.slice none 0 0] ab)] S w':=hI.perm (List.Perm.swap _ _ _)
 have hI:=hI.rowNil ab 4
 refine ⟨fun i w'=>∃ (j:Nat) (kvc:Value) (Ls:List aN) (css:List (List Value)),j<=ks.length/\i=.int .i64 j/\Grown 4 TrT Ls css (gD vs (ks.take j))/\
   Inv w [] (.blk b4 (.cells #[.int .i64 0,.int .i64 0,.string ⟨#[]⟩,.slice none 0 0] ab)::.blk b2 (.cells #[.int .i64 k,.int .i64 n,.string s,kvc] ab)::aB kvc ab 4 css::aZ Ls.flatten) S w',
  fun i _=>ks.length - (intOf i).toNat,⟨0,_,[],[],Nat.zero_le _,rfl,Grown.nil _ _,hI⟩,?_⟩
 intro t20 _ _ _ _ _ _ _ _ _ _ _ _ _ w'
 rintro ⟨j,kvc,Ls,css,hj,rfl,hg,hI⟩
 refine bC ?_
 refine aH (fun hji=>?_) (fun hji=>?_)
 ·have hj':j<ks.length:=by omega
  have hjl:(ks.take j).length=j:=by simp; omega
  have hcl:=hg.hc
  rw [kY] at hcl
  have hm:=List.getElem_mem hj'
  have hwm:=gO hm
  refine bM hI hks ag ac hj' (fun _ _=>RdT.length) fun cs0 hcs0=>?_
  refine aL hI aW fun b7 w' hI=>?_
  have hI:=hI.perm (M:=.blk b7 _::(.blk b4 (.cells #[.int .i64 0,.int .i64 0,.string ⟨#[]⟩,.slice none 0 0] ab)::.blk b2 (.cells #[.int .i64 k,.int .i64 n,.string s,kvc] ab)::aB kvc ab 4 css::aZ Ls.flatten)) (List.perm_append_comm (l₁:=[_]))
  refine au hI 0 rfl ac (by simpa using hcs0.length) rfl (by simpa using hcs0.one) fun w' hI=>?_
  refine ⟨fun D DM kL wR iC vG mu eH mw w_=>Fx D 0 [mw=.pointer (some ⟨b2,3,none⟩),eH=kvc,mu=.agg cs0.toArray,vG=fv eM [.pointer (some ⟨g,0,none⟩)],True,True,True,DM=.pointer (some ⟨b2,3,none⟩),True]/\∃ M cs7 b8,(D 4=true->iC=.agg cs7.toArray/\TrT M cs7 (pS vs ks[j]))/\(D 5=true->wR=.slice (some ⟨b8,0,none⟩) 1 1)/\(D 5=true->D 4=true)/\(D 6=true->D 5=true)/\(D 8=true->D 6=true)/\(D 8=true->D 1=true)/\Inv w [] (aU (.blk b7 (.cells cs0.toArray ab)) (.blk b4 (.cells #[.int .i64 0,.int .i64 0,.string ⟨#[]⟩,.slice none 0 0] ab)) (.blk b2 (.cells #[.int .i64 k,.int .i64 n,.string s,kvc] ab)) (.blk b2 (.cells #[.int .i64 k,.int .i64 n,.string s,kL] ab)) (aB kvc ab 4 css) (aB kL ab 4 (css++[cs7])) (aZ Ls.flatten) M (.blk b8 (.cells cs7.toArray ab)) (D 4) (D 5) (D 6) (D 8)) S w_,⟨Fx.nil _ _,⟨[],[],0,aM,aM,aM,aM,aM,aM,by simpa [aU,aZ] using hI.draw⟩⟩,⟨?_,?_,?_,?_,?_,?_,?_,?_,?_,trivial⟩,?_⟩
  all_goals (intro D bv; intros; rename_i DM kL wR iC vG mu eH mw w_ hA_; have hF_:=hA_.1; obtain ⟨⟨ci,cd,cj,cc,cm,cr,bO,cR,dt,_⟩,⟨M,cs7,b8,e7,e8,k8,k9,k11,k1,hI⟩⟩:=hA_)
  ·refine aA ar ?_
   exact ⟨hF_.set 0 rfl,⟨M,cs7,b8,e7,e8,k8,k9,k11,k1,hI⟩⟩
  ·obtain rfl:=ci ‹_›
   have f11:D 8=false:=Bool.eq_false_iff.2 fun h=>by rw [k1 h] at bv; cases bv
   refine aT (b:=b2) hI 2 (c:=(#[.int .i64 k,.int .i64 n,.string s,kvc])) aj (by rw [f11]; rfl) rfl ?_
   have k1:=fun (_:az D 1 8=true)=>(rfl:az D 1 1=true)
   exact ⟨hF_.set 1 rfl,⟨M,cs7,b8,e7,e8,k8,k9,k11,k1,hI⟩⟩
  ·refine aw hI 0 ac rfl (by simpa using hcs0.length) ?_
   exact ⟨hF_.set 2 rfl,⟨M,cs7,b8,e7,e8,k8,k9,k11,k1,hI⟩⟩
  ·exact ⟨hF_.set 3 rfl,⟨M,cs7,b8,e7,e8,k8,k9,k11,k1,hI⟩⟩
  ·obtain rfl:=cj ‹_›
   obtain rfl:=cc ‹_›
   have f8:D 5=false:=Bool.eq_false_iff.2 fun h=>by rw [k8 h] at bv; cases bv
   have f9:D 6=false:=Bool.eq_false_iff.2 fun h=>by rw [k9 h] at f8; cases f8
   have f11:D 8=false:=Bool.eq_false_iff.2 fun h=>by rw [k11 h] at f9; cases f9
   rw [bv,f8,f9,f11] at hI
   refine Run.call0 fK fB hI (ih _ (List.getElem_mem hj') S cs0 hcs0 hS hv (by omega)) fun v' I' S w_=>?_
   rintro ⟨rfl,cs7,M,rfl,rfl,hT⟩ _ hI
   have e7:az D 4 4=true->Value.agg cs7.toArray=Value.agg cs7.toArray/\TrT M cs7 (pS vs ks[j]):=fun _=>⟨rfl,hT⟩
   have k8:=fun (_:az D 4 5=true)=>(rfl:az D 4 4=true)
   have hI:Inv w [] (aU (.blk b7 (.cells cs0.toArray ab)) (.blk b4 (.cells #[.int .i64 0,.int .i64 0,.string ⟨#[]⟩,.slice none 0 0] ab)) (.blk b2 (.cells #[.int .i64 k,.int .i64 n,.string s,kvc] ab)) (.blk b2 (.cells #[.int .i64 k,.int .i64 n,.string s,kL] ab)) (aB kvc ab 4 css) (aB kL ab 4 (css++[cs7])) (aZ Ls.flatten) M (.blk b8 (.cells cs7.toArray ab)) true (D 5) (D 6) (D 8)) S w_:=by
    rw [f8,f9,f11]
    simpa [aU] using hI
   exact ⟨hF_.set 4 (by first|assumption|trivial),⟨M,cs7,b8,e7,e8,k8,k9,k11,k1,hI⟩⟩
  ·have Ej:=cm ‹_›
   have f9:D 6=false:=Bool.eq_false_iff.2 fun h=>by rw [k9 h] at bv; cases bv
   have f11:D 8=false:=Bool.eq_false_iff.2 fun h=>by rw [k11 h] at f9; cases f9
   obtain ⟨q7,hT⟩:=e7 ‹D 4=true›
   subst q7
   rw [‹D 4=true›,bv,f9,f11] at hI
   refine du hI bo (by simp [Value.cells,hT.length]) (by omega) (by omega) fun b8 w_ hI=>?_
   have e7:az D 5 4=true->Value.agg cs7.toArray=Value.agg cs7.toArray/\TrT M cs7 (pS vs ks[j]):=fun _=>⟨rfl,hT⟩
   have e8:=fun (_:az D 5 5=true)=>(rfl:Value.slice (some ⟨b8,0,none⟩) 1 1=_)
   have k8:=fun (_:az D 5 5=true)=>‹D 4=true›
   have k9:=fun (_:az D 5 6=true)=>(rfl:az D 5 5=true)
   have hI:Inv w [] (aU (.blk b7 (.cells cs0.toArray ab)) (.blk b4 (.cells #[.int .i64 0,.int .i64 0,.string ⟨#[]⟩,.slice none 0 0] ab)) (.blk b2 (.cells #[.int .i64 k,.int .i64 n,.string s,kvc] ab)) (.blk b2 (.cells #[.int .i64 k,.int .i64 n,.string s,kL] ab)) (aB kvc ab 4 css) (aB kL ab 4 (css++[cs7])) (aZ Ls.flatten) M (.blk b8 (.cells cs7.toArray ab)) (D 4) true (D 6) (D 8)) S w_:=by
    rw [‹D 4=true›,f9,f11]
    simpa [aU,Value.cells] using hI
   exact ⟨hF_.set 5 (by first|assumption|trivial),⟨M,cs7,b8,e7,e8,k8,k9,k11,k1,hI⟩⟩
  ·obtain rfl:=cd ‹_›
   have IZ:=cr ‹_›
   have f11:D 8=false:=Bool.eq_false_iff.2 fun h=>by rw [k11 h] at bv; cases bv
   have q8:=e8 ‹D 5=true›
   subst q8
   obtain ⟨_,hT⟩:=e7 ‹D 4=true›
   rw [‹D 4=true›,‹D 5=true›,bv,f11] at hI
   have hblk:((aU (.blk b7 (.cells cs0.toArray ab)) (.blk b4 (.cells #[.int .i64 0,.int .i64 0,.string ⟨#[]⟩,.slice none 0 0] ab)) (.blk b2 (.cells #[.int .i64 k,.int .i64 n,.string s,eH] ab)) (.blk b2 (.cells #[.int .i64 k,.int .i64 n,.string s,kL] ab)) (aB eH ab 4 css) (aB kL ab 4 (css++[cs7])) (aZ Ls.flatten) M (.blk b8 (.cells cs7.toArray ab)) true true false false))[4+(aZ Ls.flatten).length+(aZ M).length]?=some (.blk b8 (.cells cs7.toArray ab)):=by
    have e4:4+(aZ Ls.flatten).length+(aZ M).length=((aZ Ls.flatten).length+(aZ M).length)+1+1+1+1:=by omega
    rw [e4]
    simp only [aU,List.getElem?_cons_succ]
    rw [List.getElem?_append_right (by omega),Nat.add_sub_cancel_left,List.getElem?_append_right (Nat.le_refl _),Nat.sub_self]; rfl
   refine cN hI 3 cs7 bo (by omega) rfl (by rw [hT.length]) (m:=1) (o:=0) ?_ hT.one (by omega) (by omega) fun v' w_ hI=>?_
   ·intro i u hi
    rw [hI.cellL hblk,Nat.zero_add]
    simpa using hi
   rw [dJ] at hI
   have k9:=fun (_:az D 6 6=true)=>‹D 5=true›
   have k11:=fun (_:az D 6 8=true)=>(rfl:az D 6 6=true)
   have hI:Inv w [] (aU (.blk b7 (.cells cs0.toArray ab)) (.blk b4 (.cells #[.int .i64 0,.int .i64 0,.string ⟨#[]⟩,.slice none 0 0] ab)) (.blk b2 (.cells #[.int .i64 k,.int .i64 n,.string s,eH] ab)) (.blk b2 (.cells #[.int .i64 k,.int .i64 n,.string s,v'] ab)) (aB eH ab 4 css) (aB v' ab 4 (css++[cs7])) (aZ Ls.flatten) M (.blk b8 (.cells cs7.toArray ab)) (D 4) (D 5) true (D 8)) S w_:=by
    rw [‹D 4=true›,‹D 5=true›,f11]
    exact hI
   exact ⟨hF_.set 6 (by first|assumption|trivial),⟨M,cs7,b8,e7,e8,k8,k9,k11,k1,hI⟩⟩
  ·refine aA ar ?_
   exact ⟨hF_.set 7 rfl,⟨M,cs7,b8,e7,e8,k8,k9,k11,k1,hI⟩⟩
  ·obtain rfl:=cR ‹_›
   have Jc:=bO ‹_›
   rw [‹D 4=true›,‹D 5=true›,‹D 6=true›,bv] at hI
   obtain ⟨va,vn,vc,hv9⟩:=Inv.rowSlice hI 3 rfl
   refine cB hI 2 (n:=1) (by rw [hv9]; rfl) (by decide +kernel) rfl (by simp) (by rw [hv9]; simp [Value.cells,Value.oneCell']) fun w_ hI=>?_
   have hcl9:Value.cells kL=#[kL]:=by rw [hv9]; rfl
   rw [hcl9] at hI
   have k1:=fun (_:az D 8 8=true)=>‹D 1=true›
   have k11:=fun (_:az D 8 8=true)=>‹D 6=true›
   have hI:Inv w [] (aU (.blk b7 (.cells cs0.toArray ab)) (.blk b4 (.cells #[.int .i64 0,.int .i64 0,.string ⟨#[]⟩,.slice none 0 0] ab)) (.blk b2 (.cells #[.int .i64 k,.int .i64 n,.string s,kvc] ab)) (.blk b2 (.cells #[.int .i64 k,.int .i64 n,.string s,kL] ab)) (aB kvc ab 4 css) (aB kL ab 4 (css++[cs7])) (aZ Ls.flatten) M (.blk b8 (.cells cs7.toArray ab)) (D 4) (D 5) (D 6) true) S w_:=by
    rw [‹D 4=true›,‹D 5=true›,‹D 6=true›]
    exact hI
   exact ⟨hF_.set 8 trivial,⟨M,cs7,b8,e7,e8,k8,k9,k11,k1,hI⟩⟩
  obtain ⟨rfl,rfl,rfl,rfl,Ej,IZ,Jc,rfl,_,_⟩:=hF_.all
  have N3:D 4=true:=by assumption
  have Lz:D 5=true:=by assumption
  have IB:D 6=true:=by assumption
  have KW:D 8=true:=by assumption
  clear hF_ ci cd cj cc cm cr bO cR dt
  obtain ⟨_,hT⟩:=e7 N3
  rw [N3,Lz,IB,KW] at hI
  refine bi (by omega) ?_
  refine ⟨⟨j+1,kL,Ls++[M],css++[cs7],hj',rfl,?_,?_⟩,by simp [intOf]; omega⟩
  ·rw [xH vs ks j hj']
   exact hg.snoc hT hT.length
  ·simp only [List.flatten_append,List.flatten_cons,List.flatten_nil,List.append_nil,cL]
   refine hI.sub ?_
   simp only [aU]
   rw [<- List.append_assoc]
   exact ((((List.sublist_append_left _ _).cons_cons _).cons_cons _).cons_cons _).cons _
 ·have:j=ks.length:=by omega
  subst this
  rw [List.take_length] at hg
  obtain ⟨va,vn,vc,hvk⟩:=hI.rowSlice 2 rfl
  have hv1:kvc.oneCell'=true:=by rw [hvk]; rfl
  refine aw hI 1 ac rfl rfl ?_
  refine au hI 0 rfl ac rfl rfl ?_ fun w' hI=>?_
  ·intro u hu
   have hu':u∈([.int .i64 k,.int .i64 n,.string s,kvc]:List Value):=hu
   simp at hu'
   rcases hu' with rfl|rfl|rfl|rfl <;> first|rfl|exact hv1
  refine be hI 0 ac rfl rfl ?_
  have hI:Inv w [] ([]++(aB kvc ab 4 css::aZ Ls.flatten)) S w':=hI.sub (List.sublist_append_right [_,_] _)
  obtain ⟨L,hT,hI⟩:=Inv.rowTree hI hg
  exact ⟨_,_,_,rfl,hI,Ext.refl _ _ _,rfl,_,L,rfl,rfl,TrT.iff.2 ⟨kvc,rfl,h1,h2,hs,hT⟩⟩
theorem ub {ts:List T} {S:ad} {v:Value} (h:RdSl S 4 (RdT S) v ts) (hw:ts.length+wL ts<=1048577):Tri Tryz.prog xq [v] [] S (EZ 4 TrT S (gD (dp ts []) ts)):=by
 intro w hI
 have hlen:=h.le
 simp only [maxLen] at hlen
 have hcl:=C3 ts
 have hvl:=sL ts []
 simp only [List.length_nil] at hvl
 refine mx.2 ?_
 dsimp only[mx,aC]
 refine Run.call0 oB mX hI (lT h (by omega)) fun v1 I' S w'=>?_
 rintro ⟨rfl,rfl⟩ _ hI
 have hl':(dp ts []).length<=1000000000:=by omega
 generalize dp ts []=vs at hI hl' ⊢
 refine aL hI ME fun b3 w' hI=>?_
 have hv1:v1.cells=#[v1]/\v1.oneCell'=true:=by
  have:=hI.its (dl v1 vs) (by simp)
  rcases this.2 with ⟨rfl,_⟩|⟨g,cap,cur,rfl,_⟩ <;> exact ⟨rfl,rfl⟩
 refine cB hI 1 (n:=1) (by rw [hv1.1]; rfl) (by rw [fD]; rfl) rfl (Nat.le_of_ble_eq_true rfl) (by rw [hv1.1]; simpa using hv1.2) fun w' hI=>?_
 have hst:bz (Value.slice none 0 0).cells 0 v1.cells.toList=#[v1]:=by
  rw [hv1.1]; rfl
 have hI:Inv w [] [dl v1 vs,.blk b3 (.cells #[v1] m0)] S w':=by
  have:=hI
  simp only [List.cons_append,List.nil_append] at this
  rw [hst] at this
  exact this
 have hI:=hI.perm (M:=[.blk b3 (.cells #[v1] m0)]++[dl v1 vs]) (List.Perm.swap _ _ _)
 obtain ⟨S1,hle1,hrd1,hI,_⟩:=Inv.lend (A:=[_]) hI
 obtain ⟨hI,hle2⟩:=Inv.publishLast (L:=[]) hI
 have hb:kU S1 b3 (.cells #[v1] m0) b3=some (.cells #[v1] m0):=by simp [kU]
 generalize kU S1 b3 (.cells #[v1] m0)=S2 at hI hle2 hb
 have hr1:=hrd1.ints.mono hle2 fun _ _ h=>h
 have hle:=hle1.trans hle2
 have h:=h.mono hle fun _ _ h=>h.mono hle
 refine aD h ag ?_
 refine ⟨fun i t w'=>∃ (k:Nat) (Ls:List aN) (css:List (List Value)),k<=ts.length/\i=.int .i64 k/\Grown 4 TrT Ls css (gD vs (ts.take k))/\Inv w [] (aB t ab 4 css::aZ Ls.flatten) S2 w',
  fun i _ _=>ts.length - (intOf i).toNat,⟨0,[],[],Nat.zero_le _,rfl,Grown.nil _ _,hI.rowNil ab 4⟩,?_⟩
 intro t11 _ t4 _ _ _ _ _ _ _ _ _ _ w'
 rintro ⟨k,Ls,css,hk,rfl,hg,hI⟩
 refine bC ?_
 refine aH (fun hki=>?_) (fun hki=>?_)
 ·have hk':k<ts.length:=by omega
  have htl:(ts.take k).length=k:=by simp; omega
  have hcl:=hg.hc
  rw [kY] at hcl
  have hm:=List.getElem_mem hk'
  have hwm:=gO hm
  refine bM hI h ag ac hk' (fun _ _=>RdT.length) fun cs hcs=>?_
  have hlc:=hcs.length
  refine aL hI aW fun b6 w' hI=>?_
  have hI:=hI.perm (M:=.blk b6 _::(aB t4 ab 4 css::aZ Ls.flatten)) (List.perm_append_comm (l₁:=[_]))
  refine au hI 0 rfl ac (by simpa using hlc) rfl (by simpa using hcs.one) fun w' hI=>?_
  refine aw hI 0 ac rfl (by simpa using hlc) ?_
  have hI:Inv w [] (aB t4 ab 4 css::aZ Ls.flatten) S2 w':=hI.sub (List.sublist_cons_self _ _)
  refine lB ?_
  refine Run.call0 fK fB hI (zW vs hl' _ S2 cs b3 v1 m0 hcs hb hr1 (by omega)) fun v' I' S' w'=>?_
  rintro ⟨rfl,cs',L,rfl,rfl,hT⟩ _ hI
  refine bP hI 0 cs' bo (by omega) (by omega) rfl hT.length hT.one (by omega) (by omega) fun v' w' hI=>?_
  refine bi (by omega) ?_
  refine ⟨⟨k+1,Ls++[L],css++[cs'],hk',rfl,?_,?_⟩,by simp [intOf]; omega⟩
  ·rw [xH vs ts k hk']
   exact hg.snoc hT hT.length
  ·simp only [List.flatten_append,List.flatten_cons,List.flatten_nil,List.append_nil,cL]
   exact hI
 ·have:k=ts.length:=by omega
  subst this
  rw [List.take_length] at hg
  obtain ⟨L,hT,hI⟩:=Inv.rowTree (A:=[]) hI hg
  exact ⟨_,_,_,rfl,hI.less hle,Ext.refl _ _ _,rfl,_,rfl,hT⟩
end
end
section
open Go Go.RowKit
section
attribute [local irreducible] Run CondV ao aI
theorem TrC.zero:TrC [] [.int .i64 0,.int .i64 0,.string ⟨#[]⟩,.slice none 0 0,.slice none 0 0] ⟨⟨0,0,⟨#[]⟩,[]⟩,[]⟩:=
 ⟨[.int .i64 0,.int .i64 0,.string ⟨#[]⟩,.slice none 0 0],.slice none 0 0,[],[],rfl,rfl,TrT.iff.2 ⟨_,rfl,by simp [inI,T.kind],by simp [inI,T.n],by rw [T.name]; decide +kernel,TrSl.nil (by simp [maxLen])⟩,TrSl.nil (by simp [maxLen])⟩
end
end
section
open Go Go.RowKit
section
variable {P:Program} {w:World} {K:Value->World->Prop}
attribute [local irreducible] Run
theorem yE {T:TypeId} {cx cy:Bool} {a b:Int} (hr:-9223372036854775808<=a * b/\a * b<=9223372036854775807) (hk:K (.int .i64 (a * b)) w):Run P (bN .mul T cx cy (.int .i64 a) (.int .i64 b)) w K:=by
 refine Run.of ?_ hk
 simp [bN,bQ,binOp,Op.intArith,IntWalk.i64_in _ hr]
end
section
attribute [local irreducible] Run CondV ao aI
end
end
section
open Go Go.RowKit

abbrev Bs:=List UInt8
abbrev bs (s:ByteArray):Bs:=s.data.toList
abbrev st (l:Bs):ByteArray:=⟨l.toArray⟩
theorem Bc (l:Bs):bs (st l)=l:=by simp [bs]
theorem jg (l:Bs):(st l).size=l.length:=by simp [ByteArray.size]

def sgn (s:Bs) (i:Nat) (c:Nat):Bool:=match s[i]? with
 | some b=>decide (b.toNat=c)
 | none=>false
def btw (s:Bs) (i:Nat) (a b:Nat):Bool:=match s[i]? with
 | some x=>decide (a<=x.toNat) && decide (x.toNat<=b)
 | none=>false
def sml (s:Bs) (i:Nat):Bool:=btw s i 97 122
def dig (s:Bs) (i:Nat):Bool:=btw s i 48 57
def upp (s:Bs) (i:Nat):Bool:=btw s i 65 90
def cut (s:Bs) (a b:Nat):Bs:=(s.take b).drop a

def ws (s:Bs):Nat->Nat->Nat
 | 0,e=>e
 | n+1,e=>if sml s e=true then ws s n (e+1) else e
def fV (s:Bs) (i:Nat):List ByteArray->Bs->Bs
 | [],b=>b
 | x::l,b=>fV s i l (if decide (i+x.size<=s.length)=true/\cut s i (i+x.size)=bs x/\b.length<x.size then bs x else b)
def rU (s:Bs) (i:Nat):Option (Bs × Nat):=
 let e:=ws s (s.length - i) i
 if i+6<e then none else if i<e then some (cut s i e,e) else
  let b:=fV s i signs []
  if b=[] then none else some (b,i+b.length)
def o8 (s:Bs):Nat->Nat->Nat
 | 0,e=>e
 | n+1,e=>if dig s e=true then o8 s n (e+1) else e
def zy:Bs->Nat->Nat
 | [],n=>n
 | b::l,n=>zy l (n * 10+(b.toNat - 48))
def Lb (s:Bs) (i:Nat):Option (T × Nat):=
 let from_:=if sgn s i 45=true then i+1 else i
 let e:=o8 s 4 from_
 let d:=cut s from_ e
 let n:=zy d 0
 if d=[] ∨ (sgn d 0 48=true/\1<d.length) ∨ (i<from_/\n=0) ∨ 999<n then none
 else some (.mk 2 (if i<from_ then -(n:Int) else n) emptyB [],e)
def Fl (name:Bs) (kids:List T):T:=.mk 3 0 (st name) kids
def Nw:T:=Fl [91,93] []
def EL (a b:T):T:=Fl [46] [a,b]
def gi:List T->T->T
 | [],t=>t
 | a::l,t=>EL a (gi l t)
def opF (s:Bs) (i:Nat):Option (Bs × Nat):=
 let from_:=if sgn s i 32=true then i+1 else i
 if s.length<=from_ then none else match rU s from_ with
  | none=>none
  | some (name,next)=>
   let word:=decide (name=[105,115]) || decide (name=[109,111,100])
   if bE (st name)=0 ∨ word≠decide (i<from_) ∨ (word=true/\sgn s next 32=false) then none
   else some (name,if word=true then next+1 else next)
mutual
def gB:Nat->Bs->Nat->Nat->Nat->Option (T × Nat)
 | 0,_,_,_,_=>none
 | f+1,s,i,d,0=>p6 f s i d
 | f+1,s,i,d,l+1=>match gB f s i d l with
  | none=>none
  | some (t,n)=>EP f s n d l t
def EP:Nat->Bs->Nat->Nat->Nat->T->Option (T × Nat)
 | 0,_,_,_,_,_=>none
 | f+1,s,i,d,l,t=>match opF s i with
  | none=>some (t,i)
  | some (name,after)=>if bE (st name)=((l+1:Nat):Int) then match gB f s after d l with
    | none=>none
    | some (r,e)=>if l=2 then some (Fl name [t,r],e) else EP f s e d l (Fl name [t,r])
   else some (t,i)
def p6:Nat->Bs->Nat->Nat->Option (T × Nat)
 | 0,_,_,_=>none
 | f+1,s,i,d=>if d=0 ∨ s.length<=i then none else if sgn s i 40=true then match gB f s (i+1) d 3 with
    | none=>none
    | some (t,n)=>if sgn s n 41=true then some (t,n+1) else none
  else if sgn s i 91=true/\sgn s (i+1) 93=false then match fA f s (i+1) (d - 1) 93 124 [] with
    | none=>none
    | some (ts,n)=>if sgn s n 93=true then some (gi ts Nw,n+1) else match gB f s (n+1) (d - 1) 3 with
     | none=>none
     | some (t,e)=>if sgn s e 93=true then some (gi ts t,e+1) else none
  else if upp s i=true then some (.mk 1 ((s.getD i 0).toNat - 65) emptyB [],i+1)
  else if dig s i=true ∨ (sgn s i 45=true/\dig s (i+1)=true) then Lb s i
  else match rU s i with
   | none=>none
   | some (name,n)=>if sgn s n 40=false then some (Fl name [],n) else match fA f s (n+1) (d - 1) 41 41 [] with
    | none=>none
    | some (ts,e)=>some (Fl name ts,e+1)
def fA:Nat->Bs->Nat->Nat->Nat->Nat->List T->Option (List T × Nat)
 | 0,_,_,_,_,_,_=>none
 | f+1,s,i,d,e,o,acc=>match gB f s i d 3 with
  | none=>none
  | some (t,n)=>if sgn s n e=true ∨ sgn s n o=true then some (acc++[t],n) else if sgn s n 44=true then fA f s (n+1) d e o (acc++[t]) else none
end

def lQ (t:T):Bool:=decide (t.kind=3) && (decide (t.kids.length=2) && decide (0<bE t.name))
def xI (t:T):Bool:=decide (t.kind=3) && (decide (t.name=st [46]) && decide (t.kids.length=2))
def KC (t:T):Bool:=decide (t.kind=3) && (decide (t.name=st [91,93]) && decide (t.kids.length=0))
def vp (t:T):Bool:=decide (t.kind=3) && (decide (t.kids.length=0) && decide (0<bE t.name))
def CR (s:Bs):Bool:=sml s 0 || (dig s 0 || (upp s 0 || (sgn s 0 91 || sgn s 0 40)))
def fF (n:Bs):Bs:=if n=[105,115] ∨ n=[109,111,100] then 32::(n++[32]) else n
def zG:Nat->Nat->Bs->Option Bs
 | 0,_,_=>none
 | f+1,n,out=>if 9<n then zG f (n / 10) (UInt8.ofNat (48+n % 10)::out) else some (UInt8.ofNat (48+n)::out)
def Nq (n:Int):Option Bs:=if n<0 then (zG 20 (-n).toNat []).map fun l=>45::l else zG 20 n.toNat []
def Kp (t:T):Option Bs:=if t.kind=1 then (if 0<=t.n/\t.n<=25 then some [UInt8.ofNat (65+t.n.toNat)] else none)
 else if t.kind=2 then (if -999<=t.n/\t.n<=999 then Nq t.n else none) else if t.kids.length=0 then some (bs t.name) else none
mutual
def CJ:Nat->T->Option Bs
 | 0,_=>none
 | f+1,t=>if xI t=true then Bz f t [] else if lQ t=true then match t.kids with
   | [a,b]=>match H5 f a (if bE t.name=3 then 2 else bE t.name),C9 f b (bE t.name - 1) with
    | some x,some y=>some (x++fF (bs t.name)++y)
    | _,_=>none
   | _=>none
  else if t.kind=3/\0<t.kids.length then match ma f t.kids [] with
   | some x=>some (bs t.name++[40]++x++[41])
   | none=>none
  else Kp t
def Bz:Nat->T->List T->Option Bs
 | 0,_,_=>none
 | f+1,t,items=>if xI t=true then match t.kids with
   | [a,b]=>Bz f b (items++[a])
   | _=>none
  else match ma f items [] with
   | none=>none
   | some x=>if KC t=true then some ([91]++x++[93]) else match CJ f t with
    | none=>none
    | some y=>some ([91]++x++[124]++y++[93])
def ma:Nat->List T->Bs->Option Bs
 | 0,_,_=>none
 | _+1,[],out=>some out
 | f+1,t::l,out=>match CJ f t with
  | none=>none
  | some x=>ma f l (out++x++(if l=[] then [] else [44]))
def nn:Nat->T->Int->Option Bs
 | 0,_,_=>none
 | f+1,t,l=>match CJ f t with
  | none=>none
  | some x=>some (if lQ t=true/\l<bE t.name then [40]++x++[41] else x)
def H5:Nat->T->Int->Option Bs
 | 0,_,_=>none
 | f+1,t,l=>if vp t=true then match CJ f t with
   | none=>none
   | some x=>some ([40]++x++[41])
  else nn f t l
def C9:Nat->T->Int->Option Bs
 | 0,_,_=>none
 | f+1,t,l=>match nn f t l with
  | none=>none
  | some x=>if x=[] then none else some (if vp t=true ∨ CR x=false then [40]++x++[41] else x)
end
def uW (f:Nat):List T->Bool->Bs->Option Bs
 | [],_,out=>some out
 | t::l,first,out=>match CJ f t with
  | none=>none
  | some x=>uW f l false (out++(if first=true then [58,45] else [44])++x)
def Iv (f:Nat) (c:C):Option Bs:=match CJ f c.head with
 | none=>none
 | some x=>match uW f c.body true x with
  | none=>none
  | some y=>some (y++[46])

def lr (f:Nat):Nat->Bs->Nat->List T->Option (List T × Nat)
 | 0,_,_,_=>none
 | k+1,s,i,acc=>if 6<acc.length then none else match gB f s i 30 3 with
  | none=>none
  | some (t,n)=>if sgn s n 44=true then lr f k s (n+1) (acc++[t]) else some (acc++[t],n)
def IW (f:Nat) (s:Bs) (c:C) (n:Nat):Option C:=
 if n+1=s.length/\sgn s n 46=true/\bH c=true/\wC c<=200/\Iv f c=some s then some c else none
def r6 (f:Nat) (s:Bs):Option C:=if 1000<s.length then none else match gB f s 0 30 3 with
 | none=>none
 | some (h,n)=>if sgn s n 58=true/\sgn s (n+1) 45=true then match lr f 8 s (n+2) [] with
   | none=>none
   | some (b,n2)=>IW f s ⟨h,b⟩ n2
  else IW f s ⟨h,[]⟩ n
def zz (s:Bs) (c:Nat):Nat->Nat->Nat->List Bs->List Bs
 | 0,i,from_,acc=>acc++[cut s from_ i]
 | n+1,i,from_,acc=>if sgn s i c=true then zz s c n (i+1) (i+1) (acc++[cut s from_ i]) else zz s c n (i+1) from_ acc
def JG (s:Bs):List Bs:=zz s 10 s.length 0 0 []
def iI (f:Nat):List Bs->List C->Option (List C)
 | [],acc=>some acc
 | l::ls,acc=>match r6 f l with
  | none=>none
  | some c=>iI f ls (acc++[c])
def Ie (f:Nat) (s:Bs):Option (List C):=
 let ls:=JG s
 if 21<ls.length ∨ ls.getLast?≠some [] then none else iI f ls.dropLast []
def JE (s:Bs):Bool:=match Ie 60 s with
 | some p=>decide (0<p.length) && (decide (p.length<=8) && p.all fun c=>bH c && decide (wC c<=200))
 | none=>false
end
end Go.Proofs.YtcpgagfdeflbkaaGreatDoor

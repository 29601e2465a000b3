/- Resolvents: the plain form. -/
import Derived.Test.YtnmnddpdikghhaaGreatZr6
import Derived.Test.YtnmnddpdikghhaaGreatZr1
import Derived.Test.YtnmnddpdikghhaaGreatZr8
import Derived.Test.YtnmnddpdikghhaaGreatZr7
import Derived.Test.YtnmnddpdikghhaaGreatZr2
import Derived.Test.YtnmnddpdikghhaaGreatZr0
namespace Go.Proofs.YtnmnddpdikghhaaGreat
open Go Go.RowKit
theorem DJ {s:ByteArray} (h:kU s=true):s.size<=6:=by
 rw [kU,Bool.or_eq_true] at h
 rcases h with h|h
 ·rw [kl] at h
  simp only [Bool.and_eq_true,decide_eq_true_eq] at h
  exact h.2.2
 ·simp only [List.any_eq_true,decide_eq_true_eq] at h
  obtain ⟨x,hx,rfl⟩:=h
  have:∀ y∈signs,y.size<=6:=by decide +kernel
  exact this x hx
theorem Gw {t:T} (h:fD t=true):t.name.size<=6:=by
 unfold fD at h
 have he:emptyB.size=0:=by decide +kernel
 by_cases e1:t.kind=1
 ·rw [if_pos e1] at h
  simp only [Bool.and_eq_true,decide_eq_true_eq] at h
  rw [h.2.2.1]; omega
 ·rw [if_neg e1] at h
  by_cases e2:t.kind=2
  ·rw [if_pos e2] at h
   simp only [Bool.and_eq_true,decide_eq_true_eq] at h
   rw [h.2.2.1]; omega
  ·rw [if_neg e2] at h
   by_cases e3:t.kind=3
   ·rw [if_pos e3] at h
    simp only [Bool.and_eq_true,decide_eq_true_eq] at h
    exact DJ h.2.1
   ·rw [if_neg e3] at h
    cases h
mutual
theorem Bn:∀ (t:T) (d:Int),eT t d=true->okU 26 t
 | .mk k n s ks,d,h=>by
  rw [eT] at h
  split at h
  ·cases h
  ·rw [Bool.and_eq_true] at h
   have h1:=Kz h.1
   have h2:=fun hk=>Fl h.1 hk
   have h3:=Gw h.1
   rw [okU]
   refine ⟨h1.2,fun hk=>?_,zq ks _ h.2,h3⟩
   have h4:=h1.1 hk
   have h5:=h2 hk
   simp only [T.n] at h4
   simp only [T.name,T.kids] at h5
   exact ⟨h4.1,by omega,h5.1,List.eq_nil_of_length_eq_zero h5.2⟩
theorem zq:∀ (ts:List T) (d:Int),eB ts d=true->dA 26 ts
 | [],_,_=>by rw [dA]; trivial
 | t::ts,d,h=>by
  rw [eB,Bool.and_eq_true] at h
  rw [dA]
  exact ⟨Bn t d h.1,zq ts d h.2⟩
end
theorem BH {t:T} (h:d6 t=true):okU 26 t:=Bn t 30 (ng h)
theorem gr {c:C} (h:bG c=true):okU 26 c.head/\(∀ t∈c.body,okU 26 t)/\c.body.length<=6:=by
 rw [bG] at h
 simp only [Bool.and_eq_true,List.all_eq_true,decide_eq_true_eq] at h
 refine ⟨BH h.2.2.1,fun t ht=>?_,h.1⟩
 have:=h.2.1 t ht
 rw [fo,Bool.and_eq_true] at this
 exact BH this.1
mutual
theorem Cr {N M:Nat} (h:N<=M):∀ t:T,okU N t->okU M t
 | .mk k n s ks,ht=>by
  rw [okU] at ht ⊢
  refine ⟨ht.1,fun hk=>?_,H1 h ks ht.2.2.1,ht.2.2.2⟩
  have:=ht.2.1 hk
  exact ⟨this.1,by omega,this.2.2⟩
theorem H1 {N M:Nat} (h:N<=M):∀ ts:List T,dA N ts->dA M ts
 | [],_=>by rw [dA]; trivial
 | t::ts,ht=>by
  rw [dA] at ht ⊢
  exact ⟨Cr h t ht.1,H1 h ts ht.2⟩
end
mutual
theorem A6 {N:Nat} (m:Nat):∀ t:T,okU N t->okU (N+m) (dR m t)
 | .mk k n s ks,ht=>by
  rw [okU] at ht
  rw [dR,okU]
  refine ⟨ht.1,fun hk=>?_,qB m ks ht.2.2.1,ht.2.2.2⟩
  have:=ht.2.1 hk
  rw [if_pos hk]
  refine ⟨by omega,by omega,this.2.2.1,?_⟩
  rw [this.2.2.2,ed]
theorem qB {N:Nat} (m:Nat):∀ ts:List T,dA N ts->dA (N+m) (ed m ts)
 | [],_=>by rw [ed,dA]; trivial
 | t::ts,ht=>by
  rw [dA] at ht
  rw [ed,dA]
  exact ⟨A6 m t ht.1,qB m ts ht.2⟩
end
mutual
theorem Ej (m:Int):∀ t:T,wT (dR m t)=wT t
 | .mk k n s ks=>by
  rw [dR,wT,wT,rS m ks]
  rw [eV,List.length_map]
theorem rS (m:Int):∀ ts:List T,wL (ed m ts)=wL ts
 | []=>rfl
 | t::ts=>by rw [ed,wL,wL,Ej m t,rS m ts]
end
/- weights by nodes -/
mutual
theorem JA {N:Nat}:∀ t:T,okU N t->(wT t:Int)+1<=7 * dQ t
 | .mk k n s ks,h=>by
  rw [okU] at h
  have h1:=Kd ks h.2.2.1
  rw [wT,kA]
  omega
theorem Kd {N:Nat}:∀ ts:List T,dA N ts->(wL ts:Int)+ts.length<=7 * cZ ts
 | [],_=>by simp [wL,cZ]
 | t::ts,h=>by
  rw [dA] at h
  have h1:=JA t h.1
  have h2:=Kd ts h.2
  rw [wL,cZ,List.length_cons]
  omega
end
theorem FA {N:Nat} {st:bu} {t v:T} (h:Good N st) (hw:dy st t v) (ht:okU N t):okU N v:=by
 induction hw with
 | stop=>exact ht
 | step hl _ ih=>exact ih (h.look_ok hl).1
theorem xq {N:Nat} {st:bu} (hg:Good N st) {j:Jg} (hr:Res st j):match j with
  | .one t u=>okU N t->okU N u
  | .list ts us=>dA N ts->dA N us/\us.length=ts.length:=by
 induction hr with
 | one hw hl ih=>
  rename_i t v us
  intro ho
  have hv:=FA hg hw ho
  obtain ⟨h1,h2⟩:=ih hv.kids
  obtain ⟨k,n,s,ks⟩:=v
  have hv2:=hv
  rw [okU] at hv2
  show okU N (.mk k n s us)
  rw [okU]
  refine ⟨hv2.1,fun hk=>?_,h1,hv2.2.2.2⟩
  have h3:=hv2.2.1 hk
  refine ⟨h3.1,h3.2.1,h3.2.2.1,?_⟩
  simp only [T.kids] at h2
  exact List.eq_nil_of_length_eq_zero (by rw [h2,h3.2.2.2]; rfl)
 | nil=>exact fun h=>⟨h,rfl⟩
 | cons _ _ ih1 ih2=>
  intro ho
  rw [dA] at ho
  obtain ⟨h1,h2⟩:=ih2 ho.2
  rw [dA]
  exact ⟨⟨ih1 ho.1,h1⟩,by simp [h2]⟩
theorem Ea {N:Nat} {st:bu} (h:Good N st):∀ ts:List T,dA N ts->∃ us,Res st (.list ts us)
 | [],_=>⟨[],.nil⟩
 | t::ts,ho=>by
  rw [dA] at ho
  obtain ⟨u,hu⟩:=Lv h t ho.1
  obtain ⟨us,hus⟩:=Ea h ts ho.2
  exact ⟨u::us,.cons hu hus⟩
theorem GS {st:bu}:∀ {ts us:List T},Res st (.list ts us)->∀ i (h:i<ts.length) (h':i<us.length),Res st (.one ts[i] us[i])
 | _,_,.cons hu _,0,_,_=>hu
 | _,_,.cons _ hus,i+1,h,h'=>GS hus i (by simpa using h) (by simpa using h')
/- numbered anew -/
mutual
theorem IL {N:Nat}:∀ (t:T) (l:List Int),okU N t->ew t l=ge t l
 | .mk k n s ks,l,h=>by
  rw [okU] at h
  rw [ew,ge]
  split
  ·rename_i hk
   rw [(h.2.1 hk).2.2.2,dE]
  ·exact qH ks l h.2.2.1
theorem qH {N:Nat}:∀ (ts:List T) (l:List Int),dA N ts->cW ts l=dE ts l
 | [],l,_=>by rw [cW,dE]
 | t::ts,l,h=>by
  rw [dA] at h
  rw [cW,dE,IL t l h.1,qH ts _ h.2]
end
mutual
theorem H9 {N:Nat} (vs:List Int) (hd:vs.Nodup):∀ t:T,okU N t->inT vs t->jN vs t=c5 vs t
 | .mk k n s ks,h,hi=>by
  rw [okU] at h
  rw [inT] at hi
  rw [jN,c5]
  by_cases hk:k=1
  ·have h1:=h.2.1 hk
   rw [if_pos hk,if_pos hk,lf vs n n 0 (hi.1 hk) hd,h1.2.2.2,dM,h1.2.2.1,hk]
   rfl
  ·rw [if_neg hk,if_neg hk,zJ vs hd ks h.2.2.1 hi.2]
theorem zJ {N:Nat} (vs:List Int) (hd:vs.Nodup):∀ ts:List T,dA N ts->inL vs ts->gM vs ts=dM vs ts
 | [],_,_=>rfl
 | t::ts,h,hi=>by
  rw [dA] at h
  rw [inL] at hi
  rw [gM,dM,H9 vs hd t h.1 hi.1,zJ vs hd ts h.2 hi.2]
end
theorem HY {N:Nat} {c:C} (hh:okU N c.head) (hb:dA N c.body):dE (c.head::c.body) []=bD c/\jN (bD c) c.head=c5 (bD c) c.head/\gM (bD c) c.body=dM (bD c) c.body:=by
 have hl:dA N (c.head::c.body):=by rw [dA]; exact ⟨hh,hb⟩
 have hv:dE (c.head::c.body) []=bD c:=by rw [bD,qH _ _ hl]
 have hd:(bD c).Nodup:=by rw [<- hv]; exact g5 _ _ List.nodup_nil
 have hi:inL (bD c) (c.head::c.body):=by rw [<- hv]; exact lz _ _
 rw [inL] at hi
 exact ⟨hv,H9 _ hd _ hh hi.1,zJ _ hd _ hb hi.2⟩
/- the resolvent -/
def stU:bu:=List.replicate 52 none
theorem Kw:∀ n:Nat,unb (List.replicate n none)=n
 | 0=>rfl
 | n+1=>by rw [List.replicate_succ,unb,Kw n]
theorem iZ:Good 52 stU:=⟨by simp [stU],fun t ht=>by simp [stU] at ht,fun t ht=>by simp [stU] at ht,fun n=>n,fun n u hu=>by
 have:=List.mem_of_getElem? hu
 simp [stU] at this⟩
def iC (c d:C):List T:=c.head::(ed 26 d.body++c.body.drop 1)
def ofL:List T->C
 | []=>⟨⟨0,0,⟨#[]⟩,[]⟩,[]⟩
 | t::ts=>⟨t,ts⟩
def RO (c d:C) (o:Option (Option C)):Prop:=∃ r st,Uni stU (.one (c.body.headD ⟨0,0,⟨#[]⟩,[]⟩) (dR 26 d.head)) r st/\
 ((r=false/\o=none) ∨ (r=true/\∃ us,Res st (.list (iC c d) us)/\((us.all dO=false/\o=some none) ∨ (us.all dO=true/\o=some (some (ir (bD (ofL us)) (ofL us)))))))
theorem nT {c d:C} (hc:bG c=true) (hd:bG d=true):dA 52 (iC c d):=by
 obtain ⟨c1,c2,_⟩:=gr hc
 obtain ⟨d1,d2,_⟩:=gr hd
 rw [iC,dA]
 exact ⟨Cr (by decide) _ c1,ya (qB 26 _ (CI d2)) (CI fun t ht=>Cr (by decide) _ (c2 t (List.mem_of_mem_drop ht)))⟩
theorem lB {c d:C} (hc:bG c=true) (hd:bG d=true) (hwc:wC c<=1048576) (hwd:wC d<=1048576) (hb:c.body≠[]):okJ 52 (.one (c.body.headD ⟨0,0,⟨#[]⟩,[]⟩) (dR 26 d.head)):=by
 obtain ⟨c1,c2,_⟩:=gr hc
 obtain ⟨d1,d2,_⟩:=gr hd
 unfold wC at hwc hwd
 cases hcb:c.body with
 | nil=>exact absurd hcb hb
 | cons t ts=>
  rw [List.headD_cons]
  have hm:t∈c.body:=by rw [hcb]; exact List.mem_cons_self ..
  have:=kf hm
  exact ⟨⟨Cr (by decide) _ (c2 t hm),by omega⟩,⟨A6 26 _ d1,by rw [Ej]; omega⟩⟩
theorem RO.ex {c d:C} (hc:bG c=true) (hd:bG d=true) (hwc:wC c<=1048576) (hwd:wC d<=1048576) (hb:c.body≠[]):∃ o,RO c d o:=by
 have hj:=lB hc hd hwc hwd hb
 obtain ⟨r,st,hu⟩:=Lf (unb stU) stU iZ (Nat.le_refl _) _ hj
 cases r with
 | false=>exact ⟨none,false,st,hu,.inl ⟨rfl,rfl⟩⟩
 | true=>
  obtain ⟨us,hus⟩:=Ea (hu.good iZ hj).1 (iC c d) (nT hc hd)
  cases hs:us.all dO with
  | false=>exact ⟨some none,true,st,hu,.inr ⟨rfl,us,hus,.inl ⟨hs,rfl⟩⟩⟩
  | true=>exact ⟨_,true,st,hu,.inr ⟨rfl,us,hus,.inr ⟨hs,rfl⟩⟩⟩
/- small terms have small weights -/
theorem K6 {N:Nat} {u:T} (h:dO u=true) (ho:okU N u):wT u<=840:=by
 rw [dO,Bool.and_eq_true,decide_eq_true_eq] at h
 have:=JA u ho
 omega
theorem r3 {N:Nat}:∀ {us:List T},us.all dO=true->dA N us->wL us<=us.length * 840
 | [],_,_=>by simp [wL]
 | u::us,h,ho=>by
  rw [List.all_cons,Bool.and_eq_true] at h
  rw [dA] at ho
  have h1:=K6 h.1 ho.1
  have h2:=r3 h.2 ho.2
  rw [wL,List.length_cons,Nat.succ_mul]
  omega
theorem tW {c d:C} (hc:bG c=true) (hd:bG d=true):(iC c d).length<=13:=by
 obtain ⟨_,_,c3⟩:=gr hc
 obtain ⟨_,_,d3⟩:=gr hd
 rw [iC,List.length_cons,List.length_append,eV,List.length_map,List.length_drop]
 omega

end Go.Proofs.YtnmnddpdikghhaaGreat

/- spec.l4Clause. -/
namespace Go.Proofs.YtnmnddpdikghhaaGreat
open Go Go.RowKit
section
variable {br:Nat} {sl:Value} {ys:List Nat}
attribute [local irreducible] Run CondV ai a4
end
end Go.Proofs.YtnmnddpdikghhaaGreat

/- Queries parsed and drawn: spec.ParseQuery, l6Query, l6Pair, l6MutateAll, DrawReachOf. (printed by gen_drawq.py) -/
namespace Go.Proofs.YtnmnddpdikghhaaGreat
open Go Go.RowKit
def okQ (s:ByteArray):Bool:=match lG 60 8 (bs s) 0 [] with
 | some (q,n)=>decide (n=s.size) && (jZ q && (decide (wL q<=300) && decide (s.size<=1000)))
 | none=>false
theorem JK {s:ByteArray} (h:okQ s=true):∃ q,lG 60 8 (bs s) 0 []=some (q,s.size)/\jZ q=true/\wL q<=300/\s.size<=1000:=by
 unfold okQ at h
 split at h
 ·rename_i q n hq
  simp only [Bool.and_eq_true,decide_eq_true_eq] at h
  obtain ⟨rfl,h2,h3,h4⟩:=h
  exact ⟨q,hq,h2,h3,h4⟩
 ·cases h
theorem Hi {q:List T} (h:jZ q=true):q.length<=6:=by
 rw [jZ,Bool.and_eq_true] at h
 have:=h.1
 simp at this
 omega
def LightT (n m:Nat) (q:List T):Prop:=q.length<=n/\∀ t∈q,wT t<=m
theorem LightT.le {n m:Nat} {q:List T} (h:LightT n m q):q.length+wL q<=n+n * m:=by
 have:∀ q:List T,(∀ c∈q,wT c<=m)->wL q<=q.length * m:=by
  intro q
  induction q with
  | nil=>intro _; simp [wL]
  | cons c q ih=>
   intro h
   have h1:=h c (List.mem_cons_self ..)
   have h2:=ih fun d hd=>h d (List.mem_cons_of_mem _ hd)
   simp only [wL,List.length_cons,Nat.succ_mul]
   omega
 have h1:=this q h.2
 have h2:q.length * m<=n * m:=Nat.mul_le_mul_right _ h.1
 have:=h.1
 omega
section
variable {w0 w:World} {X:List Nat} {L A:List Item} {S:ay}
theorem Ix {v:Value} {css:List (List Value)} {q:List T} (hI:Inv w0 X (a5 v ab 4 css::A) S w) (hR:Rows 4 (RdT S) css q) :
  ∃ S',Ext w0.heap.size X S S'/\Inv w0 X A S' w/\RdSl S' 4 (RdT S') v q:=by
 have hI:Inv w0 X (A++[a5 v ab 4 css]) S w:=hI.last 0 rfl
 obtain ⟨S',hE,hrd,hI⟩:=Inv.lendExt hI
 exact ⟨S',hE,hI,RowRd.rows (hR.monoR fun _ _ h=>RdT.mono hE.1 h) hrd⟩
end
section
variable {br:Nat} {sl:Value} {ys:List Nat} {S:ay}
attribute [local irreducible] Run CondV ai a4
theorem ut {s:ByteArray} (h:okQ s=true):Tri Tryz.prog y4 [.string s] [] S fun v I' S'=>I'=[]/\∃ u q,v=.tuple #[u,.bool true]/\RdSl S' 4 (RdT S') u q/\LightT 6 300 q:=by
 intro w hI
 obtain ⟨q,hq,hqv,hqw,hs⟩:=JK h
 have hql:=Hi hqv
 have hbs:(bs s).length=s.size:=(kI (bs s)).symm
 refine qw ?_
 unfold mI
 refine ij bk ?_
 refine jH (by omega) ?_
 refine a7 (fun hb=>by cases hb) (fun _=>?_)
 refine Run.call0E r6 tq hI (pz (i:=0) hq (Nat.le_trans (Nat.le_of_eq hbs) (by omega)) (Nat.zero_le _)) fun v I' S1 w'=>?_
 rintro ⟨rfl,u,rfl,hu⟩ hE1 hI
 have hI:Inv w [] [] S1 w':=hI
 refine aT (v:=u) rfl ?_
 refine aT (v:=.int .i64 (s.size:Int)) rfl ?_
 refine ⟨fun t w'=>t=.bool false/\Inv w [] [] S1 w',?_,?_⟩
 ·refine ij bk ?_
  refine iD ?_
  rw [decide_eq_true rfl]
  repeat (first|refine ae ?_|refine ah (by decide) ?_|refine ad ?_|refine al ?_|refine aj ?_)
  refine Run.callPure xj wt hI (qj hu (by omega)) fun w' hI=>?_
  rw [hqv]
  refine cN ?_
  repeat (first|refine ae ?_|refine ah (by decide) ?_|refine ad ?_|refine al ?_|refine aj ?_)
  exact ⟨rfl,hI⟩
 intro t25 _ _ _ _ _ _ _ _ w'
 rintro ⟨rfl,hI⟩
 refine a7 (fun hb=>by cases hb) (fun _=>?_)
 refine gN hI bC fun v0 w' hI=>?_
 refine ⟨fun a b w'=>∃ (j:Nat) (S2:ay) (css:List (List Value)),a=.int .i64 (j:Int)/\j<=q.length/\Ext w.heap.size [] S S2/\Sle S1 S2/\Rows 4 (RdT S2) css (q.take j)/\Inv w [] [a5 b ab 4 css] S2 w',
  fun a _ _=>q.length - (intOf a).toNat,⟨0,S1,[],rfl,Nat.zero_le _,hE1,Sle.refl _,Rows.nil _ _,hI⟩,?_⟩
 intro t7 _ _ t6 _ _ _ _ _ _ _ _ _ _ _ _ w'
 rintro ⟨j,S2,css,rfl,hj,hE2,hle,hR,hI⟩
 have hu:=hu.monoT hle
 have hcl:=hR.hc
 refine bm hu aG ?_
 refine cF ?_
 refine bF (fun hji=>?_) (fun hji=>?_)
 ·have hj':j<q.length:=by omega
  have hm:=gF (List.getElem_mem hj')
  have htk:(q.take j).length=j:=by rw [List.length_take]; omega
  refine dN hI hu aG ag hj' (fun _ _=>RdT.length) fun cs hcs=>?_
  refine Run.call0E fp fu hI (gv _ S2 cs hcs (by omega)) fun v' I' S3 w'=>?_
  rintro ⟨rfl,ds,M,rfl,rfl,hT⟩ hE3 hI
  obtain ⟨S3,hI,hE3,hins⟩:=hI.pubExt
  have hr3:=hT.rd hins
  refine eL (css:=css) hI 0 ds bC (by omega) (by omega) rfl hr3.length hr3.one (by omega) (by omega) fun v' w' hI=>?_
  refine bR (by omega) ?_
  exact ⟨⟨j+1,S3,_,rfl,hj',hE2.trans hE3,hle.trans hE3.1,by rw [List.take_succ_eq_append_getElem hj']; exact (hR.monoR fun _ _ h=>RdT.mono hE3.1 h).snoc hr3 hr3.length,hI⟩,by simp [intOf]; omega⟩
 ·have:j=q.length:=by omega
  subst this
  rw [List.take_length] at hR
  obtain ⟨S3,hE3,hI,hr⟩:=Ix hI hR
  exact ⟨_,[],S3,rfl,hI,hE2.trans hE3,rfl,_,q,rfl,hr,hql,fun t ht=>by have:=gF ht; omega⟩
/- a program and a query: published -/
abbrev KW (br:Nat) (sl:Value) (p k:Nat):Value->List Item->ay->Prop:=fun v I' S'=>∃ p',p'<=p+k/\I'=[rdI br sl p']/\∃ u g ps q,v=.tuple #[u,g]/\RdSl S' 5 (RdC S') u ps/\Light 8 200 ps/\0<ps.length/\RdSl S' 4 (RdT S') g q/\LightT 6 300 q
end
end Go.Proofs.YtnmnddpdikghhaaGreat

/- spec.l15Pair, DrawUnfoldClause, DrawCanUnfold. -/
namespace Go.Proofs.YtnmnddpdikghhaaGreat
open Go Go.RowKit
section
variable {br:Nat} {sl:Value} {ys:List Nat} {S:ay}
attribute [local irreducible] Run CondV ai a4
theorem nw (S:ay):Tri Tryz.prog Cu [] [] S fun v I' S'=>I'=[]/\∃ l,RdSl S' 1 pk v l/\l.length=7/\l.all okS=true:=by
 intro w hI
 refine tZ ?_
 unfold pn
 refine qr hI (by kernel_rfl) rfl (by omega) fun v S1 w' hE1 hv hI=>?_
 exact ⟨_,[],S1,rfl,hI,hE1,rfl,_,hv,rfl,by decide +kernel⟩
theorem tM (S:ay):Tri Tryz.prog yf [] [] S fun v I' S'=>I'=[]/\∃ l,RdSl S' 1 pk v l/\l.length=7/\l.all okQ=true:=by
 intro w hI
 refine qt ?_
 unfold mA
 refine qr hI (by kernel_rfl) rfl (by omega) fun v S1 w' hE1 hv hI=>?_
 exact ⟨_,[],S1,rfl,hI,hE1,rfl,_,hv,rfl,by decide +kernel⟩
theorem Ak {p:Nat} (hrd:RdSl S 1 kR sl ys) (hp:p<=10000000):Tri Tryz.prog Ep [rdP br] [rdI br sl p] S (KW br sl p 3):=by
 intro w hI
 refine wN ?_
 unfold rI
 refine Run.call0E pL pg hI (nw S) fun v' I' S1 w'=>?_
 rintro ⟨rfl,l,hl,hl7,_⟩ hE1 hI
 have hI:Inv w [br] [rdI br sl p] S1 w':=hI
 refine bm hl cH ?_
 refine Run.callL bU bT hI (dI (n:=l.length) (hrd.monoU hE1.1) (by omega) (by omega)) rfl fun v' I' S1 w'=>?_
 rintro ⟨rfl,rfl,k,hk,rfl⟩ _ hI
 have hI:Inv w [br] [rdI br sl (p+1)] S1 w':=hI
 refine ⟨fun t w'=>∃ k p1:Nat,t=.int .i64 (k:Int)/\k<7/\p1<=p+3/\Inv w [br] [rdI br sl p1] S1 w',?_,?_⟩
 ·refine Run.callL bU bT hI (dI (n:=3) (hrd.monoU hE1.1) (by omega) (by omega)) rfl fun v' I' S1 w'=>?_
  rintro ⟨rfl,rfl,k2,hk2,rfl⟩ _ hI
  have hI:Inv w [br] [rdI br sl (p+2)] S1 w':=hI
  refine ff ?_
  refine bF (fun _=>?_) (fun _=>⟨k,p+2,rfl,by omega,by omega,hI⟩)
  refine Run.callL bU bT hI (dI (n:=4) (hrd.monoU hE1.1) (by omega) (by omega)) rfl fun v' I' S1 w'=>?_
  rintro ⟨rfl,rfl,k3,hk3,rfl⟩ _ hI
  exact ⟨k3,p+3,rfl,by omega,by omega,hI⟩
 intro t4 _ _ _ _ _ w'
 rintro ⟨k,p1,rfl,hk7,hp1,hI⟩
 refine Run.call0E pL pg hI (nw S1) fun v' I' S2 w'=>?_
 rintro ⟨rfl,l,hl,hl7,hok⟩ hE2 hI
 have hk:k<l.length:=by omega
 refine iX hI hl cH bz hk (fun cs hcs=>hcs) ?_
 rw [List.all_eq_true] at hok
 refine Run.call0E j7 ku hI (BB (hok _ (List.getElem_mem hk))) fun v I' S3 w'=>?_
 rintro ⟨u,css,ps,rfl,rfl,hR,h0,hps,_⟩ hE3 hI
 have hI:Inv w [br] [a5 u ac 5 css,rdI br sl p1] S3 w':=hI.last 0 rfl
 obtain ⟨S4,hE4,hI,hr⟩:=Eu hI hR
 refine aT (v:=u) rfl ?_
 refine aT (v:=.bool true) rfl ?_
 refine Run.call0E wF wJ hI (tM S4) fun v' I' S5 w'=>?_
 rintro ⟨rfl,l2,hl2,hl27,hokq⟩ hE5 hI
 have hk2:k<l2.length:=by omega
 refine iX hI hl2 cH bz hk2 (fun cs hcs=>hcs) ?_
 rw [List.all_eq_true] at hokq
 refine Run.call0E xg wM hI (ut (hokq _ (List.getElem_mem hk2))) fun v I' S6 w'=>?_
 rintro ⟨rfl,g,q,rfl,hg,hlq⟩ hE6 hI
 have hI:Inv w [br] [rdI br sl p1] S6 w':=by simpa using hI
 refine aT (v:=g) rfl ?_
 refine aT (v:=.bool true) rfl ?_
 exact ⟨_,_,S6,rfl,hI,hE1.trans (hE2.trans (hE3.trans (hE4.trans (hE5.trans hE6)))),p1,hp1,rfl,u,g,ps,q,rfl,hr.monoC (hE5.trans hE6).1,hps,h0,hg,hlq⟩
end
end Go.Proofs.YtnmnddpdikghhaaGreat

/- What calls what, and what can be reached: both sides. -/
namespace Go.Proofs.YtnmnddpdikghhaaGreat
open Go Go.RowKit
attribute [local irreducible] Run CondV ai a4

end Go.Proofs.YtnmnddpdikghhaaGreat

/- The graph of calls: the plain form. -/
namespace Go.Proofs.YtnmnddpdikghhaaGreat
open Go Go.RowKit
attribute [local irreducible] Run CondV ai a4

/- what may still come in -/
/- rows of predicates: their length, an element -/
section
variable {P:Program} {w w0:World} {X:List Nat} {L:List Item} {S:ay} {K:Value->World->Prop}
end

end Go.Proofs.YtnmnddpdikghhaaGreat

/- What the clauses for a name call: both sides. -/
namespace Go.Proofs.YtnmnddpdikghhaaGreat
open Go Go.RowKit
attribute [local irreducible] Run CondV ai a4

/- the program's side goes over the clauses' numbers -/
end Go.Proofs.YtnmnddpdikghhaaGreat

/- What some predicates can lead to: both sides. -/
namespace Go.Proofs.YtnmnddpdikghhaaGreat
open Go Go.RowKit
attribute [local irreducible] Run CondV ai a4

end Go.Proofs.YtnmnddpdikghhaaGreat

/- Which predicates can lead to themselves: both sides. -/
namespace Go.Proofs.YtnmnddpdikghhaaGreat
open Go Go.RowKit
attribute [local irreducible] Run CondV ai a4

end Go.Proofs.YtnmnddpdikghhaaGreat

/- PredsOf, CallsOf, ReachOf: both sides. -/
namespace Go.Proofs.YtnmnddpdikghhaaGreat
open Go Go.RowKit
attribute [local irreducible] Run CondV ai a4

end Go.Proofs.YtnmnddpdikghhaaGreat

/- A predicate that comes in: its size, its copy, its reading. -/
namespace Go.Proofs.YtnmnddpdikghhaaGreat
open Go Go.ChangeShapes Go.WideShapes Go.ChangeAt Go.RowKit
section
attribute [local irreducible] Run CondV ai a4
end
theorem two {cs:List Value} (h:cs.length=2):∃ a b,cs=[a,b]:=by
 match cs,h with
 | [a,b],_=>exact ⟨a,b,rfl⟩
end Go.Proofs.YtnmnddpdikghhaaGreat

/- spec.l14Pred, DrawPredsOf, DrawCallsOf, DrawRecursivePred. -/
namespace Go.Proofs.YtnmnddpdikghhaaGreat
open Go Go.RowKit
section
variable {br:Nat} {sl:Value} {ys:List Nat}
attribute [local irreducible] Run CondV ai a4
theorem Pd.one (x:Pd):∀ u∈x.cells,u.oneCell'=true:=by
 intro u hu
 have hu':u∈([.string x.name,.int .i64 x.arity]:List Value):=hu
 simp at hu'
 rcases hu' with rfl|rfl <;> rfl
end
end Go.Proofs.YtnmnddpdikghhaaGreat

/- What the laws compare with: pgPreds, pgPred, impl.ClauseSame, pgClauses; bytes that come in. -/
namespace Go.Proofs.YtnmnddpdikghhaaGreat
open Go Go.ChangeShapes Go.WideShapes Go.ChangeAt Go.RowKit
theorem LW:Tryz.prog.underlying Cy=some (.int .u8):=by kernel_rfl
theorem K8 {H:Type} {enc:TypeId × Value->H} {W:World} {sp:Nat->Bool} {held:Bool} {fuel:Nat} {cs:List Value} {x:DataW H × List MemPlace} (h:DataW.trod enc Tryz.prog W 0 sp held fuel Cy cs=some x) :
  ∃ n,kR cs n:=by
 cases fuel with
 | zero=>simp [DataW.trod] at h
 | succ n=>
  unfold DataW.trod at h
  rw [LW] at h
  split at h <;> simp_all
  rename_i k1 k2 m he
  subst he
  obtain ⟨⟨_,h⟩,_⟩:=h
  simp only [Lit.wf,Bool.and_eq_true,decide_eq_true_eq] at h
  have h1:0<=m/\m<=255:=h
  exact ⟨m.toNat,by rw [kR,Int.toNat_of_nonneg (by omega)]; exact ⟨rfl,by omega⟩⟩
theorem y8 {H:Type} {enc:TypeId × Value->H} {W:World} {sp:Nat->Bool} {held:Bool} {fuel:Nat} {v:Value} {x:DataW H × List MemPlace} (h:DataW.trod enc Tryz.prog W 0 sp held fuel Dw [v]=some x) :
  ∃ ys,RdSl (Ig W) 1 kR v ys:=KR dX (by omega) h fun _ _ _ _ hy=>K8 hy
section
variable {w0 w:World} {X:List Nat} {L:List Item} {S:ay} {K:Value->World->Prop}
attribute [local irreducible] Run CondV ai a4
theorem JN {P:Program} {T:TypeId} {cx cy:Bool} {a b:Bool} (hu:P.underlying T=some .bool) (hk:K (.bool (a == b)) w):Run P (av .eql T cx cy (.bool a) (.bool b)) w K:=
 Run.of (by
  have he:(Op.equal T (.bool a) (.bool b)).run P w=.ok (a == b) w:=by
   rw [Op.equal,Op.maxDepth,Op.equalIn.eq_def]
   simp [run_underlying hu]
  simp only [av,binOp,Sem.run_bind,tk,Result.andThen_ok,he,Sem.run_pure]) hk
theorem JJ (t:T):eqT t t=true:=(xo t t).2 rfl
theorem qp {c0 d0:C} {cs ds:List Value} (h:RdC S cs c0) (g:RdC S ds d0):Pure Tryz.prog oC [.agg cs.toArray,.agg ds.toArray] S (.bool (eqT c0.head d0.head && eqL c0.body d0.body)):=by
 intro w hI
 obtain ⟨hd,kb,rfl,h1,h2⟩:=h
 obtain ⟨hd',kb',rfl,g1,g2⟩:=g
 have h1':=h1
 have g1':=g1
 obtain ⟨kv,rfl,_⟩:=RdT.iff.1 h1
 obtain ⟨kv',rfl,_⟩:=RdT.iff.1 g1
 refine qv ?_
 unfold mo
 refine bN hI fun b1 w' hI=>?_
 refine bN hI fun b2 w' hI=>?_
 have hI:Inv w [] [.blk b1 (.cells #[.int .i64 c0.head.kind,.int .i64 c0.head.n,.string c0.head.name,kv,kb] ac),.blk b2 (.cells #[.int .i64 d0.head.kind,.int .i64 d0.head.n,.string d0.head.name,kv',kb'] ac)] S w':=hI
 refine bj bQ ?_
 refine cY hI 0 [.int .i64 c0.head.kind,.int .i64 c0.head.n,.string c0.head.name,kv] ag rfl rfl n3 ?_
 refine bj bQ ?_
 refine cY hI 1 [.int .i64 d0.head.kind,.int .i64 d0.head.n,.string d0.head.name,kv'] ag rfl rfl n3 ?_
 refine Run.callPure kQ kP hI (iN _ _ S _ _ h1' g1') fun w' hI=>?_
 cases he:eqT c0.head d0.head
 ·repeat (first|refine ae ?_|refine ah (by decide) ?_|refine ad ?_|refine al ?_|refine aj ?_)
  exact done hI (by rw [Bool.false_and])
 ·repeat (first|refine ae ?_|refine ah (by decide) ?_|refine ad ?_|refine al ?_|refine aj ?_)
  refine ar hI 0 rfl bl aL rfl ?_
  refine ar hI 1 rfl bl aL rfl ?_
  refine Run.callPure jp jl hI (rC (fun t _=>iN t) h2 g2) fun w' hI=>?_
  repeat (first|refine ae ?_|refine ah (by decide) ?_|refine ad ?_|refine al ?_|refine aj ?_)
  exact done hI (by rw [Bool.true_and])
theorem fN {c0:C} {cs ds:List Value} (h:RdC S cs c0) (g:RdC S ds c0):Pure Tryz.prog oC [.agg cs.toArray,.agg ds.toArray] S (.bool true):=by
 have:=qp h g
 rwa [JJ,(xm _ _).2 rfl] at this
end
end Go.Proofs.YtnmnddpdikghhaaGreat

/- spec.DrawSubsumedClause. -/
namespace Go.Proofs.YtnmnddpdikghhaaGreat
open Go Go.RowKit
abbrev zCl:Array Value:=#[.int .i64 0,.int .i64 0,.string ⟨#[]⟩,.slice none 0 0,.slice none 0 0]
section
variable {S:ay} {ys:List Nat} {v:Value}
attribute [local irreducible] Run CondV ai a4
end
end Go.Proofs.YtnmnddpdikghhaaGreat

/- spec.DrawResolvent. -/
namespace Go.Proofs.YtnmnddpdikghhaaGreat
open Go Go.RowKit
section
variable {S:ay} {ys:List Nat}
attribute [local irreducible] Run CondV ai a4
theorem jr {v:Value} (h:RdSl S 1 kR v ys):Tri Tryz.prog sk [v] [] S fun v' I' S'=>I'=[]/\∃ cs c ds d,v'=.tuple #[.agg cs.toArray,.agg ds.toArray]/\RdC S' cs c/\RdC S' ds d/\wC c<=2000/\wC d<=2000:=by
 intro w hI
 refine mP ?_
 unfold jW
 refine a9 hI bM fun b2 w' hI=>?_
 refine a9 hI bM fun b3 w' hI=>?_
 refine Run.call0E Ct B8 hI (HB h) fun v1 I' S1 w'=>?_
 rintro ⟨rfl,br,sl,ys',rfl,rfl,hrd⟩ hE1 hI
 have hI:Inv w [] [.blk b2 (.cells zCl ac),.blk b3 (.cells zCl ac),rdI br sl 0] S1 w':=hI
 refine Run.callL CO CJ hI (Ak (p:=0) hrd (by omega)) rfl fun v2 I' S2 w'=>?_
 rintro ⟨p1,hp1,rfl,u,g,ps,q,rfl,hps,hlp,h0,hq,hlq⟩ hE2 hI
 have hI:Inv w [] [.blk b2 (.cells zCl ac),.blk b3 (.cells zCl ac),rdI br sl p1] S2 w':=hI
 refine aT (v:=u) rfl ?_
 refine aT (v:=g) rfl ?_
 refine ⟨fun t w'=>∃ (p2:Nat) (S3:ay) (q:List C),p2<=100000/\Ext w.heap.size [] S1 S3/\RdSl S3 5 (RdC S3) t q/\Light 30 900 q/\0<q.length/\Inv w [] [.blk b2 (.cells zCl ac),.blk b3 (.cells zCl ac),rdI br sl p2] S3 w',?_,?_⟩
 ·refine Run.callL bU bT hI (dI (n:=3) (hrd.monoU hE2.1) (by omega) (by omega)) rfl fun v' I' S2 w'=>?_
  rintro ⟨rfl,rfl,k,hk,rfl⟩ _ hI
  refine bO ?_
  refine bF (fun _=>?_) (fun _=>⟨p1+1,_,ps,by omega,hE2,hps,⟨by have:=hlp.1; omega,fun c hc=>by have:=hlp.2 c hc; omega⟩,h0,hI⟩)
  refine Run.callL yj yN hI (xf (p:=p1+1) (hrd.monoU hE2.1) (by omega)) rfl fun v1 I' S3 w'=>?_
  rintro ⟨p2,css1,q1,hp2,rfl,hR1,hq1,h1,_⟩ hE3 hI
  have hI:Inv w [] [.blk b2 (.cells zCl ac),.blk b3 (.cells zCl ac),a5 v1 ac 5 css1,rdI br sl p2] S3 w':=hI
  have hI:=hI.perm (M:=a5 v1 ac 5 css1::[.blk b2 (.cells zCl ac),.blk b3 (.cells zCl ac),rdI br sl p2]) (List.perm_middle (l₁:=[.blk b2 (.cells zCl ac),.blk b3 (.cells zCl ac)]) (l₂:=[rdI br sl p2])).symm
  obtain ⟨S4,hE4,hI,hr⟩:=Eu hI hR1
  have hE4:=(hE2.trans hE3).trans hE4
  exact ⟨p2,S4,q1,by omega,hE4,hr,⟨by have:=hq1.1; omega,fun c hc=>by have:=hq1.2 c hc; omega⟩,h1,hI⟩
 intro t5 _ _ _ _ _ w'
 rintro ⟨p2,S3,q3,hp2,hE3,hr,hl,h0,hI⟩
 have hql:=hl.1
 have hrd:=hrd.monoU hE3.1
 refine bm hr km ?_
 refine Run.callL bU bT hI (dI (n:=q3.length) hrd (by omega) (by omega)) rfl fun v' I' S3 w'=>?_
 rintro ⟨rfl,rfl,k,hk,rfl⟩ _ hI
 obtain ⟨b,o,cap,c,E,fz,rfl,hS,hR⟩:=hr.at_ hk
 refine bq km hk ?_
 refine dF aI hR.length (fun j v hj=>by rw [hI.cellS hS]; exact bx rfl j v hj) ?_
 have hw1:=hl.2 _ (List.getElem_mem hk)
 refine Run.callL pl pd hI (oE (p:=p2+1) hrd hR (by omega) (by omega)) rfl fun v' I' S4 w'=>?_
 rintro ⟨p3,hp3,rfl,cs,c1,rfl,hc1,hwc1⟩ hE4 hI
 have hrd:=hrd.monoU hE4.1
 have hr:=hr.monoC hE4.1
 refine bm hr km ?_
 refine Run.callL bU bT hI (dI (n:=q3.length) hrd (by omega) (by omega)) rfl fun v' I' S4 w'=>?_
 rintro ⟨rfl,rfl,k2,hk2,rfl⟩ _ hI
 obtain ⟨b',o',cap',c',E',fz',he,hS2,hR2⟩:=hr.at_ hk2
 rw [he]
 refine bq km hk2 ?_
 refine dF aI hR2.length (fun j v hj=>by rw [hI.cellS hS2]; exact bx rfl j v hj) ?_
 have hw2:=hl.2 _ (List.getElem_mem hk2)
 refine Run.callL pl pd hI (oE (p:=p3+1) hrd hR2 (by omega) (by omega)) rfl fun v' I' S5 w'=>?_
 rintro ⟨p4,hp4,rfl,ds,d1,rfl,hd1,hwd1⟩ hE5 hI
 have hc1:=hc1.mono hE5.1
 have hI:Inv w [] [.blk b2 (.cells zCl ac),.blk b3 (.cells zCl ac),rdI br sl p4] S5 w':=hI
 refine aM hI 0 rfl aI (by simpa using hc1.length) rfl (by simpa using hc1.one) fun w' hI=>?_
 refine aM hI 1 rfl aI (by simpa using hd1.length) rfl (by simpa using hd1.one) fun w' hI=>?_
 refine bA hI 0 aI rfl (by simpa using hc1.length) ?_
 refine bA hI 1 aI rfl (by simpa using hd1.length) ?_
 exact ⟨_,[],S5,rfl,hI.nil,hE1.trans (hE3.trans (hE4.trans hE5)),rfl,cs,c1,ds,d1,rfl,hc1,hd1,by omega,by omega⟩
end
end Go.Proofs.YtnmnddpdikghhaaGreat

/- Matching with a map: impl.instance. -/
namespace Go.Proofs.YtnmnddpdikghhaaGreat
open Go Go.RowKit

/- the map of impl.instance -/
def KnownM (S:ay) (es:Array MapEntry) (st:bu):Prop:=
 (∀ e∈es.toList,∃ (n:Nat) (t:T) (cs:List Value),e.key=.int .i64 n/\e.val=.agg cs.toArray/\RdT S cs t/\st[n]?=some (some t))/\(∀ (n:Nat) (t:T),st[n]?=some (some t)->∃ e∈es.toList,e.key=.int .i64 n)
theorem KnownM.find {S:ay} {es:Array MapEntry} {st:bu} (h:KnownM S es st) (n:Nat) :
  (∃ j v t cs,Instr.findNow (.int .i64) (.int .i64 n) es.toList 0=some (some (j,v))/\v=.agg cs.toArray/\RdT S cs t/\st[n]?=some (some t)) ∨
  ((∀ t,st[n]?≠some (some t))/\Instr.findNow (.int .i64) (.int .i64 n) es.toList 0=some none):=by
 rcases nM (n:=n) es.toList 0 (fun e he=>by obtain ⟨m,_,_,hk,_⟩:=h.1 e he; exact ⟨m,hk⟩) with ⟨j,e,he,hk,hf⟩|⟨hk,hf⟩
 ·obtain ⟨m,t,cs,hk2,hv,hR,hs⟩:=h.1 e he
  rw [hk] at hk2
  simp only [Value.int.injEq,true_and] at hk2
  have:n=m:=by omega
  subst this
  exact .inl ⟨j,e.val,t,cs,hf,hv,hR,hs⟩
 ·refine .inr ⟨fun t ht=>?_,hf⟩
  obtain ⟨e,he,hk2⟩:=h.2 n t ht
  exact hk e he hk2
theorem KnownM.push {S:ay} {es:Array MapEntry} {st:bu} (h:KnownM S es st) {n:Nat} (hn:n<st.length) (hno:∀ t,st[n]?≠some (some t)) {cs:List Value} {u:T} (hu:RdT S cs u) (ck:Nat) :
  KnownM S (es.push { key:=.int .i64 n,val:=.agg cs.toArray,born:=ck }) (st.set n (some u)):=by
 refine ⟨fun e he=>?_,fun m t ht=>?_⟩
 ·rw [Array.toList_push] at he
  rcases List.mem_append.1 he with he|he
  ·obtain ⟨m,t,cs',hk,hv,hR,hs⟩:=h.1 e he
   refine ⟨m,t,cs',hk,hv,hR,?_⟩
   have:n≠m:=fun e=>hno t (by rw [e]; exact hs)
   rw [List.getElem?_set_ne this]
   exact hs
  ·simp at he
   subst he
   exact ⟨n,u,cs,rfl,rfl,hu,by rw [List.getElem?_set_self hn]⟩
 ·rw [Array.toList_push]
  by_cases e:n=m
  ·exact ⟨_,List.mem_append_right _ (List.mem_singleton.2 rfl),by rw [e]⟩
  ·rw [List.getElem?_set_ne e] at ht
   obtain ⟨x,hx,hk⟩:=h.2 m t ht
   exact ⟨x,List.mem_append_left _ hx,hk⟩
theorem Bl (t u:T):jk t u=jk u t:=by
 rw [jk,jk,Bool.eq_iff_iff]
 simp only [Bool.and_eq_true,decide_eq_true_eq]
 constructor
 ·rintro ⟨a,b,c,d⟩; exact ⟨a.symm,b.symm,c.symm,d.symm⟩
 ·rintro ⟨a,b,c,d⟩; exact ⟨a.symm,b.symm,c.symm,d.symm⟩
section
attribute [local irreducible] Run CondV ai a4
theorem xZ:∀ (t u:T) (S:ay) (cs ds:List Value) (mb ck:Nat) (es:Array MapEntry) (st:bu),RdT S cs t->RdT S ds u->okV t->okK u->CU st->KnownM S es st->
  Tri Tryz.prog Dj [.agg ds.toArray,.agg cs.toArray,.map (some mb)] [.blk mb (.map es ck)] S fun r I' S'=>S'=S/\r=.bool (dH t u st).1/\∃ es' ck',I'=[.blk mb (.map es' ck')]/\KnownM S es' (dH t u st).2:=by
 refine T.ind fun k' n' s' ks' ih u S cs ds mb ck es st h' h hv hu hst hkc=>?_
 intro w hI
 have hds:=h
 obtain ⟨kv',rfl,_,_,_,hks'⟩:=RdT.iff.1 h'
 obtain ⟨kv,rfl,_,_,_,hks⟩:=RdT.iff.1 h
 obtain ⟨k,n,s,ks⟩:=u
 simp only [T.name,T.kids,T.kind,T.n] at hks hks' ⊢
 have hlen:=hks'.le
 simp only [maxLen] at hlen
 rw [okV] at hv
 obtain ⟨hv1,hv2⟩:=hv
 have huk:=hu
 rw [okK] at hu
 obtain ⟨X,hX⟩:∃ X,X=bS [Item.blk mb (.map es ck)]:=⟨_,rfl⟩
 rw [<- hX] at hI ⊢
 refine um ?_
 unfold pw;dsimp only
 refine bN hI fun b1 w' hI=>?_
 refine bN hI fun b2 w' hI=>?_
 have hI:Inv w X [.blk b1 (.cells #[.int .i64 k,.int .i64 n,.string s,kv] ab),.blk b2 (.cells #[.int .i64 k',.int .i64 n',.string s',kv'] ab),.blk mb (.map es ck)] S w':=hI.perm (by
  refine (List.perm_append_comm (l₁:=[_,_]) (l₂:=[_])).trans ?_
  exact List.Perm.refl _)
 refine ar hI 1 rfl bv bg rfl ?_
 refine bO ?_
 refine bF (fun hk1=>?_) (fun hk1=>?_)
 ·obtain ⟨hn0,hn25⟩:=hv1 hk1
  obtain ⟨j,rfl⟩:∃ j:Nat,n'=j:=⟨n'.toNat,by omega⟩
  have hj:j<26:=by omega
  have hjs:j<st.length:=by rw [hst.1]; exact hj
  refine ar hI 1 rfl bn bg rfl ?_
  rcases hkc.find j with ⟨q,v,t0,cs0,hf,rfl,hR,hst2⟩|⟨hno,hf⟩
  ·refine Ex (v:=.agg cs0.toArray) (ok:=true) hI 2 gK gJ bt rfl (.inl ⟨q,hf,rfl⟩) ?_
   refine aT rfl ?_
   refine aT rfl ?_
   have hlc:=hR.length
   refine a9 hI bt fun b7 w' hI=>?_
   refine aM hI 3 rfl ag (by simpa using hlc) rfl (by simpa using hR.one) fun w' hI=>?_
   refine cN ?_
   refine a7 (fun hb=>by cases hb) (fun _=>?_)
   refine aO hI 3 ag rfl (by simpa using hlc) ?_
   refine aO hI 0 ag rfl rfl ?_
   refine Run.callPure kQ kP hI (iN t0 _ S _ _ hR hds) fun w' hI=>?_
   have hm:dH (.mk k' j s' ks') (.mk k n s ks) st=(eqT t0 (.mk k n s ks),st):=by
    rw [dH,if_pos hk1,Int.toNat_natCast,hst2]
   rw [hm]
   exact ⟨_,_,_,rfl,hI.pick [false,false,true,false],Ext.refl _ _ _,rfl,rfl,_,_,rfl,hkc⟩
  ·refine Ex (ok:=false) hI 2 gK gJ bt rfl (.inr ⟨hf,rfl,rfl⟩) ?_
   refine aT rfl ?_
   refine aT rfl ?_
   refine a9 hI bt fun b7 w' hI=>?_
   refine aM hI 3 rfl ag rfl rfl (by simp [Value.oneCell']) fun w' hI=>?_
   refine cN ?_
   refine a7 (fun _=>?_) (fun hb=>by cases hb)
   refine ar hI 1 rfl bn bg rfl ?_
   refine aO hI 0 ag rfl rfl ?_
   refine zf hI 2 gK gJ rfl hf fun w' hI=>?_
   have hm:dH (.mk k' j s' ks') (.mk k n s ks) st=(true,st.set j (some (.mk k n s ks))):=by
    rw [dH,if_pos hk1,Int.toNat_natCast,List.getElem?_eq_getElem hjs]
    cases hq:st[j] with
    | none=>rfl
    | some t=>exact absurd (by rw [List.getElem?_eq_getElem hjs,hq]) (hno t)
   rw [hm]
   exact ⟨_,_,_,rfl,hI.pick [false,false,true,false],Ext.refl _ _ _,rfl,rfl,_,_,rfl,hkc.push hjs hno hds ck⟩
 refine ⟨fun q w'=>q=.bool (!jk (.mk k n s ks) (.mk k' n' s' ks'))/\Inv w X [.blk b1 (.cells #[.int .i64 k,.int .i64 n,.string s,kv] ab),.blk b2 (.cells #[.int .i64 k',.int .i64 n',.string s',kv'] ab),.blk mb (.map es ck)] S w',?_,?_⟩
 ·refine ar hI 0 rfl bv bg rfl ?_
  refine ar hI 1 rfl bv bg rfl ?_
  refine iD ?_
  by_cases e1:k=k'
  ·rw [decide_eq_true e1]
   repeat (first|refine ae ?_|refine ah (by decide) ?_|refine ad ?_|refine al ?_|refine aj ?_)
   refine ar hI 0 rfl bn bg rfl ?_
   refine ar hI 1 rfl bn bg rfl ?_
   refine iD ?_
   by_cases e2:n=n'
   ·rw [decide_eq_true e2]
    repeat (first|refine ae ?_|refine ah (by decide) ?_|refine ad ?_|refine al ?_|refine aj ?_)
    refine ar hI 0 rfl bH bz rfl ?_
    refine ar hI 1 rfl bH bz rfl ?_
    refine Cl ?_
    by_cases e3:s=s'
    ·rw [decide_eq_true e3]
     repeat (first|refine ae ?_|refine ah (by decide) ?_|refine ad ?_|refine al ?_|refine aj ?_)
     refine ar hI 0 rfl aP aL rfl ?_
     refine bm hks aG ?_
     refine ar hI 1 rfl aP aL rfl ?_
     refine bm hks' aG ?_
     refine iD ?_
     repeat (first|refine ae ?_|refine ah (by decide) ?_|refine ad ?_|refine al ?_|refine aj ?_)
     exact ⟨by rw [gy,decide_eq_true e1,decide_eq_true e2,decide_eq_true e3,JP]; rfl,hI⟩
    ·rw [decide_eq_false e3]
     repeat (first|refine ae ?_|refine ah (by decide) ?_|refine ad ?_|refine al ?_|refine aj ?_)
     exact ⟨by rw [gy,decide_eq_true e1,decide_eq_true e2,decide_eq_false e3]; rfl,hI⟩
   ·rw [decide_eq_false e2]
    repeat (first|refine ae ?_|refine ah (by decide) ?_|refine ad ?_|refine al ?_|refine aj ?_)
    exact ⟨by rw [gy,decide_eq_true e1,decide_eq_false e2]; rfl,hI⟩
  ·rw [decide_eq_false e1]
   repeat (first|refine ae ?_|refine ah (by decide) ?_|refine ad ?_|refine al ?_|refine aj ?_)
   exact ⟨by rw [gy,decide_eq_false e1]; rfl,hI⟩

 intro q _ _ _ _ _ _ _ _ _ _ _ _ _ _ _ _ _ _ _ _ _ _ _ _ _ _ _ w'
 rintro ⟨rfl,hI⟩
 cases hd:jk (.mk k n s ks) (.mk k' n' s' ks')
 ·refine a7 (fun _=>?_) (fun hb=>by cases hb)
  have hm:dH (.mk k' n' s' ks') (.mk k n s ks) st=(false,st):=by rw [dH,if_neg hk1,if_neg (by rw [Bl,hd]; decide)]
  rw [hm]
  exact ⟨_,_,_,rfl,hI.pick [false,false,true],Ext.refl _ _ _,rfl,rfl,_,_,rfl,hkc⟩
 refine a7 (fun hb=>by cases hb) (fun _=>?_)
 have hle:ks.length=ks'.length:=by
  rw [gy] at hd
  simp only [Bool.and_eq_true,decide_eq_true_eq] at hd
  exact hd.2.2.2
 have hm:dH (.mk k' n' s' ks') (.mk k n s ks) st=eJ ks' ks st:=by rw [dH,if_neg hk1,if_pos (by rw [Bl,hd])]; rfl
 rw [hm]
 have hu2:=hu.2
 refine ar hI 1 rfl aP aL rfl ?_
 refine bm hks' aG ?_
 refine ⟨fun i w'=>∃ (j:Nat) (st':bu) (es':Array MapEntry) (ck':Nat),j<=ks'.length/\i=.int .i64 j/\eJ (ks'.drop j) (ks.drop j) st'=eJ ks' ks st/\CU st'/\KnownM S es' st'/\Inv w X [.blk b1 (.cells #[.int .i64 k,.int .i64 n,.string s,kv] ab),.blk b2 (.cells #[.int .i64 k',.int .i64 n',.string s',kv'] ab),.blk mb (.map es' ck')] S w',fun i _=>ks'.length - (intOf i).toNat,⟨0,st,es,ck,Nat.zero_le _,rfl,rfl,hst,hkc,hI⟩,?_⟩
 intro t60 _ _ _ _ _ _ _ _ _ _ _ _ _ _ _ _ _ _ w'
 rintro ⟨j,st',es',ck',hj,rfl,hrel,hst',hkc',hI⟩
 refine cF ?_
 refine bF (fun hji=>?_) (fun hji=>?_)
 ·have hj2:j<ks'.length:=by omega
  have hj1:j<ks.length:=by omega
  obtain ⟨c1,o1,cap1,a1,E1,fz1,rfl,hS1,hR1⟩:=hks.at_ hj1
  obtain ⟨c2,o2,cap2,a2,E2,fz2,rfl,hS2,hR2⟩:=hks'.at_ hj2
  rw [EV ks' ks st' j hj2 hj1] at hrel
  have hcall:=ih _ (List.getElem_mem hj2) ks[j] S _ _ mb ck' es' st' hR2 hR1 (xF hv2 _ (List.getElem_mem hj2)) (yA hu2 _ (List.getElem_mem hj1)) hst' hkc'
  have hsn:=yQ ks'[j] ks[j] st' hst' (yA hu2 _ (List.getElem_mem hj1))
  generalize hr:dH ks'[j] ks[j] st'=r at hrel hcall hsn
  refine ⟨fun D eZ eY fa eX fU gb f0 fV fW gV dd de cO w_=>(D 0=true->cO=.pointer (some ⟨b1,3,none⟩))/\(D 1=true->de=.slice (some ⟨c1,o1,none⟩) ks.length cap1)/\(D 2=true->dd=.int .i64 j)/\(D 3=true->gV=.pointer (some ⟨c1,o1+j * 4,none⟩))/\(D 4=true->fW=.agg (bJ a1 (o1+j * 4) 4).toArray)/\(D 5=true->fV=.pointer (some ⟨b2,3,none⟩))/\(D 6=true->f0=.slice (some ⟨c2,o2,none⟩) ks'.length cap2)/\(D 7=true->gb=.int .i64 j)/\(D 8=true->fU=.pointer (some ⟨c2,o2+j * 4,none⟩))/\(D 9=true->eX=.agg (bJ a2 (o2+j * 4) 4).toArray)/\(D 10=true->fa=.map (some mb))/\(D 11=true->eY=.bool r.1)/\(D 12=true->eZ=.bool (!r.1))/\(D 11=false->Inv w X [.blk b1 (.cells #[.int .i64 k,.int .i64 n,.string s,.slice (some ⟨c1,o1,none⟩) ks.length cap1] ab),.blk b2 (.cells #[.int .i64 k',.int .i64 n',.string s',.slice (some ⟨c2,o2,none⟩) ks'.length cap2] ab),.blk mb (.map es' ck')] S w_)/\(D 11=true->∃ es2 ck2,KnownM S es2 r.2/\Inv w X [.blk b1 (.cells #[.int .i64 k,.int .i64 n,.string s,.slice (some ⟨c1,o1,none⟩) ks.length cap1] ab),.blk b2 (.cells #[.int .i64 k',.int .i64 n',.string s',.slice (some ⟨c2,o2,none⟩) ks'.length cap2] ab),.blk mb (.map es2 ck2)] S w_)/\∃ es3 ck3,Inv w X [.blk b1 (.cells #[.int .i64 k,.int .i64 n,.string s,.slice (some ⟨c1,o1,none⟩) ks.length cap1] ab),.blk b2 (.cells #[.int .i64 k',.int .i64 n',.string s',.slice (some ⟨c2,o2,none⟩) ks'.length cap2] ab),.blk mb (.map es3 ck3)] S w_,⟨af,af,af,af,af,af,af,af,af,af,af,af,af,⟨fun _=>hI.draw,af,es',ck',hI.draw⟩⟩,⟨?_,?_,?_,?_,?_,?_,?_,?_,?_,?_,?_,?_,?_,trivial⟩,?_⟩
  ·intro D aS  eZ eY fa eX fU gb f0 fV fW gV dd de cO w_
   rintro ⟨aA,az,aB,ax,aD,aC,aw,aJ,aN,aR,aq,au,aH,⟨hI0,hI1,es3,ck3,hI⟩⟩
   refine bj aP ?_
   exact ⟨fun _=>rfl,az,aB,ax,aD,aC,aw,aJ,aN,aR,aq,au,aH,⟨hI0,hI1,es3,ck3,hI⟩⟩
  ·intro D aS cA eZ eY fa eX fU gb f0 fV fW gV dd de cO w_
   rintro ⟨aA,az,aB,ax,aD,aC,aw,aJ,aN,aR,aq,au,aH,⟨hI0,hI1,es3,ck3,hI⟩⟩
   obtain rfl:=aA cA
   refine bB hI 0 aL rfl rfl ?_
   exact ⟨aA,fun _=>rfl,aB,ax,aD,aC,aw,aJ,aN,aR,aq,au,aH,⟨hI0,hI1,es3,ck3,hI⟩⟩
  ·intro D aS  eZ eY fa eX fU gb f0 fV fW gV dd de cO w_
   rintro ⟨aA,az,aB,ax,aD,aC,aw,aJ,aN,aR,aq,au,aH,⟨hI0,hI1,es3,ck3,hI⟩⟩
   exact ⟨aA,az,fun _=>rfl,ax,aD,aC,aw,aJ,aN,aR,aq,au,aH,⟨hI0,hI1,es3,ck3,hI⟩⟩
  ·intro D aS dB EP eZ eY fa eX fU gb f0 fV fW gV dd de cO w_
   rintro ⟨aA,az,aB,ax,aD,aC,aw,aJ,aN,aR,aq,au,aH,⟨hI0,hI1,es3,ck3,hI⟩⟩
   obtain rfl:=az dB
   obtain rfl:=aB EP
   refine bq aG hj1 ?_
   exact ⟨aA,az,aB,fun _=>rfl,aD,aC,aw,aJ,aN,aR,aq,au,aH,⟨hI0,hI1,es3,ck3,hI⟩⟩
  ·intro D aS dh eZ eY fa eX fU gb f0 fV fW gV dd de cO w_
   rintro ⟨aA,az,aB,ax,aD,aC,aw,aJ,aN,aR,aq,au,aH,⟨hI0,hI1,es3,ck3,hI⟩⟩
   obtain rfl:=ax dh
   refine dF ag hR1.length (fun j v hj=>by rw [hI.cellS hS1]; exact bx rfl j v hj) ?_
   exact ⟨aA,az,aB,ax,fun _=>rfl,aC,aw,aJ,aN,aR,aq,au,aH,⟨hI0,hI1,es3,ck3,hI⟩⟩
  ·intro D aS  eZ eY fa eX fU gb f0 fV fW gV dd de cO w_
   rintro ⟨aA,az,aB,ax,aD,aC,aw,aJ,aN,aR,aq,au,aH,⟨hI0,hI1,es3,ck3,hI⟩⟩
   refine bj aP ?_
   exact ⟨aA,az,aB,ax,aD,fun _=>rfl,aw,aJ,aN,aR,aq,au,aH,⟨hI0,hI1,es3,ck3,hI⟩⟩
  ·intro D aS dT eZ eY fa eX fU gb f0 fV fW gV dd de cO w_
   rintro ⟨aA,az,aB,ax,aD,aC,aw,aJ,aN,aR,aq,au,aH,⟨hI0,hI1,es3,ck3,hI⟩⟩
   obtain rfl:=aC dT
   refine bB hI 1 aL rfl rfl ?_
   exact ⟨aA,az,aB,ax,aD,aC,fun _=>rfl,aJ,aN,aR,aq,au,aH,⟨hI0,hI1,es3,ck3,hI⟩⟩
  ·intro D aS  eZ eY fa eX fU gb f0 fV fW gV dd de cO w_
   rintro ⟨aA,az,aB,ax,aD,aC,aw,aJ,aN,aR,aq,au,aH,⟨hI0,hI1,es3,ck3,hI⟩⟩
   exact ⟨aA,az,aB,ax,aD,aC,aw,fun _=>rfl,aN,aR,aq,au,aH,⟨hI0,hI1,es3,ck3,hI⟩⟩
  ·intro D aS bW lP eZ eY fa eX fU gb f0 fV fW gV dd de cO w_
   rintro ⟨aA,az,aB,ax,aD,aC,aw,aJ,aN,aR,aq,au,aH,⟨hI0,hI1,es3,ck3,hI⟩⟩
   obtain rfl:=aw bW
   obtain rfl:=aJ lP
   refine bq aG hj2 ?_
   exact ⟨aA,az,aB,ax,aD,aC,aw,aJ,fun _=>rfl,aR,aq,au,aH,⟨hI0,hI1,es3,ck3,hI⟩⟩
  ·intro D aS iP eZ eY fa eX fU gb f0 fV fW gV dd de cO w_
   rintro ⟨aA,az,aB,ax,aD,aC,aw,aJ,aN,aR,aq,au,aH,⟨hI0,hI1,es3,ck3,hI⟩⟩
   obtain rfl:=aN iP
   refine dF ag hR2.length (fun j v hj=>by rw [hI.cellS hS2]; exact bx rfl j v hj) ?_
   exact ⟨aA,az,aB,ax,aD,aC,aw,aJ,aN,fun _=>rfl,aq,au,aH,⟨hI0,hI1,es3,ck3,hI⟩⟩
  ·intro D aS  eZ eY fa eX fU gb f0 fV fW gV dd de cO w_
   rintro ⟨aA,az,aB,ax,aD,aC,aw,aJ,aN,aR,aq,au,aH,⟨hI0,hI1,es3,ck3,hI⟩⟩
   exact ⟨aA,az,aB,ax,aD,aC,aw,aJ,aN,aR,fun _=>rfl,au,aH,⟨hI0,hI1,es3,ck3,hI⟩⟩
  ·intro D aS fO eQ vX eZ eY fa eX fU gb f0 fV fW gV dd de cO w_
   rintro ⟨aA,az,aB,ax,aD,aC,aw,aJ,aN,aR,aq,au,aH,⟨hI0,hI1,es3,ck3,hI⟩⟩
   obtain rfl:=aD fO
   obtain rfl:=aR eQ
   obtain rfl:=aq vX
   refine Run.call (A:=[_,_]) pR pv (hI0 aS) hcall fun v' I' S w_=>?_
   rintro ⟨rfl,rfl,es2,ck2,rfl,hk2⟩ _ hI
   have hI0:=fun (h:ao D 11 11=false)=>(Bool.noConfusion h:Inv w X [.blk b1 (.cells #[.int .i64 k,.int .i64 n,.string s,.slice (some ⟨c1,o1,none⟩) ks.length cap1] ab),.blk b2 (.cells #[.int .i64 k',.int .i64 n',.string s',.slice (some ⟨c2,o2,none⟩) ks'.length cap2] ab),.blk mb (.map es' ck')] S w_)
   have hI1:=fun (_:ao D 11 11=true)=>(⟨es2,ck2,hk2,hI⟩:∃ es2 ck2,KnownM S es2 r.2/\Inv w X [.blk b1 (.cells #[.int .i64 k,.int .i64 n,.string s,.slice (some ⟨c1,o1,none⟩) ks.length cap1] ab),.blk b2 (.cells #[.int .i64 k',.int .i64 n',.string s',.slice (some ⟨c2,o2,none⟩) ks'.length cap2] ab),.blk mb (.map es2 ck2)] S w_)
   obtain ⟨es3,ck3,hI⟩:∃ es3 ck3,Inv w X [.blk b1 (.cells #[.int .i64 k,.int .i64 n,.string s,.slice (some ⟨c1,o1,none⟩) ks.length cap1] ab),.blk b2 (.cells #[.int .i64 k',.int .i64 n',.string s',.slice (some ⟨c2,o2,none⟩) ks'.length cap2] ab),.blk mb (.map es3 ck3)] S w_:=⟨es2,ck2,hI⟩
   exact ⟨aA,az,aB,ax,aD,aC,aw,aJ,aN,aR,aq,fun _=>rfl,aH,⟨hI0,hI1,es3,ck3,hI⟩⟩
  ·intro D aS j0 eZ eY fa eX fU gb f0 fV fW gV dd de cO w_
   rintro ⟨aA,az,aB,ax,aD,aC,aw,aJ,aN,aR,aq,au,aH,⟨hI0,hI1,es3,ck3,hI⟩⟩
   obtain rfl:=au j0
   refine cN ?_
   exact ⟨aA,az,aB,ax,aD,aC,aw,aJ,aN,aR,aq,au,fun _=>rfl,⟨hI0,hI1,es3,ck3,hI⟩⟩
  intro D jV gw fg jA g7 gc fj ft fL fX fM fP fY eZ eY fa eX fU gb f0 fV fW gV dd de cO w_
  rintro ⟨aA,az,aB,ax,aD,aC,aw,aJ,aN,aR,aq,au,aH,⟨hI0,hI1,es3,ck3,hI⟩⟩
  obtain rfl:=aH jV
  obtain rfl:=au gw
  obtain rfl:=aq fg
  obtain rfl:=aR jA
  obtain rfl:=aN g7
  obtain rfl:=aJ gc
  obtain rfl:=aw fj
  obtain rfl:=aC ft
  obtain rfl:=aD fL
  obtain rfl:=ax fX
  obtain rfl:=aB fM
  obtain rfl:=az fP
  obtain rfl:=aA fY
  clear aA az aB ax aD aC aw aJ aN aR aq au aH
  obtain ⟨es2,ck2,hk2,hI⟩:=hI1 gw
  clear hI0 hI1
  refine a7 (fun hne=>?_) (fun he'=>?_)
  ·simp only [Bool.not_eq_true'] at hne
   rw [hne,if_neg (by decide)] at hrel
   rw [<- hrel]
   exact ⟨_,_,_,rfl,hI.pick [false,false,true],Ext.refl _ _ _,rfl,rfl,_,_,rfl,hk2⟩
  ·simp only [Bool.not_eq_false'] at he'
   rw [he',if_pos rfl] at hrel
   refine bR (by omega) ?_
   exact ⟨⟨j+1,r.2,es2,ck2,hj2,rfl,hrel,hsn,hk2,hI⟩,by simp [intOf]; omega⟩
 ·have:j=ks'.length:=by omega
  subst this
  rw [List.drop_length,<- hle,List.drop_length] at hrel
  rw [<- hrel]
  exact ⟨_,_,_,rfl,hI.pick [false,false,true],Ext.refl _ _ _,rfl,rfl,_,_,rfl,hkc'⟩
end

end Go.Proofs.YtnmnddpdikghhaaGreat

/- SubsumedClause: both sides. -/
namespace Go.Proofs.YtnmnddpdikghhaaGreat
open Go Go.RowKit

def st0:bu:=List.replicate 26 none
theorem LB:CU st0:=⟨by simp [st0],fun t ht=>by simp [st0] at ht⟩
theorem KnownM.empty (S:ay):KnownM S #[] st0:=⟨by simp,fun n t ht=>by
 rw [st0,List.getElem?_replicate] at ht
 split at ht <;> cases ht⟩
theorem Ic:∀ {ts:List T},(∀ t∈ts,okV t)->li ts
 | [],_=>by simp [li]
 | t::ts,h=>by rw [li]; exact ⟨h t (List.mem_cons_self ..),Ic fun u hu=>h u (List.mem_cons_of_mem _ hu)⟩
theorem Ia:∀ {ts:List T},(∀ t∈ts,okK t)->xc ts
 | [],_=>by simp [xc]
 | t::ts,h=>by rw [xc]; exact ⟨h t (List.mem_cons_self ..),Ia fun u hu=>h u (List.mem_cons_of_mem _ hu)⟩
theorem BF {c:C} (h:bG c=true):(okV c.head/\okK c.head)/\li c.body/\xc c.body:=by
 rw [bG] at h
 simp only [Bool.and_eq_true,List.all_eq_true] at h
 obtain ⟨_,h2,h3,_⟩:=h
 have hb:∀ t∈c.body,okV t/\okK t:=fun t ht=>by
  have:=h2 t ht
  rw [fo,Bool.and_eq_true] at this
  exact s8 this.1
 exact ⟨s8 h3,Ic fun t ht=>(hb t ht).1,Ia fun t ht=>(hb t ht).2⟩
section
variable {P:Program} {w w0:World} {X:List Nat} {L:List Item} {S:ay} {K:Value->World->Prop}
attribute [local irreducible] Run CondV ai a4
theorem C4 (h:Inv w0 X L S w) {T ty e:TypeId} {k by_ n:Nat} {z:Value} (hT:oQ P T=some (e,k,by_,z)) (hn:n<=4294967296) (hby:by_<=65536) (hn0:n * k≠0)
  (hk:∀ b w',Inv w0 X (L++[.blk b (.cells ((Array.range (n * k)).map (z.cells[· % z.cells.size]!)) e)]) S w'->K (.slice (some ⟨b,0,none⟩) n n) w') :
  Run P (sOp (.makeSlice T (.const (.int .i64 n)) (.const (.int .i64 n))) ty) w K:=by
 obtain ⟨hu,i,hi,hz,hs,hb,hzs⟩:=lE hT
 have hw:IntKind.i64.wrap (n:Int)=n:=IntWalk.i64_in _ (by omega)
 have hle:by_ * n<=2 ^ 48:=Nat.le_trans (Nat.mul_le_mul hby hn) (by decide)
 have h1:¬ ((n:Int)<0):=by omega
 have h2:¬ (281474976710656<(i.bytes:Int) * (n:Int)):=by
  rw [hb]
  have:((by_ * n:Nat):Int)<=((2 ^ 48:Nat):Int):=by exact_mod_cast hle
  have e:(((2 ^ 48:Nat)):Int)=281474976710656:=by decide
  rw [e,Int.natCast_mul] at this
  omega
 refine Run.of (v:=.slice (some ⟨w.heap.size,0,none⟩) n n) (w':={ w with heap:=w.heap.push (.cells ((Array.range (n * k)).map (z.cells[· % z.cells.size]!)) e) }) ?_ (hk _ _ (h.alloc _))
 simp [sOp,execOp,ev0,evE,Instr.makeSlice,run_underlying hu,asInt,asIntOf,typeInfo,hi,hw,h1,h2,sizeOf,hs,newRow,newObj,Sem.run,hn0,zeroValue,hz]
end
section
attribute [local irreducible] Run CondV ai a4
end

end Go.Proofs.YtnmnddpdikghhaaGreat

/- slices.Clone and slices.DeleteFunc of terms. -/
namespace Go.Proofs.YtnmnddpdikghhaaGreat
open Go Go.RowKit

section
variable {P:Program} {w w0:World} {X:List Nat} {L:List Item} {S:ay} {K:Value->World->Prop}
attribute [local irreducible] Run CondV ai a4
theorem Run.callVPure {f:FuncId} {fn:Func} {cap args:List Value} {r:Value} (hf:P.funcs[f]?=some fn) (hn:(fn.name == "runtime.NumGoroutine" || fn.body.isNone)=false) (h:Inv w0 X L S w) (hc:Pure P f (args++cap) S r)
  (hk:∀ w',Inv w0 X L S w'->K r w'):Run P (aF (fv f cap) args) w K:=by
 refine Run.callV (A:=L) (I:=[]) hf hn (by simpa using h) (Post:=fun v I' S'=>v=r/\I'=[]/\S'=S) ?_ fun v' I' S' w'=>?_
 ·intro w1 hI
  exact (hc w1 hI).mono fun e w' ⟨he,hI⟩=>⟨_,_,_,he,hI,Ext.refl _ _ _,rfl,rfl,rfl⟩
 ·rintro ⟨rfl,rfl,rfl⟩ _ hI
  exact hk _ (by simpa using hI)
end
section
attribute [local irreducible] Run CondV ai a4
end

end Go.Proofs.YtnmnddpdikghhaaGreat

/- impl.RenumberClause. -/
namespace Go.Proofs.YtnmnddpdikghhaaGreat
open Go Go.RowKit
section
variable {P:Program} {w:World} {K:Value->World->Prop}
attribute [local irreducible] Run
theorem Kr {T ty e:TypeId} {k h m len cap:Nat} {a:Option Addr} (hT:dY P T=some (e,k)) (hh:h<=m) (hm:m<=cap) (hk:K (.slice (if m=0 then a else a.map (·.add (0 * k))) h m) w) :
  Run P (sOp (.slice T (.const (.slice a len cap)) none (some (.const (.int .i64 h))) (some (.const (.int .i64 m)))) ty) w K:=by
 obtain ⟨hu,i,hi,hs⟩:=lZ hT
 refine Run.of ?_ hk
 simp [sOp,execOp,ev0,evE,Instr.sliceAt,Instr.slice,Instr.sliceBounds,run_underlying hu,jB hh,jB hm,sizeOf,typeInfo,hi]
end
section
attribute [local irreducible] Run CondV ai a4
theorem HE {α:Type} {R:List Value->α->Prop} {S:ay} {v:Value} {xs:List α} (h:RdSl S 4 R v xs):∃ r,RdSl S 4 R r xs/\Pure Tryz.prog Ai [v] S r:=by
 obtain ⟨a,cap,rfl,hl,hc,hx⟩:=id h
 have e1:∀ m:Nat,(if m=0 then a else a.map (·.add (0 * 4)))=a:=by
  intro m
  split
  ·rfl
  ·cases a <;> simp [Addr.add]
 refine ⟨.slice a xs.length xs.length,⟨a,xs.length,rfl,Nat.le_refl _,by omega,hx⟩,fun w hI=>?_⟩
 refine tu ?_
 unfold oc
 refine bm h aG ?_
 refine bm h aG ?_
 refine Kr aG (Nat.le_refl _) hl ?_
 rw [e1]
 exact done hI rfl
theorem nf (n:Int) (S:ay):Pure Tryz.prog CT [.int .i64 n] S (.agg #[.int .i64 1,.int .i64 n,.string ⟨#[]⟩,.slice none 0 0]):=by
 intro w hI
 refine ur ?_
 unfold pu
 refine a9 hI bt fun b1 w' hI=>?_
 have hb:∀ {K:Value->World->Prop} {w':World},K (.agg #[.int .i64 1,.int .i64 n,.string ⟨#[]⟩,.slice none 0 0]) w'->Run Tryz.prog (bP ab [(0,.int .i64 1),(1,.int .i64 n)]) w' K:=by
  intro K w' hk
  refine Run.of (v:=.agg #[.int .i64 1,.int .i64 n,.string ⟨#[]⟩,.slice none 0 0]) (w':=w') ?_ hk
  unfold bP
  rw [Sem.run_bind,run_build w' ab _ #[.int .i64 1,.int .i64 n,.string ⟨#[]⟩,.slice none 0 0] (by kernel_rfl),Result.andThen_ok]
  rfl
 refine hb ?_
 refine aM hI 0 rfl ag rfl rfl (by simp [Value.oneCell']) fun w' hI=>?_
 refine bA hI 0 ag rfl rfl ?_
 exact done hI rfl
theorem qa {vs:List Int} {S:ay} {g:Nat} {vv:Value} {E:TypeId} (n:Int) (hS:S g=some (.cells #[vv] E)) (hv:RdSl S 1 rT vv vs) :
  Pure Tryz.prog gA [.int .i64 n,.pointer (some ⟨g,0,none⟩)] S (.agg #[.int .i64 1,.int .i64 (jg vs n),.string ⟨#[]⟩,.slice none 0 0]):=by
 intro w hI
 refine nQ ?_
 unfold kH
 refine a9 hI bt fun b1 w' hI=>?_
 refine eE xu (by rw [hI.cellS hS]; rfl) ?_
 refine Run.callPure ni nP hI (mi n hv) fun w' hI=>?_
 refine Run.callPure px pG hI (nf _ S) fun w' hI=>?_
 refine aM hI 0 rfl ag rfl rfl (by simp [Value.oneCell']) fun w' hI=>?_
 refine bA hI 0 ag rfl rfl ?_
 exact done hI rfl
theorem AM (vs:List Int) (hvl:vs.length<=1000000000):∀ (t:T) (S:ay) (cs:List Value) (g:Nat) (vv:Value) (E:TypeId),RdT S cs t->S g=some (.cells #[vv] E)->RdSl S 1 rT vv vs->wT t<=1048576->
  Tri Tryz.prog nZ [.agg cs.toArray,fv gA [.pointer (some ⟨g,0,none⟩)]] [] S (vb S (jN vs t)):=by
 refine T.ind fun k n s ks ih0 S cs g vv E h hS hv hw=>?_
 have ih:∀ t∈ks,∀ (S:ay) (cs:List Value),RdT S cs t->S g=some (.cells #[vv] E)->RdSl S 1 rT vv vs->wT t<=1048576->
  Tri Tryz.prog nZ [.agg cs.toArray,fv gA [.pointer (some ⟨g,0,none⟩)]] [] S (vb S (jN vs t)):=fun t ht S cs h1 h2 h3 h4=>ih0 t ht S cs g vv E h1 h2 h3 h4
 clear ih0
 intro w hI
 obtain ⟨kv,rfl,h1,h2,hs,hks⟩:=RdT.iff.1 h
 simp only [T.name,T.kids,T.kind,T.n] at h1 h2 hs hks ⊢
 simp only [wT] at hw
 have hir:=JZ vs n
 refine mH ?_
 unfold l6
 refine bN hI fun b2 w' hI=>?_
 refine a9 hI bt fun b4 w' hI=>?_
 refine ar hI 0 rfl bv bg rfl ?_
 refine bO ?_
 rw [jN]
 refine bF (fun hk1=>?_) (fun hk1=>?_)
 ·rw [if_pos hk1]
  refine ar hI 0 rfl bn bg rfl ?_
  refine Run.callVPure rj qY hI (qa n hS hv) fun w' hI=>?_
  refine aM hI 1 rfl ag rfl rfl (by simp [Value.oneCell']) fun w' hI=>?_
  refine bA hI 1 ag rfl rfl ?_
  exact ⟨_,_,_,rfl,hI.pick [false,false],Ext.refl _ _ _,rfl,[_,_,_,_],[],rfl,rfl,TrT.iff.2 ⟨_,rfl,by simp [inI,T.kind],by simp only [inI,T.n]; omega,by rw [T.name]; decide +kernel,TrSl.nil (by simp [maxLen])⟩⟩
 rw [if_neg hk1]
 refine ar hI 0 rfl aP aL rfl ?_
 refine eM hI 0 rfl aP aL rfl rfl rfl fun w' hI=>?_
 refine bm hks aG ?_
 have hI:Inv w [] [.blk b4 (.cells #[.int .i64 0,.int .i64 0,.string ⟨#[]⟩,.slice none 0 0] ab),.blk b2 (.cells #[.int .i64 k,.int .i64 n,.string s,.slice none 0 0] ab)] S w':=hI.perm (List.Perm.swap _ _ _)
 have hI:=hI.rowNil ab 4
 refine ⟨fun i w'=>∃ (j:Nat) (kvc:Value) (Ls:List bI) (css:List (List Value)),j<=ks.length/\i=.int .i64 j/\Grown 4 TrT Ls css (gM vs (ks.take j))/\
   Inv w [] (.blk b4 (.cells #[.int .i64 0,.int .i64 0,.string ⟨#[]⟩,.slice none 0 0] ab)::.blk b2 (.cells #[.int .i64 k,.int .i64 n,.string s,kvc] ab)::a5 kvc ab 4 css::bw Ls.flatten) S w',
  fun i _=>ks.length - (intOf i).toNat,⟨0,_,[],[],Nat.zero_le _,rfl,Grown.nil _ _,hI⟩,?_⟩
 intro t20 _ _ _ _ _ _ _ _ _ _ _ _ _ w'
 rintro ⟨j,kvc,Ls,css,hj,rfl,hg,hI⟩
 refine cF ?_
 refine bF (fun hji=>?_) (fun hji=>?_)
 ·have hj':j<ks.length:=by omega
  have hjl:(ks.take j).length=j:=by simp; omega
  have hcl:=hg.hc
  rw [uK] at hcl
  have hm:=List.getElem_mem hj'
  have hwm:=gF hm
  refine dN hI hks aG ag hj' (fun _ _=>RdT.length) fun cs0 hcs0=>?_
  refine a9 hI bt fun b7 w' hI=>?_
  have hI:=hI.perm (M:=.blk b7 _::(.blk b4 (.cells #[.int .i64 0,.int .i64 0,.string ⟨#[]⟩,.slice none 0 0] ab)::.blk b2 (.cells #[.int .i64 k,.int .i64 n,.string s,kvc] ab)::a5 kvc ab 4 css::bw Ls.flatten)) (List.perm_append_comm (l₁:=[_]))
  refine aM hI 0 rfl ag (by simpa using hcs0.length) rfl (by simpa using hcs0.one) fun w' hI=>?_
  refine ⟨fun D fc dx c4 db c7 cB bV cJ w_=>(D 0=true->cJ=.pointer (some ⟨b2,3,none⟩))/\(D 1=true->bV=kvc)/\(D 2=true->cB=.agg cs0.toArray)/\(D 3=true->c7=fv gA [.pointer (some ⟨g,0,none⟩)])/\(D 4=true->True)/\(D 5=true->True)/\(D 6=true->True)/\(D 7=true->fc=.pointer (some ⟨b2,3,none⟩))/\(D 8=true->True)/\∃ M cs7 b8,(D 4=true->db=.agg cs7.toArray/\TrT M cs7 (jN vs ks[j]))/\(D 5=true->c4=.slice (some ⟨b8,0,none⟩) 1 1)/\(D 5=true->D 4=true)/\(D 6=true->D 5=true)/\(D 8=true->D 6=true)/\(D 8=true->D 1=true)/\Inv w [] (bi (.blk b7 (.cells cs0.toArray ab)) (.blk b4 (.cells #[.int .i64 0,.int .i64 0,.string ⟨#[]⟩,.slice none 0 0] ab)) (.blk b2 (.cells #[.int .i64 k,.int .i64 n,.string s,kvc] ab)) (.blk b2 (.cells #[.int .i64 k,.int .i64 n,.string s,dx] ab)) (a5 kvc ab 4 css) (a5 dx ab 4 (css++[cs7])) (bw Ls.flatten) M (.blk b8 (.cells cs7.toArray ab)) (D 4) (D 5) (D 6) (D 8)) S w_,⟨af,af,af,af,af,af,af,af,af,⟨[],[],0,af,af,af,af,af,af,by simpa [bi,bw] using hI.draw⟩⟩,⟨?_,?_,?_,?_,?_,?_,?_,?_,?_,trivial⟩,?_⟩
  ·intro D aS  fc dx c4 db c7 cB bV cJ w_
   rintro ⟨aA,az,aB,ax,aD,aC,aw,aJ,aN,⟨M,cs7,b8,e7,e8,k8,k9,k11,k1,hI⟩⟩
   refine bj aP ?_
   exact ⟨fun _=>rfl,az,aB,ax,aD,aC,aw,aJ,aN,⟨M,cs7,b8,e7,e8,k8,k9,k11,k1,hI⟩⟩
  ·intro D aS cA fc dx c4 db c7 cB bV cJ w_
   rintro ⟨aA,az,aB,ax,aD,aC,aw,aJ,aN,⟨M,cs7,b8,e7,e8,k8,k9,k11,k1,hI⟩⟩
   obtain rfl:=aA cA
   have f11:D 8=false:=Bool.eq_false_iff.2 fun h=>by rw [k1 h] at aS; cases aS
   refine bB (b:=b2) hI 2 (c:=(#[.int .i64 k,.int .i64 n,.string s,kvc])) aL (by rw [f11]; rfl) rfl ?_
   have k1:=fun (_:ao D 1 8=true)=>(rfl:ao D 1 1=true)
   exact ⟨aA,fun _=>rfl,aB,ax,aD,aC,aw,aJ,aN,⟨M,cs7,b8,e7,e8,k8,k9,k11,k1,hI⟩⟩
  ·intro D aS  fc dx c4 db c7 cB bV cJ w_
   rintro ⟨aA,az,aB,ax,aD,aC,aw,aJ,aN,⟨M,cs7,b8,e7,e8,k8,k9,k11,k1,hI⟩⟩
   refine aO hI 0 ag rfl (by simpa using hcs0.length) ?_
   exact ⟨aA,az,fun _=>rfl,ax,aD,aC,aw,aJ,aN,⟨M,cs7,b8,e7,e8,k8,k9,k11,k1,hI⟩⟩
  ·intro D aS  fc dx c4 db c7 cB bV cJ w_
   rintro ⟨aA,az,aB,ax,aD,aC,aw,aJ,aN,⟨M,cs7,b8,e7,e8,k8,k9,k11,k1,hI⟩⟩
   exact ⟨aA,az,aB,fun _=>rfl,aD,aC,aw,aJ,aN,⟨M,cs7,b8,e7,e8,k8,k9,k11,k1,hI⟩⟩
  ·intro D aS cM o0 fc dx c4 db c7 cB bV cJ w_
   rintro ⟨aA,az,aB,ax,aD,aC,aw,aJ,aN,⟨M,cs7,b8,e7,e8,k8,k9,k11,k1,hI⟩⟩
   obtain rfl:=aB cM
   obtain rfl:=ax o0
   have f8:D 5=false:=Bool.eq_false_iff.2 fun h=>by rw [k8 h] at aS; cases aS
   have f9:D 6=false:=Bool.eq_false_iff.2 fun h=>by rw [k9 h] at f8; cases f8
   have f11:D 8=false:=Bool.eq_false_iff.2 fun h=>by rw [k11 h] at f9; cases f9
   rw [aS,f8,f9,f11] at hI
   refine Run.call0 il h8 hI (ih _ (List.getElem_mem hj') S cs0 hcs0 hS hv (by omega)) fun v' I' S w_=>?_
   rintro ⟨rfl,cs7,M,rfl,rfl,hT⟩ _ hI
   have e7:ao D 4 4=true->Value.agg cs7.toArray=Value.agg cs7.toArray/\TrT M cs7 (jN vs ks[j]):=fun _=>⟨rfl,hT⟩
   have k8:=fun (_:ao D 4 5=true)=>(rfl:ao D 4 4=true)
   have hI:Inv w [] (bi (.blk b7 (.cells cs0.toArray ab)) (.blk b4 (.cells #[.int .i64 0,.int .i64 0,.string ⟨#[]⟩,.slice none 0 0] ab)) (.blk b2 (.cells #[.int .i64 k,.int .i64 n,.string s,kvc] ab)) (.blk b2 (.cells #[.int .i64 k,.int .i64 n,.string s,dx] ab)) (a5 kvc ab 4 css) (a5 dx ab 4 (css++[cs7])) (bw Ls.flatten) M (.blk b8 (.cells cs7.toArray ab)) true (D 5) (D 6) (D 8)) S w_:=by
    rw [f8,f9,f11]
    simpa [bi] using hI
   exact ⟨aA,az,aB,ax,fun _=>by first|assumption|trivial,aC,aw,aJ,aN,⟨M,cs7,b8,e7,e8,k8,k9,k11,k1,hI⟩⟩
  ·intro D aS fO fc dx c4 db c7 cB bV cJ w_
   rintro ⟨aA,az,aB,ax,aD,aC,aw,aJ,aN,⟨M,cs7,b8,e7,e8,k8,k9,k11,k1,hI⟩⟩
   have Dl:=aD fO
   have f9:D 6=false:=Bool.eq_false_iff.2 fun h=>by rw [k9 h] at aS; cases aS
   have f11:D 8=false:=Bool.eq_false_iff.2 fun h=>by rw [k11 h] at f9; cases f9
   obtain ⟨q7,hT⟩:=e7 fO
   subst q7
   rw [fO,aS,f9,f11] at hI
   refine dJ hI bC (by simp [Value.cells,hT.length]) (by omega) (by omega) fun b8 w_ hI=>?_
   have e7:ao D 5 4=true->Value.agg cs7.toArray=Value.agg cs7.toArray/\TrT M cs7 (jN vs ks[j]):=fun _=>⟨rfl,hT⟩
   have e8:=fun (_:ao D 5 5=true)=>(rfl:Value.slice (some ⟨b8,0,none⟩) 1 1=_)
   have k8:=fun (_:ao D 5 5=true)=>fO
   have k9:=fun (_:ao D 5 6=true)=>(rfl:ao D 5 5=true)
   have hI:Inv w [] (bi (.blk b7 (.cells cs0.toArray ab)) (.blk b4 (.cells #[.int .i64 0,.int .i64 0,.string ⟨#[]⟩,.slice none 0 0] ab)) (.blk b2 (.cells #[.int .i64 k,.int .i64 n,.string s,kvc] ab)) (.blk b2 (.cells #[.int .i64 k,.int .i64 n,.string s,dx] ab)) (a5 kvc ab 4 css) (a5 dx ab 4 (css++[cs7])) (bw Ls.flatten) M (.blk b8 (.cells cs7.toArray ab)) (D 4) true (D 6) (D 8)) S w_:=by
    rw [fO,f9,f11]
    simpa [bi,Value.cells] using hI
   exact ⟨aA,az,aB,ax,aD,fun _=>by first|assumption|trivial,aw,aJ,aN,⟨M,cs7,b8,e7,e8,k8,k9,k11,k1,hI⟩⟩
  ·intro D aS dB eF DA fc dx c4 db c7 cB bV cJ w_
   rintro ⟨aA,az,aB,ax,aD,aC,aw,aJ,aN,⟨M,cs7,b8,e7,e8,k8,k9,k11,k1,hI⟩⟩
   obtain rfl:=az dB
   have zK:=aC eF
   have f11:D 8=false:=Bool.eq_false_iff.2 fun h=>by rw [k11 h] at aS; cases aS
   have q8:=e8 eF
   subst q8
   obtain ⟨_,hT⟩:=e7 DA
   rw [DA,eF,aS,f11] at hI
   have hblk:((bi (.blk b7 (.cells cs0.toArray ab)) (.blk b4 (.cells #[.int .i64 0,.int .i64 0,.string ⟨#[]⟩,.slice none 0 0] ab)) (.blk b2 (.cells #[.int .i64 k,.int .i64 n,.string s,bV] ab)) (.blk b2 (.cells #[.int .i64 k,.int .i64 n,.string s,dx] ab)) (a5 bV ab 4 css) (a5 dx ab 4 (css++[cs7])) (bw Ls.flatten) M (.blk b8 (.cells cs7.toArray ab)) true true false false))[4+(bw Ls.flatten).length+(bw M).length]?=some (.blk b8 (.cells cs7.toArray ab)):=by
    have e4:4+(bw Ls.flatten).length+(bw M).length=((bw Ls.flatten).length+(bw M).length)+1+1+1+1:=by omega
    rw [e4]
    simp only [bi,List.getElem?_cons_succ]
    rw [List.getElem?_append_right (by omega),Nat.add_sub_cancel_left,List.getElem?_append_right (Nat.le_refl _),Nat.sub_self]; rfl
   refine ev hI 3 cs7 bC (by omega) rfl (by rw [hT.length]) (m:=1) (o:=0) ?_ hT.one (by omega) (by omega) fun v' w_ hI=>?_
   ·intro i u hi
    rw [hI.cellL hblk,Nat.zero_add]
    simpa using hi
   rw [eN] at hI
   have k9:=fun (_:ao D 6 6=true)=>eF
   have k11:=fun (_:ao D 6 8=true)=>(rfl:ao D 6 6=true)
   have hI:Inv w [] (bi (.blk b7 (.cells cs0.toArray ab)) (.blk b4 (.cells #[.int .i64 0,.int .i64 0,.string ⟨#[]⟩,.slice none 0 0] ab)) (.blk b2 (.cells #[.int .i64 k,.int .i64 n,.string s,bV] ab)) (.blk b2 (.cells #[.int .i64 k,.int .i64 n,.string s,v'] ab)) (a5 bV ab 4 css) (a5 v' ab 4 (css++[cs7])) (bw Ls.flatten) M (.blk b8 (.cells cs7.toArray ab)) (D 4) (D 5) true (D 8)) S w_:=by
    rw [DA,eF,f11]
    exact hI
   exact ⟨aA,az,aB,ax,aD,aC,fun _=>by first|assumption|trivial,aJ,aN,⟨M,cs7,b8,e7,e8,k8,k9,k11,k1,hI⟩⟩
  ·intro D aS cA iz qD xd uq AH zT fc dx c4 db c7 cB bV cJ w_
   rintro ⟨aA,az,aB,ax,aD,aC,aw,aJ,aN,⟨M,cs7,b8,e7,e8,k8,k9,k11,k1,hI⟩⟩
   refine bj aP ?_
   exact ⟨aA,az,aB,ax,aD,aC,aw,fun _=>rfl,aN,⟨M,cs7,b8,e7,e8,k8,k9,k11,k1,hI⟩⟩
  ·intro D aS eo iL kK tP i8 uJ uE qF qJ zY fc dx c4 db c7 cB bV cJ w_
   rintro ⟨aA,az,aB,ax,aD,aC,aw,aJ,aN,⟨M,cs7,b8,e7,e8,k8,k9,k11,k1,hI⟩⟩
   obtain rfl:=aJ eo
   have Fw:=aw iL
   rw [qF,qJ,iL,aS] at hI
   obtain ⟨va,vn,vc,hv9⟩:=Inv.rowSlice hI 3 rfl
   refine ei hI 2 (n:=1) (by rw [hv9]; rfl) (by decide +kernel) rfl (by simp) (by rw [hv9]; simp [Value.cells,Value.oneCell']) fun w_ hI=>?_
   have hcl9:Value.cells dx=#[dx]:=by rw [hv9]; rfl
   rw [hcl9] at hI
   have k1:=fun (_:ao D 8 8=true)=>i8
   have k11:=fun (_:ao D 8 8=true)=>iL
   have hI:Inv w [] (bi (.blk b7 (.cells cs0.toArray ab)) (.blk b4 (.cells #[.int .i64 0,.int .i64 0,.string ⟨#[]⟩,.slice none 0 0] ab)) (.blk b2 (.cells #[.int .i64 k,.int .i64 n,.string s,kvc] ab)) (.blk b2 (.cells #[.int .i64 k,.int .i64 n,.string s,dx] ab)) (a5 kvc ab 4 css) (a5 dx ab 4 (css++[cs7])) (bw Ls.flatten) M (.blk b8 (.cells cs7.toArray ab)) (D 4) (D 5) (D 6) true) S w_:=by
    rw [qF,qJ,iL]
    exact hI
   exact ⟨aA,az,aB,ax,aD,aC,aw,aJ,fun _=>trivial,⟨M,cs7,b8,e7,e8,k8,k9,k11,k1,hI⟩⟩
  intro D g7 gc fj ft fL fX fM fP fY fc dx c4 db c7 cB bV cJ w_
  rintro ⟨aA,az,aB,ax,aD,aC,aw,aJ,aN,⟨M,cs7,b8,e7,e8,k8,k9,k11,k1,hI⟩⟩
  obtain rfl:=aJ gc
  have Fw:=aw fj
  have zK:=aC ft
  have Dl:=aD fL
  obtain rfl:=ax fX
  obtain rfl:=aB fM
  obtain rfl:=az fP
  obtain rfl:=aA fY
  clear aA az aB ax aD aC aw aJ aN
  obtain ⟨_,hT⟩:=e7 fL
  rw [fL,ft,fj,g7] at hI
  refine bR (by omega) ?_
  refine ⟨⟨j+1,dx,Ls++[M],css++[cs7],hj',rfl,?_,?_⟩,by simp [intOf]; omega⟩
  ·rw [yM vs ks j hj']
   exact hg.snoc hT hT.length
  ·simp only [List.flatten_append,List.flatten_cons,List.flatten_nil,List.append_nil,c8]
   refine hI.sub ?_
   simp only [bi]
   rw [<- List.append_assoc]
   exact ((((List.sublist_append_left _ _).cons_cons _).cons_cons _).cons_cons _).cons _
 ·have:j=ks.length:=by omega
  subst this
  rw [List.take_length] at hg
  obtain ⟨va,vn,vc,hvk⟩:=hI.rowSlice 2 rfl
  have hv1:kvc.oneCell'=true:=by rw [hvk]; rfl
  refine aO hI 1 ag rfl rfl ?_
  refine aM hI 0 rfl ag rfl rfl ?_ fun w' hI=>?_
  ·intro u hu
   have hu':u∈([.int .i64 k,.int .i64 n,.string s,kvc]:List Value):=hu
   simp at hu'
   rcases hu' with rfl|rfl|rfl|rfl <;> first|rfl|exact hv1
  refine bA hI 0 ag rfl rfl ?_
  have hI:Inv w [] ([]++(a5 kvc ab 4 css::bw Ls.flatten)) S w':=hI.sub (List.sublist_append_right [_,_] _)
  obtain ⟨L,hT,hI⟩:=Inv.rowTree hI hg
  exact ⟨_,_,_,rfl,hI,Ext.refl _ _ _,rfl,_,L,rfl,rfl,TrT.iff.2 ⟨kvc,rfl,h1,h2,hs,hT⟩⟩
theorem uw {ts:List T} {S:ay} {v:Value} (h:RdSl S 4 (RdT S) v ts) (hw:ts.length+wL ts<=1048577):Tri Tryz.prog yl [v] [] S (H2 4 TrT S (gM (dE ts []) ts)):=by
 intro w hI
 have hlen:=h.le
 simp only [maxLen] at hlen
 have hcl:=ze ts
 have hvl:=yx ts []
 simp only [List.length_nil] at hvl
 refine qO ?_
 unfold mh
 refine Run.call0 Eb Et hI (Dd h (by omega)) fun v1 I' S w'=>?_
 rintro ⟨rfl,rfl⟩ _ hI
 have hl':(dE ts []).length<=1000000000:=by omega
 generalize dE ts []=vs at hI hl' ⊢
 refine a9 hI KM fun b3 w' hI=>?_
 have hv1:v1.cells=#[v1]/\v1.oneCell'=true:=by
  have:=hI.its (el v1 vs) (by simp)
  rcases this.2 with ⟨rfl,_⟩|⟨g,cap,cur,rfl,_⟩ <;> exact ⟨rfl,rfl⟩
 refine ei hI 1 (n:=1) (by rw [hv1.1]; rfl) (by rw [xu]; rfl) rfl (Nat.le_of_ble_eq_true rfl) (by rw [hv1.1]; simpa using hv1.2) fun w' hI=>?_
 have hst:cD (Value.slice none 0 0).cells 0 v1.cells.toList=#[v1]:=by
  rw [hv1.1]; rfl
 have hI:Inv w [] [el v1 vs,.blk b3 (.cells #[v1] nK)] S w':=by
  have:=hI
  simp only [List.cons_append,List.nil_append] at this
  rw [hst] at this
  exact this
 have hI:=hI.perm (M:=[.blk b3 (.cells #[v1] nK)]++[el v1 vs]) (List.Perm.swap _ _ _)
 obtain ⟨S1,hle1,hrd1,hI,_⟩:=Inv.lend (A:=[_]) hI
 obtain ⟨hI,hle2⟩:=Inv.publishLast (L:=[]) hI
 have hb:la S1 b3 (.cells #[v1] nK) b3=some (.cells #[v1] nK):=by simp [la]
 generalize la S1 b3 (.cells #[v1] nK)=S2 at hI hle2 hb
 have hr1:=hrd1.ints.mono hle2 fun _ _ h=>h
 have hle:=hle1.trans hle2
 have h:=h.mono hle fun _ _ h=>h.mono hle
 refine bm h aG ?_
 refine ⟨fun i t w'=>∃ (k:Nat) (Ls:List bI) (css:List (List Value)),k<=ts.length/\i=.int .i64 k/\Grown 4 TrT Ls css (gM vs (ts.take k))/\Inv w [] (a5 t ab 4 css::bw Ls.flatten) S2 w',
  fun i _ _=>ts.length - (intOf i).toNat,⟨0,[],[],Nat.zero_le _,rfl,Grown.nil _ _,hI.rowNil ab 4⟩,?_⟩
 intro t11 _ t4 _ _ _ _ _ _ _ _ _ _ w'
 rintro ⟨k,Ls,css,hk,rfl,hg,hI⟩
 refine cF ?_
 refine bF (fun hki=>?_) (fun hki=>?_)
 ·have hk':k<ts.length:=by omega
  have htl:(ts.take k).length=k:=by simp; omega
  have hcl:=hg.hc
  rw [uK] at hcl
  have hm:=List.getElem_mem hk'
  have hwm:=gF hm
  refine dN hI h aG ag hk' (fun _ _=>RdT.length) fun cs hcs=>?_
  have hlc:=hcs.length
  refine a9 hI bt fun b6 w' hI=>?_
  have hI:=hI.perm (M:=.blk b6 _::(a5 t4 ab 4 css::bw Ls.flatten)) (List.perm_append_comm (l₁:=[_]))
  refine aM hI 0 rfl ag (by simpa using hlc) rfl (by simpa using hcs.one) fun w' hI=>?_
  refine aO hI 0 ag rfl (by simpa using hlc) ?_
  have hI:Inv w [] (a5 t4 ab 4 css::bw Ls.flatten) S2 w':=hI.sub (List.sublist_cons_self _ _)
  refine qc ?_
  refine Run.call0 il h8 hI (AM vs hl' _ S2 cs b3 v1 nK hcs hb hr1 (by omega)) fun v' I' S' w'=>?_
  rintro ⟨rfl,cs',L,rfl,rfl,hT⟩ _ hI
  refine eL hI 0 cs' bC (by omega) (by omega) rfl hT.length hT.one (by omega) (by omega) fun v' w' hI=>?_
  refine bR (by omega) ?_
  refine ⟨⟨k+1,Ls++[L],css++[cs'],hk',rfl,?_,?_⟩,by simp [intOf]; omega⟩
  ·rw [yM vs ts k hk']
   exact hg.snoc hT hT.length
  ·simp only [List.flatten_append,List.flatten_cons,List.flatten_nil,List.append_nil,c8]
   exact hI
 ·have:k=ts.length:=by omega
  subst this
  rw [List.take_length] at hg
  obtain ⟨L,hT,hI⟩:=Inv.rowTree (A:=[]) hI hg
  exact ⟨_,_,_,rfl,hI.less hle,Ext.refl _ _ _,rfl,_,rfl,hT⟩
end

end Go.Proofs.YtnmnddpdikghhaaGreat

/- impl.RenumberClause: clauses. -/
namespace Go.Proofs.YtnmnddpdikghhaaGreat
open Go Go.RowKit
mutual
theorem CD (vs:List Int):∀ t:T,wT (c5 vs t)=wT t
 | .mk k n s ks=>by rw [c5,wT,wT,jD,xt vs ks]
theorem xt (vs:List Int):∀ ts:List T,wL (dM vs ts)=wL ts
 | []=>rfl
 | t::ts=>by rw [dM,wL,wL,CD vs t,xt vs ts]
end
theorem Hb (vs:List Int) (c:C):wC (ir vs c)=wC c:=by
 simp only [wC,ir,CD,xt,jD]
section
attribute [local irreducible] Run CondV ai a4
theorem vm {c:C} {S:ay} {cs:List Value} (h:RdC S cs c) (hnum:dE (c.head::c.body) []=bD c/\jN (bD c) c.head=c5 (bD c) c.head/\gM (bD c) c.body=dM (bD c) c.body) (hw:wC c<=1048576) :
  Tri Tryz.prog rn [.agg cs.toArray] [] S (La (ir (bD c) c)):=by
 intro w hI
 obtain ⟨e1,e2,e3⟩:=hnum
 obtain ⟨hd,ks,rfl,h1,h2⟩:=h
 have h1':=h1
 obtain ⟨kv,rfl,g1,g2,g3,g4⟩:=RdT.iff.1 h1
 have hlen:=h2.le
 simp only [maxLen] at hlen
 unfold wC at hw
 refine uG ?_
 unfold pc
 refine bN hI fun b1 w' hI=>?_
 refine a9 hI bM fun b2 w' hI=>?_
 refine bj bQ ?_
 refine cY hI 0 [.int .i64 c.head.kind,.int .i64 c.head.n,.string c.head.name,kv] ag rfl rfl n3 ?_
 refine dJ hI bC (by simp [Value.cells]) (by omega) (by omega) fun b7 w' hI=>?_
 refine ar hI 0 rfl bl aL rfl ?_
 have hI:=Inv.closeRow (A:=[_,_]) (cap:=1) (k:=4) (n:=1) hI (by omega) (by simp [maxLen]) (by simp [Value.cells])
 refine j3 hI 2 (css:=[[.int .i64 c.head.kind,.int .i64 c.head.n,.string c.head.name,kv]]) bC (by omega) rfl h2 (fun _ _=>RdT.length) (fun _ _=>RdT.one) (by simp; omega) (by omega) fun v' w' css2 hR hI=>?_
 have hR:=(Rows.one h1' h1'.length).append hR
 obtain ⟨S1,hle1,hrd,hI,_⟩:=Inv.lend (A:=[_,_]) hI
 have hts:RdSl S1 4 (RdT S1) v' (c.head::c.body):=(RowRd.rows hR hrd).mono (Sle.refl _) fun _ _ h=>h.mono hle1
 refine Run.call0 wx wX hI (uw hts (by simp only [wL,List.length_cons]; omega)) fun v11 I' S' w'=>?_
 rintro ⟨rfl,M,rfl,hT⟩ _ hI
 obtain ⟨S2,hI,hE,hins⟩:=(hI.less hle1).pubExt
 have hr:=hT.rd hins fun _ _ _ hi h=>h.rd hi
 rw [e1,gM,e2,e3] at hr
 have hdrop:=fun (v:Value) (h:RdSl S2 4 (RdT S2) v ((c5 (bD c) c.head::dM (bD c) c.body).drop 1))=>h
 obtain ⟨b,o,cap,cc,E,fz,rfl,hS,hR0⟩:=hr.at_ (i:=0) (by simp)
 rw [List.getElem_cons_zero] at hR0
 obtain ⟨kv',ec,f1,f2,f3,f4⟩:=RdT.iff.1 hR0
 rw [ec] at hR0
 obtain ⟨ka,kn,kc,hk'⟩:∃ a n m,kv'=.slice a n m:=by
  obtain ⟨a,m,e,_⟩:=f4
  exact ⟨_,_,_,e⟩
 refine ⟨fun D dD dV fh hH j5 j2 mQ w_=>(D 0=true->mQ=.slice (some ⟨b,o,none⟩) ((dM (bD c) c.body).length+1) cap)/\(D 1=true->j2=.pointer (some ⟨b,o+0 * 4,none⟩))/\(D 2=true->j5=.agg #[.int .i64 (c5 (bD c) c.head).kind,.int .i64 (c5 (bD c) c.head).n,.string (c5 (bD c) c.head).name,kv'])/\(D 3=true->hH=.slice (some ⟨b,o,none⟩) ((dM (bD c) c.body).length+1) cap)/\(D 4=true->RdSl S2 4 (RdT S2) fh (dM (bD c) c.body))/\(D 5=true->RdSl S2 4 (RdT S2) dV (dM (bD c) c.body))/\(D 6=true->∃ kb,dD=.agg #[.int .i64 (c5 (bD c) c.head).kind,.int .i64 (c5 (bD c) c.head).n,.string (c5 (bD c) c.head).name,kv',kb]/\RdSl S2 4 (RdT S2) kb (dM (bD c) c.body))/\(D 7=true->True)/\∃ B2,B2.size=5/\(D 7=true->∃ kb,B2=#[.int .i64 (c5 (bD c) c.head).kind,.int .i64 (c5 (bD c) c.head).n,.string (c5 (bD c) c.head).name,kv',kb]/\RdSl S2 4 (RdT S2) kb (dM (bD c) c.body))/\Inv w [] [.blk b1 (.cells #[.int .i64 c.head.kind,.int .i64 c.head.n,.string c.head.name,kv,ks] ac),.blk b2 (.cells B2 ac)] S2 w_,⟨af,af,af,af,af,af,af,af,⟨_,rfl,af,hI.draw⟩⟩,⟨?_,?_,?_,?_,?_,?_,?_,?_,trivial⟩,?_⟩
 ·intro D aS  dD dV fh hH j5 j2 mQ w_
  rintro ⟨aA,az,aB,ax,aD,aC,aw,aJ,⟨B2,hB,kB,hI⟩⟩
  exact ⟨fun _=>rfl,az,aB,ax,aD,aC,aw,aJ,⟨B2,hB,kB,hI⟩⟩
 ·intro D aS cA dD dV fh hH j5 j2 mQ w_
  rintro ⟨aA,az,aB,ax,aD,aC,aw,aJ,⟨B2,hB,kB,hI⟩⟩
  obtain rfl:=aA cA
  refine bq (i:=0) aG (by simp) ?_
  exact ⟨aA,fun _=>rfl,aB,ax,aD,aC,aw,aJ,⟨B2,hB,kB,hI⟩⟩
 ·intro D aS dB dD dV fh hH j5 j2 mQ w_
  rintro ⟨aA,az,aB,ax,aD,aC,aw,aJ,⟨B2,hB,kB,hI⟩⟩
  obtain rfl:=az dB
  refine dF (cs:=[.int .i64 (c5 (bD c) c.head).kind,.int .i64 (c5 (bD c) c.head).n,.string (c5 (bD c) c.head).name,kv']) ag rfl (fun j v hj=>by rw [hI.cellS hS]; exact bx ec j v hj) ?_
  exact ⟨aA,az,fun _=>rfl,ax,aD,aC,aw,aJ,⟨B2,hB,kB,hI⟩⟩
 ·intro D aS  dD dV fh hH j5 j2 mQ w_
  rintro ⟨aA,az,aB,ax,aD,aC,aw,aJ,⟨B2,hB,kB,hI⟩⟩
  exact ⟨aA,az,aB,fun _=>rfl,aD,aC,aw,aJ,⟨B2,hB,kB,hI⟩⟩
 ·intro D aS dh dD dV fh hH j5 j2 mQ w_
  rintro ⟨aA,az,aB,ax,aD,aC,aw,aJ,⟨B2,hB,kB,hI⟩⟩
  obtain rfl:=ax dh
  refine je (l:=1) aG hr (by simp) fun kb hkb=>?_
  rw [List.drop_succ_cons,List.drop_zero] at hkb
  exact ⟨aA,az,aB,ax,fun _=>by first|assumption|trivial,aC,aw,aJ,⟨B2,hB,kB,hI⟩⟩
 ·intro D aS fO dD dV fh hH j5 j2 mQ w_
  rintro ⟨aA,az,aB,ax,aD,aC,aw,aJ,⟨B2,hB,kB,hI⟩⟩
  have Dl:=aD fO
  obtain ⟨r,hr',hp⟩:=HE Dl
  refine Run.callPure yt ym hI hp fun w_ hI=>?_
  exact ⟨aA,az,aB,ax,aD,fun _=>by first|assumption|trivial,aw,aJ,⟨B2,hB,kB,hI⟩⟩
 ·intro D aS cM eF dD dV fh hH j5 j2 mQ w_
  rintro ⟨aA,az,aB,ax,aD,aC,aw,aJ,⟨B2,hB,kB,hI⟩⟩
  obtain rfl:=aB cM
  have zK:=aC eF
  refine iV ?_ ?_
  ·obtain ⟨a,m,e,_⟩:=zK
   exact ⟨_,_,_,e⟩
  have hnew:∃ kb,Value.agg #[.int .i64 (c5 (bD c) c.head).kind,.int .i64 (c5 (bD c) c.head).n,.string (c5 (bD c) c.head).name,kv',dV]=.agg #[.int .i64 (c5 (bD c) c.head).kind,.int .i64 (c5 (bD c) c.head).n,.string (c5 (bD c) c.head).name,kv',kb]/\RdSl S2 4 (RdT S2) kb (dM (bD c) c.body):=⟨_,rfl,zK⟩
  exact ⟨aA,az,aB,ax,aD,aC,fun _=>by first|assumption|trivial,aJ,⟨B2,hB,kB,hI⟩⟩
 ·intro D aS bW eF kS mL kN qx oV th ug dD dV fh hH j5 j2 mQ w_
  rintro ⟨aA,az,aB,ax,aD,aC,aw,aJ,⟨B2,hB,kB,hI⟩⟩
  have Fw:=aw bW
  obtain ⟨kb,rfl,hkb⟩:=Fw
  obtain ⟨a,m,e,_⟩:=id hkb
  subst e
  refine aM hI 1 rfl aI rfl hB (by simp [Value.oneCell',hk']) fun w_ hI=>?_
  obtain ⟨B2,hq⟩:∃ B2,B2=(#[.int .i64 (c5 (bD c) c.head).kind,.int .i64 (c5 (bD c) c.head).n,.string (c5 (bD c) c.head).name,kv',.slice a (dM (bD c) c.body).length m]:Array Value):=⟨_,rfl⟩
  rw [<- hq] at hI
  have hB:B2.size=5:=by rw [hq]; rfl
  have kB:=fun (_:ao D 7 7=true)=>(⟨_,hq,hkb⟩:∃ kb,B2=#[.int .i64 (c5 (bD c) c.head).kind,.int .i64 (c5 (bD c) c.head).n,.string (c5 (bD c) c.head).name,kv',kb]/\RdSl S2 4 (RdT S2) kb (dM (bD c) c.body))
  exact ⟨aA,az,aB,ax,aD,aC,aw,fun _=>trivial,⟨B2,hB,kB,hI⟩⟩
 intro D gc fj ft fL fX fM fP fY dD dV fh hH j5 j2 mQ w_
 rintro ⟨aA,az,aB,ax,aD,aC,aw,aJ,⟨B2,hB,kB,hI⟩⟩
 have Fw:=aw fj
 have zK:=aC ft
 have Dl:=aD fL
 obtain rfl:=ax fX
 obtain rfl:=aB fM
 obtain rfl:=az fP
 obtain rfl:=aA fY
 clear aA az aB ax aD aC aw aJ
 obtain ⟨kb,rfl,hkb⟩:=kB gc
 refine bA hI 1 aI rfl rfl ?_
 exact ⟨_,_,_,rfl,hI.pick [false,false],hE,rfl,_,rfl,⟨_,_,rfl,hR0,hkb⟩⟩
theorem zE {c:C} {S:ay} {cs:List Value} (h:RdC S cs c) (hv:bG c=true) (hw:wC c<=1048576):Tri Tryz.prog rn [.agg cs.toArray] [] S (La (ir (bD c) c)):=vm h (HA hv) hw
abbrev BW (c:C) (ok:Bool):Value->List Item->ay->Prop:=fun v I' _=>∃ cs L,v=.tuple #[.agg cs.toArray,.bool ok]/\I'=bw L/\TrC L cs c
theorem TrC.zero:TrC [] [.int .i64 0,.int .i64 0,.string ⟨#[]⟩,.slice none 0 0,.slice none 0 0] ⟨⟨0,0,⟨#[]⟩,[]⟩,[]⟩:=
 ⟨[.int .i64 0,.int .i64 0,.string ⟨#[]⟩,.slice none 0 0],.slice none 0 0,[],[],rfl,rfl,TrT.iff.2 ⟨_,rfl,by simp [inI,T.kind],by simp [inI,T.n],by rw [T.name]; decide +kernel,TrSl.nil (by simp [maxLen])⟩,TrSl.nil (by simp [maxLen])⟩
theorem mg {c:C} {S:ay} {cs:List Value} (h:RdC S cs c) (hw:wC c<=1048576):Tri Tryz.prog qn [.agg cs.toArray] [] S (BW (JH c) (bG c)):=by
 intro w hI
 have h0:=h
 have hlc:=h.length
 have hon:=h.one
 refine l9 ?_
 unfold jq
 refine bN hI fun b1 w' hI=>?_
 refine a9 hI bM fun b2 w' hI=>?_
 refine aO hI 0 aI rfl (by simpa [Value.cells] using hlc) ?_
 refine Run.callPure fe fb hI (eI h0) fun w' hI=>?_
 refine cN ?_
 rw [JH]
 cases hv:bG c
 ·refine a7 (fun _=>?_) (fun hb=>by cases hb)
  refine dL ?_
  refine aM hI 1 rfl aI rfl rfl (by simp [Value.oneCell']) fun w' hI=>?_
  refine bA hI 1 aI rfl rfl ?_
  exact ⟨_,_,_,rfl,hI.pick [false,false],Ext.refl _ _ _,_,[],rfl,rfl,TrC.zero⟩
 refine a7 (fun hb=>by cases hb) (fun _=>?_)
 refine aO hI 0 aI rfl (by simpa [Value.cells] using hlc) ?_
 refine Run.call0E pf pj hI (zE h0 hv hw) fun v I' S' w'=>?_
 rintro ⟨rfl,cs',rfl,hR⟩ hE hI
 refine Run.call0 nJ na hI (mx hR (by rw [Hb]; exact hw)) fun v I' S2 w'=>?_
 rintro ⟨rfl,cs2,L,rfl,rfl,hT⟩ _ hI
 refine aM hI 1 rfl aI (by simpa using hT.length) rfl (by simpa using hT.one) fun w' hI=>?_
 refine bA hI 1 aI rfl (by simpa using hT.length) ?_
 have hI:Inv w [] (bw L) S2 w':=hI.sub (List.sublist_append_right [_,_] _)
 exact ⟨_,_,_,rfl,hI,hE,cs2,L,rfl,rfl,hT⟩
end

end Go.Proofs.YtnmnddpdikghhaaGreat

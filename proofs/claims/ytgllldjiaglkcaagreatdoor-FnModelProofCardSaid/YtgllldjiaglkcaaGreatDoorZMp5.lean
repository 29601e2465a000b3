/- spec: rows of goals (l6Goals). -/
import Derived.Test.YtgllldjiaglkcaaGreatDoorZMp4
import Derived.Test.YtgllldjiaglkcaaGreatDoorZMp1
import Derived.Test.YtgllldjiaglkcaaGreatDoorZMp3
import Derived.Test.YtgllldjiaglkcaaGreatDoorZMp0
namespace Go.Proofs.YtgllldjiaglkcaaGreatDoor
section
open Go Go.RowKit
def RdG (S:ae) (cs:List Value) (g:T × Int):Prop:=∃ hd,cs=hd++[.int .i64 g.2]/\RdT S hd g.1
theorem RdG.length {S:ae} {cs:List Value} {g:T × Int} (h:RdG S cs g):cs.length=5:=by
 obtain ⟨hd,rfl,h⟩:=h; simp [h.length]
theorem RdG.one {S:ae} {cs:List Value} {g:T × Int} (h:RdG S cs g):∀ u∈cs,u.oneCell'=true:=by
 obtain ⟨hd,rfl,h⟩:=h
 intro u hu
 rcases bO.1 hu with hu|hu
 ·exact h.one u hu
 ·rw [cd] at hu; subst hu; rfl
theorem RdG.mono {S S':ae} {cs:List Value} {g:T × Int} (hs:Sle S S') (h:RdG S cs g):RdG S' cs g:=by
 obtain ⟨hd,rfl,h⟩:=h; exact ⟨hd,rfl,h.mono hs⟩
theorem RdSl.monoG {S S':ae} {v:Value} {gs:List (T × Int)} (hs:Sle S S') (h:RdSl S 5 (RdG S) v gs):RdSl S' 5 (RdG S') v gs:=h.mono hs fun _ _=>RdG.mono hs
section
variable {w:World} {K:Value->World->Prop}
attribute [local irreducible] Run
end
section
attribute [local irreducible] Run CondV az aO
end
end
section
open Go Go.RowKit
theorem NL {s:ByteArray} (h:lH s=true):s.size<=6:=by
 rw [lH,jR] at h
 rcases h with h|h
 ·rw [m8] at h
  simp only [bu,bk] at h
  exact h.2.2
 ·simp only [Gw,bk] at h
  obtain ⟨x,hx,rfl⟩:=h
  have:∀ y∈signs,y.size<=6:=by decide +kernel
  exact this x hx
theorem SB {t:T} (h:ed t=true):t.name.size<=6:=by
 unfold ed at h
 have he:emptyB.size=0:=by decide +kernel
 by_cases e1:t.kind=1
 ·rw [ai e1] at h
  simp only [bu,bk] at h
  rw [h.2.2.1]; omega
 ·rw [ah e1] at h
  by_cases e2:t.kind=2
  ·rw [ai e2] at h
   simp only [bu,bk] at h
   rw [h.2.2.1]; omega
  ·rw [ah e2] at h
   by_cases e3:t.kind=3
   ·rw [ai e3] at h
    simp only [bu,bk] at h
    exact NL h.2.1
   ·rw [ah e3] at h
    cases h
theorem C7:emptyB.size<=6:=by decide +kernel
mutual
theorem KT:∀ (t:T) (d:Int),dV t d=true->okU 26 t
 | .mk k n s ks,d,h=>by
  rw [dV] at h
  split at h
  ·cases h
  ·rw [bu] at h
   have h1:=Fl h.1
   have h2:=fun hk=>XB h.1 hk
   have h3:=SB h.1
   rw [okU]
   refine ⟨h1.2,fun hk=>?_,Gx ks _ h.2,h3⟩
   have h4:=h1.1 hk
   have h5:=h2 hk
   simp only [T.n] at h4
   simp only [T.name,T.kids] at h5
   exact ⟨h4.1,by omega,h5.1,gO h5.2⟩
theorem Gx:∀ (ts:List T) (d:Int),dJ ts d=true->dw 26 ts
 | [],_,_=>by rw [dw]; trivial
 | t::ts,d,h=>by
  rw [dJ,bu] at h
  rw [dw]
  exact ⟨KT t d h.1,Gx ts d h.2⟩
end
theorem io {t:T} (h:dt t=true):okU 26 t:=KT t 30 (jk h)
theorem gr {c:C} (h:bK c=true):okU 26 c.head/\(∀ t∈c.body,okU 26 t)/\c.body.length<=6:=by
 rw [bK] at h
 simp only [bu,dE,bk] at h
 refine ⟨io h.2.2.1,fun t ht=>?_,h.1⟩
 have:=h.2.1 t ht
 rw [eq,bu] at this
 exact io this.1
mutual
theorem iC {N M:Nat} (h:N<=M):∀ t:T,okU N t->okU M t
 | .mk k n s ks,ht=>by
  rw [okU] at ht ⊢
  refine ⟨ht.1,fun hk=>?_,TR h ks ht.2.2.1,ht.2.2.2⟩
  have:=ht.2.1 hk
  exact ⟨this.1,by omega,this.2.2⟩
theorem TR {N M:Nat} (h:N<=M):∀ ts:List T,dw N ts->dw M ts
 | [],_=>by rw [dw]; trivial
 | t::ts,ht=>by
  rw [dw] at ht ⊢
  exact ⟨iC h t ht.1,TR h ts ht.2⟩
end
mutual
theorem l7 {N:Nat} (m:Nat):∀ t:T,okU N t->okU (N+m) (dx m t)
 | .mk k n s ks,ht=>by
  rw [okU] at ht
  rw [dx,okU]
  refine ⟨ht.1,fun hk=>?_,wM m ks ht.2.2.1,ht.2.2.2⟩
  have:=ht.2.1 hk
  rw [ai hk]
  refine ⟨by omega,by omega,this.2.2.1,?_⟩
  rw [this.2.2.2,gU]
theorem wM {N:Nat} (m:Nat):∀ ts:List T,dw N ts->dw (N+m) (gU m ts)
 | [],_=>by rw [gU,dw]; trivial
 | t::ts,ht=>by
  rw [dw] at ht
  rw [gU,dw]
  exact ⟨l7 m t ht.1,wM m ts ht.2⟩
end
mutual
theorem o8 (m:Int):∀ t:T,wT (dx m t)=wT t
 | .mk k n s ks=>by
  rw [dx,wT,wT,Oa m ks]
  rw [mi,kR]
theorem Oa (m:Int):∀ ts:List T,wL (gU m ts)=wL ts
 | []=>rfl
 | t::ts=>by rw [gU,wL,wL,o8 m t,Oa m ts]
end
mutual
theorem Td {N:Nat}:∀ t:T,okU N t->(wT t:Int)+1<=7 * ew t
 | .mk k n s ks,h=>by
  rw [okU] at h
  have h1:=X0 ks h.2.2.1
  rw [wT,yf]
  omega
theorem X0 {N:Nat}:∀ ts:List T,dw N ts->(wL ts:Int)+ts.length<=7 * cV ts
 | [],_=>by simp [wL,cV]
 | t::ts,h=>by
  rw [dw] at h
  have h1:=Td t h.1
  have h2:=X0 ts h.2
  rw [wL,cV,bw]
  omega
end
theorem Rm {N:Nat} {st:al} {t v:T} (h:Good N st) (hw:dF st t v) (ht:okU N t):okU N v:=by
 induction hw with
 | stop=>exact ht
 | step hl _ ih=>exact ih (h.look_ok hl).1
theorem jD {N:Nat} {st:al} (hg:Good N st) {j:Vm} (hr:Res st j):match j with
  | .one t u=>okU N t->okU N u
  | .list ts us=>dw N ts->dw N us/\us.length=ts.length:=by
 induction hr with
 | one hw hl ih=>
  rename_i t v us
  intro ho
  have hv:=Rm hg hw ho
  obtain ⟨h1,h2⟩:=ih hv.kids
  obtain ⟨k,n,s,ks⟩:=v
  have hv2:=hv
  rw [okU] at hv2
  show okU N (.mk k n s us)
  rw [okU]
  refine ⟨hv2.1,fun hk=>?_,h1,hv2.2.2.2⟩
  have h3:=hv2.2.1 hk
  refine ⟨h3.1,h3.2.1,h3.2.2.1,?_⟩
  simp only [T.kids] at h2
  exact gO (by rw [h2,h3.2.2.2]; rfl)
 | nil=>exact fun h=>⟨h,rfl⟩
 | cons _ _ ih1 ih2=>
  intro ho
  rw [dw] at ho
  obtain ⟨h1,h2⟩:=ih2 ho.2
  rw [dw]
  exact ⟨⟨ih1 ho.1,h1⟩,by simp [h2]⟩
theorem tH {N:Nat} {st:al} (h:Good N st):∀ ts:List T,dw N ts->∃ us,Res st (.list ts us)
 | [],_=>⟨[],.nil⟩
 | t::ts,ho=>by
  rw [dw] at ho
  obtain ⟨u,hu⟩:=Sf h t ho.1
  obtain ⟨us,hus⟩:=tH h ts ho.2
  exact ⟨u::us,.cons hu hus⟩
theorem Fk {st:al}:∀ {ts us:List T},Res st (.list ts us)->∀ i (h:i<ts.length) (h':i<us.length),Res st (.one ts[i] us[i])
 | _,_,.cons hu _,0,_,_=>hu
 | _,_,.cons _ hus,i+1,h,h'=>Fk hus i (by simpa using h) (by simpa using h')
mutual
theorem Ku {N:Nat}:∀ (t:T) (l:List Int),okU N t->gD t l=fO t l
 | .mk k n s ks,l,h=>by
  rw [okU] at h
  rw [gD,fO]
  split
  ·rename_i hk
   rw [(h.2.1 hk).2.2.2,cN]
  ·exact FM ks l h.2.2.1
theorem FM {N:Nat}:∀ (ts:List T) (l:List Int),dw N ts->ek ts l=cN ts l
 | [],l,_=>by rw [ek,cN]
 | t::ts,l,h=>by
  rw [dw] at h
  rw [ek,cN,Ku t l h.1,FM ts _ h.2]
end
def stU:al:=List.replicate 52 none
theorem HG:Good 52 stU:=⟨by simp [stU],fun t ht=>by simp [stU] at ht,fun t ht=>by simp [stU] at ht,fun n=>n,fun n u hu=>by
 have:=cz hu
 simp [stU] at this⟩
def Lp (c d:C):List T:=c.head::(gU 26 d.body++c.body.drop 1)
def ofL:List T->C
 | []=>⟨⟨0,0,⟨#[]⟩,[]⟩,[]⟩
 | t::ts=>⟨t,ts⟩
def RO (c d:C) (o:Option (Option C)):Prop:=∃ r st,Uni stU (.one (c.body.headD ⟨0,0,⟨#[]⟩,[]⟩) (dx 26 d.head)) r st/\
 ((r=false/\o=none) ∨ (r=true/\∃ us,Res st (.list (Lp c d) us)/\((us.all bI=false/\o=some none) ∨ (us.all bI=true/\o=some (some (Y8 (Zq (ofL us)) (ofL us)))))))
theorem QD {N:Nat} {ts us:List T} (h:dw N ts) (h':dw N us):dw N (ts++us):=
 qN fun t ht=>by
  rcases bO.1 ht with ht|ht
  ·exact kP h t ht
  ·exact kP h' t ht
theorem OG {c d:C} (hc:bK c=true) (hd:bK d=true):dw 52 (Lp c d):=by
 obtain ⟨c1,c2,_⟩:=gr hc
 obtain ⟨d1,d2,_⟩:=gr hd
 rw [Lp,dw]
 exact ⟨iC (by decide) _ c1,QD (wM 26 _ (qN d2)) (qN fun t ht=>iC (by decide) _ (c2 t (wR ht)))⟩
theorem JQ {c d:C} (hc:bK c=true) (hd:bK d=true) (hwc:wC c<=1048576) (hwd:wC d<=1048576) (hb:c.body≠[]):okJ 52 (.one (c.body.headD ⟨0,0,⟨#[]⟩,[]⟩) (dx 26 d.head)):=by
 obtain ⟨c1,c2,_⟩:=gr hc
 obtain ⟨d1,d2,_⟩:=gr hd
 unfold wC at hwc hwd
 cases hcb:c.body with
 | nil=>exact absurd hcb hb
 | cons t ts=>
  rw [List.headD_cons]
  have hm:t∈c.body:=by rw [hcb]; exact aS ..
  have:=TP hm
  exact ⟨⟨iC (by decide) _ (c2 t hm),by omega⟩,⟨l7 26 _ d1,by rw [o8]; omega⟩⟩
theorem RO.ex {c d:C} (hc:bK c=true) (hd:bK d=true) (hwc:wC c<=1048576) (hwd:wC d<=1048576) (hb:c.body≠[]):∃ o,RO c d o:=by
 have hj:=JQ hc hd hwc hwd hb
 obtain ⟨r,st,hu⟩:=Ft (unb stU) stU HG (aW _) _ hj
 cases r with
 | false=>exact ⟨none,false,st,hu,.inl ⟨rfl,rfl⟩⟩
 | true=>
  obtain ⟨us,hus⟩:=tH (hu.good HG hj).1 (Lp c d) (OG hc hd)
  cases hs:us.all bI with
  | false=>exact ⟨some none,true,st,hu,.inr ⟨rfl,us,hus,.inl ⟨hs,rfl⟩⟩⟩
  | true=>exact ⟨_,true,st,hu,.inr ⟨rfl,us,hus,.inr ⟨hs,rfl⟩⟩⟩
theorem gj {N:Nat} {u:T} (h:bI u=true) (ho:okU N u):wT u<=840:=by
 rw [bI,bu,bk] at h
 have:=Td u ho
 omega
theorem N7 {N:Nat}:∀ {us:List T},us.all bI=true->dw N us->wL us<=us.length * 840
 | [],_,_=>by simp [wL]
 | u::us,h,ho=>by
  rw [TQ,bu] at h
  rw [dw] at ho
  have h1:=gj h.1 ho.1
  have h2:=N7 h.2 ho.2
  rw [wL,bw,lw]
  omega
theorem Vt {c d:C} (hc:bK c=true) (hd:bK d=true):(Lp c d).length<=13:=by
 obtain ⟨_,_,c3⟩:=gr hc
 obtain ⟨_,_,d3⟩:=gr hd
 rw [Lp,bw,bA,mi,kR,vB]
 omega
end
section
open Go Go.RowKit

def KnownM (S:ae) (es:Array MapEntry) (st:al):Prop:=
 (∀ e∈es.toList,∃ (n:Nat) (t:T) (cs:List Value),e.key=.int .i64 n/\e.val=.agg cs.toArray/\RdT S cs t/\st[n]?=some (some t))/\(∀ (n:Nat) (t:T),st[n]?=some (some t)->∃ e∈es.toList,e.key=.int .i64 n)/\(es.toList.map (·.key)).Nodup
theorem KnownM.find {S:ae} {es:Array MapEntry} {st:al} (h:KnownM S es st) (n:Nat) :
  (∃ j v t cs,Instr.findNow (.int .i64) (.int .i64 n) es.toList 0=some (some (j,v))/\v=.agg cs.toArray/\RdT S cs t/\st[n]?=some (some t)) ∨
  ((∀ t,st[n]?≠some (some t))/\Instr.findNow (.int .i64) (.int .i64 n) es.toList 0=some none):=by
 rcases uN (n:=n) es.toList 0 (fun e he=>by obtain ⟨m,_,_,hk,_⟩:=h.1 e he; exact ⟨m,hk⟩) with ⟨j,e,he,hk,hf⟩|⟨hk,hf⟩
 ·obtain ⟨m,t,cs,hk2,hv,hR,hs⟩:=h.1 e he
  rw [hk] at hk2
  simp only [Value.int.injEq,xO] at hk2
  have:n=m:=by omega
  subst this
  exact .inl ⟨j,e.val,t,cs,hf,hv,hR,hs⟩
 ·refine .inr ⟨fun t ht=>?_,hf⟩
  obtain ⟨e,he,hk2⟩:=h.2.1 n t ht
  exact hk e he hk2
theorem KnownM.push {S:ae} {es:Array MapEntry} {st:al} (h:KnownM S es st) {n:Nat} (hn:n<st.length) (hno:∀ t,st[n]?≠some (some t)) {cs:List Value} {u:T} (hu:RdT S cs u) (ck:Nat) :
  KnownM S (es.push { key:=.int .i64 n,val:=.agg cs.toArray,born:=ck }) (st.set n (some u)):=by
 refine ⟨fun e he=>?_,fun m t ht=>?_,?_⟩
 ·rw [VV] at he
  rcases bO.1 he with he|he
  ·obtain ⟨m,t,cs',hk,hv,hR,hs⟩:=h.1 e he
   refine ⟨m,t,cs',hk,hv,hR,?_⟩
   have:n≠m:=fun e=>hno t (by rw [e]; exact hs)
   rw [CT this]
   exact hs
  ·simp at he
   subst he
   exact ⟨n,u,cs,rfl,rfl,hu,by rw [Tu hn]⟩
 ·rw [VV]
  by_cases e:n=m
  ·exact ⟨_,iA _ (cd.2 rfl),by rw [e]⟩
  ·rw [CT e] at ht
   obtain ⟨x,hx,hk⟩:=h.2.1 m t ht
   exact ⟨x,dy _ hx,hk⟩
 ·rw [VV,Ue,rc]
  refine ⟨h.2.2,by simp,fun a ha b hb e=>?_⟩
  simp only [AE,List.map_nil,cd] at hb
  subst hb
  obtain ⟨x,hx,rfl⟩:=eU.1 ha
  obtain ⟨m,t,cs',hk,_,_,hs⟩:=h.1 x hx
  rw [hk] at e
  simp only [Value.int.injEq,xO] at e
  have:m=n:=by omega
  subst this
  exact hno t hs
theorem KG (t u:T):lr t u=lr u t:=by
 rw [lr,lr,mf]
 simp only [bu,bk]
 constructor
 ·rintro ⟨a,b,c,d⟩; exact ⟨a.symm,b.symm,c.symm,d.symm⟩
 ·rintro ⟨a,b,c,d⟩; exact ⟨a.symm,b.symm,c.symm,d.symm⟩
section
attribute [local irreducible] Run CondV az aO
theorem jE:∀ (t u:T) (S:ae) (cs ds:List Value) (mb ck:Nat) (es:Array MapEntry) (st:al),RdT S cs t->RdT S ds u->okV t->okK u->xA st->KnownM S es st->
  Tri Tryz.prog Lw [.agg ds.toArray,.agg cs.toArray,.map (some mb)] [.blk mb (.map es ck)] S fun r I' S'=>S'=S/\r=.bool (bt t u st).1/\∃ es' ck',I'=[.blk mb (.map es' ck')]/\KnownM S es' (bt t u st).2:=by
 refine T.ind fun k' n' s' ks' ih u S cs ds mb ck es st h' h hv hu hst hkc=>?_
 intro w hI
 have hds:=h
 obtain ⟨kv',rfl,_,_,_,hks'⟩:=RdT.iff.1 h'
 obtain ⟨kv,rfl,_,_,_,hks⟩:=RdT.iff.1 h
 obtain ⟨k,n,s,ks⟩:=u
 simp only [T.name,T.kids,T.kind,T.n] at hks hks' ⊢
 have hlen:=hks'.le
 simp only [maxLen] at hlen
 rw [okV] at hv
 obtain ⟨hv1,hv2⟩:=hv
 have huk:=hu
 rw [okK] at hu
 obtain ⟨X,hX⟩:∃ X,X=bE [Item.blk mb (.map es ck)]:=⟨_,rfl⟩
 rw [<- hX] at hI ⊢
 refine wG.2 ?_
 dsimp only[wG,dN]
 refine bq hI fun b1 w' hI=>?_
 refine bq hI fun b2 w' hI=>?_
 have hI:Inv w X [.blk b1 (.cells #[.int .i64 k,.int .i64 n,.string s,kv] ab),.blk b2 (.cells #[.int .i64 k',.int .i64 n',.string s',kv'] ab),.blk mb (.map es ck)] S w':=hI.perm (by
  refine (cu (l₁:=[_,_]) (l₂:=[_])).trans ?_
  exact List.Perm.refl _)
 refine af hI 1 rfl aR aG rfl ?_
 refine bl ?_
 refine aL (fun hk1=>?_) (fun hk1=>?_)
 ·obtain ⟨hn0,hn25⟩:=hv1 hk1
  obtain ⟨j,rfl⟩:∃ j:Nat,n'=j:=⟨n'.toNat,by omega⟩
  have hj:j<26:=by omega
  have hjs:j<st.length:=by rw [hst.1]; exact hj
  refine af hI 1 rfl bf aG rfl ?_
  rcases hkc.find j with ⟨q,v,t0,cs0,hf,rfl,hR,hst2⟩|⟨hno,hf⟩
  ·refine Qq (v:=.agg cs0.toArray) (ok:=true) hI 2 eA fK aZ rfl (.inl ⟨q,hf,rfl⟩) ?_
   refine ar rfl ?_
   refine ar rfl ?_
   have hlc:=hR.length
   refine aT hI aZ fun b7 w' hI=>?_
   refine aC hI 3 rfl ad (by simpa using hlc) rfl (by simpa using hR.one) fun w' hI=>?_
   refine bQ ?_
   refine aw (fun hb=>by cases hb) (fun _=>?_)
   refine av hI 3 ad rfl (by simpa using hlc) ?_
   refine av hI 0 ad rfl rfl ?_
   refine Run.callPure iH iL hI (ig t0 _ S _ _ hR hds) fun w' hI=>?_
   have hm:bt (.mk k' j s' ks') (.mk k n s ks) st=(eqT t0 (.mk k n s ks),st):=by
    rw [bt,ai hk1,dv,hst2]
   rw [hm]
   exact ⟨_,_,_,rfl,hI.pick [false,false,true,false],Ext.refl _ _ _,rfl,rfl,_,_,rfl,hkc⟩
  ·refine Qq (ok:=false) hI 2 eA fK aZ rfl (.inr ⟨hf,rfl,rfl⟩) ?_
   refine ar rfl ?_
   refine ar rfl ?_
   refine aT hI aZ fun b7 w' hI=>?_
   refine aC hI 3 rfl ad rfl rfl (by simp [Value.oneCell']) fun w' hI=>?_
   refine bQ ?_
   refine aw (fun _=>?_) (fun hb=>by cases hb)
   refine af hI 1 rfl bf aG rfl ?_
   refine av hI 0 ad rfl rfl ?_
   refine GY hI 2 eA fK rfl hf fun w' hI=>?_
   have hm:bt (.mk k' j s' ks') (.mk k n s ks) st=(true,st.set j (some (.mk k n s ks))):=by
    rw [bt,ai hk1,dv,gL hjs]
    cases hq:st[j] with
    | none=>rfl
    | some t=>exact absurd (by rw [gL hjs,hq]) (hno t)
   rw [hm]
   exact ⟨_,_,_,rfl,hI.pick [false,false,true,false],Ext.refl _ _ _,rfl,rfl,_,_,rfl,hkc.push hjs hno hds ck⟩
 refine ⟨fun q w'=>q=.bool (!lr (.mk k n s ks) (.mk k' n' s' ks'))/\Inv w X [.blk b1 (.cells #[.int .i64 k,.int .i64 n,.string s,kv] ab),.blk b2 (.cells #[.int .i64 k',.int .i64 n',.string s',kv'] ab),.blk mb (.map es ck)] S w',?_,?_⟩
 ·refine af hI 0 rfl aR aG rfl ?_
  refine af hI 1 rfl aR aG rfl ?_
  refine ef ?_
  by_cases e1:k=k'
  ·rw [aI e1]
   refine rpG ?_
   refine af hI 0 rfl bf aG rfl ?_
   refine af hI 1 rfl bf aG rfl ?_
   refine ef ?_
   by_cases e2:n=n'
   ·rw [aI e2]
    refine rpG ?_
    refine af hI 0 rfl bb aU rfl ?_
    refine af hI 1 rfl bb aU rfl ?_
    refine xW ?_
    by_cases e3:s=s'
    ·rw [aI e3]
     refine rpG ?_
     refine af hI 0 rfl ao aj rfl ?_
     refine aF hks ag ?_
     refine af hI 1 rfl ao aj rfl ?_
     refine aF hks' ag ?_
     refine ef ?_
     refine rpG ?_
     exact ⟨by rw [eG,aI e1,aI e2,aI e3,Uy]; rfl,hI⟩
    ·rw [aP e3]
     refine rpG ?_
     exact ⟨by rw [eG,aI e1,aI e2,aP e3]; rfl,hI⟩
   ·rw [aP e2]
    refine rpG ?_
    exact ⟨by rw [eG,aI e1,aP e2]; rfl,hI⟩
  ·rw [aP e1]
   refine rpG ?_
   exact ⟨by rw [eG,aP e1]; rfl,hI⟩

 intro q _ _ _ _ _ _ _ _ _ _ _ _ _ _ _ _ _ _ _ _ _ _ _ _ _ _ _ w'
 rintro ⟨rfl,hI⟩
 cases hd:lr (.mk k n s ks) (.mk k' n' s' ks')
 ·refine aw (fun _=>?_) (fun hb=>by cases hb)
  have hm:bt (.mk k' n' s' ks') (.mk k n s ks) st=(false,st):=by rw [bt,ah hk1,ah (by rw [KG,hd]; decide)]
  rw [hm]
  exact ⟨_,_,_,rfl,hI.pick [false,false,true],Ext.refl _ _ _,rfl,rfl,_,_,rfl,hkc⟩
 refine aw (fun hb=>by cases hb) (fun _=>?_)
 have hle:ks.length=ks'.length:=by
  rw [eG] at hd
  simp only [bu,bk] at hd
  exact hd.2.2.2
 have hm:bt (.mk k' n' s' ks') (.mk k n s ks) st=fe ks' ks st:=by rw [bt,ah hk1,ai (by rw [KG,hd])]; rfl
 rw [hm]
 have hu2:=hu.2
 refine af hI 1 rfl ao aj rfl ?_
 refine aF hks' ag ?_
 refine ⟨fun i w'=>∃ (j:Nat) (st':al) (es':Array MapEntry) (ck':Nat),j<=ks'.length/\i=.int .i64 j/\fe (ks'.drop j) (ks.drop j) st'=fe ks' ks st/\xA st'/\KnownM S es' st'/\Inv w X [.blk b1 (.cells #[.int .i64 k,.int .i64 n,.string s,kv] ab),.blk b2 (.cells #[.int .i64 k',.int .i64 n',.string s',kv'] ab),.blk mb (.map es' ck')] S w',fun i _=>ks'.length - (intOf i).toNat,⟨0,st,es,ck,be _,rfl,rfl,hst,hkc,hI⟩,?_⟩
 intro t60 _ _ _ _ _ _ _ _ _ _ _ _ _ _ _ _ _ _ w'
 rintro ⟨j,st',es',ck',hj,rfl,hrel,hst',hkc',hI⟩
 refine bH ?_
 refine aL (fun hji=>?_) (fun hji=>?_)
 ·have hj2:j<ks'.length:=by omega
  have hj1:j<ks.length:=by omega
  obtain ⟨c1,o1,cap1,a1,E1,fz1,rfl,hS1,hR1⟩:=hks.at_ hj1
  obtain ⟨c2,o2,cap2,a2,E2,fz2,rfl,hS2,hR2⟩:=hks'.at_ hj2
  rw [CU ks' ks st' j hj2 hj1] at hrel
  have hcall:=ih _ (bz hj2) ks[j] S _ _ mb ck' es' st' hR2 hR1 (me hv2 _ (bz hj2)) (tu hu2 _ (bz hj1)) hst' hkc'
  have hsn:=pL ks'[j] ks[j] st' hst' (tu hu2 _ (bz hj1))
  generalize hr:bt ks'[j] ks[j] st'=r at hrel hcall hsn
  refine ⟨fun D Tk T8 T6 UE O1 NG Rk XO WI UG G1 Ln z4 w_=>Fx D 0 [z4=.pointer (some ⟨b1,3,none⟩),Ln=.slice (some ⟨c1,o1,none⟩) ks.length cap1,G1=.int .i64 j,UG=.pointer (some ⟨c1,o1+j * 4,none⟩),WI=.agg (aX a1 (o1+j * 4) 4).toArray,XO=.pointer (some ⟨b2,3,none⟩),Rk=.slice (some ⟨c2,o2,none⟩) ks'.length cap2,NG=.int .i64 j,O1=.pointer (some ⟨c2,o2+j * 4,none⟩),UE=.agg (aX a2 (o2+j * 4) 4).toArray,T6=.map (some mb),T8=.bool r.1,Tk=.bool (!r.1)]/\(D 11=false->Inv w X [.blk b1 (.cells #[.int .i64 k,.int .i64 n,.string s,.slice (some ⟨c1,o1,none⟩) ks.length cap1] ab),.blk b2 (.cells #[.int .i64 k',.int .i64 n',.string s',.slice (some ⟨c2,o2,none⟩) ks'.length cap2] ab),.blk mb (.map es' ck')] S w_)/\(D 11=true->∃ es2 ck2,KnownM S es2 r.2/\Inv w X [.blk b1 (.cells #[.int .i64 k,.int .i64 n,.string s,.slice (some ⟨c1,o1,none⟩) ks.length cap1] ab),.blk b2 (.cells #[.int .i64 k',.int .i64 n',.string s',.slice (some ⟨c2,o2,none⟩) ks'.length cap2] ab),.blk mb (.map es2 ck2)] S w_)/\∃ es3 ck3,Inv w X [.blk b1 (.cells #[.int .i64 k,.int .i64 n,.string s,.slice (some ⟨c1,o1,none⟩) ks.length cap1] ab),.blk b2 (.cells #[.int .i64 k',.int .i64 n',.string s',.slice (some ⟨c2,o2,none⟩) ks'.length cap2] ab),.blk mb (.map es3 ck3)] S w_,⟨Fx.nil _ _,⟨fun _=>hI.draw,aQ,es',ck',hI.draw⟩⟩,⟨?_,?_,?_,?_,?_,?_,?_,?_,?_,?_,?_,?_,?_,trivial⟩,?_⟩
  all_goals (intro D bF; intros; rename_i Tk T8 T6 UE O1 NG Rk XO WI UG G1 Ln z4 w_ hA_; have hF_:=hA_.1; obtain ⟨⟨cj,ci,bR,ce,bP,bY,bZ,cH,c5,dI,bX,cr,cZ,_⟩,⟨hI0,hI1,es3,ck3,hI⟩⟩:=hA_)
  ·refine au ao ?_
   exact ⟨hF_.set 0 rfl,⟨hI0,hI1,es3,ck3,hI⟩⟩
  ·obtain rfl:=cj ‹_›
   refine aN hI 0 aj rfl rfl ?_
   exact ⟨hF_.set 1 rfl,⟨hI0,hI1,es3,ck3,hI⟩⟩
  ·exact ⟨hF_.set 2 rfl,⟨hI0,hI1,es3,ck3,hI⟩⟩
  ·obtain rfl:=ci ‹_›
   obtain rfl:=bR ‹_›
   refine aE ag hj1 ?_
   exact ⟨hF_.set 3 rfl,⟨hI0,hI1,es3,ck3,hI⟩⟩
  ·obtain rfl:=ce ‹_›
   refine bL ad hR1.length (fun j v hj=>by rw [hI.cellS hS1]; exact aH rfl j v hj) ?_
   exact ⟨hF_.set 4 rfl,⟨hI0,hI1,es3,ck3,hI⟩⟩
  ·refine au ao ?_
   exact ⟨hF_.set 5 rfl,⟨hI0,hI1,es3,ck3,hI⟩⟩
  ·obtain rfl:=bY ‹_›
   refine aN hI 1 aj rfl rfl ?_
   exact ⟨hF_.set 6 rfl,⟨hI0,hI1,es3,ck3,hI⟩⟩
  ·exact ⟨hF_.set 7 rfl,⟨hI0,hI1,es3,ck3,hI⟩⟩
  ·obtain rfl:=bZ ‹_›
   obtain rfl:=cH ‹_›
   refine aE ag hj2 ?_
   exact ⟨hF_.set 8 rfl,⟨hI0,hI1,es3,ck3,hI⟩⟩
  ·obtain rfl:=c5 ‹_›
   refine bL ad hR2.length (fun j v hj=>by rw [hI.cellS hS2]; exact aH rfl j v hj) ?_
   exact ⟨hF_.set 9 rfl,⟨hI0,hI1,es3,ck3,hI⟩⟩
  ·exact ⟨hF_.set 10 rfl,⟨hI0,hI1,es3,ck3,hI⟩⟩
  ·obtain rfl:=bP ‹_›
   obtain rfl:=dI ‹_›
   obtain rfl:=bX ‹_›
   refine Run.call (A:=[_,_]) iO iU (hI0 bF) hcall fun v' I' S w_=>?_
   rintro ⟨rfl,rfl,es2,ck2,rfl,hk2⟩ _ hI
   have hI0:=fun (h:aD D 11 11=false)=>(Bool.noConfusion h:Inv w X [.blk b1 (.cells #[.int .i64 k,.int .i64 n,.string s,.slice (some ⟨c1,o1,none⟩) ks.length cap1] ab),.blk b2 (.cells #[.int .i64 k',.int .i64 n',.string s',.slice (some ⟨c2,o2,none⟩) ks'.length cap2] ab),.blk mb (.map es' ck')] S w_)
   have hI1:=fun (_:aD D 11 11=true)=>(⟨es2,ck2,hk2,hI⟩:∃ es2 ck2,KnownM S es2 r.2/\Inv w X [.blk b1 (.cells #[.int .i64 k,.int .i64 n,.string s,.slice (some ⟨c1,o1,none⟩) ks.length cap1] ab),.blk b2 (.cells #[.int .i64 k',.int .i64 n',.string s',.slice (some ⟨c2,o2,none⟩) ks'.length cap2] ab),.blk mb (.map es2 ck2)] S w_)
   obtain ⟨es3,ck3,hI⟩:∃ es3 ck3,Inv w X [.blk b1 (.cells #[.int .i64 k,.int .i64 n,.string s,.slice (some ⟨c1,o1,none⟩) ks.length cap1] ab),.blk b2 (.cells #[.int .i64 k',.int .i64 n',.string s',.slice (some ⟨c2,o2,none⟩) ks'.length cap2] ab),.blk mb (.map es3 ck3)] S w_:=⟨es2,ck2,hI⟩
   exact ⟨hF_.set 11 rfl,⟨hI0,hI1,es3,ck3,hI⟩⟩
  ·obtain rfl:=cr ‹_›
   refine bQ ?_
   exact ⟨hF_.set 12 rfl,⟨hI0,hI1,es3,ck3,hI⟩⟩
  obtain ⟨rfl,rfl,rfl,rfl,rfl,rfl,rfl,rfl,rfl,rfl,rfl,rfl,rfl,_⟩:=hF_.all
  have np:D 11=true:=by assumption
  clear hF_ cj ci bR ce bP bY bZ cH c5 dI bX cr cZ
  obtain ⟨es2,ck2,hk2,hI⟩:=hI1 np
  clear hI0 hI1
  refine aw (fun hne=>?_) (fun he'=>?_)
  ·simp only [jj] at hne
   rw [hne,ah (by decide)] at hrel
   rw [<- hrel]
   exact ⟨_,_,_,rfl,hI.pick [false,false,true],Ext.refl _ _ _,rfl,rfl,_,_,rfl,hk2⟩
  ·simp only [rK] at he'
   rw [he',ai rfl] at hrel
   refine bp (by omega) ?_
   exact ⟨⟨j+1,r.2,es2,ck2,hj2,rfl,hrel,hsn,hk2,hI⟩,by simp [intOf]; omega⟩
 ·have:j=ks'.length:=by omega
  subst this
  rw [dO,<- hle,dO] at hrel
  rw [<- hrel]
  exact ⟨_,_,_,rfl,hI.pick [false,false,true],Ext.refl _ _ _,rfl,rfl,_,_,rfl,hkc'⟩
end
end
section
open Go Go.RowKit

def st0:al:=List.replicate 26 none
theorem V8:xA st0:=⟨by simp [st0],fun t ht=>by simp [st0] at ht⟩
theorem KnownM.empty (S:ae):KnownM S #[] st0:=by
 refine ⟨by simp,fun n t ht=>?_,by simp⟩
 rw [st0,XU] at ht
 split at ht <;> cases ht
theorem Fa:∀ {ts:List T},(∀ t∈ts,okV t)->s8 ts
 | [],_=>by simp [s8]
 | t::ts,h=>by rw [s8]; exact ⟨h t (aS ..),Fa fun u hu=>h u (aV _ hu)⟩
theorem Lz:∀ {ts:List T},(∀ t∈ts,okK t)->zZ ts
 | [],_=>by simp [zZ]
 | t::ts,h=>by rw [zZ]; exact ⟨h t (aS ..),Lz fun u hu=>h u (aV _ hu)⟩
theorem VB {c:C} (h:bK c=true):(okV c.head/\okK c.head)/\s8 c.body/\zZ c.body:=by
 rw [bK] at h
 simp only [bu,dE] at h
 obtain ⟨_,h2,h3,_⟩:=h
 have hb:∀ t∈c.body,okV t/\okK t:=fun t ht=>by
  have:=h2 t ht
  rw [eq,bu] at this
  exact p9 this.1
 exact ⟨p9 h3,Fa fun t ht=>(hb t ht).1,Lz fun t ht=>(hb t ht).2⟩
theorem Zp (z:Array Value) (hz:z=#[.int .i64 0,.int .i64 0,.string ⟨#[]⟩,.slice none 0 0]) (S:ae):KnownC S ((Array.range 104).map (z[· % z.size]!)) st0:=by
 subst hz
 refine ⟨by simp,fun i hi=>⟨fun _=>?_,fun t ht=>?_⟩⟩
 ·simp only [st0,List.length_replicate] at hi
  apply wD
  intro j
  rw [aX,r4]
  match j with
  | 0|1|2|3=>
   rw [ai (by omega),AD,ZU,Array.getElem?_map,Array.getElem?_range,ai (by omega)]
   simp only [sw,Tj,bw,bU]
   first
    | rw [show (i * 4+0) % 4=0 by omega]; rfl
    | rw [show (i * 4+1) % 4=1 by omega]; rfl
    | rw [show (i * 4+2) % 4=2 by omega]; rfl
    | rw [show (i * 4+3) % 4=3 by omega]; rfl
  | j+4=>
   rw [ah (by omega)]
   rfl
 ·have e:st0[i]=none:=by simp only [st0,List.getElem_replicate]
  rw [e] at ht
  cases ht
section
variable {P:Program} {w w0:World} {X:List Nat} {L:List Item} {S:ae} {K:Value->World->Prop}
attribute [local irreducible] Run CondV az aO
theorem LC (h:Inv w0 X L S w) {T ty e:TypeId} {k by_ n:Nat} {z:Value} (hT:mU P T=some (e,k,by_,z)) (hn:n<=4294967296) (hby:by_<=65536) (hn0:n * k≠0)
  (hk:∀ b w',Inv w0 X (L++[.blk b (.cells ((Array.range (n * k)).map (z.cells[· % z.cells.size]!)) e)]) S w'->K (.slice (some ⟨b,0,none⟩) n n) w') :
  Run P (sOp (.makeSlice T (.const (.int .i64 n)) (.const (.int .i64 n))) ty) w K:=by
 obtain ⟨hu,i,hi,hz,hs,hb,hzs⟩:=j0 hT
 have hw:IntKind.i64.wrap (n:Int)=n:=IntWalk.i64_in _ (by omega)
 have hle:by_ * n<=2 ^ 48:=gX (Ca hby hn) (by decide)
 have h1:¬ ((n:Int)<0):=by omega
 have h2:¬ (281474976710656<(i.bytes:Int) * (n:Int)):=by
  rw [hb]
  have:((by_ * n:Nat):Int)<=((2 ^ 48:Nat):Int):=by exact_mod_cast hle
  have e:(((2 ^ 48:Nat)):Int)=281474976710656:=by decide
  rw [e,Int.natCast_mul] at this
  omega
 refine Run.of (v:=.slice (some ⟨w.heap.size,0,none⟩) n n) (w':={ w with heap:=w.heap.push (.cells ((Array.range (n * k)).map (z.cells[· % z.cells.size]!)) e) }) ?_ (hk _ _ (h.alloc _))
 simp [sOp,execOp,ev0,evE,Instr.makeSlice,run_underlying hu,asInt,asIntOf,typeInfo,hi,hw,h1,h2,sizeOf,hs,newRow,newObj,Sem.run,hn0,zeroValue,hz]
end
section
attribute [local irreducible] Run CondV az aO
end
end
section
open Go Go.RowKit

section
variable {P:Program} {w w0:World} {X:List Nat} {L:List Item} {S:ae} {K:Value->World->Prop}
attribute [local irreducible] Run CondV az aO
theorem X9 {T e:TypeId} {k n c:Nat} {cx cy:Bool} {a:Option Addr} (hT:cG P T=some (e,k)) (hk:K (.bool a.isNone) w):Run P (cK .eql T cx cy (.slice a n c) (.slice none 0 0)) w K:=by
 obtain ⟨hu,_⟩:=iq hT
 refine Run.of (v:=.bool a.isNone) (w':=w) ?_ hk
 have he:(Op.equal T (.slice a n c) (.slice none 0 0)).run P w=.ok a.isNone w:=by
  rw [Op.equal,Op.maxDepth,Op.equalIn.eq_def]
  cases a <;> simp [run_underlying hu]
 have hg:∀ x y,(eqGuard .eql T x y (.slice a n c) (.slice none 0 0)).run P w=.ok () w:=fun x y=>by unfold eqGuard; simp
 simp only [cK,binOp,Sem.run_bind,hg,Result.andThen_ok,he,Sem.run_pure]
theorem Run.callVPure {f:FuncId} {fn:Func} {cap args:List Value} {r:Value} (hf:P.funcs[f]?=some fn) (hn:(fn.name == "runtime.NumGoroutine" || fn.body.isNone)=false) (h:Inv w0 X L S w) (hc:Pure P f (args++cap) S r)
  (hk:∀ w',Inv w0 X L S w'->K r w'):Run P (eM (fv f cap) args) w K:=by
 refine Run.callV (A:=L) (I:=[]) hf hn (by simpa using h) (Post:=fun v I' S'=>v=r/\I'=[]/\S'=S) ?_ fun v' I' S' w'=>?_
 ·intro w1 hI
  exact (hc w1 hI).mono fun e w' ⟨he,hI⟩=>⟨_,_,_,he,hI,Ext.refl _ _ _,rfl,rfl,rfl⟩
 ·rintro ⟨rfl,rfl,rfl⟩ _ hI
  exact hk _ (by simpa using hI)
end
section
attribute [local irreducible] Run CondV az aO
theorem B7 {xs:List T} {S:ae} {v:Value} (h:RdSl S 4 (RdT S) v xs) (hl:xs.length<=4000000000):Tri Tryz.prog H3 [v] [] S fun r I' S'=>S'=S/\∃ css,I'=[aJ r ab 4 css]/\Rows 4 (RdT S) css xs:=by
 intro w hI
 obtain ⟨a,cap,rfl,hlc,hcm,hx⟩:=id h
 refine rO.2 ?_
 dsimp only[rO,aM]
 refine X9 ag ?_
 cases a with
 | none=>
  refine aw (fun _=>?_) (fun hb=>by cases hb)
  rcases hx with rfl|⟨b,o,c,E,fz,hc,_⟩
  ·exact ⟨_,_,_,rfl,hI.rowNil ab 4,Ext.refl _ _ _,rfl,[],rfl,Rows.nil _ _⟩
  ·cases hc
 | some a=>
  refine aw (fun hb=>by cases hb) (fun _=>?_)
  refine fA hI bo fun v0 w' hI=>?_
  refine mD (css:=[]) hI 0 bo (by omega) rfl h (fun _ _=>RdT.length) (fun _ _=>RdT.one) (by simp; omega) (by omega) fun v1 w' css2 hR hI=>?_
  exact ⟨_,_,_,rfl,hI,Ext.refl _ _ _,rfl,css2,rfl,hR⟩
end
end
section
open Go Go.RowKit
section
variable {P:Program} {w:World} {K:Value->World->Prop}
attribute [local irreducible] Run
end
section
attribute [local irreducible] Run CondV az aO
theorem mG (n:Int) (S:ae):Pure Tryz.prog LH [.int .i64 n] S (.agg #[.int .i64 1,.int .i64 n,.string ⟨#[]⟩,.slice none 0 0]):=by
 intro w hI
 refine vK.2 ?_
 dsimp only[vK,aM]
 refine aT hI aZ fun b1 w' hI=>?_
 have hb:∀ {K:Value->World->Prop} {w':World},K (.agg #[.int .i64 1,.int .i64 n,.string ⟨#[]⟩,.slice none 0 0]) w'->Run Tryz.prog (cB ab [(0,.int .i64 1),(1,.int .i64 n)]) w' K:=by
  intro K w' hk
  refine Run.of (v:=.agg #[.int .i64 1,.int .i64 n,.string ⟨#[]⟩,.slice none 0 0]) (w':=w') ?_ hk
  unfold cB
  rw [Sem.run_bind,run_build w' ab _ #[.int .i64 1,.int .i64 n,.string ⟨#[]⟩,.slice none 0 0] (by kernel_rfl),Result.andThen_ok]
  rfl
 refine hb ?_
 refine aC hI 0 rfl ad rfl rfl (by simp [Value.oneCell']) fun w' hI=>?_
 refine bJ hI 0 ad rfl rfl ?_
 exact done hI rfl
theorem xB {vs:List Int} {S:ae} {g:Nat} {vv:Value} {E:TypeId} (n:Int) (hS:S g=some (.cells #[vv] E)) (hv:RdSl S 1 jz vv vs) :
  Pure Tryz.prog ij [.int .i64 n,.pointer (some ⟨g,0,none⟩)] S (.agg #[.int .i64 1,.int .i64 (Wi vs n),.string ⟨#[]⟩,.slice none 0 0]):=by
 intro w hI
 refine nW.2 ?_
 dsimp only[nW,aY]
 refine aT hI aZ fun b1 w' hI=>?_
 refine ct il (by rw [hI.cellS hS]; rfl) ?_
 refine Run.callPure sK tA hI (rX n hv) fun w' hI=>?_
 refine Run.callPure oM oR hI (mG _ S) fun w' hI=>?_
 refine aC hI 0 rfl ad rfl rfl (by simp [Value.oneCell']) fun w' hI=>?_
 refine bJ hI 0 ad rfl rfl ?_
 exact done hI rfl
theorem Iv (vs:List Int) (hvl:vs.length<=1000000000):∀ (t:T) (S:ae) (cs:List Value) (g:Nat) (vv:Value) (E:TypeId),RdT S cs t->S g=some (.cells #[vv] E)->RdSl S 1 jz vv vs->wT t<=1048576->
  Tri Tryz.prog uy [.agg cs.toArray,fv ij [.pointer (some ⟨g,0,none⟩)]] [] S (G5 S (pM vs t)):=by
 refine T.ind fun k n s ks ih0 S cs g vv E h hS hv hw=>?_
 have ih:∀ t∈ks,∀ (S:ae) (cs:List Value),RdT S cs t->S g=some (.cells #[vv] E)->RdSl S 1 jz vv vs->wT t<=1048576->
  Tri Tryz.prog uy [.agg cs.toArray,fv ij [.pointer (some ⟨g,0,none⟩)]] [] S (G5 S (pM vs t)):=fun t ht S cs h1 h2 h3 h4=>ih0 t ht S cs g vv E h1 h2 h3 h4
 clear ih0
 intro w hI
 obtain ⟨kv,rfl,h1,h2,hs,hks⟩:=RdT.iff.1 h
 simp only [T.name,T.kids,T.kind,T.n] at h1 h2 hs hks ⊢
 simp only [wT] at hw
 have hir:=XP vs n
 refine l0.2 ?_
 dsimp only[l0,aY]
 refine bq hI fun b2 w' hI=>?_
 refine aT hI aZ fun b4 w' hI=>?_
 refine af hI 0 rfl aR aG rfl ?_
 refine bl ?_
 rw [pM]
 refine aL (fun hk1=>?_) (fun hk1=>?_)
 ·rw [ai hk1]
  refine af hI 0 rfl bf aG rfl ?_
  refine Run.callVPure AK zH hI (xB n hS hv) fun w' hI=>?_
  refine aC hI 1 rfl ad rfl rfl (by simp [Value.oneCell']) fun w' hI=>?_
  refine bJ hI 1 ad rfl rfl ?_
  exact ⟨_,_,_,rfl,hI.pick [false,false],Ext.refl _ _ _,rfl,[_,_,_,_],[],rfl,rfl,TrT.iff.2 ⟨_,rfl,by simp [inI,T.kind],by simp only [inI,T.n]; omega,by rw [T.name]; decide +kernel,TrSl.nil (by simp [maxLen])⟩⟩
 rw [ah hk1]
 refine af hI 0 rfl ao aj rfl ?_
 refine du hI 0 rfl ao aj rfl rfl rfl fun w' hI=>?_
 refine aF hks ag ?_
 have hI:Inv w [] [.blk b4 (.cells #[.int .i64 0,.int .i64 0,.string ⟨#[]⟩,.slice none 0 0] ab),.blk b2 (.cells #[.int .i64 k,.int .i64 n,.string s,.slice none 0 0] ab)] S w':=hI.perm (List.Perm.swap _ _ _)
 have hI:=hI.rowNil ab 4
 refine ⟨fun i w'=>∃ (j:Nat) (kvc:Value) (Ls:List bm) (css:List (List Value)),j<=ks.length/\i=.int .i64 j/\Grown 4 TrT Ls css (iK vs (ks.take j))/\
   Inv w [] (.blk b4 (.cells #[.int .i64 0,.int .i64 0,.string ⟨#[]⟩,.slice none 0 0] ab)::.blk b2 (.cells #[.int .i64 k,.int .i64 n,.string s,kvc] ab)::aJ kvc ab 4 css::bv Ls.flatten) S w',
  fun i _=>ks.length - (intOf i).toNat,⟨0,_,[],[],be _,rfl,Grown.nil _ _,hI⟩,?_⟩
 intro t20 _ _ _ _ _ _ _ _ _ _ _ _ _ w'
 rintro ⟨j,kvc,Ls,css,hj,rfl,hg,hI⟩
 refine bH ?_
 refine aL (fun hji=>?_) (fun hji=>?_)
 ·have hj':j<ks.length:=by omega
  have hjl:(ks.take j).length=j:=by simp; omega
  have hcl:=hg.hc
  rw [l8] at hcl
  have hm:=bz hj'
  have hwm:=js hm
  refine cL hI hks ag ad hj' (fun _ _=>RdT.length) fun cs0 hcs0=>?_
  refine aT hI aZ fun b7 w' hI=>?_
  have hI:=hI.perm (M:=.blk b7 _::(.blk b4 (.cells #[.int .i64 0,.int .i64 0,.string ⟨#[]⟩,.slice none 0 0] ab)::.blk b2 (.cells #[.int .i64 k,.int .i64 n,.string s,kvc] ab)::aJ kvc ab 4 css::bv Ls.flatten)) (cu (l₁:=[_]))
  refine aC hI 0 rfl ad (by simpa using hcs0.length) rfl (by simpa using hcs0.one) fun w' hI=>?_
  refine ⟨fun D zY lj su jO uk mM gk lK w_=>Fx D 0 [lK=.pointer (some ⟨b2,3,none⟩),gk=kvc,mM=.agg cs0.toArray,uk=fv ij [.pointer (some ⟨g,0,none⟩)],True,True,True,zY=.pointer (some ⟨b2,3,none⟩),True]/\∃ M cs7 b8,(D 4=true->jO=.agg cs7.toArray/\TrT M cs7 (pM vs ks[j]))/\(D 5=true->su=.slice (some ⟨b8,0,none⟩) 1 1)/\(D 5=true->D 4=true)/\(D 6=true->D 5=true)/\(D 8=true->D 6=true)/\(D 8=true->D 1=true)/\Inv w [] (bi (.blk b7 (.cells cs0.toArray ab)) (.blk b4 (.cells #[.int .i64 0,.int .i64 0,.string ⟨#[]⟩,.slice none 0 0] ab)) (.blk b2 (.cells #[.int .i64 k,.int .i64 n,.string s,kvc] ab)) (.blk b2 (.cells #[.int .i64 k,.int .i64 n,.string s,lj] ab)) (aJ kvc ab 4 css) (aJ lj ab 4 (css++[cs7])) (bv Ls.flatten) M (.blk b8 (.cells cs7.toArray ab)) (D 4) (D 5) (D 6) (D 8)) S w_,⟨Fx.nil _ _,⟨[],[],0,aQ,aQ,aQ,aQ,aQ,aQ,by simpa [bi,bv] using hI.draw⟩⟩,⟨?_,?_,?_,?_,?_,?_,?_,?_,?_,trivial⟩,?_⟩
  all_goals (intro D bF; intros; rename_i zY lj su jO uk mM gk lK w_ hA_; have hF_:=hA_.1; obtain ⟨⟨cj,ci,bR,ce,bP,bY,bZ,cH,c5,_⟩,⟨M,cs7,b8,e7,e8,k8,k9,k11,k1,hI⟩⟩:=hA_)
  ·refine au ao ?_
   exact ⟨hF_.set 0 rfl,⟨M,cs7,b8,e7,e8,k8,k9,k11,k1,hI⟩⟩
  ·obtain rfl:=cj ‹_›
   have f11:D 8=false:=bB.2 fun h=>by rw [k1 h] at bF; cases bF
   refine aN (b:=b2) hI 2 (c:=(#[.int .i64 k,.int .i64 n,.string s,kvc])) aj (by rw [f11]; rfl) rfl ?_
   have k1:=fun (_:aD D 1 8=true)=>(rfl:aD D 1 1=true)
   exact ⟨hF_.set 1 rfl,⟨M,cs7,b8,e7,e8,k8,k9,k11,k1,hI⟩⟩
  ·refine av hI 0 ad rfl (by simpa using hcs0.length) ?_
   exact ⟨hF_.set 2 rfl,⟨M,cs7,b8,e7,e8,k8,k9,k11,k1,hI⟩⟩
  ·exact ⟨hF_.set 3 rfl,⟨M,cs7,b8,e7,e8,k8,k9,k11,k1,hI⟩⟩
  ·obtain rfl:=bR ‹_›
   obtain rfl:=ce ‹_›
   have f8:D 5=false:=bB.2 fun h=>by rw [k8 h] at bF; cases bF
   have f9:D 6=false:=bB.2 fun h=>by rw [k9 h] at f8; cases f8
   have f11:D 8=false:=bB.2 fun h=>by rw [k11 h] at f9; cases f9
   rw [bF,f8,f9,f11] at hI
   refine Run.call0 im ie hI (ih _ (bz hj') S cs0 hcs0 hS hv (by omega)) fun v' I' S w_=>?_
   rintro ⟨rfl,cs7,M,rfl,rfl,hT⟩ _ hI
   have e7:aD D 4 4=true->Value.agg cs7.toArray=Value.agg cs7.toArray/\TrT M cs7 (pM vs ks[j]):=fun _=>⟨rfl,hT⟩
   have k8:=fun (_:aD D 4 5=true)=>(rfl:aD D 4 4=true)
   have hI:Inv w [] (bi (.blk b7 (.cells cs0.toArray ab)) (.blk b4 (.cells #[.int .i64 0,.int .i64 0,.string ⟨#[]⟩,.slice none 0 0] ab)) (.blk b2 (.cells #[.int .i64 k,.int .i64 n,.string s,kvc] ab)) (.blk b2 (.cells #[.int .i64 k,.int .i64 n,.string s,lj] ab)) (aJ kvc ab 4 css) (aJ lj ab 4 (css++[cs7])) (bv Ls.flatten) M (.blk b8 (.cells cs7.toArray ab)) true (D 5) (D 6) (D 8)) S w_:=by
    rw [f8,f9,f11]
    simpa [bi] using hI
   exact ⟨hF_.set 4 (by first|assumption|trivial),⟨M,cs7,b8,e7,e8,k8,k9,k11,k1,hI⟩⟩
  ·have QG:=bP ‹_›
   have f9:D 6=false:=bB.2 fun h=>by rw [k9 h] at bF; cases bF
   have f11:D 8=false:=bB.2 fun h=>by rw [k11 h] at f9; cases f9
   obtain ⟨q7,hT⟩:=e7 ‹D 4=true›
   subst q7
   rw [‹D 4=true›,bF,f9,f11] at hI
   refine er hI bo (by simp [Value.cells,hT.length]) (by omega) (by omega) fun b8 w_ hI=>?_
   have e7:aD D 5 4=true->Value.agg cs7.toArray=Value.agg cs7.toArray/\TrT M cs7 (pM vs ks[j]):=fun _=>⟨rfl,hT⟩
   have e8:=fun (_:aD D 5 5=true)=>(rfl:Value.slice (some ⟨b8,0,none⟩) 1 1=_)
   have k8:=fun (_:aD D 5 5=true)=>‹D 4=true›
   have k9:=fun (_:aD D 5 6=true)=>(rfl:aD D 5 5=true)
   have hI:Inv w [] (bi (.blk b7 (.cells cs0.toArray ab)) (.blk b4 (.cells #[.int .i64 0,.int .i64 0,.string ⟨#[]⟩,.slice none 0 0] ab)) (.blk b2 (.cells #[.int .i64 k,.int .i64 n,.string s,kvc] ab)) (.blk b2 (.cells #[.int .i64 k,.int .i64 n,.string s,lj] ab)) (aJ kvc ab 4 css) (aJ lj ab 4 (css++[cs7])) (bv Ls.flatten) M (.blk b8 (.cells cs7.toArray ab)) (D 4) true (D 6) (D 8)) S w_:=by
    rw [‹D 4=true›,f9,f11]
    simpa [bi,Value.cells] using hI
   exact ⟨hF_.set 5 (by first|assumption|trivial),⟨M,cs7,b8,e7,e8,k8,k9,k11,k1,hI⟩⟩
  ·obtain rfl:=ci ‹_›
   have Ro:=bY ‹_›
   have f11:D 8=false:=bB.2 fun h=>by rw [k11 h] at bF; cases bF
   have q8:=e8 ‹D 5=true›
   subst q8
   obtain ⟨_,hT⟩:=e7 ‹D 4=true›
   rw [‹D 4=true›,‹D 5=true›,bF,f11] at hI
   have hblk:((bi (.blk b7 (.cells cs0.toArray ab)) (.blk b4 (.cells #[.int .i64 0,.int .i64 0,.string ⟨#[]⟩,.slice none 0 0] ab)) (.blk b2 (.cells #[.int .i64 k,.int .i64 n,.string s,gk] ab)) (.blk b2 (.cells #[.int .i64 k,.int .i64 n,.string s,lj] ab)) (aJ gk ab 4 css) (aJ lj ab 4 (css++[cs7])) (bv Ls.flatten) M (.blk b8 (.cells cs7.toArray ab)) true true false false))[4+(bv Ls.flatten).length+(bv M).length]?=some (.blk b8 (.cells cs7.toArray ab)):=by
    have e4:4+(bv Ls.flatten).length+(bv M).length=((bv Ls.flatten).length+(bv M).length)+1+1+1+1:=by omega
    rw [e4]
    simp only [bi,mB]
    rw [iu (by omega),oV,iu (aW _),eB]; rfl
   refine dZ hI 3 cs7 bo (by omega) rfl (by rw [hT.length]) (m:=1) (o:=0) ?_ hT.one (by omega) (by omega) fun v' w_ hI=>?_
   ·intro i u hi
    rw [hI.cellL hblk,cq]
    simpa using hi
   rw [eF] at hI
   have k9:=fun (_:aD D 6 6=true)=>‹D 5=true›
   have k11:=fun (_:aD D 6 8=true)=>(rfl:aD D 6 6=true)
   have hI:Inv w [] (bi (.blk b7 (.cells cs0.toArray ab)) (.blk b4 (.cells #[.int .i64 0,.int .i64 0,.string ⟨#[]⟩,.slice none 0 0] ab)) (.blk b2 (.cells #[.int .i64 k,.int .i64 n,.string s,gk] ab)) (.blk b2 (.cells #[.int .i64 k,.int .i64 n,.string s,v'] ab)) (aJ gk ab 4 css) (aJ v' ab 4 (css++[cs7])) (bv Ls.flatten) M (.blk b8 (.cells cs7.toArray ab)) (D 4) (D 5) true (D 8)) S w_:=by
    rw [‹D 4=true›,‹D 5=true›,f11]
    exact hI
   exact ⟨hF_.set 6 (by first|assumption|trivial),⟨M,cs7,b8,e7,e8,k8,k9,k11,k1,hI⟩⟩
  ·refine au ao ?_
   exact ⟨hF_.set 7 rfl,⟨M,cs7,b8,e7,e8,k8,k9,k11,k1,hI⟩⟩
  ·obtain rfl:=cH ‹_›
   have NF:=bZ ‹_›
   rw [‹D 4=true›,‹D 5=true›,‹D 6=true›,bF] at hI
   obtain ⟨va,vn,vc,hv9⟩:=Inv.rowSlice hI 3 rfl
   refine cW hI 2 (n:=1) (by rw [hv9]; rfl) (by decide +kernel) rfl (by simp) (by rw [hv9]; simp [Value.cells,Value.oneCell']) fun w_ hI=>?_
   have hcl9:Value.cells lj=#[lj]:=by rw [hv9]; rfl
   rw [hcl9] at hI
   have k1:=fun (_:aD D 8 8=true)=>‹D 1=true›
   have k11:=fun (_:aD D 8 8=true)=>‹D 6=true›
   have hI:Inv w [] (bi (.blk b7 (.cells cs0.toArray ab)) (.blk b4 (.cells #[.int .i64 0,.int .i64 0,.string ⟨#[]⟩,.slice none 0 0] ab)) (.blk b2 (.cells #[.int .i64 k,.int .i64 n,.string s,kvc] ab)) (.blk b2 (.cells #[.int .i64 k,.int .i64 n,.string s,lj] ab)) (aJ kvc ab 4 css) (aJ lj ab 4 (css++[cs7])) (bv Ls.flatten) M (.blk b8 (.cells cs7.toArray ab)) (D 4) (D 5) (D 6) true) S w_:=by
    rw [‹D 4=true›,‹D 5=true›,‹D 6=true›]
    exact hI
   exact ⟨hF_.set 8 trivial,⟨M,cs7,b8,e7,e8,k8,k9,k11,k1,hI⟩⟩
  obtain ⟨rfl,rfl,rfl,rfl,QG,Ro,NF,rfl,_,_⟩:=hF_.all
  have Zx:D 4=true:=by assumption
  have YN:D 5=true:=by assumption
  have PC:D 6=true:=by assumption
  have MV:D 8=true:=by assumption
  clear hF_ cj ci bR ce bP bY bZ cH c5
  obtain ⟨_,hT⟩:=e7 Zx
  rw [Zx,YN,PC,MV] at hI
  refine bp (by omega) ?_
  refine ⟨⟨j+1,lj,Ls++[M],css++[cs7],hj',rfl,?_,?_⟩,by simp [intOf]; omega⟩
  ·rw [FF vs ks j hj']
   exact hg.snoc hT hT.length
  ·simp only [vD,iT,ur,dh,eC]
   refine hI.sub ?_
   simp only [bi]
   rw [<- eK]
   exact ((((dB _ _).cons_cons _).cons_cons _).cons_cons _).cons _
 ·have:j=ks.length:=by omega
  subst this
  rw [fJ] at hg
  obtain ⟨va,vn,vc,hvk⟩:=hI.rowSlice 2 rfl
  have hv1:kvc.oneCell'=true:=by rw [hvk]; rfl
  refine av hI 1 ad rfl rfl ?_
  refine aC hI 0 rfl ad rfl rfl ?_ fun w' hI=>?_
  ·intro u hu
   have hu':u∈([.int .i64 k,.int .i64 n,.string s,kvc]:List Value):=hu
   simp at hu'
   rcases hu' with rfl|rfl|rfl|rfl <;> first|rfl|exact hv1
  refine bJ hI 0 ad rfl rfl ?_
  have hI:Inv w [] ([]++(aJ kvc ab 4 css::bv Ls.flatten)) S w':=hI.sub (ei [_,_] _)
  obtain ⟨L,hT,hI⟩:=Inv.rowTree hI hg
  exact ⟨_,_,_,rfl,hI,Ext.refl _ _ _,rfl,_,L,rfl,rfl,TrT.iff.2 ⟨kvc,rfl,h1,h2,hs,hT⟩⟩
theorem pi {ts:List T} {S:ae} {v:Value} (h:RdSl S 4 (RdT S) v ts) (hw:ts.length+wL ts<=1048577):Tri Tryz.prog FY [v] [] S (TH 4 TrT S (iK (cN ts []) ts)):=by
 intro w hI
 have hlen:=h.le
 simp only [maxLen] at hlen
 have hcl:=BZ ts
 have hvl:=zj ts []
 simp only [bU] at hvl
 refine rE.2 ?_
 dsimp only[rE,aM]
 refine Run.call0 n8 oE hI (lO h (by omega)) fun v1 I' S w'=>?_
 rintro ⟨rfl,rfl⟩ _ hI
 have hl':(cN ts []).length<=1000000000:=by omega
 generalize cN ts []=vs at hI hl' ⊢
 refine aT hI TB fun b3 w' hI=>?_
 have hv1:v1.cells=#[v1]/\v1.oneCell'=true:=by
  have:=hI.its (dz v1 vs) (by simp)
  rcases this.2 with ⟨rfl,_⟩|⟨g,cap,cur,rfl,_⟩ <;> exact ⟨rfl,rfl⟩
 refine cW hI 1 (n:=1) (by rw [hv1.1]; rfl) (by rw [il]; rfl) rfl (jw rfl) (by rw [hv1.1]; simpa using hv1.2) fun w' hI=>?_
 have hst:bn (Value.slice none 0 0).cells 0 v1.cells.toList=#[v1]:=by
  rw [hv1.1]; rfl
 have hI:Inv w [] [dz v1 vs,.blk b3 (.cells #[v1] kw)] S w':=by
  have:=hI
  simp only [iR,rg] at this
  rw [hst] at this
  exact this
 have hI:=hI.perm (M:=[.blk b3 (.cells #[v1] kw)]++[dz v1 vs]) (List.Perm.swap _ _ _)
 obtain ⟨S1,hle1,hrd1,hI,_⟩:=Inv.lend (A:=[_]) hI
 obtain ⟨hI,hle2⟩:=Inv.publishLast (L:=[]) hI
 have hb:mS S1 b3 (.cells #[v1] kw) b3=some (.cells #[v1] kw):=by simp [mS]
 generalize mS S1 b3 (.cells #[v1] kw)=S2 at hI hle2 hb
 have hr1:=hrd1.ints.mono hle2 fun _ _ h=>h
 have hle:=hle1.trans hle2
 have h:=h.mono hle fun _ _ h=>h.mono hle
 refine aF h ag ?_
 refine ⟨fun i t w'=>∃ (k:Nat) (Ls:List bm) (css:List (List Value)),k<=ts.length/\i=.int .i64 k/\Grown 4 TrT Ls css (iK vs (ts.take k))/\Inv w [] (aJ t ab 4 css::bv Ls.flatten) S2 w',
  fun i _ _=>ts.length - (intOf i).toNat,⟨0,[],[],be _,rfl,Grown.nil _ _,hI.rowNil ab 4⟩,?_⟩
 intro t11 _ t4 _ _ _ _ _ _ _ _ _ _ w'
 rintro ⟨k,Ls,css,hk,rfl,hg,hI⟩
 refine bH ?_
 refine aL (fun hki=>?_) (fun hki=>?_)
 ·have hk':k<ts.length:=by omega
  have htl:(ts.take k).length=k:=by simp; omega
  have hcl:=hg.hc
  rw [l8] at hcl
  have hm:=bz hk'
  have hwm:=js hm
  refine cL hI h ag ad hk' (fun _ _=>RdT.length) fun cs hcs=>?_
  have hlc:=hcs.length
  refine aT hI aZ fun b6 w' hI=>?_
  have hI:=hI.perm (M:=.blk b6 _::(aJ t4 ab 4 css::bv Ls.flatten)) (cu (l₁:=[_]))
  refine aC hI 0 rfl ad (by simpa using hlc) rfl (by simpa using hcs.one) fun w' hI=>?_
  refine av hI 0 ad rfl (by simpa using hlc) ?_
  have hI:Inv w [] (aJ t4 ab 4 css::bv Ls.flatten) S2 w':=hI.sub (iz _ _)
  refine ia ?_
  refine Run.call0 im ie hI (Iv vs hl' _ S2 cs b3 v1 kw hcs hb hr1 (by omega)) fun v' I' S' w'=>?_
  rintro ⟨rfl,cs',L,rfl,rfl,hT⟩ _ hI
  refine d6 hI 0 cs' bo (by omega) (by omega) rfl hT.length hT.one (by omega) (by omega) fun v' w' hI=>?_
  refine bp (by omega) ?_
  refine ⟨⟨k+1,Ls++[L],css++[cs'],hk',rfl,?_,?_⟩,by simp [intOf]; omega⟩
  ·rw [FF vs ts k hk']
   exact hg.snoc hT hT.length
  ·simp only [vD,iT,ur,dh,eC]
   exact hI
 ·have:k=ts.length:=by omega
  subst this
  rw [fJ] at hg
  obtain ⟨L,hT,hI⟩:=Inv.rowTree (A:=[]) hI hg
  exact ⟨_,_,_,rfl,hI.less hle,Ext.refl _ _ _,rfl,_,rfl,hT⟩
end
end
section
open Go Go.RowKit
mutual
theorem TZ (vs:List Int):∀ t:T,wT (Uj vs t)=wT t
 | .mk k n s ks=>by rw [Uj,wT,wT,BK,MQ vs ks]
theorem MQ (vs:List Int):∀ ts:List T,wL (GE vs ts)=wL ts
 | []=>rfl
 | t::ts=>by rw [GE,wL,wL,TZ vs t,MQ vs ts]
end
theorem ZW (vs:List Int) (c:C):wC (Y8 vs c)=wC c:=by
 simp only [wC,Y8,TZ,MQ,BK]
section
attribute [local irreducible] Run CondV az aO
theorem TrC.zero:TrC [] [.int .i64 0,.int .i64 0,.string ⟨#[]⟩,.slice none 0 0,.slice none 0 0] ⟨⟨0,0,⟨#[]⟩,[]⟩,[]⟩:=
 ⟨[.int .i64 0,.int .i64 0,.string ⟨#[]⟩,.slice none 0 0],.slice none 0 0,[],[],rfl,rfl,TrT.iff.2 ⟨_,rfl,by simp [inI,T.kind],by simp [inI,T.n],by rw [T.name]; decide +kernel,TrSl.nil (by simp [maxLen])⟩,TrSl.nil (by simp [maxLen])⟩
end
end
section
open Go Go.RowKit
def aah:Option (Option C)->Bool
 | some (some r)=>bK r
 | _=>false
def TU:C:=⟨⟨0,0,⟨#[]⟩,[]⟩,[]⟩
def clO:Option (Option C)->C
 | some (some r)=>r
 | _=>TU
section
variable {P:Program} {w:World} {K:Value->World->Prop}
attribute [local irreducible] Run
theorem H2 {T:TypeId} {cx cy:Bool} {a b:Int} (hr:-9223372036854775808<=a * b/\a * b<=9223372036854775807) (hk:K (.int .i64 (a * b)) w):Run P (cK .mul T cx cy (.int .i64 a) (.int .i64 b)) w K:=by
 refine Run.of ?_ hk
 simp [cK,db,binOp,Op.intArith,IntWalk.i64_in _ hr]
end
section
attribute [local irreducible] Run CondV az aO
end
end
section
open Go Go.RowKit

abbrev Bs:=List UInt8
abbrev bs (s:ByteArray):Bs:=s.data.toList
abbrev st (l:Bs):ByteArray:=⟨l.toArray⟩
theorem La (l:Bs):bs (st l)=l:=by simp [bs]
theorem qs (l:Bs):(st l).size=l.length:=by simp [ByteArray.size]

def sgn (s:Bs) (i:Nat) (c:Nat):Bool:=match s[i]? with
 | some b=>decide (b.toNat=c)
 | none=>false
def btw (s:Bs) (i:Nat) (a b:Nat):Bool:=match s[i]? with
 | some x=>decide (a<=x.toNat) && decide (x.toNat<=b)
 | none=>false
def sml (s:Bs) (i:Nat):Bool:=btw s i 97 122
def dig (s:Bs) (i:Nat):Bool:=btw s i 48 57
def upp (s:Bs) (i:Nat):Bool:=btw s i 65 90
def cut (s:Bs) (a b:Nat):Bs:=(s.take b).drop a

def Ep (s:Bs):Nat->Nat->Nat
 | 0,e=>e
 | n+1,e=>if sml s e=true then Ep s n (e+1) else e
def jU (s:Bs) (i:Nat):List ByteArray->Bs->Bs
 | [],b=>b
 | x::l,b=>jU s i l (if decide (i+x.size<=s.length)=true/\cut s i (i+x.size)=bs x/\b.length<x.size then bs x else b)
def At (s:Bs) (i:Nat):Option (Bs × Nat):=
 let e:=Ep s (s.length - i) i
 if i+6<e then none else if i<e then some (cut s i e,e) else
  let b:=jU s i signs []
  if b=[] then none else some (b,i+b.length)
def vf (s:Bs):Nat->Nat->Nat
 | 0,e=>e
 | n+1,e=>if dig s e=true then vf s n (e+1) else e
def IH:Bs->Nat->Nat
 | [],n=>n
 | b::l,n=>IH l (n * 10+(b.toNat - 48))
def W8 (s:Bs) (i:Nat):Option (T × Nat):=
 let from_:=if sgn s i 45=true then i+1 else i
 let e:=vf s 4 from_
 let d:=cut s from_ e
 let n:=IH d 0
 if d=[] ∨ (sgn d 0 48=true/\1<d.length) ∨ (i<from_/\n=0) ∨ 999<n then none
 else some (.mk 2 (if i<from_ then -(n:Int) else n) emptyB [],e)
def Pt (name:Bs) (kids:List T):T:=.mk 3 0 (st name) kids
def ZN:T:=Pt [91,93] []
def NK (a b:T):T:=Pt [46] [a,b]
def kr:List T->T->T
 | [],t=>t
 | a::l,t=>NK a (kr l t)
def opF (s:Bs) (i:Nat):Option (Bs × Nat):=
 let from_:=if sgn s i 32=true then i+1 else i
 if s.length<=from_ then none else match At s from_ with
  | none=>none
  | some (name,next)=>
   let word:=decide (name=[105,115]) || decide (name=[109,111,100])
   if cJ (st name)=0 ∨ word≠decide (i<from_) ∨ (word=true/\sgn s next 32=false) then none
   else some (name,if word=true then next+1 else next)
mutual
def kZ:Nat->Bs->Nat->Nat->Nat->Option (T × Nat)
 | 0,_,_,_,_=>none
 | f+1,s,i,d,0=>xH f s i d
 | f+1,s,i,d,l+1=>match kZ f s i d l with
  | none=>none
  | some (t,n)=>Qd f s n d l t
def Qd:Nat->Bs->Nat->Nat->Nat->T->Option (T × Nat)
 | 0,_,_,_,_,_=>none
 | f+1,s,i,d,l,t=>match opF s i with
  | none=>some (t,i)
  | some (name,after)=>if cJ (st name)=((l+1:Nat):Int) then match kZ f s after d l with
    | none=>none
    | some (r,e)=>if l=2 then some (Pt name [t,r],e) else Qd f s e d l (Pt name [t,r])
   else some (t,i)
def xH:Nat->Bs->Nat->Nat->Option (T × Nat)
 | 0,_,_,_=>none
 | f+1,s,i,d=>if d=0 ∨ s.length<=i then none else if sgn s i 40=true then match kZ f s (i+1) d 3 with
    | none=>none
    | some (t,n)=>if sgn s n 41=true then some (t,n+1) else none
  else if sgn s i 91=true/\sgn s (i+1) 93=false then match jp f s (i+1) (d - 1) 93 124 [] with
    | none=>none
    | some (ts,n)=>if sgn s n 93=true then some (kr ts ZN,n+1) else match kZ f s (n+1) (d - 1) 3 with
     | none=>none
     | some (t,e)=>if sgn s e 93=true then some (kr ts t,e+1) else none
  else if upp s i=true then some (.mk 1 ((s.getD i 0).toNat - 65) emptyB [],i+1)
  else if dig s i=true ∨ (sgn s i 45=true/\dig s (i+1)=true) then W8 s i
  else match At s i with
   | none=>none
   | some (name,n)=>if sgn s n 40=false then some (Pt name [],n) else match jp f s (n+1) (d - 1) 41 41 [] with
    | none=>none
    | some (ts,e)=>some (Pt name ts,e+1)
def jp:Nat->Bs->Nat->Nat->Nat->Nat->List T->Option (List T × Nat)
 | 0,_,_,_,_,_,_=>none
 | f+1,s,i,d,e,o,acc=>match kZ f s i d 3 with
  | none=>none
  | some (t,n)=>if sgn s n e=true ∨ sgn s n o=true then some (acc++[t],n) else if sgn s n 44=true then jp f s (n+1) d e o (acc++[t]) else none
end

def ri (t:T):Bool:=decide (t.kind=3) && (decide (t.kids.length=2) && decide (0<cJ t.name))
def He (t:T):Bool:=decide (t.kind=3) && (decide (t.name=st [46]) && decide (t.kids.length=2))
def W9 (t:T):Bool:=decide (t.kind=3) && (decide (t.name=st [91,93]) && decide (t.kids.length=0))
def De (t:T):Bool:=decide (t.kind=3) && (decide (t.kids.length=0) && decide (0<cJ t.name))
def MB (s:Bs):Bool:=sml s 0 || (dig s 0 || (upp s 0 || (sgn s 0 91 || sgn s 0 40)))
def ju (n:Bs):Bs:=if n=[105,115] ∨ n=[109,111,100] then 32::(n++[32]) else n
def JL:Nat->Nat->Bs->Option Bs
 | 0,_,_=>none
 | f+1,n,out=>if 9<n then JL f (n / 10) (UInt8.ofNat (48+n % 10)::out) else some (UInt8.ofNat (48+n)::out)
def Z3 (n:Int):Option Bs:=if n<0 then (JL 20 (-n).toNat []).map fun l=>45::l else JL 20 n.toNat []
def V2 (t:T):Option Bs:=if t.kind=1 then (if 0<=t.n/\t.n<=25 then some [UInt8.ofNat (65+t.n.toNat)] else none)
 else if t.kind=2 then (if -999<=t.n/\t.n<=999 then Z3 t.n else none) else if t.kids.length=0 then some (bs t.name) else none
mutual
def ML:Nat->T->Option Bs
 | 0,_=>none
 | f+1,t=>if He t=true then J0 f t [] else if ri t=true then match t.kids with
   | [a,b]=>match UD f a (if cJ t.name=3 then 2 else cJ t.name),Mh f b (cJ t.name - 1) with
    | some x,some y=>some (x++ju (bs t.name)++y)
    | _,_=>none
   | _=>none
  else if t.kind=3/\0<t.kids.length then match rx f t.kids [] with
   | some x=>some (bs t.name++[40]++x++[41])
   | none=>none
  else V2 t
def J0:Nat->T->List T->Option Bs
 | 0,_,_=>none
 | f+1,t,items=>if He t=true then match t.kids with
   | [a,b]=>J0 f b (items++[a])
   | _=>none
  else match rx f items [] with
   | none=>none
   | some x=>if W9 t=true then some ([91]++x++[93]) else match ML f t with
    | none=>none
    | some y=>some ([91]++x++[124]++y++[93])
def rx:Nat->List T->Bs->Option Bs
 | 0,_,_=>none
 | _+1,[],out=>some out
 | f+1,t::l,out=>match ML f t with
  | none=>none
  | some x=>rx f l (out++x++(if l=[] then [] else [44]))
def s9:Nat->T->Int->Option Bs
 | 0,_,_=>none
 | f+1,t,l=>match ML f t with
  | none=>none
  | some x=>some (if ri t=true/\l<cJ t.name then [40]++x++[41] else x)
def UD:Nat->T->Int->Option Bs
 | 0,_,_=>none
 | f+1,t,l=>if De t=true then match ML f t with
   | none=>none
   | some x=>some ([40]++x++[41])
  else s9 f t l
def Mh:Nat->T->Int->Option Bs
 | 0,_,_=>none
 | f+1,t,l=>match s9 f t l with
  | none=>none
  | some x=>if x=[] then none else some (if De t=true ∨ MB x=false then [40]++x++[41] else x)
end
def DB (f:Nat):List T->Bool->Bs->Option Bs
 | [],_,out=>some out
 | t::l,first,out=>match ML f t with
  | none=>none
  | some x=>DB f l false (out++(if first=true then [58,45] else [44])++x)
def UA (f:Nat) (c:C):Option Bs:=match ML f c.head with
 | none=>none
 | some x=>match DB f c.body true x with
  | none=>none
  | some y=>some (y++[46])

def xX (f:Nat):Nat->Bs->Nat->List T->Option (List T × Nat)
 | 0,_,_,_=>none
 | k+1,s,i,acc=>if 6<acc.length then none else match kZ f s i 30 3 with
  | none=>none
  | some (t,n)=>if sgn s n 44=true then xX f k s (n+1) (acc++[t]) else some (acc++[t],n)
def U2 (f:Nat) (s:Bs) (c:C) (n:Nat):Option C:=
 if n+1=s.length/\sgn s n 46=true/\bK c=true/\wC c<=200/\UA f c=some s then some c else none
def Am (f:Nat) (s:Bs):Option C:=if 1000<s.length then none else match kZ f s 0 30 3 with
 | none=>none
 | some (h,n)=>if sgn s n 58=true/\sgn s (n+1) 45=true then match xX f 8 s (n+2) [] with
   | none=>none
   | some (b,n2)=>U2 f s ⟨h,b⟩ n2
  else U2 f s ⟨h,[]⟩ n
def Jf (s:Bs) (c:Nat):Nat->Nat->Nat->List Bs->List Bs
 | 0,i,from_,acc=>acc++[cut s from_ i]
 | n+1,i,from_,acc=>if sgn s i c=true then Jf s c n (i+1) (i+1) (acc++[cut s from_ i]) else Jf s c n (i+1) from_ acc
def Ws (s:Bs):List Bs:=Jf s 10 s.length 0 0 []
def mR (f:Nat):List Bs->List C->Option (List C)
 | [],acc=>some acc
 | l::ls,acc=>match Am f l with
  | none=>none
  | some c=>mR f ls (acc++[c])
def TA (f:Nat) (s:Bs):Option (List C):=
 let ls:=Ws s
 if 21<ls.length ∨ ls.getLast?≠some [] then none else mR f ls.dropLast []
def VS (s:Bs):Bool:=match TA 60 s with
 | some p=>decide (0<p.length) && (decide (p.length<=8) && p.all fun c=>bK c && decide (wC c<=200))
 | none=>false
end
end Go.Proofs.YtgllldjiaglkcaaGreatDoor

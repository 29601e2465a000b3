/- spec.ModelClosed. -/
import Derived.Test.YtgllldjiaglkcaaGreatDoorZMp22
import Derived.Test.YtgllldjiaglkcaaGreatDoorZMp15
import Derived.Test.YtgllldjiaglkcaaGreatDoorZMp21
import Derived.Test.YtgllldjiaglkcaaGreatDoorZMp10
namespace Go.Proofs.YtgllldjiaglkcaaGreatDoor
section
open Go Go.RowKit
theorem Kv {t:T} {d:Int} (h:dV t d=true):ed t=true/\dJ t.kids (d - 1)=true:=by
 cases t
 rw [dV] at h
 split at h
 ·cases h
 ·rw [bu] at h
  exact h
theorem HR:∀ {ts:List T} {d:Int},dJ ts d=true->∀ t∈ts,dV t d=true
 | [],_,_,t,ht=>by cases ht
 | x::ts,d,h,t,ht=>by
  rw [dJ,bu] at h
  rcases bN.1 ht with rfl|ht
  ·exact h.1
  ·exact HR h.2 t ht
theorem TO {t:T} (hv:dt t=true) (hf:eE t=true):Gl t:=by
 rw [eE,bu,dE] at hf
 obtain ⟨hk,hp⟩:=hf
 rw [cD,bu,bk] at hp
 obtain ⟨h1,h2⟩:=Kv (jk hv)
 refine ⟨hp.1,h1,fun y hy=>⟨(Kv (HR h2 y hy)).1,?_⟩⟩
 have:=hk y hy
 rw [kj,bk] at this
 exact gO this
theorem W1 {l:List Int} {n m:Int} (h:m∈ly l n):m∈l ∨ m=n:=by
 unfold ly at h
 split at h
 ·exact .inl h
 ·simpa using h
theorem Kx (t:T) (l:List Int):fO t l=cN t.kids (if t.kind=1 then ly l t.n else l):=by cases t; rw [fO]; rfl
theorem HB:∀ (ks:List T) (l:List Int),(∀ y∈ks,y.kids=[])->∀ n,n∈cN ks l↔n∈l ∨ ∃ z∈ks,z.kind=1/\z.n=n
 | [],l,_,n=>by simp [cN]
 | k::ks,l,hk,n=>by
  rw [cN,HB ks _ (fun y hy=>hk y (aV _ hy)),Kx,hk k (aS ..),cN]
  have hsrc:(n∈if k.kind=1 then ly l k.n else l)↔n∈l ∨ (k.kind=1/\k.n=n):=by
   split
   ·rename_i h
    constructor
    ·intro hm
     rcases W1 hm with h1|h1
     ·exact .inl h1
     ·exact .inr ⟨h,h1.symm⟩
    ·rintro (h1|⟨_,rfl⟩)
     ·exact (show ∀ m∈l,m∈ly l k.n from fun m hm=>by unfold ly; split; exact hm; simp [hm]) n h1
     ·unfold ly
      split
      ·rename_i h2
       simpa [jL] using h2
      ·simp
   ·rename_i h
    exact ⟨.inl,fun h1=>h1.elim id fun h2=>absurd h2.1 h⟩
  rw [hsrc]
  constructor
  ·rintro ((h|⟨h1,h2⟩)|⟨z,hz,h⟩)
   ·exact .inl h
   ·exact .inr ⟨k,aS ..,h1,h2⟩
   ·exact .inr ⟨z,aV _ hz,h⟩
  ·rintro (h|⟨z,hz,h⟩)
   ·exact .inl (.inl h)
   ·rcases bN.1 hz with rfl|hz
    ·exact .inl (.inr h)
    ·exact .inr ⟨z,hz,h⟩
theorem G8 {g:T} (h:Gl g) (l:List Int) (n:Int):n∈fO g l↔n∈l ∨ ∃ z∈g.kids,z.kind=1/\z.n=n:=by
 rw [Kx,ah (by have:=h.1; omega)]
 exact HB g.kids l (fun y hy=>(h.2.2 y hy).2) n
theorem OI:∀ (gs:List T) (l:List Int),(∀ g∈gs,Gl g)->∀ n,n∈cN gs l->n∈l ∨ ∃ g∈gs,∃ z∈g.kids,z.kind=1/\z.n=n
 | [],l,_,n,h=>.inl h
 | g::gs,l,hg,n,h=>by
  rw [cN] at h
  rcases OI gs _ (fun x hx=>hg x (aV _ hx)) n h with h|⟨x,hx,h⟩
  ·rcases (G8 (hg g (aS ..)) l n).1 h with h|h
   ·exact .inl h
   ·exact .inr ⟨g,aS ..,h⟩
  ·exact .inr ⟨x,aV _ hx,h⟩
theorem Rr {c:C} (hv:bK c=true) (hf:gQ c=true):Gl c.head/\(∀ g∈c.body,Gl g)/\lo c.head c.body st0:=by
 rw [bK] at hv
 simp only [bu,dE] at hv
 rw [gQ] at hf
 simp only [bu,dE] at hf
 have hb:∀ g∈c.body,Gl g:=fun g hg=>by
  have h1:=hv.2.1 g hg
  rw [eq,bu] at h1
  exact TO h1.1 (hf.2.2.1 g hg)
 have hh:=TO hv.2.2.1 hf.1
 refine ⟨hh,hb,fun y hy hk=>?_⟩
 right
 have h1:=hf.2.2.2 y.n ((G8 hh [] y.n).2 (.inr ⟨y,hy,hk,rfl⟩))
 have h2:y.n∈cN c.body []:=by simpa [jL] using h1
 rcases OI c.body [] hb y.n h2 with h|h
 ·cases h
 ·exact h
theorem P4 {p:List C} (h:fi p=true):∀ c∈p,Gl c.head/\(∀ g∈c.body,Gl g)/\lo c.head c.body st0:=by
 intro c hc
 rw [fi,bu,dE] at h
 have h1:=h.1
 rw [de] at h1
 simp only [bu,dE] at h1
 exact Rr (h1.2 c hc) (h.2 c hc)
def WX (t:T):Bool:=dt t && (eE t && decide ((fO t []).length=0))
def Xh (l:List T):Bool:=l.all WX && decide (l.length<=60)
def TE (facts:List T) (c:C):Bool:=(fG c.head facts c.body st0).all (ZF facts)
def RZ (p:List C) (facts:List T):Bool:=fi p && (Xh facts && p.all (TE facts))
section
attribute [local irreducible] Run CondV az aO
end
end
section
open Go Go.RowKit
theorem U0 {g:T} {st:al} (h:Gl g):Bk (xG st) g=vX g st:=by
 obtain ⟨k,n,s,ks⟩:=g
 obtain ⟨h1,h2,h3⟩:=h
 have hk:k=3:=h1
 have hn:n=0:=by
  rcases Hd h2 with h|h
  ·have:=h.1
   simp only [T.kind] at this
   omega
  ·exact h.2
 rw [Bk,ah (by omega),vX,pJ,hn]
 congr 1
 refine List.map_congr_left fun y hy=>?_
 obtain ⟨_,hyk⟩:=h3 y hy
 obtain ⟨k',n',s',ks'⟩:=y
 simp only [T.kids] at hyk
 subst hyk
 rw [Bk,kQ]
 split
 ·rename_i hk'
  rw [ai (show (T.mk k' n' s' []).kind=1 from hk')]; rfl
 ·rename_i hk'
  rw [ah (show ¬ (T.mk k' n' s' []).kind=1 from hk'),vR]
theorem KnownM.mono {S S':ae} {es:Array MapEntry} {st:al} (h:KnownM S es st) (hs:Sle S S'):KnownM S' es st:=
 ⟨fun e he=>by
  obtain ⟨n,t,cs,h1,h2,h3,h4⟩:=h.1 e he
  exact ⟨n,t,cs,h1,h2,h3.mono hs,h4⟩,h.2⟩
structure Tell (f:FuncId) (fn:Func) (cap:List Value) {σ:Type} (It:σ->ae->List Item->Prop) (can:σ->Nat->Prop) (step:σ->T->σ) (S0:ae):Prop where
 hf:Tryz.prog.funcs[f]?=some fn
 hn:(fn.name == "runtime.NumGoroutine" || fn.body.isNone)=false
 up:∀ (s:σ) (S S':ae) (I:List Item),Sle S S'->It s S I->It s S' I
 down:∀ (s:σ) (x:T) (n:Nat),Fct x->can s (n+1)->can (step s x) n
 call:∀ (S:ae) (s:σ) (x:T) (cs:List Value) (I:List Item) (n:Nat),Sle S0 S->Fct x->RdT S cs x->It s S I->can s (n+1)->Tri Tryz.prog f (.agg cs.toArray::cap) I S fun r I' S'=>r=.tuple #[]/\It (step s x) S' I'
theorem Tell.mono {f:FuncId} {fn:Func} {cap:List Value} {σ:Type} {It:σ->ae->List Item->Prop} {can:σ->Nat->Prop} {step:σ->T->σ} {S0 S1:ae} (h:Tell f fn cap It can step S0) (hs:Sle S0 S1):Tell f fn cap It can step S1:=
 ⟨h.hf,h.hn,h.up,h.down,fun S s x cs I n h1=>h.call S s x cs I n (hs.trans h1)⟩
section
attribute [local irreducible] Run CondV az aO
theorem Jk {S:ae} {gb mb ck:Nat} {E:TypeId} {es:Array MapEntry} {st:al} (hg:S gb=some (.cells #[.map (some mb)] E)) (hm:S mb=some (.map es ck)) (hk:KnownM S es st):Fun Ji [.pointer (some ⟨gb,0,none⟩)] S (xG st):=by
 intro S' hs n hn0 hn25
 obtain ⟨m,rfl⟩:∃ m:Nat,n=m:=⟨n.toNat,by omega⟩
 have hk':=hk.mono hs
 have hfind:∃ v cs,v=.agg (List.toArray cs)/\RdT S' cs (xG st m)/\((∃ j,Instr.findNow (.int .i64) (.int .i64 m) es.toList 0=some (some (j,v))) ∨ (Instr.findNow (.int .i64) (.int .i64 m) es.toList 0=some none/\v=.agg #[.int .i64 0,.int .i64 0,.string ⟨#[]⟩,.slice none 0 0])):=by
  rcases hk'.find m with ⟨j,v,t,cs,hf,hv,hR,hs⟩|⟨hno,hf⟩
  ·refine ⟨v,cs,hv,?_,.inl ⟨j,hf⟩⟩
   rw [xG,dv,hs]
   exact hR
  ·refine ⟨_,nL,rfl,?_,.inr ⟨hf,rfl⟩⟩
   have e:xG st m=Ai:=by
    rw [xG,dv]
    split
    ·rename_i t h
     exact absurd h (hno t)
    ·rfl
   rw [e]
   exact RdT.zero S'
 obtain ⟨v,cs,rfl,hR,hf⟩:=hfind
 refine ⟨cs,hR,fun w hI=>?_⟩
 refine tz.2 ?_
 dsimp only[tz,aY]
 refine aT hI aZ fun b3 w' hI=>?_
 refine ct (by decide +kernel) (by rw [hI.cellS (hs _ _ hg)]; rfl) ?_
 refine Ve hI (kt:=bV) (et:=ab) (by kernel_rfl) (by kernel_rfl) (z:=.agg #[.int .i64 0,.int .i64 0,.string ⟨#[]⟩,.slice none 0 0]) (by kernel_rfl) (hs _ _ hm) hf ?_
 refine aC hI 0 rfl ad (by simpa using hR.length) rfl (by simpa using hR.one) fun w' hI=>?_
 refine bJ hI 0 ad rfl (by simpa using hR.length) ?_
 exact done hI rfl
theorem I7 {f:FuncId} {fn:Func} {cap:List Value} {σ:Type} {It:σ->ae->List Item->Prop} {can:σ->Nat->Prop} {step:σ->T->σ} (c0:C) (facts:List T) (hh:Gl c0.head) (hfs:∀ f∈facts,Fct f) (hbs:∀ g∈c0.body,Gl g) :
  ∀ (gs:List T) (i:Nat),i+gs.length=c0.body.length->c0.body.drop i=gs->
  ∀ (S:ae) (cs:List Value) (fsv:Value) (mb ck:Nat) (es:Array MapEntry) (s:σ) (I:List Item) (st:al) (m:Nat),Tell f fn cap It can step S->RdC S cs c0->RdSl S 4 (RdT S) fsv facts->S mb=some (.map es ck)->KnownM S es st->StF st->lo c0.head gs st->It s S I->can s ((fG c0.head facts gs st).length+m)->
  Tri Tryz.prog OE [.agg cs.toArray,.int .i64 i,fsv,.map (some mb),fv f cap] I S fun r I' S'=>r=.tuple #[]/\It ((fG c0.head facts gs st).foldl step s) S' I'/\can ((fG c0.head facts gs st).foldl step s) m:=by
 intro gs
 induction gs with
 | nil=>
  intro i hi hdr S cs fsv mb ck es s I st m ht h hf hm hk hst hc hIt hcan w hI
  have hcan:can s (m+1):=by rw [fG,n4,qK] at hcan; exact hcan
  obtain ⟨hd,ks,rfl,h1,h2⟩:=h
  have h1':=h1
  obtain ⟨kv,rfl,g1,g2,g3,g4⟩:=RdT.iff.1 h1
  simp only [bU,wV] at hi
  refine lT.2 ?_
  dsimp only[lT,ry]
  refine bq hI fun b5 w' hI=>?_
  obtain ⟨S1,hI,hE1,hb5⟩:=hI.pub1
  refine bq hI fun b8 w' hI=>?_
  obtain ⟨S2,hI,hE2,hb8⟩:=hI.pub1
  have hE:=hE1.trans hE2
  have hb5:=hE2.1 _ _ hb5
  refine au bj ?_
  refine ct aj (by rw [hI.cellS hb5]; rfl) ?_
  refine aF (h2.monoT hE.1) ag ?_
  refine bl ?_
  refine aL (fun _=>?_) (fun hb=>absurd (by omega) hb)
  refine au cE ?_
  refine bL (cs:=[.int .i64 c0.head.kind,.int .i64 c0.head.n,.string c0.head.name,kv]) ad rfl (fun j v hj=>by rw [hI.cellS hb5]; exact SK j v hj) ?_
  refine ia ?_
  have hok:=hh.ok
  refine Run.callE (A:=I) (I:=[]) im ie (by simpa using hI) (xo [.pointer (some ⟨b8,0,none⟩)] (xG st) F7 Hm _ S2 _ (h1'.mono hE.1) hok.1 (by omega) (Jk hb8 (hE.1 _ _ hm) (hk.mono hE.1))) fun v' I' S3 w'=>?_
  rintro ⟨rfl,cs1,rfl,hR⟩ hE3 hI
  rw [U0 hh] at hR
  have hct:=HV hh hst (fun y hy hk=>by
   rcases hc y hy hk with h|⟨g,hg,_⟩
   ·exact h
   ·cases hg)
  have hI:Inv w (bE I) ([]++I) S3 w':=by simpa using hI
  refine Run.callVE (A:=[]) ht.hf ht.hn hI (ht.call S3 s _ cs1 I m (hE.1.trans hE3.1) hct hR (ht.up _ _ _ _ (hE.1.trans hE3.1) hIt) hcan) fun v' I' S4 w'=>?_
  rintro ⟨rfl,hIt'⟩ hE4 hI
  exact ⟨_,_,_,rfl,hI,(hE.trans hE3).trans hE4,rfl,hIt',ht.down _ _ _ hct hcan⟩
 | cons g gs ih=>
  intro i hi hdr S cs fsv mb ck es s I st m ht h hf hm hk hst hc hIt hcan w hI
  have h0:=h
  obtain ⟨hd,ks,rfl,h1,h2⟩:=h
  obtain ⟨kv,rfl,g1,g2,g3,g4⟩:=RdT.iff.1 h1
  simp only [bw] at hi
  have hib:i<c0.body.length:=by omega
  have hlen2:=h2.le
  have hlenf:=hf.le
  simp only [maxLen] at hlen2 hlenf
  have hge:c0.body[i]=g/\c0.body.drop (i+1)=gs:=by
   rw [cU hib,lE] at hdr
   exact hdr
  have hg:Gl g:=by rw [<- hge.1]; exact hbs _ (bz hib)
  have hgs:∀ x∈gs,Gl x:=fun x hx=>hbs x (by rw [<- hge.2] at hx; exact wR hx)
  obtain ⟨b1,o1,cap1,c1,E1,fz1,rfl,hS1,hR1⟩:=h2.at_ hib
  rw [hge.1] at hR1
  obtain ⟨X,hX⟩:∃ X,X=bE I:=⟨_,rfl⟩
  rw [<- hX] at hI ⊢
  refine lT.2 ?_
  dsimp only[lT,ry]
  refine bq hI fun b5 w' hI=>?_
  obtain ⟨S1,hI,hE1,hb5⟩:=hI.pub1
  refine bq hI fun b8 w' hI=>?_
  obtain ⟨S2,hI,hE2,hb8⟩:=hI.pub1
  have hE:=hE1.trans hE2
  have hb5:=hE2.1 _ _ hb5
  have hb8:S2 b8=some (.cells #[.map (some mb)] _):=hb8
  refine au bj ?_
  refine ct aj (by rw [hI.cellS hb5]; rfl) ?_
  refine aF (h2.monoT hE.1) ag ?_
  refine bl ?_
  refine aL (fun hb=>by omega) (fun _=>?_)
  refine aF (hf.monoT hE.1) ag ?_
  rw [fG] at hcan ⊢
  generalize hF:(fun f:T=>if (bt g f st).1=true then fG c0.head facts gs (bt g f st).2 else [])=F at hcan ⊢
  have hF2:∀ f,F f=if (bt g f st).1=true then fG c0.head facts gs (bt g f st).2 else []:=fun f=>by rw [<- hF]
  refine ⟨fun j w'=>∃ (k:Nat) (s':σ) (I':List Item) (S':ae),k<=facts.length/\j=.int .i64 k/\((facts.drop k).flatMap F).foldl step s'=(facts.flatMap F).foldl step s/\can s' (((facts.drop k).flatMap F).length+m)/\It s' S' I'/\Ext w.heap.size X S S'/\Sle S2 S'/\Inv w X I' S' w',
   fun j _=>facts.length - (intOf j).toNat,⟨0,s,I,S2,be _,rfl,rfl,hcan,ht.up _ _ _ _ hE.1 hIt,hE,Sle.refl _,hI⟩,?_⟩
  intro t26 _ _ _ _ _ _ _ _ _ _ _ _ _ _ _ _ _ _ _ _ _ _ _ w'
  rintro ⟨k,s',I',S',hkl,rfl,hrel,hcan',hIt',hE',hle,hI⟩
  refine bH ?_
  refine aL (fun hki=>?_) (fun hki=>?_)
  ·have hk':k<facts.length:=by omega
   rw [cU hk',rt,Ul] at hrel
   rw [cU hk',rt,bA,MT] at hcan'
   have hfk:=hfs _ (bz hk')
   refine ⟨fun w'=>∃ (I2:List Item) (S2:ae),It ((F facts[k]).foldl step s') S2 I2/\can ((F facts[k]).foldl step s') (((facts.drop (k+1)).flatMap F).length+m)/\Ext w.heap.size X S' S2/\Inv w X I2 S2 w',?_,?_⟩
   ·refine cL hI (hf.monoT hE'.1) ag ad hk' (fun _ _=>RdT.length) fun ds hds=>?_
    refine aT hI aZ fun b11 w' hI=>?_
    have hI:=hI.perm (M:=.blk b11 _::I') (cu (l₁:=[_]))
    refine aC hI 0 rfl ad (by simpa using hds.length) rfl (by simpa using hds.one) fun w' hI=>?_
    have hI:=hI.perm (M:=I'++[.blk b11 (.cells ds.toArray ab)]) (cu (l₂:=[_]))
    obtain ⟨S3,hI,hE3,hb11⟩:=hI.pub1
    refine ct (by decide +kernel) (by rw [hI.cellS (hE3.1 _ _ (hle _ _ hb8))]; rfl) ?_
    refine Run.callE (A:=I') (I:=[]) Cc B5 (by simpa using hI) (L8 (hE3.1 _ _ (hE'.1 _ _ hm))) fun v' J' S4 w'=>?_
    rintro ⟨e4,nb,rfl,rfl⟩ _ hI
    rw [e4] at hI
    clear e4
    have hk3:=(hk.mono hE'.1).mono hE3.1
    have hds3:=hds.mono hE3.1
    have hS1':=hE3.1 _ _ (hE'.1 _ _ hS1)
    have hR1':=(hR1.mono hE'.1).mono hE3.1
    obtain ⟨r,hr⟩:∃ r,r=bt g facts[k] st:=⟨_,rfl⟩
    have hb5':=hE3.1 _ _ (hle _ _ hb5)
    refine ⟨fun D tI ll AB vN vL JI Ih Km w_=>Fx D 0 [Km=.agg ds.toArray,Ih=.pointer (some ⟨b5,4,none⟩),JI=.slice (some ⟨b1,o1,none⟩) c0.body.length cap1,vL=.int .i64 i,vN=.pointer (some ⟨b1,o1+i * 4,none⟩),AB=.agg (aX c1 (o1+i * 4) 4).toArray,ll=.map (some nb),tI=.bool r.1]/\∃ es' ck',(D 7=false->KnownM S3 es' st)/\(D 7=true->KnownM S3 es' r.2)/\Inv w X (I'++[.blk nb (.map es' ck')]) S3 w_,⟨Fx.nil _ _,⟨es,ck,fun _=>hk3,aQ,hI.draw⟩⟩,⟨?_,?_,?_,?_,?_,?_,?_,?_,trivial⟩,?_⟩
    all_goals (intro D bF; intros; rename_i tI ll AB vN vL JI Ih Km w_ hA_; have hF_:=hA_.1; obtain ⟨⟨cj,ci,bR,ce,bP,bY,bZ,cH,_⟩,⟨es',ck',kf,kt,hI⟩⟩:=hA_)
    ·refine bL (cs:=ds) ad hds.length (fun j v hj=>by rw [hI.cellS hb11,cq]; simpa using hj) ?_
     exact ⟨hF_.set 0 rfl,⟨es',ck',kf,kt,hI⟩⟩
    ·refine au bj ?_
     exact ⟨hF_.set 1 rfl,⟨es',ck',kf,kt,hI⟩⟩
    ·obtain rfl:=ci ‹_›
     refine ct aj (by rw [hI.cellS hb5']; rfl) ?_
     exact ⟨hF_.set 2 rfl,⟨es',ck',kf,kt,hI⟩⟩
    ·exact ⟨hF_.set 3 rfl,⟨es',ck',kf,kt,hI⟩⟩
    ·obtain rfl:=bR ‹_›
     obtain rfl:=ce ‹_›
     refine aE ag hib ?_
     exact ⟨hF_.set 4 rfl,⟨es',ck',kf,kt,hI⟩⟩
    ·obtain rfl:=bP ‹_›
     refine bL ad hR1'.length (fun j v hj=>by rw [hI.cellS hS1']; exact aH rfl j v hj) ?_
     exact ⟨hF_.set 5 rfl,⟨es',ck',kf,kt,hI⟩⟩
    ·exact ⟨hF_.set 6 rfl,⟨es',ck',kf,kt,hI⟩⟩
    ·obtain rfl:=cj ‹_›
     obtain rfl:=bY ‹_›
     obtain rfl:=bZ ‹_›
     refine Run.callE (A:=I') iO iU hI (jE g facts[k] S3 _ _ nb ck' es' st hR1' hds3 hg.ok.1 hfk.ok.2.1 hst.ok.1 (kf bF)) fun v' J' S5 w_=>?_
     rw [<- hr]
     rintro ⟨e5,rfl,es',ck',rfl,hk2⟩ _ hI
     rw [e5] at hI
     clear e5
     have kf:=fun (e:aD D 7 7=false)=>(Bool.noConfusion e:KnownM S3 es' st)
     have kt:=fun (_:aD D 7 7=true)=>hk2
     exact ⟨hF_.set 7 rfl,⟨es',ck',kf,kt,hI⟩⟩
    obtain ⟨rfl,rfl,rfl,rfl,rfl,rfl,rfl,rfl,_⟩:=hF_.all
    have AP:D 7=true:=by assumption
    clear hF_ cj ci bR ce bP bY bZ cH
    have hk2:=kt AP
    clear kf kt
    refine aw (fun hb=>?_) (fun hb=>?_)
    ·have hFo:F facts[k]=fG c0.head facts gs r.2:=by rw [hF2,<- hr,ai hb]
     rw [hFo] at hcan' ⊢
     obtain ⟨S5,hI,hE5,hnb⟩:=hI.pub1
     have hEa:=hE3.trans hE5
     refine bL (cs:=[.int .i64 c0.head.kind,.int .i64 c0.head.n,.string c0.head.name,kv,.slice (some ⟨b1,o1,none⟩) c0.body.length cap1]) bx rfl (fun j v hj=>by rw [hI.cellS (hE5.1 _ _ hb5'),cq]; simpa [Value.cells] using hj) ?_
     refine bp (by omega) ?_
     have hst2:StF r.2:=by rw [hr]; exact (mz hg hfk hst).1
     have hc2:lo c0.head gs r.2:=by rw [hr]; exact nH hc hg hfk hst (by rw [<- hr]; exact hb)
     have hSa:=hE'.1.trans hEa.1
     have hI:Inv w X ([]++I') S5 w_:=hI
     refine Run.callE (A:=[]) yB y4 hI (ih (i+1) (by omega) hge.2 S5 _ _ nb _ _ s' I' r.2 _ (ht.mono hSa) (h0.mono hSa) (hf.monoT hSa) hnb (hk2.mono hE5.1) hst2 hc2 (ht.up _ _ _ _ hEa.1 hIt') hcan') fun v' J' S6 w'=>?_
     rintro ⟨rfl,hIt2,hcan2⟩ hE6 hI
     exact ⟨_,S6,hIt2,hcan2,hEa.trans hE6,hI⟩
    ·have hFo:F facts[k]=[]:=by rw [hF2,<- hr,ah (by rw [hb]; decide)]
     rw [hFo] at hcan' ⊢
     rw [bU,cq] at hcan'
     exact ⟨_,S3,ht.up _ _ _ _ hE3.1 hIt',hcan',hE3,hI.sub (dB _ _)⟩
   intro _ _ _ _ _ _ _ _ _ _ _ _ _ _ _ _ _ _ _ _ _ w'
   rintro ⟨I2,S5,hIt2,hcan2,hE5,hI⟩
   refine bp (by omega) ?_
   exact ⟨⟨k+1,_,I2,S5,hk',rfl,hrel,hcan2,hIt2,hE'.trans hE5,hle.trans hE5.1,hI⟩,by simp [intOf]; omega⟩
  ·have:k=facts.length:=by omega
   subst this
   rw [dO] at hrel hcan'
   simp only [List.flatMap_nil,TY,bU,cq] at hrel hcan'
   rw [<- hrel]
   exact ⟨_,_,_,rfl,hI,hE',rfl,hIt',hcan'⟩
end
end
section
open Go Go.RowKit
def fZ (p:List C) (facts:List T):List T:=p.flatMap fun c=>fG c.head facts c.body st0
def iE (p:List C) (facts:List T):List T:=(fZ p facts).foldl eZ facts
def eT (p:List C) (facts:List T):List T:=(fZ p facts).foldl jK facts
theorem uH:∀ (l out:List T),out.length<=(l.foldl eZ out).length/\(l.foldl eZ out).length<=out.length+l.length
 | [],out=>⟨aW _,aW _⟩
 | t::l,out=>by
  rw [oc,bw]
  have h1:=Gg out t
  have h2:=uH l (eZ out t)
  omega
theorem O7:∀ (l out:List T) (y:T),y∈l.foldl eZ out->y∈out ∨ y∈l
 | [],out,y,h=>.inl h
 | t::l,out,y,h=>by
  rw [oc] at h
  rcases O7 l _ y h with h|h
  ·rcases sA h with h|rfl
   ·exact .inl h
   ·exact .inr (aS ..)
  ·exact .inr (aV _ h)
theorem Dw:∀ (l out:List T),Sorted out->(∀ x∈out,okO x)->(∀ x∈l,okO x)->Sorted (l.foldl eZ out)
 | [],out,h,_,_=>h
 | t::l,out,h,ho,hl=>by
  rw [oc]
  have ht:=hl t (aS ..)
  refine Dw l _ (sS h ho ht) (fun x hx=>?_) fun x hx=>hl x (aV _ hx)
  rcases sA hx with hx|rfl
  ·exact ho x hx
  ·exact ht
theorem UC:∀ (l out:List T),(60<(l.foldl eZ out).length/\60<(l.foldl jK out).length) ∨ ((l.foldl eZ out).length<=60/\l.foldl jK out=l.foldl eZ out)
 | [],out=>by
  simp only [TY]
  by_cases h:60<out.length
  ·exact .inl ⟨h,h⟩
  ·exact .inr ⟨by omega,trivial⟩
 | t::l,out=>by
  by_cases h:60<out.length
  ·left
   have h1:=uH (t::l) out
   rw [Bj _ _ h]
   omega
  ·rw [oc,oc,jK,ah h]
   exact UC l (eZ out t)
theorem K1 {hd:T} {facts:List T}:∀ (gs:List T) (st:al),(fG hd facts gs st).length<=facts.length ^ gs.length
 | [],st=>by rw [fG]; simp
 | g::gs,st=>by
  rw [fG,bw,Nat.pow_succ]
  have:∀ fs:List T,(fs.flatMap fun f=>if (bt g f st).1=true then fG hd facts gs (bt g f st).2 else []).length<=facts.length ^ gs.length * fs.length:=by
   intro fs
   induction fs with
   | nil=>simp
   | cons f fs ih=>
    rw [rt,bA,bw,Ii]
    have:(if (bt g f st).1=true then fG hd facts gs (bt g f st).2 else []).length<=facts.length ^ gs.length:=by
     split
     ·exact K1 gs _
     ·simp
    omega
  exact this facts
structure Fs (f:List T):Prop where
 sorted:Sorted f
 fct:∀ x∈f,Fct x
theorem Fs.nil:Fs []:=⟨trivial,by simp⟩
theorem Fs.okO {f:List T} (h:Fs f):∀ x∈f,okO x:=fun x hx=>(h.fct x hx).ok.2.2.1
structure Pf (p:List C):Prop where
 len:p.length<=20
 parts:∀ c∈p,Gl c.head/\(∀ g∈c.body,Gl g)/\lo c.head c.body st0
 three:∀ c∈p,c.body.length<=3
theorem KJ {p:List C} {f:List T} (hp:Pf p) (hf:Fs f):∀ x∈fZ p f,Fct x:=by
 intro x hx
 rw [fZ,BT] at hx
 obtain ⟨c,hc,hx⟩:=hx
 obtain ⟨h1,h2,h3⟩:=hp.parts c hc
 exact Il h1 hf.fct c.body st0 h2 Wb h3 x hx
theorem Ot {c:C} {f:List T} (h3:c.body.length<=3) (hf:f.length<=60):(fG c.head f c.body st0).length<=216000:=by
 refine gX (K1 _ _) ?_
 have h1:f.length ^ c.body.length<=60 ^ c.body.length:=Nat.pow_le_pow_left hf _
 have h2:60 ^ c.body.length<=60 ^ 3:=NB (by decide) h3
 exact gX h1 (gX h2 (by decide))
theorem U3 {p:List C} {f:List T} (hp:Pf p) (hf:Fs f):Fs (iE p f):=by
 have h1:=KJ hp hf
 refine ⟨Dw _ _ hf.sorted hf.okO fun x hx=>(h1 x hx).ok.2.2.1,fun x hx=>?_⟩
 rcases O7 _ _ _ hx with hx|hx
 ·exact hf.fct x hx
 ·exact h1 x hx
theorem Bl {p:List C} {f:List T} (hp:Pf p) (hf:Fs f):Fs (eT p f):=by
 have h1:=KJ hp hf
 refine ⟨Dn _ _ hf.sorted hf.okO fun x hx=>(h1 x hx).ok.2.2.1,fun x hx=>?_⟩
 rcases yG _ _ _ hx with hx|hx
 ·exact hf.fct x hx
 ·exact h1 x hx
theorem xZ (p:List C) (f:List T) (h:f.length<=61):f.length<=(eT p f).length/\(eT p f).length<=61:=by
 have:=tD (fZ p f) f
 rw [eT]
 omega
def stI (p:List C):Nat->List T->Nat->Option (List T × Nat)
 | 0,f,n=>some (f,n)
 | k+1,f,n=>if 60<(iE p f).length then none else if (iE p f).length=f.length then some (f,n) else stI p k (iE p f) (n+1)
def stS (p:List C):Nat->List T->Nat->List T × Nat
 | 0,f,n=>(f,n)
 | k+1,f,n=>if (eT p f).length=f.length ∨ 60<f.length then (f,n) else stS p k (eT p f) (n+1)
theorem TK (p:List C):∀ (k:Nat) (f:List T) (n:Nat),f.length<=60->(stI p k f n=none/\60<(stS p k f n).1.length) ∨ (stI p k f n=some (stS p k f n)/\(stS p k f n).1.length<=60)
 | 0,f,n,hf=>.inr ⟨rfl,hf⟩
 | k+1,f,n,hf=>by
  rw [stI,stS]
  rcases UC (fZ p f) f with ⟨h1,h2⟩|⟨h1,h2⟩
  ·left
   have h1:60<(iE p f).length:=h1
   have h2:60<(eT p f).length:=h2
   rw [ai h1,ah (by omega)]
   refine ⟨rfl,?_⟩
   cases k with
   | zero=>exact h2
   | succ k=>
    rw [stS,ai (.inr h2)]
    exact h2
  ·have h1:(iE p f).length<=60:=h1
   have h2:eT p f=iE p f:=h2
   rw [ah (by omega),h2]
   by_cases he:(iE p f).length=f.length
   ·rw [ai he,ai (.inl he)]
    exact .inr ⟨rfl,hf⟩
   ·rw [ah he,ah (by omega)]
    exact TK p k _ _ h1
theorem PB (p:List C):∀ (j k:Nat) (f:List T) (n:Nat),j<=k->61<=j+f.length->f.length<=60->stI p k f n=stI p j f n
 | 0,k,f,n,_,h1,h2=>by omega
 | j+1,0,f,n,h,_,_=>by omega
 | j+1,k+1,f,n,h,h1,h2=>by
  rw [stI,stI]
  split
  ·rfl
  ·split
   ·rfl
   ·rename_i h3 h4
    have:=uH (fZ p f) f
    have h5:f.length<=(iE p f).length:=this.1
    exact PB p j k _ _ (by omega) (by omega) (by omega)
theorem LA {p:List C} (hp:Pf p):∀ (k:Nat) (f:List T) (n:Nat),Fs f->f.length<=61->Fs (stS p k f n).1/\(stS p k f n).1.length<=61
 | 0,f,n,hf,hl=>⟨hf,hl⟩
 | k+1,f,n,hf,hl=>by
  rw [stS]
  split
  ·exact ⟨hf,hl⟩
  ·exact LA hp k _ _ (Bl hp hf) (xZ p f hl).2
def iw (r:Int):Nat:=if 60<r then 61 else r.toNat
def cw (p:List C) (r:Int):List T × Bool:=
 if (fi p && !decide (r<0))=true then
  (if (stS p (iw r) [] 0).1.length<=60 then ((stS p (iw r) [] 0).1,true) else ([],false))
 else ([],false)
def ou (p:List C):Int:=if fi p=true then (if (stS p 61 [] 0).1.length<=60 then ((stS p 61 [] 0).2:Int) else -1) else -1
theorem Pf.take {p:List C} (h:Pf p) (j:Nat):Pf (p.take j):=⟨by have:=h.len; rw [dX]; omega,fun c hc=>h.parts c (sD hc),fun c hc=>h.three c (sD hc)⟩
theorem xz (p:List C) (f:List T) (j:Nat) (hj:j<p.length):fZ (p.take (j+1)) f=fZ (p.take j) f++fG p[j].head f p[j].body st0:=by
 rw [fZ,fl hj,List.flatMap_append,rt,List.flatMap_nil,dh]
 rfl
theorem Lu {p:List C} {f:List T} (hp:Pf p) (hf:f.length<=60):∀ j,j<=p.length->(fZ (p.take j) f).length<=j * 216000
 | 0,_=>by simp [fZ]
 | j+1,h=>by
  have hj:j<p.length:=by omega
  rw [xz p f j hj,bA]
  have h1:=Lu hp hf j (by omega)
  have h2:=Ot (hp.three _ (bz hj)) hf
  omega
theorem Qu (p:List C) (r:Int):(stI p r.toNat [] 0=none/\60<(stS p (iw r) [] 0).1.length) ∨ (stI p r.toNat [] 0=some (stS p (iw r) [] 0)/\(stS p (iw r) [] 0).1.length<=60):=by
 have e:stI p r.toNat [] 0=stI p (iw r) [] 0:=by
  unfold iw
  split
  ·exact PB p 61 _ [] 0 (by omega) (by simp) (by simp)
  ·rfl
 rw [e]
 exact TK p _ [] 0 (by simp)
theorem Fs.w {f:List T} (h:Fs f):wL f<=f.length * 34:=yZ f 34 fun t ht=>(h.fct t ht).ok.2.2.2
theorem WE {p:List C} (hp:fi p=true->Pf p) (r:Int):(cw p r).1.length<=60/\wL (cw p r).1<=2040:=by
 unfold cw
 split
 ·rename_i h
  rw [bu] at h
  have h1:=(LA (hp h.1) (iw r) [] 0 Fs.nil (by simp)).1
  split
  ·rename_i h2
   have:=h1.w
   refine ⟨h2,?_⟩
   show wL (stS p (iw r) [] 0).1<=2040
   omega
  ·simp [wL]
 ·simp [wL]
end
section
open Go Go.RowKit
theorem Rows.insert {α:Type} {k:Nat} {R:List Value->α->Prop} {css:List (List Value)} {ys:List α} (h:Rows k R css ys) {cs:List Value} {y:α} (hR:R cs y) (hl:cs.length=k) (i:Nat) :
  Rows k R (css.take i++cs::css.drop i) (ys.take i++y::ys.drop i):=by
 have h1:Rows k R (css.take i) (ys.take i):=⟨by simp [h.hc],fun c hc=>h.hk c (sD hc),fun j h2 h3=>by
  rw [Fu,Fu]
  exact h.hR j _ _⟩
 have h2:Rows k R (css.drop i) (ys.drop i):=⟨by simp [h.hc],fun c hc=>h.hk c (wR hc),fun j h2 h3=>by
  rw [WP,WP]
  exact h.hR (i+j) _ _⟩
 have:=(h1.append (Rows.one hR hl)).append h2
 simpa using this
theorem RdT.oneRows {S:ae} {css:List (List Value)} {ys:List T} (h:Rows 4 (RdT S) css ys):∀ c∈css,∀ u∈c,u.oneCell'=true:=by
 intro c hc
 obtain ⟨j,hj,rfl⟩:=BW.1 hc
 have e:=h.hc
 exact (h.hR j (by omega) hj).one
theorem K6 {w:World} {v:Value} {e:TypeId} {k n:Nat} {xs:List Value} (h:(Item.row v e k n xs).holds w):v.cells=#[v]/\v.oneCell'=true:=by
 have h:w.ownsRow 0 e k v n xs:=h
 rcases h.2 with ⟨rfl,_⟩|⟨g,cap,cur,rfl,_⟩ <;> exact ⟨rfl,rfl⟩
section
attribute [local irreducible] Run CondV az aO
theorem HT {l:List T} {t:T} {S:ae} {v:Value} {css:List (List Value)} {cs:List Value} (hR:Rows 4 (RdT S) css l) (hcs:RdT S cs t) (hl:∀ x∈l,okO x) (ht:okO t) (hs:Sorted l) (hn:l.length<=100000000) (hw:wT t<=1048576) :
  Tri Tryz.prog R6 [v,.agg cs.toArray] [aJ v ab 4 css] S fun r I' S'=>∃ css',I'=[aJ r ab 4 css']/\Rows 4 (RdT S') css' (eZ l t):=by
 intro w hI
 have hlc:=hcs.length
 have hcl:=hR.hc
 obtain ⟨X,hX⟩:∃ X,X=bE [aJ v ab 4 css]:=⟨_,rfl⟩
 rw [<- hX] at hI ⊢
 refine C4.2 ?_
 dsimp only[C4,aY]
 refine bq hI fun b1 w' hI=>?_
 have hI:Inv w X ([.blk b1 (.cells cs.toArray ab)]++[aJ v ab 4 css]) S w':=hI.perm (cu (l₁:=[_]))
 refine av hI 0 ad rfl (by simpa using hlc) ?_
 obtain ⟨S1,hle1,hrd,hI1,hback⟩:=Inv.lend (A:=[_]) hI
 have hrows:=RowRd.rows (hR.monoR fun _ _ h=>RdT.mono hle1 h) hrd
 obtain ⟨i,hpos,hcall⟩:=xj hrows (hcs.mono hle1) hl ht hs hn
 refine Run.callPure mq mY hI1 hcall fun w' hI1=>?_
 have hI:=hback _ _ hI1
 refine ar rfl ?_
 refine ar rfl ?_
 refine aw (fun hb=>?_) (fun hb=>?_)
 ·have hb':xK l t i=true:=hb
  rw [xK] at hb'
  split at hb'
  ·rename_i hi
   rw [Wm hpos hi hb']
   exact ⟨_,_,_,rfl,hI.pick [false,true],Ext.refl _ _ _,css,rfl,hR⟩
  ·cases hb'
 ·have hb':xK l t i=false:=hb
  have hnew:eZ l t=l.take i++t::l.drop i:=Ze hpos fun hi=>by
   rw [xK,dif_pos hi] at hb'
   exact hb'
  have hil:=hpos.1
  refine av hI 0 ad rfl (by simpa using hlc) ?_
  refine Run.call0E HA G9 hI (AY t S cs hcs hw) fun v' I' S' w'=>?_
  rintro ⟨rfl,cs',L,rfl,rfl,hT⟩ _ hI
  obtain ⟨S2,hI,hE2,hins⟩:=Inv.pubExt hI
  have hrd:=TrT.rd hT hins
  refine er hI bo (by simp [Value.cells,hrd.length]) (by decide) (by decide) fun ub w' hI=>?_
  have hI:Inv w X ([.blk b1 (.cells cs.toArray ab)]++[aJ v ab 4 css,.blk ub (.cells cs'.toArray ab)]) S2 w':=hI
  refine Run.callE (A:=[_]) BI Cl hI (Mo hR.hk (RdT.oneRows hR) hrd.length hrd.one (by omega) (by omega)) fun r I' S3 w'=>?_
  rintro ⟨e3,rfl⟩ _ hI
  rw [e3] at hI
  refine ⟨_,_,_,rfl,hI.pick [false,true],hE2,_,rfl,?_⟩
  rw [hnew]
  exact (hR.monoR fun _ _ h=>RdT.mono hE2.1 h).insert hrd hrd.length i
def ItR (b:Nat) (s:List T) (S:ae) (I:List Item):Prop:=Fs s/\∃ v css,I=[.blk b (.cells #[v] cA),aJ v ab 4 css]/\Rows 4 (RdT S) css s
def Y3 (s:List T) (n:Nat):Prop:=s.length+n<=100000000
theorem Zr {S0:ae} {b:Nat}:Tell Ob Tryz.f233 [.pointer (some ⟨b,0,none⟩)] (ItR b) Y3 eZ S0:=by
 refine ⟨L6,LO,fun s S S' I hle h=>?_,fun s x n hx h=>?_,fun S s x cs I n hle hx hcs hIt hcan w hI=>?_⟩
 ·obtain ⟨h1,v,css,h2,h3⟩:=h
  exact ⟨h1,v,css,h2,h3.monoR fun _ _ h=>RdT.mono hle h⟩
 ·unfold Y3 at h ⊢
  have:=Gg s x
  omega
 ·obtain ⟨hFs,v,css,rfl,hR⟩:=hIt
  unfold Y3 at hcan
  have hlc:=hcs.length
  obtain ⟨X,hX⟩:∃ X,X=bE [Item.blk b (.cells #[v] cA),aJ v ab 4 css]:=⟨_,rfl⟩
  rw [<- hX] at hI ⊢
  refine yR.2 ?_
  dsimp only[yR,aY]
  refine bq hI fun b1 w' hI=>?_
  have hI:Inv w X [.blk b1 (.cells cs.toArray ab),.blk b (.cells #[v] cA),aJ v ab 4 css] S w':=hI.perm (cu (l₁:=[_]))
  refine aN hI 1 aj rfl rfl ?_
  refine av hI 0 ad rfl (by simpa using hlc) ?_
  have hok:=hx.ok
  have hI:Inv w X ([.blk b1 (.cells cs.toArray ab),.blk b (.cells #[v] cA)]++[aJ v ab 4 css]) S w':=hI
  refine Run.callE QC N8 hI (HT hR hcs hFs.okO hok.2.2.1 hFs.sorted (by omega) (by omega)) fun r I' S1 w'=>?_
  rintro ⟨css',rfl,hR'⟩ hE hI
  have hI:Inv w X [.blk b1 (.cells cs.toArray ab),.blk b (.cells #[v] cA),aJ r ab 4 css'] S1 w':=hI
  have hr:r.cells=#[r]/\r.oneCell'=true:=K6 (hI.its (aJ r ab 4 css') (by simp))
  refine cW hI 1 (n:=1) (by rw [hr.1]; rfl) (by decide +kernel) rfl (by simp) (by rw [hr.1]; intro u hu; simp at hu; subst hu; exact hr.2) fun w' hI=>?_
  have hI:Inv w X [.blk b1 (.cells cs.toArray ab),.blk b (.cells (bn #[v] 0 r.cells.toList) cA),aJ r ab 4 css'] S1 w':=hI
  have e:bn #[v] 0 r.cells.toList=#[r]:=by rw [hr.1]; rfl
  rw [e] at hI
  refine ⟨_,_,_,rfl,hI.pick [false,true,true],hE,rfl,⟨sS hFs.sorted hFs.okO hok.2.2.1,fun y hy=>?_⟩,r,css',rfl,hR'⟩
  rcases sA hy with hy|rfl
  ·exact hFs.fct y hy
  ·exact hx
end
end
section
open Go Go.RowKit
theorem sZ {p:List C} (h:fi p=true):Pf p:=by
 have h0:=h
 rw [fi,bu,dE] at h
 have h1:=h.1
 rw [de] at h1
 simp only [bu,bk] at h1
 refine ⟨h1.1,P4 h0,fun c hc=>?_⟩
 have h2:=h.2 c hc
 rw [gQ] at h2
 simp only [bu,bk] at h2
 exact h2.2.1
def lenV:Value->Nat
 | .slice _ n _=>n
 | _=>0
theorem RdSl.lenV {α:Type} {S:ae} {k:Nat} {R:List Value->α->Prop} {v:Value} {xs:List α} (h:RdSl S k R v xs):lenV v=xs.length:=by
 obtain ⟨a,cap,rfl,_⟩:=h
 rfl
abbrev B9 (ys:List T) (b:Bool):Value->List Item->ae->Prop:=fun r I' _=>∃ u L,r=.tuple #[u,.bool b]/\I'=bv L/\TrSl 4 TrT L u ys
theorem Vh {w:World} {v:Value} {e:TypeId} {k n:Nat} {xs:List Value} (h:(Item.row v e k n xs).holds w):∃ a cap,v=.slice a n cap:=by
 have h:w.ownsRow 0 e k v n xs:=h
 rcases h.2 with ⟨rfl,rfl⟩|⟨g,cap,cur,rfl,_⟩ <;> exact ⟨_,_,rfl⟩
section
attribute [local irreducible] Run CondV az aO
theorem Jy {p:List C} {f:List T} {S:ae} {v u:Value} (h:RdSl S 5 (RdC S) v p) (hq:RdSl S 4 (RdT S) u f) (hp:Pf p) (hf:Fs f) (hl:f.length<=60) :
  Tri Tryz.prog VG [v,u] [] S fun r I' S'=>I'=[]/\∃ x,r=.tuple #[x,.bool (decide ((iE p f).length<=60))]/\RdSl S' 4 (RdT S') x (iE p f):=by
 intro w hI
 have hlen:=hp.len
 have hI:Inv w [] [] S w:=hI
 refine Fi.2 ?_
 dsimp only[Fi,aY]
 refine Run.call0 En Ef hI (B7 hq (by omega)) fun x0 I' S' w'=>?_
 rintro ⟨eS,css,rfl,hR⟩ _ hI
 rw [eS] at hI
 clear eS
 have hz:fL Tryz.prog cA=some (.slice none 0 0):=by kernel_rfl
 refine aT hI hz fun b6 w' hI=>?_
 have hI:=hI.perm (M:=.blk b6 _::[aJ x0 ab 4 css]) (cu (l₁:=[_]))
 have hx0:=K6 (hI.its (aJ x0 ab 4 css) (by simp))
 refine cW hI 0 (n:=1) (by rw [hx0.1]; rfl) (by decide +kernel) rfl (by simp [Value.cells]) (by rw [hx0.1]; intro u hu; simp at hu; subst hu; exact hx0.2) fun w' hI=>?_
 have e:bn (Value.slice none 0 0).cells 0 x0.cells.toList=#[x0]:=by rw [hx0.1]; rfl
 rw [e] at hI
 have hI:Inv w [] [.blk b6 (.cells #[x0] cA),aJ x0 ab 4 css] S w':=hI
 refine aF h b0 ?_
 refine ⟨fun i w'=>∃ (j:Nat) (S':ae) (I':List Item),j<=p.length/\i=.int .i64 j/\Ext w.heap.size [] S S'/\ItR b6 ((fZ (p.take j) f).foldl eZ f) S' I'/\Inv w [] I' S' w',
  fun i _=>p.length - (intOf i).toNat,⟨0,S,_,be _,rfl,Ext.refl _ _ _,⟨hf,x0,css,rfl,hR⟩,hI⟩,?_⟩
 intro t13 _ _ _ _ _ _ _ _ _ _ w'
 rintro ⟨j,S',I',hj,rfl,hE,hIt,hI⟩
 refine bH ?_
 refine aL (fun hji=>?_) (fun hji=>?_)
 ·have hj':j<p.length:=by omega
  obtain ⟨hp1,hp2,hp3⟩:=hp.parts _ (bz hj')
  have h3:=hp.three _ (bz hj')
  refine cL hI (h.monoC hE.1) b0 bx hj' (fun _ _=>RdC.length) fun cs hcs=>?_
  have hlc:=hcs.length
  refine aT hI eI fun b7 w' hI=>?_
  have hI:=hI.perm (M:=.blk b7 _::I') (cu (l₁:=[_]))
  refine aC hI 0 rfl bx (by simpa using hlc) rfl (by simpa using hcs.one) fun w' hI=>?_
  refine av hI 0 bx rfl (by simpa using hlc) ?_
  have hI:Inv w [] I' S' w':=hI.sub (iz _ _)
  refine u4 hI fun mb w' hI=>?_
  obtain ⟨S2,hI,hE2,hmb⟩:=hI.pub1
  refine ia ?_
  have hI:Inv w [] ([]++I') S2 w':=hI
  have hle:=hE.1.trans hE2.1
  have hb1:=Lu hp hl j (by omega)
  have hb2:=Ot h3 hl
  have hb3:=uH (fZ (p.take j) f) f
  have hIt2:=(Zr (b:=b6) (S0:=S2)).up _ _ _ _ hE2.1 hIt
  refine Run.callE (A:=[]) yB y4 hI (I7 p[j] f hp1 hf.fct hp2 p[j].body 0 (by simp) rfl S2 cs _ mb 0 #[] _ _ st0 0 (Zr (b:=b6)) (hcs.mono hE2.1) (hq.monoT hle) hmb (KnownM.empty S2) Wb hp3 hIt2 (by unfold Y3; omega)) fun v' I3 S3 w'=>?_
  rintro ⟨rfl,hIt3,_⟩ hE3 hI
  refine bp (by omega) ?_
  refine ⟨⟨j+1,S3,I3,hj',rfl,(hE.trans hE2).trans hE3,?_,hI⟩,by simp [intOf]; omega⟩
  rw [xz p f j hj',Ul]
  exact hIt3
 ·have:j=p.length:=by omega
  subst this
  rw [fJ] at hIt
  obtain ⟨hFs,x,css2,rfl,hR2⟩:=hIt
  have hcl:=hR2.hc
  obtain ⟨ax,capx,rfl⟩:=Vh (hI.its (aJ x ab 4 css2) (by simp))
  refine ⟨fun D x5 x4 mM gk lK tx w_=>Fx D 0 [tx=.slice ax css2.length capx,lK=.slice ax css2.length capx,gk=.int .i64 css2.length,mM=.bool (decide ((css2.length:Int)<=60)),x4=.slice ax css2.length capx,x5=.bool (decide ((css2.length:Int)<=60))]/\Inv w [] [.blk b6 (.cells #[.slice ax css2.length capx] cA),aJ (.slice ax css2.length capx) ab 4 css2] S' w_,⟨Fx.nil _ _,hI.draw⟩,⟨?_,?_,?_,?_,?_,?_,trivial⟩,?_⟩
  all_goals (intro D bF; intros; rename_i x5 x4 mM gk lK tx w_ hA_; have hF_:=hA_.1; obtain ⟨⟨cj,ci,bR,ce,bP,bY,_⟩,hI⟩:=hA_)
  ·refine aN hI 0 aj rfl rfl ?_
   exact ⟨hF_.set 0 rfl,hI⟩
  ·refine aN hI 0 aj rfl rfl ?_
   exact ⟨hF_.set 1 rfl,hI⟩
  ·obtain rfl:=ci ‹_›
   refine eV ag ?_
   exact ⟨hF_.set 2 rfl,hI⟩
  ·obtain rfl:=bR ‹_›
   refine gy ?_
   exact ⟨hF_.set 3 rfl,hI⟩
  ·obtain rfl:=cj ‹_›
   exact ⟨hF_.set 4 rfl,hI⟩
  ·obtain rfl:=ce ‹_›
   exact ⟨hF_.set 5 rfl,hI⟩
  obtain ⟨rfl,rfl,rfl,rfl,rfl,rfl,_⟩:=hF_.all
  clear hF_ cj ci bR ce bP bY
  have hI:Inv w [] ([.blk b6 (.cells #[.slice ax css2.length capx] cA)]++[aJ (.slice ax css2.length capx) ab 4 css2]) S' w_:=hI
  obtain ⟨S3,hE3,hrd,hI⟩:=hI.lendExt
  have hr:=RowRd.rows (hR2.monoR fun _ _ h=>RdT.mono hE3.1 h) hrd
  refine ⟨_,_,_,rfl,hI.nil,hE.trans hE3,rfl,_,?_,hr⟩
  have e1:(iE p f).length=css2.length:=by rw [hcl]; rfl
  have e2:decide ((css2.length:Int)<=60)=decide ((iE p f).length<=60):=by
   rw [e1,mf,bk,bk]
   omega
  rw [e2]
theorem Ga {p:List C} {S:ae} {v:Value} (h:RdSl S 5 (RdC S) v p) (hw:wP p<=1048576) (k:Nat) (hk:k<=9223372036854775807) :
  Tri Tryz.prog Rs [v,.int .i64 k] [] S fun r I' S'=>I'=[]/\((fi p=true/\∃ x f n,stI p k [] 0=some (f,n)/\r=.tuple #[x,.int .i64 (n:Nat),.bool true]/\RdSl S' 4 (RdT S') x f) ∨
   ((fi p=false ∨ stI p k [] 0=none)/\r=.tuple #[.slice none 0 0,.int .i64 0,.bool false])):=by
 intro w hI
 have hI:Inv w [] [] S w:=hI
 refine Dr.2 ?_
 dsimp only[Dr,aY]
 refine Run.callPure Cv BN hI (xe h hw) fun w' hI=>?_
 refine bQ ?_
 refine aw (fun hb=>?_) (fun hb=>?_)
 ·exact ⟨_,_,_,rfl,hI,Ext.refl _ _ _,rfl,.inr ⟨.inl (by simpa using hb),rfl⟩⟩
 have hfl:fi p=true:=by simpa using hb
 have hp:=sZ hfl
 refine ⟨fun t8 t7 w'=>∃ (n:Nat) (f:List T) (S':ae),t8=.int .i64 n/\RdSl S' 4 (RdT S') t7 f/\stI p k [] 0=some (f,n)/\Ext w.heap.size [] S S'/\Inv w [] [] S' w',?_,?_⟩
 ·refine ⟨fun t8 t7 w'=>∃ (n:Nat) (f:List T) (S':ae),t8=.int .i64 n/\n<=k/\RdSl S' 4 (RdT S') t7 f/\Fs f/\f.length<=60/\stI p (k - n) f n=stI p k [] 0/\Ext w.heap.size [] S S'/\Inv w [] [] S' w',
   fun _ t7 _=>61 - lenV t7,⟨0,[],S,rfl,be _,⟨none,0,rfl,aW _,be _,.inl rfl⟩,Fs.nil,by simp,rfl,Ext.refl _ _ _,hI⟩,?_⟩
  intro t8 _ _ t7 _ _ _ _ _ _ _ _ _ _ _ _ _ _ _ _ _ _ _ _ _ _ w'
  rintro ⟨n,f,S',rfl,hnk,hq,hF,hl,hst,hE,hI⟩
  refine bH ?_
  refine aL (fun hnk'=>?_) (fun hnk'=>?_)
  ·have hnk2:n<k:=by omega
   rw [show k - n=(k - (n+1))+1 by omega,stI] at hst
   refine Run.call0E Ru Sl hI (Jy (h.monoC hE.1) hq hp hF hl) fun v' I' S2 w'=>?_
   rintro ⟨rfl,x,rfl,hx⟩ hE2 hI
   have hI:Inv w [] [] S2 w':=hI
   have hE3:=hE.trans hE2
   refine ar rfl ?_
   refine ar rfl ?_
   refine bQ ?_
   refine aw (fun hb=>?_) (fun hb=>?_)
   ·have hb':¬ (iE p f).length<=60:=by simpa using hb
    rw [ai (by omega)] at hst
    exact ⟨_,_,_,rfl,hI,hE3,rfl,.inr ⟨.inr hst.symm,rfl⟩⟩
   ·have hb':(iE p f).length<=60:=by simpa using hb
    rw [ah (by omega)] at hst
    refine aF hx ag ?_
    refine aF (hq.monoT hE2.1) ag ?_
    refine bl ?_
    refine aL (fun he=>?_) (fun he=>?_)
    ·rw [ai (by omega)] at hst
     exact ⟨n,f,S2,rfl,hq.monoT hE2.1,hst.symm,hE3,hI⟩
    ·rw [ah (by omega)] at hst
     have hgr:=(uH (fZ p f) f).1
     have hgr:f.length<=(iE p f).length:=hgr
     refine bp (by omega) ?_
     refine ⟨⟨n+1,_,S2,rfl,hnk2,hx,U3 hp hF,hb',hst,hE3,hI⟩,?_⟩
     show 61 - lenV x<61 - lenV t7
     rw [hx.lenV,hq.lenV]
     omega
  ·have:n=k:=by omega
   subst this
   rw [eB,stI] at hst
   exact ⟨n,f,S',rfl,hq,hst.symm,hE,hI⟩
 ·intro t8 _ _ t7 _ _ _ _ _ _ _ _ _ _ _ _ _ _ _ _ _ _ _ _ _ _ w'
  rintro ⟨n,f,S',rfl,hq,hst,hE,hI⟩
  exact ⟨_,_,_,rfl,hI,hE,rfl,.inl ⟨hfl,t7,f,n,hst,rfl,hq⟩⟩
theorem wY {p:List C} {S:ae} {v:Value} (h:RdSl S 5 (RdC S) v p) (hw:wP p<=1048576) (r:Int) (hr:r<=9223372036854775807) :
  Tri Tryz.prog Hy [v,.int .i64 r] [] S (B9 (cw p r).1 (cw p r).2):=by
 intro w hI
 have hI:Inv w [] [] S w:=hI
 refine rj.2 ?_
 dsimp only[rj,aY]
 refine bH ?_
 refine aL (fun hr0=>?_) (fun hr0=>?_)
 ·have e:cw p r=([],false):=by
   rw [cw,aI (by omega:r<0),Bool.not_true,kY,ah (by decide)]
  rw [e]
  exact ⟨_,_,_,rfl,hI,Ext.refl _ _ _,_,[],rfl,rfl,TrSl.nil (be _)⟩
 have hr0':0<=r:=by omega
 obtain ⟨k,rfl⟩:∃ k:Nat,r=k:=⟨r.toNat,by omega⟩
 refine Run.call0E Pi Qm hI (Ga h hw k (by omega)) fun v' I' S2 w'=>?_
 rintro ⟨rfl,hcase⟩ hE hI
 have hI:Inv w [] [] S2 w':=hI
 have key:∃ x n,v'=.tuple #[x,.int .i64 n,.bool (cw p k).2]/\RdSl S2 4 (RdT S2) x (cw p k).1:=by
  rcases hcase with ⟨hfl,x,f,n,hst,rfl,hx⟩|⟨hno,rfl⟩
  ·rcases Qu p (k:Int) with ⟨h1,h2⟩|⟨h1,h2⟩
   ·rw [dv,hst] at h1; cases h1
   ·rw [dv,hst,bg] at h1
    have e:cw p k=((stS p (iw k) [] 0).1,true):=by
     rw [cw,hfl,aP (by omega),ai (by decide),ai h2]
    rw [e,<- h1]
    exact ⟨x,n,rfl,hx⟩
  ·have e:cw p k=([],false):=by
    rcases hno with hno|hno
    ·rw [cw,hno,iG,ah (by decide)]
    ·rcases Qu p (k:Int) with ⟨h1,h2⟩|⟨h1,h2⟩
     ·rw [cw]
      split
      ·rw [ah (by omega)]
      ·rfl
     ·rw [dv,hno] at h1; cases h1
   rw [e]
   exact ⟨_,0,rfl,none,0,rfl,aW _,be _,.inl rfl⟩
 obtain ⟨x,n,rfl,hx⟩:=key
 have hsw:=WE (fun h=>sZ h) (p:=p) (k:Int)
 refine ar rfl ?_
 refine ar rfl ?_
 refine ar rfl ?_
 refine Run.call0E qF qT hI (wb hx (by omega)) fun v' I' S3 w'=>?_
 rintro ⟨rfl,L,rfl,hT⟩ hE2 hI
 have hI:Inv w [] (bv L) S3 w':=hI
 exact ⟨_,_,_,rfl,hI,hE.trans hE2,_,L,rfl,rfl,hT⟩
theorem wQ {p:List C} {S:ae} {v:Value} (h:RdSl S 5 (RdC S) v p) (hw:wP p<=1048576) :
  Tri Tryz.prog F5 [v] [] S (B9 (cw p 61).1 (cw p 61).2):=by
 intro w hI
 have hI:Inv w [] [] S w:=hI
 refine rP.2 ?_
 dsimp only[rP,aM]
 refine Run.call0E EW Ev hI (wY h hw 61 (by omega)) fun v' I' S2 w'=>?_
 rintro ⟨u,L,rfl,rfl,hT⟩ hE hI
 have hI:Inv w [] (bv L) S2 w':=hI
 refine ar rfl ?_
 refine ar rfl ?_
 exact ⟨_,_,_,rfl,hI,hE,_,L,rfl,rfl,hT⟩
end
end
section
open Go Go.RowKit
section
attribute [local irreducible] Run CondV az aO
theorem Jr {ts:List T} {S:ae} {v:Value} (h:RdSl S 4 (RdT S) v ts) (hw:ts.length+wL ts<=1048576):Tri Tryz.prog Oz [v] [] S (TH 4 TrT S ts):=by
 intro w hI
 refine y6.2 ?_
 dsimp only[y6,aM]
 refine fA hI bo fun v0 w' hI=>?_
 refine ⟨fun i t w'=>∃ (k:Nat) (Ls:List bm) (css:List (List Value)),k<=ts.length/\i=.int .i64 k/\Grown 4 TrT Ls css (ts.take k)/\Inv w [] (aJ t ab 4 css::bv Ls.flatten) S w',
  fun i _ _=>ts.length - (intOf i).toNat,⟨0,[],[],be _,rfl,Grown.nil _ _,hI⟩,?_⟩
 intro t4 _ _ t3 _ _ _ _ _ _ _ _ _ _ _ _ w'
 rintro ⟨k,Ls,css,hk,rfl,hg,hI⟩
 refine aF h ag ?_
 refine bH ?_
 refine aL (fun hki=>?_) (fun hki=>?_)
 ·have hk':k<ts.length:=by omega
  have htl:(ts.take k).length=k:=by simp; omega
  have hcl:=hg.hc
  refine cL hI h ag ad hk' (fun _ _=>RdT.length) fun cs hcs=>?_
  have hm:=bz hk'
  have hwm:=js hm
  refine Run.call0 fy fB hI (gh _ S cs hcs (by omega)) fun v' I' S' w'=>?_
  rintro ⟨rfl,cs',L,rfl,rfl,hT⟩ _ hI
  refine d6 hI 0 cs' bo (by omega) (by omega) rfl hT.length hT.one (by omega) (by omega) fun v' w' hI=>?_
  refine bp (by omega) ?_
  refine ⟨⟨k+1,Ls++[L],css++[cs'],hk',rfl,?_,?_⟩,by simp [intOf]; omega⟩
  ·rw [fl hk']
   exact hg.snoc hT hT.length
  ·simp only [vD,iT,ur,dh,eC]
   exact hI
 ·have:k=ts.length:=by omega
  subst this
  rw [fJ] at hg
  obtain ⟨L,hT,hI⟩:=Inv.rowTree (A:=[]) hI hg
  exact ⟨_,_,_,rfl,hI,Ext.refl _ _ _,rfl,_,rfl,hT⟩
theorem Ho {p:List C} {f:List T} {S:ae} {v u:Value} (h:RdSl S 5 (RdC S) v p) (hq:RdSl S 4 (RdT S) u f) (hp:Pf p) (hf:Fs f) (hl:f.length<=61) :
  Tri Tryz.prog LP [v,u] [] S (W7 (eT p f)):=by
 intro w hI
 have hlen:=hp.len
 have hI:Inv w [] [] S w:=hI
 refine wo.2 ?_
 dsimp only[wo,aY]
 refine ⟨fun i t w'=>∃ (j:Nat) (S':ae),j<=p.length/\i=.int .i64 j/\Ext w.heap.size [] S S'/\RdSl S' 4 (RdT S') t ((fZ (p.take j) f).foldl jK f)/\Inv w [] [] S' w',
  fun i _ _=>p.length - (intOf i).toNat,⟨0,S,be _,rfl,Ext.refl _ _ _,hq,hI⟩,?_⟩
 intro t6 _ _ t5 t21 t20 t19 t18 t17 t16 t15 t14 _ _ _ _ w'
 rintro ⟨j,S',hj,rfl,hE,hout,hI⟩
 have h':=h.monoC hE.1
 have hq':=hq.monoT hE.1
 refine aF h' b0 ?_
 refine bH ?_
 refine aL (fun hji=>?_) (fun hji=>?_)
 ·have hj':j<p.length:=by omega
  obtain ⟨hp1,hp2,hp3⟩:=hp.parts _ (bz hj')
  obtain ⟨out,ho⟩:∃ out,out=(fZ (p.take j) f).foldl jK f:=⟨_,rfl⟩
  obtain ⟨l,hle⟩:∃ l,l=(fZ (p.take (j+1)) f).foldl jK f:=⟨_,rfl⟩
  have hbl:lL p[j].head f p[j].body out st0=l:=by
   rw [hle,xz p f j hj',Ul,<- ho,B0]
  have hFo:=Bl (hp.take j) hf
  have hlo:=xZ (p.take j) f hl
  have ho':out=eT (p.take j) f:=ho
  rw [<- ho'] at hFo hlo
  rw [<- ho] at hout
  obtain ⟨b,o,cap,c,E,fz,rfl,hS,hR⟩:=h'.at_ hj'
  refine ⟨fun D x5 sj oU lp rT lN pr wJ AJ w_=>Fx D 0 [AJ=t5,wJ=.slice (some ⟨b,o,none⟩) p.length cap,pr=.int .i64 j,lN=.pointer (some ⟨b,o+j * 5,none⟩),rT=.agg (aX c (o+j * 5) 5).toArray,lp=u,True,True,True]/\∃ SN,Ext w.heap.size [] S' SN/\(D 8=true->D 0=true)/\(D 8=false->x5=t5)/\(D 6=true->IsKn SN oU st0)/\(D 7=true->RdSl SN 4 (RdT SN) sj l)/\(D 8=true->RdSl SN 4 (RdT SN) x5 l)/\Inv w [] [] SN w_,⟨Fx.nil _ _,⟨S',Ext.refl _ _ _,aQ,fun _=>rfl,aQ,aQ,aQ,hI.draw⟩⟩,⟨?_,?_,?_,?_,?_,?_,?_,?_,?_,trivial⟩,?_⟩
  all_goals (intro D bF; intros; rename_i x5 sj oU lp rT lN pr wJ AJ w_ hA_; have hF_:=hA_.1; obtain ⟨⟨cj,ci,bR,ce,bP,bY,bZ,cH,c5,_⟩,⟨SN,hN,k8,e5,e6,e7,e8,hI⟩⟩:=hA_)
  ·have hx5:x5=t5:=e5 (by cases h:D 8 with|false=>rfl|true=>have:=k8 h; rw [this] at bF; exact bF)
   have k8:=fun (_:aD D 0 8=true)=>(rfl:aD D 0 0=true)
   exact ⟨hF_.set 0 (by first|assumption|trivial),⟨SN,hN,k8,e5,e6,e7,e8,hI⟩⟩
  ·exact ⟨hF_.set 1 rfl,⟨SN,hN,k8,e5,e6,e7,e8,hI⟩⟩
  ·exact ⟨hF_.set 2 rfl,⟨SN,hN,k8,e5,e6,e7,e8,hI⟩⟩
  ·obtain rfl:=ci ‹_›
   obtain rfl:=bR ‹_›
   refine aE b0 hj' ?_
   exact ⟨hF_.set 3 rfl,⟨SN,hN,k8,e5,e6,e7,e8,hI⟩⟩
  ·obtain rfl:=ce ‹_›
   refine bL bx hR.length (fun j v hj=>by rw [hI.cellS (hN.1 _ _ hS)]; exact aH rfl j v hj) ?_
   exact ⟨hF_.set 4 rfl,⟨SN,hN,k8,e5,e6,e7,e8,hI⟩⟩
  ·exact ⟨hF_.set 5 rfl,⟨SN,hN,k8,e5,e6,e7,e8,hI⟩⟩
  ·refine LC (n:=26) hI bo (by omega) (by omega) (by omega) fun kb w_ hI=>?_
   have hkc0:=Zp _ rfl SN
   obtain ⟨kc,hkce⟩:∃ kc,kc=(Array.range 104).map ((#[.int .i64 0,.int .i64 0,.string ⟨#[]⟩,.slice none 0 0]:Array Value)[· % (#[.int .i64 0,.int .i64 0,.string ⟨#[]⟩,.slice none 0 0]:Array Value).size]!):=⟨_,rfl⟩
   rw [<- hkce] at hkc0
   have hI:Inv w [] ([]++bv [(kb,.cells kc ab)]) SN w_:=by rw [hkce]; exact hI
   obtain ⟨SN,hI,hE2,hins⟩:=hI.pubExt
   have e7:=fun (e:aD D 6 7=true)=>(e7 e).monoT hE2.1
   have e8:=fun (e:aD D 6 8=true)=>(e8 e).monoT hE2.1
   have hN:=hN.trans hE2
   have e6:=fun (_:aD D 6 6=true)=>(⟨kb,26,kc,rfl,aW _,by simp [maxLen],hins _ (cd.2 rfl),hkc0.mono hE2.1⟩:IsKn SN (kvn kb 26) st0)
   exact ⟨hF_.set 6 (by first|assumption|trivial),⟨SN,hN,k8,e5,e6,e7,e8,hI⟩⟩
  ·have g0_:=cj ‹_›
   obtain rfl:=bP ‹_›
   obtain rfl:=bY ‹_›
   have NF:=bZ ‹_›
   refine Run.call0E zi AN hI (Jq p[j] f hp1 hf.fct hp2 p[j].body 0 (by simp) rfl SN _ _ _ _ out st0 (hR.mono hN.1) (by rw [g0_]; exact hout.monoT hN.1) (hq'.monoT hN.1) (e6 ‹D 6=true›) Wb hp3 hFo.okO (by omega)) fun v' I' SN w_=>?_
   rw [hbl]
   rintro ⟨rfl,hr⟩ hE2 hI
   have e6:=fun (e:aD D 7 6=true)=>(e6 e).mono hE2.1
   have e8:=fun (e:aD D 7 8=true)=>(e8 e).monoT hE2.1
   have hN:=hN.trans hE2
   have e7:=fun (_:aD D 7 7=true)=>hr
   exact ⟨hF_.set 7 (by first|assumption|trivial),⟨SN,hN,k8,e5,e6,e7,e8,hI⟩⟩
  ·have Io:=cH ‹_›
   have k8:=fun (_:aD D 8 8=true)=>‹D 0=true›
   have e5:=fun (h:aD D 8 8=false)=>(Bool.noConfusion h:sj=t5)
   have e8:=fun (_:aD D 8 8=true)=>e7 ‹D 7=true›
   exact ⟨hF_.set 8 (by first|assumption|trivial),⟨SN,hN,k8,e5,e6,e7,e8,hI⟩⟩
  obtain ⟨g0_,rfl,rfl,rfl,rfl,rfl,NF,Io,QF,_⟩:=hF_.all
  have MV:D 8=true:=by assumption
  clear hF_ cj ci bR ce bP bY bZ cH c5
  have hx:=e8 MV
  have hE2:=hE.trans hN
  clear e5 e6 e7 e8
  refine bp (by omega) ?_
  rw [hle] at hx
  exact ⟨⟨j+1,SN,hj',rfl,hE2,hx,hI⟩,by simp [intOf]; omega⟩
 ·have:j=p.length:=by omega
  subst this
  rw [fJ] at hout
  exact ⟨_,_,_,rfl,hI,hE,rfl,hout⟩
theorem GO {p:List C} {S:ae} {v:Value} (h:RdSl S 5 (RdC S) v p) (hp:Pf p) (k:Nat) (hk:k<=61) :
  Tri Tryz.prog NE [v,.int .i64 k] [] S fun r I' S'=>I'=[]/\∃ x,r=.tuple #[x,.int .i64 ((stS p k [] 0).2:Nat)]/\RdSl S' 4 (RdT S') x (stS p k [] 0).1:=by
 intro w hI
 have hI:Inv w [] [] S w:=hI
 refine vH.2 ?_
 dsimp only[vH,aY]
 refine fA hI bo fun v0 w' hI=>?_
 obtain ⟨S1,hE1,hrd,hI⟩:=Inv.lendExt (A:=[]) (css:=[]) hI
 have hr0:=RowRd.rows (Rows.nil 4 (RdT S1)) hrd
 refine ⟨fun i t w'=>∃ (n:Nat) (f:List T) (S':ae),i=.int .i64 n/\n<=k/\RdSl S' 4 (RdT S') t f/\Fs f/\f.length<=61/\stS p (k - n) f n=stS p k [] 0/\Ext w.heap.size [] S S'/\Inv w [] [] S' w',
  fun i _ _=>k - (intOf i).toNat,⟨0,[],S1,rfl,be _,hr0,Fs.nil,by simp,rfl,hE1,hI⟩,?_⟩
 intro t7 _ _ t6 _ _ _ _ _ _ _ _ _ _ _ _ _ _ _ _ _ _ _ _ _ _ w'
 rintro ⟨n,f,S',rfl,hnk,hq,hF,hl,hst,hE,hI⟩
 refine bH ?_
 refine aL (fun hnk'=>?_) (fun hnk'=>?_)
 ·have hnk2:n<k:=by omega
  rw [show k - n=(k - (n+1))+1 by omega,stS] at hst
  refine Run.call0E JP JB hI (Ho (h.monoC hE.1) hq hp hF hl) fun x I' S2 w'=>?_
  rintro ⟨rfl,hx⟩ hE2 hI
  have hI:Inv w [] [] S2 w':=hI
  have hE3:=hE.trans hE2
  refine ⟨fun t w'=>t=.bool (decide ((eT p f).length=f.length ∨ 60<f.length))/\Inv w [] [] S2 w',?_,?_⟩
  ·refine aF hx ag ?_
   refine aF (hq.monoT hE2.1) ag ?_
   refine bl ?_
   by_cases he:(eT p f).length=f.length
   ·rw [aI (show (((eT p f).length:Nat):Int)=((f.length:Nat):Int) by omega)]
    refine rpG ?_
    refine ⟨?_,hI⟩
    rw [aI (Or.inl he)]
   ·rw [aP (show ¬ (((eT p f).length:Nat):Int)=((f.length:Nat):Int) by omega)]
    refine rpG ?_
    refine aF (hq.monoT hE2.1) ag ?_
    refine dA ?_
    refine rpG ?_
    refine ⟨?_,hI⟩
    congr 1
    rw [mf,bk,bk]
    omega
  ·intro t _ _ _ _ _ _ _ _ _ w'
   rintro ⟨rfl,hI⟩
   refine aL (fun hc=>?_) (fun hc=>?_)
   ·rw [ai hc] at hst
    rw [<- hst]
    exact ⟨_,_,_,rfl,hI,hE3,rfl,_,rfl,hq.monoT hE2.1⟩
   ·rw [ah hc] at hst
    refine bp (by omega) ?_
    exact ⟨⟨n+1,_,S2,rfl,hnk2,hx,Bl hp hF,(xZ p f hl).2,hst,hE3,hI⟩,by simp [intOf]; omega⟩
 ·have:n=k:=by omega
  subst this
  rw [eB,stS] at hst
  rw [<- hst]
  exact ⟨_,_,_,rfl,hI,hE,rfl,_,rfl,hq⟩
theorem x1 {p:List C} {S:ae} {v:Value} (h:RdSl S 5 (RdC S) v p) (hw:wP p<=1048576) (r:Int) :
  Tri Tryz.prog GF [v,.int .i64 r] [] S (B9 (cw p r).1 (cw p r).2):=by
 intro w hI
 have hI:Inv w [] [] S w:=hI
 have hno:∀ (S':ae) (w':World),Ext w.heap.size [] S S'->Inv w [] [] S' w'->Run Tryz.prog (bC cA 0 []) w' fun t w2=>∃ v I' S',Ending.returned (.tuple #[t,.bool false])=.returned v/\Inv w [] I' S' w2/\Ext w.heap.size [] S S'/\B9 [] false v I' S':=by
  intro S' w' hE hI
  refine fA hI bo fun v0 w' hI=>?_
  have hI:Inv w [] ([]++(aJ v0 ab 4 []::bv ([]:List bm).flatten)) S' w':=hI
  obtain ⟨L,hT,hI⟩:=Inv.rowTree hI (Grown.nil 4 TrT)
  exact ⟨_,_,_,rfl,hI,hE,_,L,rfl,rfl,hT⟩
 refine rF.2 ?_
 dsimp only[rF,aY]
 refine ⟨fun t w'=>t=.bool (!(fi p && !decide (r<0)))/\Inv w [] [] S w',?_,?_⟩
 ·refine Run.callPure BX AR hI (xm h hw) fun w' hI=>?_
  refine bQ ?_
  cases hv:fi p
  ·refine rpG ?_
   exact ⟨rfl,hI⟩
  ·refine rpG ?_
   refine bH ?_
   refine rpG ?_
   refine ⟨?_,hI⟩
   rw [dg,Bool.not_not]
 intro t _ _ _ _ _ _ w'
 rintro ⟨rfl,hI⟩
 refine aw (fun hb=>?_) (fun hb=>?_)
 ·have hb':(fi p && !decide (r<0))=false:=by rwa [jj] at hb
  have e:cw p r=([],false):=by rw [cw,ah (by rw [hb']; decide)]
  rw [e]
  exact hno _ _ (Ext.refl _ _ _) hI
 have hb':(fi p && !decide (r<0))=true:=by rwa [rK] at hb
 have hb2:=hb'
 rw [bu] at hb2
 have hr0:0<=r:=by
  have:=hb2.2
  simp at this
  exact this
 have hp:=sZ hb2.1
 have hfu:iw r<=61:=by unfold iw; split <;> omega
 have hsF:=LA hp (iw r) [] 0 Fs.nil (by simp)
 refine ⟨fun t w'=>t=.int .i64 (iw r)/\Inv w [] [] S w',?_,?_⟩
 ·refine dA ?_
  refine aL (fun hg=>⟨?_,hI⟩) (fun hg=>⟨?_,hI⟩)
  ·rw [iw,ai hg]; rfl
  ·rw [iw,ah hg,Tm hr0]
 intro t _ _ w'
 rintro ⟨rfl,hI⟩
 refine Run.call0E IP Jd hI (GO h hp (iw r) hfu) fun v' I' S2 w'=>?_
 rintro ⟨rfl,x,rfl,hx⟩ hE hI
 have hI:Inv w [] [] S2 w':=hI
 refine ar rfl ?_
 refine ar rfl ?_
 refine aF hx ag ?_
 refine dA ?_
 refine aL (fun hg=>?_) (fun hg=>?_)
 ·have e:cw p r=([],false):=by rw [cw,ai hb',ah (by omega)]
  rw [e]
  exact hno _ _ hE hI
 ·have e:cw p r=((stS p (iw r) [] 0).1,true):=by rw [cw,ai hb',ai (by omega)]
  have hw':=hsF.1.w
  rw [e]
  refine Run.call0E MD M3 hI (Jr hx (by omega)) fun v' I' S3 w'=>?_
  rintro ⟨rfl,L,rfl,hT⟩ hE2 hI
  have hI:Inv w [] (bv L) S3 w':=hI
  exact ⟨_,_,_,rfl,hI,hE.trans hE2,_,L,rfl,rfl,hT⟩
theorem wO {p:List C} {S:ae} {v:Value} (h:RdSl S 5 (RdC S) v p) (hw:wP p<=1048576) :
  Tri Tryz.prog Ge [v] [] S (B9 (cw p 61).1 (cw p 61).2):=by
 intro w hI
 have hI:Inv w [] [] S w:=hI
 refine rV.2 ?_
 dsimp only[rV,aM]
 refine Run.call0E EI Ez hI (x1 h hw 61) fun v' I' S2 w'=>?_
 rintro ⟨u,L,rfl,rfl,hT⟩ hE hI
 have hI:Inv w [] (bv L) S2 w':=hI
 refine ar rfl ?_
 refine ar rfl ?_
 exact ⟨_,_,_,rfl,hI,hE,_,L,rfl,rfl,hT⟩
end
end
section
open Go Go.RowKit
section
attribute [local irreducible] Run CondV az aO
end
end
section
open Go Go.RowKit
section
variable {S:ae} {ys:List Nat} {v:Value}
attribute [local irreducible] Run CondV az aO
theorem IL {t:T} {cs ds:List Value} (h:RdT S cs t) (g:RdT S ds t):Pure Tryz.prog lS [.agg cs.toArray,.agg ds.toArray] S (.bool true):=by
 have:=ig t t S cs ds h g
 rwa [Qz] at this
theorem vV {l:List T} {u v:Value} (h:RdSl S 4 (RdT S) u l) (g:RdSl S 4 (RdT S) v l):Pure Tryz.prog N0 [u,v] S (.bool true):=by
 intro w hI
 have hlen:=h.le
 simp only [maxLen] at hlen
 refine yk.2 ?_
 dsimp only[yk,aY]
 refine aF h ag ?_
 refine aF g ag ?_
 refine ef ?_
 refine aw (fun hb=>by simp at hb) (fun _=>?_)
 refine ⟨fun i w'=>∃ k:Nat,k<=l.length/\i=.int .i64 k/\Inv w [] [] S w',fun i _=>l.length - (intOf i).toNat,⟨0,be _,rfl,hI⟩,?_⟩
 intro t5 _ _ _ t26 t25 t24 t23 t22 t21 t20 t19 t18 t17 _ _ _ _ w'
 rintro ⟨k,hk,rfl,hI⟩
 refine aF h ag ?_
 refine bH ?_
 refine aL (fun hki=>?_) (fun hki=>done hI rfl)
 have hk':k<l.length:=by omega
 obtain ⟨b,o,cap,c,E,fz,rfl,hS,hR⟩:=h.at_ hk'
 obtain ⟨b2,o2,cap2,c2,E2,fz2,rfl,hS2,hR2⟩:=g.at_ hk'
 refine ⟨fun D mM gk lK tx uK sj oU lp rT lN w_=>Fx D 0 [lN=.slice (some ⟨b,o,none⟩) l.length cap,rT=.int .i64 k,lp=.pointer (some ⟨b,o+k * 4,none⟩),oU=.agg (aX c (o+k * 4) 4).toArray,sj=.slice (some ⟨b2,o2,none⟩) l.length cap2,uK=.int .i64 k,tx=.pointer (some ⟨b2,o2+k * 4,none⟩),lK=.agg (aX c2 (o2+k * 4) 4).toArray,gk=.bool true,mM=.bool false]/\Inv w [] [] S w_,⟨Fx.nil _ _,hI.draw⟩,⟨?_,?_,?_,?_,?_,?_,?_,?_,?_,?_,trivial⟩,?_⟩
 all_goals (intro D bF; intros; rename_i mM gk lK tx uK sj oU lp rT lN w_ hA_; have hF_:=hA_.1; obtain ⟨⟨cj,ci,bR,ce,bP,bY,bZ,cH,c5,dI,_⟩,hI⟩:=hA_)
 ·exact ⟨hF_.set 0 rfl,hI⟩
 ·exact ⟨hF_.set 1 rfl,hI⟩
 ·obtain rfl:=cj ‹_›
  obtain rfl:=ci ‹_›
  refine aE ag hk' ?_
  exact ⟨hF_.set 2 rfl,hI⟩
 ·obtain rfl:=bR ‹_›
  refine bL ad hR.length (fun j v hj=>by rw [hI.cellS hS]; exact aH rfl j v hj) ?_
  exact ⟨hF_.set 3 rfl,hI⟩
 ·exact ⟨hF_.set 4 rfl,hI⟩
 ·exact ⟨hF_.set 5 rfl,hI⟩
 ·obtain rfl:=bP ‹_›
  obtain rfl:=bY ‹_›
  refine aE ag hk' ?_
  exact ⟨hF_.set 6 rfl,hI⟩
 ·obtain rfl:=bZ ‹_›
  refine bL ad hR2.length (fun j v hj=>by rw [hI.cellS hS2]; exact aH rfl j v hj) ?_
  exact ⟨hF_.set 7 rfl,hI⟩
 ·obtain rfl:=ce ‹_›
  obtain rfl:=cH ‹_›
  refine Run.callPure iH iL hI (IL hR hR2) fun w_ hI=>?_
  exact ⟨hF_.set 8 rfl,hI⟩
 ·obtain rfl:=c5 ‹_›
  refine bQ ?_
  exact ⟨hF_.set 9 rfl,hI⟩
 obtain ⟨rfl,rfl,rfl,rfl,rfl,rfl,rfl,rfl,rfl,rfl,_⟩:=hF_.all
 clear hF_ cj ci bR ce bP bY bZ cH c5 dI
 refine aw (fun hb=>by cases hb) (fun _=>?_)
 refine bp (by omega) ?_
 exact ⟨⟨k+1,hk',rfl,hI⟩,by simp [intOf]; omega⟩
theorem RW {p:List C} (h:fi p=true) {c:C} (hc:c∈p) {g:T} (hg:g∈c.body):cD g=true:=by
 rw [fi,bu,dE] at h
 have:=h.2 c hc
 rw [gQ] at this
 simp only [bu,dE] at this
 have:=this.2.2.1 g hg
 rw [eE,bu] at this
 exact this.2
end
end
end Go.Proofs.YtgllldjiaglkcaaGreatDoor

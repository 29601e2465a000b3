/- impl.follows, with a function that is told the facts. -/
import Derived.Test.YtemmhhdnlbmicaaGreatZMg11
import Derived.Test.YtemmhhdnlbmicaaGreatZMg10
import Derived.Test.YtemmhhdnlbmicaaGreatZMg2
import Derived.Test.YtemmhhdnlbmicaaGreatZMg4
import Derived.Test.YtemmhhdnlbmicaaGreatZMg6
import Derived.Test.YtemmhhdnlbmicaaGreatZMg8
import Derived.Test.YtemmhhdnlbmicaaGreatZMg7
import Derived.Test.YtemmhhdnlbmicaaGreatZMg1
import Derived.Test.YtemmhhdnlbmicaaGreatZMg3
namespace Go.Proofs.YtemmhhdnlbmicaaGreat
open Go Go.RowKit
theorem JZ {g:T} {st:bt} (h:Gl g):A8 (qZ st) g=wm g st:=by
 obtain ⟨k,n,s,ks⟩:=g
 obtain ⟨h1,h2,h3⟩:=h
 have hk:k=3:=h1
 have hn:n=0:=by
  rcases zq h2 with h|h
  ·have:=h.1
   simp only [T.kind] at this
   omega
  ·exact h.2
 rw [A8,if_neg (by omega),wm,lS,hn]
 congr 1
 refine List.map_congr_left fun y hy=>?_
 obtain ⟨_,hyk⟩:=h3 y hy
 obtain ⟨k',n',s',ks'⟩:=y
 simp only [T.kids] at hyk
 subst hyk
 rw [A8,iZ]
 split
 ·rename_i hk'
  rw [if_pos (show (T.mk k' n' s' []).kind=1 from hk')]; rfl
 ·rename_i hk'
  rw [if_neg (show ¬ (T.mk k' n' s' []).kind=1 from hk'),xb]
theorem KnownM.mono {S S':az} {es:Array MapEntry} {st:bt} (h:KnownM S es st) (hs:Sle S S'):KnownM S' es st:=
 ⟨fun e he=>by
  obtain ⟨n,t,cs,h1,h2,h3,h4⟩:=h.1 e he
  exact ⟨n,t,cs,h1,h2,h3.mono hs,h4⟩,h.2⟩
/- a function that is told facts and keeps a state; 'can s n': n more facts can be told -/
structure Tell (f:FuncId) (fn:Func) (cap:List Value) {σ:Type} (It:σ->az->List Item->Prop) (can:σ->Nat->Prop) (step:σ->T->σ) (S0:az):Prop where
 hf:Tryz.prog.funcs[f]?=some fn
 hn:(fn.name == "runtime.NumGoroutine" || fn.body.isNone)=false
 up:∀ (s:σ) (S S':az) (I:List Item),Sle S S'->It s S I->It s S' I
 down:∀ (s:σ) (x:T) (n:Nat),Fct x->can s (n+1)->can (step s x) n
 call:∀ (S:az) (s:σ) (x:T) (cs:List Value) (I:List Item) (n:Nat),Sle S0 S->Fct x->RdT S cs x->It s S I->can s (n+1)->Tri Tryz.prog f (.agg cs.toArray::cap) I S fun r I' S'=>r=.tuple #[]/\It (step s x) S' I'
theorem Tell.mono {f:FuncId} {fn:Func} {cap:List Value} {σ:Type} {It:σ->az->List Item->Prop} {can:σ->Nat->Prop} {step:σ->T->σ} {S0 S1:az} (h:Tell f fn cap It can step S0) (hs:Sle S0 S1):Tell f fn cap It can step S1:=
 ⟨h.hf,h.hn,h.up,h.down,fun S s x cs I n h1=>h.call S s x cs I n (hs.trans h1)⟩
section
attribute [local irreducible] Run CondV aj bd
theorem Ca {S:az} {gb mb ck:Nat} {E:TypeId} {es:Array MapEntry} {st:bt} (hg:S gb=some (.cells #[.map (some mb)] E)) (hm:S mb=some (.map es ck)) (hk:KnownM S es st):Fun BV [.pointer (some ⟨gb,0,none⟩)] S (qZ st):=by
 intro S' hs n hn0 hn25
 obtain ⟨m,rfl⟩:∃ m:Nat,n=m:=⟨n.toNat,by omega⟩
 have hk':=hk.mono hs
 have hfind:∃ v cs,v=.agg (List.toArray cs)/\RdT S' cs (qZ st m)/\((∃ j,Instr.findNow (.int .i64) (.int .i64 m) es.toList 0=some (some (j,v))) ∨ (Instr.findNow (.int .i64) (.int .i64 m) es.toList 0=some none/\v=.agg #[.int .i64 0,.int .i64 0,.string ⟨#[]⟩,.slice none 0 0])):=by
  rcases hk'.find m with ⟨j,v,t,cs,hf,hv,hR,hs⟩|⟨hno,hf⟩
  ·refine ⟨v,cs,hv,?_,.inl ⟨j,hf⟩⟩
   rw [qZ,Int.toNat_natCast,hs]
   exact hR
  ·refine ⟨_,pI,rfl,?_,.inr ⟨hf,rfl⟩⟩
   have e:qZ st m=sw:=by
    rw [qZ,Int.toNat_natCast]
    split
    ·rename_i t h
     exact absurd h (hno t)
    ·rfl
   rw [e]
   exact RdT.zero S'
 obtain ⟨v,cs,rfl,hR,hf⟩:=hfind
 refine ⟨cs,hR,fun w hI=>?_⟩
 refine td ?_
 unfold nT
 refine bw hI bG fun b3 w' hI=>?_
 refine dM (by decide +kernel) (by rw [hI.cellS (hs _ _ hg)]; rfl) ?_
 refine Kb hI (kt:=ff) (et:=ab) (by kernel_rfl) (by kernel_rfl) (z:=.agg #[.int .i64 0,.int .i64 0,.string ⟨#[]⟩,.slice none 0 0]) (by kernel_rfl) (hs _ _ hm) hf ?_
 refine bf hI 0 rfl ai (by simpa using hR.length) rfl (by simpa using hR.one) fun w' hI=>?_
 refine bZ hI 0 ai rfl (by simpa using hR.length) ?_
 exact done hI rfl
theorem qr {f:FuncId} {fn:Func} {cap:List Value} {σ:Type} {It:σ->az->List Item->Prop} {can:σ->Nat->Prop} {step:σ->T->σ} (c0:C) (facts:List T) (hh:Gl c0.head) (hfs:∀ f∈facts,Fct f) (hbs:∀ g∈c0.body,Gl g) :
  ∀ (gs:List T) (i:Nat),i+gs.length=c0.body.length->c0.body.drop i=gs->
  ∀ (S:az) (cs:List Value) (fsv:Value) (mb ck:Nat) (es:Array MapEntry) (s:σ) (I:List Item) (st:bt) (m:Nat),Tell f fn cap It can step S->RdC S cs c0->RdSl S 4 (RdT S) fsv facts->S mb=some (.map es ck)->KnownM S es st->StF st->ir c0.head gs st->It s S I->can s ((eM c0.head facts gs st).length+m)->
  Tri Tryz.prog FR [.agg cs.toArray,.int .i64 i,fsv,.map (some mb),fv f cap] I S fun r I' S'=>r=.tuple #[]/\It ((eM c0.head facts gs st).foldl step s) S' I'/\can ((eM c0.head facts gs st).foldl step s) m:=by
 intro gs
 induction gs with
 | nil=>
  intro i hi hdr S cs fsv mb ck es s I st m ht h hf hm hk hst hc hIt hcan w hI
  have hcan:can s (m+1):=by rw [eM,List.length_singleton,Nat.add_comm] at hcan; exact hcan
  obtain ⟨hd,ks,rfl,h1,h2⟩:=h
  have h1':=h1
  obtain ⟨kv,rfl,g1,g2,g3,g4⟩:=RdT.iff.1 h1
  simp only [List.length_nil,Nat.add_zero] at hi
  refine na ?_
  unfold mH
  refine bM hI fun b5 w' hI=>?_
  obtain ⟨S1,hI,hE1,hb5⟩:=hI.pub1
  refine bM hI fun b8 w' hI=>?_
  obtain ⟨S2,hI,hE2,hb8⟩:=hI.pub1
  have hE:=hE1.trans hE2
  have hb5:=hE2.1 _ _ hb5
  refine bh bq ?_
  refine dM aP (by rw [hI.cellS hb5]; rfl) ?_
  refine a9 (h2.monoT hE.1) av ?_
  refine bO ?_
  refine bk (fun _=>?_) (fun hb=>absurd (by omega) hb)
  refine bh dh ?_
  refine cV (cs:=[.int .i64 c0.head.kind,.int .i64 c0.head.n,.string c0.head.name,kv]) ai rfl (fun j v hj=>by rw [hI.cellS hb5]; exact Lk j v hj) ?_
  refine ip ?_
  have hok:=hh.ok
  refine Run.callE (A:=I) (I:=[]) rZ se (by simpa using hI) (IR [.pointer (some ⟨b8,0,none⟩)] (qZ st) zK yV _ S2 _ (h1'.mono hE.1) hok.1 (by omega) (Ca hb8 (hE.1 _ _ hm) (hk.mono hE.1))) fun v' I' S3 w'=>?_
  rintro ⟨rfl,cs1,rfl,hR⟩ hE3 hI
  rw [JZ hh] at hR
  have hct:=zl hh hst (fun y hy hk=>by
   rcases hc y hy hk with h|⟨g,hg,_⟩
   ·exact h
   ·cases hg)
  have hI:Inv w (bV I) ([]++I) S3 w':=by simpa using hI
  refine Run.callVE (A:=[]) ht.hf ht.hn hI (ht.call S3 s _ cs1 I m (hE.1.trans hE3.1) hct hR (ht.up _ _ _ _ (hE.1.trans hE3.1) hIt) hcan) fun v' I' S4 w'=>?_
  rintro ⟨rfl,hIt'⟩ hE4 hI
  exact ⟨_,_,_,rfl,hI,(hE.trans hE3).trans hE4,rfl,hIt',ht.down _ _ _ hct hcan⟩
 | cons g gs ih=>
  intro i hi hdr S cs fsv mb ck es s I st m ht h hf hm hk hst hc hIt hcan w hI
  have h0:=h
  obtain ⟨hd,ks,rfl,h1,h2⟩:=h
  obtain ⟨kv,rfl,g1,g2,g3,g4⟩:=RdT.iff.1 h1
  simp only [List.length_cons] at hi
  have hib:i<c0.body.length:=by omega
  have hlen2:=h2.le
  have hlenf:=hf.le
  simp only [maxLen] at hlen2 hlenf
  have hge:c0.body[i]=g/\c0.body.drop (i+1)=gs:=by
   rw [List.drop_eq_getElem_cons hib,List.cons.injEq] at hdr
   exact hdr
  have hg:Gl g:=by rw [<- hge.1]; exact hbs _ (List.getElem_mem hib)
  have hgs:∀ x∈gs,Gl x:=fun x hx=>hbs x (by rw [<- hge.2] at hx; exact List.mem_of_mem_drop hx)
  obtain ⟨b1,o1,cap1,c1,E1,fz1,rfl,hS1,hR1⟩:=h2.at_ hib
  rw [hge.1] at hR1
  obtain ⟨X,hX⟩:∃ X,X=bV I:=⟨_,rfl⟩
  rw [<- hX] at hI ⊢
  refine na ?_
  unfold mH
  refine bM hI fun b5 w' hI=>?_
  obtain ⟨S1,hI,hE1,hb5⟩:=hI.pub1
  refine bM hI fun b8 w' hI=>?_
  obtain ⟨S2,hI,hE2,hb8⟩:=hI.pub1
  have hE:=hE1.trans hE2
  have hb5:=hE2.1 _ _ hb5
  have hb8:S2 b8=some (.cells #[.map (some mb)] _):=hb8
  refine bh bq ?_
  refine dM aP (by rw [hI.cellS hb5]; rfl) ?_
  refine a9 (h2.monoT hE.1) av ?_
  refine bO ?_
  refine bk (fun hb=>by omega) (fun _=>?_)
  refine a9 (hf.monoT hE.1) av ?_
  rw [eM] at hcan ⊢
  generalize hF:(fun f:T=>if (bK g f st).1=true then eM c0.head facts gs (bK g f st).2 else [])=F at hcan ⊢
  have hF2:∀ f,F f=if (bK g f st).1=true then eM c0.head facts gs (bK g f st).2 else []:=fun f=>by rw [<- hF]
  refine ⟨fun j w'=>∃ (k:Nat) (s':σ) (I':List Item) (S':az),k<=facts.length/\j=.int .i64 k/\((facts.drop k).flatMap F).foldl step s'=(facts.flatMap F).foldl step s/\can s' (((facts.drop k).flatMap F).length+m)/\It s' S' I'/\Ext w.heap.size X S S'/\Sle S2 S'/\Inv w X I' S' w',
   fun j _=>facts.length - (intOf j).toNat,⟨0,s,I,S2,Nat.zero_le _,rfl,rfl,hcan,ht.up _ _ _ _ hE.1 hIt,hE,Sle.refl _,hI⟩,?_⟩
  intro t26 _ _ _ _ _ _ _ _ _ _ _ _ _ _ _ _ _ _ _ _ _ _ _ w'
  rintro ⟨k,s',I',S',hkl,rfl,hrel,hcan',hIt',hE',hle,hI⟩
  refine bR ?_
  refine bk (fun hki=>?_) (fun hki=>?_)
  ·have hk':k<facts.length:=by omega
   rw [List.drop_eq_getElem_cons hk',List.flatMap_cons,List.foldl_append] at hrel
   rw [List.drop_eq_getElem_cons hk',List.flatMap_cons,List.length_append,Nat.add_assoc] at hcan'
   have hfk:=hfs _ (List.getElem_mem hk')
   refine ⟨fun w'=>∃ (I2:List Item) (S2:az),It ((F facts[k]).foldl step s') S2 I2/\can ((F facts[k]).foldl step s') (((facts.drop (k+1)).flatMap F).length+m)/\Ext w.heap.size X S' S2/\Inv w X I2 S2 w',?_,?_⟩
   ·refine dG hI (hf.monoT hE'.1) av ai hk' (fun _ _=>RdT.length) fun ds hds=>?_
    refine bw hI bG fun b11 w' hI=>?_
    have hI:=hI.perm (M:=.blk b11 _::I') (List.perm_append_comm (l₁:=[_]))
    refine bf hI 0 rfl ai (by simpa using hds.length) rfl (by simpa using hds.one) fun w' hI=>?_
    have hI:=hI.perm (M:=I'++[.blk b11 (.cells ds.toArray ab)]) (List.perm_append_comm (l₂:=[_]))
    obtain ⟨S3,hI,hE3,hb11⟩:=hI.pub1
    refine dM (by decide +kernel) (by rw [hI.cellS (hE3.1 _ _ (hle _ _ hb8))]; rfl) ?_
    refine Run.callE (A:=I') (I:=[]) vi vv (by simpa using hI) (ED (hE3.1 _ _ (hE'.1 _ _ hm))) fun v' J' S4 w'=>?_
    rintro ⟨e4,nb,rfl,rfl⟩ _ hI
    rw [e4] at hI
    clear e4
    have hk3:=(hk.mono hE'.1).mono hE3.1
    have hds3:=hds.mono hE3.1
    have hS1':=hE3.1 _ _ (hE'.1 _ _ hS1)
    have hR1':=(hR1.mono hE'.1).mono hE3.1
    obtain ⟨r,hr⟩:∃ r,r=bK g facts[k] st:=⟨_,rfl⟩
    have hb5':=hE3.1 _ _ (hle _ _ hb5)
    refine ⟨fun D eE ek eF dX dY hH ew eN w_=>(D 0=true->eN=.agg ds.toArray)/\(D 1=true->ew=.pointer (some ⟨b5,4,none⟩))/\(D 2=true->hH=.slice (some ⟨b1,o1,none⟩) c0.body.length cap1)/\(D 3=true->dY=.int .i64 i)/\(D 4=true->dX=.pointer (some ⟨b1,o1+i * 4,none⟩))/\(D 5=true->eF=.agg (bu c1 (o1+i * 4) 4).toArray)/\(D 6=true->ek=.map (some nb))/\(D 7=true->eE=.bool r.1)/\∃ es' ck',(D 7=false->KnownM S3 es' st)/\(D 7=true->KnownM S3 es' r.2)/\Inv w X (I'++[.blk nb (.map es' ck')]) S3 w_,⟨ae,ae,ae,ae,ae,ae,ae,ae,⟨es,ck,fun _=>hk3,ae,hI.draw⟩⟩,⟨?_,?_,?_,?_,?_,?_,?_,?_,trivial⟩,?_⟩
    ·intro D aY  eE ek eF dX dY hH ew eN w_
     rintro ⟨aA,aB,aC,aD,aw,aE,aF,aJ,⟨es',ck',kf,kt,hI⟩⟩
     refine cV (cs:=ds) ai hds.length (fun j v hj=>by rw [hI.cellS hb11,Nat.zero_add]; simpa using hj) ?_
     exact ⟨fun _=>rfl,aB,aC,aD,aw,aE,aF,aJ,⟨es',ck',kf,kt,hI⟩⟩
    ·intro D aY  eE ek eF dX dY hH ew eN w_
     rintro ⟨aA,aB,aC,aD,aw,aE,aF,aJ,⟨es',ck',kf,kt,hI⟩⟩
     refine bh bq ?_
     exact ⟨aA,fun _=>rfl,aC,aD,aw,aE,aF,aJ,⟨es',ck',kf,kt,hI⟩⟩
    ·intro D aY dC eE ek eF dX dY hH ew eN w_
     rintro ⟨aA,aB,aC,aD,aw,aE,aF,aJ,⟨es',ck',kf,kt,hI⟩⟩
     obtain rfl:=aB dC
     refine dM aP (by rw [hI.cellS hb5']; rfl) ?_
     exact ⟨aA,aB,fun _=>rfl,aD,aw,aE,aF,aJ,⟨es',ck',kf,kt,hI⟩⟩
    ·intro D aY  eE ek eF dX dY hH ew eN w_
     rintro ⟨aA,aB,aC,aD,aw,aE,aF,aJ,⟨es',ck',kf,kt,hI⟩⟩
     exact ⟨aA,aB,aC,fun _=>rfl,aw,aE,aF,aJ,⟨es',ck',kf,kt,hI⟩⟩
    ·intro D aY eq mO eE ek eF dX dY hH ew eN w_
     rintro ⟨aA,aB,aC,aD,aw,aE,aF,aJ,⟨es',ck',kf,kt,hI⟩⟩
     obtain rfl:=aC eq
     obtain rfl:=aD mO
     refine bi av hib ?_
     exact ⟨aA,aB,aC,aD,fun _=>rfl,aE,aF,aJ,⟨es',ck',kf,kt,hI⟩⟩
    ·intro D aY cR eE ek eF dX dY hH ew eN w_
     rintro ⟨aA,aB,aC,aD,aw,aE,aF,aJ,⟨es',ck',kf,kt,hI⟩⟩
     obtain rfl:=aw cR
     refine cV ai hR1'.length (fun j v hj=>by rw [hI.cellS hS1']; exact bm rfl j v hj) ?_
     exact ⟨aA,aB,aC,aD,aw,fun _=>rfl,aF,aJ,⟨es',ck',kf,kt,hI⟩⟩
    ·intro D aY  eE ek eF dX dY hH ew eN w_
     rintro ⟨aA,aB,aC,aD,aw,aE,aF,aJ,⟨es',ck',kf,kt,hI⟩⟩
     exact ⟨aA,aB,aC,aD,aw,aE,fun _=>rfl,aJ,⟨es',ck',kf,kt,hI⟩⟩
    ·intro D aY cc km mo eE ek eF dX dY hH ew eN w_
     rintro ⟨aA,aB,aC,aD,aw,aE,aF,aJ,⟨es',ck',kf,kt,hI⟩⟩
     obtain rfl:=aA cc
     obtain rfl:=aE km
     obtain rfl:=aF mo
     refine Run.callE (A:=I') qp qi hI (zm g facts[k] S3 _ _ nb ck' es' st hR1' hds3 hg.ok.1 hfk.ok.2.1 hst.ok.1 (kf aY)) fun v' J' S5 w_=>?_
     rw [<- hr]
     rintro ⟨e5,rfl,es',ck',rfl,hk2⟩ _ hI
     rw [e5] at hI
     clear e5
     have kf:=fun (e:ay D 7 7=false)=>(Bool.noConfusion e:KnownM S3 es' st)
     have kt:=fun (_:ay D 7 7=true)=>hk2
     exact ⟨aA,aB,aC,aD,aw,aE,aF,fun _=>rfl,⟨es',ck',kf,kt,hI⟩⟩
    intro D fT fY fE fm fw fF fC fD eE ek eF dX dY hH ew eN w_
    rintro ⟨aA,aB,aC,aD,aw,aE,aF,aJ,⟨es',ck',kf,kt,hI⟩⟩
    obtain rfl:=aJ fT
    obtain rfl:=aF fY
    obtain rfl:=aE fE
    obtain rfl:=aw fm
    obtain rfl:=aD fw
    obtain rfl:=aC fF
    obtain rfl:=aB fC
    obtain rfl:=aA fD
    clear aA aB aC aD aw aE aF aJ
    have hk2:=kt fT
    clear kf kt
    refine a8 (fun hb=>?_) (fun hb=>?_)
    ·have hFo:F facts[k]=eM c0.head facts gs r.2:=by rw [hF2,<- hr,if_pos hb]
     rw [hFo] at hcan' ⊢
     obtain ⟨S5,hI,hE5,hnb⟩:=hI.pub1
     have hEa:=hE3.trans hE5
     refine cV (cs:=[.int .i64 c0.head.kind,.int .i64 c0.head.n,.string c0.head.name,kv,.slice (some ⟨b1,o1,none⟩) c0.body.length cap1]) bF rfl (fun j v hj=>by rw [hI.cellS (hE5.1 _ _ hb5'),Nat.zero_add]; simpa [Value.cells] using hj) ?_
     refine bL (by omega) ?_
     have hst2:StF r.2:=by rw [hr]; exact (j2 hg hfk hst).1
     have hc2:ir c0.head gs r.2:=by rw [hr]; exact kH hc hg hfk hst (by rw [<- hr]; exact hb)
     have hSa:=hE'.1.trans hEa.1
     have hI:Inv w X ([]++I') S5 w_:=hI
     refine Run.callE (A:=[]) my mE hI (ih (i+1) (by omega) hge.2 S5 _ _ nb _ _ s' I' r.2 _ (ht.mono hSa) (h0.mono hSa) (hf.monoT hSa) hnb (hk2.mono hE5.1) hst2 hc2 (ht.up _ _ _ _ hEa.1 hIt') hcan') fun v' J' S6 w'=>?_
     rintro ⟨rfl,hIt2,hcan2⟩ hE6 hI
     exact ⟨_,S6,hIt2,hcan2,hEa.trans hE6,hI⟩
    ·have hFo:F facts[k]=[]:=by rw [hF2,<- hr,if_neg (by rw [hb]; decide)]
     rw [hFo] at hcan' ⊢
     rw [List.length_nil,Nat.zero_add] at hcan'
     exact ⟨_,S3,ht.up _ _ _ _ hE3.1 hIt',hcan',hE3,hI.sub (List.sublist_append_left _ _)⟩
   intro _ _ _ _ _ _ _ _ _ _ _ _ _ _ _ _ _ _ _ _ _ w'
   rintro ⟨I2,S5,hIt2,hcan2,hE5,hI⟩
   refine bL (by omega) ?_
   exact ⟨⟨k+1,_,I2,S5,hk',rfl,hrel,hcan2,hIt2,hE'.trans hE5,hle.trans hE5.1,hI⟩,by simp [intOf]; omega⟩
  ·have:k=facts.length:=by omega
   subst this
   rw [List.drop_length] at hrel hcan'
   simp only [List.flatMap_nil,List.foldl_nil,List.length_nil,Nat.zero_add] at hrel hcan'
   rw [<- hrel]
   exact ⟨_,_,_,rfl,hI,hE',rfl,hIt',hcan'⟩
end

end Go.Proofs.YtemmhhdnlbmicaaGreat

/- impl.insert; a round's function that is told facts. -/
namespace Go.Proofs.YtemmhhdnlbmicaaGreat
open Go Go.RowKit
theorem Rows.insert {α:Type} {k:Nat} {R:List Value->α->Prop} {css:List (List Value)} {ys:List α} (h:Rows k R css ys) {cs:List Value} {y:α} (hR:R cs y) (hl:cs.length=k) (i:Nat) :
  Rows k R (css.take i++cs::css.drop i) (ys.take i++y::ys.drop i):=by
 have h1:Rows k R (css.take i) (ys.take i):=⟨by simp [h.hc],fun c hc=>h.hk c (List.mem_of_mem_take hc),fun j h2 h3=>by
  rw [List.getElem_take,List.getElem_take]
  exact h.hR j _ _⟩
 have h2:Rows k R (css.drop i) (ys.drop i):=⟨by simp [h.hc],fun c hc=>h.hk c (List.mem_of_mem_drop hc),fun j h2 h3=>by
  rw [List.getElem_drop,List.getElem_drop]
  exact h.hR (i+j) _ _⟩
 have:=(h1.append (Rows.one hR hl)).append h2
 simpa using this
theorem RdT.oneRows {S:az} {css:List (List Value)} {ys:List T} (h:Rows 4 (RdT S) css ys):∀ c∈css,∀ u∈c,u.oneCell'=true:=by
 intro c hc
 obtain ⟨j,hj,rfl⟩:=List.mem_iff_getElem.1 hc
 have e:=h.hc
 exact (h.hR j (by omega) hj).one
theorem CL {w:World} {v:Value} {e:TypeId} {k n:Nat} {xs:List Value} (h:(Item.row v e k n xs).holds w):v.cells=#[v]/\v.oneCell'=true:=by
 have h:w.ownsRow 0 e k v n xs:=h
 rcases h.2 with ⟨rfl,_⟩|⟨g,cap,cur,rfl,_⟩ <;> exact ⟨rfl,rfl⟩
section
attribute [local irreducible] Run CondV aj bd
theorem zM {l:List T} {t:T} {S:az} {v:Value} {css:List (List Value)} {cs:List Value} (hR:Rows 4 (RdT S) css l) (hcs:RdT S cs t) (hl:∀ x∈l,okO x) (ht:okO t) (hs:Sorted l) (hn:l.length<=100000000) (hw:wT t<=1048576) :
  Tri Tryz.prog HI [v,.agg cs.toArray] [bj v ab 4 css] S fun r I' S'=>∃ css',I'=[bj r ab 4 css']/\Rows 4 (RdT S') css' (eJ l t):=by
 intro w hI
 have hlc:=hcs.length
 have hcl:=hR.hc
 obtain ⟨X,hX⟩:∃ X,X=bV [bj v ab 4 css]:=⟨_,rfl⟩
 rw [<- hX] at hI ⊢
 refine Aw ?_
 unfold vZ
 refine bM hI fun b1 w' hI=>?_
 have hI:Inv w X ([.blk b1 (.cells cs.toArray ab)]++[bj v ab 4 css]) S w':=hI.perm (List.perm_append_comm (l₁:=[_]))
 refine ba hI 0 ai rfl (by simpa using hlc) ?_
 obtain ⟨S1,hle1,hrd,hI1,hback⟩:=Inv.lend (A:=[_]) hI
 have hrows:=RowRd.rows (hR.monoR fun _ _ h=>RdT.mono hle1 h) hrd
 obtain ⟨i,hpos,hcall⟩:=rA hrows (hcs.mono hle1) hl ht hs hn
 refine Run.callPure j5 j1 hI1 hcall fun w' hI1=>?_
 have hI:=hback _ _ hI1
 refine bb rfl ?_
 refine bb rfl ?_
 refine a8 (fun hb=>?_) (fun hb=>?_)
 ·have hb':rz l t i=true:=hb
  rw [rz] at hb'
  split at hb'
  ·rename_i hi
   rw [L0 hpos hi hb']
   exact ⟨_,_,_,rfl,hI.pick [false,true],Ext.refl _ _ _,css,rfl,hR⟩
  ·cases hb'
 ·have hb':rz l t i=false:=hb
  have hnew:eJ l t=l.take i++t::l.drop i:=M2 hpos fun hi=>by
   rw [rz,dif_pos hi] at hb'
   exact hb'
  have hil:=hpos.1
  refine ba hI 0 ai rfl (by simpa using hlc) ?_
  refine Run.call0E G8 Gq hI (CJ t S cs hcs hw) fun v' I' S' w'=>?_
  rintro ⟨rfl,cs',L,rfl,rfl,hT⟩ _ hI
  obtain ⟨S2,hI,hE2,hins⟩:=Inv.pubExt hI
  have hrd:=TrT.rd hT hins
  refine fb hI bD (by simp [Value.cells,hrd.length]) (by decide) (by decide) fun ub w' hI=>?_
  have hI:Inv w X ([.blk b1 (.cells cs.toArray ab)]++[bj v ab 4 css,.blk ub (.cells cs'.toArray ab)]) S2 w':=hI
  refine Run.callE (A:=[_]) uS uI hI (DH hR.hk (RdT.oneRows hR) hrd.length hrd.one (by omega) (by omega)) fun r I' S3 w'=>?_
  rintro ⟨e3,rfl⟩ _ hI
  rw [e3] at hI
  refine ⟨_,_,_,rfl,hI.pick [false,true],hE2,_,rfl,?_⟩
  rw [hnew]
  exact (hR.monoR fun _ _ h=>RdT.mono hE2.1 h).insert hrd hrd.length i
def ItR (b:Nat) (s:List T) (S:az) (I:List Item):Prop:=Fs s/\∃ v css,I=[.blk b (.cells #[v] cd),bj v ab 4 css]/\Rows 4 (RdT S) css s
def MR (s:List T) (n:Nat):Prop:=s.length+n<=100000000
theorem Nd {S0:az} {b:Nat}:Tell G1 Tryz.f132 [.pointer (some ⟨b,0,none⟩)] (ItR b) MR eJ S0:=by
 refine ⟨E5,DZ,fun s S S' I hle h=>?_,fun s x n hx h=>?_,fun S s x cs I n hle hx hcs hIt hcan w hI=>?_⟩
 ·obtain ⟨h1,v,css,h2,h3⟩:=h
  exact ⟨h1,v,css,h2,h3.monoR fun _ _ h=>RdT.mono hle h⟩
 ·unfold MR at h ⊢
  have:=zN s x
  omega
 ·obtain ⟨hFs,v,css,rfl,hR⟩:=hIt
  unfold MR at hcan
  have hlc:=hcs.length
  obtain ⟨X,hX⟩:∃ X,X=bV [Item.blk b (.cells #[v] cd),bj v ab 4 css]:=⟨_,rfl⟩
  rw [<- hX] at hI ⊢
  refine xu ?_
  unfold tY
  refine bM hI fun b1 w' hI=>?_
  have hI:Inv w X [.blk b1 (.cells cs.toArray ab),.blk b (.cells #[v] cd),bj v ab 4 css] S w':=hI.perm (List.perm_append_comm (l₁:=[_]))
  refine bH hI 1 aP rfl rfl ?_
  refine ba hI 0 ai rfl (by simpa using hlc) ?_
  have hok:=hx.ok
  have hI:Inv w X ([.blk b1 (.cells cs.toArray ab),.blk b (.cells #[v] cd)]++[bj v ab 4 css]) S w':=hI
  refine Run.callE FS Hy hI (zM hR hcs hFs.okO hok.2.2.1 hFs.sorted (by omega) (by omega)) fun r I' S1 w'=>?_
  rintro ⟨css',rfl,hR'⟩ hE hI
  have hI:Inv w X [.blk b1 (.cells cs.toArray ab),.blk b (.cells #[v] cd),bj r ab 4 css'] S1 w':=hI
  have hr:r.cells=#[r]/\r.oneCell'=true:=CL (hI.its (bj r ab 4 css') (by simp))
  refine el hI 1 (n:=1) (by rw [hr.1]; rfl) (by decide +kernel) rfl (by simp) (by rw [hr.1]; intro u hu; simp at hu; subst hu; exact hr.2) fun w' hI=>?_
  have hI:Inv w X [.blk b1 (.cells cs.toArray ab),.blk b (.cells (bp #[v] 0 r.cells.toList) cd),bj r ab 4 css'] S1 w':=hI
  have e:bp #[v] 0 r.cells.toList=#[r]:=by rw [hr.1]; rfl
  rw [e] at hI
  refine ⟨_,_,_,rfl,hI.pick [false,true,true],hE,rfl,⟨o6 hFs.sorted hFs.okO hok.2.2.1,fun y hy=>?_⟩,r,css',rfl,hR'⟩
  rcases oV hy with hy|rfl
  ·exact hFs.fct y hy
  ·exact hx
end

end Go.Proofs.YtemmhhdnlbmicaaGreat

/- impl: rounds and stages. -/
namespace Go.Proofs.YtemmhhdnlbmicaaGreat
open Go Go.RowKit
theorem r4 {p:List C} (h:f1 p=true):Pf p:=by
 have h0:=h
 rw [f1,Bool.and_eq_true,List.all_eq_true] at h
 have h1:=h.1
 rw [n4] at h1
 simp only [Bool.and_eq_true,decide_eq_true_eq] at h1
 refine ⟨h1.1,pu h0,fun c hc=>?_⟩
 have h2:=h.2 c hc
 rw [gF] at h2
 simp only [Bool.and_eq_true,decide_eq_true_eq] at h2
 exact h2.2.1
def lenV:Value->Nat
 | .slice _ n _=>n
 | _=>0
theorem RdSl.lenV {α:Type} {S:az} {k:Nat} {R:List Value->α->Prop} {v:Value} {xs:List α} (h:RdSl S k R v xs):lenV v=xs.length:=by
 obtain ⟨a,cap,rfl,_⟩:=h
 rfl
abbrev yJ (ys:List T) (b:Bool):Value->List Item->az->Prop:=fun r I' _=>∃ u L,r=.tuple #[u,.bool b]/\I'=bP L/\TrSl 4 TrT L u ys
theorem Kf {w:World} {v:Value} {e:TypeId} {k n:Nat} {xs:List Value} (h:(Item.row v e k n xs).holds w):∃ a cap,v=.slice a n cap:=by
 have h:w.ownsRow 0 e k v n xs:=h
 rcases h.2 with ⟨rfl,rfl⟩|⟨g,cap,cur,rfl,_⟩ <;> exact ⟨_,_,rfl⟩
section
attribute [local irreducible] Run CondV aj bd
theorem B5 {p:List C} {f:List T} {S:az} {v u:Value} (h:RdSl S 5 (RdC S) v p) (hq:RdSl S 4 (RdT S) u f) (hp:Pf p) (hf:Fs f) (hl:f.length<=60) :
  Tri Tryz.prog Kr [v,u] [] S fun r I' S'=>I'=[]/\∃ x,r=.tuple #[x,.bool (decide ((gB p f).length<=60))]/\RdSl S' 4 (RdT S') x (gB p f):=by
 intro w hI
 have hlen:=hp.len
 have hI:Inv w [] [] S w:=hI
 refine Bf ?_
 unfold zV
 refine Run.call0 xD xz hI (uE hq (by omega)) fun x0 I' S' w'=>?_
 rintro ⟨eS,css,rfl,hR⟩ _ hI
 rw [eS] at hI
 clear eS
 have hz:iq Tryz.prog cd=some (.slice none 0 0):=by kernel_rfl
 refine bw hI hz fun b6 w' hI=>?_
 have hI:=hI.perm (M:=.blk b6 _::[bj x0 ab 4 css]) (List.perm_append_comm (l₁:=[_]))
 have hx0:=CL (hI.its (bj x0 ab 4 css) (by simp))
 refine el hI 0 (n:=1) (by rw [hx0.1]; rfl) (by decide +kernel) rfl (by simp [Value.cells]) (by rw [hx0.1]; intro u hu; simp at hu; subst hu; exact hx0.2) fun w' hI=>?_
 have e:bp (Value.slice none 0 0).cells 0 x0.cells.toList=#[x0]:=by rw [hx0.1]; rfl
 rw [e] at hI
 have hI:Inv w [] [.blk b6 (.cells #[x0] cd),bj x0 ab 4 css] S w':=hI
 refine a9 h cC ?_
 refine ⟨fun i w'=>∃ (j:Nat) (S':az) (I':List Item),j<=p.length/\i=.int .i64 j/\Ext w.heap.size [] S S'/\ItR b6 ((f0 (p.take j) f).foldl eJ f) S' I'/\Inv w [] I' S' w',
  fun i _=>p.length - (intOf i).toNat,⟨0,S,_,Nat.zero_le _,rfl,Ext.refl _ _ _,⟨hf,x0,css,rfl,hR⟩,hI⟩,?_⟩
 intro t13 _ _ _ _ _ _ _ _ _ _ w'
 rintro ⟨j,S',I',hj,rfl,hE,hIt,hI⟩
 refine bR ?_
 refine bk (fun hji=>?_) (fun hji=>?_)
 ·have hj':j<p.length:=by omega
  obtain ⟨hp1,hp2,hp3⟩:=hp.parts _ (List.getElem_mem hj')
  have h3:=hp.three _ (List.getElem_mem hj')
  refine dG hI (h.monoC hE.1) cC bF hj' (fun _ _=>RdC.length) fun cs hcs=>?_
  have hlc:=hcs.length
  refine bw hI eI fun b7 w' hI=>?_
  have hI:=hI.perm (M:=.blk b7 _::I') (List.perm_append_comm (l₁:=[_]))
  refine bf hI 0 rfl bF (by simpa using hlc) rfl (by simpa using hcs.one) fun w' hI=>?_
  refine ba hI 0 bF rfl (by simpa using hlc) ?_
  have hI:Inv w [] I' S' w':=hI.sub (List.sublist_cons_self _ _)
  refine Db hI fun mb w' hI=>?_
  obtain ⟨S2,hI,hE2,hmb⟩:=hI.pub1
  refine ip ?_
  have hI:Inv w [] ([]++I') S2 w':=hI
  have hle:=hE.1.trans hE2.1
  have hb1:=CS hp hl j (by omega)
  have hb2:=Fj h3 hl
  have hb3:=oo (f0 (p.take j) f) f
  have hIt2:=(Nd (b:=b6) (S0:=S2)).up _ _ _ _ hE2.1 hIt
  refine Run.callE (A:=[]) my mE hI (qr p[j] f hp1 hf.fct hp2 p[j].body 0 (by simp) rfl S2 cs _ mb 0 #[] _ _ st0 0 (Nd (b:=b6)) (hcs.mono hE2.1) (hq.monoT hle) hmb (KnownM.empty S2) AN hp3 hIt2 (by unfold MR; omega)) fun v' I3 S3 w'=>?_
  rintro ⟨rfl,hIt3,_⟩ hE3 hI
  refine bL (by omega) ?_
  refine ⟨⟨j+1,S3,I3,hj',rfl,(hE.trans hE2).trans hE3,?_,hI⟩,by simp [intOf]; omega⟩
  rw [rn p f j hj',List.foldl_append]
  exact hIt3
 ·have:j=p.length:=by omega
  subst this
  rw [List.take_length] at hIt
  obtain ⟨hFs,x,css2,rfl,hR2⟩:=hIt
  have hcl:=hR2.hc
  obtain ⟨ax,capx,rfl⟩:=Kf (hI.its (bj x ab 4 css2) (by simp))
  refine ⟨fun D x5 x4 bW bQ bU cA w_=>(D 0=true->cA=.slice ax css2.length capx)/\(D 1=true->bU=.slice ax css2.length capx)/\(D 2=true->bQ=.int .i64 css2.length)/\(D 3=true->bW=.bool (decide ((css2.length:Int)<=60)))/\(D 4=true->x4=.slice ax css2.length capx)/\(D 5=true->x5=.bool (decide ((css2.length:Int)<=60)))/\Inv w [] [.blk b6 (.cells #[.slice ax css2.length capx] cd),bj (.slice ax css2.length capx) ab 4 css2] S' w_,⟨ae,ae,ae,ae,ae,ae,hI.draw⟩,⟨?_,?_,?_,?_,?_,?_,trivial⟩,?_⟩
  ·intro D aY  x5 x4 bW bQ bU cA w_
   rintro ⟨aA,aB,aC,aD,aw,aE,hI⟩
   refine bH hI 0 aP rfl rfl ?_
   exact ⟨fun _=>rfl,aB,aC,aD,aw,aE,hI⟩
  ·intro D aY  x5 x4 bW bQ bU cA w_
   rintro ⟨aA,aB,aC,aD,aw,aE,hI⟩
   refine bH hI 0 aP rfl rfl ?_
   exact ⟨aA,fun _=>rfl,aC,aD,aw,aE,hI⟩
  ·intro D aY dC x5 x4 bW bQ bU cA w_
   rintro ⟨aA,aB,aC,aD,aw,aE,hI⟩
   obtain rfl:=aB dC
   refine fx av ?_
   exact ⟨aA,aB,fun _=>rfl,aD,aw,aE,hI⟩
  ·intro D aY eq x5 x4 bW bQ bU cA w_
   rintro ⟨aA,aB,aC,aD,aw,aE,hI⟩
   obtain rfl:=aC eq
   refine fK ?_
   exact ⟨aA,aB,aC,fun _=>rfl,aw,aE,hI⟩
  ·intro D aY cc OJ x5 x4 bW bQ bU cA w_
   rintro ⟨aA,aB,aC,aD,aw,aE,hI⟩
   obtain rfl:=aA cc
   exact ⟨aA,aB,aC,aD,fun _=>rfl,aE,hI⟩
  ·intro D aY dB dJ oI sL ui rQ tD x5 x4 bW bQ bU cA w_
   rintro ⟨aA,aB,aC,aD,aw,aE,hI⟩
   obtain rfl:=aD dB
   exact ⟨aA,aB,aC,aD,aw,fun _=>rfl,hI⟩
  intro D fE fm fw fF fC fD x5 x4 bW bQ bU cA w_
  rintro ⟨aA,aB,aC,aD,aw,aE,hI⟩
  obtain rfl:=aE fE
  obtain rfl:=aw fm
  obtain rfl:=aD fw
  obtain rfl:=aC fF
  obtain rfl:=aB fC
  obtain rfl:=aA fD
  clear aA aB aC aD aw aE
  have hI:Inv w [] ([.blk b6 (.cells #[.slice ax css2.length capx] cd)]++[bj (.slice ax css2.length capx) ab 4 css2]) S' w_:=hI
  obtain ⟨S3,hE3,hrd,hI⟩:=hI.lendExt
  have hr:=RowRd.rows (hR2.monoR fun _ _ h=>RdT.mono hE3.1 h) hrd
  refine ⟨_,_,_,rfl,hI.nil,hE.trans hE3,rfl,_,?_,hr⟩
  have e1:(gB p f).length=css2.length:=by rw [hcl]; rfl
  have e2:decide ((css2.length:Int)<=60)=decide ((gB p f).length<=60):=by
   rw [e1,Bool.eq_iff_iff,decide_eq_true_eq,decide_eq_true_eq]
   omega
  rw [e2]
theorem A6 {p:List C} {S:az} {v:Value} (h:RdSl S 5 (RdC S) v p) (hw:wP p<=1048576) (k:Nat) (hk:k<=9223372036854775807) :
  Tri Tryz.prog Jh [v,.int .i64 k] [] S fun r I' S'=>I'=[]/\((f1 p=true/\∃ x f n,stI p k [] 0=some (f,n)/\r=.tuple #[x,.int .i64 (n:Nat),.bool true]/\RdSl S' 4 (RdT S') x f) ∨
   ((f1 p=false ∨ stI p k [] 0=none)/\r=.tuple #[.slice none 0 0,.int .i64 0,.bool false])):=by
 intro w hI
 have hI:Inv w [] [] S w:=hI
 refine AK ?_
 unfold wB
 refine Run.callPure mp lM hI (j4 h hw) fun w' hI=>?_
 refine cF ?_
 refine a8 (fun hb=>?_) (fun hb=>?_)
 ·exact ⟨_,_,_,rfl,hI,Ext.refl _ _ _,rfl,.inr ⟨.inl (by simpa using hb),rfl⟩⟩
 have hfl:f1 p=true:=by simpa using hb
 have hp:=r4 hfl
 refine ⟨fun t8 t7 w'=>∃ (n:Nat) (f:List T) (S':az),t8=.int .i64 n/\RdSl S' 4 (RdT S') t7 f/\stI p k [] 0=some (f,n)/\Ext w.heap.size [] S S'/\Inv w [] [] S' w',?_,?_⟩
 ·refine ⟨fun t8 t7 w'=>∃ (n:Nat) (f:List T) (S':az),t8=.int .i64 n/\n<=k/\RdSl S' 4 (RdT S') t7 f/\Fs f/\f.length<=60/\stI p (k - n) f n=stI p k [] 0/\Ext w.heap.size [] S S'/\Inv w [] [] S' w',
   fun _ t7 _=>61 - lenV t7,⟨0,[],S,rfl,Nat.zero_le _,⟨none,0,rfl,Nat.le_refl _,Nat.zero_le _,.inl rfl⟩,Fs.nil,by simp,rfl,Ext.refl _ _ _,hI⟩,?_⟩
  intro t8 _ _ t7 _ _ _ _ _ _ _ _ _ _ _ _ _ _ _ _ _ _ _ _ _ _ w'
  rintro ⟨n,f,S',rfl,hnk,hq,hF,hl,hst,hE,hI⟩
  refine bR ?_
  refine bk (fun hnk'=>?_) (fun hnk'=>?_)
  ·have hnk2:n<k:=by omega
   rw [show k - n=(k - (n+1))+1 by omega,stI] at hst
   refine Run.call0E H1 Jo hI (B5 (h.monoC hE.1) hq hp hF hl) fun v' I' S2 w'=>?_
   rintro ⟨rfl,x,rfl,hx⟩ hE2 hI
   have hI:Inv w [] [] S2 w':=hI
   have hE3:=hE.trans hE2
   refine bb rfl ?_
   refine bb rfl ?_
   refine cF ?_
   refine a8 (fun hb=>?_) (fun hb=>?_)
   ·have hb':¬ (gB p f).length<=60:=by simpa using hb
    rw [if_pos (by omega)] at hst
    exact ⟨_,_,_,rfl,hI,hE3,rfl,.inr ⟨.inr hst.symm,rfl⟩⟩
   ·have hb':(gB p f).length<=60:=by simpa using hb
    rw [if_neg (by omega)] at hst
    refine a9 hx av ?_
    refine a9 (hq.monoT hE2.1) av ?_
    refine bO ?_
    refine bk (fun he=>?_) (fun he=>?_)
    ·rw [if_pos (by omega)] at hst
     exact ⟨n,f,S2,rfl,hq.monoT hE2.1,hst.symm,hE3,hI⟩
    ·rw [if_neg (by omega)] at hst
     have hgr:=(oo (f0 p f) f).1
     have hgr:f.length<=(gB p f).length:=hgr
     refine bL (by omega) ?_
     refine ⟨⟨n+1,_,S2,rfl,hnk2,hx,KX hp hF,hb',hst,hE3,hI⟩,?_⟩
     show 61 - lenV x<61 - lenV t7
     rw [hx.lenV,hq.lenV]
     omega
  ·have:n=k:=by omega
   subst this
   rw [Nat.sub_self,stI] at hst
   exact ⟨n,f,S',rfl,hq,hst.symm,hE,hI⟩
 ·intro t8 _ _ t7 _ _ _ _ _ _ _ _ _ _ _ _ _ _ _ _ _ _ _ _ _ _ w'
  rintro ⟨n,f,S',rfl,hq,hst,hE,hI⟩
  exact ⟨_,_,_,rfl,hI,hE,rfl,.inl ⟨hfl,t7,f,n,hst,rfl,hq⟩⟩
theorem rD {p:List C} {S:az} {v:Value} (h:RdSl S 5 (RdC S) v p) (hw:wP p<=1048576) (r:Int) (hr:r<=9223372036854775807) :
  Tri Tryz.prog zP [v,.int .i64 r] [] S (yJ (dx p r).1 (dx p r).2):=by
 intro w hI
 have hI:Inv w [] [] S w:=hI
 refine rq ?_
 unfold ne
 refine bR ?_
 refine bk (fun hr0=>?_) (fun hr0=>?_)
 ·have e:dx p r=([],false):=by
   rw [dx,decide_eq_true (by omega:r<0),Bool.not_true,Bool.and_false,if_neg (by decide)]
  rw [e]
  exact ⟨_,_,_,rfl,hI,Ext.refl _ _ _,_,[],rfl,rfl,TrSl.nil (Nat.zero_le _)⟩
 have hr0':0<=r:=by omega
 obtain ⟨k,rfl⟩:∃ k:Nat,r=k:=⟨r.toNat,by omega⟩
 refine Run.call0E Gh Hd hI (A6 h hw k (by omega)) fun v' I' S2 w'=>?_
 rintro ⟨rfl,hcase⟩ hE hI
 have hI:Inv w [] [] S2 w':=hI
 have key:∃ x n,v'=.tuple #[x,.int .i64 n,.bool (dx p k).2]/\RdSl S2 4 (RdT S2) x (dx p k).1:=by
  rcases hcase with ⟨hfl,x,f,n,hst,rfl,hx⟩|⟨hno,rfl⟩
  ·rcases FY p (k:Int) with ⟨h1,h2⟩|⟨h1,h2⟩
   ·rw [Int.toNat_natCast,hst] at h1; cases h1
   ·rw [Int.toNat_natCast,hst,Option.some.injEq] at h1
    have e:dx p k=((stS p (gQ k) [] 0).1,true):=by
     rw [dx,hfl,decide_eq_false (by omega),if_pos (by decide),if_pos h2]
    rw [e,<- h1]
    exact ⟨x,n,rfl,hx⟩
  ·have e:dx p k=([],false):=by
    rcases hno with hno|hno
    ·rw [dx,hno,Bool.false_and,if_neg (by decide)]
    ·rcases FY p (k:Int) with ⟨h1,h2⟩|⟨h1,h2⟩
     ·rw [dx]
      split
      ·rw [if_neg (by omega)]
      ·rfl
     ·rw [Int.toNat_natCast,hno] at h1; cases h1
   rw [e]
   exact ⟨_,0,rfl,none,0,rfl,Nat.le_refl _,Nat.zero_le _,.inl rfl⟩
 obtain ⟨x,n,rfl,hx⟩:=key
 have hsw:=GP (fun h=>r4 h) (p:=p) (k:Int)
 refine bb rfl ?_
 refine bb rfl ?_
 refine bb rfl ?_
 refine Run.call0E uh tZ hI (BM hx (by omega)) fun v' I' S3 w'=>?_
 rintro ⟨rfl,L,rfl,hT⟩ hE2 hI
 have hI:Inv w [] (bP L) S3 w':=hI
 exact ⟨_,_,_,rfl,hI,hE.trans hE2,_,L,rfl,rfl,hT⟩
theorem rh {p:List C} {S:az} {v:Value} (h:RdSl S 5 (RdC S) v p) (hw:wP p<=1048576) :
  Tri Tryz.prog z3 [v] [] S (yJ (dx p 61).1 (dx p 61).2):=by
 intro w hI
 have hI:Inv w [] [] S w:=hI
 refine rH ?_
 unfold m8
 refine Run.call0E yb yy hI (rD h hw 61 (by omega)) fun v' I' S2 w'=>?_
 rintro ⟨u,L,rfl,rfl,hT⟩ hE hI
 have hI:Inv w [] (bP L) S2 w':=hI
 refine bb rfl ?_
 refine bb rfl ?_
 exact ⟨_,_,_,rfl,hI,hE,_,L,rfl,rfl,hT⟩
end

end Go.Proofs.YtemmhhdnlbmicaaGreat

/- impl.ModelClosed. -/
namespace Go.Proofs.YtemmhhdnlbmicaaGreat
open Go Go.RowKit
theorem Gj (q:T->Bool):∀ (l:List T) (s:Bool),l.foldl (fun s x=>s && q x) s=(s && l.all q)
 | [],s=>by simp
 | x::l,s=>by rw [List.foldl_cons,Gj q l,List.all_cons,Bool.and_assoc]
section
attribute [local irreducible] Run CondV aj bd
theorem Ea {t:T} {S:az} {cs:List Value} (h:RdT S cs t) (hw:wT t<=1048576):Pure Tryz.prog HL [.agg cs.toArray] S (.bool (iT t)):=by
 intro w hI
 have hlc:=h.length
 have hcn:=vz t
 refine zd ?_
 unfold wh;dsimp only
 refine bM hI fun b1 w' hI=>?_
 refine ba hI 0 ai rfl (by simpa [Value.cells] using hlc) ?_
 refine Run.callPure kq jO hI (iy h) fun w' hI=>?_
 rw [iT]
 cases hv:ez t
 ·repeat (first|refine ad ?_|refine af (by decide) ?_|refine ac ?_|refine ah ?_|refine ag ?_)
  exact done hI rfl
 ·repeat (first|refine ad ?_|refine af (by decide) ?_|refine ac ?_|refine ah ?_|refine ag ?_)
  refine ba hI 0 ai rfl (by simpa [Value.cells] using hlc) ?_
  refine Run.callPure oZ oY hI (mJ h) fun w' hI=>?_
  cases hf:ex t
  ·repeat (first|refine ad ?_|refine af (by decide) ?_|refine ac ?_|refine ah ?_|refine ag ?_)
   exact done hI rfl
  ·repeat (first|refine ad ?_|refine af (by decide) ?_|refine ac ?_|refine ah ?_|refine ag ?_)
   refine ba hI 0 ai rfl (by simpa [Value.cells] using hlc) ?_
   have hI:=hI.rowNil ff 1
   refine Run.call (A:=[_]) jq jo hI (ly _ S cs (.slice none 0 0) [] h (by simp only [List.length_nil]; omega)) fun v' I' S' w'=>?_
   rintro ⟨rfl,rfl⟩ _ hI
   obtain ⟨S1,hle1,hrd,hI,_⟩:=Inv.lend (A:=[_]) hI
   refine a9 hrd.ints fl ?_
   refine bO ?_
   repeat (first|refine ad ?_|refine af (by decide) ?_|refine ac ?_|refine ah ?_|refine ag ?_)
   refine iR hI hle1 ?_
   congr 1
   rw [Bool.true_and,Bool.true_and,Bool.eq_iff_iff,decide_eq_true_eq,decide_eq_true_eq]
   omega
theorem pM {t:T} {S:az} {cs:List Value} (h:RdT S cs t) (hw:wT t<=1048576):Pure Tryz.prog li [.agg cs.toArray] S (.bool (!iT t)):=by
 intro w hI
 have hlc:=h.length
 refine nD ?_
 unfold j9
 refine bM hI fun b1 w' hI=>?_
 refine ba hI 0 ai rfl (by simpa [Value.cells] using hlc) ?_
 refine Run.callPure FU Gi hI (Ea h hw) fun w' hI=>?_
 refine cF ?_
 exact done hI rfl
theorem nI {x t:T} {S:az} {cs ds:List Value} {b:Nat} {E:TypeId} (h:RdT S cs x) (hg:RdT S ds t) (hb:S b=some (.cells ds.toArray E)):Pure Tryz.prog jl [.agg cs.toArray,.pointer (some ⟨b,0,none⟩)] S (.bool (eqT x t)):=by
 intro w hI
 have hlc:=h.length
 have hlg:=hg.length
 refine lU ?_
 unfold i9
 refine bM hI fun b1 w' hI=>?_
 refine ba hI 0 ai rfl (by simpa [Value.cells] using hlc) ?_
 refine cV (cs:=ds) ai hlg (fun j v hj=>by rw [hI.cellS hb,Nat.zero_add]; simpa using hj) ?_
 refine Run.callPure iC iI hI (iu _ _ S _ _ h hg) fun w' hI=>?_
 exact done hI rfl
def ItB (b5:Nat) (s:Bool) (_:az) (I:List Item):Prop:=I=[.blk b5 (.cells #[.bool s] lB)]
theorem Oo {facts:List T} {S0:az} {b3 b5:Nat} {u:Value} {E:TypeId} (hu:RdSl S0 4 (RdT S0) u facts) (hb:S0 b3=some (.cells #[u] E)) :
  Tell rS Tryz.f67 [.pointer (some ⟨b5,0,none⟩),.pointer (some ⟨b3,0,none⟩)] (ItB b5) (fun _ _=>True) (fun s x=>s && kx facts x) S0:=by
 refine ⟨rI,ru,fun _ _ _ _ _ h=>h,fun _ _ _ _ _=>trivial,fun S s x cs I n hle hx hcs hIt _ w hI=>?_⟩
 unfold ItB at hIt
 subst hIt
 have hlc:=hcs.length
 obtain ⟨X,hX⟩:∃ X,X=bV [Item.blk b5 (.cells #[.bool s] lB)]:=⟨_,rfl⟩
 rw [<- hX] at hI ⊢
 refine nE ?_
 unfold j7
 refine bM hI fun b1 w' hI=>?_
 have hI:Inv w X ([.blk b5 (.cells #[.bool s] lB)]++[.blk b1 (.cells cs.toArray ab)]) S w':=hI
 obtain ⟨S1,hI,hE1,hb1⟩:=hI.pub1
 refine bH hI 0 (by decide +kernel) rfl rfl ?_
 cases s with
 | false=>
  repeat (first|refine ad ?_|refine af (by decide) ?_|refine ac ?_|refine ah ?_|refine ag ?_)
  refine el hI 0 (n:=1) rfl (by decide +kernel) rfl (by simp) (by simp [Value.cells,Value.oneCell']) fun w' hI=>?_
  exact ⟨_,_,_,rfl,hI,hE1,rfl,rfl⟩
 | true=>
  repeat (first|refine ad ?_|refine af (by decide) ?_|refine ac ?_|refine ah ?_|refine ag ?_)
  refine dM aP (by rw [hI.cellS (hE1.1 _ _ (hle _ _ hb))]; rfl) ?_
  refine ip ?_
  have hcb:Cb Tryz.prog jl _ [.pointer (some ⟨b1,0,none⟩)] S1 (fun _:Unit=>[]) (fun _=>True) (fun _ y=>(eqT y x,())) (fun v y=>∃ cs,v=.agg cs.toArray/\RdT S1 cs y) facts:=
   Cb.pure [] o3 oA fun y v _=>by
    rintro ⟨ds,rfl,hds⟩ w1 hI
    exact (nI hds (hcs.mono hE1.1) hb1 w1 hI).mono fun e w' ⟨he,hI⟩=>⟨_,_,_,he,hI,Ext.refl _ _ _,rfl,rfl,rfl⟩
  refine Run.call0 dE dH hI (dS hcb ((hu.monoT hle).monoT hE1.1) (st:=()) trivial) fun v' I' S' w'=>?_
  rintro ⟨e1,rfl,e2⟩ _ hI
  subst e1
  rw [e2] at hI
  repeat (first|refine ad ?_|refine af (by decide) ?_|refine ac ?_|refine ah ?_|refine ag ?_)
  refine el hI 0 (n:=1) rfl (by decide +kernel) rfl (by simp) (by simp [Value.cells,Value.oneCell']) fun w' hI=>?_
  refine ⟨_,_,_,rfl,hI,hE1,rfl,?_⟩
  rw [fy (fun y=>eqT y x) facts,ItB,Bool.true_and]
  rfl
theorem pN {p:List C} {facts:List T} {S:az} {v u:Value} (h:RdSl S 5 (RdC S) v p) (hq:RdSl S 4 (RdT S) u facts) (hw:wP p<=1048576) (hw2:wL facts<=1048576) :
  Pure Tryz.prog yh [v,u] S (.bool (ja p facts)):=by
 intro w hI
 have hlen:=h.le
 simp only [maxLen] at hlen
 obtain ⟨au,mu,hu,_⟩:=id hq
 subst hu
 refine pV ?_
 unfold l0;dsimp only
 refine bM hI fun b3 w' hI=>?_
 obtain ⟨S1,hI,hE1,hb3⟩:=hI.pub1
 have h:=h.monoC hE1.1
 have hq:=hq.monoT hE1.1
 have hb3:S1 b3=some (.cells #[.slice au facts.length mu] _):=hb3
 refine ⟨fun t w'=>t=.bool (!(f1 p && jT facts))/\Inv w [] [] S1 w',?_,?_⟩
 ·refine Run.callPure mp lM hI (j4 h hw) fun w' hI=>?_
  refine cF ?_
  cases hv:f1 p
  ·repeat (first|refine ad ?_|refine af (by decide) ?_|refine ac ?_|refine ah ?_|refine ag ?_)
   exact ⟨rfl,hI⟩
  ·repeat (first|refine ad ?_|refine af (by decide) ?_|refine ac ?_|refine ah ?_|refine ag ?_)
   refine dM aP (by rw [hI.cellS hb3]; rfl) ?_
   refine a9 hq av ?_
   refine d6 ?_
   by_cases hl:(60:Int)<(facts.length:Int)
   ·rw [decide_eq_true hl]
    repeat (first|refine ad ?_|refine af (by decide) ?_|refine ac ?_|refine ah ?_|refine ag ?_)
    refine ⟨?_,hI⟩
    rw [jT,decide_eq_false (show ¬ facts.length<=60 by omega),Bool.and_false]; rfl
   ·rw [decide_eq_false hl]
    repeat (first|refine ad ?_|refine af (by decide) ?_|refine ac ?_|refine ah ?_|refine ag ?_)
    refine dM aP (by rw [hI.cellS hb3]; rfl) ?_
    have hcb:Cb Tryz.prog li _ [] S1 (fun _:Unit=>[]) (fun _=>True) (fun _ y=>(!iT y,())) (fun v y=>∃ cs,v=.agg cs.toArray/\RdT S1 cs y) facts:=
     Cb.pure [] rt rm fun y v hy=>by
      rintro ⟨ds,rfl,hds⟩ w1 hI
      have hwy:=iB hy
      exact (pM hds (by omega) w1 hI).mono fun e w' ⟨he,hI⟩=>⟨_,_,_,he,hI,Ext.refl _ _ _,rfl,rfl,rfl⟩
    refine Run.call0 dE dH hI (dS hcb hq (st:=()) trivial) fun v' I' S' w'=>?_
    rintro ⟨e1,rfl,e2⟩ _ hI
    subst e1
    rw [e2] at hI
    repeat (first|refine ad ?_|refine af (by decide) ?_|refine ac ?_|refine ah ?_|refine ag ?_)
    refine ⟨?_,hI⟩
    rw [fy (fun y=>!iT y) facts,jT,decide_eq_true (show facts.length<=60 by omega),Bool.and_true,Bool.true_and,<- ld,Bool.not_not]
 intro t _ _ _ _ _ _ _ _ _ _ _ w'
 rintro ⟨rfl,hI⟩
 refine a8 (fun hb=>iR hI hE1.1 ?_) (fun hb=>?_)
 ·rw [Bool.not_eq_true'] at hb
  rw [ja,<- Bool.and_assoc,hb]; rfl
 rw [Bool.not_eq_false',Bool.and_eq_true] at hb
 have hm:ja p facts=p.all (f3 facts):=by rw [ja,hb.1,hb.2]; rfl
 have hparts:=pu hb.1
 obtain ⟨hfs,hfl⟩:=rF hb.2
 have hz:iq Tryz.prog lB=some (.bool false):=by kernel_rfl
 refine bw hI hz fun b5 w' hI=>?_
 refine el hI 0 (n:=1) rfl (by decide +kernel) rfl (by simp [Value.cells]) (by simp [Value.cells,Value.oneCell']) fun w' hI=>?_
 have hI:Inv w [] [.blk b5 (.cells #[.bool true] lB)] S1 w':=hI
 refine a9 h cC ?_
 refine ⟨fun i w'=>∃ (j:Nat) (S':az),j<=p.length/\i=.int .i64 j/\Ext w.heap.size [] S S'/\Sle S1 S'/\Inv w [] [.blk b5 (.cells #[.bool ((p.take j).all (f3 facts))] lB)] S' w',fun i _=>p.length - (intOf i).toNat,⟨0,S1,Nat.zero_le _,rfl,hE1,Sle.refl _,hI⟩,?_⟩
 intro t22 _ _ _ _ _ _ _ _ _ _ w'
 rintro ⟨j,S',hj,rfl,hE,hle,hI⟩
 refine bR ?_
 refine bk (fun hji=>?_) (fun hji=>?_)
 ·have hj':j<p.length:=by omega
  have hpj:=hparts _ (List.getElem_mem hj')
  refine dG hI (h.monoC hle) cC bF hj' (fun _ _=>RdC.length) fun cs hcs=>?_
  have hlc:=hcs.length
  refine bw hI eI fun b7 w' hI=>?_
  refine bf hI 1 rfl bF (by simpa using hlc) rfl (by simpa using hcs.one) fun w' hI=>?_
  refine ba hI 1 bF rfl (by simpa using hlc) ?_
  have hI:Inv w [] [.blk b5 (.cells #[.bool ((p.take j).all (f3 facts))] lB)] S' w':=hI.pick [true,false]
  refine dM aP (by rw [hI.cellS (hle _ _ hb3)]; rfl) ?_
  refine Db hI fun mb w' hI=>?_
  obtain ⟨S2,hI,hE2,hmb⟩:=hI.pub1
  refine ip ?_
  have hI:Inv w [] ([]++[.blk b5 (.cells #[.bool ((p.take j).all (f3 facts))] lB)]) S2 w':=hI
  have hle2:=hle.trans hE2.1
  refine Run.callE (A:=[]) my mE hI (qr p[j] facts hpj.1 hfs hpj.2.1 p[j].body 0 (by simp) rfl S2 cs _ mb 0 #[] _ _ st0 0 (Oo (hq.monoT hle2) (hle2 _ _ hb3)) (hcs.mono hE2.1) (hq.monoT hle2) hmb (KnownM.empty S2) AN hpj.2.2 rfl trivial) fun v' I' S3 w'=>?_
  rintro ⟨rfl,hIt,_⟩ hE3 hI
  rw [ItB,Gj] at hIt
  subst hIt
  refine bL (by omega) ?_
  refine ⟨⟨j+1,S3,hj',rfl,(hE.trans hE2).trans hE3,hle2.trans hE3.1,?_⟩,by simp [intOf]; omega⟩
  have e:(p.take (j+1)).all (f3 facts)=((p.take j).all (f3 facts) && (eM p[j].head facts p[j].body st0).all (kx facts)):=by
   rw [List.take_succ_eq_append_getElem hj',List.all_append,List.all_cons,List.all_nil,Bool.and_true]; rfl
  rw [e]
  exact hI
 ·have:j=p.length:=by omega
  subst this
  rw [List.take_length] at hI
  refine bH hI 0 (by decide +kernel) rfl rfl ?_
  exact iR hI hE.1 (by rw [hm]; rfl)
end

end Go.Proofs.YtemmhhdnlbmicaaGreat

/- Rounds of facts in plain Lean: they grow, end, are closed and least. -/
namespace Go.Proofs.YtemmhhdnlbmicaaGreat
open Go Go.RowKit
theorem Ap {hd:T} {f g:List T} (h:∀ x∈f,x∈g):∀ (gs:List T) (st:bt) (y:T),y∈eM hd f gs st->y∈eM hd g gs st
 | [],st,y,hy=>by rw [eM] at hy ⊢; exact hy
 | a::gs,st,y,hy=>by
  rw [eM,List.mem_flatMap] at hy ⊢
  obtain ⟨x,hx,hy⟩:=hy
  refine ⟨x,h x hx,?_⟩
  split at hy
  ·rename_i hm
   rw [if_pos hm]
   exact Ap h gs _ y hy
  ·cases hy
theorem H6 {p:List C} {f g:List T} (h:∀ x∈f,x∈g) {y:T} (hy:y∈f0 p f):y∈f0 p g:=by
 rw [f0,List.mem_flatMap] at hy ⊢
 obtain ⟨c,hc,hy⟩:=hy
 exact ⟨c,hc,Ap h _ _ _ hy⟩
theorem KK {p:List C} {f:List T} {y:T} (h:y∈gM p f):y∈f ∨ y∈f0 p f:=nP _ _ _ h
theorem CY {p:List C} {s:List T} (hs:∀ y∈f0 p s,y∈s):∀ (k:Nat) (f:List T) (n:Nat),(∀ y∈f,y∈s)->∀ y∈(stS p k f n).1,y∈s
 | 0,f,n,hf,y,h=>hf y h
 | k+1,f,n,hf,y,h=>by
  rw [stS] at h
  split at h
  ·exact hf y h
  ·refine CY hs k _ _ (fun x hx=>?_) y h
   rcases KK hx with hx|hx
   ·exact hf x hx
   ·exact hs x (H6 hf hx)
/- sorted lists with the same members are the same -/
/- facts have plain names -/
theorem Ix {y:T} (h:Hq y) (d:Int) (hd:1<=d):fh y d=true:=by
 obtain ⟨h1,h2,_⟩:=h
 obtain ⟨k,n,s,ks⟩:=y
 simp only [T.kids] at h2
 subst h2
 rw [fh,if_neg (by omega),h1,eX]
 rfl
theorem wZ (d:Int) (hd:1<=d):∀ ks:List T,(∀ y∈ks,Hq y)->eX ks d=true
 | [],_=>rfl
 | y::ks,h=>by
  rw [eX,Ix (h y (List.mem_cons_self ..)) d hd,wZ d hd ks fun z hz=>h z (List.mem_cons_of_mem _ hz)]
  rfl
theorem Dh:∀ ks:List T,(∀ y∈ks,Hq y)->d5 ks=ks.length
 | [],_=>rfl
 | y::ks,h=>by
  rw [d5,Dh ks fun z hz=>h z (List.mem_cons_of_mem _ hz)]
  obtain ⟨_,h2,_⟩:=h y (List.mem_cons_self ..)
  obtain ⟨k,n,s,l⟩:=y
  simp only [T.kids] at h2
  subst h2
  rw [eO,d5,List.length_cons]
  omega
theorem Fct.valid {x:T} (h:Fct x):ez x=true:=by
 obtain ⟨hk,ho,hy⟩:=h
 have hlen:=(vF ho).2
 obtain ⟨k,n,s,ks⟩:=x
 simp only [T.kids] at hy hlen
 rw [ez,fh,if_neg (by omega),ho,wZ (30 - 1) (by omega) ks hy,eO,Dh ks hy,decide_eq_true (by omega)]
 rfl
theorem Fct.fact {x:T} (h:Fct x) (hp:fZ x=true):iT x=true:=by
 have hv:=h.valid
 have hg:Gl x:=⟨h.1,h.2.1,fun y hy=>⟨(h.2.2 y hy).1,(h.2.2 y hy).2.1⟩⟩
 have hvars:(f2 x []).length=0:=by
  cases e:f2 x [] with
  | nil=>rfl
  | cons a l=>
   have:a∈f2 x []:=by rw [e]; exact List.mem_cons_self ..
   rcases (tq hg [] a).1 this with h1|⟨z,hz,hk,_⟩
   ·cases h1
   ·exact absurd hk (h.2.2 z hz).2.2
 rw [iT,hv,ex,hp,hvars]
 simp only [Bool.true_and,Bool.and_true,decide_true,List.all_eq_true]
 intro y hy
 rw [ix,(h.2.2 y hy).2.1]
 rfl
/- the least model -/
theorem LJ {p:List C} {r:Int} (h:(dx p r).2=true):f1 p=true/\0<=r/\(stS p (gQ r) [] 0).1.length<=60/\(dx p r).1=(stS p (gQ r) [] 0).1:=by
 unfold dx at h ⊢
 split at h
 ·rename_i h1
  rw [if_pos h1]
  rw [Bool.and_eq_true] at h1
  split at h
  ·rename_i h2
   rw [if_pos h2]
   refine ⟨h1.1,?_,h2,rfl⟩
   have:=h1.2
   simp at this
   omega
  ·cases h
 ·cases h
/- what a law about the least model asks -/
/- a fact that holds adds nothing -/
theorem Gn {p:List C} {facts:List T} (h:ja p facts=true) (hl:(dx p 61).2=true):∀ y∈(dx p 61).1,y∈facts:=by
 obtain ⟨_,_,_,e⟩:=LJ hl
 rw [e]
 rw [ja,Bool.and_eq_true,Bool.and_eq_true,List.all_eq_true] at h
 refine CY (fun y hy=>?_) _ [] 0 (by simp)
 rw [f0,List.mem_flatMap] at hy
 obtain ⟨c,hc,hy⟩:=hy
 have:=h.2.2 c hc
 rw [f3,List.all_eq_true] at this
 exact (zg _ _).1 (this y hy)
end Go.Proofs.YtemmhhdnlbmicaaGreat

/- Steps that the laws' walks share: copies lent and marked, results compared, marked and read again. -/
namespace Go.Proofs.YtemmhhdnlbmicaaGreat
open Go Go.RowKit
section
variable {w w0:World} {X:List Nat} {L A:List Item} {S:az} {K:Value->World->Prop}
attribute [local irreducible] Run CondV aj bd
/- copies that will be marked: their blocks are known -/
/- they are marked, and nobody looks at them again -/
/- rows of predicates -/
end

end Go.Proofs.YtemmhhdnlbmicaaGreat

/- Steps that the laws' walks share: results that are trees. -/
namespace Go.Proofs.YtemmhhdnlbmicaaGreat
open Go Go.RowKit
section
variable {w w0:World} {X:List Nat} {L A:List Item} {S:az} {K:Value->World->Prop}
attribute [local irreducible] Run CondV aj bd
end

end Go.Proofs.YtemmhhdnlbmicaaGreat

/- spec: rounds and stages. -/
namespace Go.Proofs.YtemmhhdnlbmicaaGreat
open Go Go.RowKit
section
attribute [local irreducible] Run CondV aj bd
theorem BU {ts:List T} {S:az} {v:Value} (h:RdSl S 4 (RdT S) v ts) (hw:ts.length+wL ts<=1048576):Tri Tryz.prog Ha [v] [] S (Lg 4 TrT S ts):=by
 intro w hI
 refine xP ?_
 unfold tQ
 refine eB hI bD fun v0 w' hI=>?_
 refine ⟨fun i t w'=>∃ (k:Nat) (Ls:List bI) (css:List (List Value)),k<=ts.length/\i=.int .i64 k/\Grown 4 TrT Ls css (ts.take k)/\Inv w [] (bj t ab 4 css::bP Ls.flatten) S w',
  fun i _ _=>ts.length - (intOf i).toNat,⟨0,[],[],Nat.zero_le _,rfl,Grown.nil _ _,hI⟩,?_⟩
 intro t4 _ _ t3 _ _ _ _ _ _ _ _ _ _ _ _ w'
 rintro ⟨k,Ls,css,hk,rfl,hg,hI⟩
 refine a9 h av ?_
 refine bR ?_
 refine bk (fun hki=>?_) (fun hki=>?_)
 ·have hk':k<ts.length:=by omega
  have htl:(ts.take k).length=k:=by simp; omega
  have hcl:=hg.hc
  refine dG hI h av ai hk' (fun _ _=>RdT.length) fun cs hcs=>?_
  have hm:=List.getElem_mem hk'
  have hwm:=iB hm
  refine Run.call0 fg e9 hI (fN _ S cs hcs (by omega)) fun v' I' S' w'=>?_
  rintro ⟨rfl,cs',L,rfl,rfl,hT⟩ _ hI
  refine fX hI 0 cs' bD (by omega) (by omega) rfl hT.length hT.one (by omega) (by omega) fun v' w' hI=>?_
  refine bL (by omega) ?_
  refine ⟨⟨k+1,Ls++[L],css++[cs'],hk',rfl,?_,?_⟩,by simp [intOf]; omega⟩
  ·rw [List.take_succ_eq_append_getElem hk']
   exact hg.snoc hT hT.length
  ·simp only [List.flatten_append,List.flatten_cons,List.flatten_nil,List.append_nil,eZ]
   exact hI
 ·have:k=ts.length:=by omega
  subst this
  rw [List.take_length] at hg
  obtain ⟨L,hT,hI⟩:=Inv.rowTree (A:=[]) hI hg
  exact ⟨_,_,_,rfl,hI,Ext.refl _ _ _,rfl,_,rfl,hT⟩
theorem AA {p:List C} {f:List T} {S:az} {v u:Value} (h:RdSl S 5 (RdC S) v p) (hq:RdSl S 4 (RdT S) u f) (hp:Pf p) (hf:Fs f) (hl:f.length<=61) :
  Tri Tryz.prog DS [v,u] [] S (La (gM p f)):=by
 intro w hI
 have hlen:=hp.len
 have hI:Inv w [] [] S w:=hI
 refine u3 ?_
 unfold qm
 refine ⟨fun i t w'=>∃ (j:Nat) (S':az),j<=p.length/\i=.int .i64 j/\Ext w.heap.size [] S S'/\RdSl S' 4 (RdT S') t ((f0 (p.take j) f).foldl gR f)/\Inv w [] [] S' w',
  fun i _ _=>p.length - (intOf i).toNat,⟨0,S,Nat.zero_le _,rfl,Ext.refl _ _ _,hq,hI⟩,?_⟩
 intro t6 _ _ t5 t21 t20 t19 t18 t17 t16 t15 t14 _ _ _ _ w'
 rintro ⟨j,S',hj,rfl,hE,hout,hI⟩
 have h':=h.monoC hE.1
 have hq':=hq.monoT hE.1
 refine a9 h' cC ?_
 refine bR ?_
 refine bk (fun hji=>?_) (fun hji=>?_)
 ·have hj':j<p.length:=by omega
  obtain ⟨hp1,hp2,hp3⟩:=hp.parts _ (List.getElem_mem hj')
  obtain ⟨out,ho⟩:∃ out,out=(f0 (p.take j) f).foldl gR f:=⟨_,rfl⟩
  obtain ⟨l,hle⟩:∃ l,l=(f0 (p.take (j+1)) f).foldl gR f:=⟨_,rfl⟩
  have hbl:ia p[j].head f p[j].body out st0=l:=by
   rw [hle,rn p f j hj',List.foldl_append,<- ho,pE]
  have hFo:=vg (hp.take j) hf
  have hlo:=rL (p.take j) f hl
  have ho':out=gM (p.take j) f:=ho
  rw [<- ho'] at hFo hlo
  rw [<- ho] at hout
  obtain ⟨b,o,cap,c,E,fz,rfl,hS,hR⟩:=h'.at_ hj'
  refine ⟨fun D x5 cN cJ b0 dI dw dv ef eA w_=>(D 0=true->eA=t5)/\(D 1=true->ef=.slice (some ⟨b,o,none⟩) p.length cap)/\(D 2=true->dv=.int .i64 j)/\(D 3=true->dw=.pointer (some ⟨b,o+j * 5,none⟩))/\(D 4=true->dI=.agg (bu c (o+j * 5) 5).toArray)/\(D 5=true->b0=u)/\(D 6=true->True)/\(D 7=true->True)/\(D 8=true->True)/\∃ SN,Ext w.heap.size [] S' SN/\(D 8=true->D 0=true)/\(D 8=false->x5=t5)/\(D 6=true->IsKn SN cJ st0)/\(D 7=true->RdSl SN 4 (RdT SN) cN l)/\(D 8=true->RdSl SN 4 (RdT SN) x5 l)/\Inv w [] [] SN w_,⟨ae,ae,ae,ae,ae,ae,ae,ae,ae,⟨S',Ext.refl _ _ _,ae,fun _=>rfl,ae,ae,ae,hI.draw⟩⟩,⟨?_,?_,?_,?_,?_,?_,?_,?_,?_,trivial⟩,?_⟩
  ·intro D aY  x5 cN cJ b0 dI dw dv ef eA w_
   rintro ⟨aA,aB,aC,aD,aw,aE,aF,aJ,aL,⟨SN,hN,k8,e5,e6,e7,e8,hI⟩⟩
   have hx5:x5=t5:=e5 (by cases h:D 8 with|false=>rfl|true=>have:=k8 h; rw [this] at aY; exact aY)
   have k8:=fun (_:ay D 0 8=true)=>(rfl:ay D 0 0=true)
   exact ⟨fun _=>by first|assumption|trivial,aB,aC,aD,aw,aE,aF,aJ,aL,⟨SN,hN,k8,e5,e6,e7,e8,hI⟩⟩
  ·intro D aY  x5 cN cJ b0 dI dw dv ef eA w_
   rintro ⟨aA,aB,aC,aD,aw,aE,aF,aJ,aL,⟨SN,hN,k8,e5,e6,e7,e8,hI⟩⟩
   exact ⟨aA,fun _=>rfl,aC,aD,aw,aE,aF,aJ,aL,⟨SN,hN,k8,e5,e6,e7,e8,hI⟩⟩
  ·intro D aY  x5 cN cJ b0 dI dw dv ef eA w_
   rintro ⟨aA,aB,aC,aD,aw,aE,aF,aJ,aL,⟨SN,hN,k8,e5,e6,e7,e8,hI⟩⟩
   exact ⟨aA,aB,fun _=>rfl,aD,aw,aE,aF,aJ,aL,⟨SN,hN,k8,e5,e6,e7,e8,hI⟩⟩
  ·intro D aY dC gA x5 cN cJ b0 dI dw dv ef eA w_
   rintro ⟨aA,aB,aC,aD,aw,aE,aF,aJ,aL,⟨SN,hN,k8,e5,e6,e7,e8,hI⟩⟩
   obtain rfl:=aB dC
   obtain rfl:=aC gA
   refine bi cC hj' ?_
   exact ⟨aA,aB,aC,fun _=>rfl,aw,aE,aF,aJ,aL,⟨SN,hN,k8,e5,e6,e7,e8,hI⟩⟩
  ·intro D aY dB x5 cN cJ b0 dI dw dv ef eA w_
   rintro ⟨aA,aB,aC,aD,aw,aE,aF,aJ,aL,⟨SN,hN,k8,e5,e6,e7,e8,hI⟩⟩
   obtain rfl:=aD dB
   refine cV bF hR.length (fun j v hj=>by rw [hI.cellS (hN.1 _ _ hS)]; exact bm rfl j v hj) ?_
   exact ⟨aA,aB,aC,aD,fun _=>rfl,aE,aF,aJ,aL,⟨SN,hN,k8,e5,e6,e7,e8,hI⟩⟩
  ·intro D aY  x5 cN cJ b0 dI dw dv ef eA w_
   rintro ⟨aA,aB,aC,aD,aw,aE,aF,aJ,aL,⟨SN,hN,k8,e5,e6,e7,e8,hI⟩⟩
   exact ⟨aA,aB,aC,aD,aw,fun _=>rfl,aF,aJ,aL,⟨SN,hN,k8,e5,e6,e7,e8,hI⟩⟩
  ·intro D aY  x5 cN cJ b0 dI dw dv ef eA w_
   rintro ⟨aA,aB,aC,aD,aw,aE,aF,aJ,aL,⟨SN,hN,k8,e5,e6,e7,e8,hI⟩⟩
   refine sE (n:=26) hI bD (by omega) (by omega) (by omega) fun kb w_ hI=>?_
   have hkc0:=JE _ rfl SN
   obtain ⟨kc,hkce⟩:∃ kc,kc=(Array.range 104).map ((#[.int .i64 0,.int .i64 0,.string ⟨#[]⟩,.slice none 0 0]:Array Value)[· % (#[.int .i64 0,.int .i64 0,.string ⟨#[]⟩,.slice none 0 0]:Array Value).size]!):=⟨_,rfl⟩
   rw [<- hkce] at hkc0
   have hI:Inv w [] ([]++bP [(kb,.cells kc ab)]) SN w_:=by rw [hkce]; exact hI
   obtain ⟨SN,hI,hE2,hins⟩:=hI.pubExt
   have e7:=fun (e:ay D 6 7=true)=>(e7 e).monoT hE2.1
   have e8:=fun (e:ay D 6 8=true)=>(e8 e).monoT hE2.1
   have hN:=hN.trans hE2
   have e6:=fun (_:ay D 6 6=true)=>(⟨kb,26,kc,rfl,Nat.le_refl _,by simp [maxLen],hins _ (List.mem_singleton.2 rfl),hkc0.mono hE2.1⟩:IsKn SN (kvn kb 26) st0)
   exact ⟨aA,aB,aC,aD,aw,aE,fun _=>by first|assumption|trivial,aJ,aL,⟨SN,hN,k8,e5,e6,e7,e8,hI⟩⟩
  ·intro D aY cc dJ Fr AV x5 cN cJ b0 dI dw dv ef eA w_
   rintro ⟨aA,aB,aC,aD,aw,aE,aF,aJ,aL,⟨SN,hN,k8,e5,e6,e7,e8,hI⟩⟩
   have OB:=aA cc
   obtain rfl:=aw dJ
   obtain rfl:=aE Fr
   have M5:=aF AV
   refine Run.call0E mw mS hI (qL p[j] f hp1 hf.fct hp2 p[j].body 0 (by simp) rfl SN _ _ _ _ out st0 (hR.mono hN.1) (by rw [OB]; exact hout.monoT hN.1) (hq'.monoT hN.1) (e6 AV) AN hp3 hFo.okO (by omega)) fun v' I' SN w_=>?_
   rw [hbl]
   rintro ⟨rfl,hr⟩ hE2 hI
   have e6:=fun (e:ay D 7 6=true)=>(e6 e).mono hE2.1
   have e8:=fun (e:ay D 7 8=true)=>(e8 e).monoT hE2.1
   have hN:=hN.trans hE2
   have e7:=fun (_:ay D 7 7=true)=>hr
   exact ⟨aA,aB,aC,aD,aw,aE,aF,fun _=>by first|assumption|trivial,aL,⟨SN,hN,k8,e5,e6,e7,e8,hI⟩⟩
  ·intro D aY ed jZ oI sL ui rQ tD x3 xE Bo x5 cN cJ b0 dI dw dv ef eA w_
   rintro ⟨aA,aB,aC,aD,aw,aE,aF,aJ,aL,⟨SN,hN,k8,e5,e6,e7,e8,hI⟩⟩
   have K6:=aJ ed
   have k8:=fun (_:ay D 8 8=true)=>oI
   have e5:=fun (h:ay D 8 8=false)=>(Bool.noConfusion h:cN=t5)
   have e8:=fun (_:ay D 8 8=true)=>e7 ed
   exact ⟨aA,aB,aC,aD,aw,aE,aF,aJ,fun _=>by first|assumption|trivial,⟨SN,hN,k8,e5,e6,e7,e8,hI⟩⟩
  intro D gK fT fY fE fm fw fF fC fD x5 cN cJ b0 dI dw dv ef eA w_
  rintro ⟨aA,aB,aC,aD,aw,aE,aF,aJ,aL,⟨SN,hN,k8,e5,e6,e7,e8,hI⟩⟩
  have MZ:=aL gK
  have K6:=aJ fT
  have M5:=aF fY
  obtain rfl:=aE fE
  obtain rfl:=aw fm
  obtain rfl:=aD fw
  obtain rfl:=aC fF
  obtain rfl:=aB fC
  have OB:=aA fD
  clear aA aB aC aD aw aE aF aJ aL
  have hx:=e8 gK
  have hE2:=hE.trans hN
  clear e5 e6 e7 e8
  refine bL (by omega) ?_
  rw [hle] at hx
  exact ⟨⟨j+1,SN,hj',rfl,hE2,hx,hI⟩,by simp [intOf]; omega⟩
 ·have:j=p.length:=by omega
  subst this
  rw [List.take_length] at hout
  exact ⟨_,_,_,rfl,hI,hE,rfl,hout⟩
theorem AO {p:List C} {S:az} {v:Value} (h:RdSl S 5 (RdC S) v p) (hp:Pf p) (k:Nat) (hk:k<=61) :
  Tri Tryz.prog EE [v,.int .i64 k] [] S fun r I' S'=>I'=[]/\∃ x,r=.tuple #[x,.int .i64 ((stS p k [] 0).2:Nat)]/\RdSl S' 4 (RdT S') x (stS p k [] 0).1:=by
 intro w hI
 have hI:Inv w [] [] S w:=hI
 refine u6 ?_
 unfold qM
 refine eB hI bD fun v0 w' hI=>?_
 obtain ⟨S1,hE1,hrd,hI⟩:=Inv.lendExt (A:=[]) (css:=[]) hI
 have hr0:=RowRd.rows (Rows.nil 4 (RdT S1)) hrd
 refine ⟨fun i t w'=>∃ (n:Nat) (f:List T) (S':az),i=.int .i64 n/\n<=k/\RdSl S' 4 (RdT S') t f/\Fs f/\f.length<=61/\stS p (k - n) f n=stS p k [] 0/\Ext w.heap.size [] S S'/\Inv w [] [] S' w',
  fun i _ _=>k - (intOf i).toNat,⟨0,[],S1,rfl,Nat.zero_le _,hr0,Fs.nil,by simp,rfl,hE1,hI⟩,?_⟩
 intro t7 _ _ t6 _ _ _ _ _ _ _ _ _ _ _ _ _ _ _ _ _ _ _ _ _ _ w'
 rintro ⟨n,f,S',rfl,hnk,hq,hF,hl,hst,hE,hI⟩
 refine bR ?_
 refine bk (fun hnk'=>?_) (fun hnk'=>?_)
 ·have hnk2:n<k:=by omega
  rw [show k - n=(k - (n+1))+1 by omega,stS] at hst
  refine Run.call0E Bd BO hI (AA (h.monoC hE.1) hq hp hF hl) fun x I' S2 w'=>?_
  rintro ⟨rfl,hx⟩ hE2 hI
  have hI:Inv w [] [] S2 w':=hI
  have hE3:=hE.trans hE2
  refine ⟨fun t w'=>t=.bool (decide ((gM p f).length=f.length ∨ 60<f.length))/\Inv w [] [] S2 w',?_,?_⟩
  ·refine a9 hx av ?_
   refine a9 (hq.monoT hE2.1) av ?_
   refine bO ?_
   by_cases he:(gM p f).length=f.length
   ·rw [decide_eq_true (show (((gM p f).length:Nat):Int)=((f.length:Nat):Int) by omega)]
    repeat (first|refine ad ?_|refine af (by decide) ?_|refine ac ?_|refine ah ?_|refine ag ?_)
    refine ⟨?_,hI⟩
    rw [decide_eq_true (Or.inl he)]
   ·rw [decide_eq_false (show ¬ (((gM p f).length:Nat):Int)=((f.length:Nat):Int) by omega)]
    repeat (first|refine ad ?_|refine af (by decide) ?_|refine ac ?_|refine ah ?_|refine ag ?_)
    refine a9 (hq.monoT hE2.1) av ?_
    refine d6 ?_
    repeat (first|refine ad ?_|refine af (by decide) ?_|refine ac ?_|refine ah ?_|refine ag ?_)
    refine ⟨?_,hI⟩
    congr 1
    rw [Bool.eq_iff_iff,decide_eq_true_eq,decide_eq_true_eq]
    omega
  ·intro t _ _ _ _ _ _ _ _ _ w'
   rintro ⟨rfl,hI⟩
   refine bk (fun hc=>?_) (fun hc=>?_)
   ·rw [if_pos hc] at hst
    rw [<- hst]
    exact ⟨_,_,_,rfl,hI,hE3,rfl,_,rfl,hq.monoT hE2.1⟩
   ·rw [if_neg hc] at hst
    refine bL (by omega) ?_
    exact ⟨⟨n+1,_,S2,rfl,hnk2,hx,vg hp hF,(rL p f hl).2,hst,hE3,hI⟩,by simp [intOf]; omega⟩
 ·have:n=k:=by omega
  subst this
  rw [Nat.sub_self,stS] at hst
  rw [<- hst]
  exact ⟨_,_,_,rfl,hI,hE,rfl,_,rfl,hq⟩
theorem rB {p:List C} {S:az} {v:Value} (h:RdSl S 5 (RdC S) v p) (hw:wP p<=1048576) (r:Int) :
  Tri Tryz.prog yS [v,.int .i64 r] [] S (yJ (dx p r).1 (dx p r).2):=by
 intro w hI
 have hI:Inv w [] [] S w:=hI
 have hno:∀ (S':az) (w':World),Ext w.heap.size [] S S'->Inv w [] [] S' w'->Run Tryz.prog (aS cd 0 []) w' fun t w2=>∃ v I' S',Ending.returned (.tuple #[t,.bool false])=.returned v/\Inv w [] I' S' w2/\Ext w.heap.size [] S S'/\yJ [] false v I' S':=by
  intro S' w' hE hI
  refine eB hI bD fun v0 w' hI=>?_
  have hI:Inv w [] ([]++(bj v0 ab 4 []::bP ([]:List bI).flatten)) S' w':=hI
  obtain ⟨L,hT,hI⟩:=Inv.rowTree hI (Grown.nil 4 TrT)
  exact ⟨_,_,_,rfl,hI,hE,_,L,rfl,rfl,hT⟩
 refine qW ?_
 unfold nr
 refine ⟨fun t w'=>t=.bool (!(f1 p && !decide (r<0)))/\Inv w [] [] S w',?_,?_⟩
 ·refine Run.callPure l3 lL hI (jW h hw) fun w' hI=>?_
  refine cF ?_
  cases hv:f1 p
  ·repeat (first|refine ad ?_|refine af (by decide) ?_|refine ac ?_|refine ah ?_|refine ag ?_)
   exact ⟨rfl,hI⟩
  ·repeat (first|refine ad ?_|refine af (by decide) ?_|refine ac ?_|refine ah ?_|refine ag ?_)
   refine bR ?_
   repeat (first|refine ad ?_|refine af (by decide) ?_|refine ac ?_|refine ah ?_|refine ag ?_)
   refine ⟨?_,hI⟩
   rw [Bool.true_and,Bool.not_not]
 intro t _ _ _ _ _ _ w'
 rintro ⟨rfl,hI⟩
 refine a8 (fun hb=>?_) (fun hb=>?_)
 ·have hb':(f1 p && !decide (r<0))=false:=by rwa [Bool.not_eq_true'] at hb
  have e:dx p r=([],false):=by rw [dx,if_neg (by rw [hb']; decide)]
  rw [e]
  exact hno _ _ (Ext.refl _ _ _) hI
 have hb':(f1 p && !decide (r<0))=true:=by rwa [Bool.not_eq_false'] at hb
 have hb2:=hb'
 rw [Bool.and_eq_true] at hb2
 have hr0:0<=r:=by
  have:=hb2.2
  simp at this
  exact this
 have hp:=r4 hb2.1
 have hfu:gQ r<=61:=by unfold gQ; split <;> omega
 have hsF:=Iw hp (gQ r) [] 0 Fs.nil (by simp)
 refine ⟨fun t w'=>t=.int .i64 (gQ r)/\Inv w [] [] S w',?_,?_⟩
 ·refine d6 ?_
  refine bk (fun hg=>⟨?_,hI⟩) (fun hg=>⟨?_,hI⟩)
  ·rw [gQ,if_pos hg]; rfl
  ·rw [gQ,if_neg hg,Int.toNat_of_nonneg hr0]
 intro t _ _ w'
 rintro ⟨rfl,hI⟩
 refine Run.call0E Cd BJ hI (AO h hp (gQ r) hfu) fun v' I' S2 w'=>?_
 rintro ⟨rfl,x,rfl,hx⟩ hE hI
 have hI:Inv w [] [] S2 w':=hI
 refine bb rfl ?_
 refine bb rfl ?_
 refine a9 hx av ?_
 refine d6 ?_
 refine bk (fun hg=>?_) (fun hg=>?_)
 ·have e:dx p r=([],false):=by rw [dx,if_pos hb',if_neg (by omega)]
  rw [e]
  exact hno _ _ hE hI
 ·have e:dx p r=((stS p (gQ r) [] 0).1,true):=by rw [dx,if_pos hb',if_pos (by omega)]
  have hw':=hsF.1.w
  rw [e]
  refine Run.call0E EM DI hI (BU hx (by omega)) fun v' I' S3 w'=>?_
  rintro ⟨rfl,L,rfl,hT⟩ hE2 hI
  have hI:Inv w [] (bP L) S3 w':=hI
  exact ⟨_,_,_,rfl,hI,hE.trans hE2,_,L,rfl,rfl,hT⟩
end

end Go.Proofs.YtemmhhdnlbmicaaGreat

/- FnExactStageModel returns true, whatever program and number of rounds come in. -/
namespace Go.Proofs.YtemmhhdnlbmicaaGreat
open Go Go.RowKit
section
variable {w w0:World} {X:List Nat} {L:List Item} {S:az} {K:Value->World->Prop}
attribute [local irreducible] Run CondV aj bd
theorem Run.pubTreeB {f:FuncId} {fn:Func} {args:List Value} {ys:List T} {b:Bool} (hf:Tryz.prog.funcs[f]?=some fn) (hn:(fn.name == "runtime.NumGoroutine" || fn.body.isNone)=false) (hI:Inv w0 X L S w)
  (hc:Tri Tryz.prog f args [] S (yJ ys b)) (hk:∀ u S' w',Sle S S'->RdSl S' 4 (RdT S') u ys->Inv w0 X L S' w'->K (.tuple #[u,.bool b]) w'):Run Tryz.prog (aH (.func (.func f) #[] #[]) args) w K:=by
 refine Run.call0 hf hn hI hc fun v' I' S' w'=>?_
 rintro ⟨u,M,rfl,rfl,hT⟩ hle hI
 obtain ⟨S1,hle1,hins,hI,_⟩:=Inv.lendAll M hI
 exact hk _ _ _ (hle.trans hle1) (hT.rd hins fun _ _ _ hi h=>h.rd hi) hI
end
section
attribute [local irreducible] Run CondV aj bd
end

end Go.Proofs.YtemmhhdnlbmicaaGreat

/- spec.FormatTerm and ParseTerm on goals of one level; l16Goal, DrawFactsFor. -/
namespace Go.Proofs.YtemmhhdnlbmicaaGreat
open Go Go.RowKit
def te:List T->Bool->Bs->Option Bs
 | [],_,out=>some out
 | k::ks,b,out=>if tG k=true then none else match JX k with
  | none=>none
  | some x=>te ks false (out++(if b=true then [40] else [44])++x)
def FL (t:T):Option Bs:=if t.kind=3/\tG t=false then match te t.kids true (bs t.name) with
  | none=>none
  | some o=>some (if 0<t.kids.length then o++[41] else o)
 else none
theorem Dl:∀ (ks:List T) (b:Bool) (out x:Bs),te ks b out=some x->out.length<=x.length
 | [],_,out,x,h=>by simp only [te,Option.some.injEq] at h; subst h; exact Nat.le_refl _
 | k::ks,b,out,x,h=>by
  rw [te] at h
  split at h
  ·cases h
  split at h
  ·cases h
  have:=Dl ks _ _ _ h
  simp only [List.length_append] at this
  omega
def okG (s:ByteArray):Bool:=match LP (bs s) 0 with
 | some (t,n)=>decide (n=s.size) && (decide (FL t=some (bs s)) && (ez t && (decide (0<s.size) && (decide (s.size<=1000) && decide (wT t<=100)))))
 | none=>false
theorem LY {s:ByteArray} (h:okG s=true):∃ t,LP (bs s) 0=some (t,s.size)/\FL t=some (bs s)/\ez t=true/\0<s.size/\s.size<=1000/\wT t<=100:=by
 unfold okG at h
 split at h
 ·rename_i t n hq
  simp only [Bool.and_eq_true,decide_eq_true_eq] at h
  obtain ⟨rfl,h2,h3,h4,h5,h6⟩:=h
  exact ⟨t,hq,h2,h3,h4,h5,h6⟩
 ·cases h
section
variable {br:Nat} {sl:Value} {ys:List Nat} {S:az}
attribute [local irreducible] Run CondV aj bd
theorem IX {t:T} {cs:List Value} {x:Bs} (h:RdT S cs t) (hx:FL t=some x) (hl:x.length<=100000):Pure Tryz.prog AH [.agg cs.toArray] S (.string (st x)):=by
 intro w hI
 have h0:=h
 obtain ⟨kv,rfl,_,_,_,hk⟩:=RdT.iff.1 h
 obtain ⟨ka,kc,rfl,_⟩:=id hk
 unfold FL at hx
 split at hx
 case isFalse=>cases hx
 rename_i hc
 obtain ⟨h3,hp⟩:=hc
 cases hks:te t.kids true (bs t.name) with
 | none=>rw [hks] at hx; cases hx
 | some o=>
 rw [hks] at hx
 simp only [Option.some.injEq] at hx
 have hol:o.length<=x.length:=by
  rw [<- hx]
  split
  ·rw [List.length_append]; omega
  ·exact Nat.le_refl _
 refine pp ?_
 unfold n6
 refine bM hI fun b1 w' hI=>?_
 refine aI hI 0 rfl bx bn rfl ?_
 refine er (by omega) ?_
 refine a8 (fun hb=>by cases hb) (fun _=>?_)
 refine er (by omega) ?_
 refine a8 (fun hb=>by cases hb) (fun _=>?_)
 refine ba hI 0 ai rfl rfl ?_
 refine Run.callPure lf kZ hI (gX h0) fun w' hI=>?_
 rw [hp]
 refine a8 (fun hb=>by cases hb) (fun _=>?_)
 refine aI hI 0 rfl bo bl rfl ?_
 refine ⟨fun a b w'=>∃ (j:Nat) (out:Bs),j<=t.kids.length/\a=.int .i64 (j:Int)/\b=.string (st out)/\te (t.kids.drop j) (decide (j=0)) out=some o/\Inv w [] [.blk b1 (.cells #[.int .i64 t.kind,.int .i64 t.n,.string t.name,.slice ka t.kids.length kc] ab)] S w',
  fun a _ _=>t.kids.length - (intOf a).toNat,⟨0,bs t.name,Nat.zero_le _,rfl,rfl,hks,hI⟩,?_⟩
 intro t4 _ _ _ _ _ _ _ _ _ _ _ _ t3 _ _ _ _ _ _ _ _ _ w'
 rintro ⟨j,out,hj,rfl,rfl,hbf,hI⟩
 refine aI hI 0 rfl aT aP rfl ?_
 refine fx av ?_
 refine bR ?_
 have hkl:=hk.le
 simp only [maxLen] at hkl
 refine bk (fun hji=>?_) (fun hji=>?_)
 ·have hj':j<t.kids.length:=by omega
  rw [List.drop_eq_getElem_cons hj',te] at hbf
  split at hbf
  ·cases hbf
  rename_i hpk
  split at hbf
  ·cases hbf
  rename_i u hu
  have hlen:=Dl _ _ _ _ hbf
  simp only [List.length_append] at hlen
  obtain ⟨pre,hpre⟩:∃ pre:Bs,pre=if decide (j=0)=true then [40] else [44]:=⟨_,rfl⟩
  rw [<- hpre] at hbf hlen
  refine ⟨fun b w'=>b=.string (st (out++pre))/\Inv w [] [.blk b1 (.cells #[.int .i64 t.kind,.int .i64 t.n,.string t.name,.slice ka t.kids.length kc] ab)] S w',?_,?_⟩
  ·refine bO ?_
   refine bk (fun h0=>?_) (fun h0=>?_)
   ·rw [if_pos (decide_eq_true (by omega))] at hpre
    subst hpre
    refine dO (b:=[40]) (by omega) ?_
    exact ⟨rfl,hI⟩
   ·rw [if_neg (by rw [decide_eq_true_eq]; omega)] at hpre
    subst hpre
    refine dO (b:=[44]) (by omega) ?_
    exact ⟨rfl,hI⟩
  intro _ _ t3 _ _ _ _ w'
  rintro ⟨rfl,hI⟩
  refine aI hI 0 rfl aT aP rfl ?_
  refine dG hI hk av ai hj' (fun _ _=>RdT.length) fun es hes=>?_
  refine Run.callPure oj pD hI (tN hes (Bool.eq_false_iff.2 hpk) hu) fun w' hI=>?_
  refine dO (by rw [List.length_append]; omega) ?_
  refine bL (by omega) ?_
  refine ⟨⟨j+1,out++pre++u,hj',rfl,rfl,?_,hI⟩,by simp only [intOf,Int.toNat_natCast]; omega⟩
  rw [decide_eq_false (by omega)]
  exact hbf
 ·have:j=t.kids.length:=by omega
  subst this
  rw [List.drop_length,te] at hbf
  simp only [Option.some.injEq] at hbf
  subst hbf
  refine ⟨fun b w'=>b=.string (st x)/\Inv w [] [.blk b1 (.cells #[.int .i64 t.kind,.int .i64 t.n,.string t.name,.slice ka t.kids.length kc] ab)] S w',?_,?_⟩
  ·refine aI hI 0 rfl aT aP rfl ?_
   refine fx av ?_
   refine d6 ?_
   refine bk (fun h0=>?_) (fun h0=>?_)
   ·rw [if_pos (by omega)] at hx
    refine dO (b:=[41]) (by simp only [List.length_cons,List.length_nil]; omega) ?_
    exact ⟨by rw [<- hx],hI⟩
   ·rw [if_neg (by omega)] at hx
    exact ⟨by rw [<- hx],hI⟩
  intro t3 _ _ _ _ _ _ w'
  rintro ⟨rfl,hI⟩
  exact done hI rfl
theorem vr {t:T} {cs:List Value} {x:Bs} (h:RdT S cs t) (hv:ez t=true) (hw:wT t<=100000) (hx:FL t=some x) (hl:x.length<=100000):Pure Tryz.prog AL [.agg cs.toArray] S (.string (st x)):=by
 intro w hI
 have hl4:=h.length
 refine rG ?_
 unfold m7
 refine bM hI fun b1 w' hI=>?_
 have hI:Inv w [] [.blk b1 (.cells cs.toArray ab)] S w':=hI
 refine ba hI 0 ai rfl (by simpa using hl4) ?_
 refine Run.callPure gS gY hI (gr h (EQ (by omega))) fun w' hI=>?_
 rw [hv]
 refine cF ?_
 refine a8 (fun hb=>by cases hb) (fun _=>?_)
 refine ba hI 0 ai rfl (by simpa using hl4) ?_
 refine Run.callPure oj pD hI (IX h hx hl) fun w' hI=>?_
 exact done hI rfl
theorem xO {s:ByteArray} (h:okG s=true):Tri Tryz.prog Bx [.string s] [] S fun v I' S'=>I'=[]/\∃ cs t,v=.tuple #[.agg cs.toArray,.bool true]/\RdT S' cs t/\wT t<=100:=by
 obtain ⟨t,hg,hx,hv,h0,hs,hw⟩:=LY h
 have hbs:(bs s).length=s.size:=(lh (bs s)).symm
 intro w hI
 refine tf ?_
 unfold px;dsimp only
 refine bw hI bG fun b2 w' hI=>?_
 refine Run.call0E uf tC hI (Hm (s:=bs s) (i:=0) (by omega) hg) fun v I' S1 w'=>?_
 rintro ⟨rfl,cs,rfl,hcs⟩ hE hI
 have h0c:=hcs
 obtain ⟨kv,rfl,_,_,_,a,m,rfl,_⟩:=RdT.iff.1 hcs
 refine bb (v:=.agg _) rfl ?_
 refine bb (v:=.int .i64 (s.size:Int)) rfl ?_
 refine bw hI bG fun b4 w' hI=>?_
 refine bf hI 1 rfl ai rfl rfl (by simp [Value.oneCell']) fun w' hI=>?_
 have hI:Inv w [] [.blk b2 (.cells #[.int .i64 0,.int .i64 0,.string ⟨#[]⟩,.slice none 0 0] ab),.blk b4 (.cells #[.int .i64 t.kind,.int .i64 t.n,.string t.name,.slice a t.kids.length m] ab)] S1 w':=hI
 refine ⟨fun b w'=>b=.bool false/\Inv w [] [.blk b2 (.cells #[.int .i64 0,.int .i64 0,.string ⟨#[]⟩,.slice none 0 0] ab),.blk b4 (.cells #[.int .i64 t.kind,.int .i64 t.n,.string t.name,.slice a t.kids.length m] ab)] S1 w',?_,?_⟩
 ·refine cL ?_
  rw [decide_eq_false (fun e=>by rw [e] at h0; cases h0)]
  repeat (first|refine ad ?_|refine af (by decide) ?_|refine ac ?_|refine ah ?_|refine ag ?_)
  refine iQ bg ?_
  refine gn ?_
  rw [decide_eq_true rfl]
  repeat (first|refine ad ?_|refine af (by decide) ?_|refine ac ?_|refine ah ?_|refine ag ?_)
  refine ba hI 1 ai rfl rfl ?_
  refine Run.callPure xN yk hI (vr h0c hv (by omega) hx (by omega)) fun w' hI=>?_
  refine rC ?_
  rw [NU,decide_eq_true rfl]
  repeat (first|refine ad ?_|refine af (by decide) ?_|refine ac ?_|refine ah ?_|refine ag ?_)
  exact ⟨rfl,hI⟩
 intro t24 _ _ _ _ _ _ _ _ _ _ _ _ _ w'
 rintro ⟨rfl,hI⟩
 refine a8 (fun hb=>by cases hb) (fun _=>?_)
 refine ba hI 1 ai rfl rfl ?_
 refine bf hI 0 rfl ai rfl rfl (by simp [Value.oneCell']) fun w' hI=>?_
 refine bZ hI 0 ai rfl rfl ?_
 exact ⟨_,[],S1,rfl,hI.nil,hE,rfl,_,t,rfl,h0c,hw⟩
theorem zG (S:az):Tri Tryz.prog El [] [] S fun v I' S'=>I'=[]/\∃ l,RdSl S' 1 qk v l/\l.length=7/\l.all okG=true:=by
 intro w hI
 refine vB ?_
 unfold qI
 refine qU hI (by kernel_rfl) rfl (by omega) fun v S1 w' hE1 hv hI=>?_
 exact ⟨_,[],S1,rfl,hI,hE1,rfl,_,hv,rfl,by decide +kernel⟩
theorem Bp {p:Nat} (hrd:RdSl S 1 ku sl ys) (hp:p<=10000000):Tri Tryz.prog GA [rdP br] [rdI br sl p] S fun v I' S'=>I'=[rdI br sl (p+1)]/\∃ cs t,v=.agg cs.toArray/\RdT S' cs t/\wT t<=100:=by
 intro w hI
 refine xw ?_
 unfold tr
 refine bw hI bG fun b2 w' hI=>?_
 have hI:Inv w [br] [.blk b2 (.cells #[.int .i64 0,.int .i64 0,.string ⟨#[]⟩,.slice none 0 0] ab),rdI br sl p] S w':=hI.last 0 rfl
 refine Run.call0E BQ Bn hI (zG S) fun v' I' S1 w'=>?_
 rintro ⟨rfl,l,hl,hl7,hok⟩ hE1 hI
 have hI:Inv w [br] [.blk b2 (.cells #[.int .i64 0,.int .i64 0,.string ⟨#[]⟩,.slice none 0 0] ab),rdI br sl p] S1 w':=hI
 refine a9 hl cG ?_
 refine Run.callL bY bX hI (dR (n:=l.length) (hrd.monoU hE1.1) (by omega) (by omega)) rfl fun v' I' S1 w'=>?_
 rintro ⟨rfl,rfl,k,hk,rfl⟩ _ hI
 have hI:Inv w [br] [.blk b2 (.cells #[.int .i64 0,.int .i64 0,.string ⟨#[]⟩,.slice none 0 0] ab),rdI br sl (p+1)] S1 w':=hI
 refine iF hI hl cG bl hk (fun cs hcs=>hcs) ?_
 rw [List.all_eq_true] at hok
 refine Run.call0E At zn hI (xO (hok _ (List.getElem_mem hk))) fun v I' S2 w'=>?_
 rintro ⟨rfl,cs,t,rfl,hcs,hw⟩ hE2 hI
 have h0c:=hcs
 obtain ⟨kv,rfl,_,_,_,a,m,rfl,_⟩:=RdT.iff.1 hcs
 refine bb (v:=.agg _) rfl ?_
 refine bb (v:=.bool true) rfl ?_
 refine bw hI bG fun b4 w' hI=>?_
 refine bf hI 2 rfl ai rfl rfl (by simp [Value.oneCell']) fun w' hI=>?_
 refine ba hI 2 ai rfl rfl ?_
 refine bf hI 0 rfl ai rfl rfl (by simp [Value.oneCell']) fun w' hI=>?_
 refine bZ hI 0 ai rfl rfl ?_
 exact ⟨_,_,S2,rfl,hI.pick [false,true,false],hE1.trans hE2,rfl,_,t,rfl,h0c,hw⟩
end
end Go.Proofs.YtemmhhdnlbmicaaGreat

/- spec: walks, occurrence, unification. -/
namespace Go.Proofs.YtemmhhdnlbmicaaGreat
open Go Go.RowKit
/- bindings as a row of terms -/
def KnU (S:az) (c:Array Value) (st:bt):Prop:=st.length * 4<=c.size/\∀ i (h:i<st.length),(st[i]=none->bu c (i * 4) 4=pI)/\(∀ t,st[i]=some t->RdT S (bu c (i * 4) 4) t)
theorem KnU.set {S:az} {c:Array Value} {st:bt} (h:KnU S c st) {n:Nat} (hn:n<st.length) {cs:List Value} {u:T} (hu:RdT S cs u):KnU S (bp c (n * 4) cs) (st.set n (some u)):=by
 have hlc:=hu.length
 have h1:=h.1
 have hs:st.length * 4<=(bp c (n * 4) cs).size:=by rw [fV _ _ _ (by omega)]; exact h1
 refine ⟨by rw [List.length_set]; exact hs,fun i hi=>?_⟩
 rw [List.length_set] at hi
 by_cases e:n=i
 ·subst e
  rw [List.getElem_set_self]
  refine ⟨fun h=>(by cases h),fun t ht=>?_⟩
  simp only [Option.some.injEq] at ht
  subst ht
  have:=gt (c:=c) (o:=n * 4) (vs:=cs) (by omega)
  rw [hlc] at this
  rw [this]
  exact hu
 ·rw [List.getElem_set_ne e,gW (by omega) (by omega)]
  exact h.2 i hi
theorem KnU.mono {S S':az} {c:Array Value} {st:bt} (h:KnU S c st) (hs:Sle S S'):KnU S' c st:=⟨h.1,fun i hi=>⟨(h.2 i hi).1,fun t ht=>((h.2 i hi).2 t ht).mono hs⟩⟩
section
attribute [local irreducible] Run CondV aj bd
end
/- the variables of a term in a list of numbers -/
section
attribute [local irreducible] Run CondV aj bd
open Classical in
end

end Go.Proofs.YtemmhhdnlbmicaaGreat

/- spec.l3Unify. -/
namespace Go.Proofs.YtemmhhdnlbmicaaGreat
open Go Go.RowKit
/- the calls of a loop over two lists -/
inductive Chain (Call:bt->T->T->Bool->bt->Prop):bt->List T->List T->Bool->bt->Prop
 | nil {st:bt}:Chain Call st [] [] true st
 | stop {st st':bt} {a b:T} {xs ys:List T}:Call st a b false st'->Chain Call st (a::xs) (b::ys) false st'
 | go {st st1 st':bt} {a b:T} {xs ys:List T} {r:Bool}:Call st a b true st1->Chain Call st1 xs ys r st'->Chain Call st (a::xs) (b::ys) r st'
theorem Chain.head {Call:bt->T->T->Bool->bt->Prop} {st st':bt} {a b:T} {xs ys:List T} {r:Bool} (h:Chain Call st (a::xs) (b::ys) r st') :
  ∃ r1 st1,Call st a b r1 st1/\(r1=false->r=false/\st'=st1)/\(r1=true->Chain Call st1 xs ys r st'):=by
 cases h with
 | stop h=>exact ⟨false,_,h,fun _=>⟨rfl,rfl⟩,fun e=>(by cases e)⟩
 | go h h'=>exact ⟨true,_,h,fun e=>(by cases e),fun _=>h'⟩
theorem Chain.done {Call:bt->T->T->Bool->bt->Prop} {st st':bt} {r:Bool} (h:Chain Call st [] [] r st'):r=true/\st'=st:=by
 cases h
 exact ⟨rfl,rfl⟩
/- how a unification of walked terms ends -/
def OI (Call:bt->T->T->Bool->bt->Prop) (st:bt) (a' b':T) (r:Bool) (st':bt):Prop:=
 (a'.kind=1/\b'.kind=1/\a'.n=b'.n/\r=true/\st'=st) ∨
 (a'.kind=1/\¬ (b'.kind=1/\a'.n=b'.n)/\((¬ Dq st a'.n.toNat b'/\r=true/\st'=st.set a'.n.toNat (some b')) ∨ (Dq st a'.n.toNat b'/\r=false/\st'=st))) ∨
 (a'.kind≠1/\b'.kind=1/\((¬ Dq st b'.n.toNat a'/\r=true/\st'=st.set b'.n.toNat (some a')) ∨ (Dq st b'.n.toNat a'/\r=false/\st'=st))) ∨
 (a'.kind≠1/\b'.kind≠1/\((l5 a' b'=false/\r=false/\st'=st) ∨ (l5 a' b'=true/\Chain Call st a'.kids b'.kids r st')))
theorem Uni.calls {N:Nat} {Call:bt->T->T->Bool->bt->Prop} (hcall:∀ st a b a' b' r st',Good N st->okJ N (.one a b)->gJ st a a'->gJ st b b'->OI Call st a' b' r st'->Call st a b r st') {st st':bt} {j:Job} {r:Bool} (hu:Uni st j r st') :
  Good N st->okJ N j->match j with
   | .one a b=>Call st a b r st'
   | .list xs ys=>Chain Call st xs ys r st':=by
 induction hu with
 | same h1 h2 h3 h4 h5=>exact fun hg hj=>hcall _ _ _ _ _ _ _ hg hj h1 h2 (.inl ⟨h3,h4,h5,rfl,rfl⟩)
 | bindA h1 h2 h3 h4 h5=>exact fun hg hj=>hcall _ _ _ _ _ _ _ hg hj h1 h2 (.inr (.inl ⟨h3,h4,.inl ⟨h5,rfl,rfl⟩⟩))
 | occA h1 h2 h3 h4 h5=>exact fun hg hj=>hcall _ _ _ _ _ _ _ hg hj h1 h2 (.inr (.inl ⟨h3,h4,.inr ⟨h5,rfl,rfl⟩⟩))
 | bindB h1 h2 h3 h4 h5=>exact fun hg hj=>hcall _ _ _ _ _ _ _ hg hj h1 h2 (.inr (.inr (.inl ⟨h3,h4,.inl ⟨h5,rfl,rfl⟩⟩)))
 | occB h1 h2 h3 h4 h5=>exact fun hg hj=>hcall _ _ _ _ _ _ _ hg hj h1 h2 (.inr (.inr (.inl ⟨h3,h4,.inr ⟨h5,rfl,rfl⟩⟩)))
 | clash h1 h2 h3 h4 h5=>exact fun hg hj=>hcall _ _ _ _ _ _ _ hg hj h1 h2 (.inr (.inr (.inr ⟨h3,h4,.inl ⟨h5,rfl,rfl⟩⟩)))
 | kids h1 h2 h3 h4 h5 _ ih=>
  exact fun hg hj=>hcall _ _ _ _ _ _ _ hg hj h1 h2 (.inr (.inr (.inr ⟨h3,h4,.inr ⟨h5,ih hg ⟨yF (kz hg h1 hj.1),yF (kz hg h2 hj.2),Hp h5⟩⟩⟩)))
 | nil=>exact fun _ _=>.nil
 | stop _ ih=>exact fun hg hj=>.stop (ih hg ⟨hj.1 _ (List.mem_cons_self ..),hj.2.1 _ (List.mem_cons_self ..)⟩)
 | go h1 _ ih1 ih2=>
  intro hg hj
  have hj1:okJ N (.one _ _):=⟨hj.1 _ (List.mem_cons_self ..),hj.2.1 _ (List.mem_cons_self ..)⟩
  exact .go (ih1 hg hj1) (ih2 (h1.good hg hj1).1 ⟨fun a ha=>hj.1 a (List.mem_cons_of_mem _ ha),fun b hb=>hj.2.1 b (List.mem_cons_of_mem _ hb),by have:=hj.2.2; simpa using this⟩)
section
attribute [local irreducible] Run CondV aj bd
set_option maxHeartbeats 1000000 in
/- the case that a nonvariable meets a variable is handed on, so it comes with a contract -/
end

end Go.Proofs.YtemmhhdnlbmicaaGreat

/- DropClause: both sides. -/
namespace Go.Proofs.YtemmhhdnlbmicaaGreat
open Go Go.RowKit
attribute [local irreducible] Run CondV aj bd

end Go.Proofs.YtemmhhdnlbmicaaGreat

/- DropClause: both sides. -/
namespace Go.Proofs.YtemmhhdnlbmicaaGreat
open Go Go.RowKit
attribute [local irreducible] Run CondV aj bd

end Go.Proofs.YtemmhhdnlbmicaaGreat

/- spec.RenumberClause. -/
namespace Go.Proofs.YtemmhhdnlbmicaaGreat
open Go Go.RowKit
section
attribute [local irreducible] Run CondV aj bd
end

end Go.Proofs.YtemmhhdnlbmicaaGreat

/- spec.RenumberClause: lists and clauses. -/
namespace Go.Proofs.YtemmhhdnlbmicaaGreat
open Go Go.RowKit
section
variable {w:World} {K:Value->World->Prop}
attribute [local irreducible] Run
end
section
attribute [local irreducible] Run CondV aj bd
theorem RdC.zero (S:az):RdC S [.int .i64 0,.int .i64 0,.string ⟨#[]⟩,.slice none 0 0,.slice none 0 0] ⟨⟨0,0,⟨#[]⟩,[]⟩,[]⟩:=
 ⟨[.int .i64 0,.int .i64 0,.string ⟨#[]⟩,.slice none 0 0],.slice none 0 0,rfl,RdT.iff.2 ⟨_,rfl,by simp [inI,T.kind],by simp [inI,T.n],by rw [T.name]; decide +kernel,⟨none,0,rfl,Nat.le_refl _,Nat.zero_le _,.inl rfl⟩⟩,⟨none,0,rfl,Nat.le_refl _,Nat.zero_le _,.inl rfl⟩⟩
end

end Go.Proofs.YtemmhhdnlbmicaaGreat

/- spec: resolved terms, if they are small. -/
namespace Go.Proofs.YtemmhhdnlbmicaaGreat
open Go Go.RowKit
section
attribute [local irreducible] Run CondV aj bd
/- a tuple of a term and of how many nodes are left -/
end

end Go.Proofs.YtemmhhdnlbmicaaGreat

/- spec: shifted terms and clauses. -/
namespace Go.Proofs.YtemmhhdnlbmicaaGreat
open Go Go.RowKit
section
attribute [local irreducible] Run CondV aj bd
end

end Go.Proofs.YtemmhhdnlbmicaaGreat

/- Resolvents: the plain form. -/
namespace Go.Proofs.YtemmhhdnlbmicaaGreat
open Go Go.RowKit
/- weights by nodes -/
/- numbered anew -/
/- the resolvent -/
/- small terms have small weights -/
end Go.Proofs.YtemmhhdnlbmicaaGreat

/- spec.l4Clause. -/
namespace Go.Proofs.YtemmhhdnlbmicaaGreat
open Go Go.RowKit
section
variable {br:Nat} {sl:Value} {ys:List Nat}
attribute [local irreducible] Run CondV aj bd
end
end Go.Proofs.YtemmhhdnlbmicaaGreat

/- What calls what, and what can be reached: both sides. -/
namespace Go.Proofs.YtemmhhdnlbmicaaGreat
open Go Go.RowKit
attribute [local irreducible] Run CondV aj bd

end Go.Proofs.YtemmhhdnlbmicaaGreat

/- The graph of calls: the plain form. -/
namespace Go.Proofs.YtemmhhdnlbmicaaGreat
open Go Go.RowKit
attribute [local irreducible] Run CondV aj bd

/- what may still come in -/
/- rows of predicates: their length, an element -/
section
variable {P:Program} {w w0:World} {X:List Nat} {L:List Item} {S:az} {K:Value->World->Prop}
end

end Go.Proofs.YtemmhhdnlbmicaaGreat

/- What the clauses for a name call: both sides. -/
namespace Go.Proofs.YtemmhhdnlbmicaaGreat
open Go Go.RowKit
attribute [local irreducible] Run CondV aj bd

/- the program's side goes over the clauses' numbers -/
end Go.Proofs.YtemmhhdnlbmicaaGreat

/- What some predicates can lead to: both sides. -/
namespace Go.Proofs.YtemmhhdnlbmicaaGreat
open Go Go.RowKit
attribute [local irreducible] Run CondV aj bd

end Go.Proofs.YtemmhhdnlbmicaaGreat

/- Which predicates can lead to themselves: both sides. -/
namespace Go.Proofs.YtemmhhdnlbmicaaGreat
open Go Go.RowKit
attribute [local irreducible] Run CondV aj bd

end Go.Proofs.YtemmhhdnlbmicaaGreat

/- PredsOf, CallsOf, ReachOf: both sides. -/
namespace Go.Proofs.YtemmhhdnlbmicaaGreat
open Go Go.RowKit
attribute [local irreducible] Run CondV aj bd

end Go.Proofs.YtemmhhdnlbmicaaGreat

/- A predicate that comes in: its size, its copy, its reading. -/
namespace Go.Proofs.YtemmhhdnlbmicaaGreat
open Go Go.ChangeShapes Go.WideShapes Go.ChangeAt Go.RowKit
section
attribute [local irreducible] Run CondV aj bd
end
theorem two {cs:List Value} (h:cs.length=2):∃ a b,cs=[a,b]:=by
 match cs,h with
 | [a,b],_=>exact ⟨a,b,rfl⟩
end Go.Proofs.YtemmhhdnlbmicaaGreat

/- spec.l14Pred, DrawPredsOf, DrawCallsOf, DrawRecursivePred. -/
namespace Go.Proofs.YtemmhhdnlbmicaaGreat
open Go Go.RowKit
section
variable {br:Nat} {sl:Value} {ys:List Nat}
attribute [local irreducible] Run CondV aj bd
theorem Pd.one (x:Pd):∀ u∈x.cells,u.oneCell'=true:=by
 intro u hu
 have hu':u∈([.string x.name,.int .i64 x.arity]:List Value):=hu
 simp at hu'
 rcases hu' with rfl|rfl <;> rfl
end
end Go.Proofs.YtemmhhdnlbmicaaGreat

/- What the laws compare with: pgPreds, pgPred, impl.ClauseSame, pgClauses; bytes that come in. -/
namespace Go.Proofs.YtemmhhdnlbmicaaGreat
open Go Go.ChangeShapes Go.WideShapes Go.ChangeAt Go.RowKit
theorem N9:Tryz.prog.underlying E7=some (.int .u8):=by kernel_rfl
theorem MT {H:Type} {enc:TypeId × Value->H} {W:World} {sp:Nat->Bool} {held:Bool} {fuel:Nat} {cs:List Value} {x:DataW H × List MemPlace} (h:DataW.trod enc Tryz.prog W 0 sp held fuel E7 cs=some x) :
  ∃ n,ku cs n:=by
 cases fuel with
 | zero=>simp [DataW.trod] at h
 | succ n=>
  unfold DataW.trod at h
  rw [N9] at h
  split at h <;> simp_all
  rename_i k1 k2 m he
  subst he
  obtain ⟨⟨_,h⟩,_⟩:=h
  simp only [Lit.wf,Bool.and_eq_true,decide_eq_true_eq] at h
  have h1:0<=m/\m<=255:=h
  exact ⟨m.toNat,by rw [ku,Int.toNat_of_nonneg (by omega)]; exact ⟨rfl,by omega⟩⟩
theorem Ip {H:Type} {enc:TypeId × Value->H} {W:World} {sp:Nat->Bool} {held:Bool} {fuel:Nat} {v:Value} {x:DataW H × List MemPlace} (h:DataW.trod enc Tryz.prog W 0 sp held fuel Hx [v]=some x) :
  ∃ ys,RdSl (Ju W) 1 ku v ys:=M9 eG (by omega) h fun _ _ _ _ hy=>MT hy
section
variable {w0 w:World} {X:List Nat} {L:List Item} {S:az} {K:Value->World->Prop}
attribute [local irreducible] Run CondV aj bd
theorem Nh {P:Program} {T:TypeId} {cx cy:Bool} {a b:Bool} (hu:P.underlying T=some .bool) (hk:K (.bool (a == b)) w):Run P (aq .eql T cx cy (.bool a) (.bool b)) w K:=
 Run.of (by
  have he:(Op.equal T (.bool a) (.bool b)).run P w=.ok (a == b) w:=by
   rw [Op.equal,Op.maxDepth,Op.equalIn.eq_def]
   simp [run_underlying hu]
  simp only [aq,binOp,Sem.run_bind,su,Result.andThen_ok,he,Sem.run_pure]) hk
end
end Go.Proofs.YtemmhhdnlbmicaaGreat

/- What the laws about models compare with: pgTerms, pgFact, impl.CompareTerms, impl.PureProgram. -/
namespace Go.Proofs.YtemmhhdnlbmicaaGreat
open Go Go.RowKit
section
variable {S:az} {ys:List Nat} {v:Value}
attribute [local irreducible] Run CondV aj bd
theorem Ef {l:List T} {x:T} {u:Value} {ds:List Value} (h:RdSl S 4 (RdT S) u l) (hx:RdT S ds x) (hm:x∈l):Pure Tryz.prog Il [u,.agg ds.toArray] S (.bool true):=by
 intro w hI
 have hlen:=h.le
 simp only [maxLen] at hlen
 have hl4:=hx.length
 refine yR ?_
 unfold xh
 refine bM hI fun b3 w' hI=>?_
 have hI:Inv w [] [.blk b3 (.cells ds.toArray ab)] S w':=hI
 refine ⟨fun i w'=>∃ k:Nat,k<=l.length/\i=.int .i64 k/\kx (l.drop k) x=true/\Inv w [] [.blk b3 (.cells ds.toArray ab)] S w',fun i _=>l.length - (intOf i).toNat,⟨0,Nat.zero_le _,rfl,(zg _ _).2 hm,hI⟩,?_⟩
 intro t5 _ _ _ t17 t16 t15 t14 t13 t12 _ _ _ _ w'
 rintro ⟨k,hk,rfl,hrel,hI⟩
 refine a9 h av ?_
 refine bR ?_
 refine bk (fun hki=>?_) (fun hki=>?_)
 ·have hk':k<l.length:=by omega
  have hstep:kx (l.drop k) x=(eqT l[k] x || kx (l.drop (k+1)) x):=sf _ l k hk'
  obtain ⟨b,o,cap,c,E,fz,rfl,hS,hR⟩:=h.at_ hk'
  refine ⟨fun D dw dv ef eA eh ei w_=>(D 0=true->ei=.slice (some ⟨b,o,none⟩) l.length cap)/\(D 1=true->eh=.int .i64 k)/\(D 2=true->eA=.pointer (some ⟨b,o+k * 4,none⟩))/\(D 3=true->ef=.agg (bu c (o+k * 4) 4).toArray)/\(D 4=true->dv=.agg ds.toArray)/\(D 5=true->dw=.bool (eqT l[k] x))/\Inv w [] [.blk b3 (.cells ds.toArray ab)] S w_,⟨ae,ae,ae,ae,ae,ae,hI.draw⟩,⟨?_,?_,?_,?_,?_,?_,trivial⟩,?_⟩
  ·intro D aY  dw dv ef eA eh ei w_
   rintro ⟨aA,aB,aC,aD,aw,aE,hI⟩
   exact ⟨fun _=>rfl,aB,aC,aD,aw,aE,hI⟩
  ·intro D aY  dw dv ef eA eh ei w_
   rintro ⟨aA,aB,aC,aD,aw,aE,hI⟩
   exact ⟨aA,fun _=>rfl,aC,aD,aw,aE,hI⟩
  ·intro D aY cc ij dw dv ef eA eh ei w_
   rintro ⟨aA,aB,aC,aD,aw,aE,hI⟩
   obtain rfl:=aA cc
   obtain rfl:=aB ij
   refine bi av hk' ?_
   exact ⟨aA,aB,fun _=>rfl,aD,aw,aE,hI⟩
  ·intro D aY eq dw dv ef eA eh ei w_
   rintro ⟨aA,aB,aC,aD,aw,aE,hI⟩
   obtain rfl:=aC eq
   refine cV ai hR.length (fun j v hj=>by rw [hI.cellS hS]; exact bm rfl j v hj) ?_
   exact ⟨aA,aB,aC,fun _=>rfl,aw,aE,hI⟩
  ·intro D aY  dw dv ef eA eh ei w_
   rintro ⟨aA,aB,aC,aD,aw,aE,hI⟩
   refine ba hI 0 ai rfl (by simpa using hl4) ?_
   exact ⟨aA,aB,aC,aD,fun _=>rfl,aE,hI⟩
  ·intro D aY dB dJ dw dv ef eA eh ei w_
   rintro ⟨aA,aB,aC,aD,aw,aE,hI⟩
   obtain rfl:=aD dB
   obtain rfl:=aw dJ
   refine Run.callPure iC iI hI (iu _ _ S _ _ hR hx) fun w_ hI=>?_
   exact ⟨aA,aB,aC,aD,aw,fun _=>rfl,hI⟩
  intro D fE fm fw fF fC fD dw dv ef eA eh ei w_
  rintro ⟨aA,aB,aC,aD,aw,aE,hI⟩
  obtain rfl:=aE fE
  obtain rfl:=aw fm
  obtain rfl:=aD fw
  obtain rfl:=aC fF
  obtain rfl:=aB fC
  obtain rfl:=aA fD
  clear aA aB aC aD aw aE
  refine a8 (fun hb=>done hI rfl) (fun hb=>?_)
  refine bL (by omega) ?_
  exact ⟨⟨k+1,hk',rfl,by rw [hstep,hb,Bool.false_or] at hrel; exact hrel,hI⟩,by simp [intOf]; omega⟩
 ·have:k=l.length:=by omega
  subst this
  rw [List.drop_length] at hrel
  cases hrel
end
end Go.Proofs.YtemmhhdnlbmicaaGreat

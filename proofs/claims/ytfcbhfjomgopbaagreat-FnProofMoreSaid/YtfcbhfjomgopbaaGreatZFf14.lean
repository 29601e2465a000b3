/- spec.l13One. -/
import Derived.Test.YtfcbhfjomgopbaaGreatZFf13
import Derived.Test.YtfcbhfjomgopbaaGreatZFf1
import Derived.Test.YtfcbhfjomgopbaaGreatZFf8
import Derived.Test.YtfcbhfjomgopbaaGreatZFf12
import Derived.Test.YtfcbhfjomgopbaaGreatZFf7
import Derived.Test.YtfcbhfjomgopbaaGreatZFf11
namespace Go.Proofs.YtfcbhfjomgopbaaGreat
section
open Go Go.RowKit
theorem Inv.lendRowE {w0 w:World} {X:List Nat} {A:List Item} {S:ae} {v:Value} {e:TypeId} {k n:Nat} {xs:List Value} (h:Inv w0 X (A++[.row v e k n xs]) S w) :
  ∃ S',Ext w0.heap.size X S S'/\RowRd S' v e k n xs/\Inv w0 X A S' w:=by
 obtain ⟨hl,ho⟩:=h.openRow
 rcases ho with ⟨rfl,h0⟩|⟨g,cap,cur,rfl,hnc,hcm,hcs,ht,hI⟩
 ·exact ⟨S,Ext.refl _ _ _,⟨hl,.inl ⟨rfl,h0⟩⟩,h.sub (List.sublist_append_left _ _)⟩
 ·obtain ⟨S',h1,h2,h3⟩:=Inv.pub1 (A:=A) hI
  exact ⟨S',h2,⟨hl,.inr ⟨g,cap,cur,rfl,h3,hnc,hcm,hcs,ht⟩⟩,h1⟩
theorem OneR.inv {p:List C} {s s':Se} {e:Int} (h:OneR p s s' e):∃ g rest u,s.st.goals=g::rest/\Res s.st.binds (.one g.1 u)/\
  (((cA u=false ∨ jR u=true)/\s=s'/\e=0) ∨ (cA u=true/\jR u=false/\
   ((cM u=false/\∃ o,TakeR p s ⟨u,rest,A2 p u,s.st.binds⟩ o/\((o=some s'/\e=-1) ∨ (o=none/\s=s'/\e=-2))) ∨
       (cM u=true/\∃ c st,Blt s.st.binds u c st/\((c=1/\s=s'/\e=-2) ∨ (c≠0/\c≠1/\s=s'/\e=0) ∨ (c=0/\s'=⟨⟨rest,st,s.st.chs⟩,s.steps++[⟨u,-1,0⟩],s.saved⟩/\e=-1)))))):=by
 cases h with
 | big h1 h2 h3=>exact ⟨_,_,_,h1,h2,.inl ⟨h3,rfl,rfl⟩⟩
 | took h1 h2 h3 h4 h5 h6=>exact ⟨_,_,_,h1,h2,.inr ⟨h3,h4,.inl ⟨h5,_,h6,.inl ⟨rfl,rfl⟩⟩⟩⟩
 | stuck h1 h2 h3 h4 h5 h6=>exact ⟨_,_,_,h1,h2,.inr ⟨h3,h4,.inl ⟨h5,_,h6,.inr ⟨rfl,rfl,rfl⟩⟩⟩⟩
 | fail h1 h2 h3 h4 h5 h6=>exact ⟨_,_,_,h1,h2,.inr ⟨h3,h4,.inr ⟨h5,_,_,h6,.inl ⟨rfl,rfl,rfl⟩⟩⟩⟩
 | err h1 h2 h3 h4 h5 h6 h7 h8=>exact ⟨_,_,_,h1,h2,.inr ⟨h3,h4,.inr ⟨h5,_,_,h6,.inr (.inl ⟨h7,h8,rfl,rfl⟩)⟩⟩⟩
 | solved h1 h2 h3 h4 h5 h6=>exact ⟨_,_,_,h1,h2,.inr ⟨h3,h4,.inr ⟨h5,_,_,h6,.inr (.inr ⟨rfl,rfl,rfl⟩)⟩⟩⟩
def QZ (s':Se) (e:Int):Value->List Item->ae->Prop:=fun q I' S'=>I'=[]/\∃ cs:List Value,q=.tuple #[.agg cs.toArray,.int .i64 e]/\RdSe S' cs s'
def PTk (s:Se) (o:Option Se) (S:ae) (v:Value):Prop:=∃ cs:List Value,v=.tuple #[.agg cs.toArray,.bool o.isSome]/\RdSe S cs (o.getD s)
theorem PTk.mono {s:Se} {o:Option Se} {S S':ae} {v:Value} (h:PTk s o S v) (hs:Sle S S'):PTk s o S' v:=by
 obtain ⟨cs,e,h⟩:=h
 exact ⟨cs,e,h.mono hs⟩
def IsSe (s:Se) (S:ae) (v:Value):Prop:=∃ cs:List Value,v=.agg cs.toArray/\RdSe S cs s
theorem IsSe.mono {s:Se} {S S':ae} {v:Value} (h:IsSe s S v) (hs:Sle S S'):IsSe s S' v:=by
 obtain ⟨cs,e,h⟩:=h
 exact ⟨cs,e,h.mono hs⟩
def IsCh (c:Ch) (S:ae) (v:Value):Prop:=∃ cs:List Value,v=.agg cs.toArray/\RdCh S cs c
theorem IsCh.mono {c:Ch} {S S':ae} {v:Value} (h:IsCh c S v) (hs:Sle S S'):IsCh c S' v:=by
 obtain ⟨cs,e,h⟩:=h
 exact ⟨cs,e,h.mono hs⟩
abbrev zT4:Array Value:=#[.int .i64 0,.int .i64 0,.string ⟨#[]⟩,.slice none 0 0]
abbrev zG5:Array Value:=#[.int .i64 0,.int .i64 0,.string ⟨#[]⟩,.slice none 0 0,.int .i64 0]
section
attribute [local irreducible] Run CondV aB aS
set_option maxHeartbeats 4000000 in
theorem GT {p:List C} (hp:∀ cl∈p,vM cl) (hpl:p.length<=1000000) {k:Nat} (hk:k<=900) {s s':Se} {e:Int} (h:OneR p s s' e) (hso:mp p.length s) (hx:okXk k s)
  {S:ae} {u:Value} {ss:List Value} (hP:RdSl S 5 (RdC S) u p) (hs:RdSe S ss s):Tri Tryz.prog Kp [u,.agg ss.toArray] [] S (QZ s' e):=by
 intro w hI
 obtain ⟨g,rest,t,hgr,hres,hcase⟩:=h.inv
 obtain ⟨gs,sb,sc,st,sv,rfl,hsg,hsb,hsc,hst,hsv⟩:=id hs
 have hgo:=hso.st.goals
 have hgm:=hx.goals
 have hng:=hx.ng
 rw [hgr] at hsg hgo hgm hng
 obtain ⟨sga,sgc,rfl,_⟩:=id hsg
 obtain ⟨sba,sbc,rfl,_⟩:=id hsb
 obtain ⟨sca,scc,rfl,_⟩:=id hsc
 obtain ⟨sta,stc,rfl,_⟩:=id hst
 obtain ⟨sva,svc,rfl,_⟩:=id hsv
 have hnb:=hx.nb
 have hnc:=hx.nc
 have hns0:=hx.ns
 have hpos:=hx.pos
 have hgood:=hso.st.good
 have hg1:=hgo g (List.mem_cons_self ..)
 have htU:=mj hgood hres hg1.1
 have htM:okM t:=Res.okM hx.tab hres (hgm g (List.mem_cons_self ..))
 refine y0.2 ?_
 dsimp only[y0,aX]
 refine be hI fun b3 w' hI=>?_
 refine aG hI dz fun b4 w' hI=>?_
 obtain ⟨B3,hB3⟩:∃ B:Item,B=.blk b3 (.cells #[.slice sga (g::rest).length sgc,.slice sba s.st.binds.length sbc,.slice sca s.st.chs.length scc,.slice sta s.steps.length stc,.slice sva s.saved.length svc] aN):=⟨_,rfl⟩
 obtain ⟨B4,hB4⟩:∃ B:Item,B=.blk b4 (.cells zSe aN):=⟨_,rfl⟩
 have e3:=congrArg some hB3
 have e4:=congrArg some hB4
 have hI:Inv w [] [B3,B4] S w':=by rw [hB3,hB4]; exact hI
 have hret:∀ {S1:ae} {B:List Item} {w':World} {K:Value->World->Prop},Inv w [] ([B3,B4]++B) S1 w'->(∀ w',Inv w [] ([B3,.blk b4 (.cells #[.slice sga (g::rest).length sgc,.slice sba s.st.binds.length sbc,.slice sca s.st.chs.length scc,.slice sta s.steps.length stc,.slice sva s.saved.length svc] aN)]++B) S1 w'->K undef w')->
   Run Tryz.prog (sOp (.load aN (.const (.pointer (some ⟨b3,0,none⟩)))) aN) w' fun v w'=>Run Tryz.prog (sOp (.store aN (.const (.pointer (some ⟨b4,0,none⟩))) (.const v)) 0) w' K:=by
  intro S1 B w' K hI hk
  refine aq hI 0 aQ e3 rfl ?_
  exact ao hI 1 e4 aQ rfl rfl (Pb rfl rfl rfl rfl rfl) fun w' hI=>hk w' hI
 have hsame:∀ {S1:ae},Sle S S1->RdSe S1 [.slice sga (g::rest).length sgc,.slice sba s.st.binds.length sbc,.slice sca s.st.chs.length scc,.slice sta s.steps.length stc,.slice sva s.saved.length svc] s:=fun hle=>hs.mono hle
 refine ai bJ ?_
 refine ai fJ ?_
 refine aA hI 0 fk e3 rfl ?_
 refine ch (i:=0) hI hsg jr Bu (by simp) (fun _ _=>RdG.length) fun gds hgd=>?_
 have hgd:RdG S gds g:=hgd
 refine aG hI Ln fun b6 w' hI=>?_
 have hI:Inv w [] [B3,B4,.blk b6 (.cells zG5 i6)] S w':=hI
 refine ao hI 2 rfl Bu (by simpa using hgd.length) rfl (by simpa using hgd.one) fun w' hI=>?_
 obtain ⟨ghd,rfl,hgt⟩:=id hgd
 have hgt0:=hgt
 obtain ⟨gkv,rfl,_⟩:=RdT.iff.1 hgt
 have hI:Inv w [] [B3,B4,.blk b6 (.cells #[.int .i64 g.1.kind,.int .i64 g.1.n,.string g.1.name,gkv,.int .i64 g.2] i6)] S w':=hI
 refine ai GR ?_
 refine b0 hI 2 [.int .i64 g.1.kind,.int .i64 g.1.n,.string g.1.name,gkv] ac rfl rfl H2 ?_
 refine ai bJ ?_
 refine ai jc ?_
 refine aA hI 0 ag e3 rfl ?_
 refine Run.call0E uW vU hI (He hpos hgood hres hg1 hgt0 hsb) fun v' I' S1 w'=>?_
 rintro ⟨rfl,ts,hl4,ho4,rfl,hrd⟩ hE hI
 have hI:Inv w [] [B3,B4,.blk b6 (.cells #[.int .i64 g.1.kind,.int .i64 g.1.n,.string g.1.name,gkv,.int .i64 g.2] i6)] S1 w':=hI
 refine aj (v:=.agg ts.toArray) rfl ?_
 refine aj (v:=.bool (cA t)) rfl ?_
 refine aG hI aP fun b7 w' hI=>?_
 have hI:Inv w [] [B3,B4,.blk b6 (.cells #[.int .i64 g.1.kind,.int .i64 g.1.n,.string g.1.name,gkv,.int .i64 g.2] i6),.blk b7 (.cells zT4 ab)] S1 w':=hI
 refine ao hI 3 rfl ac (by simpa using hl4) rfl (by simpa using ho4) fun w' hI=>?_
 obtain ⟨B7,hB7⟩:∃ B:Item,B=.blk b7 (.cells ts.toArray ab):=⟨_,rfl⟩
 have e7:=congrArg some hB7
 have hI:Inv w [] [B3,B4,B7] S1 w':=by rw [hB7]; exact hI.pick [true,true,false,true]
 refine ⟨fun q w'=>q=.bool (!cA t || jR t)/\Inv w [] [B3,B4,B7] S1 w',?_,?_⟩
 ·refine bM ?_
  cases hsm:cA t with
  | false=>
   refine rpG ?_
   exact ⟨rfl,hI⟩
  | true=>
   refine rpG ?_
   refine aq hI 2 ac e7 (by simpa using hl4) ?_
   refine Run.callPure oi ox hI (lU (hrd hsm)) fun w' hI=>?_
   refine rpG ?_
   exact ⟨rfl,hI⟩
 intro q _ _ _ _ _ w'
 rintro ⟨rfl,hI⟩
 rcases hcase with ⟨hbad,rfl,rfl⟩|⟨hsm,hcu,hcase⟩
 ·have hq:(!cA t || jR t)=true:=by rcases hbad with h|h <;> rw [h] <;> simp
  refine az (fun _=>?_) (fun hb=>by rw [hq] at hb; cases hb)
  refine hret (B:=[B7]) hI fun w' hI=>?_
  refine aW hI 1 aQ rfl rfl ?_
  exact ⟨_,[],S1,rfl,hI.nil,hE,rfl,_,rfl,hsame hE.1⟩
 have hq:(!cA t || jR t)=false:=by rw [hsm,hcu]; rfl
 refine az (fun hb=>by rw [hq] at hb; cases hb) (fun _=>?_)
 have htr:=hrd hsm
 have htr0:=htr
 have hIk:=hI
 obtain ⟨tkv,rfl,_,_,_,htk⟩:=RdT.iff.1 htr
 have hI:=hIk
 have hw:=lO hsm htU
 have e7:some B7=some (.blk b7 (.cells #[.int .i64 t.kind,.int .i64 t.n,.string t.name,tkv] ab)):=e7
 refine ad hI 2 e7 aM aJ rfl ?_
 refine ad hI 2 e7 al ag rfl ?_
 refine aD htk af ?_
 refine Run.callPure gj f1 hI (fh _ _ S1) fun w' hI=>?_
 rw [PT htM]
 refine bM ?_
 rcases hcase with ⟨hbt,o,hT,hcase⟩|⟨hbt,c,st',hB,hcase⟩
 ·rw [hbt]
  refine az (fun _=>?_) (fun hb=>by cases hb)
  obtain ⟨c,hce⟩:∃ c:Ch,c=⟨t,rest,A2 p t,s.st.binds⟩:=⟨_,rfl⟩
  rw [<- hce] at hT
  have hc:km c:=by
   rw [hce]
   exact ⟨hgood,⟨htU,by simp only; omega⟩,fun x hx=>hgo x (List.mem_cons_of_mem _ hx)⟩
  have hr:okRk k c:=by
   rw [hce]
   simp only [List.length_cons] at hng
   exact ⟨hnb,by simp only; omega,hx.tab,htM,fun x hx=>hgm x (List.mem_cons_of_mem _ hx),hpos⟩
  have hPE:=hP.monoC hE.1
  refine ⟨fun D LI x9 sY rH jG tE rB sB pj lp ro rZ rN pm jK mh kw lW jJ j1 w_=>Fx D 0 [j1=u,jJ=.agg #[.slice sga (g::rest).length sgc,.slice sba s.st.binds.length sbc,.slice sca s.st.chs.length scc,.slice sta s.steps.length stc,.slice sva s.saved.length svc],lW=.agg #[.int .i64 t.kind,.int .i64 t.n,.string t.name,tkv],kw=.pointer (some ⟨b3,0,none⟩),mh=.pointer (some ⟨b3,0,none⟩),jK=.slice sga (g::rest).length sgc,RdSl S 5 (RdG S) pm rest,rN=u,rZ=.agg #[.int .i64 t.kind,.int .i64 t.n,.string t.name,tkv],True,lp=.pointer (some ⟨b3,0,none⟩),pj=.pointer (some ⟨b3,1,none⟩),sB=.slice sba s.st.binds.length sbc,True,True,True,True,sY=.bool o.isSome,True,True,LI=.bool o.isSome]/\∃ S2,Ext w.heap.size [] S1 S2/\(D 9=true->RdSl S2 1 ig ro (A2 p t))/\(D 13=true->IsCh c S2 rB)/\(D 14=true->PTk s o S2 tE)/\(D 15=true->PTk s o S2 jG)/\(D 16=true->IsSe (o.getD s) S2 rH)/\nwP w [] [B3,B4,B7] aN zSe (fun S q=>IsSe (o.getD s) S (.agg q)) (D 18) (D 19) x9 S2 w_,⟨Fx.nil _ _,⟨S1,Ext.refl _ _ _,aU,aU,aU,aU,aU,nwP.mk hI.draw _⟩⟩,⟨?_,?_,?_,?_,?_,?_,?_,?_,?_,?_,?_,?_,?_,?_,?_,?_,?_,?_,?_,?_,?_,trivial⟩,?_⟩
  all_goals (intro D bo; intros; rename_i LI x9 sY rH jG tE rB sB pj lp ro rZ rN pm jK mh kw lW jJ j1 w_ hA_; have hF_:=hA_.1; obtain ⟨⟨bU,bV,bH,bR,bZ,bI,bB,ct,cF,cK,bG,bX,cI,dq,cC,dA,dH,dV,fu,ew,fP,_⟩,⟨S2,hE2,f9,f13,f14,f15,f16,hN⟩⟩:=hA_)
  ·exact ⟨hF_.set 0 rfl,⟨S2,hE2,f9,f13,f14,f15,f16,hN⟩⟩
  ·obtain ⟨R,hI⟩:=hN.inv; refine aq hI 0 aQ e3 rfl ?_
   exact ⟨hF_.set 1 rfl,⟨S2,hE2,f9,f13,f14,f15,f16,hN⟩⟩
  ·obtain ⟨R,hI⟩:=hN.inv; refine aq hI 2 ac e7 rfl ?_
   exact ⟨hF_.set 2 rfl,⟨S2,hE2,f9,f13,f14,f15,f16,hN⟩⟩
  ·refine ai bJ ?_
   exact ⟨hF_.set 3 rfl,⟨S2,hE2,f9,f13,f14,f15,f16,hN⟩⟩
  ·obtain rfl:=bR ‹_›
   refine ai fJ ?_
   exact ⟨hF_.set 4 rfl,⟨S2,hE2,f9,f13,f14,f15,f16,hN⟩⟩
  ·obtain rfl:=bZ ‹_›
   obtain ⟨R,hI⟩:=hN.inv; refine aA hI 0 fk e3 rfl ?_
   exact ⟨hF_.set 5 rfl,⟨S2,hE2,f9,f13,f14,f15,f16,hN⟩⟩
  ·obtain rfl:=bI ‹_›
   refine gh (l:=1) jr hsg (by simp) fun v' hv'=>?_
   have hv':RdSl S 5 (RdG S) v' rest:=hv'
   exact ⟨hF_.set 6 (by first|assumption|trivial),⟨S2,hE2,f9,f13,f14,f15,f16,hN⟩⟩
  ·exact ⟨hF_.set 7 rfl,⟨S2,hE2,f9,f13,f14,f15,f16,hN⟩⟩
  ·obtain ⟨R,hI⟩:=hN.inv; refine aq hI 2 ac e7 rfl ?_
   exact ⟨hF_.set 8 rfl,⟨S2,hE2,f9,f13,f14,f15,f16,hN⟩⟩
  ·obtain rfl:=ct ‹_›
   obtain rfl:=cF ‹_›
   obtain ⟨R,hI,hback⟩:=nwP.ex (Q:=fun S q=>IsSe (o.getD s) S (.agg q)) (fun _ _ _ hs h=>IsSe.mono h hs) hN
   refine Run.call0E KG K7 hI (HT (hPE.monoC hE2.1) (htr0.mono hE2.1) (by omega)) fun v I' S3 w_=>?_
   rintro ⟨rfl,eS⟩ _ hI
   rw [eS] at hI
   obtain ⟨S3,hE3,hrw,hI⟩:=Inv.lendRowE hI
   have hN:=hback S3 _ hE3.1 hI
   have f9:aF D 9 9=true->RdSl S3 1 ig v (A2 p t):=fun _=>hrw.ints
   have f13:aF D 9 13=true->IsCh c S3 rB:=fun h=>(f13 h).mono hE3.1
   have f14:aF D 9 14=true->PTk s o S3 tE:=fun h=>(f14 h).mono hE3.1
   have f15:aF D 9 15=true->PTk s o S3 jG:=fun h=>(f15 h).mono hE3.1
   have f16:aF D 9 16=true->IsSe (o.getD s) S3 rH:=fun h=>(f16 h).mono hE3.1
   obtain ⟨S2,rfl,hE2⟩:∃ S2,S2=S3/\Ext w.heap.size [] S1 S2:=⟨S3,rfl,hE2.trans hE3⟩
   exact ⟨hF_.set 9 (by first|assumption|trivial),⟨S2,hE2,f9,f13,f14,f15,f16,hN⟩⟩
  ·refine ai bJ ?_
   exact ⟨hF_.set 10 rfl,⟨S2,hE2,f9,f13,f14,f15,f16,hN⟩⟩
  ·obtain rfl:=bG ‹_›
   refine ai jc ?_
   exact ⟨hF_.set 11 rfl,⟨S2,hE2,f9,f13,f14,f15,f16,hN⟩⟩
  ·obtain rfl:=bX ‹_›
   obtain ⟨R,hI⟩:=hN.inv; refine aA hI 0 ag e3 rfl ?_
   exact ⟨hF_.set 12 rfl,⟨S2,hE2,f9,f13,f14,f15,f16,hN⟩⟩
  ·obtain rfl:=bH ‹_›
   have Mh:=bB ‹_›
   have Hc:=cK ‹_›
   obtain rfl:=cI ‹_›
   have hf9:=f9 ‹D 9=true›
   obtain ⟨fa,fc,rfl,_⟩:=id hf9
   obtain ⟨qa,qc,rfl,_⟩:=id Mh
   refine DS ?_
   have f13:aF D 13 13=true->IsCh c S2 (.agg #[.int .i64 t.kind,.int .i64 t.n,.string t.name,tkv,.slice qa rest.length qc,.slice fa (A2 p t).length fc,.slice sba s.st.binds.length sbc]):=fun _=>by
    rw [hce]
    exact ⟨[.int .i64 t.kind,.int .i64 t.n,.string t.name,tkv,.slice qa rest.length qc,.slice fa (A2 p t).length fc,.slice sba s.st.binds.length sbc],rfl,_,_,_,_,rfl,htr0.mono hE2.1,Mh.monoG (hE.trans hE2).1,hf9,hsb.monoO (hE.trans hE2).1⟩
   exact ⟨hF_.set 13 (by first|assumption|trivial),⟨S2,hE2,f9,f13,f14,f15,f16,hN⟩⟩
  ·obtain rfl:=bU ‹_›
   obtain rfl:=bV ‹_›
   have Rg:=dq ‹_›
   obtain ⟨cs7,rfl,hch⟩:=f13 ‹D 13=true›
   obtain ⟨R,hI,hback⟩:=nwP.ex (Q:=fun S q=>IsSe (o.getD s) S (.agg q)) (fun _ _ _ hs h=>IsSe.mono h hs) hN
   refine Run.call0E uH wm hI (se hp (by omega) hc hr hT (by omega) (by omega) (by rw [hso.len]; omega) (hPE.monoC hE2.1) (hsame (hE.trans hE2).1) hch) fun v I' S3 w_=>?_
   rintro ⟨rfl,hg⟩ hE3 hI
   rw [List.append_nil] at hI
   have hN:=hback S3 _ hE3.1 hI
   have f9:aF D 14 9=true->RdSl S3 1 ig ro (A2 p t):=fun h=>(f9 h).mono hE3.1 fun _ _ h=>h
   have f13:aF D 14 13=true->IsCh c S3 (.agg cs7.toArray):=fun h=>(f13 h).mono hE3.1
   have f14:aF D 14 14=true->PTk s o S3 v:=fun _=>hg
   have f15:aF D 14 15=true->PTk s o S3 jG:=fun h=>(f15 h).mono hE3.1
   have f16:aF D 14 16=true->IsSe (o.getD s) S3 rH:=fun h=>(f16 h).mono hE3.1
   obtain ⟨S2,rfl,hE2⟩:∃ S2,S2=S3/\Ext w.heap.size [] S1 S2:=⟨S3,rfl,hE2.trans hE3⟩
   exact ⟨hF_.set 14 (by first|assumption|trivial),⟨S2,hE2,f9,f13,f14,f15,f16,hN⟩⟩
  ·have B0:=cC ‹_›
   have f15:aF D 15 15=true->PTk s o S2 tE:=fun _=>f14 ‹D 14=true›
   exact ⟨hF_.set 15 (by first|assumption|trivial),⟨S2,hE2,f9,f13,f14,f15,f16,hN⟩⟩
  ·have Np:=dA ‹_›
   obtain ⟨ns,rfl,hns⟩:=f15 ‹D 15=true›
   refine aj (v:=.agg ns.toArray) rfl ?_
   have f16:aF D 16 16=true->IsSe (o.getD s) S2 (.agg ns.toArray):=fun _=>⟨ns,rfl,hns⟩
   exact ⟨hF_.set 16 (by first|assumption|trivial),⟨S2,hE2,f9,f13,f14,f15,f16,hN⟩⟩
  ·have Np:=dA ‹_›
   obtain ⟨ns,rfl,hns⟩:=f15 ‹D 15=true›
   refine aj (v:=.bool o.isSome) rfl ?_
   exact ⟨hF_.set 17 rfl,⟨S2,hE2,f9,f13,f14,f15,f16,hN⟩⟩
  ·refine nwP.alloc hN bo dz rfl fun v w_ hN=>?_
   exact ⟨hF_.set 18 (by first|assumption|trivial),⟨S2,hE2,f9,f13,f14,f15,f16,hN⟩⟩
  ·have SU:=fu ‹_›
   have QE:=dH ‹_›
   obtain ⟨ns,rfl,hns⟩:=f16 ‹D 16=true›
   refine nwP.store hN ‹D 18=true› bo aQ (by simpa using hns.length) rfl (by simpa using hns.one) ⟨ns,rfl,hns⟩ fun w_ hN=>?_
   exact ⟨hF_.set 19 trivial,⟨S2,hE2,f9,f13,f14,f15,f16,hN⟩⟩
  ·obtain rfl:=dV ‹_›
   exact ⟨hF_.set 20 rfl,⟨S2,hE2,f9,f13,f14,f15,f16,hN⟩⟩
  obtain ⟨rfl,rfl,rfl,rfl,rfl,rfl,Mh,rfl,rfl,Hc,rfl,rfl,rfl,Rg,B0,Np,QE,rfl,SU,_,rfl,_⟩:=hF_.all
  have SY:D 18=true:=by assumption
  have Q4:D 19=true:=by assumption
  clear hF_ bU bV bH bR bZ bI bB ct cF cK bG bX cI dq cC dA dH dV fu ew fP
  rw [SY,Q4] at hN
  obtain ⟨b9,q9,rfl,⟨ns,hq9,hns⟩,hI⟩:=hN.fin
  obtain rfl:=Value.agg.inj hq9
  have hnl:=hns.length
  rcases hcase with ⟨rfl,rfl⟩|⟨rfl,rfl,rfl⟩
  ·refine az (fun _=>?_) (fun hb=>by cases hb)
   refine aq hI 3 aQ rfl (by simpa using hnl) ?_
   refine ao hI 1 e4 aQ (by simpa using hnl) rfl (by simpa using hns.one) fun w' hI=>?_
   refine aW hI 1 aQ rfl (by simpa using hnl) ?_
   exact ⟨_,[],S2,rfl,hI.nil,hE.trans hE2,rfl,ns,rfl,hns⟩
  ·refine az (fun hb=>by cases hb) (fun _=>?_)
   refine hret (B:=[B7,_]) hI fun w' hI=>?_
   refine aW hI 1 aQ rfl rfl ?_
   exact ⟨_,[],S2,rfl,hI.nil,hE.trans hE2,rfl,_,rfl,hsame (hE.trans hE2).1⟩
 ·rw [hbt]
  refine az (fun hb=>by cases hb) (fun _=>?_)
  have hsb1:=hsb.monoO hE.1
  refine dE hI bm fun v0 w' hI=>?_
  have hI:Inv w [] [B3,B4,B7,aL v0 ab 4 []] S1 w':=hI
  refine ai bJ ?_
  refine ai jc ?_
  refine aA hI 0 ag e3 rfl ?_
  refine ed (css:=[]) hI 3 bm (by omega) rfl hsb1 (fun _ _=>RdO.length) (fun _ _=>RdO.one) (by simp; omega) (by omega) fun v w' css hR hI=>?_
  have hI:Inv w [] ([B3,B4,B7]++[aL v ab 4 css]) S1 w':=hI
  obtain ⟨kb,cap,cur,rfl,q1,q2,hkn,hI⟩:=Inv.tab hI hR hpos
  refine aq hI 2 ac e7 rfl ?_
  refine Run.callE vQ we hI (oT (kp:=cap) (by omega) hpos q1 q2 hgood ⟨htU,by omega⟩ htM.okN hbt hB htr0 hkn) fun v' I' S' w'=>?_
  rintro ⟨eS,rfl,kc,rfl,hkn⟩ _ hI
  rw [eS] at hI
  have hgd:=hB.good hgood hbt ⟨htU,by omega⟩
  have hgl:=hgd.len
  refine aY ?_
  refine aI (fun hc1=>?_) (fun hc1=>?_)
  ·rcases hcase with ⟨_,rfl,rfl⟩|⟨_,h1,_⟩|⟨h0,_⟩
   ·refine hret (B:=[B7,_]) hI fun w' hI=>?_
    refine aW hI 1 aQ rfl rfl ?_
    exact ⟨_,[],S1,rfl,hI.nil,hE,rfl,_,rfl,hsame hE.1⟩
   ·exact absurd hc1 h1
   ·omega
  refine cE ?_
  refine az (fun hc0=>?_) (fun hc0=>?_)
  ·rcases hcase with ⟨h1,_⟩|⟨_,_,rfl,rfl⟩|⟨h0,_⟩
   ·exact absurd h1 hc1
   ·refine hret (B:=[B7,_]) hI fun w' hI=>?_
    refine aW hI 1 aQ rfl rfl ?_
    exact ⟨_,[],S1,rfl,hI.nil,hE,rfl,_,rfl,hsame hE.1⟩
   ·exact absurd h0 (by simpa using hc0)
  rcases hcase with ⟨h1,_⟩|⟨h0,_⟩|⟨_,rfl,rfl⟩
  ·exact absurd h1 hc1
  ·exact absurd h0 (by simpa using hc0)
  obtain ⟨S3,hI,hE3,hgS⟩:=Inv.pub1 hI
  have hE03:=hE.trans hE3
  have htb:RdSl S3 4 (RdO S3) (kvU kb s.st.binds.length cap) st':=by
   have:=(hkn.rd (cap:=cap) hgS (by rw [hgl]; exact q1) q2).mono (Sle.refl _) fun _ _ h=>RdO.mono hE3.1 h
   rw [hgl] at this
   exact this
  have hI:Inv w [] [.blk b3 (.cells #[.slice sga (g::rest).length sgc,.slice sba s.st.binds.length sbc,.slice sca s.st.chs.length scc,.slice sta s.steps.length stc,.slice sva s.saved.length svc] aN),B4,B7] S3 w':=by rw [<- hB3]; exact hI
  refine ⟨fun D tT tG vH yY xb yc yk vh qu yB w_=>Fx D 0 [yB=.pointer (some ⟨b3,0,none⟩),qu=.pointer (some ⟨b3,0,none⟩),vh=.slice sga (g::rest).length sgc,RdSl S 5 (RdG S) yk rest,yc=kvU kb s.st.binds.length cap,xb=.pointer (some ⟨b3,0,none⟩),yY=.pointer (some ⟨b3,2,none⟩),vH=.slice sca s.st.chs.length scc,∃ ga gc,tG=.agg #[.slice ga rest.length gc,kvU kb s.st.binds.length cap,.slice sca s.st.chs.length scc]/\RdSl S 5 (RdG S) (.slice ga rest.length gc) rest,tT=.pointer (some ⟨b3,0,none⟩),True]/\∃ q3,(D 10=true->D 2=true/\D 7=true)/\(D 10=false->q3=#[.slice sga (g::rest).length sgc,.slice sba s.st.binds.length sbc,.slice sca s.st.chs.length scc,.slice sta s.steps.length stc,.slice sva s.saved.length svc])/\(D 10=true->∃ gv,q3=#[gv,kvU kb s.st.binds.length cap,.slice sca s.st.chs.length scc,.slice sta s.steps.length stc,.slice sva s.saved.length svc]/\RdSl S 5 (RdG S) gv rest)/\Inv w [] [.blk b3 (.cells q3 aN),B4,B7] S3 w_,⟨Fx.nil _ _,⟨_,aU,fun _=>rfl,aU,hI.draw⟩⟩,⟨?_,?_,?_,?_,?_,?_,?_,?_,?_,?_,?_,trivial⟩,?_⟩
  all_goals (intro D bo; intros; rename_i tT tG vH yY xb yc yk vh qu yB w_ hA_; have hF_:=hA_.1; obtain ⟨⟨bU,bV,bH,bR,bZ,bI,bB,ct,cF,cK,bG,_⟩,⟨q3,k10,z10,f10,hI⟩⟩:=hA_)
  ·refine ai bJ ?_
   exact ⟨hF_.set 0 rfl,⟨q3,k10,z10,f10,hI⟩⟩
  ·obtain rfl:=bU ‹_›
   refine ai fJ ?_
   exact ⟨hF_.set 1 rfl,⟨q3,k10,z10,f10,hI⟩⟩
  ·obtain rfl:=bV ‹_›
   have n10:D 10=false:=Bool.eq_false_iff.2 fun h=>by rw [(k10 h).1] at bo; cases bo
   have hI2:=hI
   rw [z10 n10] at hI2
   refine aA hI2 0 fk rfl rfl ?_
   have k10:aF D 2 10=true->aF D 2 2=true/\aF D 2 7=true:=fun h=>⟨rfl,(k10 h).2⟩
   exact ⟨hF_.set 2 rfl,⟨q3,k10,z10,f10,hI⟩⟩
  ·obtain rfl:=bH ‹_›
   refine gh (l:=1) jr hsg (by simp) fun v' hv'=>?_
   have hv':RdSl S 5 (RdG S) v' rest:=hv'
   exact ⟨hF_.set 3 (by first|assumption|trivial),⟨q3,k10,z10,f10,hI⟩⟩
  ·exact ⟨hF_.set 4 rfl,⟨q3,k10,z10,f10,hI⟩⟩
  ·refine ai bJ ?_
   exact ⟨hF_.set 5 rfl,⟨q3,k10,z10,f10,hI⟩⟩
  ·obtain rfl:=bI ‹_›
   refine ai dh ?_
   exact ⟨hF_.set 6 rfl,⟨q3,k10,z10,f10,hI⟩⟩
  ·obtain rfl:=bB ‹_›
   have n10:D 10=false:=Bool.eq_false_iff.2 fun h=>by rw [(k10 h).2] at bo; cases bo
   have hI2:=hI
   rw [z10 n10] at hI2
   refine aA hI2 0 dl rfl rfl ?_
   have k10:aF D 7 10=true->aF D 7 2=true/\aF D 7 7=true:=fun h=>⟨(k10 h).1,rfl⟩
   exact ⟨hF_.set 7 rfl,⟨q3,k10,z10,f10,hI⟩⟩
  ·have JJ:=bR ‹_›
   obtain rfl:=bZ ‹_›
   obtain rfl:=ct ‹_›
   obtain ⟨ga,gc,rfl,_⟩:=id JJ
   refine JW ?_
   have hq:∃ ga' gc',Value.agg #[.slice ga rest.length gc,kvU kb s.st.binds.length cap,.slice sca s.st.chs.length scc]=.agg #[.slice ga' rest.length gc',kvU kb s.st.binds.length cap,.slice sca s.st.chs.length scc]/\RdSl S 5 (RdG S) (.slice ga' rest.length gc') rest:=⟨ga,gc,rfl,JJ⟩
   exact ⟨hF_.set 8 (by first|assumption|trivial),⟨q3,k10,z10,f10,hI⟩⟩
  ·refine ai bJ ?_
   exact ⟨hF_.set 9 rfl,⟨q3,k10,z10,f10,hI⟩⟩
  ·obtain rfl:=cK ‹_›
   have CJ:=cF ‹_›
   obtain ⟨ga,gc,rfl,hgv⟩:=CJ
   rw [z10 bo] at hI
   refine kP hI 0 rfl bY rfl rfl (by simp [Value.cells,Value.oneCell']) fun w_ hI=>?_
   have hI:Inv w [] [.blk b3 (.cells #[.slice ga rest.length gc,kvU kb s.st.binds.length cap,.slice sca s.st.chs.length scc,.slice sta s.steps.length stc,.slice sva s.saved.length svc] aN),B4,B7] S3 w_:=hI
   have k10:aF D 10 10=true->aF D 10 2=true/\aF D 10 7=true:=fun _=>⟨by assumption,by assumption⟩
   obtain ⟨q3,hq3⟩:∃ q3,q3=#[.slice ga rest.length gc,kvU kb s.st.binds.length cap,.slice sca s.st.chs.length scc,.slice sta s.steps.length stc,.slice sva s.saved.length svc]:=⟨_,rfl⟩
   rw [<- hq3] at hI
   have z10:aF D 10 10=false->q3=#[.slice sga (g::rest).length sgc,.slice sba s.st.binds.length sbc,.slice sca s.st.chs.length scc,.slice sta s.steps.length stc,.slice sva s.saved.length svc]:=fun h=>Bool.noConfusion h
   have f10:aF D 10 10=true->∃ gv,q3=#[gv,kvU kb s.st.binds.length cap,.slice sca s.st.chs.length scc,.slice sta s.steps.length stc,.slice sva s.saved.length svc]/\RdSl S 5 (RdG S) gv rest:=fun _=>⟨_,hq3,hgv⟩
   exact ⟨hF_.set 10 trivial,⟨q3,k10,z10,f10,hI⟩⟩
  obtain ⟨rfl,rfl,rfl,JJ,rfl,rfl,rfl,rfl,CJ,rfl,_,_⟩:=hF_.all
  have xV:D 10=true:=by assumption
  clear hF_ bU bV bH bR bZ bI bB ct cF cK bG
  obtain ⟨gv,rfl,hgv⟩:=f10 xV
  obtain ⟨sp,hsp⟩:∃ sp:Sp,sp=⟨t,-1,0⟩:=⟨_,rfl⟩
  have hspr:RdSp S3 [.int .i64 t.kind,.int .i64 t.n,.string t.name,tkv,.int .i64 (-1),.int .i64 0] sp:=by
   rw [hsp]
   exact ⟨_,rfl,htr0.mono hE3.1⟩
  have hst3:=hst.monoSp hE03.1
  have hI:Inv w [] ([B4,B7]++[.blk b3 (.cells #[gv,kvU kb s.st.binds.length cap,.slice sca s.st.chs.length scc,.slice sta s.steps.length stc,.slice sva s.saved.length svc] aN)]) S3 w_:=hI.perm (by
   refine List.Perm.symm (List.Perm.trans (List.Perm.swap _ _ _) ?_)
   exact (List.Perm.swap _ _ _).cons _)
  refine ⟨fun D DU CX Do Ca CG tJ sk tL tz w_=>Fx D 0 [True,tL=.pointer (some ⟨b3,3,none⟩),sk=.slice sta s.steps.length stc,True,CG=.agg #[.int .i64 t.kind,.int .i64 t.n,.string t.name,tkv],Ca=.agg #[.int .i64 t.kind,.int .i64 t.n,.string t.name,tkv,.int .i64 (-1),.int .i64 0],True,True,DU=.pointer (some ⟨b3,3,none⟩),True]/\∃ n_:Nat,n_<=3/\D 0=decide (1<=n_)/\D 3=decide (2<=n_)/\D 7=decide (3<=n_)/\((D 9=true->D 2=true)/\apP w [] (fun cv=>[B4,B7]++[.blk b3 (.cells #[gv,kvU kb s.st.binds.length cap,.slice sca s.st.chs.length scc,cv,.slice sva s.saved.length svc] aN)]) (.slice sta s.steps.length stc) gZ 6 RdSp s.steps sp S3 (D 6) (D 9) tz tJ Do CX w_ n_),⟨Fx.nil _ _,⟨0,Nat.zero_le _,rfl,rfl,rfl,(aU),apP.mk hI.draw _ _ _ _⟩⟩,⟨?_,?_,?_,?_,?_,?_,?_,?_,?_,?_,trivial⟩,?_⟩
  all_goals (intro D bo; intros; rename_i DU CX Do Ca CG tJ sk tL tz w_ hA_; have hF_:=hA_.1; obtain ⟨⟨bU,bV,bH,bR,bZ,bI,bB,ct,cF,cK,_⟩,⟨n_,ln_,e1_,e2_,e3_,hS⟩⟩:=hA_)
  ·obtain rfl:n_=0:=tY e1_ bo
   obtain ⟨k9,hS⟩:=hS; refine P4 hS eD fun v w_ hS=>?_
   exact ⟨hF_.set 0 (by first|assumption|trivial),⟨1,by decide,rfl,(by first|exact e2_|rfl),(by first|exact e3_|rfl),k9,hS⟩⟩
  ·refine ai fI ?_
   exact ⟨hF_.set 1 rfl,⟨n_,ln_,e1_,e2_,e3_,hS⟩⟩
  ·obtain rfl:=bV ‹_›
   obtain ⟨k9,hS⟩:=hS
   have n9:D 9=false:=Bool.eq_false_iff.2 fun h=>by rw [k9 h] at bo; cases bo
   obtain ⟨S5,R,hE5,hI⟩:=hS.inv0 n9
   refine aA hI 2 gC rfl rfl ?_
   have hS:=And.intro (fun (_:aF D 2 9=true)=>(rfl:aF D 2 2=true)) hS
   exact ⟨hF_.set 2 rfl,⟨n_,ln_,e1_,e2_,e3_,hS⟩⟩
  ·have SR:=bU ‹_›
   obtain rfl:=bH ‹_›
   obtain rfl:n_=1:=fL e1_ ‹D 0=true› e2_ bo
   obtain ⟨k9,hS⟩:=hS; refine PG spM hS eD (by omega) hst3 spL spO (by omega) (by omega) fun v w_ hS=>?_
   exact ⟨hF_.set 3 (by first|assumption|trivial),⟨2,by decide,(by first|exact e1_|rfl),rfl,(by first|exact e3_|rfl),k9,hS⟩⟩
  ·obtain ⟨k9,hS1⟩:=hS; obtain ⟨S5,cv,R,hE5,hI⟩:=hS1.inv; refine aq hI 1 ac e7 rfl ?_
   have hS:=And.intro k9 hS1
   exact ⟨hF_.set 4 rfl,⟨n_,ln_,e1_,e2_,e3_,hS⟩⟩
  ·obtain rfl:=bZ ‹_›
   refine JP ?_
   exact ⟨hF_.set 5 rfl,⟨n_,ln_,e1_,e2_,e3_,hS⟩⟩
  ·obtain rfl:=bI ‹_›
   obtain ⟨k9,hS⟩:=hS; refine Qs spM hS eD (by omega) (by omega) rfl hspr spL fun v w_ hS=>?_
   have hS:=And.intro k9 hS
   exact ⟨hF_.set 6 (by first|assumption|trivial),⟨n_,ln_,e1_,e2_,e3_,hS⟩⟩
  ·have JJ:=bR ‹_›
   have Mh:=bB ‹_›
   obtain rfl:n_=2:=fL e2_ ‹D 3=true› e3_ bo
   obtain ⟨k9,hS⟩:=hS; refine P1 spM hS ‹D 6=true› eD (by omega) spL spO (by omega) (by omega) fun v w_ hS=>?_
   exact ⟨hF_.set 7 (by first|assumption|trivial),⟨3,by decide,(by first|exact e1_|rfl),(by first|exact e2_|rfl),rfl,k9,hS⟩⟩
  ·refine ai fI ?_
   exact ⟨hF_.set 8 rfl,⟨n_,ln_,e1_,e2_,e3_,hS⟩⟩
  ·obtain rfl:=cF ‹_›
   have zQ:=ct ‹_›
   have hn3:=lx ln_ e3_ ‹D 7=true›
   obtain ⟨k9,hS3⟩:=hS
   rw [hn3] at hS3
   rw [bo] at hS3
   refine P2 (C:=fun cv=>#[gv,kvU kb s.st.binds.length cap,.slice sca s.st.chs.length scc,cv,.slice sva s.saved.length svc]) (fun _=>rfl) hS3 gC (fun _ _=>rfl) (fun _=>show 3<5 by decide) fun w_ hS4=>?_
   have hS:(aF D 9 9=true->aF D 9 2=true)/\apP w [] (fun cv=>[B4,B7]++[.blk b3 (.cells #[gv,kvU kb s.st.binds.length cap,.slice sca s.st.chs.length scc,cv,.slice sva s.saved.length svc] aN)]) (.slice sta s.steps.length stc) gZ 6 RdSp s.steps sp S3 (aF D 9 6) (aF D 9 9) tz tJ Do CX w_ n_:=⟨fun _=>by assumption,by rw [hn3]; exact hS4⟩
   exact ⟨hF_.set 9 trivial,⟨n_,ln_,e1_,e2_,e3_,hS⟩⟩
  obtain rfl:n_=3:=lx ln_ e3_ ‹D 7=true›
  have Fz:D 9=true:=by assumption
  clear e1_ e2_ e3_
  obtain ⟨_,hS⟩:=hS
  rw [Fz] at hS
  obtain ⟨S5,cv,hE5,hcv,hI⟩:=hS.fin
  have hE05:=hE03.trans hE5
  have hfin:RdSe S5 [gv,kvU kb s.st.binds.length cap,.slice sca s.st.chs.length scc,cv,.slice sva s.saved.length svc] ⟨⟨rest,st',s.st.chs⟩,s.steps++[⟨t,-1,0⟩],s.saved⟩:=
   ⟨_,_,_,_,_,rfl,hgv.monoG hE05.1,htb.monoO hE5.1,hsc.monoCh hE05.1,by rw [hsp] at hcv; exact hcv,hsv.monoVS hE05.1⟩
  refine aq hI 2 aQ rfl rfl ?_
  refine ao hI 0 e4 aQ rfl rfl (by simpa using hfin.one) fun w' hI=>?_
  refine aW hI 0 aQ rfl rfl ?_
  exact ⟨_,[],S5,rfl,hI.nil,hE05,rfl,_,rfl,hfin⟩
end
end
section
open Go Go.RowKit
theorem BldR.inv1 {st:aC} {l0:List Sp} {o:Option (List PF × List Sp)} (h:BldR st .one l0 o):∃ x l u,l0=x::l/\Res st (.one x.goal u)/\((cA u=false/\o=none) ∨
  (cA u=true/\∃ o',BldR st (.many x.body.toNat) l o'/\((o'=none/\o=none) ∨ ∃ ks l1,o'=some (ks,l1)/\o=some ([.mk u x.clause ks],l1)))):=by
 cases h with
 | big h1 h2=>exact ⟨_,_,_,rfl,h1,.inl ⟨h2,rfl⟩⟩
 | bad h1 h2 h3=>exact ⟨_,_,_,rfl,h1,.inr ⟨h2,_,h3,.inl ⟨rfl,rfl⟩⟩⟩
 | node h1 h2 h3=>exact ⟨_,_,_,rfl,h1,.inr ⟨h2,_,h3,.inr ⟨_,_,rfl,rfl⟩⟩⟩
theorem BldR.inv0 {st:aC} {l:List Sp} {o:Option (List PF × List Sp)} (h:BldR st (.many 0) l o):o=some ([],l):=by
 cases h with
 | nil=>rfl
theorem BldR.invS {st:aC} {n:Nat} {l:List Sp} {o:Option (List PF × List Sp)} (h:BldR st (.many (n+1)) l o):∃ o1,BldR st .one l o1/\((o1=none/\o=none) ∨
  ∃ k l1 o2,o1=some ([k],l1)/\BldR st (.many n) l1 o2/\((o2=none/\o=none) ∨ ∃ ks l2,o2=some (ks,l2)/\o=some (k::ks,l2))):=by
 cases h with
 | stop h=>exact ⟨_,h,.inl ⟨rfl,rfl⟩⟩
 | next h1 h2=>exact ⟨_,h1,.inr ⟨_,_,_,rfl,h2,.inl ⟨rfl,rfl⟩⟩⟩
 | cons h1 h2=>exact ⟨_,h1,.inr ⟨_,_,_,rfl,h2,.inr ⟨_,_,rfl,rfl⟩⟩⟩
theorem RowRd.one {S:ae} {v:Value} {e:TypeId} {k n:Nat} {xs:List Value} (h:RowRd S v e k n xs):v.oneCell'=true:=by
 obtain ⟨_,⟨rfl,_⟩|⟨g,cap,cur,rfl,_⟩⟩:=h <;> rfl
theorem Inv.rowOne {w0 w:World} {X:List Nat} {L:List Item} {S:ae} {v:Value} {e:TypeId} {k n i:Nat} {xs:List Value} (h:Inv w0 X L S w) (hi:L[i]?=some (.row v e k n xs)):v.cells=#[v]/\v.oneCell'=true:=by
 have hm:w.ownsRow 0 e k v n xs:=h.its _ (List.mem_of_getElem? hi)
 obtain ⟨_,hm⟩:=hm
 rcases hm with ⟨rfl,_⟩|⟨g,cap,cur,rfl,_⟩ <;> exact ⟨rfl,rfl⟩
theorem p7 {l:List Value} (h:l.length=4):∃ a b c d,l=[a,b,c,d]:=by
 match l,h with
 | [a,b,c,d],_=>exact ⟨a,b,c,d,rfl⟩
theorem P9 {l:List Value} (h:l.length=6):∃ a b c d e f,l=[a,b,c,d,e,f]:=by
 match l,h with
 | [a,b,c,d,e,f],_=>exact ⟨a,b,c,d,e,f,rfl⟩
theorem EG {a b c d:Value} {i:Int} {v:Value} (h:∀ x∈[a,b,c,d],x.oneCell'=true) (hv:v.oneCell'=true):∀ x∈(#[a,b,c,d,.int .i64 i,v]:Array Value).toList,x.oneCell'=true:=by
 intro x hx
 simp only [List.mem_cons,List.not_mem_nil,or_false] at hx h
 rcases hx with rfl|rfl|rfl|rfl|rfl|rfl
 ·exact h _ (.inl rfl)
 ·exact h _ (.inr (.inl rfl))
 ·exact h _ (.inr (.inr (.inl rfl)))
 ·exact h _ (.inr (.inr (.inr rfl)))
 ·rfl
 ·exact hv
abbrev zP6:Array Value:=#[.int .i64 0,.int .i64 0,.string ⟨#[]⟩,.slice none 0 0,.int .i64 0,.slice none 0 0]
def Rw (steps:List Sp) (o:Option (List PF × List Sp)):Value->List Item->ae->Prop:=fun q I' S'=>I'=[]/\∃ (cs:List Value) (a:Nat),q=.tuple #[.agg cs.toArray,.int .i64 (a:Int),.bool o.isSome]/\cs.length=6/\(∀ u∈cs,u.oneCell'=true)/\
 ∀ ks l2,o=some (ks,l2)->a<=steps.length/\l2=steps.drop a/\∃ x,ks=[x]/\RdF S' cs x
section
attribute [local irreducible] Run CondV aB aS
set_option maxHeartbeats 2000000 in
theorem AE {N:Nat} (hN0:0<N) {st:aC} (hg:Good N st) {steps:List Sp} (hok:okLp N steps) (hlen:steps.length<=100000):∀ (L a:Nat),steps.length - a<=L->∀ o,BldR st .one (steps.drop a) o->
  ∀ (S:ae) (v vb:Value),RdSl S 6 (RdSp S) v steps->RdSl S 4 (RdO S) vb st->Tri Tryz.prog GC [v,.int .i64 (a:Int),vb] [] S (Rw steps o):=by
 intro L
 induction L with
 | zero=>
  intro a ha o h
  obtain ⟨x,l,u,hl,_⟩:=h.inv1
  have:=congrArg List.length hl
  rw [List.length_drop] at this
  simp at this
  omega
 | succ L ih=>
 intro a ha o h S v vb hv hvb w hI
 obtain ⟨x,l,t,hl,hres,hcase⟩:=h.inv1
 have hal:a<steps.length:=by
  have:=congrArg List.length hl
  rw [List.length_drop] at this
  simp at this
  omega
 rw [List.drop_eq_getElem_cons hal,List.cons.injEq] at hl
 obtain ⟨hx,rfl⟩:=hl
 have hxm:x∈steps:=by rw [<- hx]; exact List.getElem_mem hal
 obtain ⟨⟨hxo,hxw⟩,hxb0,hxb6,hxc0,hxc1⟩:=hok x hxm
 obtain ⟨n,hn⟩:∃ n:Nat,x.body=n:=⟨x.body.toNat,by omega⟩
 rw [hn,Int.toNat_natCast] at hcase
 obtain ⟨va,vcap,rfl,_⟩:=id hv
 obtain ⟨sb,so,sc2,sc,sE,sfz,hve,hsS,hsR⟩:=hv.at_ hal
 rw [hx] at hsR
 have hva:va=some ⟨sb,so,none⟩:=by
  simp only [Value.slice.injEq] at hve
  exact hve.1
 obtain ⟨xhd,hxce,hxt⟩:=hsR
 have hxt0:=hxt
 obtain ⟨xkv,rfl,_⟩:=RdT.iff.1 hxt
 have hcc:sc[so+a * 6+4]?=some (.int .i64 x.clause):=ar hxce 4 _ rfl
 have hcb:sc[so+a * 6+5]?=some (.int .i64 x.body):=ar hxce 5 _ rfl
 have hix:∀ {ty:TypeId} {K:Value->World->Prop} {w':World},K (.pointer (some ⟨sb,so+a * 6,none⟩)) w'->Run Tryz.prog (sOp (.indexAddr pQ (.const (.slice va steps.length vcap)) (.const (.int .i64 (a:Int)))) ty) w' K:=
  fun hk=>by rw [hva]; exact au Gj hal hk
 refine sA.2 ?_
 dsimp only[sA,cX]
 refine aG hI dG fun b6 w' hI=>?_
 obtain ⟨B6,hB6⟩:∃ B:Item,B=.blk b6 (.cells zP6 ah):=⟨_,rfl⟩
 have e6:=congrArg some hB6
 have hI:Inv w [] [B6] S w':=by rw [hB6]; exact hI
 refine hix ?_
 refine ai CV ?_
 refine bw ac (cs:=[.int .i64 x.goal.kind,.int .i64 x.goal.n,.string x.goal.name,xkv]) rfl (fun j v hj=>by
  rw [hI.cellS hsS,Nat.add_zero]
  refine ar hxce j v ?_
  rw [List.getElem?_append_left (List.getElem?_eq_some_iff.1 hj).1]
  exact hj) ?_
 refine Run.call0E uW vU hI (He hN0 hg hres ⟨hxo,hxw⟩ hxt0 hvb) fun v' I' S1 w'=>?_
 rintro ⟨rfl,ts,hl4,ho4,rfl,hrd⟩ hE hI
 have hI:Inv w [] [B6] S1 w':=hI
 obtain ⟨a1,a2,a3,a4,rfl⟩:=p7 hl4
 refine aj (v:=.agg [a1,a2,a3,a4].toArray) rfl ?_
 refine aj (v:=.bool (cA t)) rfl ?_
 refine aG hI aP fun b9 w' hI=>?_
 have hI:Inv w [] [B6,.blk b9 (.cells #[.int .i64 0,.int .i64 0,.string ⟨#[]⟩,.slice none 0 0] ab)] S1 w':=hI
 refine ao hI 1 rfl ac rfl rfl (by simpa using ho4) fun w' hI=>?_
 obtain ⟨B9,hB9⟩:∃ B:Item,B=.blk b9 (.cells #[a1,a2,a3,a4] ab):=⟨_,rfl⟩
 have e9:=congrArg some hB9
 have hI:Inv w [] [B6,B9] S1 w':=by rw [hB9]; exact hI
 have hsS1:=hE.1 _ _ hsS
 refine ⟨fun D wM mt oE jM jd lw iB mJ w_=>Fx D 0 [mJ=.agg #[a1,a2,a3,a4],iB=.slice va steps.length vcap,lw=.int .i64 (a:Int),jd=.pointer (some ⟨sb,so+a * 6,none⟩),jM=.pointer (some ⟨sb,so+a * 6+4,none⟩),oE=.int .i64 x.clause,mt=.agg #[a1,a2,a3,a4,.int .i64 x.clause,.slice none 0 0],True,True]/\nwP w [] [B6,B9] ah zP6 (fun _ q=>q=#[a1,a2,a3,a4,.int .i64 x.clause,.slice none 0 0]) (D 7) (D 8) wM S1 w_,⟨Fx.nil _ _,nwP.mk hI.draw _⟩,⟨?_,?_,?_,?_,?_,?_,?_,?_,?_,trivial⟩,?_⟩
 all_goals (intro D bo; intros; rename_i wM mt oE jM jd lw iB mJ w_ hA_; have hF_:=hA_.1; obtain ⟨⟨bU,bV,bH,bR,bZ,bI,bB,ct,cF,_⟩,hN⟩:=hA_)
 ·obtain ⟨R,hI⟩:=hN.inv; refine aq hI 1 ac e9 rfl ?_
  exact ⟨hF_.set 0 rfl,hN⟩
 ·exact ⟨hF_.set 1 rfl,hN⟩
 ·exact ⟨hF_.set 2 rfl,hN⟩
 ·obtain rfl:=bV ‹_›
  obtain rfl:=bH ‹_›
  refine hix ?_
  exact ⟨hF_.set 3 rfl,hN⟩
 ·obtain rfl:=bR ‹_›
  refine ai Dd ?_
  exact ⟨hF_.set 4 rfl,hN⟩
 ·obtain rfl:=bZ ‹_›
  obtain ⟨R,hI⟩:=hN.inv; refine cz aw ((hI.cellS hsS1).trans hcc) ?_
  exact ⟨hF_.set 5 rfl,hN⟩
 ·obtain rfl:=bU ‹_›
  obtain rfl:=bI ‹_›
  refine nO ?_
  exact ⟨hF_.set 6 rfl,hN⟩
 ·refine nwP.alloc hN bo dG rfl fun v w_ hN=>?_
  exact ⟨hF_.set 7 (by first|assumption|trivial),hN⟩
 ·have zQ:=ct ‹_›
  obtain rfl:=bB ‹_›
  refine nwP.store hN ‹D 7=true› bo aT rfl rfl (EG ho4 rfl) rfl fun w_ hN=>?_
  exact ⟨hF_.set 8 trivial,hN⟩
 obtain ⟨rfl,rfl,rfl,rfl,rfl,rfl,rfl,zQ,_,_⟩:=hF_.all
 have vG:D 7=true:=by assumption
 have Am:D 8=true:=by assumption
 clear hF_ bU bV bH bR bZ bI bB ct cF
 rw [vG,Am] at hN
 obtain ⟨b11,q11,rfl,rfl,hI⟩:=hN.fin
 have hI:Inv w [] [B6,B9,.blk b11 (.cells #[a1,a2,a3,a4,.int .i64 x.clause,.slice none 0 0] ah)] S1 w_:=hI
 refine hix ?_
 refine ai C6 ?_
 refine cz aw ((hI.cellS hsS1).trans hcb) ?_
 rw [hn]
 refine bn (by omega) ?_
 rw [show ((a:Int)+1)=((a+1:Nat):Int) by omega]
 obtain ⟨oM,hoM⟩:∃ oM:Option (List PF × List Sp),(cA t=true->BldR st (.many n) (steps.drop (a+1)) oM)/\(cA t=false->oM=none)/\((oM=none/\o=none) ∨ ∃ ks l1,oM=some (ks,l1)/\o=some ([.mk t x.clause ks],l1))/\(oM≠none->cA t=true):=by
  rcases hcase with ⟨h1,h2⟩|⟨h1,o',h2,h3⟩
  ·exact ⟨none,fun e=>(by rw [h1] at e; cases e),fun _=>rfl,.inl ⟨rfl,h2⟩,fun e=>absurd rfl e⟩
  ·exact ⟨o',fun _=>h2,fun e=>(by rw [h1] at e; cases e),h3,fun _=>h1⟩
 obtain ⟨hoM1,hoM2,hoM3,hoM4⟩:=hoM
 have hI:=hI.rowNil ah 6
 have hI:Inv w [] [B6,.blk b11 (.cells #[a1,a2,a3,a4,.int .i64 x.clause,.slice none 0 0] ah),aL (.slice none 0 0) ah 6 []] S1 w_:=hI.pick [true,false,true,true]
 refine ⟨fun i k1 q1 w'=>∃ (j aa:Nat) (okb:Bool) (S2:ae) (kv:Value) (css:List (List Value)),i=.int .i64 (j:Int)/\k1=.bool okb/\q1=.int .i64 (aa:Int)/\j<=n/\css.length<=j/\Ext w.heap.size [] S1 S2/\(okb=false->oM=none)/\
   (okb=true->cA t=true/\aa<=steps.length/\a+1<=aa/\∃ dn o',Rows 6 (RdF S2) css dn/\BldR st (.many (n - j)) (steps.drop aa) o'/\(∀ ks l2,o'=some (ks,l2)->oM=some (dn++ks,l2))/\(o'=none->oM=none))/\
   Inv w [] [B6,.blk b11 (.cells #[a1,a2,a3,a4,.int .i64 x.clause,kv] ah),aL kv ah 6 css] S2 w',fun i _ _ _=>n - (intOf i).toNat,
  ⟨0,a+1,cA t,S1,_,[],rfl,rfl,rfl,Nat.zero_le _,Nat.le_refl _,Ext.refl _ _ _,hoM2,fun hs=>⟨hs,by omega,Nat.le_refl _,[],oM,Rows.nil _ _,hoM1 hs,fun ks l2 e=>e,fun e=>e⟩,hI⟩,?_⟩
 intro t13 _ _ t10 _ t1 _ _ _ _ _ _ _ _ _ _ _ _ _ _ _ _ _ _ _ _ _ _ _ _ w'
 rintro ⟨j,aa,okb,S2,kv,css,rfl,rfl,rfl,hj,hcl,hE2,hf,ht,hI⟩
 refine ⟨fun q w'=>q=.bool (decide ((j:Int)<(n:Int)) && okb)/\Inv w [] [B6,.blk b11 (.cells #[a1,a2,a3,a4,.int .i64 x.clause,kv] ah),aL kv ah 6 css] S2 w',?_,?_⟩
 ·refine bA ?_
  cases hd:decide ((j:Int)<(n:Int)) with
  | true=>
   refine rpG ?_
   exact ⟨rfl,hI⟩
  | false=>
   refine rpG ?_
   exact ⟨rfl,hI⟩
 intro q _ _ _ _ _ w'
 rintro ⟨rfl,hI⟩
 refine az (fun hb=>?_) (fun hb=>?_)
 ·rw [Bool.and_eq_true,decide_eq_true_eq] at hb
  obtain ⟨hjn,hok1⟩:=hb
  obtain ⟨hsm,ha1,ha2,dn,o',hR,hB,hs1,hs2⟩:=ht hok1
  obtain ⟨m,hm⟩:∃ m,n - j=m+1:=⟨n - j - 1,by omega⟩
  rw [hm] at hB
  obtain ⟨o1,hB1,hB2⟩:=hB.invS
  refine Run.call0E sF sM hI (ih aa (by omega) o1 hB1 S2 _ vb (hv.monoSp (hE.trans hE2).1) (hvb.monoO (hE.trans hE2).1)) fun v' I' S3 w'=>?_
  rintro ⟨rfl,c6,a',rfl,hk6,ko6,hpost⟩ hE3 hI
  obtain ⟨c1,c2,c3,c4,c5,c6,rfl⟩:=P9 hk6
  have hI:Inv w [] [B6,.blk b11 (.cells #[a1,a2,a3,a4,.int .i64 x.clause,kv] ah),aL kv ah 6 css] S3 w':=hI
  refine aj (v:=.agg [c1,c2,c3,c4,c5,c6].toArray) rfl ?_
  refine aj (v:=.int .i64 (a':Int)) rfl ?_
  refine aj (v:=.bool o1.isSome) rfl ?_
  refine aG hI dG fun b14 w' hI=>?_
  have hI:Inv w [] ([B6,.blk b11 (.cells #[a1,a2,a3,a4,.int .i64 x.clause,kv] ah),aL kv ah 6 css]++[.blk b14 (.cells zP6 ah)]) S3 w':=hI
  refine ao hI 3 rfl aT rfl rfl (by simpa using ko6) fun w' hI=>?_
  have hI:Inv w [] ([B6,.blk b11 (.cells #[a1,a2,a3,a4,.int .i64 x.clause,kv] ah),aL kv ah 6 css]++[.blk b14 (.cells #[c1,c2,c3,c4,c5,c6] ah)]) S3 w':=hI
  refine ad hI 1 rfl bk bp rfl ?_
  refine aq hI 3 aT rfl rfl ?_
  refine dM (css:=css) hI 2 [c1,c2,c3,c4,c5,c6] g0 (by omega) (by omega) rfl rfl ko6 (by omega) (by omega) fun v' w' hI=>?_
  have hI:Inv w [] [B6,.blk b11 (.cells #[a1,a2,a3,a4,.int .i64 x.clause,kv] ah),aL v' ah 6 (css++[[c1,c2,c3,c4,c5,c6]])] S3 w':=hI.pick [true,true,true]
  obtain ⟨hvc,hv1⟩:=hI.rowOne (i:=2) rfl
  refine cG hI 1 rfl bk bp rfl hvc hv1 fun w' hI=>?_
  refine bn (by omega) ?_
  rw [show ((j:Int)+1)=((j+1:Nat):Int) by omega]
  refine ⟨⟨j+1,a',o1.isSome,S3,v',_,rfl,rfl,rfl,by omega,by simp; omega,hE2.trans hE3,fun e1=>?_,fun e1=>?_,hI⟩,by simp only [intOf,Int.toNat_natCast]; omega⟩
  ·rcases hB2 with ⟨_,ho⟩|⟨k,l1,o2,rfl,_⟩
   ·exact hs2 ho
   ·cases e1
  ·rcases hB2 with ⟨rfl,ho⟩|⟨k,l1,o2,rfl,hB3,hB4⟩
   ·cases e1
   ·obtain ⟨p1,p2,x',hx',hrx⟩:=hpost _ _ rfl
    simp only [List.cons.injEq,and_true] at hx'
    subst hx'
    obtain ⟨pre,has⟩:=hB1.suf _ _ rfl
    have hle:aa<=a':=by
     have:=congrArg List.length has
     rw [p2,List.length_append,List.length_drop,List.length_drop] at this
     omega
    refine ⟨hsm,p1,by omega,dn++[k],o2,(hR.monoR fun _ _ h=>h.mono hE3.1).snoc hrx rfl,?_,fun ks l2 e=>?_,fun e=>?_⟩
    ·rw [show n - (j+1)=m by omega,<- p2]
     exact hB3
    ·rcases hB4 with ⟨h1,_⟩|⟨ks',l2',h1,h2⟩
     ·rw [h1] at e; cases e
     ·rw [h1] at e
      simp only [Option.some.injEq,Prod.mk.injEq] at e
      obtain ⟨rfl,rfl⟩:=e
      rw [hs1 _ _ h2,List.append_assoc]
      rfl
    ·rcases hB4 with ⟨_,h1⟩|⟨ks',l2',h1,h2⟩
     ·exact hs2 h1
     ·rw [h1] at e; cases e
 ·obtain ⟨S3,hE3,hrw,hI⟩:=Inv.lendExt (A:=[B6,.blk b11 (.cells #[a1,a2,a3,a4,.int .i64 x.clause,kv] ah)]) hI
  have hkv:=hrw.one
  refine aq hI 1 aT rfl rfl ?_
  refine ao (cs:=#[a1,a2,a3,a4,.int .i64 x.clause,kv]) hI 0 e6 aT rfl rfl (EG ho4 hkv) fun w' hI=>?_
  refine aW hI 0 aT rfl rfl ?_
  have hend:okb=o.isSome/\∀ ks l2,o=some (ks,l2)->aa<=steps.length/\l2=steps.drop aa/\∃ x',ks=[x']/\RdF S3 [a1,a2,a3,a4,.int .i64 x.clause,kv] x':=by
   cases hkb:okb with
   | false=>
    have h0:=hf hkb
    rcases hoM3 with ⟨_,h2⟩|⟨_,_,h1,_⟩
    ·subst h2
     exact ⟨rfl,fun ks l2 e=>by cases e⟩
    ·rw [h0] at h1; cases h1
   | true=>
    obtain ⟨hsm,ha1,ha2,dn,o',hR,hB,hs1,hs2⟩:=ht hkb
    rw [hkb,Bool.and_true,decide_eq_false_iff_not] at hb
    rw [show n - j=0 by omega] at hB
    have h1:=hs1 _ _ hB.inv0
    rcases hoM3 with ⟨h2,_⟩|⟨ks,l1,h2,h3⟩
    ·rw [h1] at h2; cases h2
    ·rw [h1] at h2
     simp only [List.append_nil,Option.some.injEq,Prod.mk.injEq] at h2
     obtain ⟨rfl,rfl⟩:=h2
     subst h3
     refine ⟨rfl,fun ks l2 e=>?_⟩
     simp only [Option.some.injEq,Prod.mk.injEq] at e
     obtain ⟨rfl,rfl⟩:=e
     refine ⟨ha1,rfl,_,rfl,RdF.iff.2 ?_⟩
     have htr:=(hrd hsm).mono (hE2.trans hE3).1
     obtain ⟨tkv,hte,_⟩:=RdT.iff.1 htr
     simp only [List.cons.injEq,and_true] at hte
     obtain ⟨rfl,rfl,rfl,rfl⟩:=hte
     exact ⟨_,_,rfl,htr,⟨by simp only [PF.clause]; omega,by simp only [PF.clause]; omega⟩,RowRd.rows (hR.monoR fun _ _ h=>h.mono hE3.1) hrw⟩
  obtain ⟨hk1,hk2⟩:=hend
  refine ⟨_,[],S3,rfl,hI.nil,(hE.trans hE2).trans hE3,rfl,[a1,a2,a3,a4,.int .i64 x.clause,kv],aa,by rw [hk1],rfl,EG ho4 hkv,hk2⟩
end
end
section
open Go Go.RowKit
mutual
def prF (vs:List Int):PF->PF
 | .mk g c ks=>.mk (gG vs g) c (prL vs ks)
def prL (vs:List Int):List PF->List PF
 | []=>[]
 | p::ps=>prF vs p::prL vs ps
end
theorem GW (vs:List Int):∀ ps:List PF,prL vs ps=ps.map (prF vs)
 | []=>rfl
 | p::ps=>by rw [prL,GW vs ps]; rfl
mutual
theorem LX (vs:List Int):∀ p:PF,wF (prF vs p)=wF p
 | .mk g c ks=>by rw [prF,wF,wF,Mr,On vs ks,GW,List.length_map]
theorem On (vs:List Int):∀ ps:List PF,wFL (prL vs ps)=wFL ps
 | []=>rfl
 | p::ps=>by rw [prL,wFL,wFL,LX vs p,On vs ps]
end
theorem BldR.wsize {N:Nat} {st:aC} (hg:Good N st) {j:BKd} {l:List Sp} {o:Option (List PF × List Sp)} (h:BldR st j l o):okLp N l->∀ ks l2,o=some (ks,l2)->wFL ks+ks.length+842 * l2.length<=842 * l.length:=by
 induction h with
 | big=>intro _ ks l2 h; cases h
 | bad=>intro _ ks l2 h; cases h
 | stop=>intro _ ks l2 h; cases h
 | next=>intro _ ks l2 h; cases h
 | nil=>
  intro _ ks l2 h
  simp only [Option.some.injEq,Prod.mk.injEq] at h
  obtain ⟨rfl,rfl⟩:=h
  simp [wFL]
 | @node x l _ u _ hu hsm _ ih=>
  intro ho ks l2 h
  simp only [Option.some.injEq,Prod.mk.injEq] at h
  obtain ⟨rfl,rfl⟩:=h
  have h1:=ih (fun y hy=>ho y (List.mem_cons_of_mem _ hy)) _ _ rfl
  have hou:okU N u:=mj hg hu (ho x (List.mem_cons_self ..)).1.1
  have hw:=lO hsm hou
  simp only [wFL,wF,List.length_cons,List.length_nil]
  omega
 | @cons _ l l1 l2 k ks' h1 _ ih1 ih2=>
  intro ho ks l3 h
  simp only [Option.some.injEq,Prod.mk.injEq] at h
  obtain ⟨rfl,rfl⟩:=h
  obtain ⟨a,e⟩:=h1.suf _ _ rfl
  have q1:=ih1 ho _ _ rfl
  have q3:=ih2 (fun y hy=>ho y (by rw [e]; exact List.mem_append_right _ hy)) _ _ rfl
  simp only [wFL,List.length_cons,List.length_nil] at q1 ⊢
  omega
theorem Inv.rowSl {w0 w:World} {X:List Nat} {L:List Item} {S:ae} {v:Value} {e:TypeId} {k n i:Nat} {xs:List Value} (h:Inv w0 X L S w) (hi:L[i]?=some (.row v e k n xs)):∃ a n m,v=.slice a n m:=by
 have hm:w.ownsRow 0 e k v n xs:=h.its _ (List.mem_of_getElem? hi)
 obtain ⟨_,hm⟩:=hm
 rcases hm with ⟨rfl,_⟩|⟨g,cap,cur,rfl,_⟩ <;> exact ⟨_,_,_,rfl⟩
def rnC (w0:World) (X:List Nat) (b5:Nat) (F:Value->Array Value) (B:List Item) (kv:Value) (css:List (List Value)) (y:PF) (S:ae) (lw jd jM:Value) (w:World):Nat->Prop
 | 0=>Inv w0 X (B++[.blk b5 (.cells (F kv) ah),aL kv ah 6 css]) S w
 | 1=>∃ S1 cs,lw=.agg cs.toArray/\Ext w0.heap.size X S S1/\RdF S1 cs y/\Inv w0 X (B++[.blk b5 (.cells (F kv) ah),aL kv ah 6 css]) S1 w
 | 2=>∃ S1,Ext w0.heap.size X S S1/\RdSl S1 6 (RdF S1) jd [y]/\Inv w0 X (B++[.blk b5 (.cells (F kv) ah),aL kv ah 6 css]) S1 w
 | 3=>∃ S1 cs,Ext w0.heap.size X S S1/\RdF S1 cs y/\Inv w0 X (B++[.blk b5 (.cells (F kv) ah),aL jM ah 6 (css++[cs])]) S1 w
 | _=>∃ S1 kv' cs,Ext w0.heap.size X S S1/\RdF S1 cs y/\Inv w0 X (B++[.blk b5 (.cells (F kv') ah),aL kv' ah 6 (css++[cs])]) S1 w
theorem rnC.inv {w0 w:World} {X:List Nat} {b5:Nat} {F:Value->Array Value} {B:List Item} {kv:Value} {css:List (List Value)} {y:PF} {S:ae} {lw jd jM:Value}:∀ {n:Nat},rnC w0 X b5 F B kv css y S lw jd jM w n->∃ R S1,Ext w0.heap.size X S S1/\Inv w0 X (B++R) S1 w
 | 0,h=>⟨_,_,Ext.refl _ _ _,h⟩
 | 1,⟨S1,_,_,hE,_,h⟩=>⟨_,S1,hE,h⟩
 | 2,⟨S1,hE,_,h⟩=>⟨_,S1,hE,h⟩
 | 3,⟨S1,_,hE,_,h⟩=>⟨_,S1,hE,h⟩
 | _+4,⟨S1,_,_,hE,_,h⟩=>⟨_,S1,hE,h⟩
theorem rnC.low {w0 w:World} {X:List Nat} {b5:Nat} {F:Value->Array Value} {B:List Item} {kv:Value} {css:List (List Value)} {y:PF} {S:ae} {lw jd jM:Value}:∀ {n:Nat},rnC w0 X b5 F B kv css y S lw jd jM w n->n<4->∃ R S1,Inv w0 X (B++.blk b5 (.cells (F kv) ah)::R) S1 w
 | 0,h,_=>⟨_,_,h⟩
 | 1,⟨S1,_,_,_,_,h⟩,_=>⟨_,S1,h⟩
 | 2,⟨S1,_,_,h⟩,_=>⟨_,S1,h⟩
 | 3,⟨S1,_,_,_,h⟩,_=>⟨_,S1,h⟩
 | n+4,_,h=>by omega
abbrev Ny (x:PF):Value->List Item->ae->Prop:=fun q I' S'=>I'=[]/\∃ cs:List Value,q=.agg cs.toArray/\RdF S' cs x
section
attribute [local irreducible] Run CondV aB aS
set_option maxHeartbeats 2000000 in
theorem zX {vs:List Int} (hvl:vs.length<=1000000000):∀ (x:PF) (S:ae) (cs:List Value) (v:Value),RdF S cs x->RdSl S 1 ig v vs->pwT x->wF x<=1048576->Tri Tryz.prog sa [.agg cs.toArray,v] [] S (Ny (prF vs x)):=by
 refine PF.ind fun g c ks ih S cs v h hv hpw hwf=>?_
 intro w hI
 obtain ⟨gkv,kp,rfl,hg,hci,hks⟩:=RdF.iff.1 h
 simp only [PF.goal,PF.clause,PF.kids] at hg hci hks ⊢
 rw [pwT] at hpw
 rw [wF] at hwf
 have hlen:=hks.le
 simp only [maxLen] at hlen
 obtain ⟨ka,kc,rfl,_⟩:=id hks
 obtain ⟨va,vc,rfl,_⟩:=id hv
 refine qy.2 ?_
 dsimp only[qy,aX]
 refine be hI fun b2 w' hI=>?_
 refine aG hI dG fun b4 w' hI=>?_
 obtain ⟨B2,hB2⟩:∃ B:Item,B=.blk b2 (.cells #[.int .i64 g.kind,.int .i64 g.n,.string g.name,gkv,.int .i64 c,.slice ka ks.length kc] ah):=⟨_,rfl⟩
 obtain ⟨B4,hB4⟩:∃ B:Item,B=.blk b4 (.cells zP6 ah):=⟨_,rfl⟩
 have e2:=congrArg some hB2
 have e4:=congrArg some hB4
 have hI:Inv w [] [B2,B4] S w':=by rw [hB2,hB4]; exact hI
 refine ⟨fun D x5 Hd JI wM LI x9 x8 x7 w_=>Fx D 0 [x7=.pointer (some ⟨b2,0,none⟩),x8=.agg #[.int .i64 g.kind,.int .i64 g.n,.string g.name,gkv],x9=.slice va vs.length vc,True,wM=.pointer (some ⟨b2,4,none⟩),JI=.int .i64 c,True,True,True]/\∃ S1,Ext w.heap.size [] S S1/\(D 3=true->∃ a1 a2 a3 a4,LI=.agg #[a1,a2,a3,a4]/\RdT S1 [a1,a2,a3,a4] (gG vs g))/\(D 6=true->∃ a1 a2 a3 a4,Hd=.agg #[a1,a2,a3,a4,.int .i64 c,.slice none 0 0]/\RdT S1 [a1,a2,a3,a4] (gG vs g))/\nwP w [] [B2,B4] ah zP6 (fun S q=>∃ a1 a2 a3 a4,q=#[a1,a2,a3,a4,.int .i64 c,.slice none 0 0]/\RdT S [a1,a2,a3,a4] (gG vs g)) (D 7) (D 8) x5 S1 w_,⟨Fx.nil _ _,⟨S,Ext.refl _ _ _,aU,aU,nwP.mk hI.draw _⟩⟩,⟨?_,?_,?_,?_,?_,?_,?_,?_,?_,trivial⟩,?_⟩
 all_goals (intro D bo; intros; rename_i x5 Hd JI wM LI x9 x8 x7 w_ hA_; have hF_:=hA_.1; obtain ⟨⟨bU,bV,bH,bR,bZ,bI,bB,ct,cF,_⟩,⟨S1,hE1,f3,f6,hN⟩⟩:=hA_)
 ·refine ai cP ?_
  exact ⟨hF_.set 0 rfl,⟨S1,hE1,f3,f6,hN⟩⟩
 ·obtain rfl:=bU ‹_›
  obtain ⟨R,hI⟩:=hN.inv; refine b0 hI 0 [.int .i64 g.kind,.int .i64 g.n,.string g.name,gkv] ac e2 rfl sH ?_
  exact ⟨hF_.set 1 rfl,⟨S1,hE1,f3,f6,hN⟩⟩
 ·exact ⟨hF_.set 2 rfl,⟨S1,hE1,f3,f6,hN⟩⟩
 ·obtain rfl:=bV ‹_›
  obtain rfl:=bH ‹_›
  obtain ⟨R,hI,hback⟩:=nwP.ex (Q:=fun S q=>∃ a1 a2 a3 a4,q=#[a1,a2,a3,a4,.int .i64 c,.slice none 0 0]/\RdT S [a1,a2,a3,a4] (gG vs g)) (fun _ _ _ hs ⟨a1,a2,a3,a4,e,h⟩=>⟨a1,a2,a3,a4,e,h.mono hs⟩) hN
  refine Run.call0E sr rP hI (AY vs hvl g S1 _ _ (hg.mono hE1.1) (hv.mono hE1.1 fun _ _ h=>h) (by omega)) fun v I' S2 w_=>?_
  rintro ⟨eS,cs',L,rfl,rfl,hT⟩ _ hI
  rw [eS] at hI
  obtain ⟨S2,hI,hE2,hins⟩:=hI.pubExt
  have hrt:=hT.rd hins
  obtain ⟨a1,a2,a3,a4,rfl⟩:=p7 hrt.length
  have hN:=hback S2 _ hE2.1 hI
  have f3:aF D 3 3=true->∃ b1 b2 b3 b4,Value.agg [a1,a2,a3,a4].toArray=.agg #[b1,b2,b3,b4]/\RdT S2 [b1,b2,b3,b4] (gG vs g):=fun _=>⟨a1,a2,a3,a4,rfl,hrt⟩
  have f6:aF D 3 6=true->∃ a1 a2 a3 a4,Hd=.agg #[a1,a2,a3,a4,.int .i64 c,.slice none 0 0]/\RdT S2 [a1,a2,a3,a4] (gG vs g):=fun h=>by
   obtain ⟨b1,b2,b3,b4,e,h⟩:=f6 h
   exact ⟨b1,b2,b3,b4,e,h.mono hE2.1⟩
  obtain ⟨S1,rfl,hE1⟩:∃ S1,S1=S2/\Ext w.heap.size [] S S1:=⟨S2,rfl,hE1.trans hE2⟩
  exact ⟨hF_.set 3 (by first|assumption|trivial),⟨S1,hE1,f3,f6,hN⟩⟩
 ·refine ai cN ?_
  exact ⟨hF_.set 4 rfl,⟨S1,hE1,f3,f6,hN⟩⟩
 ·obtain rfl:=bZ ‹_›
  obtain ⟨R,hI⟩:=hN.inv; refine aA hI 0 aw e2 rfl ?_
  exact ⟨hF_.set 5 rfl,⟨S1,hE1,f3,f6,hN⟩⟩
 ·have JJ:=bR ‹_›
  obtain rfl:=bI ‹_›
  obtain ⟨a1,a2,a3,a4,rfl,hrt⟩:=f3 ‹D 3=true›
  refine nO ?_
  have f6:aF D 6 6=true->∃ b1 b2 b3 b4,Value.agg #[a1,a2,a3,a4,.int .i64 c,.slice none 0 0]=.agg #[b1,b2,b3,b4,.int .i64 c,.slice none 0 0]/\RdT S1 [b1,b2,b3,b4] (gG vs g):=fun _=>⟨a1,a2,a3,a4,rfl,hrt⟩
  exact ⟨hF_.set 6 (by first|assumption|trivial),⟨S1,hE1,f3,f6,hN⟩⟩
 ·refine nwP.alloc hN bo dG rfl fun v w_ hN=>?_
  exact ⟨hF_.set 7 (by first|assumption|trivial),⟨S1,hE1,f3,f6,hN⟩⟩
 ·have zQ:=ct ‹_›
  have Mh:=bB ‹_›
  obtain ⟨a1,a2,a3,a4,rfl,hrt⟩:=f6 ‹D 6=true›
  refine nwP.store hN ‹D 7=true› bo aT rfl rfl (EG hrt.one rfl) ⟨a1,a2,a3,a4,rfl,hrt⟩ fun w_ hN=>?_
  exact ⟨hF_.set 8 trivial,⟨S1,hE1,f3,f6,hN⟩⟩
 obtain ⟨rfl,rfl,rfl,JJ,rfl,rfl,Mh,zQ,_,_⟩:=hF_.all
 have vG:D 7=true:=by assumption
 have Am:D 8=true:=by assumption
 clear hF_ bU bV bH bR bZ bI bB ct cF
 rw [vG,Am] at hN
 obtain ⟨b5,q5,rfl,⟨a1,a2,a3,a4,rfl,hrt⟩,hI⟩:=hN.fin
 obtain ⟨F,hF⟩:∃ F:Value->Array Value,F=fun kv=>#[a1,a2,a3,a4,.int .i64 c,kv]:=⟨_,rfl⟩
 have hFv:∀ kv,F kv=#[a1,a2,a3,a4,.int .i64 c,kv]:=fun kv=>by rw [hF]
 have hI:=hI.rowNil ah 6
 have hI:Inv w [] ([B2,B4]++[.blk b5 (.cells (F (.slice none 0 0)) ah),aL (.slice none 0 0) ah 6 []]) S1 w_:=by rw [hFv]; exact hI
 refine ⟨fun i w'=>∃ (j:Nat) (S2:ae) (kv:Value) (css:List (List Value)),i=.int .i64 (j:Int)/\j<=ks.length/\Ext w.heap.size [] S1 S2/\Rows 6 (RdF S2) css ((ks.take j).map (prF vs))/\
   Inv w [] ([B2,B4]++[.blk b5 (.cells (F kv) ah),aL kv ah 6 css]) S2 w',fun i _=>ks.length - (intOf i).toNat,⟨0,S1,_,[],rfl,Nat.zero_le _,Ext.refl _ _ _,Rows.nil _ _,hI⟩,?_⟩
 intro t6 _ _ t32 t31 t30 t29 t28 t27 t26 t25 t24 t23 t22 t21 _ _ _ _ _ w'
 rintro ⟨j,S2,kv,css,rfl,hj,hE2,hR,hI⟩
 have hcl:=hR.hc
 rw [List.length_map,List.length_take,Nat.min_eq_left hj] at hcl
 have hE02:=hE1.trans hE2
 refine ad hI 0 e2 bk bp rfl ?_
 refine dX bS ?_
 refine bA ?_
 refine aI (fun hji=>?_) (fun hji=>?_)
 ·have hj':j<ks.length:=by omega
  obtain ⟨kb,ko,kc2,kcs,kE,kfz,hke,hkS,hkR⟩:=hks.at_ hj'
  have hka:ka=some ⟨kb,ko,none⟩:=by
   simp only [Value.slice.injEq] at hke
   exact hke.1
  have hix:∀ {ty:TypeId} {K:Value->World->Prop} {w':World},K (.pointer (some ⟨kb,ko+j * 6,none⟩)) w'->Run Tryz.prog (sOp (.indexAddr DZ (.const (.slice ka ks.length kc)) (.const (.int .i64 (j:Int)))) ty) w' K:=
   fun hk=>by rw [hka]; exact au bS hj' hk
  have hkl:=hkR.length
  have hkS2:=hE02.1 _ _ hkS
  obtain ⟨qa,qn,qc,rfl⟩:=hI.rowSl (i:=3) rfl
  have hvS:=hv.mono hE02.1 fun _ _ h=>h
  have hcall:∀ S3,Sle S S3->Tri Tryz.prog sa [.agg (aH kcs (ko+j * 6) 6).toArray,.slice va vs.length vc] [] S3 (Ny (prF vs ks[j])):=fun S3 h3=>
   ih _ (List.getElem_mem hj') S3 _ _ (hkR.mono h3) (hv.mono h3 fun _ _ h=>h) (LQ hpw.2 _ (List.getElem_mem hj')) (by have:=Al (List.getElem_mem hj'); omega)
  refine ⟨fun D oE jM jd lw iB mJ nh hY mY pC oZ mD w_=>Fx D 0 [mD=.pointer (some ⟨b5,5,none⟩),oZ=.slice qa qn qc,pC=.pointer (some ⟨b2,5,none⟩),mY=.slice ka ks.length kc,hY=.int .i64 (j:Int),nh=.pointer (some ⟨kb,ko+j * 6,none⟩),mJ=.agg (aH kcs (ko+j * 6) 6).toArray,iB=.slice va vs.length vc,True,True,True,oE=.pointer (some ⟨b5,5,none⟩),True]/\∃ n_:Nat,n_<=4/\D 8=decide (1<=n_)/\D 9=decide (2<=n_)/\D 10=decide (3<=n_)/\D 12=decide (4<=n_)/\(D 12=true->D 1=true)/\(rnC w [] b5 F [B2,B4] (.slice qa qn qc) css (prF vs ks[j]) S2 lw jd jM w_ n_),⟨Fx.nil _ _,⟨0,Nat.zero_le _,rfl,rfl,rfl,rfl,(aU),hI.draw⟩⟩,⟨?_,?_,?_,?_,?_,?_,?_,?_,?_,?_,?_,?_,?_,trivial⟩,?_⟩
  all_goals (intro D bo; intros; rename_i oE jM jd lw iB mJ nh hY mY pC oZ mD w_ hA_; have hF_:=hA_.1; obtain ⟨⟨bU,bV,bH,bR,bZ,bI,bB,ct,cF,cK,bG,bX,cI,_⟩,⟨n_,ln_,e1_,e2_,e3_,e4_,kp_,hS⟩⟩:=hA_)
  ·refine ai bk ?_
   exact ⟨hF_.set 0 rfl,⟨n_,ln_,e1_,e2_,e3_,e4_,kp_,hS⟩⟩
  ·obtain rfl:=bU ‹_›
   have ln2_:=MU e4_ kp_ bo
   obtain ⟨R,S3,hI⟩:=hS.low ln2_
   rw [hFv] at hI
   refine aA hI 2 bp rfl rfl ?_
   exact ⟨hF_.set 1 rfl,⟨n_,ln_,e1_,e2_,e3_,e4_,(fun _=>rfl),hS⟩⟩
  ·refine ai bk ?_
   exact ⟨hF_.set 2 rfl,⟨n_,ln_,e1_,e2_,e3_,e4_,kp_,hS⟩⟩
  ·obtain rfl:=bH ‹_›
   obtain ⟨R,S3,_,hI⟩:=hS.inv; refine aA hI 0 bp e2 rfl ?_
   exact ⟨hF_.set 3 rfl,⟨n_,ln_,e1_,e2_,e3_,e4_,kp_,hS⟩⟩
  ·exact ⟨hF_.set 4 rfl,⟨n_,ln_,e1_,e2_,e3_,e4_,kp_,hS⟩⟩
  ·obtain rfl:=bR ‹_›
   obtain rfl:=bZ ‹_›
   refine hix ?_
   exact ⟨hF_.set 5 rfl,⟨n_,ln_,e1_,e2_,e3_,e4_,kp_,hS⟩⟩
  ·obtain rfl:=bI ‹_›
   obtain ⟨R,S3,hE3,hI⟩:=hS.inv; refine bw aT hkl (fun j v hj=>by rw [hI.cellS (hE3.1 _ _ hkS2)]; exact ar rfl j v hj) ?_
   exact ⟨hF_.set 6 rfl,⟨n_,ln_,e1_,e2_,e3_,e4_,kp_,hS⟩⟩
  ·exact ⟨hF_.set 7 rfl,⟨n_,ln_,e1_,e2_,e3_,e4_,kp_,hS⟩⟩
  ·obtain rfl:=bB ‹_›
   obtain rfl:=ct ‹_›
   obtain rfl:n_=0:=tY e1_ bo
   refine Run.call0E qG p9 hS (hcall S2 hE02.1) fun v I' S3 w_=>?_
   rintro ⟨rfl,cs,rfl,hcs⟩ hE3 hI
   rw [List.append_nil] at hI
   have hS:rnC w [] b5 F [B2,B4] (.slice qa qn qc) css (prF vs ks[j]) S2 (.agg cs.toArray) jd jM w_ 1:=⟨S3,cs,rfl,hE3,hcs,hI⟩
   exact ⟨hF_.set 8 (by first|assumption|trivial),⟨1,by decide,rfl,(by first|exact e2_|rfl),(by first|exact e3_|rfl),(by first|exact e4_|rfl),kp_,hS⟩⟩
  ·have CJ:=cF ‹_›
   obtain rfl:n_=1:=fL e1_ ‹D 8=true› e2_ bo
   obtain ⟨S3,cs,rfl,hE3,hcs,hI⟩:=hS
   refine dQ hI g0 (by simpa [Value.cells] using hcs.length) (by omega) (by omega) fun b w_ hI=>?_
   obtain ⟨S4,hI,hE4,hb⟩:=Inv.pub1 hI
   have hS:rnC w [] b5 F [B2,B4] (.slice qa qn qc) css (prF vs ks[j]) S2 (.agg cs.toArray) (.slice (some ⟨b,0,none⟩) 1 1) jM w_ 2:=⟨S4,hE3.trans hE4,RdSl.single hb hcs.length (hcs.mono hE4.1),hI⟩
   exact ⟨hF_.set 9 (by first|assumption|trivial),⟨2,by decide,(by first|exact e1_|rfl),rfl,(by first|exact e3_|rfl),(by first|exact e4_|rfl),kp_,hS⟩⟩
  ·obtain rfl:=bV ‹_›
   have Hc:=cK ‹_›
   obtain rfl:n_=2:=fL e2_ ‹D 9=true› e3_ bo
   obtain ⟨S3,hE3,hrd,hI⟩:=hS
   refine ed (css:=css) hI 3 g0 (by omega) rfl hrd (fun _ _=>RdF.length) (fun _ _=>RdF.one) (by simp; omega) (by omega) fun v w_ css2 hR2 hI=>?_
   obtain ⟨c0,hc0⟩:∃ c0,css2=[c0]:=List.length_eq_one_iff.1 hR2.hc
   subst hc0
   have hc0:RdF S3 c0 (prF vs ks[j]):=hR2.hR 0 (by simp) (by simp)
   have hS:rnC w [] b5 F [B2,B4] (.slice qa qn qc) css (prF vs ks[j]) S2 lw jd v w_ 3:=⟨S3,c0,hE3,hc0,hI⟩
   exact ⟨hF_.set 10 (by first|assumption|trivial),⟨3,by decide,(by first|exact e1_|rfl),(by first|exact e2_|rfl),rfl,(by first|exact e4_|rfl),kp_,hS⟩⟩
  ·refine ai bk ?_
   exact ⟨hF_.set 11 rfl,⟨n_,ln_,e1_,e2_,e3_,e4_,kp_,hS⟩⟩
  ·obtain rfl:=bX ‹_›
   have vp:=bG ‹_›
   obtain rfl:n_=3:=fL e3_ ‹D 10=true› e4_ bo
   obtain ⟨S3,cs,hE3,hcs,hI⟩:=hS
   obtain ⟨hv1,hv2⟩:=hI.rowOne (i:=3) rfl
   rw [hFv] at hI
   refine dK hI 2 (b:=b5) (o:=5) (n:=1) (by rw [hv1]; rfl) (by rw [bp]; rfl) rfl (by simp) (by rw [hv1]; simpa using hv2) fun w_ hI=>?_
   have hS:rnC w [] b5 F [B2,B4] (.slice qa qn qc) css (prF vs ks[j]) S2 lw jd jM w_ 4:=⟨S3,jM,cs,hE3,hcs,by rw [hFv]; rw [hv1] at hI; exact hI⟩
   exact ⟨hF_.set 12 trivial,⟨4,by decide,(by first|exact e1_|rfl),(by first|exact e2_|rfl),(by first|exact e3_|rfl),rfl,(fun _=>‹D 1=true›),hS⟩⟩
  obtain rfl:n_=4:=lx ln_ e4_ ‹D 12=true›
  clear e1_ e2_ e3_ e4_
  obtain ⟨S3,kv',cs,hE3,hcs,hI⟩:=hS
  refine bn (by omega) ?_
  refine ⟨⟨j+1,S3,kv',_,rfl,hj',hE2.trans hE3,?_,hI⟩,by simp only [intOf,Int.toNat_natCast]; omega⟩
  rw [List.take_succ_eq_append_getElem hj',List.map_append]
  exact (hR.monoR fun _ _ h=>h.mono hE3.1).snoc hcs hcs.length
 ·have:j=ks.length:=by omega
  subst this
  rw [List.take_length] at hR
  obtain ⟨S3,hE3,hrw,hI⟩:=Inv.lendExt (A:=[B2,B4,.blk b5 (.cells (F kv) ah)]) hI
  rw [hFv] at hI
  have hfin:RdF S3 [a1,a2,a3,a4,.int .i64 c,kv] (prF vs (.mk g c ks)):=by
   rw [prF,GW]
   refine RdF.iff.2 ?_
   have htr:=hrt.mono (hE2.trans hE3).1
   obtain ⟨tkv,hte,_⟩:=RdT.iff.1 htr
   simp only [List.cons.injEq,and_true] at hte
   obtain ⟨rfl,rfl,rfl,rfl⟩:=hte
   exact ⟨_,_,rfl,htr,hci,RowRd.rows (hR.monoR fun _ _ h=>h.mono hE3.1) hrw⟩
  refine aq hI 2 aT rfl rfl ?_
  refine ao (cs:=#[a1,a2,a3,a4,.int .i64 c,kv]) hI 1 e4 aT rfl rfl (by simpa using hfin.one) fun w' hI=>?_
  refine aW hI 1 aT rfl rfl ?_
  exact ⟨_,[],S3,rfl,hI.nil,hE02.trans hE3,rfl,_,rfl,hfin⟩
end
end
section
open Go Go.RowKit
theorem Srch.inv {p:List C} {n:Nat} {s:Se} {o:Option Se} (h:Srch p n s o):(s.st.goals=[]/\o=some s) ∨ (s.st.goals≠[]/\n=0/\o=none) ∨
  (s.st.goals≠[]/\∃ m s' e,n=m+1/\OneR p s s' e/\((e=0/\o=none) ∨ (e=-1/\Srch p m s' o) ∨ (e=-2/\∃ ob,BackR p s'.st.chs s'.saved ob/\((ob=none/\o=none) ∨ ∃ t,ob=some t/\Srch p m t o)))):=by
 cases h with
 | done h=>exact .inl ⟨h,rfl⟩
 | out h=>exact .inr (.inl ⟨h,rfl,rfl⟩)
 | halt h h1=>exact .inr (.inr ⟨h,_,_,_,rfl,h1,.inl ⟨rfl,rfl⟩⟩)
 | step h h1 h2=>exact .inr (.inr ⟨h,_,_,_,rfl,h1,.inr (.inl ⟨rfl,h2⟩)⟩)
 | stop h h1 h2=>exact .inr (.inr ⟨h,_,_,_,rfl,h1,.inr (.inr ⟨rfl,_,h2,.inl ⟨rfl,rfl⟩⟩)⟩)
 | back h h1 h2 h3=>exact .inr (.inr ⟨h,_,_,_,rfl,h1,.inr (.inr ⟨rfl,_,h2,.inr ⟨_,rfl,h3⟩⟩)⟩)
def FinO (s:Se) (o:Option PF):Prop:=∃ ob,BldR s.st.binds .one s.steps ob/\((ob=none/\o=none) ∨ ∃ x l2,ob=some ([x],l2)/\o=some (prF (pvT x []) x))
def FindO (p:List C) (n:Nat) (s:Se) (o:Option PF):Prop:=∃ oS,Srch p n s oS/\((oS=none/\o=none) ∨ ∃ t,oS=some t/\FinO t o)
theorem FindO.ex {p:List C} (hp:∀ cl∈p,vM cl) (hpl:p.length<=1000000) {k n:Nat} {s:Se} (hs:mp p.length s) (ho:okP s) (hx:okXk k s):∃ o,FindO p n s o:=by
 obtain ⟨oS,h1,_⟩:=Srch.ex (fun cl hc=>(hp cl hc).cf) n s hs
 cases oS with
 | none=>exact ⟨none,none,h1,.inl ⟨rfl,rfl⟩⟩
 | some t=>
  obtain ⟨q1,q2,q3⟩:=h1.ok (fun cl hc=>(hp cl hc).cf) hs ho t rfl
  obtain ⟨ob,h2,h3⟩:=Rn q1 q2 q3 (h1.okXk hp hpl k hs hx t rfl)
  cases ob with
  | none=>exact ⟨none,_,h1,.inr ⟨t,rfl,none,h2,.inl ⟨rfl,rfl⟩⟩⟩
  | some q=>
   obtain ⟨x,hx⟩:=h3 q.1 q.2 rfl
   exact ⟨_,_,h1,.inr ⟨t,rfl,some q,h2,.inr ⟨x,q.2,by rw [<- hx],rfl⟩⟩⟩
theorem FinO.w {n k:Nat} {s:Se} (hs:mp n s) (hx:okXk k s) {o:Option PF} (h:FinO s o):∀ y,o=some y->wF y<=842 * k:=by
 intro y hy
 obtain ⟨ob,h1,⟨_,rfl⟩|⟨x,l2,rfl,rfl⟩⟩:=h
 ·cases hy
 ·rw [Option.some.injEq] at hy
  subst hy
  have h2:=h1.wsize hs.st.good hx.steps _ _ rfl
  have h3:=hx.ns
  simp only [wFL,List.length_cons,List.length_nil] at h2
  rw [LX]
  omega
def OG (o:Option PF):Value->List Item->ae->Prop:=fun q I' S'=>I'=[]/\∃ cs:List Value,q=.tuple #[.agg cs.toArray,.bool (o.elim false gi)]/\cs.length=6/\(∀ u∈cs,u.oneCell'=true)/\∀ y,o=some y->RdF S' cs y
section
attribute [local irreducible] Run CondV aB aS
set_option maxHeartbeats 4000000 in
theorem Dj {p:List C} (hp:∀ cl∈p,vM cl) (hpl:p.length<=1000000) {t:T} (ht:okU 26 t/\wT t<=1048576) (htm:okM t) {n:Nat} (hn:n<=400) {o:Option PF} (h:FindO p n (fX t) o)
  {S:ae} {u:Value} {cs:List Value} (hP:RdSl S 5 (RdC S) u p) (hg:RdT S cs t):Tri Tryz.prog Hk [u,.agg cs.toArray,.int .i64 (n:Int)] [] S (OG o):=by
 intro w hI
 have hcf:∀ cl∈p,tf cl:=fun cl hc=>(hp cl hc).cf
 have hcl:=hg.length
 refine wz.2 ?_
 dsimp only[wz,cX]
 refine be hI fun b4 w' hI=>?_
 refine aG hI dG fun b6 w' hI=>?_
 obtain ⟨B4,hB4⟩:∃ B:Item,B=.blk b4 (.cells cs.toArray ab):=⟨_,rfl⟩
 obtain ⟨B6,hB6⟩:∃ B:Item,B=.blk b6 (.cells zP6 ah):=⟨_,rfl⟩
 have e4:=congrArg some hB4
 have e6:=congrArg some hB6
 have hI:Inv w [] [B4,B6] S w':=by rw [hB4,hB6]; exact hI
 refine aq hI 0 ac e4 (by simpa using hcl) ?_
 refine dQ hI bm (by simpa [Value.cells] using hcl) (by omega) (by omega) fun b w' hI=>?_
 obtain ⟨S1,hI,hE1,hb⟩:=Inv.pub1 hI
 refine Run.call0E FK Fl hI (Dl (ts:=[t]) (RdSl.single hb hcl (hg.mono hE1.1)) (fun u hu=>by rw [List.mem_singleton] at hu; subst hu; exact ht) (by simp)) fun v' I' S2 w'=>?_
 rintro ⟨rfl,c6,rfl,gs,sb,sc,rfl,hsg,hsb,hsc⟩ hE2 hI
 have hI:Inv w [] [B4,B6] S2 w':=hI
 have hE02:=hE1.trans hE2
 refine JT ?_
 refine aG hI dz fun b8 w' hI=>?_
 have hI:Inv w [] [B4,B6,.blk b8 (.cells zSe aN)] S2 w':=hI
 have hs0:RdSe S2 [gs,sb,sc,.slice none 0 0,.slice none 0 0] (fX t):=⟨_,_,_,_,_,rfl,hsg,hsb,hsc,RdSl.nil0 ..,RdSl.nil0 ..⟩
 refine ao (cs:=#[gs,sb,sc,.slice none 0 0,.slice none 0 0]) hI 2 rfl aQ rfl rfl (by simpa using hs0.one) fun w' hI=>?_
 have hI:Inv w [] [B4,B6,.blk b8 (.cells #[gs,sb,sc,.slice none 0 0,.slice none 0 0] aN)] S2 w':=hI
 obtain ⟨oS,hSr,hfin⟩:=h
 have hfail:∀ {S3:ae} {B:List Item} {w':World},Ext w.heap.size [] S S3->o=none->Inv w [] ([B4,B6]++B) S3 w'->
   Run Tryz.prog (bW ah []) w' fun v w'=>Run Tryz.prog (sOp (.store ah (.const (.pointer (some ⟨b6,0,none⟩))) (.const v)) 0) w' fun _u w'=>aS Tryz.prog ah (.pointer (some ⟨b6,0,none⟩)) w' fun r0=>
    ∃ v I' S',Ending.returned (Value.tuple #[r0,(Value.bool false)])=.returned v/\Inv w (bE []) I' S' w'/\Ext w.heap.size (bE []) S S'/\OG o v I' S':=by
  intro S3 B w' hE ho hI
  refine KN ?_
  refine ao (cs:=zP6) hI 1 e6 aT rfl rfl (by simp [Value.oneCell']) fun w' hI=>?_
  refine aW hI 1 aT rfl rfl ?_
  refine ⟨_,[],S3,rfl,hI.nil,hE,rfl,[.int .i64 0,.int .i64 0,.string ⟨#[]⟩,.slice none 0 0,.int .i64 0,.slice none 0 0],by rw [ho]; rfl,rfl,by simp [Value.oneCell'],fun y e=>by rw [ho] at e; cases e⟩
 refine ⟨fun i w'=>∃ (m k:Nat) (S3:ae) (c5:List Value) (s:Se),i=.int .i64 (m:Int)/\m+k<=n/\Ext w.heap.size [] S S3/\Srch p m s oS/\mp p.length s/\okP s/\okXk k s/\RdSe S3 c5 s/\Inv w [] [B4,B6,.blk b8 (.cells c5.toArray aN)] S3 w',
  fun i _=>(intOf i).toNat,⟨n,0,S2,_,fX t,rfl,Nat.le_refl _,hE02,hSr,Ef ht.1 ht.2 _,s7 t,CA htm,hs0,hI⟩,?_⟩
 intro _ _ _ _ _ _ _ _ _ _ _ _ _ _ _ t7 _ _ _ _ _ _ _ _ _ _ _ t2 _ _ _ _ _ _ _ _ _ _ _ w'
 rintro ⟨m,k,S3,c5,s,rfl,hmk,hE3,hSr,hso,hsp,hsx,hsr,hI⟩
 obtain ⟨gs,sb,sc,st,sv,rfl,hsg,hsb,hsc,hst,hsv⟩:=id hsr
 refine ⟨fun q w'=>q=.bool (decide ((m:Int) > 0) && decide ((s.st.goals.length:Int) > 0))/\Inv w [] [B4,B6,.blk b8 (.cells #[gs,sb,sc,st,sv] aN)] S3 w',?_,?_⟩
 ·refine dv ?_
  cases hd:decide ((m:Int) > 0) with
  | true=>
   refine rpG ?_
   refine ai bJ ?_
   refine ai fJ ?_
   refine aA hI 2 fk rfl rfl ?_
   refine aD hsg jr ?_
   refine dv ?_
   refine rpG ?_
   exact ⟨rfl,hI⟩
  | false=>
   refine rpG ?_
   exact ⟨rfl,hI⟩
 intro q _ _ _ _ _ _ _ _ w'
 rintro ⟨rfl,hI⟩
 obtain ⟨B8,hB8⟩:∃ B:Item,B=.blk b8 (.cells #[gs,sb,sc,st,sv] aN):=⟨_,rfl⟩
 have e8:=congrArg some hB8
 have hI:Inv w [] [B4,B6,B8] S3 w':=by rw [hB8]; exact hI
 refine az (fun hb=>?_) (fun hb=>?_)
 ·rw [Bool.and_eq_true,decide_eq_true_eq,decide_eq_true_eq] at hb
  obtain ⟨hm0,hg0⟩:=hb
  have hne:s.st.goals≠[]:=fun e=>by rw [e] at hg0; simp at hg0
  rcases hSr.inv with ⟨h1,_⟩|⟨_,h1,_⟩|⟨_,m',s',e,rfl,hO,hrest⟩
  ·exact absurd h1 hne
  ·omega
  refine ib (by omega) ?_
  rw [show (((m'+1:Nat):Int) - 1)=(m':Int) by omega]
  refine aq hI 2 aQ e8 rfl ?_
  refine Run.call0E Js Jh hI (GT hp hpl (k:=k) (by omega) hO hso hsx (hP.monoC hE3.1) hsr) fun v' I' S4 w'=>?_
  rintro ⟨rfl,ns,rfl,hns⟩ hE4 hI
  have hI:Inv w [] [B4,B6,B8] S4 w':=hI
  have hE04:=hE3.trans hE4
  have hnl:=hns.length
  have hso':=hO.ok hcf hso
  have hsp':=hO.okP hso.len hsp
  obtain ⟨hsx',hsx2⟩:=hO.okXk hp hpl hso hsx
  refine aj (v:=.agg ns.toArray) rfl ?_
  refine aj (v:=.int .i64 e) rfl ?_
  refine aG hI dz fun b9 w' hI=>?_
  have hI:Inv w [] [B4,B6,B8,.blk b9 (.cells zSe aN)] S4 w':=hI
  refine ao hI 3 rfl aQ (by simpa using hnl) rfl (by simpa using hns.one) fun w' hI=>?_
  have hI:Inv w [] [B4,B6,B8,.blk b9 (.cells ns.toArray aN)] S4 w':=hI
  refine aY ?_
  refine aI (fun h0=>?_) (fun h0=>?_)
  ·rcases hrest with ⟨_,ho⟩|⟨h1,_⟩|⟨h1,_⟩
   ·refine hfail (B:=[B8,_]) hE04 ?_ hI
    rcases hfin with ⟨_,h⟩|⟨_,h,_⟩
    ·exact h
    ·rw [ho] at h; cases h
   ·omega
   ·omega
  refine ⟨fun w'=>∃ (S5:ae) (n5:List Value) (s5:Se),Ext w.heap.size [] S4 S5/\Srch p m' s5 oS/\mp p.length s5/\okP s5/\okXk (k+1) s5/\RdSe S5 n5 s5/\Inv w [] [B4,B6,B8,.blk b9 (.cells n5.toArray aN)] S5 w',?_,?_⟩
  ·refine aY ?_
   refine aI (fun h2=>?_) (fun h2=>?_)
   ·rcases hrest with ⟨h1,_⟩|⟨h1,_⟩|⟨_,ob,hB,hrest⟩
    ·omega
    ·omega
    have es:=hsx2 h2
    have hsxk:okXk k s':=by rw [es]; exact hsx
    refine aq hI 3 aQ rfl (by simpa using hnl) ?_
    refine Run.call0E Fb GK hI (CW hp (k:=k) (by omega) hB (fun c hc=>⟨hso'.st.chs c hc,hsxk.chs c hc⟩) (by have:=hsxk.nc; omega) hso'.len (fun l hl=>by have:=hsxk.nv l hl; omega) (hP.monoC hE04.1) hns) fun v' I' S5 w'=>?_
    rintro ⟨rfl,n5,rfl,h5l,h5o,h5r⟩ hE5 hI
    have hI:Inv w [] [B4,B6,B8,.blk b9 (.cells ns.toArray aN)] S5 w':=hI
    refine aj (v:=.agg n5.toArray) rfl ?_
    refine aj (v:=.bool ob.isSome) rfl ?_
    refine aG hI dz fun b11 w' hI=>?_
    have hI:Inv w [] [B4,B6,B8,.blk b9 (.cells ns.toArray aN),.blk b11 (.cells zSe aN)] S5 w':=hI
    refine ao hI 4 rfl aQ (by simpa using h5l) rfl (by simpa using h5o) fun w' hI=>?_
    have hI:Inv w [] [B4,B6,B8,.blk b9 (.cells ns.toArray aN),.blk b11 (.cells n5.toArray aN)] S5 w':=hI
    refine bM ?_
    rcases hrest with ⟨rfl,ho⟩|⟨s5,rfl,hS5⟩
    ·refine az (fun _=>?_) (fun hb=>by cases hb)
     refine hfail (B:=[B8,_,_]) (hE04.trans hE5) ?_ hI
     rcases hfin with ⟨_,h⟩|⟨_,h,_⟩
     ·exact h
     ·rw [ho] at h; cases h
    ·refine az (fun hb=>by cases hb) (fun _=>?_)
     refine aq hI 4 aQ rfl (by simpa using h5l) ?_
     refine ao hI 3 rfl aQ (by simpa using h5l) (by simpa using hnl) (by simpa using h5o) fun w' hI=>?_
     exact ⟨S5,n5,s5,hE5,hS5,hB.ok hcf hso'.len.symm hso'.st.chs hso'.left _ rfl,hB.okP hso'.len.symm hsp'.saved _ rfl,
      hB.okXk hp hpl hso'.len.symm (fun c hc=>⟨hso'.st.chs c hc,hsxk.chs c hc⟩) hsxk.nc hsxk.saved hsxk.nv _ rfl,h5r _ rfl,hI.pick [true,true,true,true]⟩
   ·rcases hrest with ⟨h1,_⟩|⟨_,hS5⟩|⟨h1,_⟩
    ·exact absurd h1 h0
    ·exact ⟨S4,ns,s',Ext.refl _ _ _,hS5,hso',hsp',hsx',hns,hI⟩
    ·exact absurd h1 h2
  intro _ _ _ _ _ _ _ _ _ _ _ _ _ _ _ w'
  rintro ⟨S5,n5,s5,hE5,hS5,q1,q2,q3,hr5,hI⟩
  have h5l:=hr5.length
  rw [hB8] at hI
  refine aq hI 3 aQ rfl (by simpa using h5l) ?_
  refine ao hI 2 rfl aQ (by simpa using h5l) rfl (by simpa using hr5.one) fun w' hI=>?_
  exact ⟨⟨m',k+1,S5,n5,s5,rfl,by omega,hE04.trans hE5,hS5,q1,q2,q3,hr5,hI.pick [true,true,true]⟩,by simp only [intOf,Int.toNat_natCast]; omega⟩
 ·refine ai bJ ?_
  refine ai fJ ?_
  refine aA hI 2 fk e8 rfl ?_
  refine aD hsg jr ?_
  refine dv ?_
  refine aI (fun hg0=>?_) (fun hg0=>?_)
  ·have hne:s.st.goals≠[]:=fun e=>by rw [e] at hg0; simp at hg0
   have hm0:m=0:=by
    rw [Bool.and_eq_false_iff] at hb
    rcases hb with hb|hb
    ·have:=of_decide_eq_false hb; omega
    ·exact absurd hg0 (of_decide_eq_false hb)
   refine hfail (B:=[B8]) hE3 ?_ hI
   rcases hSr.inv with ⟨h1,_⟩|⟨_,_,h1⟩|⟨_,m',s',e,h1,_⟩
   ·exact absurd h1 hne
   ·rcases hfin with ⟨_,h⟩|⟨_,h,_⟩
    ·exact h
    ·rw [h1] at h; cases h
   ·omega
  have hnil:s.st.goals=[]:=List.eq_nil_of_length_eq_zero (by omega)
  have hoS:oS=some s:=by
   rcases hSr.inv with ⟨_,h1⟩|⟨h1,_⟩|⟨h1,_⟩
   ·exact h1
   ·exact absurd hnil h1
   ·exact absurd hnil h1
  have hF:FinO s o:=by
   rcases hfin with ⟨h,_⟩|⟨s1,h,hF⟩
   ·rw [hoS] at h; cases h
   ·rw [hoS,Option.some.injEq] at h
    rw [h]; exact hF
  have hwF:=hF.w hso hsx
  obtain ⟨ob,hBl,hF⟩:=hF
  have hsn:=hsx.ns
  refine ad hI 2 e8 fI gC rfl ?_
  refine ai bJ ?_
  refine ai jc ?_
  refine aA hI 2 ag e8 rfl ?_
  refine Run.call0E sF sM hI (AE hsx.pos hso.st.good hsx.steps (by omega) _ 0 (Nat.le_refl _) ob hBl S3 st sb hst hsb) fun v' I' S4 w'=>?_
  rintro ⟨rfl,c6,a',rfl,h6l,h6o,h6r⟩ hE4 hI
  have hI:Inv w [] [B4,B6,B8] S4 w':=hI
  have hE04:=hE3.trans hE4
  refine aj (v:=.agg c6.toArray) rfl ?_
  refine aj (v:=.int .i64 (a':Int)) rfl ?_
  refine aj (v:=.bool ob.isSome) rfl ?_
  refine aG hI dG fun b13 w' hI=>?_
  have hI:Inv w [] [B4,B6,B8,.blk b13 (.cells zP6 ah)] S4 w':=hI
  refine ao hI 3 rfl aT (by simpa using h6l) rfl (by simpa using h6o) fun w' hI=>?_
  have hI:Inv w [] [B4,B6,B8,.blk b13 (.cells c6.toArray ah)] S4 w':=hI
  refine bM ?_
  rcases hF with ⟨rfl,rfl⟩|⟨x,l2,rfl,rfl⟩
  ·refine az (fun _=>?_) (fun hb=>by cases hb)
   exact hfail (B:=[B8,_]) hE04 rfl hI
  refine az (fun hb=>by cases hb) (fun _=>?_)
  obtain ⟨_,_,x',hx',hrx⟩:=h6r _ _ rfl
  simp only [List.cons.injEq,and_true] at hx'
  subst hx'
  obtain ⟨hsz,hpw⟩:=hBl.size hso.st.good hsx.steps _ _ rfl
  rw [pcL,pcL] at hsz
  rw [pwL] at hpw
  have hpc:pcT x<=1000000:=by omega
  have hwx:=hwF _ rfl
  rw [LX] at hwx
  have hwx2:wF x<=1048576:=by omega
  have hvl:=Kt x []
  have hpc0:=LO x
  simp only [List.length_nil] at hvl
  obtain ⟨y,hy⟩:∃ y,y=prF (pvT x []) x:=⟨_,rfl⟩
  rw [<- hy]
  refine ⟨fun D As Ad Bt AH w_=>Fx D 0 [AH=.agg c6.toArray,Bt=.agg c6.toArray,True,True,True]/\∃ S5 q13,Ext w.heap.size [] S4 S5/\(D 4=true->D 0=true/\D 1=true)/\(D 2=true->RdSl S5 1 ig Ad (pvT x []))/\(D 3=true->∃ cs,As=.agg (List.toArray cs)/\RdF S5 cs y)/\(D 4=false->q13=c6)/\(D 4=true->RdF S5 q13 y)/\Inv w [] [B4,B6,B8,.blk b13 (.cells q13.toArray ah)] S5 w_,⟨Fx.nil _ _,⟨S4,c6,Ext.refl _ _ _,aU,aU,aU,fun _=>rfl,aU,hI.draw⟩⟩,⟨?_,?_,?_,?_,?_,trivial⟩,?_⟩
  all_goals (intro D bo; intros; rename_i As Ad Bt AH w_ hA_; have hF_:=hA_.1; obtain ⟨⟨bU,bV,bH,bR,bZ,_⟩,⟨S5,q13,hE5,k4,f2,f3,z4,f4,hI⟩⟩:=hA_)
  ·have n4:D 4=false:=Bool.eq_false_iff.2 fun h=>by rw [(k4 h).1] at bo; cases bo
   have hI2:=hI
   rw [z4 n4] at hI2
   refine aq hI2 3 aT rfl (by simpa using h6l) ?_
   have k4:aF D 0 4=true->aF D 0 0=true/\aF D 0 1=true:=fun h=>⟨rfl,(k4 h).2⟩
   exact ⟨hF_.set 0 rfl,⟨S5,q13,hE5,k4,f2,f3,z4,f4,hI⟩⟩
  ·have n4:D 4=false:=Bool.eq_false_iff.2 fun h=>by rw [(k4 h).2] at bo; cases bo
   have hI2:=hI
   rw [z4 n4] at hI2
   refine aq hI2 3 aT rfl (by simpa using h6l) ?_
   have k4:aF D 1 4=true->aF D 1 0=true/\aF D 1 1=true:=fun h=>⟨(k4 h).1,rfl⟩
   exact ⟨hF_.set 1 rfl,⟨S5,q13,hE5,k4,f2,f3,z4,f4,hI⟩⟩
  ·obtain rfl:=bV ‹_›
   have hI:=hI.rowNil cD 1
   have hI:Inv w [] ([B4,B6,B8,.blk b13 (.cells q13.toArray ah)]++[dZ (.slice none 0 0) []]) S5 w_:=hI
   refine Run.callE wv vw hI (Dz x S5 c6 _ [] (hrx.mono hE5.1) (by simp only [List.length_nil]; omega)) fun v I' S6 w_=>?_
   rintro ⟨rfl,eS⟩ _ hI
   rw [eS] at hI
   obtain ⟨S6,hE6,hrw,hI⟩:=Inv.lendRowE hI
   have f2:aF D 2 2=true->RdSl S6 1 ig v (pvT x []):=fun _=>hrw.ints
   have f3:aF D 2 3=true->∃ cs,As=.agg (List.toArray cs)/\RdF S6 cs y:=fun h=>(f3 h).imp fun _ h=>⟨h.1,h.2.mono hE6.1⟩
   have f4:aF D 2 4=true->RdF S6 q13 y:=fun h=>(f4 h).mono hE6.1
   obtain ⟨S5,rfl,hE5⟩:∃ S5,S5=S6/\Ext w.heap.size [] S4 S5:=⟨S6,rfl,hE5.trans hE6⟩
   exact ⟨hF_.set 2 (by first|assumption|trivial),⟨S5,q13,hE5,k4,f2,f3,z4,f4,hI⟩⟩
  ·obtain rfl:=bU ‹_›
   have PC:=bH ‹_›
   refine Run.call0E qG p9 hI (zX (vs:=pvT x []) (by omega) x S5 c6 _ (hrx.mono hE5.1) (f2 ‹D 2=true›) hpw.1 hwx2) fun v I' S6 w_=>?_
   rintro ⟨rfl,cs',rfl,hcs'⟩ hE6 hI
   rw [<- hy] at hcs'
   rw [List.append_nil] at hI
   have f2:aF D 3 2=true->RdSl S6 1 ig Ad (pvT x []):=fun h=>(f2 h).mono hE6.1 fun _ _ h=>h
   have f3:aF D 3 3=true->∃ cs,Value.agg cs'.toArray=.agg (List.toArray cs)/\RdF S6 cs y:=fun h=>⟨_,rfl,hcs'⟩
   have f4:aF D 3 4=true->RdF S6 q13 y:=fun h=>(f4 h).mono hE6.1
   obtain ⟨S5,rfl,hE5⟩:∃ S5,S5=S6/\Ext w.heap.size [] S4 S5:=⟨S6,rfl,hE5.trans hE6⟩
   exact ⟨hF_.set 3 (by first|assumption|trivial),⟨S5,q13,hE5,k4,f2,f3,z4,f4,hI⟩⟩
  ·have JJ:=bR ‹_›
   obtain ⟨cs',rfl,hcs'⟩:=f3 ‹D 3=true›
   rw [z4 bo] at hI
   refine ao hI 3 rfl aT (by simpa using hcs'.length) (by simpa using h6l) (by simpa using hcs'.one) fun w_ hI=>?_
   have k4:aF D 4 4=true->aF D 4 0=true/\aF D 4 1=true:=fun _=>⟨by assumption,by assumption⟩
   obtain ⟨q13,hq13⟩:∃ q:List Value,q=cs':=⟨_,rfl⟩
   rw [<- hq13] at hI hcs'
   have z4:aF D 4 4=false->q13=c6:=fun h=>Bool.noConfusion h
   have f4:aF D 4 4=true->RdF S5 q13 y:=fun _=>hcs'
   exact ⟨hF_.set 4 trivial,⟨S5,q13,hE5,k4,f2,f3,z4,f4,hI⟩⟩
  obtain ⟨rfl,rfl,PC,JJ,_,_⟩:=hF_.all
  have Tb:D 4=true:=by assumption
  clear hF_ bU bV bH bR bZ
  have hry:=f4 Tb
  have hyl:=hry.length
  have hwy:wF y<=1048576:=by rw [hy,LX]; exact hwx2
  rw [hB6] at hI
  have hI0:=hI
  refine ⟨fun D x7 vh qu yB w_=>Fx D 0 [yB=.agg q13.toArray,qu=.agg q13.toArray,vh=.bool (gi y),True,x7=.bool (gi y)]/\Inv w [] [B4,.blk b6 (.cells (cond (D 3) q13.toArray zP6) ah),B8,.blk b13 (.cells q13.toArray ah)] S5 w_,⟨Fx.nil _ _,hI.draw⟩,⟨?_,?_,?_,?_,?_,trivial⟩,?_⟩
  all_goals (intro D bo; intros; rename_i x7 vh qu yB w_ hA_; have hF_:=hA_.1; obtain ⟨⟨bU,bV,bH,bR,bZ,_⟩,hI⟩:=hA_)
  ·refine aq hI 3 aT rfl (by simpa using hyl) ?_
   exact ⟨hF_.set 0 rfl,hI⟩
  ·refine aq hI 3 aT rfl (by simpa using hyl) ?_
   exact ⟨hF_.set 1 rfl,hI⟩
  ·obtain rfl:=bV ‹_›
   refine Run.callPure o9 o0 hI (lY hry hwy) fun w_ hI=>?_
   exact ⟨hF_.set 2 rfl,hI⟩
  ·obtain rfl:=bU ‹_›
   rw [bo] at hI
   refine ao hI 1 rfl aT (by simpa using hyl) rfl (by simpa using hry.one) fun w_ hI=>?_
   exact ⟨hF_.set 3 trivial,hI⟩
  ·obtain rfl:=bH ‹_›
   exact ⟨hF_.set 4 rfl,hI⟩
  obtain ⟨rfl,rfl,rfl,_,rfl,_⟩:=hF_.all
  have R9:D 3=true:=by assumption
  clear hF_ bU bV bH bR bZ
  rw [R9] at hI
  refine aW hI 1 aT rfl (by simpa using hyl) ?_
  exact ⟨_,[],S5,rfl,hI.nil,hE04.trans hE5,rfl,q13,rfl,hyl,hry.one,fun z e=>by rw [Option.some.injEq] at e; subst e; exact hry⟩
end
end
end Go.Proofs.YtfcbhfjomgopbaaGreat

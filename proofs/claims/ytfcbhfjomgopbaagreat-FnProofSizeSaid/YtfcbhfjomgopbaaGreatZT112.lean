/- spec.l13One. -/
import Derived.Test.YtfcbhfjomgopbaaGreatZT111
import Derived.Test.YtfcbhfjomgopbaaGreatZT11
import Derived.Test.YtfcbhfjomgopbaaGreatZT18
import Derived.Test.YtfcbhfjomgopbaaGreatZT110
import Derived.Test.YtfcbhfjomgopbaaGreatZT19
namespace Go.Proofs.YtfcbhfjomgopbaaGreat
open Go Go.RowKit
theorem Inv.lendRowE {w0 w:World} {X:List Nat} {A:List Item} {S:al} {v:Value} {e:TypeId} {k n:Nat} {xs:List Value} (h:Inv w0 X (A++[.row v e k n xs]) S w) :
  ∃ S',Ext w0.heap.size X S S'/\RowRd S' v e k n xs/\Inv w0 X A S' w:=by
 obtain ⟨hl,ho⟩:=h.openRow
 rcases ho with ⟨rfl,h0⟩|⟨g,cap,cur,rfl,hnc,hcm,hcs,ht,hI⟩
 ·exact ⟨S,Ext.refl _ _ _,⟨hl,.inl ⟨rfl,h0⟩⟩,h.sub (List.sublist_append_left _ _)⟩
 ·obtain ⟨S',h1,h2,h3⟩:=Inv.pub1 (A:=A) hI
  exact ⟨S',h2,⟨hl,.inr ⟨g,cap,cur,rfl,h3,hnc,hcm,hcs,ht⟩⟩,h1⟩
theorem OneR.inv {p:List C} {s s':Se} {e:Int} (h:OneR p s s' e):∃ g rest u,s.st.goals=g::rest/\Res s.st.binds (.one g.1 u)/\
  (((cB u=false ∨ jL u=true)/\s=s'/\e=0) ∨ (cB u=true/\jL u=false/\
   ((dx u=false/\∃ o,TakeR p s ⟨u,rest,xW p u,s.st.binds⟩ o/\((o=some s'/\e=-1) ∨ (o=none/\s=s'/\e=-2))) ∨
       (dx u=true/\∃ c st,Blt s.st.binds u c st/\((c=1/\s=s'/\e=-2) ∨ (c≠0/\c≠1/\s=s'/\e=0) ∨ (c=0/\s'=⟨⟨rest,st,s.st.chs⟩,s.steps++[⟨u,-1,0⟩],s.saved⟩/\e=-1)))))):=by
 cases h with
 | big h1 h2 h3=>exact ⟨_,_,_,h1,h2,.inl ⟨h3,rfl,rfl⟩⟩
 | took h1 h2 h3 h4 h5 h6=>exact ⟨_,_,_,h1,h2,.inr ⟨h3,h4,.inl ⟨h5,_,h6,.inl ⟨rfl,rfl⟩⟩⟩⟩
 | stuck h1 h2 h3 h4 h5 h6=>exact ⟨_,_,_,h1,h2,.inr ⟨h3,h4,.inl ⟨h5,_,h6,.inr ⟨rfl,rfl,rfl⟩⟩⟩⟩
 | fail h1 h2 h3 h4 h5 h6=>exact ⟨_,_,_,h1,h2,.inr ⟨h3,h4,.inr ⟨h5,_,_,h6,.inl ⟨rfl,rfl,rfl⟩⟩⟩⟩
 | err h1 h2 h3 h4 h5 h6 h7 h8=>exact ⟨_,_,_,h1,h2,.inr ⟨h3,h4,.inr ⟨h5,_,_,h6,.inr (.inl ⟨h7,h8,rfl,rfl⟩)⟩⟩⟩
 | solved h1 h2 h3 h4 h5 h6=>exact ⟨_,_,_,h1,h2,.inr ⟨h3,h4,.inr ⟨h5,_,_,h6,.inr (.inr ⟨rfl,rfl,rfl⟩)⟩⟩⟩
def Nw (s':Se) (e:Int):Value->List Item->al->Prop:=fun q I' S'=>I'=[]/\∃ cs:List Value,q=.tuple #[.agg cs.toArray,.int .i64 e]/\RdSe S' cs s'
def PTk (s:Se) (o:Option Se) (S:al) (v:Value):Prop:=∃ cs:List Value,v=.tuple #[.agg cs.toArray,.bool o.isSome]/\RdSe S cs (o.getD s)
theorem PTk.mono {s:Se} {o:Option Se} {S S':al} {v:Value} (h:PTk s o S v) (hs:Sle S S'):PTk s o S' v:=by
 obtain ⟨cs,e,h⟩:=h
 exact ⟨cs,e,h.mono hs⟩
def IsSe (s:Se) (S:al) (v:Value):Prop:=∃ cs:List Value,v=.agg cs.toArray/\RdSe S cs s
theorem IsSe.mono {s:Se} {S S':al} {v:Value} (h:IsSe s S v) (hs:Sle S S'):IsSe s S' v:=by
 obtain ⟨cs,e,h⟩:=h
 exact ⟨cs,e,h.mono hs⟩
def IsCh (c:Ch) (S:al) (v:Value):Prop:=∃ cs:List Value,v=.agg cs.toArray/\RdCh S cs c
theorem IsCh.mono {c:Ch} {S S':al} {v:Value} (h:IsCh c S v) (hs:Sle S S'):IsCh c S' v:=by
 obtain ⟨cs,e,h⟩:=h
 exact ⟨cs,e,h.mono hs⟩
abbrev zT4:Array Value:=#[.int .i64 0,.int .i64 0,.string ⟨#[]⟩,.slice none 0 0]
abbrev zG5:Array Value:=#[.int .i64 0,.int .i64 0,.string ⟨#[]⟩,.slice none 0 0,.int .i64 0]
section
attribute [local irreducible] Run CondV ag aO
set_option maxHeartbeats 4000000 in
theorem DI {p:List C} (hp:∀ cl∈p,pU cl) (hpl:p.length<=1000000) {k:Nat} (hk:k<=900) {s s':Se} {e:Int} (h:OneR p s s' e) (hso:jN p.length s) (hx:okXk k s)
  {S:al} {u:Value} {ss:List Value} (hP:RdSl S 5 (RdC S) u p) (hs:RdSe S ss s):Tri Tryz.prog H7 [u,.agg ss.toArray] [] S (Nw s' e):=by
 intro w hI
 obtain ⟨g,rest,t,hgr,hres,hcase⟩:=h.inv
 obtain ⟨gs,sb,sc,st,sv,rfl,hsg,hsb,hsc,hst,hsv⟩:=id hs
 have hgo:=hso.st.goals
 have hgm:=hx.goals
 have hng:=hx.ng
 rw [hgr] at hsg hgo hgm hng
 obtain ⟨sga,sgc,rfl,_⟩:=id hsg
 obtain ⟨sba,sbc,rfl,_⟩:=id hsb
 obtain ⟨sca,scc,rfl,_⟩:=id hsc
 obtain ⟨sta,stc,rfl,_⟩:=id hst
 obtain ⟨sva,svc,rfl,_⟩:=id hsv
 have hnb:=hx.nb
 have hnc:=hx.nc
 have hns0:=hx.ns
 have hpos:=hx.pos
 have hgood:=hso.st.good
 have hg1:=hgo g (List.mem_cons_self ..)
 have htU:=jt hgood hres hg1.1
 have htM:okM t:=Res.okM hx.tab hres (hgm g (List.mem_cons_self ..))
 refine xA ?_
 unfold uT
 refine bS hI fun b3 w' hI=>?_
 refine bi hI cV fun b4 w' hI=>?_
 obtain ⟨B3,hB3⟩:∃ B:Item,B=.blk b3 (.cells #[.slice sga (g::rest).length sgc,.slice sba s.st.binds.length sbc,.slice sca s.st.chs.length scc,.slice sta s.steps.length stc,.slice sva s.saved.length svc] aW):=⟨_,rfl⟩
 obtain ⟨B4,hB4⟩:∃ B:Item,B=.blk b4 (.cells zSe aW):=⟨_,rfl⟩
 have e3:=congrArg some hB3
 have e4:=congrArg some hB4
 have hI:Inv w [] [B3,B4] S w':=by rw [hB3,hB4]; exact hI
 have hret:∀ {S1:al} {B:List Item} {w':World} {K:Value->World->Prop},Inv w [] ([B3,B4]++B) S1 w'->(∀ w',Inv w [] ([B3,.blk b4 (.cells #[.slice sga (g::rest).length sgc,.slice sba s.st.binds.length sbc,.slice sca s.st.chs.length scc,.slice sta s.steps.length stc,.slice sva s.saved.length svc] aW)]++B) S1 w'->K undef w')->
   Run Tryz.prog (sOp (.load aW (.const (.pointer (some ⟨b3,0,none⟩)))) aW) w' fun v w'=>Run Tryz.prog (sOp (.store aW (.const (.pointer (some ⟨b4,0,none⟩))) (.const v)) 0) w' K:=by
  intro S1 B w' K hI hk
  refine aL hI 0 bj e3 rfl ?_
  exact aG hI 1 e4 bj rfl rfl (KN rfl rfl rfl rfl rfl) fun w' hI=>hk w' hI
 have hsame:∀ {S1:al},Sle S S1->RdSe S1 [.slice sga (g::rest).length sgc,.slice sba s.st.binds.length sbc,.slice sca s.st.chs.length scc,.slice sta s.steps.length stc,.slice sva s.saved.length svc] s:=fun hle=>hs.mono hle
 refine aI bR ?_
 refine aI eZ ?_
 refine aX hI 0 eG e3 rfl ?_
 refine cJ (i:=0) hI hsg g6 zc (by simp) (fun _ _=>RdG.length) fun gds hgd=>?_
 have hgd:RdG S gds g:=hgd
 refine bi hI GM fun b6 w' hI=>?_
 have hI:Inv w [] [B3,B4,.blk b6 (.cells zG5 gG)] S w':=hI
 refine aG hI 2 rfl zc (by simpa using hgd.length) rfl (by simpa using hgd.one) fun w' hI=>?_
 obtain ⟨ghd,rfl,hgt⟩:=id hgd
 have hgt0:=hgt
 obtain ⟨gkv,rfl,_⟩:=RdT.iff.1 hgt
 have hI:Inv w [] [B3,B4,.blk b6 (.cells #[.int .i64 g.1.kind,.int .i64 g.1.n,.string g.1.name,gkv,.int .i64 g.2] gG)] S w':=hI
 refine aI Ci ?_
 refine cN hI 2 [.int .i64 g.1.kind,.int .i64 g.1.n,.string g.1.name,gkv] ai rfl rfl KL ?_
 refine aI bR ?_
 refine aI gW ?_
 refine aX hI 0 aJ e3 rfl ?_
 refine Run.call0E r5 pM hI (Fq hpos hgood hres hg1 hgt0 hsb) fun v' I' S1 w'=>?_
 rintro ⟨rfl,ts,hl4,ho4,rfl,hrd⟩ hE hI
 have hI:Inv w [] [B3,B4,.blk b6 (.cells #[.int .i64 g.1.kind,.int .i64 g.1.n,.string g.1.name,gkv,.int .i64 g.2] gG)] S1 w':=hI
 refine aB (v:=.agg ts.toArray) rfl ?_
 refine aB (v:=.bool (cB t)) rfl ?_
 refine bi hI bH fun b7 w' hI=>?_
 have hI:Inv w [] [B3,B4,.blk b6 (.cells #[.int .i64 g.1.kind,.int .i64 g.1.n,.string g.1.name,gkv,.int .i64 g.2] gG),.blk b7 (.cells zT4 ab)] S1 w':=hI
 refine aG hI 3 rfl ai (by simpa using hl4) rfl (by simpa using ho4) fun w' hI=>?_
 obtain ⟨B7,hB7⟩:∃ B:Item,B=.blk b7 (.cells ts.toArray ab):=⟨_,rfl⟩
 have e7:=congrArg some hB7
 have hI:Inv w [] [B3,B4,B7] S1 w':=by rw [hB7]; exact hI.pick [true,true,false,true]
 refine ⟨fun q w'=>q=.bool (!cB t || jL t)/\Inv w [] [B3,B4,B7] S1 w',?_,?_⟩
 ·refine cK ?_
  cases hsm:cB t with
  | false=>
   repeat (first|refine ad ?_|refine af (by decide) ?_|refine ae ?_|refine ak ?_|refine aj ?_)
   exact ⟨rfl,hI⟩
  | true=>
   repeat (first|refine ad ?_|refine af (by decide) ?_|refine ae ?_|refine ak ?_|refine aj ?_)
   refine aL hI 2 ai e7 (by simpa using hl4) ?_
   refine Run.callPure yH yz hI (ud (hrd hsm)) fun w' hI=>?_
   repeat (first|refine ad ?_|refine af (by decide) ?_|refine ae ?_|refine ak ?_|refine aj ?_)
   exact ⟨rfl,hI⟩
 intro q _ _ _ _ _ w'
 rintro ⟨rfl,hI⟩
 rcases hcase with ⟨hbad,rfl,rfl⟩|⟨hsm,hcu,hcase⟩
 ·have hq:(!cB t || jL t)=true:=by rcases hbad with h|h <;> rw [h] <;> simp
  refine aS (fun _=>?_) (fun hb=>by rw [hq] at hb; cases hb)
  refine hret (B:=[B7]) hI fun w' hI=>?_
  refine bE hI 1 bj rfl rfl ?_
  exact ⟨_,[],S1,rfl,hI.nil,hE,rfl,_,rfl,hsame hE.1⟩
 have hq:(!cB t || jL t)=false:=by rw [hsm,hcu]; rfl
 refine aS (fun hb=>by rw [hq] at hb; cases hb) (fun _=>?_)
 have htr:=hrd hsm
 have htr0:=htr
 have hIk:=hI
 obtain ⟨tkv,rfl,_,_,_,htk⟩:=RdT.iff.1 htr
 have hI:=hIk
 have hw:=jg hsm htU
 have e7:some B7=some (.blk b7 (.cells #[.int .i64 t.kind,.int .i64 t.n,.string t.name,tkv] ab)):=e7
 refine ao hI 2 e7 bB bn rfl ?_
 refine ao hI 2 e7 aK aJ rfl ?_
 refine bp htk aC ?_
 refine Run.callPure iZ iT hI (gJ _ _ S1) fun w' hI=>?_
 rw [LB htM]
 refine cK ?_
 rcases hcase with ⟨hbt,o,hT,hcase⟩|⟨hbt,c,st',hB,hcase⟩
 ·rw [hbt]
  refine aS (fun _=>?_) (fun hb=>by cases hb)
  obtain ⟨c,hce⟩:∃ c:Ch,c=⟨t,rest,xW p t,s.st.binds⟩:=⟨_,rfl⟩
  rw [<- hce] at hT
  have hc:ix c:=by
   rw [hce]
   exact ⟨hgood,⟨htU,by simp only; omega⟩,fun x hx=>hgo x (List.mem_cons_of_mem _ hx)⟩
  have hr:okRk k c:=by
   rw [hce]
   simp only [List.length_cons] at hng
   exact ⟨hnb,by simp only; omega,hx.tab,htM,fun x hx=>hgm x (List.mem_cons_of_mem _ hx),hpos⟩
  have hPE:=hP.monoC hE.1
  refine ⟨fun D M1 x9 u5 sy lx sJ tC uO pK jS sS tS uY pL lH sA nV rX lM ni w_=>(D 0=true->ni=u)/\(D 1=true->lM=.agg #[.slice sga (g::rest).length sgc,.slice sba s.st.binds.length sbc,.slice sca s.st.chs.length scc,.slice sta s.steps.length stc,.slice sva s.saved.length svc])/\(D 2=true->rX=.agg #[.int .i64 t.kind,.int .i64 t.n,.string t.name,tkv])/\(D 3=true->nV=.pointer (some ⟨b3,0,none⟩))/\(D 4=true->sA=.pointer (some ⟨b3,0,none⟩))/\(D 5=true->lH=.slice sga (g::rest).length sgc)/\(D 6=true->RdSl S 5 (RdG S) pL rest)/\(D 7=true->uY=u)/\(D 8=true->tS=.agg #[.int .i64 t.kind,.int .i64 t.n,.string t.name,tkv])/\(D 9=true->True)/\(D 10=true->jS=.pointer (some ⟨b3,0,none⟩))/\(D 11=true->pK=.pointer (some ⟨b3,1,none⟩))/\(D 12=true->uO=.slice sba s.st.binds.length sbc)/\(D 13=true->True)/\(D 14=true->True)/\(D 15=true->True)/\(D 16=true->True)/\(D 17=true->u5=.bool o.isSome)/\(D 18=true->True)/\(D 19=true->True)/\(D 20=true->M1=.bool o.isSome)/\∃ S2,Ext w.heap.size [] S1 S2/\(D 9=true->RdSl S2 1 gt sS (xW p t))/\(D 13=true->IsCh c S2 tC)/\(D 14=true->PTk s o S2 sJ)/\(D 15=true->PTk s o S2 lx)/\(D 16=true->IsSe (o.getD s) S2 sy)/\nwP w [] [B3,B4,B7] aW zSe (fun S q=>IsSe (o.getD s) S (.agg q)) (D 18) (D 19) x9 S2 w_,⟨ac,ac,ac,ac,ac,ac,ac,ac,ac,ac,ac,ac,ac,ac,ac,ac,ac,ac,ac,ac,ac,⟨S1,Ext.refl _ _ _,ac,ac,ac,ac,ac,nwP.mk hI.draw _⟩⟩,⟨?_,?_,?_,?_,?_,?_,?_,?_,?_,?_,?_,?_,?_,?_,?_,?_,?_,?_,?_,?_,?_,trivial⟩,?_⟩
  all_goals (intro D bX; intros; rename_i M1 x9 u5 sy lx sJ tC uO pK jS sS tS uY pL lH sA nV rX lM ni w_ hA_; obtain ⟨ax,ay,az,aA,aF,aH,aE,aM,aN,aR,aq,ar,aD,aP,aQ,aT,aU,aV,aZ,bg,bk,⟨S2,hE2,f9,f13,f14,f15,f16,hN⟩⟩:=hA_)
  ·exact ⟨fun _=>rfl,ay,az,aA,aF,aH,aE,aM,aN,aR,aq,ar,aD,aP,aQ,aT,aU,aV,aZ,bg,bk,⟨S2,hE2,f9,f13,f14,f15,f16,hN⟩⟩
  ·obtain ⟨R,hI⟩:=hN.inv; refine aL hI 0 bj e3 rfl ?_
   exact ⟨ax,fun _=>rfl,az,aA,aF,aH,aE,aM,aN,aR,aq,ar,aD,aP,aQ,aT,aU,aV,aZ,bg,bk,⟨S2,hE2,f9,f13,f14,f15,f16,hN⟩⟩
  ·obtain ⟨R,hI⟩:=hN.inv; refine aL hI 2 ai e7 rfl ?_
   exact ⟨ax,ay,fun _=>rfl,aA,aF,aH,aE,aM,aN,aR,aq,ar,aD,aP,aQ,aT,aU,aV,aZ,bg,bk,⟨S2,hE2,f9,f13,f14,f15,f16,hN⟩⟩
  ·refine aI bR ?_
   exact ⟨ax,ay,az,fun _=>rfl,aF,aH,aE,aM,aN,aR,aq,ar,aD,aP,aQ,aT,aU,aV,aZ,bg,bk,⟨S2,hE2,f9,f13,f14,f15,f16,hN⟩⟩
  ·obtain rfl:=aA ‹_›
   refine aI eZ ?_
   exact ⟨ax,ay,az,aA,fun _=>rfl,aH,aE,aM,aN,aR,aq,ar,aD,aP,aQ,aT,aU,aV,aZ,bg,bk,⟨S2,hE2,f9,f13,f14,f15,f16,hN⟩⟩
  ·obtain rfl:=aF ‹_›
   obtain ⟨R,hI⟩:=hN.inv; refine aX hI 0 eG e3 rfl ?_
   exact ⟨ax,ay,az,aA,aF,fun _=>rfl,aE,aM,aN,aR,aq,ar,aD,aP,aQ,aT,aU,aV,aZ,bg,bk,⟨S2,hE2,f9,f13,f14,f15,f16,hN⟩⟩
  ·obtain rfl:=aH ‹_›
   refine hK (l:=1) g6 hsg (by simp) fun v' hv'=>?_
   have hv':RdSl S 5 (RdG S) v' rest:=hv'
   exact ⟨ax,ay,az,aA,aF,aH,fun _=>by first|assumption|trivial,aM,aN,aR,aq,ar,aD,aP,aQ,aT,aU,aV,aZ,bg,bk,⟨S2,hE2,f9,f13,f14,f15,f16,hN⟩⟩
  ·exact ⟨ax,ay,az,aA,aF,aH,aE,fun _=>rfl,aN,aR,aq,ar,aD,aP,aQ,aT,aU,aV,aZ,bg,bk,⟨S2,hE2,f9,f13,f14,f15,f16,hN⟩⟩
  ·obtain ⟨R,hI⟩:=hN.inv; refine aL hI 2 ai e7 rfl ?_
   exact ⟨ax,ay,az,aA,aF,aH,aE,aM,fun _=>rfl,aR,aq,ar,aD,aP,aQ,aT,aU,aV,aZ,bg,bk,⟨S2,hE2,f9,f13,f14,f15,f16,hN⟩⟩
  ·obtain rfl:=aM ‹_›
   obtain rfl:=aN ‹_›
   obtain ⟨R,hI,hback⟩:=nwP.ex (Q:=fun S q=>IsSe (o.getD s) S (.agg q)) (fun _ _ _ hs h=>IsSe.mono h hs) hN
   refine Run.call0E Hn GI hI (Ep (hPE.monoC hE2.1) (htr0.mono hE2.1) (by omega)) fun v I' S3 w_=>?_
   rintro ⟨rfl,eS⟩ _ hI
   rw [eS] at hI
   obtain ⟨S3,hE3,hrw,hI⟩:=Inv.lendRowE hI
   have hN:=hback S3 _ hE3.1 hI
   have f9:ah D 9 9=true->RdSl S3 1 gt v (xW p t):=fun _=>hrw.ints
   have f13:ah D 9 13=true->IsCh c S3 tC:=fun h=>(f13 h).mono hE3.1
   have f14:ah D 9 14=true->PTk s o S3 sJ:=fun h=>(f14 h).mono hE3.1
   have f15:ah D 9 15=true->PTk s o S3 lx:=fun h=>(f15 h).mono hE3.1
   have f16:ah D 9 16=true->IsSe (o.getD s) S3 sy:=fun h=>(f16 h).mono hE3.1
   obtain ⟨S2,rfl,hE2⟩:∃ S2,S2=S3/\Ext w.heap.size [] S1 S2:=⟨S3,rfl,hE2.trans hE3⟩
   exact ⟨ax,ay,az,aA,aF,aH,aE,aM,aN,fun _=>by first|assumption|trivial,aq,ar,aD,aP,aQ,aT,aU,aV,aZ,bg,bk,⟨S2,hE2,f9,f13,f14,f15,f16,hN⟩⟩
  ·refine aI bR ?_
   exact ⟨ax,ay,az,aA,aF,aH,aE,aM,aN,aR,fun _=>rfl,ar,aD,aP,aQ,aT,aU,aV,aZ,bg,bk,⟨S2,hE2,f9,f13,f14,f15,f16,hN⟩⟩
  ·obtain rfl:=aq ‹_›
   refine aI gW ?_
   exact ⟨ax,ay,az,aA,aF,aH,aE,aM,aN,aR,aq,fun _=>rfl,aD,aP,aQ,aT,aU,aV,aZ,bg,bk,⟨S2,hE2,f9,f13,f14,f15,f16,hN⟩⟩
  ·obtain rfl:=ar ‹_›
   obtain ⟨R,hI⟩:=hN.inv; refine aX hI 0 aJ e3 rfl ?_
   exact ⟨ax,ay,az,aA,aF,aH,aE,aM,aN,aR,aq,ar,fun _=>rfl,aP,aQ,aT,aU,aV,aZ,bg,bk,⟨S2,hE2,f9,f13,f14,f15,f16,hN⟩⟩
  ·obtain rfl:=az ‹_›
   have JC:=aE ‹_›
   have Ge:=aR ‹_›
   obtain rfl:=aD ‹_›
   have hf9:=f9 ‹D 9=true›
   obtain ⟨fa,fc,rfl,_⟩:=id hf9
   obtain ⟨qa,qc,rfl,_⟩:=id JC
   refine AM ?_
   have f13:ah D 13 13=true->IsCh c S2 (.agg #[.int .i64 t.kind,.int .i64 t.n,.string t.name,tkv,.slice qa rest.length qc,.slice fa (xW p t).length fc,.slice sba s.st.binds.length sbc]):=fun _=>by
    rw [hce]
    exact ⟨[.int .i64 t.kind,.int .i64 t.n,.string t.name,tkv,.slice qa rest.length qc,.slice fa (xW p t).length fc,.slice sba s.st.binds.length sbc],rfl,_,_,_,_,rfl,htr0.mono hE2.1,JC.monoG (hE.trans hE2).1,hf9,hsb.monoO (hE.trans hE2).1⟩
   exact ⟨ax,ay,az,aA,aF,aH,aE,aM,aN,aR,aq,ar,aD,fun _=>by first|assumption|trivial,aQ,aT,aU,aV,aZ,bg,bk,⟨S2,hE2,f9,f13,f14,f15,f16,hN⟩⟩
  ·obtain rfl:=ax ‹_›
   obtain rfl:=ay ‹_›
   have NS:=aP ‹_›
   obtain ⟨cs7,rfl,hch⟩:=f13 ‹D 13=true›
   obtain ⟨R,hI,hback⟩:=nwP.ex (Q:=fun S q=>IsSe (o.getD s) S (.agg q)) (fun _ _ _ hs h=>IsSe.mono h hs) hN
   refine Run.call0E ri qL hI (oQ hp (by omega) hc hr hT (by omega) (by omega) (by rw [hso.len]; omega) (hPE.monoC hE2.1) (hsame (hE.trans hE2).1) hch) fun v I' S3 w_=>?_
   rintro ⟨rfl,hg⟩ hE3 hI
   rw [List.append_nil] at hI
   have hN:=hback S3 _ hE3.1 hI
   have f9:ah D 14 9=true->RdSl S3 1 gt sS (xW p t):=fun h=>(f9 h).mono hE3.1 fun _ _ h=>h
   have f13:ah D 14 13=true->IsCh c S3 (.agg cs7.toArray):=fun h=>(f13 h).mono hE3.1
   have f14:ah D 14 14=true->PTk s o S3 v:=fun _=>hg
   have f15:ah D 14 15=true->PTk s o S3 lx:=fun h=>(f15 h).mono hE3.1
   have f16:ah D 14 16=true->IsSe (o.getD s) S3 sy:=fun h=>(f16 h).mono hE3.1
   obtain ⟨S2,rfl,hE2⟩:∃ S2,S2=S3/\Ext w.heap.size [] S1 S2:=⟨S3,rfl,hE2.trans hE3⟩
   exact ⟨ax,ay,az,aA,aF,aH,aE,aM,aN,aR,aq,ar,aD,aP,fun _=>by first|assumption|trivial,aT,aU,aV,aZ,bg,bk,⟨S2,hE2,f9,f13,f14,f15,f16,hN⟩⟩
  ·have KA:=aQ ‹_›
   have f15:ah D 15 15=true->PTk s o S2 sJ:=fun _=>f14 ‹D 14=true›
   exact ⟨ax,ay,az,aA,aF,aH,aE,aM,aN,aR,aq,ar,aD,aP,aQ,fun _=>by first|assumption|trivial,aU,aV,aZ,bg,bk,⟨S2,hE2,f9,f13,f14,f15,f16,hN⟩⟩
  ·have JQ:=aT ‹_›
   obtain ⟨ns,rfl,hns⟩:=f15 ‹D 15=true›
   refine aB (v:=.agg ns.toArray) rfl ?_
   have f16:ah D 16 16=true->IsSe (o.getD s) S2 (.agg ns.toArray):=fun _=>⟨ns,rfl,hns⟩
   exact ⟨ax,ay,az,aA,aF,aH,aE,aM,aN,aR,aq,ar,aD,aP,aQ,aT,fun _=>by first|assumption|trivial,aV,aZ,bg,bk,⟨S2,hE2,f9,f13,f14,f15,f16,hN⟩⟩
  ·have JQ:=aT ‹_›
   obtain ⟨ns,rfl,hns⟩:=f15 ‹D 15=true›
   refine aB (v:=.bool o.isSome) rfl ?_
   exact ⟨ax,ay,az,aA,aF,aH,aE,aM,aN,aR,aq,ar,aD,aP,aQ,aT,aU,fun _=>rfl,aZ,bg,bk,⟨S2,hE2,f9,f13,f14,f15,f16,hN⟩⟩
  ·refine nwP.alloc hN bX cV rfl fun v w_ hN=>?_
   exact ⟨ax,ay,az,aA,aF,aH,aE,aM,aN,aR,aq,ar,aD,aP,aQ,aT,aU,aV,fun _=>by first|assumption|trivial,bg,bk,⟨S2,hE2,f9,f13,f14,f15,f16,hN⟩⟩
  ·have OK:=aZ ‹_›
   have Lz:=aU ‹_›
   obtain ⟨ns,rfl,hns⟩:=f16 ‹D 16=true›
   refine nwP.store hN ‹D 18=true› bX bj (by simpa using hns.length) rfl (by simpa using hns.one) ⟨ns,rfl,hns⟩ fun w_ hN=>?_
   exact ⟨ax,ay,az,aA,aF,aH,aE,aM,aN,aR,aq,ar,aD,aP,aQ,aT,aU,aV,aZ,fun _=>trivial,bk,⟨S2,hE2,f9,f13,f14,f15,f16,hN⟩⟩
  ·obtain rfl:=aV ‹_›
   exact ⟨ax,ay,az,aA,aF,aH,aE,aM,aN,aR,aq,ar,aD,aP,aQ,aT,aU,aV,aZ,bg,fun _=>rfl,⟨S2,hE2,f9,f13,f14,f15,f16,hN⟩⟩
  obtain rfl:=bk ‹_›
  have OK:=aZ ‹_›
  obtain rfl:=aV ‹_›
  have Lz:=aU ‹_›
  have JQ:=aT ‹_›
  have KA:=aQ ‹_›
  have NS:=aP ‹_›
  obtain rfl:=aD ‹_›
  obtain rfl:=ar ‹_›
  obtain rfl:=aq ‹_›
  have Ge:=aR ‹_›
  obtain rfl:=aN ‹_›
  obtain rfl:=aM ‹_›
  have JC:=aE ‹_›
  obtain rfl:=aH ‹_›
  obtain rfl:=aF ‹_›
  obtain rfl:=aA ‹_›
  obtain rfl:=az ‹_›
  obtain rfl:=ay ‹_›
  obtain rfl:=ax ‹_›
  have Ou:D 18=true:=by assumption
  have OI:D 19=true:=by assumption
  clear ax ay az aA aF aH aE aM aN aR aq ar aD aP aQ aT aU aV aZ bg bk
  rw [Ou,OI] at hN
  obtain ⟨b9,q9,rfl,⟨ns,hq9,hns⟩,hI⟩:=hN.fin
  obtain rfl:=Value.agg.inj hq9
  have hnl:=hns.length
  rcases hcase with ⟨rfl,rfl⟩|⟨rfl,rfl,rfl⟩
  ·refine aS (fun _=>?_) (fun hb=>by cases hb)
   refine aL hI 3 bj rfl (by simpa using hnl) ?_
   refine aG hI 1 e4 bj (by simpa using hnl) rfl (by simpa using hns.one) fun w' hI=>?_
   refine bE hI 1 bj rfl (by simpa using hnl) ?_
   exact ⟨_,[],S2,rfl,hI.nil,hE.trans hE2,rfl,ns,rfl,hns⟩
  ·refine aS (fun hb=>by cases hb) (fun _=>?_)
   refine hret (B:=[B7,_]) hI fun w' hI=>?_
   refine bE hI 1 bj rfl rfl ?_
   exact ⟨_,[],S2,rfl,hI.nil,hE.trans hE2,rfl,_,rfl,hsame (hE.trans hE2).1⟩
 ·rw [hbt]
  refine aS (fun hb=>by cases hb) (fun _=>?_)
  have hsb1:=hsb.monoO hE.1
  refine eh hI bO fun v0 w' hI=>?_
  have hI:Inv w [] [B3,B4,B7,bq v0 ab 4 []] S1 w':=hI
  refine aI bR ?_
  refine aI gW ?_
  refine aX hI 0 aJ e3 rfl ?_
  refine ed (css:=[]) hI 3 bO (by omega) rfl hsb1 (fun _ _=>RdO.length) (fun _ _=>RdO.one) (by simp; omega) (by omega) fun v w' css hR hI=>?_
  have hI:Inv w [] ([B3,B4,B7]++[bq v ab 4 css]) S1 w':=hI
  obtain ⟨kb,cap,cur,rfl,q1,q2,hkn,hI⟩:=Inv.tab hI hR hpos
  refine aL hI 2 ai e7 rfl ?_
  refine Run.callE Dk Dc hI (wm (kp:=cap) (by omega) hpos q1 q2 hgood ⟨htU,by omega⟩ htM.okN hbt hB htr0 hkn) fun v' I' S' w'=>?_
  rintro ⟨eS,rfl,kc,rfl,hkn⟩ _ hI
  rw [eS] at hI
  have hgd:=hB.good hgood hbt ⟨htU,by omega⟩
  have hgl:=hgd.len
  refine bP ?_
  refine bz (fun hc1=>?_) (fun hc1=>?_)
  ·rcases hcase with ⟨_,rfl,rfl⟩|⟨_,h1,_⟩|⟨h0,_⟩
   ·refine hret (B:=[B7,_]) hI fun w' hI=>?_
    refine bE hI 1 bj rfl rfl ?_
    exact ⟨_,[],S1,rfl,hI.nil,hE,rfl,_,rfl,hsame hE.1⟩
   ·exact absurd hc1 h1
   ·omega
  refine dB ?_
  refine aS (fun hc0=>?_) (fun hc0=>?_)
  ·rcases hcase with ⟨h1,_⟩|⟨_,_,rfl,rfl⟩|⟨h0,_⟩
   ·exact absurd h1 hc1
   ·refine hret (B:=[B7,_]) hI fun w' hI=>?_
    refine bE hI 1 bj rfl rfl ?_
    exact ⟨_,[],S1,rfl,hI.nil,hE,rfl,_,rfl,hsame hE.1⟩
   ·exact absurd h0 (by simpa using hc0)
  rcases hcase with ⟨h1,_⟩|⟨h0,_⟩|⟨_,rfl,rfl⟩
  ·exact absurd h1 hc1
  ·exact absurd h0 (by simpa using hc0)
  obtain ⟨S3,hI,hE3,hgS⟩:=Inv.pub1 hI
  have hE03:=hE.trans hE3
  have htb:RdSl S3 4 (RdO S3) (kvU kb s.st.binds.length cap) st':=by
   have:=(hkn.rd (cap:=cap) hgS (by rw [hgl]; exact q1) q2).mono (Sle.refl _) fun _ _ h=>RdO.mono hE3.1 h
   rw [hgl] at this
   exact this
  have hI:Inv w [] [.blk b3 (.cells #[.slice sga (g::rest).length sgc,.slice sba s.st.binds.length sbc,.slice sca s.st.chs.length scc,.slice sta s.steps.length stc,.slice sva s.saved.length svc] aW),B4,B7] S3 w':=by rw [<- hB3]; exact hI
  refine ⟨fun D KO JX MS MR LI MV MZ K2 IH IB w_=>(D 0=true->IB=.pointer (some ⟨b3,0,none⟩))/\(D 1=true->IH=.pointer (some ⟨b3,0,none⟩))/\(D 2=true->K2=.slice sga (g::rest).length sgc)/\(D 3=true->RdSl S 5 (RdG S) MZ rest)/\(D 4=true->MV=kvU kb s.st.binds.length cap)/\(D 5=true->LI=.pointer (some ⟨b3,0,none⟩))/\(D 6=true->MR=.pointer (some ⟨b3,2,none⟩))/\(D 7=true->MS=.slice sca s.st.chs.length scc)/\(D 8=true->∃ ga gc,JX=.agg #[.slice ga rest.length gc,kvU kb s.st.binds.length cap,.slice sca s.st.chs.length scc]/\RdSl S 5 (RdG S) (.slice ga rest.length gc) rest)/\(D 9=true->KO=.pointer (some ⟨b3,0,none⟩))/\(D 10=true->True)/\∃ q3,(D 10=true->D 2=true/\D 7=true)/\(D 10=false->q3=#[.slice sga (g::rest).length sgc,.slice sba s.st.binds.length sbc,.slice sca s.st.chs.length scc,.slice sta s.steps.length stc,.slice sva s.saved.length svc])/\(D 10=true->∃ gv,q3=#[gv,kvU kb s.st.binds.length cap,.slice sca s.st.chs.length scc,.slice sta s.steps.length stc,.slice sva s.saved.length svc]/\RdSl S 5 (RdG S) gv rest)/\Inv w [] [.blk b3 (.cells q3 aW),B4,B7] S3 w_,⟨ac,ac,ac,ac,ac,ac,ac,ac,ac,ac,ac,⟨_,ac,fun _=>rfl,ac,hI.draw⟩⟩,⟨?_,?_,?_,?_,?_,?_,?_,?_,?_,?_,?_,trivial⟩,?_⟩
  all_goals (intro D bX; intros; rename_i KO JX MS MR LI MV MZ K2 IH IB w_ hA_; obtain ⟨ax,ay,az,aA,aF,aH,aE,aM,aN,aR,aq,⟨q3,k10,z10,f10,hI⟩⟩:=hA_)
  ·refine aI bR ?_
   exact ⟨fun _=>rfl,ay,az,aA,aF,aH,aE,aM,aN,aR,aq,⟨q3,k10,z10,f10,hI⟩⟩
  ·obtain rfl:=ax ‹_›
   refine aI eZ ?_
   exact ⟨ax,fun _=>rfl,az,aA,aF,aH,aE,aM,aN,aR,aq,⟨q3,k10,z10,f10,hI⟩⟩
  ·obtain rfl:=ay ‹_›
   have n10:D 10=false:=Bool.eq_false_iff.2 fun h=>by rw [(k10 h).1] at bX; cases bX
   have hI2:=hI
   rw [z10 n10] at hI2
   refine aX hI2 0 eG rfl rfl ?_
   have k10:ah D 2 10=true->ah D 2 2=true/\ah D 2 7=true:=fun h=>⟨rfl,(k10 h).2⟩
   exact ⟨ax,ay,fun _=>rfl,aA,aF,aH,aE,aM,aN,aR,aq,⟨q3,k10,z10,f10,hI⟩⟩
  ·obtain rfl:=az ‹_›
   refine hK (l:=1) g6 hsg (by simp) fun v' hv'=>?_
   have hv':RdSl S 5 (RdG S) v' rest:=hv'
   exact ⟨ax,ay,az,fun _=>by first|assumption|trivial,aF,aH,aE,aM,aN,aR,aq,⟨q3,k10,z10,f10,hI⟩⟩
  ·exact ⟨ax,ay,az,aA,fun _=>rfl,aH,aE,aM,aN,aR,aq,⟨q3,k10,z10,f10,hI⟩⟩
  ·refine aI bR ?_
   exact ⟨ax,ay,az,aA,aF,fun _=>rfl,aE,aM,aN,aR,aq,⟨q3,k10,z10,f10,hI⟩⟩
  ·obtain rfl:=aH ‹_›
   refine aI cQ ?_
   exact ⟨ax,ay,az,aA,aF,aH,fun _=>rfl,aM,aN,aR,aq,⟨q3,k10,z10,f10,hI⟩⟩
  ·obtain rfl:=aE ‹_›
   have n10:D 10=false:=Bool.eq_false_iff.2 fun h=>by rw [(k10 h).2] at bX; cases bX
   have hI2:=hI
   rw [z10 n10] at hI2
   refine aX hI2 0 cP rfl rfl ?_
   have k10:ah D 7 10=true->ah D 7 2=true/\ah D 7 7=true:=fun h=>⟨(k10 h).1,rfl⟩
   exact ⟨ax,ay,az,aA,aF,aH,aE,fun _=>rfl,aN,aR,aq,⟨q3,k10,z10,f10,hI⟩⟩
  ·have Gu:=aA ‹_›
   obtain rfl:=aF ‹_›
   obtain rfl:=aM ‹_›
   obtain ⟨ga,gc,rfl,_⟩:=id Gu
   refine Hl ?_
   have hq:∃ ga' gc',Value.agg #[.slice ga rest.length gc,kvU kb s.st.binds.length cap,.slice sca s.st.chs.length scc]=.agg #[.slice ga' rest.length gc',kvU kb s.st.binds.length cap,.slice sca s.st.chs.length scc]/\RdSl S 5 (RdG S) (.slice ga' rest.length gc') rest:=⟨ga,gc,rfl,Gu⟩
   exact ⟨ax,ay,az,aA,aF,aH,aE,aM,fun _=>by first|assumption|trivial,aR,aq,⟨q3,k10,z10,f10,hI⟩⟩
  ·refine aI bR ?_
   exact ⟨ax,ay,az,aA,aF,aH,aE,aM,aN,fun _=>rfl,aq,⟨q3,k10,z10,f10,hI⟩⟩
  ·obtain rfl:=aR ‹_›
   have BL:=aN ‹_›
   obtain ⟨ga,gc,rfl,hgv⟩:=BL
   rw [z10 bX] at hI
   refine lV hI 0 rfl cb rfl rfl (by simp [Value.cells,Value.oneCell']) fun w_ hI=>?_
   have hI:Inv w [] [.blk b3 (.cells #[.slice ga rest.length gc,kvU kb s.st.binds.length cap,.slice sca s.st.chs.length scc,.slice sta s.steps.length stc,.slice sva s.saved.length svc] aW),B4,B7] S3 w_:=hI
   have k10:ah D 10 10=true->ah D 10 2=true/\ah D 10 7=true:=fun _=>⟨by assumption,by assumption⟩
   obtain ⟨q3,hq3⟩:∃ q3,q3=#[.slice ga rest.length gc,kvU kb s.st.binds.length cap,.slice sca s.st.chs.length scc,.slice sta s.steps.length stc,.slice sva s.saved.length svc]:=⟨_,rfl⟩
   rw [<- hq3] at hI
   have z10:ah D 10 10=false->q3=#[.slice sga (g::rest).length sgc,.slice sba s.st.binds.length sbc,.slice sca s.st.chs.length scc,.slice sta s.steps.length stc,.slice sva s.saved.length svc]:=fun h=>Bool.noConfusion h
   have f10:ah D 10 10=true->∃ gv,q3=#[gv,kvU kb s.st.binds.length cap,.slice sca s.st.chs.length scc,.slice sta s.steps.length stc,.slice sva s.saved.length svc]/\RdSl S 5 (RdG S) gv rest:=fun _=>⟨_,hq3,hgv⟩
   exact ⟨ax,ay,az,aA,aF,aH,aE,aM,aN,aR,fun _=>trivial,⟨q3,k10,z10,f10,hI⟩⟩
  obtain rfl:=aR ‹_›
  have BL:=aN ‹_›
  obtain rfl:=aM ‹_›
  obtain rfl:=aE ‹_›
  obtain rfl:=aH ‹_›
  obtain rfl:=aF ‹_›
  have Gu:=aA ‹_›
  obtain rfl:=az ‹_›
  obtain rfl:=ay ‹_›
  obtain rfl:=ax ‹_›
  have zr:D 10=true:=by assumption
  clear ax ay az aA aF aH aE aM aN aR aq
  obtain ⟨gv,rfl,hgv⟩:=f10 zr
  obtain ⟨sp,hsp⟩:∃ sp:Sp,sp=⟨t,-1,0⟩:=⟨_,rfl⟩
  have hspr:RdSp S3 [.int .i64 t.kind,.int .i64 t.n,.string t.name,tkv,.int .i64 (-1),.int .i64 0] sp:=by
   rw [hsp]
   exact ⟨_,rfl,htr0.mono hE3.1⟩
  have hst3:=hst.monoSp hE03.1
  have hI:Inv w [] ([B4,B7]++[.blk b3 (.cells #[gv,kvU kb s.st.binds.length cap,.slice sca s.st.chs.length scc,.slice sta s.steps.length stc,.slice sva s.saved.length svc] aW)]) S3 w_:=hI.perm (by
   refine List.Perm.symm (List.Perm.trans (List.Perm.swap _ _ _) ?_)
   exact (List.Perm.swap _ _ _).cons _)
  refine ⟨fun D M0 MC Mo KV Kl JV IQ JW Jr w_=>(D 0=true->True)/\(D 1=true->JW=.pointer (some ⟨b3,3,none⟩))/\(D 2=true->IQ=.slice sta s.steps.length stc)/\(D 3=true->True)/\(D 4=true->Kl=.agg #[.int .i64 t.kind,.int .i64 t.n,.string t.name,tkv])/\(D 5=true->KV=.agg #[.int .i64 t.kind,.int .i64 t.n,.string t.name,tkv,.int .i64 (-1),.int .i64 0])/\(D 6=true->True)/\(D 7=true->True)/\(D 8=true->M0=.pointer (some ⟨b3,3,none⟩))/\(D 9=true->True)/\∃ n_:Nat,n_<=3/\D 0=decide (1<=n_)/\D 3=decide (2<=n_)/\D 7=decide (3<=n_)/\((D 9=true->D 2=true)/\apP w [] (fun cv=>[B4,B7]++[.blk b3 (.cells #[gv,kvU kb s.st.binds.length cap,.slice sca s.st.chs.length scc,cv,.slice sva s.saved.length svc] aW)]) (.slice sta s.steps.length stc) fU 6 RdSp s.steps sp S3 (D 6) (D 9) Jr JV Mo MC w_ n_),⟨ac,ac,ac,ac,ac,ac,ac,ac,ac,ac,⟨0,Nat.zero_le _,rfl,rfl,rfl,(ac),apP.mk hI.draw _ _ _ _⟩⟩,⟨?_,?_,?_,?_,?_,?_,?_,?_,?_,?_,trivial⟩,?_⟩
  all_goals (intro D bX; intros; rename_i M0 MC Mo KV Kl JV IQ JW Jr w_ hA_; obtain ⟨ax,ay,az,aA,aF,aH,aE,aM,aN,aR,⟨n_,ln_,e1_,e2_,e3_,hS⟩⟩:=hA_)
  ·obtain rfl:n_=0:=vo e1_ bX
   obtain ⟨k9,hS⟩:=hS; refine Mi hS ek fun v w_ hS=>?_
   exact ⟨fun _=>by first|assumption|trivial,ay,az,aA,aF,aH,aE,aM,aN,aR,⟨1,by decide,rfl,(by first|exact e2_|rfl),(by first|exact e3_|rfl),k9,hS⟩⟩
  ·refine aI eV ?_
   exact ⟨ax,fun _=>rfl,az,aA,aF,aH,aE,aM,aN,aR,⟨n_,ln_,e1_,e2_,e3_,hS⟩⟩
  ·obtain rfl:=ay ‹_›
   obtain ⟨k9,hS⟩:=hS
   have n9:D 9=false:=Bool.eq_false_iff.2 fun h=>by rw [k9 h] at bX; cases bX
   obtain ⟨S5,R,hE5,hI⟩:=hS.inv0 n9
   refine aX hI 2 fG rfl rfl ?_
   have hS:=And.intro (fun (_:ah D 2 9=true)=>(rfl:ah D 2 2=true)) hS
   exact ⟨ax,ay,fun _=>rfl,aA,aF,aH,aE,aM,aN,aR,⟨n_,ln_,e1_,e2_,e3_,hS⟩⟩
  ·have Ol:=ax ‹_›
   obtain rfl:=az ‹_›
   obtain rfl:n_=1:=gf e1_ ‹D 0=true› e2_ bX
   obtain ⟨k9,hS⟩:=hS; refine LP spM hS ek (by omega) hst3 spL spO (by omega) (by omega) fun v w_ hS=>?_
   exact ⟨ax,ay,az,fun _=>by first|assumption|trivial,aF,aH,aE,aM,aN,aR,⟨2,by decide,(by first|exact e1_|rfl),rfl,(by first|exact e3_|rfl),k9,hS⟩⟩
  ·obtain ⟨k9,hS1⟩:=hS; obtain ⟨S5,cv,R,hE5,hI⟩:=hS1.inv; refine aL hI 1 ai e7 rfl ?_
   have hS:=And.intro k9 hS1
   exact ⟨ax,ay,az,aA,fun _=>rfl,aH,aE,aM,aN,aR,⟨n_,ln_,e1_,e2_,e3_,hS⟩⟩
  ·obtain rfl:=aF ‹_›
   refine Gq ?_
   exact ⟨ax,ay,az,aA,aF,fun _=>rfl,aE,aM,aN,aR,⟨n_,ln_,e1_,e2_,e3_,hS⟩⟩
  ·obtain rfl:=aH ‹_›
   obtain ⟨k9,hS⟩:=hS; refine Me spM hS ek (by omega) (by omega) rfl hspr spL fun v w_ hS=>?_
   have hS:=And.intro k9 hS
   exact ⟨ax,ay,az,aA,aF,aH,fun _=>by first|assumption|trivial,aM,aN,aR,⟨n_,ln_,e1_,e2_,e3_,hS⟩⟩
  ·have Gu:=aA ‹_›
   have JC:=aE ‹_›
   obtain rfl:n_=2:=gf e2_ ‹D 3=true› e3_ bX
   obtain ⟨k9,hS⟩:=hS; refine LY spM hS ‹D 6=true› ek (by omega) spL spO (by omega) (by omega) fun v w_ hS=>?_
   exact ⟨ax,ay,az,aA,aF,aH,aE,fun _=>by first|assumption|trivial,aN,aR,⟨3,by decide,(by first|exact e1_|rfl),(by first|exact e2_|rfl),rfl,k9,hS⟩⟩
  ·refine aI eV ?_
   exact ⟨ax,ay,az,aA,aF,aH,aE,aM,fun _=>rfl,aR,⟨n_,ln_,e1_,e2_,e3_,hS⟩⟩
  ·obtain rfl:=aN ‹_›
   have Gd:=aM ‹_›
   have hn3:=kq ln_ e3_ ‹D 7=true›
   obtain ⟨k9,hS3⟩:=hS
   rw [hn3] at hS3
   rw [bX] at hS3
   refine LX (C:=fun cv=>#[gv,kvU kb s.st.binds.length cap,.slice sca s.st.chs.length scc,cv,.slice sva s.saved.length svc]) (fun _=>rfl) hS3 fG (fun _ _=>rfl) (fun _=>show 3<5 by decide) fun w_ hS4=>?_
   have hS:(ah D 9 9=true->ah D 9 2=true)/\apP w [] (fun cv=>[B4,B7]++[.blk b3 (.cells #[gv,kvU kb s.st.binds.length cap,.slice sca s.st.chs.length scc,cv,.slice sva s.saved.length svc] aW)]) (.slice sta s.steps.length stc) fU 6 RdSp s.steps sp S3 (ah D 9 6) (ah D 9 9) Jr JV Mo MC w_ n_:=⟨fun _=>by assumption,by rw [hn3]; exact hS4⟩
   exact ⟨ax,ay,az,aA,aF,aH,aE,aM,aN,fun _=>trivial,⟨n_,ln_,e1_,e2_,e3_,hS⟩⟩
  obtain rfl:n_=3:=kq ln_ e3_ ‹D 7=true›
  have ES:D 9=true:=by assumption
  clear e1_ e2_ e3_
  obtain ⟨_,hS⟩:=hS
  rw [ES] at hS
  obtain ⟨S5,cv,hE5,hcv,hI⟩:=hS.fin
  have hE05:=hE03.trans hE5
  have hfin:RdSe S5 [gv,kvU kb s.st.binds.length cap,.slice sca s.st.chs.length scc,cv,.slice sva s.saved.length svc] ⟨⟨rest,st',s.st.chs⟩,s.steps++[⟨t,-1,0⟩],s.saved⟩:=
   ⟨_,_,_,_,_,rfl,hgv.monoG hE05.1,htb.monoO hE5.1,hsc.monoCh hE05.1,by rw [hsp] at hcv; exact hcv,hsv.monoVS hE05.1⟩
  refine aL hI 2 bj rfl rfl ?_
  refine aG hI 0 e4 bj rfl rfl (by simpa using hfin.one) fun w' hI=>?_
  refine bE hI 0 bj rfl rfl ?_
  exact ⟨_,[],S5,rfl,hI.nil,hE05,rfl,_,rfl,hfin⟩
end
end Go.Proofs.YtfcbhfjomgopbaaGreat

/- spec.l13Build. -/
namespace Go.Proofs.YtfcbhfjomgopbaaGreat
open Go Go.RowKit
theorem BldR.inv1 {st:bf} {l0:List Sp} {o:Option (List PF × List Sp)} (h:BldR st .one l0 o):∃ x l u,l0=x::l/\Res st (.one x.goal u)/\((cB u=false/\o=none) ∨
  (cB u=true/\∃ o',BldR st (.many x.body.toNat) l o'/\((o'=none/\o=none) ∨ ∃ ks l1,o'=some (ks,l1)/\o=some ([.mk u x.clause ks],l1)))):=by
 cases h with
 | big h1 h2=>exact ⟨_,_,_,rfl,h1,.inl ⟨h2,rfl⟩⟩
 | bad h1 h2 h3=>exact ⟨_,_,_,rfl,h1,.inr ⟨h2,_,h3,.inl ⟨rfl,rfl⟩⟩⟩
 | node h1 h2 h3=>exact ⟨_,_,_,rfl,h1,.inr ⟨h2,_,h3,.inr ⟨_,_,rfl,rfl⟩⟩⟩
theorem BldR.inv0 {st:bf} {l:List Sp} {o:Option (List PF × List Sp)} (h:BldR st (.many 0) l o):o=some ([],l):=by
 cases h with
 | nil=>rfl
theorem BldR.invS {st:bf} {n:Nat} {l:List Sp} {o:Option (List PF × List Sp)} (h:BldR st (.many (n+1)) l o):∃ o1,BldR st .one l o1/\((o1=none/\o=none) ∨
  ∃ k l1 o2,o1=some ([k],l1)/\BldR st (.many n) l1 o2/\((o2=none/\o=none) ∨ ∃ ks l2,o2=some (ks,l2)/\o=some (k::ks,l2))):=by
 cases h with
 | stop h=>exact ⟨_,h,.inl ⟨rfl,rfl⟩⟩
 | next h1 h2=>exact ⟨_,h1,.inr ⟨_,_,_,rfl,h2,.inl ⟨rfl,rfl⟩⟩⟩
 | cons h1 h2=>exact ⟨_,h1,.inr ⟨_,_,_,rfl,h2,.inr ⟨_,_,rfl,rfl⟩⟩⟩
theorem RowRd.one {S:al} {v:Value} {e:TypeId} {k n:Nat} {xs:List Value} (h:RowRd S v e k n xs):v.oneCell'=true:=by
 obtain ⟨_,⟨rfl,_⟩|⟨g,cap,cur,rfl,_⟩⟩:=h <;> rfl
theorem Inv.rowOne {w0 w:World} {X:List Nat} {L:List Item} {S:al} {v:Value} {e:TypeId} {k n i:Nat} {xs:List Value} (h:Inv w0 X L S w) (hi:L[i]?=some (.row v e k n xs)):v.cells=#[v]/\v.oneCell'=true:=by
 have hm:w.ownsRow 0 e k v n xs:=h.its _ (List.mem_of_getElem? hi)
 obtain ⟨_,hm⟩:=hm
 rcases hm with ⟨rfl,_⟩|⟨g,cap,cur,rfl,_⟩ <;> exact ⟨rfl,rfl⟩
theorem nD {l:List Value} (h:l.length=4):∃ a b c d,l=[a,b,c,d]:=by
 match l,h with
 | [a,b,c,d],_=>exact ⟨a,b,c,d,rfl⟩
theorem Mt {l:List Value} (h:l.length=6):∃ a b c d e f,l=[a,b,c,d,e,f]:=by
 match l,h with
 | [a,b,c,d,e,f],_=>exact ⟨a,b,c,d,e,f,rfl⟩
theorem AY {a b c d:Value} {i:Int} {v:Value} (h:∀ x∈[a,b,c,d],x.oneCell'=true) (hv:v.oneCell'=true):∀ x∈(#[a,b,c,d,.int .i64 i,v]:Array Value).toList,x.oneCell'=true:=by
 intro x hx
 simp only [List.mem_cons,List.not_mem_nil,or_false] at hx h
 rcases hx with rfl|rfl|rfl|rfl|rfl|rfl
 ·exact h _ (.inl rfl)
 ·exact h _ (.inr (.inl rfl))
 ·exact h _ (.inr (.inr (.inl rfl)))
 ·exact h _ (.inr (.inr (.inr rfl)))
 ·rfl
 ·exact hv
abbrev zP6:Array Value:=#[.int .i64 0,.int .i64 0,.string ⟨#[]⟩,.slice none 0 0,.int .i64 0,.slice none 0 0]
def M3 (steps:List Sp) (o:Option (List PF × List Sp)):Value->List Item->al->Prop:=fun q I' S'=>I'=[]/\∃ (cs:List Value) (a:Nat),q=.tuple #[.agg cs.toArray,.int .i64 (a:Int),.bool o.isSome]/\cs.length=6/\(∀ u∈cs,u.oneCell'=true)/\
 ∀ ks l2,o=some (ks,l2)->a<=steps.length/\l2=steps.drop a/\∃ x,ks=[x]/\RdF S' cs x
section
attribute [local irreducible] Run CondV ag aO
set_option maxHeartbeats 2000000 in
theorem xc {N:Nat} (hN0:0<N) {st:bf} (hg:Good N st) {steps:List Sp} (hok:okLp N steps) (hlen:steps.length<=100000):∀ (L a:Nat),steps.length - a<=L->∀ o,BldR st .one (steps.drop a) o->
  ∀ (S:al) (v vb:Value),RdSl S 6 (RdSp S) v steps->RdSl S 4 (RdO S) vb st->Tri Tryz.prog Da [v,.int .i64 (a:Int),vb] [] S (M3 steps o):=by
 intro L
 induction L with
 | zero=>
  intro a ha o h
  obtain ⟨x,l,u,hl,_⟩:=h.inv1
  have:=congrArg List.length hl
  rw [List.length_drop] at this
  simp at this
  omega
 | succ L ih=>
 intro a ha o h S v vb hv hvb w hI
 obtain ⟨x,l,t,hl,hres,hcase⟩:=h.inv1
 have hal:a<steps.length:=by
  have:=congrArg List.length hl
  rw [List.length_drop] at this
  simp at this
  omega
 rw [List.drop_eq_getElem_cons hal,List.cons.injEq] at hl
 obtain ⟨hx,rfl⟩:=hl
 have hxm:x∈steps:=by rw [<- hx]; exact List.getElem_mem hal
 obtain ⟨⟨hxo,hxw⟩,hxb0,hxb6,hxc0,hxc1⟩:=hok x hxm
 obtain ⟨n,hn⟩:∃ n:Nat,x.body=n:=⟨x.body.toNat,by omega⟩
 rw [hn,Int.toNat_natCast] at hcase
 obtain ⟨va,vcap,rfl,_⟩:=id hv
 obtain ⟨sb,so,sc2,sc,sE,sfz,hve,hsS,hsR⟩:=hv.at_ hal
 rw [hx] at hsR
 have hva:va=some ⟨sb,so,none⟩:=by
  simp only [Value.slice.injEq] at hve
  exact hve.1
 obtain ⟨xhd,hxce,hxt⟩:=hsR
 have hxt0:=hxt
 obtain ⟨xkv,rfl,_⟩:=RdT.iff.1 hxt
 have hcc:sc[so+a * 6+4]?=some (.int .i64 x.clause):=bh hxce 4 _ rfl
 have hcb:sc[so+a * 6+5]?=some (.int .i64 x.body):=bh hxce 5 _ rfl
 have hix:∀ {ty:TypeId} {K:Value->World->Prop} {w':World},K (.pointer (some ⟨sb,so+a * 6,none⟩)) w'->Run Tryz.prog (sOp (.indexAddr nq (.const (.slice va steps.length vcap)) (.const (.int .i64 (a:Int)))) ty) w' K:=
  fun hk=>by rw [hva]; exact be CZ hal hk
 refine sL ?_
 unfold o3
 refine bi hI dk fun b6 w' hI=>?_
 obtain ⟨B6,hB6⟩:∃ B:Item,B=.blk b6 (.cells zP6 au):=⟨_,rfl⟩
 have e6:=congrArg some hB6
 have hI:Inv w [] [B6] S w':=by rw [hB6]; exact hI
 refine hix ?_
 refine aI AH ?_
 refine cL ai (cs:=[.int .i64 x.goal.kind,.int .i64 x.goal.n,.string x.goal.name,xkv]) rfl (fun j v hj=>by
  rw [hI.cellS hsS,Nat.add_zero]
  refine bh hxce j v ?_
  rw [List.getElem?_append_left (List.getElem?_eq_some_iff.1 hj).1]
  exact hj) ?_
 refine Run.call0E r5 pM hI (Fq hN0 hg hres ⟨hxo,hxw⟩ hxt0 hvb) fun v' I' S1 w'=>?_
 rintro ⟨rfl,ts,hl4,ho4,rfl,hrd⟩ hE hI
 have hI:Inv w [] [B6] S1 w':=hI
 obtain ⟨a1,a2,a3,a4,rfl⟩:=nD hl4
 refine aB (v:=.agg [a1,a2,a3,a4].toArray) rfl ?_
 refine aB (v:=.bool (cB t)) rfl ?_
 refine bi hI bH fun b9 w' hI=>?_
 have hI:Inv w [] [B6,.blk b9 (.cells #[.int .i64 0,.int .i64 0,.string ⟨#[]⟩,.slice none 0 0] ab)] S1 w':=hI
 refine aG hI 1 rfl ai rfl rfl (by simpa using ho4) fun w' hI=>?_
 obtain ⟨B9,hB9⟩:∃ B:Item,B=.blk b9 (.cells #[a1,a2,a3,a4] ab):=⟨_,rfl⟩
 have e9:=congrArg some hB9
 have hI:Inv w [] [B6,B9] S1 w':=by rw [hB9]; exact hI
 have hsS1:=hE.1 _ _ hsS
 refine ⟨fun D zo lI rN jP jc jK gC mz w_=>(D 0=true->mz=.agg #[a1,a2,a3,a4])/\(D 1=true->gC=.slice va steps.length vcap)/\(D 2=true->jK=.int .i64 (a:Int))/\(D 3=true->jc=.pointer (some ⟨sb,so+a * 6,none⟩))/\(D 4=true->jP=.pointer (some ⟨sb,so+a * 6+4,none⟩))/\(D 5=true->rN=.int .i64 x.clause)/\(D 6=true->lI=.agg #[a1,a2,a3,a4,.int .i64 x.clause,.slice none 0 0])/\(D 7=true->True)/\(D 8=true->True)/\nwP w [] [B6,B9] au zP6 (fun _ q=>q=#[a1,a2,a3,a4,.int .i64 x.clause,.slice none 0 0]) (D 7) (D 8) zo S1 w_,⟨ac,ac,ac,ac,ac,ac,ac,ac,ac,nwP.mk hI.draw _⟩,⟨?_,?_,?_,?_,?_,?_,?_,?_,?_,trivial⟩,?_⟩
 all_goals (intro D bX; intros; rename_i zo lI rN jP jc jK gC mz w_ hA_; obtain ⟨ax,ay,az,aA,aF,aH,aE,aM,aN,hN⟩:=hA_)
 ·obtain ⟨R,hI⟩:=hN.inv; refine aL hI 1 ai e9 rfl ?_
  exact ⟨fun _=>rfl,ay,az,aA,aF,aH,aE,aM,aN,hN⟩
 ·exact ⟨ax,fun _=>rfl,az,aA,aF,aH,aE,aM,aN,hN⟩
 ·exact ⟨ax,ay,fun _=>rfl,aA,aF,aH,aE,aM,aN,hN⟩
 ·obtain rfl:=ay ‹_›
  obtain rfl:=az ‹_›
  refine hix ?_
  exact ⟨ax,ay,az,fun _=>rfl,aF,aH,aE,aM,aN,hN⟩
 ·obtain rfl:=aA ‹_›
  refine aI AB ?_
  exact ⟨ax,ay,az,aA,fun _=>rfl,aH,aE,aM,aN,hN⟩
 ·obtain rfl:=aF ‹_›
  obtain ⟨R,hI⟩:=hN.inv; refine dc aY ((hI.cellS hsS1).trans hcc) ?_
  exact ⟨ax,ay,az,aA,aF,fun _=>rfl,aE,aM,aN,hN⟩
 ·obtain rfl:=ax ‹_›
  obtain rfl:=aH ‹_›
  refine nK ?_
  exact ⟨ax,ay,az,aA,aF,aH,fun _=>rfl,aM,aN,hN⟩
 ·refine nwP.alloc hN bX dk rfl fun v w_ hN=>?_
  exact ⟨ax,ay,az,aA,aF,aH,aE,fun _=>by first|assumption|trivial,aN,hN⟩
 ·have Gd:=aM ‹_›
  obtain rfl:=aE ‹_›
  refine nwP.store hN ‹D 7=true› bX bA rfl rfl (AY ho4 rfl) rfl fun w_ hN=>?_
  exact ⟨ax,ay,az,aA,aF,aH,aE,aM,fun _=>trivial,hN⟩
 have Gd:=aM ‹_›
 obtain rfl:=aE ‹_›
 obtain rfl:=aH ‹_›
 obtain rfl:=aF ‹_›
 obtain rfl:=aA ‹_›
 obtain rfl:=az ‹_›
 obtain rfl:=ay ‹_›
 obtain rfl:=ax ‹_›
 have Bk:D 7=true:=by assumption
 have zn:D 8=true:=by assumption
 clear ax ay az aA aF aH aE aM aN
 rw [Bk,zn] at hN
 obtain ⟨b11,q11,rfl,rfl,hI⟩:=hN.fin
 have hI:Inv w [] [B6,B9,.blk b11 (.cells #[a1,a2,a3,a4,.int .i64 x.clause,.slice none 0 0] au)] S1 w_:=hI
 refine hix ?_
 refine aI AL ?_
 refine dc aY ((hI.cellS hsS1).trans hcb) ?_
 rw [hn]
 refine bT (by omega) ?_
 rw [show ((a:Int)+1)=((a+1:Nat):Int) by omega]
 obtain ⟨oM,hoM⟩:∃ oM:Option (List PF × List Sp),(cB t=true->BldR st (.many n) (steps.drop (a+1)) oM)/\(cB t=false->oM=none)/\((oM=none/\o=none) ∨ ∃ ks l1,oM=some (ks,l1)/\o=some ([.mk t x.clause ks],l1))/\(oM≠none->cB t=true):=by
  rcases hcase with ⟨h1,h2⟩|⟨h1,o',h2,h3⟩
  ·exact ⟨none,fun e=>(by rw [h1] at e; cases e),fun _=>rfl,.inl ⟨rfl,h2⟩,fun e=>absurd rfl e⟩
  ·exact ⟨o',fun _=>h2,fun e=>(by rw [h1] at e; cases e),h3,fun _=>h1⟩
 obtain ⟨hoM1,hoM2,hoM3,hoM4⟩:=hoM
 have hI:=hI.rowNil au 6
 have hI:Inv w [] [B6,.blk b11 (.cells #[a1,a2,a3,a4,.int .i64 x.clause,.slice none 0 0] au),bq (.slice none 0 0) au 6 []] S1 w_:=hI.pick [true,false,true,true]
 refine ⟨fun i k1 q1 w'=>∃ (j aa:Nat) (okb:Bool) (S2:al) (kv:Value) (css:List (List Value)),i=.int .i64 (j:Int)/\k1=.bool okb/\q1=.int .i64 (aa:Int)/\j<=n/\css.length<=j/\Ext w.heap.size [] S1 S2/\(okb=false->oM=none)/\
   (okb=true->cB t=true/\aa<=steps.length/\a+1<=aa/\∃ dn o',Rows 6 (RdF S2) css dn/\BldR st (.many (n - j)) (steps.drop aa) o'/\(∀ ks l2,o'=some (ks,l2)->oM=some (dn++ks,l2))/\(o'=none->oM=none))/\
   Inv w [] [B6,.blk b11 (.cells #[a1,a2,a3,a4,.int .i64 x.clause,kv] au),bq kv au 6 css] S2 w',fun i _ _ _=>n - (intOf i).toNat,
  ⟨0,a+1,cB t,S1,_,[],rfl,rfl,rfl,Nat.zero_le _,Nat.le_refl _,Ext.refl _ _ _,hoM2,fun hs=>⟨hs,by omega,Nat.le_refl _,[],oM,Rows.nil _ _,hoM1 hs,fun ks l2 e=>e,fun e=>e⟩,hI⟩,?_⟩
 intro t13 _ _ t10 _ t1 _ _ _ _ _ _ _ _ _ _ _ _ _ _ _ _ _ _ _ _ _ _ _ _ w'
 rintro ⟨j,aa,okb,S2,kv,css,rfl,rfl,rfl,hj,hcl,hE2,hf,ht,hI⟩
 refine ⟨fun q w'=>q=.bool (decide ((j:Int)<(n:Int)) && okb)/\Inv w [] [B6,.blk b11 (.cells #[a1,a2,a3,a4,.int .i64 x.clause,kv] au),bq kv au 6 css] S2 w',?_,?_⟩
 ·refine cg ?_
  cases hd:decide ((j:Int)<(n:Int)) with
  | true=>
   repeat (first|refine ad ?_|refine af (by decide) ?_|refine ae ?_|refine ak ?_|refine aj ?_)
   exact ⟨rfl,hI⟩
  | false=>
   repeat (first|refine ad ?_|refine af (by decide) ?_|refine ae ?_|refine ak ?_|refine aj ?_)
   exact ⟨rfl,hI⟩
 intro q _ _ _ _ _ w'
 rintro ⟨rfl,hI⟩
 refine aS (fun hb=>?_) (fun hb=>?_)
 ·rw [Bool.and_eq_true,decide_eq_true_eq] at hb
  obtain ⟨hjn,hok1⟩:=hb
  obtain ⟨hsm,ha1,ha2,dn,o',hR,hB,hs1,hs2⟩:=ht hok1
  obtain ⟨m,hm⟩:∃ m,n - j=m+1:=⟨n - j - 1,by omega⟩
  rw [hm] at hB
  obtain ⟨o1,hB1,hB2⟩:=hB.invS
  refine Run.call0E oh og hI (ih aa (by omega) o1 hB1 S2 _ vb (hv.monoSp (hE.trans hE2).1) (hvb.monoO (hE.trans hE2).1)) fun v' I' S3 w'=>?_
  rintro ⟨rfl,c6,a',rfl,hk6,ko6,hpost⟩ hE3 hI
  obtain ⟨c1,c2,c3,c4,c5,c6,rfl⟩:=Mt hk6
  have hI:Inv w [] [B6,.blk b11 (.cells #[a1,a2,a3,a4,.int .i64 x.clause,kv] au),bq kv au 6 css] S3 w':=hI
  refine aB (v:=.agg [c1,c2,c3,c4,c5,c6].toArray) rfl ?_
  refine aB (v:=.int .i64 (a':Int)) rfl ?_
  refine aB (v:=.bool o1.isSome) rfl ?_
  refine bi hI dk fun b14 w' hI=>?_
  have hI:Inv w [] ([B6,.blk b11 (.cells #[a1,a2,a3,a4,.int .i64 x.clause,kv] au),bq kv au 6 css]++[.blk b14 (.cells zP6 au)]) S3 w':=hI
  refine aG hI 3 rfl bA rfl rfl (by simpa using ko6) fun w' hI=>?_
  have hI:Inv w [] ([B6,.blk b11 (.cells #[a1,a2,a3,a4,.int .i64 x.clause,kv] au),bq kv au 6 css]++[.blk b14 (.cells #[c1,c2,c3,c4,c5,c6] au)]) S3 w':=hI
  refine ao hI 1 rfl bQ bY rfl ?_
  refine aL hI 3 bA rfl rfl ?_
  refine f0 (css:=css) hI 2 [c1,c2,c3,c4,c5,c6] fW (by omega) (by omega) rfl rfl ko6 (by omega) (by omega) fun v' w' hI=>?_
  have hI:Inv w [] [B6,.blk b11 (.cells #[a1,a2,a3,a4,.int .i64 x.clause,kv] au),bq v' au 6 (css++[[c1,c2,c3,c4,c5,c6]])] S3 w':=hI.pick [true,true,true]
  obtain ⟨hvc,hv1⟩:=hI.rowOne (i:=2) rfl
  refine cM hI 1 rfl bQ bY rfl hvc hv1 fun w' hI=>?_
  refine bT (by omega) ?_
  rw [show ((j:Int)+1)=((j+1:Nat):Int) by omega]
  refine ⟨⟨j+1,a',o1.isSome,S3,v',_,rfl,rfl,rfl,by omega,by simp; omega,hE2.trans hE3,fun e1=>?_,fun e1=>?_,hI⟩,by simp only [intOf,Int.toNat_natCast]; omega⟩
  ·rcases hB2 with ⟨_,ho⟩|⟨k,l1,o2,rfl,_⟩
   ·exact hs2 ho
   ·cases e1
  ·rcases hB2 with ⟨rfl,ho⟩|⟨k,l1,o2,rfl,hB3,hB4⟩
   ·cases e1
   ·obtain ⟨p1,p2,x',hx',hrx⟩:=hpost _ _ rfl
    simp only [List.cons.injEq,and_true] at hx'
    subst hx'
    obtain ⟨pre,has⟩:=hB1.suf _ _ rfl
    have hle:aa<=a':=by
     have:=congrArg List.length has
     rw [p2,List.length_append,List.length_drop,List.length_drop] at this
     omega
    refine ⟨hsm,p1,by omega,dn++[k],o2,(hR.monoR fun _ _ h=>h.mono hE3.1).snoc hrx rfl,?_,fun ks l2 e=>?_,fun e=>?_⟩
    ·rw [show n - (j+1)=m by omega,<- p2]
     exact hB3
    ·rcases hB4 with ⟨h1,_⟩|⟨ks',l2',h1,h2⟩
     ·rw [h1] at e; cases e
     ·rw [h1] at e
      simp only [Option.some.injEq,Prod.mk.injEq] at e
      obtain ⟨rfl,rfl⟩:=e
      rw [hs1 _ _ h2,List.append_assoc]
      rfl
    ·rcases hB4 with ⟨_,h1⟩|⟨ks',l2',h1,h2⟩
     ·exact hs2 h1
     ·rw [h1] at e; cases e
 ·obtain ⟨S3,hE3,hrw,hI⟩:=Inv.lendExt (A:=[B6,.blk b11 (.cells #[a1,a2,a3,a4,.int .i64 x.clause,kv] au)]) hI
  have hkv:=hrw.one
  refine aL hI 1 bA rfl rfl ?_
  refine aG (cs:=#[a1,a2,a3,a4,.int .i64 x.clause,kv]) hI 0 e6 bA rfl rfl (AY ho4 hkv) fun w' hI=>?_
  refine bE hI 0 bA rfl rfl ?_
  have hend:okb=o.isSome/\∀ ks l2,o=some (ks,l2)->aa<=steps.length/\l2=steps.drop aa/\∃ x',ks=[x']/\RdF S3 [a1,a2,a3,a4,.int .i64 x.clause,kv] x':=by
   cases hkb:okb with
   | false=>
    have h0:=hf hkb
    rcases hoM3 with ⟨_,h2⟩|⟨_,_,h1,_⟩
    ·subst h2
     exact ⟨rfl,fun ks l2 e=>by cases e⟩
    ·rw [h0] at h1; cases h1
   | true=>
    obtain ⟨hsm,ha1,ha2,dn,o',hR,hB,hs1,hs2⟩:=ht hkb
    rw [hkb,Bool.and_true,decide_eq_false_iff_not] at hb
    rw [show n - j=0 by omega] at hB
    have h1:=hs1 _ _ hB.inv0
    rcases hoM3 with ⟨h2,_⟩|⟨ks,l1,h2,h3⟩
    ·rw [h1] at h2; cases h2
    ·rw [h1] at h2
     simp only [List.append_nil,Option.some.injEq,Prod.mk.injEq] at h2
     obtain ⟨rfl,rfl⟩:=h2
     subst h3
     refine ⟨rfl,fun ks l2 e=>?_⟩
     simp only [Option.some.injEq,Prod.mk.injEq] at e
     obtain ⟨rfl,rfl⟩:=e
     refine ⟨ha1,rfl,_,rfl,RdF.iff.2 ?_⟩
     have htr:=(hrd hsm).mono (hE2.trans hE3).1
     obtain ⟨tkv,hte,_⟩:=RdT.iff.1 htr
     simp only [List.cons.injEq,and_true] at hte
     obtain ⟨rfl,rfl,rfl,rfl⟩:=hte
     exact ⟨_,_,rfl,htr,⟨by simp only [PF.clause]; omega,by simp only [PF.clause]; omega⟩,RowRd.rows (hR.monoR fun _ _ h=>h.mono hE3.1) hrw⟩
  obtain ⟨hk1,hk2⟩:=hend
  refine ⟨_,[],S3,rfl,hI.nil,(hE.trans hE2).trans hE3,rfl,[a1,a2,a3,a4,.int .i64 x.clause,kv],aa,by rw [hk1],rfl,AY ho4 hkv,hk2⟩
end
end Go.Proofs.YtfcbhfjomgopbaaGreat

/- spec.l13Rename. -/
namespace Go.Proofs.YtfcbhfjomgopbaaGreat
open Go Go.RowKit
mutual
def prF (vs:List Int):PF->PF
 | .mk g c ks=>.mk (fH vs g) c (prL vs ks)
def prL (vs:List Int):List PF->List PF
 | []=>[]
 | p::ps=>prF vs p::prL vs ps
end
theorem Cc (vs:List Int):∀ ps:List PF,prL vs ps=ps.map (prF vs)
 | []=>rfl
 | p::ps=>by rw [prL,Cc vs ps]; rfl
mutual
theorem IE (vs:List Int):∀ p:PF,wF (prF vs p)=wF p
 | .mk g c ks=>by rw [prF,wF,wF,Im,La vs ks,Cc,List.length_map]
theorem La (vs:List Int):∀ ps:List PF,wFL (prL vs ps)=wFL ps
 | []=>rfl
 | p::ps=>by rw [prL,wFL,wFL,IE vs p,La vs ps]
end
theorem BldR.wsize {N:Nat} {st:bf} (hg:Good N st) {j:BKd} {l:List Sp} {o:Option (List PF × List Sp)} (h:BldR st j l o):okLp N l->∀ ks l2,o=some (ks,l2)->wFL ks+ks.length+842 * l2.length<=842 * l.length:=by
 induction h with
 | big=>intro _ ks l2 h; cases h
 | bad=>intro _ ks l2 h; cases h
 | stop=>intro _ ks l2 h; cases h
 | next=>intro _ ks l2 h; cases h
 | nil=>
  intro _ ks l2 h
  simp only [Option.some.injEq,Prod.mk.injEq] at h
  obtain ⟨rfl,rfl⟩:=h
  simp [wFL]
 | @node x l _ u _ hu hsm _ ih=>
  intro ho ks l2 h
  simp only [Option.some.injEq,Prod.mk.injEq] at h
  obtain ⟨rfl,rfl⟩:=h
  have h1:=ih (fun y hy=>ho y (List.mem_cons_of_mem _ hy)) _ _ rfl
  have hou:okU N u:=jt hg hu (ho x (List.mem_cons_self ..)).1.1
  have hw:=jg hsm hou
  simp only [wFL,wF,List.length_cons,List.length_nil]
  omega
 | @cons _ l l1 l2 k ks' h1 _ ih1 ih2=>
  intro ho ks l3 h
  simp only [Option.some.injEq,Prod.mk.injEq] at h
  obtain ⟨rfl,rfl⟩:=h
  obtain ⟨a,e⟩:=h1.suf _ _ rfl
  have q1:=ih1 ho _ _ rfl
  have q3:=ih2 (fun y hy=>ho y (by rw [e]; exact List.mem_append_right _ hy)) _ _ rfl
  simp only [wFL,List.length_cons,List.length_nil] at q1 ⊢
  omega
theorem Inv.rowSl {w0 w:World} {X:List Nat} {L:List Item} {S:al} {v:Value} {e:TypeId} {k n i:Nat} {xs:List Value} (h:Inv w0 X L S w) (hi:L[i]?=some (.row v e k n xs)):∃ a n m,v=.slice a n m:=by
 have hm:w.ownsRow 0 e k v n xs:=h.its _ (List.mem_of_getElem? hi)
 obtain ⟨_,hm⟩:=hm
 rcases hm with ⟨rfl,_⟩|⟨g,cap,cur,rfl,_⟩ <;> exact ⟨_,_,_,rfl⟩
def rnC (w0:World) (X:List Nat) (b5:Nat) (F:Value->Array Value) (B:List Item) (kv:Value) (css:List (List Value)) (y:PF) (S:al) (jK jc jP:Value) (w:World):Nat->Prop
 | 0=>Inv w0 X (B++[.blk b5 (.cells (F kv) au),bq kv au 6 css]) S w
 | 1=>∃ S1 cs,jK=.agg cs.toArray/\Ext w0.heap.size X S S1/\RdF S1 cs y/\Inv w0 X (B++[.blk b5 (.cells (F kv) au),bq kv au 6 css]) S1 w
 | 2=>∃ S1,Ext w0.heap.size X S S1/\RdSl S1 6 (RdF S1) jc [y]/\Inv w0 X (B++[.blk b5 (.cells (F kv) au),bq kv au 6 css]) S1 w
 | 3=>∃ S1 cs,Ext w0.heap.size X S S1/\RdF S1 cs y/\Inv w0 X (B++[.blk b5 (.cells (F kv) au),bq jP au 6 (css++[cs])]) S1 w
 | _=>∃ S1 kv' cs,Ext w0.heap.size X S S1/\RdF S1 cs y/\Inv w0 X (B++[.blk b5 (.cells (F kv') au),bq kv' au 6 (css++[cs])]) S1 w
theorem rnC.inv {w0 w:World} {X:List Nat} {b5:Nat} {F:Value->Array Value} {B:List Item} {kv:Value} {css:List (List Value)} {y:PF} {S:al} {jK jc jP:Value}:∀ {n:Nat},rnC w0 X b5 F B kv css y S jK jc jP w n->∃ R S1,Ext w0.heap.size X S S1/\Inv w0 X (B++R) S1 w
 | 0,h=>⟨_,_,Ext.refl _ _ _,h⟩
 | 1,⟨S1,_,_,hE,_,h⟩=>⟨_,S1,hE,h⟩
 | 2,⟨S1,hE,_,h⟩=>⟨_,S1,hE,h⟩
 | 3,⟨S1,_,hE,_,h⟩=>⟨_,S1,hE,h⟩
 | _+4,⟨S1,_,_,hE,_,h⟩=>⟨_,S1,hE,h⟩
theorem rnC.low {w0 w:World} {X:List Nat} {b5:Nat} {F:Value->Array Value} {B:List Item} {kv:Value} {css:List (List Value)} {y:PF} {S:al} {jK jc jP:Value}:∀ {n:Nat},rnC w0 X b5 F B kv css y S jK jc jP w n->n<4->∃ R S1,Inv w0 X (B++.blk b5 (.cells (F kv) au)::R) S1 w
 | 0,h,_=>⟨_,_,h⟩
 | 1,⟨S1,_,_,_,_,h⟩,_=>⟨_,S1,h⟩
 | 2,⟨S1,_,_,h⟩,_=>⟨_,S1,h⟩
 | 3,⟨S1,_,_,_,h⟩,_=>⟨_,S1,h⟩
 | n+4,_,h=>by omega
abbrev KQ (x:PF):Value->List Item->al->Prop:=fun q I' S'=>I'=[]/\∃ cs:List Value,q=.agg cs.toArray/\RdF S' cs x
section
attribute [local irreducible] Run CondV ag aO
set_option maxHeartbeats 2000000 in
theorem vI {vs:List Int} (hvl:vs.length<=1000000000):∀ (x:PF) (S:al) (cs:List Value) (v:Value),RdF S cs x->RdSl S 1 gt v vs->pwT x->wF x<=1048576->Tri Tryz.prog ot [.agg cs.toArray,v] [] S (KQ (prF vs x)):=by
 refine PF.ind fun g c ks ih S cs v h hv hpw hwf=>?_
 intro w hI
 obtain ⟨gkv,kp,rfl,hg,hci,hks⟩:=RdF.iff.1 h
 simp only [PF.goal,PF.clause,PF.kids] at hg hci hks ⊢
 rw [pwT] at hpw
 rw [wF] at hwf
 have hlen:=hks.le
 simp only [maxLen] at hlen
 obtain ⟨ka,kc,rfl,_⟩:=id hks
 obtain ⟨va,vc,rfl,_⟩:=id hv
 refine sg ?_
 unfold ne
 refine bS hI fun b2 w' hI=>?_
 refine bi hI dk fun b4 w' hI=>?_
 obtain ⟨B2,hB2⟩:∃ B:Item,B=.blk b2 (.cells #[.int .i64 g.kind,.int .i64 g.n,.string g.name,gkv,.int .i64 c,.slice ka ks.length kc] au):=⟨_,rfl⟩
 obtain ⟨B4,hB4⟩:∃ B:Item,B=.blk b4 (.cells zP6 au):=⟨_,rfl⟩
 have e2:=congrArg some hB2
 have e4:=congrArg some hB4
 have hI:Inv w [] [B2,B4] S w':=by rw [hB2,hB4]; exact hI
 refine ⟨fun D x5 Md MQ zo M1 x9 x8 x7 w_=>(D 0=true->x7=.pointer (some ⟨b2,0,none⟩))/\(D 1=true->x8=.agg #[.int .i64 g.kind,.int .i64 g.n,.string g.name,gkv])/\(D 2=true->x9=.slice va vs.length vc)/\(D 3=true->True)/\(D 4=true->zo=.pointer (some ⟨b2,4,none⟩))/\(D 5=true->MQ=.int .i64 c)/\(D 6=true->True)/\(D 7=true->True)/\(D 8=true->True)/\∃ S1,Ext w.heap.size [] S S1/\(D 3=true->∃ a1 a2 a3 a4,M1=.agg #[a1,a2,a3,a4]/\RdT S1 [a1,a2,a3,a4] (fH vs g))/\(D 6=true->∃ a1 a2 a3 a4,Md=.agg #[a1,a2,a3,a4,.int .i64 c,.slice none 0 0]/\RdT S1 [a1,a2,a3,a4] (fH vs g))/\nwP w [] [B2,B4] au zP6 (fun S q=>∃ a1 a2 a3 a4,q=#[a1,a2,a3,a4,.int .i64 c,.slice none 0 0]/\RdT S [a1,a2,a3,a4] (fH vs g)) (D 7) (D 8) x5 S1 w_,⟨ac,ac,ac,ac,ac,ac,ac,ac,ac,⟨S,Ext.refl _ _ _,ac,ac,nwP.mk hI.draw _⟩⟩,⟨?_,?_,?_,?_,?_,?_,?_,?_,?_,trivial⟩,?_⟩
 all_goals (intro D bX; intros; rename_i x5 Md MQ zo M1 x9 x8 x7 w_ hA_; obtain ⟨ax,ay,az,aA,aF,aH,aE,aM,aN,⟨S1,hE1,f3,f6,hN⟩⟩:=hA_)
 ·refine aI fZ ?_
  exact ⟨fun _=>rfl,ay,az,aA,aF,aH,aE,aM,aN,⟨S1,hE1,f3,f6,hN⟩⟩
 ·obtain rfl:=ax ‹_›
  obtain ⟨R,hI⟩:=hN.inv; refine cN hI 0 [.int .i64 g.kind,.int .i64 g.n,.string g.name,gkv] ai e2 rfl E9 ?_
  exact ⟨ax,fun _=>rfl,az,aA,aF,aH,aE,aM,aN,⟨S1,hE1,f3,f6,hN⟩⟩
 ·exact ⟨ax,ay,fun _=>rfl,aA,aF,aH,aE,aM,aN,⟨S1,hE1,f3,f6,hN⟩⟩
 ·obtain rfl:=ay ‹_›
  obtain rfl:=az ‹_›
  obtain ⟨R,hI,hback⟩:=nwP.ex (Q:=fun S q=>∃ a1 a2 a3 a4,q=#[a1,a2,a3,a4,.int .i64 c,.slice none 0 0]/\RdT S [a1,a2,a3,a4] (fH vs g)) (fun _ _ _ hs ⟨a1,a2,a3,a4,e,h⟩=>⟨a1,a2,a3,a4,e,h.mono hs⟩) hN
  refine Run.call0E oB oX hI (xf vs hvl g S1 _ _ (hg.mono hE1.1) (hv.mono hE1.1 fun _ _ h=>h) (by omega)) fun v I' S2 w_=>?_
  rintro ⟨eS,cs',L,rfl,rfl,hT⟩ _ hI
  rw [eS] at hI
  obtain ⟨S2,hI,hE2,hins⟩:=hI.pubExt
  have hrt:=hT.rd hins
  obtain ⟨a1,a2,a3,a4,rfl⟩:=nD hrt.length
  have hN:=hback S2 _ hE2.1 hI
  have f3:ah D 3 3=true->∃ b1 b2 b3 b4,Value.agg [a1,a2,a3,a4].toArray=.agg #[b1,b2,b3,b4]/\RdT S2 [b1,b2,b3,b4] (fH vs g):=fun _=>⟨a1,a2,a3,a4,rfl,hrt⟩
  have f6:ah D 3 6=true->∃ a1 a2 a3 a4,Md=.agg #[a1,a2,a3,a4,.int .i64 c,.slice none 0 0]/\RdT S2 [a1,a2,a3,a4] (fH vs g):=fun h=>by
   obtain ⟨b1,b2,b3,b4,e,h⟩:=f6 h
   exact ⟨b1,b2,b3,b4,e,h.mono hE2.1⟩
  obtain ⟨S1,rfl,hE1⟩:∃ S1,S1=S2/\Ext w.heap.size [] S S1:=⟨S2,rfl,hE1.trans hE2⟩
  exact ⟨ax,ay,az,fun _=>by first|assumption|trivial,aF,aH,aE,aM,aN,⟨S1,hE1,f3,f6,hN⟩⟩
 ·refine aI fX ?_
  exact ⟨ax,ay,az,aA,fun _=>rfl,aH,aE,aM,aN,⟨S1,hE1,f3,f6,hN⟩⟩
 ·obtain rfl:=aF ‹_›
  obtain ⟨R,hI⟩:=hN.inv; refine aX hI 0 aY e2 rfl ?_
  exact ⟨ax,ay,az,aA,aF,fun _=>rfl,aE,aM,aN,⟨S1,hE1,f3,f6,hN⟩⟩
 ·have Gu:=aA ‹_›
  obtain rfl:=aH ‹_›
  obtain ⟨a1,a2,a3,a4,rfl,hrt⟩:=f3 ‹D 3=true›
  refine nK ?_
  have f6:ah D 6 6=true->∃ b1 b2 b3 b4,Value.agg #[a1,a2,a3,a4,.int .i64 c,.slice none 0 0]=.agg #[b1,b2,b3,b4,.int .i64 c,.slice none 0 0]/\RdT S1 [b1,b2,b3,b4] (fH vs g):=fun _=>⟨a1,a2,a3,a4,rfl,hrt⟩
  exact ⟨ax,ay,az,aA,aF,aH,fun _=>by first|assumption|trivial,aM,aN,⟨S1,hE1,f3,f6,hN⟩⟩
 ·refine nwP.alloc hN bX dk rfl fun v w_ hN=>?_
  exact ⟨ax,ay,az,aA,aF,aH,aE,fun _=>by first|assumption|trivial,aN,⟨S1,hE1,f3,f6,hN⟩⟩
 ·have Gd:=aM ‹_›
  have JC:=aE ‹_›
  obtain ⟨a1,a2,a3,a4,rfl,hrt⟩:=f6 ‹D 6=true›
  refine nwP.store hN ‹D 7=true› bX bA rfl rfl (AY hrt.one rfl) ⟨a1,a2,a3,a4,rfl,hrt⟩ fun w_ hN=>?_
  exact ⟨ax,ay,az,aA,aF,aH,aE,aM,fun _=>trivial,⟨S1,hE1,f3,f6,hN⟩⟩
 have Gd:=aM ‹_›
 have JC:=aE ‹_›
 obtain rfl:=aH ‹_›
 obtain rfl:=aF ‹_›
 have Gu:=aA ‹_›
 obtain rfl:=az ‹_›
 obtain rfl:=ay ‹_›
 obtain rfl:=ax ‹_›
 have Bk:D 7=true:=by assumption
 have zn:D 8=true:=by assumption
 clear ax ay az aA aF aH aE aM aN
 rw [Bk,zn] at hN
 obtain ⟨b5,q5,rfl,⟨a1,a2,a3,a4,rfl,hrt⟩,hI⟩:=hN.fin
 obtain ⟨F,hF⟩:∃ F:Value->Array Value,F=fun kv=>#[a1,a2,a3,a4,.int .i64 c,kv]:=⟨_,rfl⟩
 have hFv:∀ kv,F kv=#[a1,a2,a3,a4,.int .i64 c,kv]:=fun kv=>by rw [hF]
 have hI:=hI.rowNil au 6
 have hI:Inv w [] ([B2,B4]++[.blk b5 (.cells (F (.slice none 0 0)) au),bq (.slice none 0 0) au 6 []]) S1 w_:=by rw [hFv]; exact hI
 refine ⟨fun i w'=>∃ (j:Nat) (S2:al) (kv:Value) (css:List (List Value)),i=.int .i64 (j:Int)/\j<=ks.length/\Ext w.heap.size [] S1 S2/\Rows 6 (RdF S2) css ((ks.take j).map (prF vs))/\
   Inv w [] ([B2,B4]++[.blk b5 (.cells (F kv) au),bq kv au 6 css]) S2 w',fun i _=>ks.length - (intOf i).toNat,⟨0,S1,_,[],rfl,Nat.zero_le _,Ext.refl _ _ _,Rows.nil _ _,hI⟩,?_⟩
 intro t6 _ _ t32 t31 t30 t29 t28 t27 t26 t25 t24 t23 t22 t21 _ _ _ _ _ w'
 rintro ⟨j,S2,kv,css,rfl,hj,hE2,hR,hI⟩
 have hcl:=hR.hc
 rw [List.length_map,List.length_take,Nat.min_eq_left hj] at hcl
 have hE02:=hE1.trans hE2
 refine ao hI 0 e2 bQ bY rfl ?_
 refine eT cA ?_
 refine cg ?_
 refine bz (fun hji=>?_) (fun hji=>?_)
 ·have hj':j<ks.length:=by omega
  obtain ⟨kb,ko,kc2,kcs,kE,kfz,hke,hkS,hkR⟩:=hks.at_ hj'
  have hka:ka=some ⟨kb,ko,none⟩:=by
   simp only [Value.slice.injEq] at hke
   exact hke.1
  have hix:∀ {ty:TypeId} {K:Value->World->Prop} {w':World},K (.pointer (some ⟨kb,ko+j * 6,none⟩)) w'->Run Tryz.prog (sOp (.indexAddr BP (.const (.slice ka ks.length kc)) (.const (.int .i64 (j:Int)))) ty) w' K:=
   fun hk=>by rw [hka]; exact be cA hj' hk
  have hkl:=hkR.length
  have hkS2:=hE02.1 _ _ hkS
  obtain ⟨qa,qn,qc,rfl⟩:=hI.rowSl (i:=3) rfl
  have hvS:=hv.mono hE02.1 fun _ _ h=>h
  have hcall:∀ S3,Sle S S3->Tri Tryz.prog ot [.agg (bm kcs (ko+j * 6) 6).toArray,.slice va vs.length vc] [] S3 (KQ (prF vs ks[j])):=fun S3 h3=>
   ih _ (List.getElem_mem hj') S3 _ _ (hkR.mono h3) (hv.mono h3 fun _ _ h=>h) (IU hpw.2 _ (List.getElem_mem hj')) (by have:=wR (List.getElem_mem hj'); omega)
  refine ⟨fun D rN jP jc jK gC mz oA ki qu uQ sH nU w_=>(D 0=true->nU=.pointer (some ⟨b5,5,none⟩))/\(D 1=true->sH=.slice qa qn qc)/\(D 2=true->uQ=.pointer (some ⟨b2,5,none⟩))/\(D 3=true->qu=.slice ka ks.length kc)/\(D 4=true->ki=.int .i64 (j:Int))/\(D 5=true->oA=.pointer (some ⟨kb,ko+j * 6,none⟩))/\(D 6=true->mz=.agg (bm kcs (ko+j * 6) 6).toArray)/\(D 7=true->gC=.slice va vs.length vc)/\(D 8=true->True)/\(D 9=true->True)/\(D 10=true->True)/\(D 11=true->rN=.pointer (some ⟨b5,5,none⟩))/\(D 12=true->True)/\∃ n_:Nat,n_<=4/\D 8=decide (1<=n_)/\D 9=decide (2<=n_)/\D 10=decide (3<=n_)/\D 12=decide (4<=n_)/\(D 12=true->D 1=true)/\(rnC w [] b5 F [B2,B4] (.slice qa qn qc) css (prF vs ks[j]) S2 jK jc jP w_ n_),⟨ac,ac,ac,ac,ac,ac,ac,ac,ac,ac,ac,ac,ac,⟨0,Nat.zero_le _,rfl,rfl,rfl,rfl,(ac),hI.draw⟩⟩,⟨?_,?_,?_,?_,?_,?_,?_,?_,?_,?_,?_,?_,?_,trivial⟩,?_⟩
  all_goals (intro D bX; intros; rename_i rN jP jc jK gC mz oA ki qu uQ sH nU w_ hA_; obtain ⟨ax,ay,az,aA,aF,aH,aE,aM,aN,aR,aq,ar,aD,⟨n_,ln_,e1_,e2_,e3_,e4_,kp_,hS⟩⟩:=hA_)
  ·refine aI bQ ?_
   exact ⟨fun _=>rfl,ay,az,aA,aF,aH,aE,aM,aN,aR,aq,ar,aD,⟨n_,ln_,e1_,e2_,e3_,e4_,kp_,hS⟩⟩
  ·obtain rfl:=ax ‹_›
   have ln2_:=Mb e4_ kp_ bX
   obtain ⟨R,S3,hI⟩:=hS.low ln2_
   rw [hFv] at hI
   refine aX hI 2 bY rfl rfl ?_
   exact ⟨ax,fun _=>rfl,az,aA,aF,aH,aE,aM,aN,aR,aq,ar,aD,⟨n_,ln_,e1_,e2_,e3_,e4_,(fun _=>rfl),hS⟩⟩
  ·refine aI bQ ?_
   exact ⟨ax,ay,fun _=>rfl,aA,aF,aH,aE,aM,aN,aR,aq,ar,aD,⟨n_,ln_,e1_,e2_,e3_,e4_,kp_,hS⟩⟩
  ·obtain rfl:=az ‹_›
   obtain ⟨R,S3,_,hI⟩:=hS.inv; refine aX hI 0 bY e2 rfl ?_
   exact ⟨ax,ay,az,fun _=>rfl,aF,aH,aE,aM,aN,aR,aq,ar,aD,⟨n_,ln_,e1_,e2_,e3_,e4_,kp_,hS⟩⟩
  ·exact ⟨ax,ay,az,aA,fun _=>rfl,aH,aE,aM,aN,aR,aq,ar,aD,⟨n_,ln_,e1_,e2_,e3_,e4_,kp_,hS⟩⟩
  ·obtain rfl:=aA ‹_›
   obtain rfl:=aF ‹_›
   refine hix ?_
   exact ⟨ax,ay,az,aA,aF,fun _=>rfl,aE,aM,aN,aR,aq,ar,aD,⟨n_,ln_,e1_,e2_,e3_,e4_,kp_,hS⟩⟩
  ·obtain rfl:=aH ‹_›
   obtain ⟨R,S3,hE3,hI⟩:=hS.inv; refine cL bA hkl (fun j v hj=>by rw [hI.cellS (hE3.1 _ _ hkS2)]; exact bh rfl j v hj) ?_
   exact ⟨ax,ay,az,aA,aF,aH,fun _=>rfl,aM,aN,aR,aq,ar,aD,⟨n_,ln_,e1_,e2_,e3_,e4_,kp_,hS⟩⟩
  ·exact ⟨ax,ay,az,aA,aF,aH,aE,fun _=>rfl,aN,aR,aq,ar,aD,⟨n_,ln_,e1_,e2_,e3_,e4_,kp_,hS⟩⟩
  ·obtain rfl:=aE ‹_›
   obtain rfl:=aM ‹_›
   obtain rfl:n_=0:=vo e1_ bX
   refine Run.call0E na lQ hS (hcall S2 hE02.1) fun v I' S3 w_=>?_
   rintro ⟨rfl,cs,rfl,hcs⟩ hE3 hI
   rw [List.append_nil] at hI
   have hS:rnC w [] b5 F [B2,B4] (.slice qa qn qc) css (prF vs ks[j]) S2 (.agg cs.toArray) jc jP w_ 1:=⟨S3,cs,rfl,hE3,hcs,hI⟩
   exact ⟨ax,ay,az,aA,aF,aH,aE,aM,fun _=>by first|assumption|trivial,aR,aq,ar,aD,⟨1,by decide,rfl,(by first|exact e2_|rfl),(by first|exact e3_|rfl),(by first|exact e4_|rfl),kp_,hS⟩⟩
  ·have BL:=aN ‹_›
   obtain rfl:n_=1:=gf e1_ ‹D 8=true› e2_ bX
   obtain ⟨S3,cs,rfl,hE3,hcs,hI⟩:=hS
   refine dh hI fW (by simpa [Value.cells] using hcs.length) (by omega) (by omega) fun b w_ hI=>?_
   obtain ⟨S4,hI,hE4,hb⟩:=Inv.pub1 hI
   have hS:rnC w [] b5 F [B2,B4] (.slice qa qn qc) css (prF vs ks[j]) S2 (.agg cs.toArray) (.slice (some ⟨b,0,none⟩) 1 1) jP w_ 2:=⟨S4,hE3.trans hE4,RdSl.single hb hcs.length (hcs.mono hE4.1),hI⟩
   exact ⟨ax,ay,az,aA,aF,aH,aE,aM,aN,fun _=>by first|assumption|trivial,aq,ar,aD,⟨2,by decide,(by first|exact e1_|rfl),rfl,(by first|exact e3_|rfl),(by first|exact e4_|rfl),kp_,hS⟩⟩
  ·obtain rfl:=ay ‹_›
   have Ge:=aR ‹_›
   obtain rfl:n_=2:=gf e2_ ‹D 9=true› e3_ bX
   obtain ⟨S3,hE3,hrd,hI⟩:=hS
   refine ed (css:=css) hI 3 fW (by omega) rfl hrd (fun _ _=>RdF.length) (fun _ _=>RdF.one) (by simp; omega) (by omega) fun v w_ css2 hR2 hI=>?_
   obtain ⟨c0,hc0⟩:∃ c0,css2=[c0]:=List.length_eq_one_iff.1 hR2.hc
   subst hc0
   have hc0:RdF S3 c0 (prF vs ks[j]):=hR2.hR 0 (by simp) (by simp)
   have hS:rnC w [] b5 F [B2,B4] (.slice qa qn qc) css (prF vs ks[j]) S2 jK jc v w_ 3:=⟨S3,c0,hE3,hc0,hI⟩
   exact ⟨ax,ay,az,aA,aF,aH,aE,aM,aN,aR,fun _=>by first|assumption|trivial,ar,aD,⟨3,by decide,(by first|exact e1_|rfl),(by first|exact e2_|rfl),rfl,(by first|exact e4_|rfl),kp_,hS⟩⟩
  ·refine aI bQ ?_
   exact ⟨ax,ay,az,aA,aF,aH,aE,aM,aN,aR,aq,fun _=>rfl,aD,⟨n_,ln_,e1_,e2_,e3_,e4_,kp_,hS⟩⟩
  ·obtain rfl:=ar ‹_›
   have wv:=aq ‹_›
   obtain rfl:n_=3:=gf e3_ ‹D 10=true› e4_ bX
   obtain ⟨S3,cs,hE3,hcs,hI⟩:=hS
   obtain ⟨hv1,hv2⟩:=hI.rowOne (i:=3) rfl
   rw [hFv] at hI
   refine dy hI 2 (b:=b5) (o:=5) (n:=1) (by rw [hv1]; rfl) (by rw [bY]; rfl) rfl (by simp) (by rw [hv1]; simpa using hv2) fun w_ hI=>?_
   have hS:rnC w [] b5 F [B2,B4] (.slice qa qn qc) css (prF vs ks[j]) S2 jK jc jP w_ 4:=⟨S3,jP,cs,hE3,hcs,by rw [hFv]; rw [hv1] at hI; exact hI⟩
   exact ⟨ax,ay,az,aA,aF,aH,aE,aM,aN,aR,aq,ar,fun _=>trivial,⟨4,by decide,(by first|exact e1_|rfl),(by first|exact e2_|rfl),(by first|exact e3_|rfl),rfl,(fun _=>‹D 1=true›),hS⟩⟩
  obtain rfl:n_=4:=kq ln_ e4_ ‹D 12=true›
  clear e1_ e2_ e3_ e4_
  obtain ⟨S3,kv',cs,hE3,hcs,hI⟩:=hS
  refine bT (by omega) ?_
  refine ⟨⟨j+1,S3,kv',_,rfl,hj',hE2.trans hE3,?_,hI⟩,by simp only [intOf,Int.toNat_natCast]; omega⟩
  rw [List.take_succ_eq_append_getElem hj',List.map_append]
  exact (hR.monoR fun _ _ h=>h.mono hE3.1).snoc hcs hcs.length
 ·have:j=ks.length:=by omega
  subst this
  rw [List.take_length] at hR
  obtain ⟨S3,hE3,hrw,hI⟩:=Inv.lendExt (A:=[B2,B4,.blk b5 (.cells (F kv) au)]) hI
  rw [hFv] at hI
  have hfin:RdF S3 [a1,a2,a3,a4,.int .i64 c,kv] (prF vs (.mk g c ks)):=by
   rw [prF,Cc]
   refine RdF.iff.2 ?_
   have htr:=hrt.mono (hE2.trans hE3).1
   obtain ⟨tkv,hte,_⟩:=RdT.iff.1 htr
   simp only [List.cons.injEq,and_true] at hte
   obtain ⟨rfl,rfl,rfl,rfl⟩:=hte
   exact ⟨_,_,rfl,htr,hci,RowRd.rows (hR.monoR fun _ _ h=>h.mono hE3.1) hrw⟩
  refine aL hI 2 bA rfl rfl ?_
  refine aG (cs:=#[a1,a2,a3,a4,.int .i64 c,kv]) hI 1 e4 bA rfl rfl (by simpa using hfin.one) fun w' hI=>?_
  refine bE hI 1 bA rfl rfl ?_
  exact ⟨_,[],S3,rfl,hI.nil,hE02.trans hE3,rfl,_,rfl,hfin⟩
end
end Go.Proofs.YtfcbhfjomgopbaaGreat

/- spec.l13Find: the search for a proof. -/
namespace Go.Proofs.YtfcbhfjomgopbaaGreat
open Go Go.RowKit
theorem Srch.inv {p:List C} {n:Nat} {s:Se} {o:Option Se} (h:Srch p n s o):(s.st.goals=[]/\o=some s) ∨ (s.st.goals≠[]/\n=0/\o=none) ∨
  (s.st.goals≠[]/\∃ m s' e,n=m+1/\OneR p s s' e/\((e=0/\o=none) ∨ (e=-1/\Srch p m s' o) ∨ (e=-2/\∃ ob,BackR p s'.st.chs s'.saved ob/\((ob=none/\o=none) ∨ ∃ t,ob=some t/\Srch p m t o)))):=by
 cases h with
 | done h=>exact .inl ⟨h,rfl⟩
 | out h=>exact .inr (.inl ⟨h,rfl,rfl⟩)
 | halt h h1=>exact .inr (.inr ⟨h,_,_,_,rfl,h1,.inl ⟨rfl,rfl⟩⟩)
 | step h h1 h2=>exact .inr (.inr ⟨h,_,_,_,rfl,h1,.inr (.inl ⟨rfl,h2⟩)⟩)
 | stop h h1 h2=>exact .inr (.inr ⟨h,_,_,_,rfl,h1,.inr (.inr ⟨rfl,_,h2,.inl ⟨rfl,rfl⟩⟩)⟩)
 | back h h1 h2 h3=>exact .inr (.inr ⟨h,_,_,_,rfl,h1,.inr (.inr ⟨rfl,_,h2,.inr ⟨_,rfl,h3⟩⟩)⟩)
/- what the search answers: a proof with its variables numbered, or nothing -/
def FinO (s:Se) (o:Option PF):Prop:=∃ ob,BldR s.st.binds .one s.steps ob/\((ob=none/\o=none) ∨ ∃ x l2,ob=some ([x],l2)/\o=some (prF (pvT x []) x))
def FindO (p:List C) (n:Nat) (s:Se) (o:Option PF):Prop:=∃ oS,Srch p n s oS/\((oS=none/\o=none) ∨ ∃ t,oS=some t/\FinO t o)
theorem FindO.ex {p:List C} (hp:∀ cl∈p,pU cl) (hpl:p.length<=1000000) {k n:Nat} {s:Se} (hs:jN p.length s) (ho:okP s) (hx:okXk k s):∃ o,FindO p n s o:=by
 obtain ⟨oS,h1,_⟩:=Srch.ex (fun cl hc=>(hp cl hc).cf) n s hs
 cases oS with
 | none=>exact ⟨none,none,h1,.inl ⟨rfl,rfl⟩⟩
 | some t=>
  obtain ⟨q1,q2,q3⟩:=h1.ok (fun cl hc=>(hp cl hc).cf) hs ho t rfl
  obtain ⟨ob,h2,h3⟩:=M2 q1 q2 q3 (h1.okXk hp hpl k hs hx t rfl)
  cases ob with
  | none=>exact ⟨none,_,h1,.inr ⟨t,rfl,none,h2,.inl ⟨rfl,rfl⟩⟩⟩
  | some q=>
   obtain ⟨x,hx⟩:=h3 q.1 q.2 rfl
   exact ⟨_,_,h1,.inr ⟨t,rfl,some q,h2,.inr ⟨x,q.2,by rw [<- hx],rfl⟩⟩⟩
theorem FinO.w {n k:Nat} {s:Se} (hs:jN n s) (hx:okXk k s) {o:Option PF} (h:FinO s o):∀ y,o=some y->wF y<=842 * k:=by
 intro y hy
 obtain ⟨ob,h1,⟨_,rfl⟩|⟨x,l2,rfl,rfl⟩⟩:=h
 ·cases hy
 ·rw [Option.some.injEq] at hy
  subst hy
  have h2:=h1.wsize hs.st.good hx.steps _ _ rfl
  have h3:=hx.ns
  simp only [wFL,List.length_cons,List.length_nil] at h2
  rw [IE]
  omega
def Kg (o:Option PF):Value->List Item->al->Prop:=fun q I' S'=>I'=[]/\∃ cs:List Value,q=.tuple #[.agg cs.toArray,.bool (o.elim false dl)]/\cs.length=6/\(∀ u∈cs,u.oneCell'=true)/\∀ y,o=some y->RdF S' cs y
section
attribute [local irreducible] Run CondV ag aO
set_option maxHeartbeats 4000000 in
theorem Aj {p:List C} (hp:∀ cl∈p,pU cl) (hpl:p.length<=1000000) {t:T} (ht:okU 26 t/\wT t<=1048576) (htm:okM t) {n:Nat} (hn:n<=400) {o:Option PF} (h:FindO p n (ft t) o)
  {S:al} {u:Value} {cs:List Value} (hP:RdSl S 5 (RdC S) u p) (hg:RdT S cs t):Tri Tryz.prog Ez [u,.agg cs.toArray,.int .i64 (n:Int)] [] S (Kg o):=by
 intro w hI
 have hcf:∀ cl∈p,pJ cl:=fun cl hc=>(hp cl hc).cf
 have hcl:=hg.length
 refine vZ ?_
 unfold qq
 refine bS hI fun b4 w' hI=>?_
 refine bi hI dk fun b6 w' hI=>?_
 obtain ⟨B4,hB4⟩:∃ B:Item,B=.blk b4 (.cells cs.toArray ab):=⟨_,rfl⟩
 obtain ⟨B6,hB6⟩:∃ B:Item,B=.blk b6 (.cells zP6 au):=⟨_,rfl⟩
 have e4:=congrArg some hB4
 have e6:=congrArg some hB6
 have hI:Inv w [] [B4,B6] S w':=by rw [hB4,hB6]; exact hI
 refine aL hI 0 ai e4 (by simpa using hcl) ?_
 refine dh hI bO (by simpa [Value.cells] using hcl) (by omega) (by omega) fun b w' hI=>?_
 obtain ⟨S1,hI,hE1,hb⟩:=Inv.pub1 hI
 refine Run.call0E CG BU hI (AD (ts:=[t]) (RdSl.single hb hcl (hg.mono hE1.1)) (fun u hu=>by rw [List.mem_singleton] at hu; subst hu; exact ht) (by simp)) fun v' I' S2 w'=>?_
 rintro ⟨rfl,c6,rfl,gs,sb,sc,rfl,hsg,hsb,hsc⟩ hE2 hI
 have hI:Inv w [] [B4,B6] S2 w':=hI
 have hE02:=hE1.trans hE2
 refine GZ ?_
 refine bi hI cV fun b8 w' hI=>?_
 have hI:Inv w [] [B4,B6,.blk b8 (.cells zSe aW)] S2 w':=hI
 have hs0:RdSe S2 [gs,sb,sc,.slice none 0 0,.slice none 0 0] (ft t):=⟨_,_,_,_,_,rfl,hsg,hsb,hsc,RdSl.nil0 ..,RdSl.nil0 ..⟩
 refine aG (cs:=#[gs,sb,sc,.slice none 0 0,.slice none 0 0]) hI 2 rfl bj rfl rfl (by simpa using hs0.one) fun w' hI=>?_
 have hI:Inv w [] [B4,B6,.blk b8 (.cells #[gs,sb,sc,.slice none 0 0,.slice none 0 0] aW)] S2 w':=hI
 obtain ⟨oS,hSr,hfin⟩:=h
 have hfail:∀ {S3:al} {B:List Item} {w':World},Ext w.heap.size [] S S3->o=none->Inv w [] ([B4,B6]++B) S3 w'->
   Run Tryz.prog (bD au []) w' fun v w'=>Run Tryz.prog (sOp (.store au (.const (.pointer (some ⟨b6,0,none⟩))) (.const v)) 0) w' fun _u w'=>aO Tryz.prog au (.pointer (some ⟨b6,0,none⟩)) w' fun r0=>
    ∃ v I' S',Ending.returned (Value.tuple #[r0,(Value.bool false)])=.returned v/\Inv w (bW []) I' S' w'/\Ext w.heap.size (bW []) S S'/\Kg o v I' S':=by
  intro S3 B w' hE ho hI
  refine Hb ?_
  refine aG (cs:=zP6) hI 1 e6 bA rfl rfl (by simp [Value.oneCell']) fun w' hI=>?_
  refine bE hI 1 bA rfl rfl ?_
  refine ⟨_,[],S3,rfl,hI.nil,hE,rfl,[.int .i64 0,.int .i64 0,.string ⟨#[]⟩,.slice none 0 0,.int .i64 0,.slice none 0 0],by rw [ho]; rfl,rfl,by simp [Value.oneCell'],fun y e=>by rw [ho] at e; cases e⟩
 refine ⟨fun i w'=>∃ (m k:Nat) (S3:al) (c5:List Value) (s:Se),i=.int .i64 (m:Int)/\m+k<=n/\Ext w.heap.size [] S S3/\Srch p m s oS/\jN p.length s/\okP s/\okXk k s/\RdSe S3 c5 s/\Inv w [] [B4,B6,.blk b8 (.cells c5.toArray aW)] S3 w',
  fun i _=>(intOf i).toNat,⟨n,0,S2,_,ft t,rfl,Nat.le_refl _,hE02,hSr,BB ht.1 ht.2 _,pd t,xJ htm,hs0,hI⟩,?_⟩
 intro _ _ _ _ _ _ _ _ _ _ _ _ _ _ _ t7 _ _ _ _ _ _ _ _ _ _ _ t2 _ _ _ _ _ _ _ _ _ _ _ w'
 rintro ⟨m,k,S3,c5,s,rfl,hmk,hE3,hSr,hso,hsp,hsx,hsr,hI⟩
 obtain ⟨gs,sb,sc,st,sv,rfl,hsg,hsb,hsc,hst,hsv⟩:=id hsr
 refine ⟨fun q w'=>q=.bool (decide ((m:Int) > 0) && decide ((s.st.goals.length:Int) > 0))/\Inv w [] [B4,B6,.blk b8 (.cells #[gs,sb,sc,st,sv] aW)] S3 w',?_,?_⟩
 ·refine di ?_
  cases hd:decide ((m:Int) > 0) with
  | true=>
   repeat (first|refine ad ?_|refine af (by decide) ?_|refine ae ?_|refine ak ?_|refine aj ?_)
   refine aI bR ?_
   refine aI eZ ?_
   refine aX hI 2 eG rfl rfl ?_
   refine bp hsg g6 ?_
   refine di ?_
   repeat (first|refine ad ?_|refine af (by decide) ?_|refine ae ?_|refine ak ?_|refine aj ?_)
   exact ⟨rfl,hI⟩
  | false=>
   repeat (first|refine ad ?_|refine af (by decide) ?_|refine ae ?_|refine ak ?_|refine aj ?_)
   exact ⟨rfl,hI⟩
 intro q _ _ _ _ _ _ _ _ w'
 rintro ⟨rfl,hI⟩
 obtain ⟨B8,hB8⟩:∃ B:Item,B=.blk b8 (.cells #[gs,sb,sc,st,sv] aW):=⟨_,rfl⟩
 have e8:=congrArg some hB8
 have hI:Inv w [] [B4,B6,B8] S3 w':=by rw [hB8]; exact hI
 refine aS (fun hb=>?_) (fun hb=>?_)
 ·rw [Bool.and_eq_true,decide_eq_true_eq,decide_eq_true_eq] at hb
  obtain ⟨hm0,hg0⟩:=hb
  have hne:s.st.goals≠[]:=fun e=>by rw [e] at hg0; simp at hg0
  rcases hSr.inv with ⟨h1,_⟩|⟨_,h1,_⟩|⟨_,m',s',e,rfl,hO,hrest⟩
  ·exact absurd h1 hne
  ·omega
  refine ic (by omega) ?_
  rw [show (((m'+1:Nat):Int) - 1)=(m':Int) by omega]
  refine aL hI 2 bj e8 rfl ?_
  refine Run.call0E FA DQ hI (DI hp hpl (k:=k) (by omega) hO hso hsx (hP.monoC hE3.1) hsr) fun v' I' S4 w'=>?_
  rintro ⟨rfl,ns,rfl,hns⟩ hE4 hI
  have hI:Inv w [] [B4,B6,B8] S4 w':=hI
  have hE04:=hE3.trans hE4
  have hnl:=hns.length
  have hso':=hO.ok hcf hso
  have hsp':=hO.okP hso.len hsp
  obtain ⟨hsx',hsx2⟩:=hO.okXk hp hpl hso hsx
  refine aB (v:=.agg ns.toArray) rfl ?_
  refine aB (v:=.int .i64 e) rfl ?_
  refine bi hI cV fun b9 w' hI=>?_
  have hI:Inv w [] [B4,B6,B8,.blk b9 (.cells zSe aW)] S4 w':=hI
  refine aG hI 3 rfl bj (by simpa using hnl) rfl (by simpa using hns.one) fun w' hI=>?_
  have hI:Inv w [] [B4,B6,B8,.blk b9 (.cells ns.toArray aW)] S4 w':=hI
  refine bP ?_
  refine bz (fun h0=>?_) (fun h0=>?_)
  ·rcases hrest with ⟨_,ho⟩|⟨h1,_⟩|⟨h1,_⟩
   ·refine hfail (B:=[B8,_]) hE04 ?_ hI
    rcases hfin with ⟨_,h⟩|⟨_,h,_⟩
    ·exact h
    ·rw [ho] at h; cases h
   ·omega
   ·omega
  refine ⟨fun w'=>∃ (S5:al) (n5:List Value) (s5:Se),Ext w.heap.size [] S4 S5/\Srch p m' s5 oS/\jN p.length s5/\okP s5/\okXk (k+1) s5/\RdSe S5 n5 s5/\Inv w [] [B4,B6,B8,.blk b9 (.cells n5.toArray aW)] S5 w',?_,?_⟩
  ·refine bP ?_
   refine bz (fun h2=>?_) (fun h2=>?_)
   ·rcases hrest with ⟨h1,_⟩|⟨h1,_⟩|⟨_,ob,hB,hrest⟩
    ·omega
    ·omega
    have es:=hsx2 h2
    have hsxk:okXk k s':=by rw [es]; exact hsx
    refine aL hI 3 bj rfl (by simpa using hnl) ?_
    refine Run.call0E Cg Cd hI (zy hp (k:=k) (by omega) hB (fun c hc=>⟨hso'.st.chs c hc,hsxk.chs c hc⟩) (by have:=hsxk.nc; omega) hso'.len (fun l hl=>by have:=hsxk.nv l hl; omega) (hP.monoC hE04.1) hns) fun v' I' S5 w'=>?_
    rintro ⟨rfl,n5,rfl,h5l,h5o,h5r⟩ hE5 hI
    have hI:Inv w [] [B4,B6,B8,.blk b9 (.cells ns.toArray aW)] S5 w':=hI
    refine aB (v:=.agg n5.toArray) rfl ?_
    refine aB (v:=.bool ob.isSome) rfl ?_
    refine bi hI cV fun b11 w' hI=>?_
    have hI:Inv w [] [B4,B6,B8,.blk b9 (.cells ns.toArray aW),.blk b11 (.cells zSe aW)] S5 w':=hI
    refine aG hI 4 rfl bj (by simpa using h5l) rfl (by simpa using h5o) fun w' hI=>?_
    have hI:Inv w [] [B4,B6,B8,.blk b9 (.cells ns.toArray aW),.blk b11 (.cells n5.toArray aW)] S5 w':=hI
    refine cK ?_
    rcases hrest with ⟨rfl,ho⟩|⟨s5,rfl,hS5⟩
    ·refine aS (fun _=>?_) (fun hb=>by cases hb)
     refine hfail (B:=[B8,_,_]) (hE04.trans hE5) ?_ hI
     rcases hfin with ⟨_,h⟩|⟨_,h,_⟩
     ·exact h
     ·rw [ho] at h; cases h
    ·refine aS (fun hb=>by cases hb) (fun _=>?_)
     refine aL hI 4 bj rfl (by simpa using h5l) ?_
     refine aG hI 3 rfl bj (by simpa using h5l) (by simpa using hnl) (by simpa using h5o) fun w' hI=>?_
     exact ⟨S5,n5,s5,hE5,hS5,hB.ok hcf hso'.len.symm hso'.st.chs hso'.left _ rfl,hB.okP hso'.len.symm hsp'.saved _ rfl,
      hB.okXk hp hpl hso'.len.symm (fun c hc=>⟨hso'.st.chs c hc,hsxk.chs c hc⟩) hsxk.nc hsxk.saved hsxk.nv _ rfl,h5r _ rfl,hI.pick [true,true,true,true]⟩
   ·rcases hrest with ⟨h1,_⟩|⟨_,hS5⟩|⟨h1,_⟩
    ·exact absurd h1 h0
    ·exact ⟨S4,ns,s',Ext.refl _ _ _,hS5,hso',hsp',hsx',hns,hI⟩
    ·exact absurd h1 h2
  intro _ _ _ _ _ _ _ _ _ _ _ _ _ _ _ w'
  rintro ⟨S5,n5,s5,hE5,hS5,q1,q2,q3,hr5,hI⟩
  have h5l:=hr5.length
  rw [hB8] at hI
  refine aL hI 3 bj rfl (by simpa using h5l) ?_
  refine aG hI 2 rfl bj (by simpa using h5l) rfl (by simpa using hr5.one) fun w' hI=>?_
  exact ⟨⟨m',k+1,S5,n5,s5,rfl,by omega,hE04.trans hE5,hS5,q1,q2,q3,hr5,hI.pick [true,true,true]⟩,by simp only [intOf,Int.toNat_natCast]; omega⟩
 ·refine aI bR ?_
  refine aI eZ ?_
  refine aX hI 2 eG e8 rfl ?_
  refine bp hsg g6 ?_
  refine di ?_
  refine bz (fun hg0=>?_) (fun hg0=>?_)
  ·have hne:s.st.goals≠[]:=fun e=>by rw [e] at hg0; simp at hg0
   have hm0:m=0:=by
    rw [Bool.and_eq_false_iff] at hb
    rcases hb with hb|hb
    ·have:=of_decide_eq_false hb; omega
    ·exact absurd hg0 (of_decide_eq_false hb)
   refine hfail (B:=[B8]) hE3 ?_ hI
   rcases hSr.inv with ⟨h1,_⟩|⟨_,_,h1⟩|⟨_,m',s',e,h1,_⟩
   ·exact absurd h1 hne
   ·rcases hfin with ⟨_,h⟩|⟨_,h,_⟩
    ·exact h
    ·rw [h1] at h; cases h
   ·omega
  have hnil:s.st.goals=[]:=List.eq_nil_of_length_eq_zero (by omega)
  have hoS:oS=some s:=by
   rcases hSr.inv with ⟨_,h1⟩|⟨h1,_⟩|⟨h1,_⟩
   ·exact h1
   ·exact absurd hnil h1
   ·exact absurd hnil h1
  have hF:FinO s o:=by
   rcases hfin with ⟨h,_⟩|⟨s1,h,hF⟩
   ·rw [hoS] at h; cases h
   ·rw [hoS,Option.some.injEq] at h
    rw [h]; exact hF
  have hwF:=hF.w hso hsx
  obtain ⟨ob,hBl,hF⟩:=hF
  have hsn:=hsx.ns
  refine ao hI 2 e8 eV fG rfl ?_
  refine aI bR ?_
  refine aI gW ?_
  refine aX hI 2 aJ e8 rfl ?_
  refine Run.call0E oh og hI (xc hsx.pos hso.st.good hsx.steps (by omega) _ 0 (Nat.le_refl _) ob hBl S3 st sb hst hsb) fun v' I' S4 w'=>?_
  rintro ⟨rfl,c6,a',rfl,h6l,h6o,h6r⟩ hE4 hI
  have hI:Inv w [] [B4,B6,B8] S4 w':=hI
  have hE04:=hE3.trans hE4
  refine aB (v:=.agg c6.toArray) rfl ?_
  refine aB (v:=.int .i64 (a':Int)) rfl ?_
  refine aB (v:=.bool ob.isSome) rfl ?_
  refine bi hI dk fun b13 w' hI=>?_
  have hI:Inv w [] [B4,B6,B8,.blk b13 (.cells zP6 au)] S4 w':=hI
  refine aG hI 3 rfl bA (by simpa using h6l) rfl (by simpa using h6o) fun w' hI=>?_
  have hI:Inv w [] [B4,B6,B8,.blk b13 (.cells c6.toArray au)] S4 w':=hI
  refine cK ?_
  rcases hF with ⟨rfl,rfl⟩|⟨x,l2,rfl,rfl⟩
  ·refine aS (fun _=>?_) (fun hb=>by cases hb)
   exact hfail (B:=[B8,_]) hE04 rfl hI
  refine aS (fun hb=>by cases hb) (fun _=>?_)
  obtain ⟨_,_,x',hx',hrx⟩:=h6r _ _ rfl
  simp only [List.cons.injEq,and_true] at hx'
  subst hx'
  obtain ⟨hsz,hpw⟩:=hBl.size hso.st.good hsx.steps _ _ rfl
  rw [pcL,pcL] at hsz
  rw [pwL] at hpw
  have hpc:pcT x<=1000000:=by omega
  have hwx:=hwF _ rfl
  rw [IE] at hwx
  have hwx2:wF x<=1048576:=by omega
  have hvl:=GL x []
  have hpc0:=IA x
  simp only [List.length_nil] at hvl
  obtain ⟨y,hy⟩:∃ y,y=prF (pvT x []) x:=⟨_,rfl⟩
  rw [<- hy]
  refine ⟨fun D J3 JZ Kn K4 w_=>(D 0=true->K4=.agg c6.toArray)/\(D 1=true->Kn=.agg c6.toArray)/\(D 2=true->True)/\(D 3=true->True)/\(D 4=true->True)/\∃ S5 q13,Ext w.heap.size [] S4 S5/\(D 4=true->D 0=true/\D 1=true)/\(D 2=true->RdSl S5 1 gt JZ (pvT x []))/\(D 3=true->∃ cs,J3=.agg (List.toArray cs)/\RdF S5 cs y)/\(D 4=false->q13=c6)/\(D 4=true->RdF S5 q13 y)/\Inv w [] [B4,B6,B8,.blk b13 (.cells q13.toArray au)] S5 w_,⟨ac,ac,ac,ac,ac,⟨S4,c6,Ext.refl _ _ _,ac,ac,ac,fun _=>rfl,ac,hI.draw⟩⟩,⟨?_,?_,?_,?_,?_,trivial⟩,?_⟩
  all_goals (intro D bX; intros; rename_i J3 JZ Kn K4 w_ hA_; obtain ⟨ax,ay,az,aA,aF,⟨S5,q13,hE5,k4,f2,f3,z4,f4,hI⟩⟩:=hA_)
  ·have n4:D 4=false:=Bool.eq_false_iff.2 fun h=>by rw [(k4 h).1] at bX; cases bX
   have hI2:=hI
   rw [z4 n4] at hI2
   refine aL hI2 3 bA rfl (by simpa using h6l) ?_
   have k4:ah D 0 4=true->ah D 0 0=true/\ah D 0 1=true:=fun h=>⟨rfl,(k4 h).2⟩
   exact ⟨fun _=>rfl,ay,az,aA,aF,⟨S5,q13,hE5,k4,f2,f3,z4,f4,hI⟩⟩
  ·have n4:D 4=false:=Bool.eq_false_iff.2 fun h=>by rw [(k4 h).2] at bX; cases bX
   have hI2:=hI
   rw [z4 n4] at hI2
   refine aL hI2 3 bA rfl (by simpa using h6l) ?_
   have k4:ah D 1 4=true->ah D 1 0=true/\ah D 1 1=true:=fun h=>⟨(k4 h).1,rfl⟩
   exact ⟨ax,fun _=>rfl,az,aA,aF,⟨S5,q13,hE5,k4,f2,f3,z4,f4,hI⟩⟩
  ·obtain rfl:=ay ‹_›
   have hI:=hI.rowNil eW 1
   have hI:Inv w [] ([B4,B6,B8,.blk b13 (.cells q13.toArray au)]++[ge (.slice none 0 0) []]) S5 w_:=hI
   refine Run.callE ql rB hI (zp x S5 c6 _ [] (hrx.mono hE5.1) (by simp only [List.length_nil]; omega)) fun v I' S6 w_=>?_
   rintro ⟨rfl,eS⟩ _ hI
   rw [eS] at hI
   obtain ⟨S6,hE6,hrw,hI⟩:=Inv.lendRowE hI
   have f2:ah D 2 2=true->RdSl S6 1 gt v (pvT x []):=fun _=>hrw.ints
   have f3:ah D 2 3=true->∃ cs,J3=.agg (List.toArray cs)/\RdF S6 cs y:=fun h=>(f3 h).imp fun _ h=>⟨h.1,h.2.mono hE6.1⟩
   have f4:ah D 2 4=true->RdF S6 q13 y:=fun h=>(f4 h).mono hE6.1
   obtain ⟨S5,rfl,hE5⟩:∃ S5,S5=S6/\Ext w.heap.size [] S4 S5:=⟨S6,rfl,hE5.trans hE6⟩
   exact ⟨ax,ay,fun _=>by first|assumption|trivial,aA,aF,⟨S5,q13,hE5,k4,f2,f3,z4,f4,hI⟩⟩
  ·obtain rfl:=ax ‹_›
   have NH:=az ‹_›
   refine Run.call0E na lQ hI (vI (vs:=pvT x []) (by omega) x S5 c6 _ (hrx.mono hE5.1) (f2 ‹D 2=true›) hpw.1 hwx2) fun v I' S6 w_=>?_
   rintro ⟨rfl,cs',rfl,hcs'⟩ hE6 hI
   rw [<- hy] at hcs'
   rw [List.append_nil] at hI
   have f2:ah D 3 2=true->RdSl S6 1 gt JZ (pvT x []):=fun h=>(f2 h).mono hE6.1 fun _ _ h=>h
   have f3:ah D 3 3=true->∃ cs,Value.agg cs'.toArray=.agg (List.toArray cs)/\RdF S6 cs y:=fun h=>⟨_,rfl,hcs'⟩
   have f4:ah D 3 4=true->RdF S6 q13 y:=fun h=>(f4 h).mono hE6.1
   obtain ⟨S5,rfl,hE5⟩:∃ S5,S5=S6/\Ext w.heap.size [] S4 S5:=⟨S6,rfl,hE5.trans hE6⟩
   exact ⟨ax,ay,az,fun _=>by first|assumption|trivial,aF,⟨S5,q13,hE5,k4,f2,f3,z4,f4,hI⟩⟩
  ·have Gu:=aA ‹_›
   obtain ⟨cs',rfl,hcs'⟩:=f3 ‹D 3=true›
   rw [z4 bX] at hI
   refine aG hI 3 rfl bA (by simpa using hcs'.length) (by simpa using h6l) (by simpa using hcs'.one) fun w_ hI=>?_
   have k4:ah D 4 4=true->ah D 4 0=true/\ah D 4 1=true:=fun _=>⟨by assumption,by assumption⟩
   obtain ⟨q13,hq13⟩:∃ q:List Value,q=cs':=⟨_,rfl⟩
   rw [<- hq13] at hI hcs'
   have z4:ah D 4 4=false->q13=c6:=fun h=>Bool.noConfusion h
   have f4:ah D 4 4=true->RdF S5 q13 y:=fun _=>hcs'
   exact ⟨ax,ay,az,aA,fun _=>trivial,⟨S5,q13,hE5,k4,f2,f3,z4,f4,hI⟩⟩
  have Gu:=aA ‹_›
  have NH:=az ‹_›
  obtain rfl:=ay ‹_›
  obtain rfl:=ax ‹_›
  have Oo:D 4=true:=by assumption
  clear ax ay az aA aF
  have hry:=f4 Oo
  have hyl:=hry.length
  have hwy:wF y<=1048576:=by rw [hy,IE]; exact hwx2
  rw [hB6] at hI
  have hI0:=hI
  refine ⟨fun D x7 K2 IH IB w_=>(D 0=true->IB=.agg q13.toArray)/\(D 1=true->IH=.agg q13.toArray)/\(D 2=true->K2=.bool (dl y))/\(D 3=true->True)/\(D 4=true->x7=.bool (dl y))/\Inv w [] [B4,.blk b6 (.cells (cond (D 3) q13.toArray zP6) au),B8,.blk b13 (.cells q13.toArray au)] S5 w_,⟨ac,ac,ac,ac,ac,hI.draw⟩,⟨?_,?_,?_,?_,?_,trivial⟩,?_⟩
  all_goals (intro D bX; intros; rename_i x7 K2 IH IB w_ hA_; obtain ⟨ax,ay,az,aA,aF,hI⟩:=hA_)
  ·refine aL hI 3 bA rfl (by simpa using hyl) ?_
   exact ⟨fun _=>rfl,ay,az,aA,aF,hI⟩
  ·refine aL hI 3 bA rfl (by simpa using hyl) ?_
   exact ⟨ax,fun _=>rfl,az,aA,aF,hI⟩
  ·obtain rfl:=ay ‹_›
   refine Run.callPure li lm hI (jr hry hwy) fun w_ hI=>?_
   exact ⟨ax,ay,fun _=>rfl,aA,aF,hI⟩
  ·obtain rfl:=ax ‹_›
   rw [bX] at hI
   refine aG hI 1 rfl bA (by simpa using hyl) rfl (by simpa using hry.one) fun w_ hI=>?_
   exact ⟨ax,ay,az,fun _=>trivial,aF,hI⟩
  ·obtain rfl:=az ‹_›
   exact ⟨ax,ay,az,aA,fun _=>rfl,hI⟩
  obtain rfl:=aF ‹_›
  obtain rfl:=az ‹_›
  obtain rfl:=ay ‹_›
  obtain rfl:=ax ‹_›
  have N9:D 3=true:=by assumption
  clear ax ay az aA aF
  rw [N9] at hI
  refine bE hI 1 bA rfl (by simpa using hyl) ?_
  exact ⟨_,[],S5,rfl,hI.nil,hE04.trans hE5,rfl,q13,rfl,hyl,hry.one,fun z e=>by rw [Option.some.injEq] at e; subst e; exact hry⟩
end
end Go.Proofs.YtfcbhfjomgopbaaGreat

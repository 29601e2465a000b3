/- spec.l13Back. -/
import Derived.Test.YtbocelianhcfmaaGreatDoorZEg21
import Derived.Test.YtbocelianhcfmaaGreatDoorZEg3
import Derived.Test.YtbocelianhcfmaaGreatDoorZEg16
namespace Go.Proofs.YtbocelianhcfmaaGreatDoor
section
open Go Go.RowKit
theorem BackR.inv {p:List C} {cs:List Ch} {ss:List (List Sp)} {o:Option Se} (h:BackR p cs ss o) (hne:cs≠[]):∃ cs' c ss' t o1,cs=cs'++[c]/\ss=ss'++[t]/\TakeR p ⟨⟨[],[],cs'⟩,t,ss'⟩ c o1/\
  ((∃ s,o1=some s/\o=some s) ∨ (o1=none/\BackR p cs' ss' o)):=by
 cases h with
 | nil=>exact absurd rfl hne
 | hit h=>exact ⟨_,_,_,_,_,rfl,rfl,h,.inl ⟨_,rfl,rfl⟩⟩
 | miss h h2=>exact ⟨_,_,_,_,_,rfl,rfl,h,.inr ⟨rfl,h2⟩⟩
theorem BackR.none {p:List C} {cs:List Ch} {ss:List (List Sp)} {o:Option Se} (h:BackR p cs ss o) (he:cs=[]):o=Option.none:=by
 cases h with
 | nil=>rfl
 | hit h=>simp at he
 | miss h h2=>simp at he
def Pe (b:Nat) (w:World):Nat:=
 match w.heap[b]? with
 | some (Obj.cells c _ _)=>(match c[2]? with
  | some (Value.slice _ n _)=>n
  | _=>0)
 | _=>0
theorem JN {w0 w:World} {X:List Nat} {L:List Item} {S:ae} {c:Array Value} {a:Option Addr} {n m b i:Nat} {E:TypeId} (hI:Inv w0 X L S w) (hi:L[i]?=some (.blk b (.cells c E))) (hc:c[2]?=some (.slice a n m)):Pe b w=n:=by
 have hb:w.heap[b]?=_:=hI.its _ (List.mem_of_getElem? hi)
 unfold Pe
 rw [hb]
 simp only [hc]
def Py (o:Option Se):Value->List Item->ae->Prop:=fun q I' S'=>I'=[]/\∃ cs:List Value,q=.tuple #[.agg cs.toArray,.bool o.isSome]/\cs.length=5/\(∀ u∈cs,u.oneCell'=true)/\∀ t,o=some t->RdSe S' cs t
section
attribute [local irreducible] Run CondV ar aI
set_option maxHeartbeats 2000000 in
theorem AN {p:List C} (hp:∀ cl∈p,sV cl) {k:Nat} (hk:k<=1000) {s:Se} {o:Option Se} (h:BackR p s.st.chs s.saved o) (hcs:∀ c∈s.st.chs,iZ c/\okRk k c) (hn:s.st.chs.length<=1000) (hn3:s.saved.length=s.st.chs.length) (hv:∀ l∈s.saved,l.length<=1000)
  {S:ae} {u:Value} {ss:List Value} (hP:RdSl S 5 (RdC S) u p) (hs:RdSe S ss s):Tri Tryz.prog Fq [u,.agg ss.toArray] [] S (Py o):=by
 intro w hI
 refine r9.2 ?_
 dsimp only[r9,aY]
 refine be hI fun b3 w' hI=>?_
 refine aA hI cU fun b4 w' hI=>?_
 obtain ⟨B4,hB4⟩:∃ B:Item,B=.blk b4 (.cells zSe az):=⟨_,rfl⟩
 have e4:=congrArg some hB4
 have hI:Inv w [] [.blk b3 (.cells ss.toArray az),B4] S w':=by rw [hB4]; exact hI
 refine ⟨fun w'=>∃ (S1:ae) (cs:List Value) (s:Se),Ext w.heap.size [] S S1/\RdSe S1 cs s/\BackR p s.st.chs s.saved o/\(∀ c∈s.st.chs,iZ c/\okRk k c)/\s.st.chs.length<=1000/\s.saved.length=s.st.chs.length/\(∀ l∈s.saved,l.length<=1000)/\
  Inv w [] [.blk b3 (.cells cs.toArray az),B4] S1 w',Pe b3,⟨S,ss,s,Ext.refl _ _ _,hs,h,hcs,hn,hn3,hv,hI⟩,?_⟩
 clear hs h hcs hn hn3 hv hI
 intro _ _ _ _ _ _ _ _ _ _ _ _ _ t8 t42 t41 t40 t39 t38 t37 t36 t35 t34 t33 t32 t31 t30 t29 t28 t27 _ _ _ _ _ _ _ _ _ _ _ _ _ _ _ _ _ _ w'
 rintro ⟨S1,cs,s,hE,hs,h,hcs,hn,hn3,hv,hI⟩
 obtain ⟨gs,sb,sc,st,sv,rfl,hsg,hsb,hsc,hst,hsv⟩:=id hs
 obtain ⟨sca,scc,rfl,_⟩:=id hsc
 obtain ⟨sva,svc,rfl,_⟩:=id hsv
 have hme:=JN hI (i:=0) (n:=s.st.chs.length) rfl rfl
 obtain ⟨B3,hB3⟩:∃ B:Item,B=.blk b3 (.cells #[gs,sb,.slice sca s.st.chs.length scc,st,.slice sva s.saved.length svc] az):=⟨_,rfl⟩
 have e3:=congrArg some hB3
 have hI:Inv w [] [B3,B4] S1 w':=by rw [hB3]; exact hI
 refine ao bp ?_
 refine ao cJ ?_
 refine ax hI 0 cH e3 rfl ?_
 refine dL fB ?_
 refine cY ?_
 refine aN (fun hpo=>?_) (fun hpo=>?_)
 ·have hne:s.st.chs≠[]:=fun e=>by rw [e] at hpo; simp at hpo
  obtain ⟨cs',c,ss',t,o1,ec,es,hT,hcase⟩:=h.inv hne
  have hlc:s.st.chs.length=cs'.length+1:=by rw [ec]; simp
  have hls:s.saved.length=ss'.length+1:=by rw [es]; simp
  have hl2:ss'.length=cs'.length:=by omega
  refine ao bp ?_
  refine ao cJ ?_
  refine ax hI 0 cH e3 rfl ?_
  refine dL fB ?_
  refine gy (by omega) ?_
  rw [show ((s.st.chs.length:Int) - 1)=(cs'.length:Int) by omega]
  refine ao bp ?_
  refine ao cJ ?_
  refine ax hI 0 cH e3 rfl ?_
  have hci:cs'.length<s.st.chs.length:=by omega
  refine bP hI hsc fB cK hci (fun _ _=>RdCh.length) fun ds hds=>?_
  have hgc:s.st.chs[cs'.length]=c:=by
   have:∀ (l:List Ch) (h:cs'.length<l.length),l=cs'++[c]->l[cs'.length]=c:=by
    intro l h e
    subst e
    rw [List.getElem_append_right (Nat.le_refl _)]
    simp
   exact this _ _ ec
  rw [hgc] at hds
  have hmc:c∈s.st.chs:=by rw [ec]; simp
  refine aA hI i7 fun b7 w' hI=>?_
  have hI:Inv w [] [B3,B4,.blk b7 (.cells zCh bM)] S1 w':=hI
  have hdl:=hds.length
  refine aj hI 2 rfl cK (by simpa using hdl) rfl (by simpa using hds.one) fun w' hI=>?_
  obtain ⟨B7,hB7⟩:∃ B:Item,B=.blk b7 (.cells ds.toArray bM):=⟨_,rfl⟩
  have e7:=congrArg some hB7
  have hI:Inv w [] [B3,B4,B7] S1 w':=by rw [hB7]; exact hI
  obtain ⟨lb,lo,lc2,lcs,lE,lfz,hlv,hlS,hlR⟩:=hsv.at_ (show cs'.length<s.saved.length by omega)
  have hla:sva=some ⟨lb,lo,none⟩:=by
   simp only [Value.slice.injEq] at hlv
   exact hlv.1
  have hgt:s.saved[cs'.length]'(by omega)=t:=by
   have:∀ (l:List (List Sp)) (h:cs'.length<l.length),l=ss'++[t]->l[cs'.length]=t:=by
    intro l h e
    subst e
    rw [List.getElem_append_right (by omega)]
    simp [hl2]
   exact this _ _ es
  rw [hgt] at hlR
  obtain ⟨tv,hce,htv⟩:=hlR
  obtain ⟨tva,tvc,rfl,_⟩:=id htv
  have hcell:lcs[lo+cs'.length * 1]?=some (.slice tva t.length tvc):=aD hce 0 _ rfl
  have hix:∀ {ty:TypeId} {K:Value->World->Prop} {w':World},K (.pointer (some ⟨lb,lo+cs'.length * 1,none⟩)) w'->Run Tryz.prog (sOp (.indexAddr DI (.const (.slice sva s.saved.length svc)) (.const (.int .i64 (cs'.length:Int)))) ty) w' K:=
   fun hk=>by rw [hla]; exact ay pN (by omega) hk
  have htc:∀ v,RdSl S1 7 (RdCh S1) v (s.st.chs.take cs'.length)->RdSl S1 7 (RdCh S1) v cs':=by
   intro v h
   rw [ec,List.take_left' rfl] at h
   exact h
  have hts:∀ v,RdSl S1 1 (RdVS S1) v (s.saved.take cs'.length)->RdSl S1 1 (RdVS S1) v ss':=by
   intro v h
   rw [es,List.take_left' hl2] at h
   exact h
  refine ⟨fun D x8 jb iD lX gD fN kJ gU iI nC jT mP iM ia iF fC kl w_=>Fx D 0 [kl=.pointer (some ⟨b3,0,none⟩),fC=.pointer (some ⟨b3,2,none⟩),iF=.slice sca s.st.chs.length scc,ia=.int .i64 (cs'.length:Int),RdSl S1 7 (RdCh S1) iM cs',∃ cc,mP=.agg #[.slice none 0 0,.slice none 0 0,cc]/\RdSl S1 7 (RdCh S1) cc cs',jT=.pointer (some ⟨b3,4,none⟩),nC=.slice sva s.saved.length svc,iI=.int .i64 (cs'.length:Int),gU=.pointer (some ⟨lb,lo+cs'.length * 1,none⟩),kJ=.slice tva t.length tvc,fN=.pointer (some ⟨b3,4,none⟩),gD=.slice sva s.saved.length svc,lX=.int .i64 (cs'.length:Int),RdSl S1 1 (RdVS S1) iD ss',∃ cc ll,jb=.agg #[.slice none 0 0,.slice none 0 0,cc,.slice tva t.length tvc,ll]/\RdSl S1 7 (RdCh S1) cc cs'/\RdSl S1 1 (RdVS S1) ll ss',True,True]/\nwP w [] [B3,B4,B7] az zSe (fun _ q=>∃ cc ll,q=#[.slice none 0 0,.slice none 0 0,cc,.slice tva t.length tvc,ll]/\RdSl S1 7 (RdCh S1) cc cs'/\RdSl S1 1 (RdVS S1) ll ss') (D 16) (D 17) x8 S1 w_,⟨Fx.nil _ _,nwP.mk hI.draw _⟩,⟨?_,?_,?_,?_,?_,?_,?_,?_,?_,?_,?_,?_,?_,?_,?_,?_,?_,?_,trivial⟩,?_⟩
  all_goals (intro D bw; intros; rename_i x8 jb iD lX gD fN kJ gU iI nC jT mP iM ia iF fC kl w_ hA_; have hF_:=hA_.1; obtain ⟨⟨bQ,bS,bU,bR,bY,bZ,bO,cG,cS,cT,bL,co,cO,dJ,dT,dY,ew,dK,_⟩,hN⟩:=hA_)
  ·refine ao bp ?_
   exact ⟨hF_.set 0 rfl,hN⟩
  ·obtain rfl:=bQ ‹_›
   refine ao cJ ?_
   exact ⟨hF_.set 1 rfl,hN⟩
  ·obtain rfl:=bS ‹_›
   obtain ⟨R,hI⟩:=hN.inv; refine ax hI 0 cH e3 rfl ?_
   exact ⟨hF_.set 2 rfl,hN⟩
  ·exact ⟨hF_.set 3 rfl,hN⟩
  ·obtain rfl:=bU ‹_›
   obtain rfl:=bR ‹_›
   refine Bp fB hsc (by omega) fun v' hv'=>?_
   have hv':=htc _ hv'
   exact ⟨hF_.set 4 (by first|assumption|trivial),hN⟩
  ·have Oi:=bY ‹_›
   obtain ⟨ca,cc,rfl,_⟩:=id Oi
   refine GW ?_
   have hq:∃ cc',Value.agg #[.slice none 0 0,.slice none 0 0,.slice ca cs'.length cc]=.agg #[.slice none 0 0,.slice none 0 0,cc']/\RdSl S1 7 (RdCh S1) cc' cs':=⟨_,rfl,Oi⟩
   exact ⟨hF_.set 5 (by first|assumption|trivial),hN⟩
  ·refine ao eM ?_
   exact ⟨hF_.set 6 rfl,hN⟩
  ·obtain rfl:=bO ‹_›
   obtain ⟨R,hI⟩:=hN.inv; refine ax hI 0 fE e3 rfl ?_
   exact ⟨hF_.set 7 rfl,hN⟩
  ·exact ⟨hF_.set 8 rfl,hN⟩
  ·obtain rfl:=cG ‹_›
   obtain rfl:=cS ‹_›
   refine hix ?_
   exact ⟨hF_.set 9 rfl,hN⟩
  ·obtain rfl:=cT ‹_›
   obtain ⟨R,hI⟩:=hN.inv; refine dd fp ((hI.cellS hlS).trans hcell) ?_
   exact ⟨hF_.set 10 rfl,hN⟩
  ·refine ao eM ?_
   exact ⟨hF_.set 11 rfl,hN⟩
  ·obtain rfl:=co ‹_›
   obtain ⟨R,hI⟩:=hN.inv; refine ax hI 0 fE e3 rfl ?_
   exact ⟨hF_.set 12 rfl,hN⟩
  ·exact ⟨hF_.set 13 rfl,hN⟩
  ·obtain rfl:=cO ‹_›
   obtain rfl:=dJ ‹_›
   refine Bp pN hsv (by omega) fun v' hv'=>?_
   have hv':=hts _ hv'
   exact ⟨hF_.set 14 (by first|assumption|trivial),hN⟩
  ·have Kz:=bZ ‹_›
   obtain rfl:=bL ‹_›
   have LF:=dT ‹_›
   obtain ⟨cc,rfl,hcc⟩:=Kz
   obtain ⟨la,lc,rfl,_⟩:=id LF
   refine BA ?_
   have hq:∃ cc' ll',Value.agg #[.slice none 0 0,.slice none 0 0,cc,.slice tva t.length tvc,.slice la ss'.length lc]=.agg #[.slice none 0 0,.slice none 0 0,cc',.slice tva t.length tvc,ll']/\RdSl S1 7 (RdCh S1) cc' cs'/\RdSl S1 1 (RdVS S1) ll' ss':=⟨_,_,rfl,hcc,LF⟩
   exact ⟨hF_.set 15 (by first|assumption|trivial),hN⟩
  ·refine nwP.alloc hN bw cU rfl fun v w_ hN=>?_
   exact ⟨hF_.set 16 (by first|assumption|trivial),hN⟩
  ·have Ol:=ew ‹_›
   have KI:=dY ‹_›
   obtain ⟨cc,ll,rfl,hcc,hll⟩:=KI
   refine nwP.store hN ‹D 16=true› bw aJ rfl rfl (Mh rfl rfl hcc.sl rfl hll.sl) ⟨cc,ll,rfl,hcc,hll⟩ fun w_ hN=>?_
   exact ⟨hF_.set 17 trivial,hN⟩
  obtain ⟨rfl,rfl,rfl,rfl,Oi,Kz,rfl,rfl,rfl,rfl,rfl,rfl,rfl,rfl,LF,KI,Ol,_,_⟩:=hF_.all
  have QJ:D 16=true:=by assumption
  have QV:D 17=true:=by assumption
  clear hF_ bQ bS bU bR bY bZ bO cG cS cT bL co cO dJ dT dY ew dK
  rw [QJ,QV] at hN
  obtain ⟨b8,q8,rfl,⟨cc,ll,rfl,hcc,hll⟩,hI⟩:=hN.fin
  obtain ⟨B8,hB8⟩:∃ B:Item,B=.blk b8 (.cells #[.slice none 0 0,.slice none 0 0,cc,.slice tva t.length tvc,ll] az):=⟨_,rfl⟩
  have e8:=congrArg some hB8
  have hI:Inv w [] [B3,B4,B7,B8] S1 w_:=by rw [hB8]; exact hI
  have hy:RdSe S1 [.slice none 0 0,.slice none 0 0,cc,.slice tva t.length tvc,ll] ⟨⟨[],[],cs'⟩,t,ss'⟩:=⟨_,_,_,_,_,rfl,RdSl.nil0 ..,RdSl.nil0 ..,hcc,htv,hll⟩
  refine ag hI 3 aJ e8 rfl ?_
  refine ag hI 2 cK e7 (by simpa using hdl) ?_
  refine Run.call0E tJ ub hI (qy hp hk (hcs c hmc).1 (hcs c hmc).2 hT (by simp only; omega) (hv t (by rw [es]; simp)) (by simp only; omega) (hP.monoC hE.1) hy hds) fun v' I' S2 w'=>?_
  rintro ⟨rfl,ns,rfl,hns⟩ hE2 hI
  have hI:Inv w [] [B3,B4,B7,B8] S2 w':=hI
  have hnl:=hns.length
  refine ai (v:=.agg ns.toArray) rfl ?_
  refine ai (v:=.bool o1.isSome) rfl ?_
  refine aA hI cU fun b9 w' hI=>?_
  have hI:Inv w [] [B3,B4,B7,B8,.blk b9 (.cells zSe az)] S2 w':=hI
  refine aj hI 4 rfl aJ (by simpa using hnl) rfl (by simpa using hns.one) fun w' hI=>?_
  have hI:Inv w [] [B3,B4,B7,B8,.blk b9 (.cells ns.toArray az)] S2 w':=hI
  rcases hcase with ⟨s1,rfl,rfl⟩|⟨rfl,hB⟩
  ·refine av (fun _=>?_) (fun hb=>by cases hb)
   refine ag hI 4 aJ rfl (by simpa using hnl) ?_
   refine aj hI 1 e4 aJ (by simpa using hnl) rfl (by simpa using hns.one) fun w' hI=>?_
   refine aS hI 1 aJ rfl (by simpa using hnl) ?_
   exact ⟨_,[],S2,rfl,hI.nil,hE.trans hE2,rfl,ns,rfl,hnl,hns.one,fun t e=>by rw [Option.some.injEq] at e; subst e; exact hns⟩
  ·refine av (fun hb=>by cases hb) (fun _=>?_)
   refine ag hI 3 aJ e8 rfl ?_
   refine aj hI 0 e3 aJ rfl rfl (by simpa using hy.one) fun w' hI=>?_
   have hI:Inv w [] [.blk b3 (.cells #[.slice none 0 0,.slice none 0 0,cc,.slice tva t.length tvc,ll] az),B4,B7,B8,.blk b9 (.cells ns.toArray az)] S2 w':=hI
   obtain ⟨ca,cm,rfl,_⟩:=id hcc
   have hme2:=JN hI (i:=0) (n:=cs'.length) rfl rfl
   refine ⟨⟨S2,_,⟨⟨[],[],cs'⟩,t,ss'⟩,hE.trans hE2,hy.mono hE2.1,hB,fun d hd=>hcs d (by rw [ec]; exact List.mem_append_left _ hd),by simp only; omega,hl2,fun l hl=>hv l (by rw [es]; exact List.mem_append_left _ hl),hI.pick [true,true]⟩,?_⟩
   rw [hme2,hme]
   omega
 ·have hnil:s.st.chs=[]:=List.eq_nil_of_length_eq_zero (by omega)
  have ho:=h.none hnil
  subst ho
  refine ag hI 0 aJ e3 rfl ?_
  refine aj hI 1 e4 aJ rfl rfl (by simpa using hs.one) fun w' hI=>?_
  refine aS hI 1 aJ rfl rfl ?_
  exact ⟨_,[],S1,rfl,hI.nil,hE,rfl,_,rfl,hs.length,hs.one,fun t e=>by cases e⟩
end
end
section
open Go Go.RowKit
theorem Inv.lendRowE {w0 w:World} {X:List Nat} {A:List Item} {S:ae} {v:Value} {e:TypeId} {k n:Nat} {xs:List Value} (h:Inv w0 X (A++[.row v e k n xs]) S w) :
  ∃ S',Ext w0.heap.size X S S'/\RowRd S' v e k n xs/\Inv w0 X A S' w:=by
 obtain ⟨hl,ho⟩:=h.openRow
 rcases ho with ⟨rfl,h0⟩|⟨g,cap,cur,rfl,hnc,hcm,hcs,ht,hI⟩
 ·exact ⟨S,Ext.refl _ _ _,⟨hl,.inl ⟨rfl,h0⟩⟩,h.sub (List.sublist_append_left _ _)⟩
 ·obtain ⟨S',h1,h2,h3⟩:=Inv.pub1 (A:=A) hI
  exact ⟨S',h2,⟨hl,.inr ⟨g,cap,cur,rfl,h3,hnc,hcm,hcs,ht⟩⟩,h1⟩
theorem OneR.inv {p:List C} {s s':Se} {e:Int} (h:OneR p s s' e):∃ g rest u,s.st.goals=g::rest/\Res s.st.binds (.one g.1 u)/\
  (((ch u=false ∨ kO u=true)/\s=s'/\e=0) ∨ (ch u=true/\kO u=false/\
   ((dw u=false/\∃ o,TakeR p s ⟨u,rest,x0 p u,s.st.binds⟩ o/\((o=some s'/\e=-1) ∨ (o=none/\s=s'/\e=-2))) ∨
       (dw u=true/\∃ c st,Blt s.st.binds u c st/\((c=1/\s=s'/\e=-2) ∨ (c≠0/\c≠1/\s=s'/\e=0) ∨ (c=0/\s'=⟨⟨rest,st,s.st.chs⟩,s.steps++[⟨u,-1,0⟩],s.saved⟩/\e=-1)))))):=by
 cases h with
 | big h1 h2 h3=>exact ⟨_,_,_,h1,h2,.inl ⟨h3,rfl,rfl⟩⟩
 | took h1 h2 h3 h4 h5 h6=>exact ⟨_,_,_,h1,h2,.inr ⟨h3,h4,.inl ⟨h5,_,h6,.inl ⟨rfl,rfl⟩⟩⟩⟩
 | stuck h1 h2 h3 h4 h5 h6=>exact ⟨_,_,_,h1,h2,.inr ⟨h3,h4,.inl ⟨h5,_,h6,.inr ⟨rfl,rfl,rfl⟩⟩⟩⟩
 | fail h1 h2 h3 h4 h5 h6=>exact ⟨_,_,_,h1,h2,.inr ⟨h3,h4,.inr ⟨h5,_,_,h6,.inl ⟨rfl,rfl,rfl⟩⟩⟩⟩
 | err h1 h2 h3 h4 h5 h6 h7 h8=>exact ⟨_,_,_,h1,h2,.inr ⟨h3,h4,.inr ⟨h5,_,_,h6,.inr (.inl ⟨h7,h8,rfl,rfl⟩)⟩⟩⟩
 | solved h1 h2 h3 h4 h5 h6=>exact ⟨_,_,_,h1,h2,.inr ⟨h3,h4,.inr ⟨h5,_,_,h6,.inr (.inr ⟨rfl,rfl,rfl⟩)⟩⟩⟩
def Pz (s':Se) (e:Int):Value->List Item->ae->Prop:=fun q I' S'=>I'=[]/\∃ cs:List Value,q=.tuple #[.agg cs.toArray,.int .i64 e]/\RdSe S' cs s'
def PTk (s:Se) (o:Option Se) (S:ae) (v:Value):Prop:=∃ cs:List Value,v=.tuple #[.agg cs.toArray,.bool o.isSome]/\RdSe S cs (o.getD s)
theorem PTk.mono {s:Se} {o:Option Se} {S S':ae} {v:Value} (h:PTk s o S v) (hs:Sle S S'):PTk s o S' v:=by
 obtain ⟨cs,e,h⟩:=h
 exact ⟨cs,e,h.mono hs⟩
def IsSe (s:Se) (S:ae) (v:Value):Prop:=∃ cs:List Value,v=.agg cs.toArray/\RdSe S cs s
theorem IsSe.mono {s:Se} {S S':ae} {v:Value} (h:IsSe s S v) (hs:Sle S S'):IsSe s S' v:=by
 obtain ⟨cs,e,h⟩:=h
 exact ⟨cs,e,h.mono hs⟩
def IsCh (c:Ch) (S:ae) (v:Value):Prop:=∃ cs:List Value,v=.agg cs.toArray/\RdCh S cs c
theorem IsCh.mono {c:Ch} {S S':ae} {v:Value} (h:IsCh c S v) (hs:Sle S S'):IsCh c S' v:=by
 obtain ⟨cs,e,h⟩:=h
 exact ⟨cs,e,h.mono hs⟩
abbrev zT4:Array Value:=#[.int .i64 0,.int .i64 0,.string ⟨#[]⟩,.slice none 0 0]
abbrev zG5:Array Value:=#[.int .i64 0,.int .i64 0,.string ⟨#[]⟩,.slice none 0 0,.int .i64 0]
section
attribute [local irreducible] Run CondV ar aI
set_option maxHeartbeats 4000000 in
theorem Dx {p:List C} (hp:∀ cl∈p,sV cl) (hpl:p.length<=1000000) {k:Nat} (hk:k<=900) {s s':Se} {e:Int} (h:OneR p s s' e) (hso:kT p.length s) (hx:okXk k s)
  {S:ae} {u:Value} {ss:List Value} (hP:RdSl S 5 (RdC S) u p) (hs:RdSe S ss s):Tri Tryz.prog Ia [u,.agg ss.toArray] [] S (Pz s' e):=by
 intro w hI
 obtain ⟨g,rest,t,hgr,hres,hcase⟩:=h.inv
 obtain ⟨gs,sb,sc,st,sv,rfl,hsg,hsb,hsc,hst,hsv⟩:=id hs
 have hgo:=hso.st.goals
 have hgm:=hx.goals
 have hng:=hx.ng
 rw [hgr] at hsg hgo hgm hng
 obtain ⟨sga,sgc,rfl,_⟩:=id hsg
 obtain ⟨sba,sbc,rfl,_⟩:=id hsb
 obtain ⟨sca,scc,rfl,_⟩:=id hsc
 obtain ⟨sta,stc,rfl,_⟩:=id hst
 obtain ⟨sva,svc,rfl,_⟩:=id hsv
 have hnb:=hx.nb
 have hnc:=hx.nc
 have hns0:=hx.ns
 have hpos:=hx.pos
 have hgood:=hso.st.good
 have hg1:=hgo g (List.mem_cons_self ..)
 have htU:=jX hgood hres hg1.1
 have htM:okM t:=Res.okM hx.tab hres (hgm g (List.mem_cons_self ..))
 refine wl.2 ?_
 dsimp only[wl,aY]
 refine be hI fun b3 w' hI=>?_
 refine aA hI cU fun b4 w' hI=>?_
 obtain ⟨B3,hB3⟩:∃ B:Item,B=.blk b3 (.cells #[.slice sga (g::rest).length sgc,.slice sba s.st.binds.length sbc,.slice sca s.st.chs.length scc,.slice sta s.steps.length stc,.slice sva s.saved.length svc] az):=⟨_,rfl⟩
 obtain ⟨B4,hB4⟩:∃ B:Item,B=.blk b4 (.cells zSe az):=⟨_,rfl⟩
 have e3:=congrArg some hB3
 have e4:=congrArg some hB4
 have hI:Inv w [] [B3,B4] S w':=by rw [hB3,hB4]; exact hI
 have hret:∀ {S1:ae} {B:List Item} {w':World} {K:Value->World->Prop},Inv w [] ([B3,B4]++B) S1 w'->(∀ w',Inv w [] ([B3,.blk b4 (.cells #[.slice sga (g::rest).length sgc,.slice sba s.st.binds.length sbc,.slice sca s.st.chs.length scc,.slice sta s.steps.length stc,.slice sva s.saved.length svc] az)]++B) S1 w'->K undef w')->
   Run Tryz.prog (sOp (.load az (.const (.pointer (some ⟨b3,0,none⟩)))) az) w' fun v w'=>Run Tryz.prog (sOp (.store az (.const (.pointer (some ⟨b4,0,none⟩))) (.const v)) 0) w' K:=by
  intro S1 B w' K hI hk
  refine ag hI 0 aJ e3 rfl ?_
  exact aj hI 1 e4 aJ rfl rfl (Mh rfl rfl rfl rfl rfl) fun w' hI=>hk w' hI
 have hsame:∀ {S1:ae},Sle S S1->RdSe S1 [.slice sga (g::rest).length sgc,.slice sba s.st.binds.length sbc,.slice sca s.st.chs.length scc,.slice sta s.steps.length stc,.slice sva s.saved.length svc] s:=fun hle=>hs.mono hle
 refine ao bp ?_
 refine ao eR ?_
 refine ax hI 0 ez e3 rfl ?_
 refine bP (i:=0) hI hsg iz y0 (by simp) (fun _ _=>RdG.length) fun gds hgd=>?_
 have hgd:RdG S gds g:=hgd
 refine aA hI HV fun b6 w' hI=>?_
 have hI:Inv w [] [B3,B4,.blk b6 (.cells zG5 g7)] S w':=hI
 refine aj hI 2 rfl y0 (by simpa using hgd.length) rfl (by simpa using hgd.one) fun w' hI=>?_
 obtain ⟨ghd,rfl,hgt⟩:=id hgd
 have hgt0:=hgt
 obtain ⟨gkv,rfl,_⟩:=RdT.iff.1 hgt
 have hI:Inv w [] [B3,B4,.blk b6 (.cells #[.int .i64 g.1.kind,.int .i64 g.1.n,.string g.1.name,gkv,.int .i64 g.2] g7)] S w':=hI
 refine ao DY ?_
 refine b0 hI 2 [.int .i64 g.1.kind,.int .i64 g.1.n,.string g.1.name,gkv] ac rfl rfl MA ?_
 refine ao bp ?_
 refine ao ib ?_
 refine ax hI 0 al e3 rfl ?_
 refine Run.call0E sy tg hI (GF hpos hgood hres hg1 hgt0 hsb) fun v' I' S1 w'=>?_
 rintro ⟨rfl,ts,hl4,ho4,rfl,hrd⟩ hE hI
 have hI:Inv w [] [B3,B4,.blk b6 (.cells #[.int .i64 g.1.kind,.int .i64 g.1.n,.string g.1.name,gkv,.int .i64 g.2] g7)] S1 w':=hI
 refine ai (v:=.agg ts.toArray) rfl ?_
 refine ai (v:=.bool (ch t)) rfl ?_
 refine aA hI aU fun b7 w' hI=>?_
 have hI:Inv w [] [B3,B4,.blk b6 (.cells #[.int .i64 g.1.kind,.int .i64 g.1.n,.string g.1.name,gkv,.int .i64 g.2] g7),.blk b7 (.cells zT4 ab)] S1 w':=hI
 refine aj hI 3 rfl ac (by simpa using hl4) rfl (by simpa using ho4) fun w' hI=>?_
 obtain ⟨B7,hB7⟩:∃ B:Item,B=.blk b7 (.cells ts.toArray ab):=⟨_,rfl⟩
 have e7:=congrArg some hB7
 have hI:Inv w [] [B3,B4,B7] S1 w':=by rw [hB7]; exact hI.pick [true,true,false,true]
 refine ⟨fun q w'=>q=.bool (!ch t || kO t)/\Inv w [] [B3,B4,B7] S1 w',?_,?_⟩
 ·refine bW ?_
  cases hsm:ch t with
  | false=>
   refine rpG ?_
   exact ⟨rfl,hI⟩
  | true=>
   refine rpG ?_
   refine ag hI 2 ac e7 (by simpa using hl4) ?_
   refine Run.callPure yM yT hI (wg (hrd hsm)) fun w' hI=>?_
   refine rpG ?_
   exact ⟨rfl,hI⟩
 intro q _ _ _ _ _ w'
 rintro ⟨rfl,hI⟩
 rcases hcase with ⟨hbad,rfl,rfl⟩|⟨hsm,hcu,hcase⟩
 ·have hq:(!ch t || kO t)=true:=by rcases hbad with h|h <;> rw [h] <;> simp
  refine av (fun _=>?_) (fun hb=>by rw [hq] at hb; cases hb)
  refine hret (B:=[B7]) hI fun w' hI=>?_
  refine aS hI 1 aJ rfl rfl ?_
  exact ⟨_,[],S1,rfl,hI.nil,hE,rfl,_,rfl,hsame hE.1⟩
 have hq:(!ch t || kO t)=false:=by rw [hsm,hcu]; rfl
 refine av (fun hb=>by rw [hq] at hb; cases hb) (fun _=>?_)
 have htr:=hrd hsm
 have htr0:=htr
 have hIk:=hI
 obtain ⟨tkv,rfl,_,_,_,htk⟩:=RdT.iff.1 htr
 have hI:=hIk
 have hw:=j5 hsm htU
 have e7:some B7=some (.blk b7 (.cells #[.int .i64 t.kind,.int .i64 t.n,.string t.name,tkv] ab)):=e7
 refine ad hI 2 e7 aH aC rfl ?_
 refine ad hI 2 e7 ak al rfl ?_
 refine aK htk ah ?_
 refine Run.callPure jp jz hI (gV _ _ S1) fun w' hI=>?_
 rw [NA htM]
 refine bW ?_
 rcases hcase with ⟨hbt,o,hT,hcase⟩|⟨hbt,c,st',hB,hcase⟩
 ·rw [hbt]
  refine av (fun _=>?_) (fun hb=>by cases hb)
  obtain ⟨c,hce⟩:∃ c:Ch,c=⟨t,rest,x0 p t,s.st.binds⟩:=⟨_,rfl⟩
  rw [<- hce] at hT
  have hc:iZ c:=by
   rw [hce]
   exact ⟨hgood,⟨htU,by simp only; omega⟩,fun x hx=>hgo x (List.mem_cons_of_mem _ hx)⟩
  have hr:okRk k c:=by
   rw [hce]
   simp only [List.length_cons] at hng
   exact ⟨hnb,by simp only; omega,hx.tab,htM,fun x hx=>hgm x (List.mem_cons_of_mem _ hx),hpos⟩
  have hPE:=hP.monoC hE.1
  refine ⟨fun D OB x9 wH ta iD uy u4 tC pu kq rq rP sg pK lW nU mf kB iE jb w_=>Fx D 0 [jb=u,iE=.agg #[.slice sga (g::rest).length sgc,.slice sba s.st.binds.length sbc,.slice sca s.st.chs.length scc,.slice sta s.steps.length stc,.slice sva s.saved.length svc],kB=.agg #[.int .i64 t.kind,.int .i64 t.n,.string t.name,tkv],mf=.pointer (some ⟨b3,0,none⟩),nU=.pointer (some ⟨b3,0,none⟩),lW=.slice sga (g::rest).length sgc,RdSl S 5 (RdG S) pK rest,sg=u,rP=.agg #[.int .i64 t.kind,.int .i64 t.n,.string t.name,tkv],True,kq=.pointer (some ⟨b3,0,none⟩),pu=.pointer (some ⟨b3,1,none⟩),tC=.slice sba s.st.binds.length sbc,True,True,True,True,wH=.bool o.isSome,True,True,OB=.bool o.isSome]/\∃ S2,Ext w.heap.size [] S1 S2/\(D 9=true->RdSl S2 1 gz rq (x0 p t))/\(D 13=true->IsCh c S2 u4)/\(D 14=true->PTk s o S2 uy)/\(D 15=true->PTk s o S2 iD)/\(D 16=true->IsSe (o.getD s) S2 ta)/\nwP w [] [B3,B4,B7] az zSe (fun S q=>IsSe (o.getD s) S (.agg q)) (D 18) (D 19) x9 S2 w_,⟨Fx.nil _ _,⟨S1,Ext.refl _ _ _,aT,aT,aT,aT,aT,nwP.mk hI.draw _⟩⟩,⟨?_,?_,?_,?_,?_,?_,?_,?_,?_,?_,?_,?_,?_,?_,?_,?_,?_,?_,?_,?_,?_,trivial⟩,?_⟩
  all_goals (intro D bw; intros; rename_i OB x9 wH ta iD uy u4 tC pu kq rq rP sg pK lW nU mf kB iE jb w_ hA_; have hF_:=hA_.1; obtain ⟨⟨bQ,bS,bU,bR,bY,bZ,bO,cG,cS,cT,bL,co,cO,dJ,dT,dY,ew,dK,fy,dV,eL,_⟩,⟨S2,hE2,f9,f13,f14,f15,f16,hN⟩⟩:=hA_)
  ·exact ⟨hF_.set 0 rfl,⟨S2,hE2,f9,f13,f14,f15,f16,hN⟩⟩
  ·obtain ⟨R,hI⟩:=hN.inv; refine ag hI 0 aJ e3 rfl ?_
   exact ⟨hF_.set 1 rfl,⟨S2,hE2,f9,f13,f14,f15,f16,hN⟩⟩
  ·obtain ⟨R,hI⟩:=hN.inv; refine ag hI 2 ac e7 rfl ?_
   exact ⟨hF_.set 2 rfl,⟨S2,hE2,f9,f13,f14,f15,f16,hN⟩⟩
  ·refine ao bp ?_
   exact ⟨hF_.set 3 rfl,⟨S2,hE2,f9,f13,f14,f15,f16,hN⟩⟩
  ·obtain rfl:=bR ‹_›
   refine ao eR ?_
   exact ⟨hF_.set 4 rfl,⟨S2,hE2,f9,f13,f14,f15,f16,hN⟩⟩
  ·obtain rfl:=bY ‹_›
   obtain ⟨R,hI⟩:=hN.inv; refine ax hI 0 ez e3 rfl ?_
   exact ⟨hF_.set 5 rfl,⟨S2,hE2,f9,f13,f14,f15,f16,hN⟩⟩
  ·obtain rfl:=bZ ‹_›
   refine io (l:=1) iz hsg (by simp) fun v' hv'=>?_
   have hv':RdSl S 5 (RdG S) v' rest:=hv'
   exact ⟨hF_.set 6 (by first|assumption|trivial),⟨S2,hE2,f9,f13,f14,f15,f16,hN⟩⟩
  ·exact ⟨hF_.set 7 rfl,⟨S2,hE2,f9,f13,f14,f15,f16,hN⟩⟩
  ·obtain ⟨R,hI⟩:=hN.inv; refine ag hI 2 ac e7 rfl ?_
   exact ⟨hF_.set 8 rfl,⟨S2,hE2,f9,f13,f14,f15,f16,hN⟩⟩
  ·obtain rfl:=cG ‹_›
   obtain rfl:=cS ‹_›
   obtain ⟨R,hI,hback⟩:=nwP.ex (Q:=fun S q=>IsSe (o.getD s) S (.agg q)) (fun _ _ _ hs h=>IsSe.mono h hs) hN
   refine Run.call0E II Ht hI (Fc (hPE.monoC hE2.1) (htr0.mono hE2.1) (by omega)) fun v I' S3 w_=>?_
   rintro ⟨rfl,eS⟩ _ hI
   rw [eS] at hI
   obtain ⟨S3,hE3,hrw,hI⟩:=Inv.lendRowE hI
   have hN:=hback S3 _ hE3.1 hI
   have f9:aB D 9 9=true->RdSl S3 1 gz v (x0 p t):=fun _=>hrw.ints
   have f13:aB D 9 13=true->IsCh c S3 u4:=fun h=>(f13 h).mono hE3.1
   have f14:aB D 9 14=true->PTk s o S3 uy:=fun h=>(f14 h).mono hE3.1
   have f15:aB D 9 15=true->PTk s o S3 iD:=fun h=>(f15 h).mono hE3.1
   have f16:aB D 9 16=true->IsSe (o.getD s) S3 ta:=fun h=>(f16 h).mono hE3.1
   obtain ⟨S2,rfl,hE2⟩:∃ S2,S2=S3/\Ext w.heap.size [] S1 S2:=⟨S3,rfl,hE2.trans hE3⟩
   exact ⟨hF_.set 9 (by first|assumption|trivial),⟨S2,hE2,f9,f13,f14,f15,f16,hN⟩⟩
  ·refine ao bp ?_
   exact ⟨hF_.set 10 rfl,⟨S2,hE2,f9,f13,f14,f15,f16,hN⟩⟩
  ·obtain rfl:=bL ‹_›
   refine ao ib ?_
   exact ⟨hF_.set 11 rfl,⟨S2,hE2,f9,f13,f14,f15,f16,hN⟩⟩
  ·obtain rfl:=co ‹_›
   obtain ⟨R,hI⟩:=hN.inv; refine ax hI 0 al e3 rfl ?_
   exact ⟨hF_.set 12 rfl,⟨S2,hE2,f9,f13,f14,f15,f16,hN⟩⟩
  ·obtain rfl:=bU ‹_›
   have JZ:=bO ‹_›
   have GP:=cT ‹_›
   obtain rfl:=cO ‹_›
   have hf9:=f9 ‹D 9=true›
   obtain ⟨fa,fc,rfl,_⟩:=id hf9
   obtain ⟨qa,qc,rfl,_⟩:=id JZ
   refine Cm ?_
   have f13:aB D 13 13=true->IsCh c S2 (.agg #[.int .i64 t.kind,.int .i64 t.n,.string t.name,tkv,.slice qa rest.length qc,.slice fa (x0 p t).length fc,.slice sba s.st.binds.length sbc]):=fun _=>by
    rw [hce]
    exact ⟨[.int .i64 t.kind,.int .i64 t.n,.string t.name,tkv,.slice qa rest.length qc,.slice fa (x0 p t).length fc,.slice sba s.st.binds.length sbc],rfl,_,_,_,_,rfl,htr0.mono hE2.1,JZ.monoG (hE.trans hE2).1,hf9,hsb.monoO (hE.trans hE2).1⟩
   exact ⟨hF_.set 13 (by first|assumption|trivial),⟨S2,hE2,f9,f13,f14,f15,f16,hN⟩⟩
  ·obtain rfl:=bQ ‹_›
   obtain rfl:=bS ‹_›
   have Pf:=dJ ‹_›
   obtain ⟨cs7,rfl,hch⟩:=f13 ‹D 13=true›
   obtain ⟨R,hI,hback⟩:=nwP.ex (Q:=fun S q=>IsSe (o.getD s) S (.agg q)) (fun _ _ _ hs h=>IsSe.mono h hs) hN
   refine Run.call0E tJ ub hI (qy hp (by omega) hc hr hT (by omega) (by omega) (by rw [hso.len]; omega) (hPE.monoC hE2.1) (hsame (hE.trans hE2).1) hch) fun v I' S3 w_=>?_
   rintro ⟨rfl,hg⟩ hE3 hI
   rw [List.append_nil] at hI
   have hN:=hback S3 _ hE3.1 hI
   have f9:aB D 14 9=true->RdSl S3 1 gz rq (x0 p t):=fun h=>(f9 h).mono hE3.1 fun _ _ h=>h
   have f13:aB D 14 13=true->IsCh c S3 (.agg cs7.toArray):=fun h=>(f13 h).mono hE3.1
   have f14:aB D 14 14=true->PTk s o S3 v:=fun _=>hg
   have f15:aB D 14 15=true->PTk s o S3 iD:=fun h=>(f15 h).mono hE3.1
   have f16:aB D 14 16=true->IsSe (o.getD s) S3 ta:=fun h=>(f16 h).mono hE3.1
   obtain ⟨S2,rfl,hE2⟩:∃ S2,S2=S3/\Ext w.heap.size [] S1 S2:=⟨S3,rfl,hE2.trans hE3⟩
   exact ⟨hF_.set 14 (by first|assumption|trivial),⟨S2,hE2,f9,f13,f14,f15,f16,hN⟩⟩
  ·have LF:=dT ‹_›
   have f15:aB D 15 15=true->PTk s o S2 uy:=fun _=>f14 ‹D 14=true›
   exact ⟨hF_.set 15 (by first|assumption|trivial),⟨S2,hE2,f9,f13,f14,f15,f16,hN⟩⟩
  ·have KI:=dY ‹_›
   obtain ⟨ns,rfl,hns⟩:=f15 ‹D 15=true›
   refine ai (v:=.agg ns.toArray) rfl ?_
   have f16:aB D 16 16=true->IsSe (o.getD s) S2 (.agg ns.toArray):=fun _=>⟨ns,rfl,hns⟩
   exact ⟨hF_.set 16 (by first|assumption|trivial),⟨S2,hE2,f9,f13,f14,f15,f16,hN⟩⟩
  ·have KI:=dY ‹_›
   obtain ⟨ns,rfl,hns⟩:=f15 ‹D 15=true›
   refine ai (v:=.bool o.isSome) rfl ?_
   exact ⟨hF_.set 17 rfl,⟨S2,hE2,f9,f13,f14,f15,f16,hN⟩⟩
  ·refine nwP.alloc hN bw cU rfl fun v w_ hN=>?_
   exact ⟨hF_.set 18 (by first|assumption|trivial),⟨S2,hE2,f9,f13,f14,f15,f16,hN⟩⟩
  ·have QQ:=fy ‹_›
   have Ol:=ew ‹_›
   obtain ⟨ns,rfl,hns⟩:=f16 ‹D 16=true›
   refine nwP.store hN ‹D 18=true› bw aJ (by simpa using hns.length) rfl (by simpa using hns.one) ⟨ns,rfl,hns⟩ fun w_ hN=>?_
   exact ⟨hF_.set 19 trivial,⟨S2,hE2,f9,f13,f14,f15,f16,hN⟩⟩
  ·obtain rfl:=dK ‹_›
   exact ⟨hF_.set 20 rfl,⟨S2,hE2,f9,f13,f14,f15,f16,hN⟩⟩
  obtain ⟨rfl,rfl,rfl,rfl,rfl,rfl,JZ,rfl,rfl,GP,rfl,rfl,rfl,Pf,LF,KI,Ol,rfl,QQ,_,rfl,_⟩:=hF_.all
  have QP:D 18=true:=by assumption
  have QL:D 19=true:=by assumption
  clear hF_ bQ bS bU bR bY bZ bO cG cS cT bL co cO dJ dT dY ew dK fy dV eL
  rw [QP,QL] at hN
  obtain ⟨b9,q9,rfl,⟨ns,hq9,hns⟩,hI⟩:=hN.fin
  obtain rfl:=Value.agg.inj hq9
  have hnl:=hns.length
  rcases hcase with ⟨rfl,rfl⟩|⟨rfl,rfl,rfl⟩
  ·refine av (fun _=>?_) (fun hb=>by cases hb)
   refine ag hI 3 aJ rfl (by simpa using hnl) ?_
   refine aj hI 1 e4 aJ (by simpa using hnl) rfl (by simpa using hns.one) fun w' hI=>?_
   refine aS hI 1 aJ rfl (by simpa using hnl) ?_
   exact ⟨_,[],S2,rfl,hI.nil,hE.trans hE2,rfl,ns,rfl,hns⟩
  ·refine av (fun hb=>by cases hb) (fun _=>?_)
   refine hret (B:=[B7,_]) hI fun w' hI=>?_
   refine aS hI 1 aJ rfl rfl ?_
   exact ⟨_,[],S2,rfl,hI.nil,hE.trans hE2,rfl,_,rfl,hsame (hE.trans hE2).1⟩
 ·rw [hbt]
  refine av (fun hb=>by cases hb) (fun _=>?_)
  have hsb1:=hsb.monoO hE.1
  refine dG hI bj fun v0 w' hI=>?_
  have hI:Inv w [] [B3,B4,B7,aP v0 ab 4 []] S1 w':=hI
  refine ao bp ?_
  refine ao ib ?_
  refine ax hI 0 al e3 rfl ?_
  refine dI (css:=[]) hI 3 bj (by omega) rfl hsb1 (fun _ _=>RdO.length) (fun _ _=>RdO.one) (by simp; omega) (by omega) fun v w' css hR hI=>?_
  have hI:Inv w [] ([B3,B4,B7]++[aP v ab 4 css]) S1 w':=hI
  obtain ⟨kb,cap,cur,rfl,q1,q2,hkn,hI⟩:=Inv.tab hI hR hpos
  refine ag hI 2 ac e7 rfl ?_
  refine Run.callE D2 DK hI (xA (kp:=cap) (by omega) hpos q1 q2 hgood ⟨htU,by omega⟩ htM.okN hbt hB htr0 hkn) fun v' I' S' w'=>?_
  rintro ⟨eS,rfl,kc,rfl,hkn⟩ _ hI
  rw [eS] at hI
  have hgd:=hB.good hgood hbt ⟨htU,by omega⟩
  have hgl:=hgd.len
  refine bh ?_
  refine aN (fun hc1=>?_) (fun hc1=>?_)
  ·rcases hcase with ⟨_,rfl,rfl⟩|⟨_,h1,_⟩|⟨h0,_⟩
   ·refine hret (B:=[B7,_]) hI fun w' hI=>?_
    refine aS hI 1 aJ rfl rfl ?_
    exact ⟨_,[],S1,rfl,hI.nil,hE,rfl,_,rfl,hsame hE.1⟩
   ·exact absurd hc1 h1
   ·omega
  refine dt ?_
  refine av (fun hc0=>?_) (fun hc0=>?_)
  ·rcases hcase with ⟨h1,_⟩|⟨_,_,rfl,rfl⟩|⟨h0,_⟩
   ·exact absurd h1 hc1
   ·refine hret (B:=[B7,_]) hI fun w' hI=>?_
    refine aS hI 1 aJ rfl rfl ?_
    exact ⟨_,[],S1,rfl,hI.nil,hE,rfl,_,rfl,hsame hE.1⟩
   ·exact absurd h0 (by simpa using hc0)
  rcases hcase with ⟨h1,_⟩|⟨h0,_⟩|⟨_,rfl,rfl⟩
  ·exact absurd h1 hc1
  ·exact absurd h0 (by simpa using hc0)
  obtain ⟨S3,hI,hE3,hgS⟩:=Inv.pub1 hI
  have hE03:=hE.trans hE3
  have htb:RdSl S3 4 (RdO S3) (kvU kb s.st.binds.length cap) st':=by
   have:=(hkn.rd (cap:=cap) hgS (by rw [hgl]; exact q1) q2).mono (Sle.refl _) fun _ _ h=>RdO.mono hE3.1 h
   rw [hgl] at this
   exact this
  have hI:Inv w [] [.blk b3 (.cells #[.slice sga (g::rest).length sgc,.slice sba s.st.binds.length sbc,.slice sca s.st.chs.length scc,.slice sta s.steps.length stc,.slice sva s.saved.length svc] az),B4,B7] S3 w':=by rw [<- hB3]; exact hI
  refine ⟨fun D Jf K1 Ox Oz MT Oo Om Lt JR JG w_=>Fx D 0 [JG=.pointer (some ⟨b3,0,none⟩),JR=.pointer (some ⟨b3,0,none⟩),Lt=.slice sga (g::rest).length sgc,RdSl S 5 (RdG S) Om rest,Oo=kvU kb s.st.binds.length cap,MT=.pointer (some ⟨b3,0,none⟩),Oz=.pointer (some ⟨b3,2,none⟩),Ox=.slice sca s.st.chs.length scc,∃ ga gc,K1=.agg #[.slice ga rest.length gc,kvU kb s.st.binds.length cap,.slice sca s.st.chs.length scc]/\RdSl S 5 (RdG S) (.slice ga rest.length gc) rest,Jf=.pointer (some ⟨b3,0,none⟩),True]/\∃ q3,(D 10=true->D 2=true/\D 7=true)/\(D 10=false->q3=#[.slice sga (g::rest).length sgc,.slice sba s.st.binds.length sbc,.slice sca s.st.chs.length scc,.slice sta s.steps.length stc,.slice sva s.saved.length svc])/\(D 10=true->∃ gv,q3=#[gv,kvU kb s.st.binds.length cap,.slice sca s.st.chs.length scc,.slice sta s.steps.length stc,.slice sva s.saved.length svc]/\RdSl S 5 (RdG S) gv rest)/\Inv w [] [.blk b3 (.cells q3 az),B4,B7] S3 w_,⟨Fx.nil _ _,⟨_,aT,fun _=>rfl,aT,hI.draw⟩⟩,⟨?_,?_,?_,?_,?_,?_,?_,?_,?_,?_,?_,trivial⟩,?_⟩
  all_goals (intro D bw; intros; rename_i Jf K1 Ox Oz MT Oo Om Lt JR JG w_ hA_; have hF_:=hA_.1; obtain ⟨⟨bQ,bS,bU,bR,bY,bZ,bO,cG,cS,cT,bL,_⟩,⟨q3,k10,z10,f10,hI⟩⟩:=hA_)
  ·refine ao bp ?_
   exact ⟨hF_.set 0 rfl,⟨q3,k10,z10,f10,hI⟩⟩
  ·obtain rfl:=bQ ‹_›
   refine ao eR ?_
   exact ⟨hF_.set 1 rfl,⟨q3,k10,z10,f10,hI⟩⟩
  ·obtain rfl:=bS ‹_›
   have n10:D 10=false:=Bool.eq_false_iff.2 fun h=>by rw [(k10 h).1] at bw; cases bw
   have hI2:=hI
   rw [z10 n10] at hI2
   refine ax hI2 0 ez rfl rfl ?_
   have k10:aB D 2 10=true->aB D 2 2=true/\aB D 2 7=true:=fun h=>⟨rfl,(k10 h).2⟩
   exact ⟨hF_.set 2 rfl,⟨q3,k10,z10,f10,hI⟩⟩
  ·obtain rfl:=bU ‹_›
   refine io (l:=1) iz hsg (by simp) fun v' hv'=>?_
   have hv':RdSl S 5 (RdG S) v' rest:=hv'
   exact ⟨hF_.set 3 (by first|assumption|trivial),⟨q3,k10,z10,f10,hI⟩⟩
  ·exact ⟨hF_.set 4 rfl,⟨q3,k10,z10,f10,hI⟩⟩
  ·refine ao bp ?_
   exact ⟨hF_.set 5 rfl,⟨q3,k10,z10,f10,hI⟩⟩
  ·obtain rfl:=bZ ‹_›
   refine ao cJ ?_
   exact ⟨hF_.set 6 rfl,⟨q3,k10,z10,f10,hI⟩⟩
  ·obtain rfl:=bO ‹_›
   have n10:D 10=false:=Bool.eq_false_iff.2 fun h=>by rw [(k10 h).2] at bw; cases bw
   have hI2:=hI
   rw [z10 n10] at hI2
   refine ax hI2 0 cH rfl rfl ?_
   have k10:aB D 7 10=true->aB D 7 2=true/\aB D 7 7=true:=fun h=>⟨(k10 h).1,rfl⟩
   exact ⟨hF_.set 7 rfl,⟨q3,k10,z10,f10,hI⟩⟩
  ·have HG:=bR ‹_›
   obtain rfl:=bY ‹_›
   obtain rfl:=cG ‹_›
   obtain ⟨ga,gc,rfl,_⟩:=id HG
   refine Hf ?_
   have hq:∃ ga' gc',Value.agg #[.slice ga rest.length gc,kvU kb s.st.binds.length cap,.slice sca s.st.chs.length scc]=.agg #[.slice ga' rest.length gc',kvU kb s.st.binds.length cap,.slice sca s.st.chs.length scc]/\RdSl S 5 (RdG S) (.slice ga' rest.length gc') rest:=⟨ga,gc,rfl,HG⟩
   exact ⟨hF_.set 8 (by first|assumption|trivial),⟨q3,k10,z10,f10,hI⟩⟩
  ·refine ao bp ?_
   exact ⟨hF_.set 9 rfl,⟨q3,k10,z10,f10,hI⟩⟩
  ·obtain rfl:=cT ‹_›
   have Bo:=cS ‹_›
   obtain ⟨ga,gc,rfl,hgv⟩:=Bo
   rw [z10 bw] at hI
   refine s7 hI 0 rfl bC rfl rfl (by simp [Value.cells,Value.oneCell']) fun w_ hI=>?_
   have hI:Inv w [] [.blk b3 (.cells #[.slice ga rest.length gc,kvU kb s.st.binds.length cap,.slice sca s.st.chs.length scc,.slice sta s.steps.length stc,.slice sva s.saved.length svc] az),B4,B7] S3 w_:=hI
   have k10:aB D 10 10=true->aB D 10 2=true/\aB D 10 7=true:=fun _=>⟨by assumption,by assumption⟩
   obtain ⟨q3,hq3⟩:∃ q3,q3=#[.slice ga rest.length gc,kvU kb s.st.binds.length cap,.slice sca s.st.chs.length scc,.slice sta s.steps.length stc,.slice sva s.saved.length svc]:=⟨_,rfl⟩
   rw [<- hq3] at hI
   have z10:aB D 10 10=false->q3=#[.slice sga (g::rest).length sgc,.slice sba s.st.binds.length sbc,.slice sca s.st.chs.length scc,.slice sta s.steps.length stc,.slice sva s.saved.length svc]:=fun h=>Bool.noConfusion h
   have f10:aB D 10 10=true->∃ gv,q3=#[gv,kvU kb s.st.binds.length cap,.slice sca s.st.chs.length scc,.slice sta s.steps.length stc,.slice sva s.saved.length svc]/\RdSl S 5 (RdG S) gv rest:=fun _=>⟨_,hq3,hgv⟩
   exact ⟨hF_.set 10 trivial,⟨q3,k10,z10,f10,hI⟩⟩
  obtain ⟨rfl,rfl,rfl,HG,rfl,rfl,rfl,rfl,Bo,rfl,_,_⟩:=hF_.all
  have Ac:D 10=true:=by assumption
  clear hF_ bQ bS bU bR bY bZ bO cG cS cT bL
  obtain ⟨gv,rfl,hgv⟩:=f10 Ac
  obtain ⟨sp,hsp⟩:∃ sp:Sp,sp=⟨t,-1,0⟩:=⟨_,rfl⟩
  have hspr:RdSp S3 [.int .i64 t.kind,.int .i64 t.n,.string t.name,tkv,.int .i64 (-1),.int .i64 0] sp:=by
   rw [hsp]
   exact ⟨_,rfl,htr0.mono hE3.1⟩
  have hst3:=hst.monoSp hE03.1
  have hI:Inv w [] ([B4,B7]++[.blk b3 (.cells #[gv,kvU kb s.st.binds.length cap,.slice sca s.st.chs.length scc,.slice sta s.steps.length stc,.slice sva s.saved.length svc] az)]) S3 w_:=hI.perm (by
   refine List.Perm.symm (List.Perm.trans (List.Perm.swap _ _ _) ?_)
   exact (List.Perm.swap _ _ _).cons _)
  refine ⟨fun D OA Oe M1 JH Jr Ja EE Io GQ w_=>Fx D 0 [True,Io=.pointer (some ⟨b3,3,none⟩),EE=.slice sta s.steps.length stc,True,Jr=.agg #[.int .i64 t.kind,.int .i64 t.n,.string t.name,tkv],JH=.agg #[.int .i64 t.kind,.int .i64 t.n,.string t.name,tkv,.int .i64 (-1),.int .i64 0],True,True,OA=.pointer (some ⟨b3,3,none⟩),True]/\∃ n_:Nat,n_<=3/\D 0=decide (1<=n_)/\D 3=decide (2<=n_)/\D 7=decide (3<=n_)/\((D 9=true->D 2=true)/\apP w [] (fun cv=>[B4,B7]++[.blk b3 (.cells #[gv,kvU kb s.st.binds.length cap,.slice sca s.st.chs.length scc,cv,.slice sva s.saved.length svc] az)]) (.slice sta s.steps.length stc) fO 6 RdSp s.steps sp S3 (D 6) (D 9) GQ Ja M1 Oe w_ n_),⟨Fx.nil _ _,⟨0,Nat.zero_le _,rfl,rfl,rfl,(aT),apP.mk hI.draw _ _ _ _⟩⟩,⟨?_,?_,?_,?_,?_,?_,?_,?_,?_,?_,trivial⟩,?_⟩
  all_goals (intro D bw; intros; rename_i OA Oe M1 JH Jr Ja EE Io GQ w_ hA_; have hF_:=hA_.1; obtain ⟨⟨bQ,bS,bU,bR,bY,bZ,bO,cG,cS,cT,_⟩,⟨n_,ln_,e1_,e2_,e3_,hS⟩⟩:=hA_)
  ·obtain rfl:n_=0:=xr e1_ bw
   obtain ⟨k9,hS⟩:=hS; refine NZ hS dR fun v w_ hS=>?_
   exact ⟨hF_.set 0 (by first|assumption|trivial),⟨1,by decide,rfl,(by first|exact e2_|rfl),(by first|exact e3_|rfl),k9,hS⟩⟩
  ·refine ao eO ?_
   exact ⟨hF_.set 1 rfl,⟨n_,ln_,e1_,e2_,e3_,hS⟩⟩
  ·obtain rfl:=bS ‹_›
   obtain ⟨k9,hS⟩:=hS
   have n9:D 9=false:=Bool.eq_false_iff.2 fun h=>by rw [k9 h] at bw; cases bw
   obtain ⟨S5,R,hE5,hI⟩:=hS.inv0 n9
   refine ax hI 2 fp rfl rfl ?_
   have hS:=And.intro (fun (_:aB D 2 9=true)=>(rfl:aB D 2 2=true)) hS
   exact ⟨hF_.set 2 rfl,⟨n_,ln_,e1_,e2_,e3_,hS⟩⟩
  ·have QA:=bQ ‹_›
   obtain rfl:=bU ‹_›
   obtain rfl:n_=1:=fZ e1_ ‹D 0=true› e2_ bw
   obtain ⟨k9,hS⟩:=hS; refine MU spM hS dR (by omega) hst3 spL spO (by omega) (by omega) fun v w_ hS=>?_
   exact ⟨hF_.set 3 (by first|assumption|trivial),⟨2,by decide,(by first|exact e1_|rfl),rfl,(by first|exact e3_|rfl),k9,hS⟩⟩
  ·obtain ⟨k9,hS1⟩:=hS; obtain ⟨S5,cv,R,hE5,hI⟩:=hS1.inv; refine ag hI 1 ac e7 rfl ?_
   have hS:=And.intro k9 hS1
   exact ⟨hF_.set 4 rfl,⟨n_,ln_,e1_,e2_,e3_,hS⟩⟩
  ·obtain rfl:=bY ‹_›
   refine HM ?_
   exact ⟨hF_.set 5 rfl,⟨n_,ln_,e1_,e2_,e3_,hS⟩⟩
  ·obtain rfl:=bZ ‹_›
   obtain ⟨k9,hS⟩:=hS; refine Nj spM hS dR (by omega) (by omega) rfl hspr spL fun v w_ hS=>?_
   have hS:=And.intro k9 hS
   exact ⟨hF_.set 6 (by first|assumption|trivial),⟨n_,ln_,e1_,e2_,e3_,hS⟩⟩
  ·have HG:=bR ‹_›
   have JZ:=bO ‹_›
   obtain rfl:n_=2:=fZ e2_ ‹D 3=true› e3_ bw
   obtain ⟨k9,hS⟩:=hS; refine N9 spM hS ‹D 6=true› dR (by omega) spL spO (by omega) (by omega) fun v w_ hS=>?_
   exact ⟨hF_.set 7 (by first|assumption|trivial),⟨3,by decide,(by first|exact e1_|rfl),(by first|exact e2_|rfl),rfl,k9,hS⟩⟩
  ·refine ao eO ?_
   exact ⟨hF_.set 8 rfl,⟨n_,ln_,e1_,e2_,e3_,hS⟩⟩
  ·obtain rfl:=cS ‹_›
   have GO:=cG ‹_›
   have hn3:=lU ln_ e3_ ‹D 7=true›
   obtain ⟨k9,hS3⟩:=hS
   rw [hn3] at hS3
   rw [bw] at hS3
   refine ND (C:=fun cv=>#[gv,kvU kb s.st.binds.length cap,.slice sca s.st.chs.length scc,cv,.slice sva s.saved.length svc]) (fun _=>rfl) hS3 fp (fun _ _=>rfl) (fun _=>show 3<5 by decide) fun w_ hS4=>?_
   have hS:(aB D 9 9=true->aB D 9 2=true)/\apP w [] (fun cv=>[B4,B7]++[.blk b3 (.cells #[gv,kvU kb s.st.binds.length cap,.slice sca s.st.chs.length scc,cv,.slice sva s.saved.length svc] az)]) (.slice sta s.steps.length stc) fO 6 RdSp s.steps sp S3 (aB D 9 6) (aB D 9 9) GQ Ja M1 Oe w_ n_:=⟨fun _=>by assumption,by rw [hn3]; exact hS4⟩
   exact ⟨hF_.set 9 trivial,⟨n_,ln_,e1_,e2_,e3_,hS⟩⟩
  obtain rfl:n_=3:=lU ln_ e3_ ‹D 7=true›
  have Fk:D 9=true:=by assumption
  clear e1_ e2_ e3_
  obtain ⟨_,hS⟩:=hS
  rw [Fk] at hS
  obtain ⟨S5,cv,hE5,hcv,hI⟩:=hS.fin
  have hE05:=hE03.trans hE5
  have hfin:RdSe S5 [gv,kvU kb s.st.binds.length cap,.slice sca s.st.chs.length scc,cv,.slice sva s.saved.length svc] ⟨⟨rest,st',s.st.chs⟩,s.steps++[⟨t,-1,0⟩],s.saved⟩:=
   ⟨_,_,_,_,_,rfl,hgv.monoG hE05.1,htb.monoO hE5.1,hsc.monoCh hE05.1,by rw [hsp] at hcv; exact hcv,hsv.monoVS hE05.1⟩
  refine ag hI 2 aJ rfl rfl ?_
  refine aj hI 0 e4 aJ rfl rfl (by simpa using hfin.one) fun w' hI=>?_
  refine aS hI 0 aJ rfl rfl ?_
  exact ⟨_,[],S5,rfl,hI.nil,hE05,rfl,_,rfl,hfin⟩
end
end
end Go.Proofs.YtbocelianhcfmaaGreatDoor

/- spec.l13Mutate, DrawProofValid, DrawCheckProof, DrawProofSize, DrawUsedClauses. -/
import Derived.Test.YtbocelianhcfmaaGreatDoorZEg24
import Derived.Test.YtbocelianhcfmaaGreatDoorZEg14
namespace Go.Proofs.YtbocelianhcfmaaGreatDoor
section
open Go Go.RowKit
theorem Mv {p W wk:Nat} (hwf:W<=110000) (hp:p+700 * (W+1)<=390000000) (h:1+wk<=W):wk<=110000/\p+1+700 * (wk+1)<=390000000/\p+1+700 * (wk+1)<=p+700 * (W+1):=by
 have h1:700 * (wk+1+1)<=700 * (W+1):=Nat.mul_le_mul_left 700 (by omega)
 rw [Nat.mul_add 700 (wk+1) 1] at h1
 generalize 700 * (wk+1)=a at h1 ⊢
 generalize 700 * (W+1)=b at h1 hp ⊢
 refine ⟨by omega,by omega,by omega⟩
theorem MR:∀ (ks:List PF) (y:PF) (h:0<ks.length),wFL (ks.set 0 y)+wF ks[0]=wFL ks+wF y
 | k::ks,y,_=>by simp only [List.set_cons_zero,wFL,List.getElem_cons_zero]; omega
theorem KC:∀ (ks:List PF),wFL (ks.drop 1)<=wFL ks
 | []=>Nat.le_refl _
 | k::ks=>by simp only [List.drop_succ_cons,List.drop_zero,wFL]; omega
theorem Ji:∀ (a b:List PF),wFL (a++b)=wFL a+wFL b
 | [],b=>by simp [wFL]
 | x::a,b=>by rw [List.cons_append,wFL,wFL,Ji a b]; omega
def muC (w0:World) (X:List Nat) (b5:Nat) (F:Value->Array Value) (B:List Item) (kv:Value) (css:List (List Value)) (t:T) (y:PF) (S:ae) (iI gU kJ fN:Value) (w:World):Nat->Prop
 | 0=>rnC w0 X b5 F B kv css y S gU kJ fN w 0
 | 1=>∃ S1 a1 a2 a3 a4,iI=.agg #[a1,a2,a3,a4]/\Ext w0.heap.size X S S1/\RdT S1 [a1,a2,a3,a4] t/\Inv w0 X (B++[.blk b5 (.cells (F kv) af),aP kv af 6 css]) S1 w
 | n+2=>rnC w0 X b5 F B kv css y S gU kJ fN w (n+1)
theorem muC.low {w0 w:World} {X:List Nat} {b5:Nat} {F:Value->Array Value} {B:List Item} {kv:Value} {css:List (List Value)} {t:T} {y:PF} {S:ae} {iI gU kJ fN:Value}:∀ {n:Nat},muC w0 X b5 F B kv css t y S iI gU kJ fN w n->n<5->∃ R S1,Inv w0 X (B++.blk b5 (.cells (F kv) af)::R) S1 w
 | 0,h,_=>⟨_,_,h⟩
 | 1,⟨S1,_,_,_,_,_,_,_,h⟩,_=>⟨_,S1,h⟩
 | n+2,h,hn=>rnC.low (n:=n+1) h (by omega)
theorem RdSl.put0 {S S1:ae} {g cap:Nat} {cur:Array Value} {E:TypeId} {fz:Nat × Nat} {css:List (List Value)} {ks:List PF} {cs:List Value} {y:PF} (hR:Rows 6 (RdF S) css ks) (ht:cur.toList.take (css.length * 6)=css.flatten) (hc:css.length<=cap) (hcm:cap<=maxLen) (hs:cur.size=cap * 6)
  (hle:Sle S S1) (hg:S1 g=some (.cells (bk cur 0 cs) E fz)) (hcs:RdF S1 cs y) (h0:0<ks.length):RdSl S1 6 (RdF S1) (.slice (some ⟨g,0,none⟩) ks.length cap) (ks.set 0 y):=by
 have hcy:=hR.hc
 have hlc:=hcs.length
 have hsz:6<=cur.size:=by rw [hs]; omega
 refine ⟨_,cap,by rw [List.length_set],by rw [List.length_set]; omega,hcm,.inr ⟨g,0,_,E,fz,rfl,hg,fun i hi=>?_⟩⟩
 rw [List.length_set] at hi
 rw [Nat.zero_add]
 by_cases e:i=0
 ·subst e
  rw [List.getElem_set_self]
  have:=ft (c:=cur) (o:=0) (vs:=cs) (by omega)
  rw [hlc] at this
  rw [Nat.zero_mul,this]
  exact hcs
 ·rw [List.getElem_set_ne (by omega),gq (by omega) (by omega)]
  have hfa:=fP 6 css i hR.hk (by omega)
  rw [<- ht,List.drop_take,List.take_take,Nat.min_eq_left (by omega)] at hfa
  rw [aL,hfa]
  exact (hR.hR i (by omega) (by omega)).mono hle
section
variable {br:Nat} {sl:Value} {ys:List Nat}
attribute [local irreducible] Run CondV ar aI
abbrev Me (br:Nat) (sl:Value) (p k m:Nat):Value->List Item->ae->Prop:=fun v I' S'=>∃ p',p'<=p+k/\I'=[rdI br sl p']/\∃ cs y,v=.agg cs.toArray/\RdF S' cs y/\wF y<=m
set_option maxHeartbeats 4000000 in
theorem iK:∀ (x:PF) (p:Nat) (S:ae) (cs:List Value),RdSl S 1 jd sl ys->RdF S cs x->wF x<=110000->p+700 * (wF x+1)<=390000000->Tri Tryz.prog pT [rdP br,.agg cs.toArray] [rdI br sl p] S (Me br sl p (700 * (wF x+1)) (wF x+1000)):=by
 refine PF.ind fun g c ks ih p S cs hrd h hwf hp=>?_
 intro w hI
 obtain ⟨gkv,kp,rfl,hg,hci,hks⟩:=RdF.iff.1 h
 simp only [PF.goal,PF.clause,PF.kids] at hg hci hks ⊢
 obtain ⟨W,hW⟩:∃ W,W=wF (.mk g c ks):=⟨_,rfl⟩
 rw [<- hW] at hwf hp ⊢
 have harith:∀ wk,1+wk<=W->wk<=110000/\p+1+700 * (wk+1)<=390000000/\p+1+700 * (wk+1)<=p+700 * (W+1):=fun wk h=>Mv hwf hp h
 rw [wF] at hW
 obtain ⟨ka,kc,rfl,_⟩:=id hks
 refine oe.2 ?_
 dsimp only[oe,aY]
 refine be hI fun b3 w' hI=>?_
 refine aA hI bV fun b4 w' hI=>?_
 obtain ⟨B3,hB3⟩:∃ B:Item,B=.blk b3 (.cells #[.int .i64 g.kind,.int .i64 g.n,.string g.name,gkv,.int .i64 c,.slice ka ks.length kc] af):=⟨_,rfl⟩
 obtain ⟨B4,hB4⟩:∃ B:Item,B=.blk b4 (.cells zP6 af):=⟨_,rfl⟩
 have e3:=congrArg some hB3
 have e4:=congrArg some hB4
 have hI:Inv w [br] [B3,B4,rdI br sl p] S w':=by rw [hB3,hB4]; exact hI.last 0 rfl
 refine ⟨fun D x5 Dv xP NG Oy z6 OB x9 x8 x7 x6 w_=>Fx D 0 [x6=.pointer (some ⟨b3,0,none⟩),x7=.agg #[.int .i64 g.kind,.int .i64 g.n,.string g.name,gkv],True,x9=.pointer (some ⟨b3,4,none⟩),OB=.int .i64 c,True,Oy=.pointer (some ⟨b3,5,none⟩),NG=.slice ka ks.length kc,True,True,True,True]/\∃ S1 b q css,Ext w.heap.size [br] S S1/\(D 2=true->∃ a1 a2 a3 a4,x8=.agg #[a1,a2,a3,a4]/\RdT S1 [a1,a2,a3,a4] g)/\(D 8=true->D 5=true/\Rows 6 (RdF S) css ks)/\(D 9=true->D 8=true/\∃ a1 a2 a3 a4,Dv=.agg #[a1,a2,a3,a4,.int .i64 c,xP]/\RdT S1 [a1,a2,a3,a4] g)/\(D 10=true->x5=.pointer (some ⟨b,0,none⟩))/\(D 11=true->D 10=true/\D 8=true/\∃ a1 a2 a3 a4,q=#[a1,a2,a3,a4,.int .i64 c,xP]/\RdT S1 [a1,a2,a3,a4] g)/\(D 11=false->q=zP6)/\Inv w [br] ([B3,B4,rdI br sl p]++cond (D 5) [cond (D 8) (aP xP af 6 css) (aP z6 af 6 [])] []++cond (D 10) [.blk b (.cells q af)] []) S1 w_,⟨Fx.nil _ _,⟨S,0,zP6,[],Ext.refl _ _ _,aT,aT,aT,aT,aT,fun _=>rfl,hI.draw⟩⟩,⟨?_,?_,?_,?_,?_,?_,?_,?_,?_,?_,?_,?_,trivial⟩,?_⟩
 all_goals (intro D bw; intros; rename_i x5 Dv xP NG Oy z6 OB x9 x8 x7 x6 w_ hA_; have hF_:=hA_.1; obtain ⟨⟨bQ,bS,bU,bR,bY,bZ,bO,cG,cS,cT,bL,co,_⟩,⟨S1,b,q,css,hE1,f2,f8,f9,f10,f11,z11,hI⟩⟩:=hA_)
 ·refine ao cZ ?_
  exact ⟨hF_.set 0 rfl,⟨S1,b,q,css,hE1,f2,f8,f9,f10,f11,z11,hI⟩⟩
 ·obtain rfl:=bQ ‹_›
  refine b0 hI 0 [.int .i64 g.kind,.int .i64 g.n,.string g.name,gkv] ac e3 rfl nu ?_
  exact ⟨hF_.set 1 rfl,⟨S1,b,q,css,hE1,f2,f8,f9,f10,f11,z11,hI⟩⟩
 ·obtain rfl:=bS ‹_›
  refine Run.call0E eD eC hI (fu g S1 _ (hg.mono hE1.1) (by omega)) fun v I' S2 w_=>?_
  rintro ⟨eS,cs',L,rfl,rfl,hT⟩ _ hI
  rw [eS] at hI
  obtain ⟨S2,hI,hE2,hins⟩:=hI.pubExt
  have hrt:=hT.rd hins
  obtain ⟨a1,a2,a3,a4,rfl⟩:=oI hrt.length
  have f2:aB D 2 2=true->∃ b1 b2 b3 b4,Value.agg [a1,a2,a3,a4].toArray=.agg #[b1,b2,b3,b4]/\RdT S2 [b1,b2,b3,b4] g:=fun _=>⟨a1,a2,a3,a4,rfl,hrt⟩
  have f9:aB D 2 9=true->aB D 2 8=true/\∃ a1 a2 a3 a4,Dv=.agg #[a1,a2,a3,a4,.int .i64 c,xP]/\RdT S2 [a1,a2,a3,a4] g:=fun h=>by
   obtain ⟨k,b1,b2,b3,b4,e,h⟩:=f9 h
   exact ⟨k,b1,b2,b3,b4,e,h.mono hE2.1⟩
  have f11:aB D 2 11=true->aB D 2 10=true/\aB D 2 8=true/\∃ a1 a2 a3 a4,q=#[a1,a2,a3,a4,.int .i64 c,xP]/\RdT S2 [a1,a2,a3,a4] g:=fun h=>by
   obtain ⟨k,k2,b1,b2,b3,b4,e,h⟩:=f11 h
   exact ⟨k,k2,b1,b2,b3,b4,e,h.mono hE2.1⟩
  obtain ⟨S1,rfl,hE1⟩:∃ S1,S1=S2/\Ext w.heap.size [br] S S1:=⟨S2,rfl,hE1.trans hE2⟩
  exact ⟨hF_.set 2 (by first|assumption|trivial),⟨S1,b,q,css,hE1,f2,f8,f9,f10,f11,z11,hI⟩⟩
 ·refine ao cF ?_
  exact ⟨hF_.set 3 rfl,⟨S1,b,q,css,hE1,f2,f8,f9,f10,f11,z11,hI⟩⟩
 ·obtain rfl:=bR ‹_›
  refine ax hI 0 aw e3 rfl ?_
  exact ⟨hF_.set 4 rfl,⟨S1,b,q,css,hE1,f2,f8,f9,f10,f11,z11,hI⟩⟩
 ·have n8:D 8=false:=Bool.eq_false_iff.2 fun h=>by rw [(f8 h).1] at bw; cases bw
  rw [bw,n8] at hI
  refine dG hI fQ fun v w_ hI=>?_
  have f8:aB D 5 8=true->aB D 5 5=true/\Rows 6 (RdF S) css ks:=fun h=>⟨rfl,(f8 h).2⟩
  have hI:Inv w [br] ([B3,B4,rdI br sl p]++cond (aB D 5 5) [cond (aB D 5 8) (aP xP af 6 css) (aP v af 6 [])] []++cond (aB D 5 10) [.blk b (.cells q af)] []) S1 w_:=by
   rw [show aB D 5 8=D 8 from rfl,n8]
   refine hI.perm ?_
   show List.Perm ([B3,B4,rdI br sl p]++[aP v af 6 []]++_) ([B3,B4,rdI br sl p]++[]++_++[aP v af 6 []])
   rw [List.append_nil,List.append_assoc,List.append_assoc]
   exact List.Perm.append_left _ List.perm_append_comm
  exact ⟨hF_.set 5 (by first|assumption|trivial),⟨S1,b,q,css,hE1,f2,f8,f9,f10,f11,z11,hI⟩⟩
 ·refine ao aW ?_
  exact ⟨hF_.set 6 rfl,⟨S1,b,q,css,hE1,f2,f8,f9,f10,f11,z11,hI⟩⟩
 ·obtain rfl:=bO ‹_›
  refine ax hI 0 aZ e3 rfl ?_
  exact ⟨hF_.set 7 rfl,⟨S1,b,q,css,hE1,f2,f8,f9,f10,f11,z11,hI⟩⟩
 ·have Kz:=bZ ‹_›
  obtain rfl:=cG ‹_›
  rw [‹D 5=true›,bw] at hI
  refine dI (css:=[]) hI 3 fQ (by omega) rfl (hks.mono hE1.1 fun _ _ h=>h) (fun _ _=>RdF.length) (fun _ _=>RdF.one) (by simp; omega) (by omega) fun v w_ css hR hI=>?_
  have n9:D 9=false:=Bool.eq_false_iff.2 fun h=>by rw [(f9 h).1] at bw; cases bw
  have n11:D 11=false:=Bool.eq_false_iff.2 fun h=>by rw [(f11 h).2.1] at bw; cases bw
  have f8:aB D 8 8=true->aB D 8 5=true/\Rows 6 (RdF S) css ks:=fun _=>⟨‹D 5=true›,hR⟩
  have f9:aB D 8 9=true->aB D 8 8=true/\∃ a1 a2 a3 a4,Dv=.agg #[a1,a2,a3,a4,.int .i64 c,v]/\RdT S1 [a1,a2,a3,a4] g:=fun h=>absurd (show D 9=true from h) (by rw [n9]; decide)
  have f11:aB D 8 11=true->aB D 8 10=true/\aB D 8 8=true/\∃ a1 a2 a3 a4,q=#[a1,a2,a3,a4,.int .i64 c,v]/\RdT S1 [a1,a2,a3,a4] g:=fun h=>absurd (show D 11=true from h) (by rw [n11]; decide)
  have hI:Inv w [br] ([B3,B4,rdI br sl p]++cond (aB D 8 5) [cond (aB D 8 8) (aP v af 6 css) (aP z6 af 6 [])] []++cond (aB D 8 10) [.blk b (.cells q af)] []) S1 w_:=by
   rw [show aB D 8 5=D 5 from rfl,‹D 5=true›]
   exact hI
  exact ⟨hF_.set 8 (by first|assumption|trivial),⟨S1,b,q,css,hE1,f2,f8,f9,f10,f11,z11,hI⟩⟩
 ·have OL:=bU ‹_›
  obtain rfl:=bY ‹_›
  have Bo:=cS ‹_›
  obtain ⟨a1,a2,a3,a4,rfl,hrt⟩:=f2 ‹D 2=true›
  have hI2:=hI
  rw [(f8 ‹D 8=true›).1,‹D 8=true›] at hI2
  obtain ⟨qa,qn,qc,rfl⟩:=hI2.rowSl (i:=3) rfl
  refine Hl ?_
  have f9:aB D 9 9=true->aB D 9 8=true/\∃ b1 b2 b3 b4,Value.agg #[a1,a2,a3,a4,.int .i64 c,.slice qa qn qc]=.agg #[b1,b2,b3,b4,.int .i64 c,.slice qa qn qc]/\RdT S1 [b1,b2,b3,b4] g:=fun _=>⟨‹D 8=true›,a1,a2,a3,a4,rfl,hrt⟩
  exact ⟨hF_.set 9 (by first|assumption|trivial),⟨S1,b,q,css,hE1,f2,f8,f9,f10,f11,z11,hI⟩⟩
 ·have n11:D 11=false:=Bool.eq_false_iff.2 fun h=>by rw [(f11 h).1] at bw; cases bw
  rw [bw,cond_false,List.append_nil] at hI
  refine aA hI bV fun b w_ hI=>?_
  have f10:aB D 10 10=true->Value.pointer (some ⟨b,0,none⟩)=.pointer (some ⟨b,0,none⟩):=fun _=>rfl
  have f11:aB D 10 11=true->aB D 10 10=true/\aB D 10 8=true/\∃ a1 a2 a3 a4,q=#[a1,a2,a3,a4,.int .i64 c,xP]/\RdT S1 [a1,a2,a3,a4] g:=fun h=>absurd (show D 11=true from h) (by rw [n11]; decide)
  have hI:Inv w [br] ([B3,B4,rdI br sl p]++cond (aB D 10 5) [cond (aB D 10 8) (aP xP af 6 css) (aP z6 af 6 [])] []++cond (aB D 10 10) [.blk b (.cells q af)] []) S1 w_:=by
   rw [z11 n11]
   exact hI
  exact ⟨hF_.set 10 (by first|assumption|trivial),⟨S1,b,q,css,hE1,f2,f8,f9,f10,f11,z11,hI⟩⟩
 ·have xG:=bL ‹_›
  have GP:=cT ‹_›
  obtain ⟨_,a1,a2,a3,a4,rfl,hrt⟩:=f9 ‹D 9=true›
  obtain rfl:=f10 ‹D 10=true›
  have h5:=(f8 ‹D 8=true›).1
  rw [h5,‹D 8=true›,‹D 10=true›,z11 bw] at hI
  obtain ⟨qa,qn,qc,rfl⟩:=hI.rowSl (i:=3) rfl
  refine aj (cs:=#[a1,a2,a3,a4,.int .i64 c,.slice qa qn qc]) hI 4 rfl aq rfl rfl (BF hrt.one rfl) fun w_ hI=>?_
  obtain ⟨q,hq⟩:∃ q:Array Value,q=#[a1,a2,a3,a4,.int .i64 c,.slice qa qn qc]:=⟨_,rfl⟩
  have f11:aB D 11 11=true->aB D 11 10=true/\aB D 11 8=true/\∃ b1 b2 b3 b4,q=#[b1,b2,b3,b4,.int .i64 c,.slice qa qn qc]/\RdT S1 [b1,b2,b3,b4] g:=fun _=>⟨‹D 10=true›,‹D 8=true›,a1,a2,a3,a4,hq,hrt⟩
  have z11:aB D 11 11=false->q=zP6:=fun h=>Bool.noConfusion h
  have hI:Inv w [br] ([B3,B4,rdI br sl p]++cond (aB D 11 5) [cond (aB D 11 8) (aP (.slice qa qn qc) af 6 css) (aP z6 af 6 [])] []++cond (aB D 11 10) [.blk b (.cells q af)] []) S1 w_:=by
   rw [show aB D 11 5=D 5 from rfl,h5,show aB D 11 8=D 8 from rfl,‹D 8=true›,show aB D 11 10=D 10 from rfl,‹D 10=true›,hq]
   exact hI
  exact ⟨hF_.set 11 trivial,⟨S1,b,q,css,hE1,f2,f8,f9,f10,f11,z11,hI⟩⟩
 obtain ⟨rfl,rfl,OL,rfl,rfl,Kz,rfl,rfl,Bo,GP,xG,_,_⟩:=hF_.all
 have QH:D 5=true:=by assumption
 have z8:D 8=true:=by assumption
 have Ac:D 10=true:=by assumption
 have uL:D 11=true:=by assumption
 clear hF_ bQ bS bU bR bY bZ bO cG cS cT bL co
 obtain ⟨_,_,a1,a2,a3,a4,rfl,hrt⟩:=f11 uL
 obtain rfl:=f10 Ac
 obtain ⟨_,hR⟩:=f8 z8
 have hRc:=hR.hc
 rw [QH,z8,Ac] at hI
 have hIk:=hI
 obtain ⟨qa,qn,qc,rfl⟩:=hI.rowSl (i:=3) rfl
 have hI:Inv w [br] [B3,B4,aP (.slice qa qn qc) af 6 css,.blk b (.cells #[a1,a2,a3,a4,.int .i64 c,.slice qa qn qc] af),rdI br sl p] S1 w_:=hIk.last 2 rfl
 have hrd1:=hrd.monoU hE1.1
 refine ⟨fun w'=>∃ (p2:Nat) (S2:ae) (e1 e2 e3 e4:Value) (g2:T) (c2:Int) (kv:Value) (kk:List PF),p2<=p+700 * (W+1)/\Ext w.heap.size [br] S S2/\RdT S2 [e1,e2,e3,e4] g2/\inI c2/\RdSl S2 6 (RdF S2) kv kk/\wT g2+kk.length+wFL kk<=W+1000/\
  Inv w [br] [B3,B4,.blk b (.cells #[e1,e2,e3,e4,.int .i64 c2,kv] af),rdI br sl p2] S2 w',?_,?_⟩
 ·have hsame:∀ {S2:ae} {p2:Nat} {e1 e2 e3 e4:Value} {g2:T} {c2:Int} {w':World},p2<=p+700 * (W+1)->Ext w.heap.size [br] S1 S2->RdT S2 [e1,e2,e3,e4] g2->inI c2->wT g2<=wT g+1000->
    Inv w [br] [B3,B4,aP (.slice qa qn qc) af 6 css,.blk b (.cells #[e1,e2,e3,e4,.int .i64 c2,.slice qa qn qc] af),rdI br sl p2] S2 w'->∃ S3,Ext w.heap.size [br] S2 S3/\RdSl S3 6 (RdF S3) (.slice qa qn qc) ks/\
    Inv w [br] [B3,B4,.blk b (.cells #[e1,e2,e3,e4,.int .i64 c2,.slice qa qn qc] af),rdI br sl p2] S3 w'/\RdT S3 [e1,e2,e3,e4] g2:=by
   intro S2 p2 e1 e2 e3 e4 g2 c2 w' _ hE2 ht2 _ _ hI
   have hI:Inv w [br] ([B3,B4,.blk b (.cells #[e1,e2,e3,e4,.int .i64 c2,.slice qa qn qc] af),rdI br sl p2]++[aP (.slice qa qn qc) af 6 css]) S2 w':=hI.last 2 rfl
   obtain ⟨S3,hE3,hrw,hI⟩:=Inv.lendExt hI
   exact ⟨S3,hE3,RowRd.rows (hR.monoR fun _ _ h=>h.mono (hE1.1.trans (hE2.1.trans hE3.1))) hrw,hI,ht2.mono hE3.1⟩
  refine Run.callL bF bE hI (cN (n:=20) (p:=p) hrd1 (by omega) (by omega)) rfl fun v' I' S' w'=>?_
  rintro ⟨eS,rfl,k,hk,rfl⟩ _ hI
  rw [eS] at hI
  have hI:Inv w [br] [B3,B4,aP (.slice qa qn qc) af 6 css,.blk b (.cells #[a1,a2,a3,a4,.int .i64 c,.slice qa qn qc] af),rdI br sl (p+1)] S1 w':=hI
  have hdone:∀ {w':World},Inv w [br] [B3,B4,aP (.slice qa qn qc) af 6 css,.blk b (.cells #[a1,a2,a3,a4,.int .i64 c,.slice qa qn qc] af),rdI br sl (p+1)] S1 w'->∃ (p2:Nat) (S2:ae) (e1 e2 e3 e4:Value) (g2:T) (c2:Int) (kv:Value) (kk:List PF),p2<=p+700 * (W+1)/\Ext w.heap.size [br] S S2/\RdT S2 [e1,e2,e3,e4] g2/\inI c2/\RdSl S2 6 (RdF S2) kv kk/\wT g2+kk.length+wFL kk<=W+1000/\
    Inv w [br] [B3,B4,.blk b (.cells #[e1,e2,e3,e4,.int .i64 c2,kv] af),rdI br sl p2] S2 w':=by
   intro w' hI
   obtain ⟨S3,hE3,hk3,hI,ht3⟩:=hsame (g2:=g) (by omega) (Ext.refl _ _ _) hrt hci (by omega) hI
   exact ⟨_,S3,_,_,_,_,g,c,_,ks,by omega,hE1.trans hE3,ht3,hci,hk3,by omega,hI⟩
  refine bh ?_
  refine aN (fun h0=>?_) (fun h0=>?_)
  ·refine vg hI (by kernel_rfl) rfl (by omega) fun v S2 w' hE2 hv hI=>?_
   refine Run.callL ef er hI (jm (p:=p+1) (hrd1.monoU hE2.1) hv (by decide) (by omega)) rfl fun v' I' S' w'=>?_
   rintro ⟨eS,rfl,n,hn,rfl⟩ _ hI
   rw [eS] at hI
   have hn:=r7 (a:=-1000) (b:=1000) hn (by decide)
   have hI:Inv w [br] [B3,B4,aP (.slice qa qn qc) af 6 css,.blk b (.cells #[a1,a2,a3,a4,.int .i64 c,.slice qa qn qc] af),rdI br sl (p+2)] S2 w':=hI
   refine cP hI 3 rfl cF aw rfl rfl rfl fun w' hI=>?_
   have hn2:inI n:=⟨by omega,by omega⟩
   obtain ⟨S3,hE3,hk3,hI,ht3⟩:=hsame (p2:=p+2) (c2:=n) (g2:=g) (by omega) hE2 (hrt.mono hE2.1) hn2 (by omega) hI
   exact ⟨_,S3,_,_,_,_,g,n,_,ks,by omega,(hE1.trans hE2).trans hE3,ht3,hn2,hk3,by omega,hI⟩
  refine bh ?_
  refine aN (fun h1=>?_) (fun h1=>?_)
  ·refine Run.callL j2 jY hI (r4 2 (by omega) (p+1) S1 hrd1 (by rw [Lv]; omega)) rfl fun v' I' S2 w'=>?_
   rintro ⟨p2,hp2,rfl,ds,u,rfl,hds,hwu,_⟩ hE2 hI
   rw [Lv] at hp2 hwu
   refine Run.callL Ak AQ hI (zk (p:=p2) (hrd1.monoU hE2.1) hds (by omega) (by omega)) rfl fun v' I' S3 w'=>?_
   rintro ⟨p3,hp3,rfl,es,u2,rfl,hes,hwu2⟩ hE3 hI
   obtain ⟨e1,e2,e3,e4,rfl⟩:=oI hes.length
   have hI:Inv w [br] [B3,B4,aP (.slice qa qn qc) af 6 css,.blk b (.cells #[a1,a2,a3,a4,.int .i64 c,.slice qa qn qc] af),rdI br sl p3] S3 w':=hI
   refine ao cZ ?_
   refine s7 hI 3 rfl ac rfl rfl (by simpa [Value.cells] using hes.one) fun w' hI=>?_
   have hI:Inv w [br] [B3,B4,aP (.slice qa qn qc) af 6 css,.blk b (.cells #[e1,e2,e3,e4,.int .i64 c,.slice qa qn qc] af),rdI br sl p3] S3 w':=hI
   obtain ⟨S4,hE4,hk4,hI,ht4⟩:=hsame (p2:=p3) (c2:=c) (g2:=u2) (by omega) (hE2.trans hE3) hes hci (by omega) hI
   exact ⟨_,S4,_,_,_,_,u2,c,_,ks,by omega,((hE1.trans hE2).trans hE3).trans hE4,ht4,hci,hk4,by omega,hI⟩
  refine bh ?_
  refine aN (fun h2=>?_) (fun h2=>?_)
  ·obtain ⟨F,hF⟩:∃ F:Value->Array Value,F=fun kv=>#[a1,a2,a3,a4,.int .i64 c,kv]:=⟨_,rfl⟩
   have hFv:∀ kv,F kv=#[a1,a2,a3,a4,.int .i64 c,kv]:=fun kv=>by rw [hF]
   obtain ⟨tt,htt⟩:∃ tt:T,tt=.mk 3 0 ⟨#[116,114,117,101]⟩ []:=⟨_,rfl⟩
   have hI:Inv w [br] ([B3,B4,rdI br sl (p+1)]++[.blk b (.cells (F (.slice qa qn qc)) af),aP (.slice qa qn qc) af 6 css]) S1 w':=by
    rw [hFv]
    exact (hI.last 2 rfl).perm (((List.Perm.swap _ _ _).cons _ |>.cons _).trans ((List.Perm.refl _)))
   refine ⟨fun D gD fN kJ gU iI nC jT w_=>Fx D 0 [jT=.pointer (some ⟨b,5,none⟩),nC=.slice qa qn qc,True,True,True,True,gD=.pointer (some ⟨b,5,none⟩),True]/\∃ n_:Nat,n_<=5/\D 2=decide (1<=n_)/\D 3=decide (2<=n_)/\D 4=decide (3<=n_)/\D 5=decide (4<=n_)/\D 7=decide (5<=n_)/\(D 7=true->D 1=true)/\(muC w [br] b F [B3,B4,rdI br sl (p+1)] (.slice qa qn qc) css tt (.mk tt (-1) []) S1 iI gU kJ fN w_ n_),⟨Fx.nil _ _,⟨0,Nat.zero_le _,rfl,rfl,rfl,rfl,rfl,(aT),hI.draw⟩⟩,⟨?_,?_,?_,?_,?_,?_,?_,?_,trivial⟩,?_⟩
   all_goals (intro D bw; intros; rename_i gD fN kJ gU iI nC jT w_ hA_; have hF_:=hA_.1; obtain ⟨⟨bQ,bS,bU,bR,bY,bZ,bO,cG,_⟩,⟨n_,ln_,e1_,e2_,e3_,e4_,e5_,kp_,hS⟩⟩:=hA_)
   ·refine ao aW ?_
    exact ⟨hF_.set 0 rfl,⟨n_,ln_,e1_,e2_,e3_,e4_,e5_,kp_,hS⟩⟩
   ·obtain rfl:=bQ ‹_›
    have ln2_:=M4 e5_ kp_ bw
    obtain ⟨R,S3,hI⟩:=hS.low ln2_
    rw [hFv] at hI
    refine ax hI 3 aZ rfl rfl ?_
    exact ⟨hF_.set 1 rfl,⟨n_,ln_,e1_,e2_,e3_,e4_,e5_,(fun _=>rfl),hS⟩⟩
   ·obtain rfl:n_=0:=xr e1_ bw
    refine Run.call0E dq dp hS (dO ⟨#[116,114,117,101]⟩ (by decide) (mv S1) (by simp)) fun v' I' S3 w_=>?_
    rintro ⟨rfl,ds,rfl,hds⟩ hE3 hI
    rw [List.append_nil] at hI
    obtain ⟨d1,d2,d3,d4,rfl⟩:=oI hds.length
    rw [<- htt] at hds
    have hS:muC w [br] b F [B3,B4,rdI br sl (p+1)] (.slice qa qn qc) css tt (.mk tt (-1) []) S1 (.agg [d1,d2,d3,d4].toArray) gU kJ fN w_ 1:=⟨S3,d1,d2,d3,d4,rfl,hE3,hds,hI⟩
    exact ⟨hF_.set 2 (by first|assumption|trivial),⟨1,by decide,rfl,(by first|exact e2_|rfl),(by first|exact e3_|rfl),(by first|exact e4_|rfl),(by first|exact e5_|rfl),kp_,hS⟩⟩
   ·have OL:=bU ‹_›
    obtain rfl:n_=1:=fZ e1_ ‹D 2=true› e2_ bw
    obtain ⟨S3,d1,d2,d3,d4,rfl,hE3,hds,hI⟩:=hS
    refine o5 ?_
    have hS:muC w [br] b F [B3,B4,rdI br sl (p+1)] (.slice qa qn qc) css tt (.mk tt (-1) []) S1 (.agg #[d1,d2,d3,d4]) (.agg #[d1,d2,d3,d4,.int .i64 (-1),.slice none 0 0]) kJ fN w_ 2:=⟨S3,[d1,d2,d3,d4,.int .i64 (-1),.slice none 0 0],rfl,hE3,by
     obtain ⟨tkv,hte,_⟩:=RdT.iff.1 hds
     simp only [List.cons.injEq,and_true] at hte
     obtain ⟨rfl,rfl,rfl,rfl⟩:=hte
     exact RdF.iff.2 ⟨_,_,rfl,hds,⟨by simp [PF.clause],by simp [PF.clause]⟩,RdSl.nil0 ..⟩,hI⟩
    exact ⟨hF_.set 3 (by first|assumption|trivial),⟨2,by decide,(by first|exact e1_|rfl),rfl,(by first|exact e3_|rfl),(by first|exact e4_|rfl),(by first|exact e5_|rfl),kp_,hS⟩⟩
   ·have HG:=bR ‹_›
    obtain rfl:n_=2:=fZ e2_ ‹D 3=true› e3_ bw
    obtain ⟨S3,cs,rfl,hE3,hcs,hI⟩:=hS
    refine dH hI fQ (by simpa [Value.cells] using hcs.length) (by omega) (by omega) fun b9 w_ hI=>?_
    obtain ⟨S4,hI,hE4,hb⟩:=Inv.pub1 hI
    have hS:muC w [br] b F [B3,B4,rdI br sl (p+1)] (.slice qa qn qc) css tt (.mk tt (-1) []) S1 iI (.agg cs.toArray) (.slice (some ⟨b9,0,none⟩) 1 1) fN w_ 3:=⟨S4,hE3.trans hE4,RdSl.single hb hcs.length (hcs.mono hE4.1),hI⟩
    exact ⟨hF_.set 4 (by first|assumption|trivial),⟨3,by decide,(by first|exact e1_|rfl),(by first|exact e2_|rfl),rfl,(by first|exact e4_|rfl),(by first|exact e5_|rfl),kp_,hS⟩⟩
   ·obtain rfl:=bS ‹_›
    have Oi:=bY ‹_›
    obtain rfl:n_=3:=fZ e3_ ‹D 4=true› e4_ bw
    obtain ⟨S3,hE3,hrd3,hI⟩:=hS
    refine dI (css:=css) hI 4 fQ (by omega) rfl hrd3 (fun _ _=>RdF.length) (fun _ _=>RdF.one) (by simp; omega) (by omega) fun v w_ css2 hR2 hI=>?_
    obtain ⟨c0,hc0⟩:∃ c0,css2=[c0]:=List.length_eq_one_iff.1 hR2.hc
    subst hc0
    have hc0:RdF S3 c0 (.mk tt (-1) []):=hR2.hR 0 (by simp) (by simp)
    have hS:muC w [br] b F [B3,B4,rdI br sl (p+1)] (.slice qa qn qc) css tt (.mk tt (-1) []) S1 iI gU kJ v w_ 4:=⟨S3,c0,hE3,hc0,hI⟩
    exact ⟨hF_.set 5 (by first|assumption|trivial),⟨4,by decide,(by first|exact e1_|rfl),(by first|exact e2_|rfl),(by first|exact e3_|rfl),rfl,(by first|exact e5_|rfl),kp_,hS⟩⟩
   ·refine ao aW ?_
    exact ⟨hF_.set 6 rfl,⟨n_,ln_,e1_,e2_,e3_,e4_,e5_,kp_,hS⟩⟩
   ·obtain rfl:=bO ‹_›
    have Kz:=bZ ‹_›
    obtain rfl:n_=4:=fZ e4_ ‹D 5=true› e5_ bw
    obtain ⟨S3,cs,hE3,hcs,hI⟩:=hS
    obtain ⟨hv1,hv2⟩:=hI.rowOne (i:=4) rfl
    rw [hFv] at hI
    refine dB hI 3 (b:=b) (o:=5) (n:=1) (by rw [hv1]; rfl) (by rw [aZ]; rfl) rfl (by simp) (by rw [hv1]; simpa using hv2) fun w_ hI=>?_
    have hS:muC w [br] b F [B3,B4,rdI br sl (p+1)] (.slice qa qn qc) css tt (.mk tt (-1) []) S1 iI gU kJ fN w_ 5:=⟨S3,fN,cs,hE3,hcs,by rw [hFv]; rw [hv1] at hI; exact hI⟩
    exact ⟨hF_.set 7 trivial,⟨5,by decide,(by first|exact e1_|rfl),(by first|exact e2_|rfl),(by first|exact e3_|rfl),(by first|exact e4_|rfl),rfl,(fun _=>‹D 1=true›),hS⟩⟩
   obtain rfl:n_=5:=lU ln_ e5_ ‹D 7=true›
   clear e1_ e2_ e3_ e4_ e5_
   obtain ⟨S3,kv',cs,hE3,hcs,hI⟩:=hS
   obtain ⟨S4,hE4,hrw,hI⟩:=Inv.lendExt (A:=[B3,B4,rdI br sl (p+1),.blk b (.cells (F kv') af)]) hI
   rw [hFv] at hI
   have hks4:=RowRd.rows (((hR.monoR fun _ _ h=>h.mono (hE1.1.trans hE3.1)).snoc hcs hcs.length).monoR fun _ _ h=>RdF.mono hE4.1 h) hrw
   have et:wF (.mk tt (-1) [])=4:=by rw [htt]; have e:(ByteArray.mk #[116,114,117,101]).size=4:=rfl; simp only [wF,wFL,wT,wL,List.length_nil,e]
   refine ⟨p+1,S4,_,_,_,_,g,c,_,ks++[.mk tt (-1) []],by omega,(hE1.trans hE3).trans hE4,hrt.mono (hE3.trans hE4).1,hci,hks4,?_,hI.last 2 rfl⟩
   rw [List.length_append,Ji]
   simp only [List.length_singleton,wFL]
   omega
  refine bh ?_
  refine aN (fun h3=>?_) (fun h3=>?_)
  ·obtain ⟨S3,hE3,hk3,hI,ht3⟩:=hsame (g2:=g) (by omega) (Ext.refl _ _ _) hrt hci (by omega) hI
   refine ad hI 2 rfl aW aZ rfl ?_
   refine aK hk3 bl ?_
   refine cY ?_
   refine aN (fun hl=>?_) (fun hl=>?_)
   ·refine ad hI 2 rfl aW aZ rfl ?_
    refine io (l:=1) bl hk3 (by omega) fun v' hv'=>?_
    refine cP hI 2 rfl aW aZ rfl (by obtain ⟨a,m,rfl,_⟩:=hv'; rfl) hv'.sl fun w' hI=>?_
    have:=KC ks
    exact ⟨_,S3,_,_,_,_,g,c,_,ks.drop 1,by omega,hE1.trans hE3,ht3,hci,hv',by rw [List.length_drop]; omega,hI⟩
   ·exact ⟨_,S3,_,_,_,_,g,c,_,ks,by omega,hE1.trans hE3,ht3,hci,hk3,by omega,hI⟩
  refine bh ?_
  refine aN (fun h4=>?_) (fun h4=>?_)
  ·have hI2:Inv w [br] ([B3,B4,.blk b (.cells #[a1,a2,a3,a4,.int .i64 c,.slice qa qn qc] af),rdI br sl (p+1)]++[aP (.slice qa qn qc) af 6 css]) S1 w':=hI.last 2 rfl
   obtain ⟨hlx,ho⟩:=Inv.openRow hI2
   rcases ho with ⟨hz,hz0⟩|⟨gb,cap,cur,hz,hnc,hcm,hcs,ht,hI3⟩
   ·have hq:qn=0:=by
     simp only [Value.slice.injEq] at hz
     exact hz.2.1
    refine ad hI 3 rfl aW aZ rfl ?_
    refine dL bl ?_
    refine cY ?_
    refine aN (fun hl=>?_) (fun hl=>?_)
    ·omega
    ·exact hdone hI
   refine ad hI 3 rfl aW aZ rfl ?_
   refine dL bl ?_
   refine cY ?_
   have hqn:qn=css.length:=by
    simp only [Value.slice.injEq] at hz
    exact hz.2.1
   refine aN (fun hl=>?_) (fun hl=>hdone hI)
   rw [hz] at hI3
   have hpos:0<css.length:=by omega
   have hk0l:0<ks.length:=by omega
   have hcz:cur.size=cap * 6:=hcs
   have hk0:RdF S (aL cur (0+0 * 6) 6) ks[0]:=by
    have hfa:=fP 6 css 0 hR.hk (by omega)
    rw [<- ht,List.drop_take,List.take_take,Nat.min_eq_left (by omega)] at hfa
    have e:aL cur (0+0 * 6) 6=css[0]:=hfa
    rw [e]
    exact hR.hR 0 hk0l hpos
   have hwk:=xT (List.getElem_mem hk0l)
   obtain ⟨wk,hwke⟩:∃ wk,wk=wF ks[0]:=⟨_,rfl⟩
   rw [<- hwke] at hwk
   have hWk:1+wk<=W:=by omega
   have hcallM:∀ (p2:Nat) (S2:ae),p2=p+1->Sle S S2->Tri Tryz.prog pT [rdP br,.agg (aL cur (0+0 * 6) 6).toArray] [rdI br sl p2] S2 (Me br sl p2 (700 * (wk+1)) (wk+1000)):=by
    intro p2 S2 hp2 hle
    have:=ih ks[0] (List.getElem_mem hk0l) p2 S2 _ (hrd.monoU hle) (hk0.mono hle)
    rw [<- hwke] at this
    obtain ⟨q1,q2,_⟩:=harith wk hWk
    exact this q1 (by rw [hp2]; exact q2)
   have hI:Inv w [br] [B3,B4,.blk b (.cells #[a1,a2,a3,a4,.int .i64 c,.slice (some ⟨gb,0,none⟩) css.length cap] af),.blk gb (.cells cur af),rdI br sl (p+1)] S1 w':=hI3.last 3 rfl
   have hixz:∀ {ty:TypeId} {K:Value->World->Prop} {w':World},K (.pointer (some ⟨gb,0,none⟩)) w'->Run Tryz.prog (sOp (.indexAddr Ck (.const (.slice (some ⟨gb,0,none⟩) css.length cap)) (.const (.int .i64 0))) ty) w' K:=fun hk=>ay (i:=0) bl hpos hk
   refine ⟨fun D FL AA xL xY xN xJ wH ta uy w_=>Fx D 0 [uy=.pointer (some ⟨b,5,none⟩),ta=.slice (some ⟨gb,0,none⟩) css.length cap,wH=rdP br,xJ=.pointer (some ⟨b,5,none⟩),xN=.slice (some ⟨gb,0,none⟩) css.length cap,xY=.pointer (some ⟨gb,0,none⟩),xL=.agg (aL cur (0+0 * 6) 6).toArray,True,FL=.pointer (some ⟨gb,0,none⟩),True]/\∃ p2 S2 q,(D 7=false->p2=p+1)/\(p2<=p+1+700 * (wk+1))/\Ext w.heap.size [br] S1 S2/\(D 7=true->∃ cs y,AA=.agg (List.toArray cs)/\RdF S2 cs y/\wF y<=wk+1000)/\(D 9=true->D 6=true)/\(D 9=false->q=cur)/\(D 9=true->∃ cs y,q=bk cur 0 cs/\RdF S2 cs y/\wF y<=wk+1000)/\Inv w [br] [B3,B4,.blk b (.cells #[a1,a2,a3,a4,.int .i64 c,.slice (some ⟨gb,0,none⟩) css.length cap] af),.blk gb (.cells q af),rdI br sl p2] S2 w_,⟨Fx.nil _ _,⟨p+1,S1,cur,fun _=>rfl,by omega,Ext.refl _ _ _,aT,aT,fun _=>rfl,aT,hI.draw⟩⟩,⟨?_,?_,?_,?_,?_,?_,?_,?_,?_,?_,trivial⟩,?_⟩
   all_goals (intro D bw; intros; rename_i FL AA xL xY xN xJ wH ta uy w_ hA_; have hF_:=hA_.1; obtain ⟨⟨bQ,bS,bU,bR,bY,bZ,bO,cG,cS,cT,_⟩,⟨p2,S2,q,z7,hp2,hE2,f7,k9,z9,f9,hI⟩⟩:=hA_)
   ·refine ao aW ?_
    exact ⟨hF_.set 0 rfl,⟨p2,S2,q,z7,hp2,hE2,f7,k9,z9,f9,hI⟩⟩
   ·obtain rfl:=bQ ‹_›
    refine ax hI 2 aZ rfl rfl ?_
    exact ⟨hF_.set 1 rfl,⟨p2,S2,q,z7,hp2,hE2,f7,k9,z9,f9,hI⟩⟩
   ·exact ⟨hF_.set 2 rfl,⟨p2,S2,q,z7,hp2,hE2,f7,k9,z9,f9,hI⟩⟩
   ·refine ao aW ?_
    exact ⟨hF_.set 3 rfl,⟨p2,S2,q,z7,hp2,hE2,f7,k9,z9,f9,hI⟩⟩
   ·obtain rfl:=bR ‹_›
    refine ax hI 2 aZ rfl rfl ?_
    exact ⟨hF_.set 4 rfl,⟨p2,S2,q,z7,hp2,hE2,f7,k9,z9,f9,hI⟩⟩
   ·obtain rfl:=bY ‹_›
    refine hixz ?_
    exact ⟨hF_.set 5 rfl,⟨p2,S2,q,z7,hp2,hE2,f7,k9,z9,f9,hI⟩⟩
   ·obtain rfl:=bZ ‹_›
    have n9:D 9=false:=Bool.eq_false_iff.2 fun h=>by rw [k9 h] at bw; cases bw
    have hI2:=hI
    rw [z9 n9] at hI2
    refine b0 hI2 3 (aL cur (0+0 * 6) 6) aq rfl hk0.length (fun j v hj=>aD rfl j v hj) ?_
    have k9:aB D 6 9=true->aB D 6 6=true:=fun _=>rfl
    exact ⟨hF_.set 6 rfl,⟨p2,S2,q,z7,hp2,hE2,f7,k9,z9,f9,hI⟩⟩
   ·obtain rfl:=bU ‹_›
    obtain rfl:=bO ‹_›
    have hpe:=z7 bw
    refine Run.callL (L:=[B3,B4,.blk b _,.blk gb _,rdI br sl p2]) gC gA hI (hcallM p2 S2 hpe (hE1.1.trans hE2.1)) rfl fun v' I' S3 w_=>?_
    rintro ⟨p3,hp3,rfl,cs',y,rfl,hcs',hwy⟩ hE3 hI
    have hI:Inv w [br] [B3,B4,.blk b (.cells #[a1,a2,a3,a4,.int .i64 c,.slice (some ⟨gb,0,none⟩) css.length cap] af),.blk gb (.cells q af),rdI br sl p3] S3 w_:=hI
    have z7:aB D 7 7=false->p3=p+1:=fun h=>Bool.noConfusion h
    have hp2:p3<=p+1+700 * (wk+1):=by rw [<- hpe]; exact hp3
    have hE2:=hE2.trans hE3
    have f7:aB D 7 7=true->∃ cs y,Value.agg cs'.toArray=.agg (List.toArray cs)/\RdF S3 cs y/\wF y<=wk+1000:=fun _=>⟨cs',y,rfl,hcs',hwy⟩
    have f9:aB D 7 9=true->∃ cs y,q=bk cur 0 cs/\RdF S3 cs y/\wF y<=wk+1000:=fun h=>by
     obtain ⟨cs2,y2,e,h2,h3⟩:=f9 h
     exact ⟨cs2,y2,e,h2.mono hE3.1,h3⟩
    obtain ⟨p2,rfl⟩:∃ p2,p2=p3:=⟨_,rfl⟩
    obtain ⟨S2,rfl⟩:∃ S2,S2=S3:=⟨_,rfl⟩
    exact ⟨hF_.set 7 (by first|assumption|trivial),⟨p2,S2,q,z7,hp2,hE2,f7,k9,z9,f9,hI⟩⟩
   ·obtain rfl:=bS ‹_›
    refine hixz ?_
    exact ⟨hF_.set 8 rfl,⟨p2,S2,q,z7,hp2,hE2,f7,k9,z9,f9,hI⟩⟩
   ·obtain rfl:=cS ‹_›
    have GO:=cG ‹_›
    obtain ⟨cs2,y2,rfl,h2,h3⟩:=f7 ‹D 7=true›
    rw [z9 bw] at hI
    refine s7 hI 3 rfl aq (by simpa [Value.cells] using h2.length) (by rw [hcz]; exact Nat.ble_eq_true_of_le (by omega)) (by simpa [Value.cells] using h2.one) fun w_ hI=>?_
    have k9:aB D 9 9=true->aB D 9 6=true:=fun _=>by assumption
    obtain ⟨q,hq⟩:∃ q:Array Value,q=bk cur 0 cs2:=⟨_,rfl⟩
    have z9:aB D 9 9=false->q=cur:=fun h=>Bool.noConfusion h
    have f9:aB D 9 9=true->∃ cs y,q=bk cur 0 cs/\RdF S2 cs y/\wF y<=wk+1000:=fun _=>⟨cs2,y2,hq,h2,h3⟩
    have hI:Inv w [br] [B3,B4,.blk b (.cells #[a1,a2,a3,a4,.int .i64 c,.slice (some ⟨gb,0,none⟩) css.length cap] af),.blk gb (.cells q af),rdI br sl p2] S2 w_:=by rw [hq]; exact hI
    exact ⟨hF_.set 9 trivial,⟨p2,S2,q,z7,hp2,hE2,f7,k9,z9,f9,hI⟩⟩
   obtain ⟨rfl,rfl,rfl,rfl,rfl,rfl,rfl,GO,rfl,_,_⟩:=hF_.all
   have Fk:D 9=true:=by assumption
   clear hF_ bQ bS bU bR bY bZ bO cG cS cT
   obtain ⟨cs2,y2,rfl,h2,h3⟩:=f9 Fk
   have hI:Inv w [br] ([B3,B4,.blk b (.cells #[a1,a2,a3,a4,.int .i64 c,.slice (some ⟨gb,0,none⟩) css.length cap] af),rdI br sl p2]++[.blk gb (.cells (bk cur 0 cs2) af)]) S2 w_:=hI.last 3 rfl
   obtain ⟨S3,hI,hE3,hgS⟩:=Inv.pub1 hI
   have hks3:=RdSl.put0 hR ht hnc hcm hcz (hE1.1.trans (hE2.1.trans hE3.1)) hgS (h2.mono hE3.1) hk0l
   rw [<- hRc] at hks3
   have hws:=MR ks y2 hk0l
   rw [<- hwke] at hws
   have hwq:wT g+ks.length+wFL (ks.set 0 y2)<=W+1000:=by
    generalize wFL (ks.set 0 y2)=v1 at hws ⊢
    generalize wF y2=v2 at hws h3
    omega
   exact ⟨p2,S3,_,_,_,_,g,c,_,ks.set 0 y2,Nat.le_trans hp2 (harith wk hWk).2.2,(hE1.trans hE2).trans hE3,hrt.mono (hE2.1.trans hE3.1),hci,hks3,by rw [List.length_set]; exact hwq,hI⟩
  ·exact hdone hI
 intro _ _ _ _ _ _ _ _ _ _ _ _ _ _ _ _ _ _ _ _ _ _ _ _ _ _ _ _ _ _ _ _ _ _ _ _ _ _ _ _ _ _ _ _ _ _ _ _ _ w'
 rintro ⟨p2,S2,e1,e2,e3',e4',g2,c2,kv,kk,hp2,hE2,ht2,hc2,hkk,hw2,hI⟩
 obtain ⟨tkv,hte,_⟩:=RdT.iff.1 ht2
 simp only [List.cons.injEq,and_true] at hte
 obtain ⟨rfl,rfl,rfl,rfl⟩:=hte
 have hfin:RdF S2 [.int .i64 g2.kind,.int .i64 g2.n,.string g2.name,e4',.int .i64 c2,kv] (.mk g2 c2 kk):=RdF.iff.2 ⟨_,_,rfl,ht2,hc2,hkk⟩
 refine ag hI 2 aq rfl rfl ?_
 refine aj (cs:=#[.int .i64 g2.kind,.int .i64 g2.n,.string g2.name,e4',.int .i64 c2,kv]) hI 1 e4 aq rfl rfl (by simpa using hfin.one) fun w' hI=>?_
 refine aS hI 1 aq rfl rfl ?_
 exact ⟨_,[rdI br sl p2],S2,rfl,hI.pick [false,false,false,true],hE2,p2,hp2,rfl,_,_,rfl,hfin,by rw [wF]; exact hw2⟩
theorem nR {S:ae} {v:Value} (h:RdSl S 1 jd v ys):Tri Tryz.prog rp [v] [] S fun v' I' S'=>I'=[]/\∃ cs x,v'=.agg cs.toArray/\RdF S' cs x/\wF x<=101000:=by
 intro w hI
 refine iR.2 ?_
 dsimp only[iR,aE]
 refine aA hI bV fun b2 w' hI=>?_
 have hI:Inv w [] [.blk b2 (.cells zP6 af)] S w':=hI
 refine Run.call0E tu sn hI (zC h) fun v1 I' S1 w'=>?_
 rintro ⟨eS,br,sl,ys',rfl,rfl,hrd⟩ _ hI
 rw [eS] at hI
 have hI:Inv w [] [.blk b2 (.cells zP6 af),rdI br sl 0] S w':=hI
 refine Run.callL rR rJ hI (p9 (p:=0) hrd (by omega)) rfl fun v2 I' S2 w'=>?_
 rintro ⟨p1,hp1,rfl,u,cs,ps,x,rfl,hps,hlp,h0,hpv,hx,hwx⟩ hE2 hI
 have hxl:=hx.length
 refine ai (v:=u) rfl ?_
 refine ai (v:=.agg cs.toArray) rfl ?_
 refine aA hI bV fun b5 w' hI=>?_
 have hI:Inv w [] [.blk b2 (.cells zP6 af),rdI br sl p1,.blk b5 (.cells zP6 af)] S2 w':=hI
 refine aj hI 2 rfl aq (by simpa using hxl) rfl (by simpa using hx.one) fun w' hI=>?_
 have hI:Inv w [] [.blk b2 (.cells zP6 af),.blk b5 (.cells cs.toArray af),rdI br sl p1] S2 w':=hI.last 1 rfl
 refine ag hI 1 aq rfl (by simpa using hxl) ?_
 refine Run.callL gC gA hI (iK x p1 S2 cs (hrd.monoU hE2.1) hx (by omega) (by omega)) rfl fun v3 I' S3 w'=>?_
 rintro ⟨p2,hp2,rfl,ds,y,rfl,hy,hwy⟩ hE3 hI
 have hyl:=hy.length
 refine aj hI 0 rfl aq (by simpa using hyl) rfl (by simpa using hy.one) fun w' hI=>?_
 refine aS hI 0 aq rfl (by simpa using hyl) ?_
 exact ⟨_,[],S3,rfl,hI.nil,hE2.trans hE3,rfl,ds,y,rfl,hy,by omega⟩
theorem lD {S:ae} {v:Value} (h:RdSl S 1 jd v ys):Tri Tryz.prog pg [v] [] S fun v' I' S'=>I'=[]/\∃ cs x,v'=.agg cs.toArray/\RdF S' cs x/\wF x<=101000:=by
 intro w hI
 refine iv.2 ?_
 dsimp only[iv,aE]
 refine aA hI bV fun b2 w' hI=>?_
 have hI:Inv w [] [.blk b2 (.cells zP6 af)] S w':=hI
 refine Run.call0E pi pf hI (nR h) fun v1 I' S1 w'=>?_
 rintro ⟨rfl,cs,x,rfl,hx,hwx⟩ hE1 hI
 have hxl:=hx.length
 refine aj hI 0 rfl aq (by simpa using hxl) rfl (by simpa using hx.one) fun w' hI=>?_
 refine aS hI 0 aq rfl (by simpa using hxl) ?_
 exact ⟨_,[],S1,rfl,hI.nil,hE1,rfl,cs,x,rfl,hx,hwx⟩
end
end
section
open Go Go.RowKit
section
variable {ys:List Nat}
attribute [local irreducible] Run CondV ar aI
theorem pj {S:ae} {v:Value} (h:RdSl S 1 jd v ys):Tri Tryz.prog rL [v] [] S fun v' I' S'=>I'=[]/\∃ cs x ds y,v'=.tuple #[.agg cs.toArray,.agg ds.toArray]/\RdF S' cs x/\RdF S' ds y/\wF x<=103000/\wF y<=103000:=by
 intro w hI
 refine jD.2 ?_
 dsimp only[jD,aE]
 refine aA hI bV fun b2 w' hI=>?_
 refine aA hI bV fun b3 w' hI=>?_
 have hI:Inv w [] [.blk b2 (.cells zP6 af),.blk b3 (.cells zP6 af)] S w':=hI
 refine Run.call0E tu sn hI (zC h) fun v1 I' S1 w'=>?_
 rintro ⟨eS,br,sl,ys',rfl,rfl,hrd⟩ _ hI
 rw [eS] at hI
 have hI:Inv w [] [.blk b2 (.cells zP6 af),.blk b3 (.cells zP6 af),rdI br sl 0] S w':=hI
 refine Run.callL rR rJ hI (p9 (p:=0) hrd (by omega)) rfl fun v2 I' S2 w'=>?_
 rintro ⟨p1,hp1,rfl,u,cs,ps,x,rfl,hps,hlp,h0,hpv,hx,hwx⟩ hE2 hI
 have hxl:=hx.length
 refine ai (v:=u) rfl ?_
 refine ai (v:=.agg cs.toArray) rfl ?_
 refine aA hI bV fun b6 w' hI=>?_
 have hI:Inv w [] [.blk b2 (.cells zP6 af),.blk b3 (.cells zP6 af),rdI br sl p1,.blk b6 (.cells zP6 af)] S2 w':=hI
 refine aj hI 3 rfl aq (by simpa using hxl) rfl (by simpa using hx.one) fun w' hI=>?_
 have hI:Inv w [] [.blk b2 (.cells zP6 af),.blk b3 (.cells zP6 af),.blk b6 (.cells cs.toArray af),rdI br sl p1] S2 w':=hI.last 2 rfl
 refine Run.callL bF bE hI (cN (n:=2) (p:=p1) (hrd.monoU hE2.1) (by omega) (by omega)) rfl fun v' I' S' w'=>?_
 rintro ⟨eS,rfl,k,hk,rfl⟩ _ hI
 rw [eS] at hI
 have hI:Inv w [] [.blk b2 (.cells zP6 af),.blk b3 (.cells zP6 af),.blk b6 (.cells cs.toArray af),rdI br sl (p1+1)] S2 w':=hI
 refine bh ?_
 refine aN (fun _=>?_) (fun _=>?_)
 ·have hI:Inv w [] [.blk b2 (.cells zP6 af),.blk b3 (.cells zP6 af),.blk b6 (.cells cs.toArray af)] S2 w':=hI.pick [true,true,true,false]
  refine ⟨fun D pJ mX w_=>Fx D 0 [mX=.agg cs.toArray,pJ=.agg cs.toArray,True,True]/\∃ c2 c3:Array Value,c2.size=6/\c3.size=6/\(D 2=true->c2=cs.toArray)/\(D 3=true->c3=cs.toArray)/\Inv w [] [.blk b2 (.cells c2 af),.blk b3 (.cells c3 af),.blk b6 (.cells cs.toArray af)] S2 w_,⟨Fx.nil _ _,⟨zP6,zP6,rfl,rfl,aT,aT,hI.draw⟩⟩,⟨?_,?_,?_,?_,trivial⟩,?_⟩
  all_goals (intro D bw; intros; rename_i pJ mX w_ hA_; have hF_:=hA_.1; obtain ⟨⟨bQ,bS,bU,bR,_⟩,⟨c2,c3,s2,s3,e2,e3,hI⟩⟩:=hA_)
  ·refine ag hI 2 aq rfl (by simpa using hxl) ?_
   exact ⟨hF_.set 0 rfl,⟨c2,c3,s2,s3,e2,e3,hI⟩⟩
  ·refine ag hI 2 aq rfl (by simpa using hxl) ?_
   exact ⟨hF_.set 1 rfl,⟨c2,c3,s2,s3,e2,e3,hI⟩⟩
  ·obtain rfl:=bQ ‹_›
   refine aj hI 0 rfl aq (by simpa using hxl) s2 (by simpa using hx.one) fun w_ hI=>?_
   obtain ⟨c2,hc2⟩:∃ a,a=cs.toArray:=⟨_,rfl⟩
   have hI:Inv w [] [.blk b2 (.cells c2 af),.blk b3 (.cells c3 af),.blk b6 (.cells cs.toArray af)] S2 w_:=by rw [hc2]; exact hI
   have e2:=fun (_:aB D 2 2=true)=>hc2
   have s2:c2.size=6:=by rw [hc2]; simpa using hxl
   exact ⟨hF_.set 2 trivial,⟨c2,c3,s2,s3,e2,e3,hI⟩⟩
  ·obtain rfl:=bS ‹_›
   refine aj hI 1 rfl aq (by simpa using hxl) s3 (by simpa using hx.one) fun w_ hI=>?_
   obtain ⟨c3,hc3⟩:∃ a,a=cs.toArray:=⟨_,rfl⟩
   have hI:Inv w [] [.blk b2 (.cells c2 af),.blk b3 (.cells c3 af),.blk b6 (.cells cs.toArray af)] S2 w_:=by rw [hc3]; exact hI
   have e3:=fun (_:aB D 3 3=true)=>hc3
   have s3:c3.size=6:=by rw [hc3]; simpa using hxl
   exact ⟨hF_.set 3 trivial,⟨c2,c3,s2,s3,e2,e3,hI⟩⟩
  obtain ⟨rfl,rfl,_,_,_⟩:=hF_.all
  clear hF_ bQ bS bU bR
  have e2:=e2 (by assumption)
  have e3:=e3 (by assumption)
  subst e2 e3
  refine aS hI 0 aq rfl (by simpa using hxl) ?_
  refine aS hI 1 aq rfl (by simpa using hxl) ?_
  exact ⟨_,[],S2,rfl,hI.nil,hE2,rfl,cs,x,cs,x,rfl,hx,hx,by omega,by omega⟩
 ·have hIr:=hI
  refine ⟨fun D lY ni mD kX i6 lQ w_=>Fx D 0 [lQ=.agg cs.toArray,i6=rdP br,kX=rdP br,mD=.agg cs.toArray,True,True,True,True]/\∃ (S3:ae) (c2 c3:Array Value) (p2:Nat),Ext w.heap.size [] S2 S3/\c2.size=6/\c3.size=6/\(D 6=true->c2=cs.toArray)/\(D 4=false->p2=p1+1)/\(D 5=false->p2<=p1+1+700 * 100001)/\(D 5=true->D 4=true)/\(D 7=true->D 5=true)/\(D 4=true->∃ ds y,ni=.agg ds.toArray/\RdF S3 ds y/\wF y<=101000)/\(D 5=true->∃ ds y,lY=.agg ds.toArray/\RdF S3 ds y/\wF y<=102000)/\(D 7=true->lY=.agg c3)/\Inv w [] [.blk b2 (.cells c2 af),.blk b3 (.cells c3 af),.blk b6 (.cells cs.toArray af),rdI br sl p2] S3 w_,⟨Fx.nil _ _,⟨S2,zP6,zP6,p1+1,Ext.refl _ _ _,rfl,rfl,aT,fun _=>rfl,fun _=>by omega,aT,aT,aT,aT,aT,hI.draw⟩⟩,⟨?_,?_,?_,?_,?_,?_,?_,?_,trivial⟩,?_⟩
  all_goals (intro D bw; intros; rename_i lY ni mD kX i6 lQ w_ hA_; have hF_:=hA_.1; obtain ⟨⟨bQ,bS,bU,bR,bY,bZ,bO,cG,_⟩,⟨S3,c2,c3,p2,hE3,s2,s3,e2,k4,k5,k54,k75,e23,e24,e3,hI⟩⟩:=hA_)
  ·refine ag hI 2 aq rfl (by simpa using hxl) ?_
   exact ⟨hF_.set 0 rfl,⟨S3,c2,c3,p2,hE3,s2,s3,e2,k4,k5,k54,k75,e23,e24,e3,hI⟩⟩
  ·exact ⟨hF_.set 1 rfl,⟨S3,c2,c3,p2,hE3,s2,s3,e2,k4,k5,k54,k75,e23,e24,e3,hI⟩⟩
  ·exact ⟨hF_.set 2 rfl,⟨S3,c2,c3,p2,hE3,s2,s3,e2,k4,k5,k54,k75,e23,e24,e3,hI⟩⟩
  ·refine ag hI 2 aq rfl (by simpa using hxl) ?_
   exact ⟨hF_.set 3 rfl,⟨S3,c2,c3,p2,hE3,s2,s3,e2,k4,k5,k54,k75,e23,e24,e3,hI⟩⟩
  ·obtain rfl:=bU ‹_›
   obtain rfl:=bR ‹_›
   have f5:D 5=false:=Bool.eq_false_iff.2 fun h=>by rw [k54 h] at bw; cases bw
   obtain rfl:=k4 bw
   refine Run.callL gC gA hI (iK x (p1+1) S3 cs (hrd.monoU (hE2.trans hE3).1) (hx.mono hE3.1) (by omega) (by omega)) rfl fun v3 I' S4 w_=>?_
   rintro ⟨p2,hp2,rfl,ds,y,rfl,hy,hwy⟩ hE4 hI
   have hE3:=hE3.trans hE4
   have k4:aB D 4 4=false->p2=p1+1:=fun h=>Bool.noConfusion h
   have k5:aB D 4 5=false->p2<=p1+1+700 * 100001:=fun _=>Nat.le_trans hp2 (Nat.add_le_add_left (Nat.mul_le_mul_left 700 (by omega)) _)
   have k54:aB D 4 5=true->aB D 4 4=true:=fun _=>rfl
   have e23:aB D 4 4=true->∃ ds' y',Value.agg ds.toArray=.agg ds'.toArray/\RdF S4 ds' y'/\wF y'<=101000:=fun _=>⟨ds,y,rfl,hy,by omega⟩
   have e24:aB D 4 5=true->∃ ds y,lY=.agg ds.toArray/\RdF S4 ds y/\wF y<=102000:=fun h=>by have h':D 5=true:=h; rw [f5] at h'; cases h'
   obtain ⟨S3,hS3⟩:∃ a,a=S4:=⟨_,rfl⟩
   subst hS3
   exact ⟨hF_.set 4 (by first|assumption|trivial),⟨S3,c2,c3,p2,hE3,s2,s3,e2,k4,k5,k54,k75,e23,e24,e3,hI⟩⟩
  ·obtain rfl:=bS ‹_›
   have Oi:=bY ‹_›
   obtain ⟨ds,y,rfl,hy,hwy⟩:=e23 ‹D 4=true›
   have hq:=k5 bw
   have f7:D 7=false:=Bool.eq_false_iff.2 fun h=>by rw [k75 h] at bw; cases bw
   refine Run.callL gC gA hI (iK y p2 S3 ds (hrd.monoU (hE2.trans hE3).1) hy (by omega) (by omega)) rfl fun v3 I' S4 w_=>?_
   rintro ⟨p2,hp3,rfl,ds2,y2,rfl,hy2,hwy2⟩ hE4 hI
   have hE3:=hE3.trans hE4
   have k4:aB D 5 4=false->p2=p1+1:=fun h=>by have h':D 4=false:=h; rw [‹D 4=true›] at h'; cases h'
   have k5:aB D 5 5=false->p2<=p1+1+700 * 100001:=fun h=>Bool.noConfusion h
   have k54:aB D 5 5=true->aB D 5 4=true:=fun _=>‹D 4=true›
   have k75:aB D 5 7=true->aB D 5 5=true:=fun _=>rfl
   have e23:aB D 5 4=true->∃ ds' y',Value.agg ds.toArray=.agg ds'.toArray/\RdF S4 ds' y'/\wF y'<=101000:=fun _=>⟨ds,y,rfl,hy.mono hE4.1,hwy⟩
   have e24:aB D 5 5=true->∃ ds' y',Value.agg ds2.toArray=.agg ds'.toArray/\RdF S4 ds' y'/\wF y'<=102000:=fun _=>⟨ds2,y2,rfl,hy2,by omega⟩
   have e3:aB D 5 7=true->Value.agg ds2.toArray=.agg c3:=fun h=>by have h':D 7=true:=h; rw [f7] at h'; cases h'
   obtain ⟨S3,hS3⟩:∃ a,a=S4:=⟨_,rfl⟩
   subst hS3
   exact ⟨hF_.set 5 (by first|assumption|trivial),⟨S3,c2,c3,p2,hE3,s2,s3,e2,k4,k5,k54,k75,e23,e24,e3,hI⟩⟩
  ·obtain rfl:=bQ ‹_›
   refine aj hI 0 rfl aq (by simpa using hxl) s2 (by simpa using hx.one) fun w_ hI=>?_
   obtain ⟨c2,hc2⟩:∃ a,a=cs.toArray:=⟨_,rfl⟩
   have hI:Inv w [] [.blk b2 (.cells c2 af),.blk b3 (.cells c3 af),.blk b6 (.cells cs.toArray af),rdI br sl p2] S3 w_:=by rw [hc2]; exact hI
   have e2:=fun (_:aB D 6 6=true)=>hc2
   have s2:c2.size=6:=by rw [hc2]; simpa using hxl
   exact ⟨hF_.set 6 trivial,⟨S3,c2,c3,p2,hE3,s2,s3,e2,k4,k5,k54,k75,e23,e24,e3,hI⟩⟩
  ·have Kz:=bZ ‹_›
   obtain ⟨ds,y,rfl,hy,hwy⟩:=e24 ‹D 5=true›
   have hyl:=hy.length
   refine aj hI 1 rfl aq (by simpa using hyl) s3 (by simpa using hy.one) fun w_ hI=>?_
   obtain ⟨c3,hc3⟩:∃ a,a=ds.toArray:=⟨_,rfl⟩
   have hI:Inv w [] [.blk b2 (.cells c2 af),.blk b3 (.cells c3 af),.blk b6 (.cells cs.toArray af),rdI br sl p2] S3 w_:=by rw [hc3]; exact hI
   have e3:=fun (_:aB D 7 7=true)=>(by rw [hc3]:Value.agg ds.toArray=.agg c3)
   have s3:c3.size=6:=by rw [hc3]; simpa using hyl
   have k75:aB D 7 7=true->aB D 7 5=true:=fun _=>‹D 5=true›
   exact ⟨hF_.set 7 trivial,⟨S3,c2,c3,p2,hE3,s2,s3,e2,k4,k5,k54,k75,e23,e24,e3,hI⟩⟩
  obtain ⟨rfl,rfl,rfl,rfl,Oi,Kz,_,_,_⟩:=hF_.all
  clear hF_ bQ bS bU bR bY bZ bO cG
  have e2:=e2 (by assumption)
  subst e2
  obtain ⟨ds,y,rfl,hy,hwy⟩:=e24 (by assumption)
  have e3:=e3 (by assumption)
  simp only [Value.agg.injEq] at e3
  subst e3
  have hyl:=hy.length
  refine aS hI 0 aq rfl (by simpa using hxl) ?_
  refine aS hI 1 aq rfl (by simpa using hyl) ?_
  exact ⟨_,[],S3,rfl,hI.nil,hE2.trans hE3,rfl,cs,x,ds,y,rfl,hx.mono hE3.1,hy,by omega,by omega⟩
end
end
end Go.Proofs.YtbocelianhcfmaaGreatDoor

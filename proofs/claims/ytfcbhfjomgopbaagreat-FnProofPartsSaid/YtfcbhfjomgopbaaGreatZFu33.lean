/- spec.l13Mutate, DrawProofValid, DrawCheckProof, DrawProofSize, DrawUsedClauses. -/
import Derived.Test.YtfcbhfjomgopbaaGreatZFu32
import Derived.Test.YtfcbhfjomgopbaaGreatZFu17
import Derived.Test.YtfcbhfjomgopbaaGreatZFu24
namespace Go.Proofs.YtfcbhfjomgopbaaGreat
section
open Go Go.RowKit
theorem O5 {p W wk:Nat} (hwf:W<=110000) (hp:p+700 * (W+1)<=90000000) (h:1+wk<=W):wk<=110000/\p+1+700 * (wk+1)<=90000000/\p+1+700 * (wk+1)<=p+700 * (W+1):=by
 have h1:700 * (wk+1+1)<=700 * (W+1):=Nat.mul_le_mul_left 700 (by omega)
 rw [Nat.mul_add 700 (wk+1) 1] at h1
 generalize 700 * (wk+1)=a at h1 ⊢
 generalize 700 * (W+1)=b at h1 hp ⊢
 refine ⟨by omega,by omega,by omega⟩
theorem Rb:∀ (ks:List PF) (y:PF) (h:0<ks.length),wFL (ks.set 0 y)+wF ks[0]=wFL ks+wF y
 | k::ks,y,_=>by simp only [List.set_cons_zero,wFL,List.getElem_cons_zero]; omega
theorem Om:∀ (ks:List PF),wFL (ks.drop 1)<=wFL ks
 | []=>Nat.le_refl _
 | k::ks=>by simp only [List.drop_succ_cons,List.drop_zero,wFL]; omega
theorem Nr:∀ (a b:List PF),wFL (a++b)=wFL a+wFL b
 | [],b=>by simp [wFL]
 | x::a,b=>by rw [List.cons_append,wFL,wFL,Nr a b]; omega
def muC (w0:World) (X:List Nat) (b5:Nat) (F:Value->Array Value) (B:List Item) (kv:Value) (css:List (List Value)) (t:T) (y:PF) (S:ae) (ji iD lN gr:Value) (w:World):Nat->Prop
 | 0=>rnC w0 X b5 F B kv css y S iD lN gr w 0
 | 1=>∃ S1 a1 a2 a3 a4,ji=.agg #[a1,a2,a3,a4]/\Ext w0.heap.size X S S1/\RdT S1 [a1,a2,a3,a4] t/\Inv w0 X (B++[.blk b5 (.cells (F kv) ag),aK kv ag 6 css]) S1 w
 | n+2=>rnC w0 X b5 F B kv css y S iD lN gr w (n+1)
theorem muC.low {w0 w:World} {X:List Nat} {b5:Nat} {F:Value->Array Value} {B:List Item} {kv:Value} {css:List (List Value)} {t:T} {y:PF} {S:ae} {ji iD lN gr:Value}:∀ {n:Nat},muC w0 X b5 F B kv css t y S ji iD lN gr w n->n<5->∃ R S1,Inv w0 X (B++.blk b5 (.cells (F kv) ag)::R) S1 w
 | 0,h,_=>⟨_,_,h⟩
 | 1,⟨S1,_,_,_,_,_,_,_,h⟩,_=>⟨_,S1,h⟩
 | n+2,h,hn=>rnC.low (n:=n+1) h (by omega)
theorem RdSl.put0 {S S1:ae} {g cap:Nat} {cur:Array Value} {E:TypeId} {fz:Nat × Nat} {css:List (List Value)} {ks:List PF} {cs:List Value} {y:PF} (hR:Rows 6 (RdF S) css ks) (ht:cur.toList.take (css.length * 6)=css.flatten) (hc:css.length<=cap) (hcm:cap<=maxLen) (hs:cur.size=cap * 6)
  (hle:Sle S S1) (hg:S1 g=some (.cells (bx cur 0 cs) E fz)) (hcs:RdF S1 cs y) (h0:0<ks.length):RdSl S1 6 (RdF S1) (.slice (some ⟨g,0,none⟩) ks.length cap) (ks.set 0 y):=by
 have hcy:=hR.hc
 have hlc:=hcs.length
 have hsz:6<=cur.size:=by rw [hs]; omega
 refine ⟨_,cap,by rw [List.length_set],by rw [List.length_set]; omega,hcm,.inr ⟨g,0,_,E,fz,rfl,hg,fun i hi=>?_⟩⟩
 rw [List.length_set] at hi
 rw [Nat.zero_add]
 by_cases e:i=0
 ·subst e
  rw [List.getElem_set_self]
  have:=gA (c:=cur) (o:=0) (vs:=cs) (by omega)
  rw [hlc] at this
  rw [Nat.zero_mul,this]
  exact hcs
 ·rw [List.getElem_set_ne (by omega),iA (by omega) (by omega)]
  have hfa:=gW 6 css i hR.hk (by omega)
  rw [<- ht,List.drop_take,List.take_take,Nat.min_eq_left (by omega)] at hfa
  rw [aH,hfa]
  exact (hR.hR i (by omega) (by omega)).mono hle
section
variable {br:Nat} {sl:Value} {ys:List Nat}
attribute [local irreducible] Run CondV aB aS
abbrev O3 (br:Nat) (sl:Value) (p k m:Nat):Value->List Item->ae->Prop:=fun v I' S'=>∃ p',p'<=p+k/\I'=[rdI br sl p']/\∃ cs y,v=.agg cs.toArray/\RdF S' cs y/\wF y<=m
set_option maxHeartbeats 4000000 in
theorem px:∀ (x:PF) (p:Nat) (S:ae) (cs:List Value),RdSl S 1 iR sl ys->RdF S cs x->wF x<=110000->p+700 * (wF x+1)<=90000000->Tri Tryz.prog tk [rdP br,.agg cs.toArray] [rdI br sl p] S (O3 br sl p (700 * (wF x+1)) (wF x+1000)):=by
 refine PF.ind fun g c ks ih p S cs hrd h hwf hp=>?_
 intro w hI
 obtain ⟨gkv,kp,rfl,hg,hci,hks⟩:=RdF.iff.1 h
 simp only [PF.goal,PF.clause,PF.kids] at hg hci hks ⊢
 obtain ⟨W,hW⟩:∃ W,W=wF (.mk g c ks):=⟨_,rfl⟩
 rw [<- hW] at hwf hp ⊢
 have harith:∀ wk,1+wk<=W->wk<=110000/\p+1+700 * (wk+1)<=90000000/\p+1+700 * (wk+1)<=p+700 * (W+1):=fun wk h=>O5 hwf hp h
 rw [wF] at hW
 obtain ⟨ka,kc,rfl,_⟩:=id hks
 refine pT.2 ?_
 dsimp only[pT,aW]
 refine bf hI fun b3 w' hI=>?_
 refine aD hI dh fun b4 w' hI=>?_
 obtain ⟨B3,hB3⟩:∃ B:Item,B=.blk b3 (.cells #[.int .i64 g.kind,.int .i64 g.n,.string g.name,gkv,.int .i64 c,.slice ka ks.length kc] ag):=⟨_,rfl⟩
 obtain ⟨B4,hB4⟩:∃ B:Item,B=.blk b4 (.cells zP6 ag):=⟨_,rfl⟩
 have e3:=congrArg some hB3
 have e4:=congrArg some hB4
 have hI:Inv w [br] [B3,B4,rdI br sl p] S w':=by rw [hB3,hB4]; exact hI.last 0 rfl
 refine ⟨fun D x5 AD uo xA Cn ox Kl x9 x8 x7 x6 w_=>Fx D 0 [x6=.pointer (some ⟨b3,0,none⟩),x7=.agg #[.int .i64 g.kind,.int .i64 g.n,.string g.name,gkv],True,x9=.pointer (some ⟨b3,4,none⟩),Kl=.int .i64 c,True,Cn=.pointer (some ⟨b3,5,none⟩),xA=.slice ka ks.length kc,True,True,True,True]/\∃ S1 b q css,Ext w.heap.size [br] S S1/\(D 2=true->∃ a1 a2 a3 a4,x8=.agg #[a1,a2,a3,a4]/\RdT S1 [a1,a2,a3,a4] g)/\(D 8=true->D 5=true/\Rows 6 (RdF S) css ks)/\(D 9=true->D 8=true/\∃ a1 a2 a3 a4,AD=.agg #[a1,a2,a3,a4,.int .i64 c,uo]/\RdT S1 [a1,a2,a3,a4] g)/\(D 10=true->x5=.pointer (some ⟨b,0,none⟩))/\(D 11=true->D 10=true/\D 8=true/\∃ a1 a2 a3 a4,q=#[a1,a2,a3,a4,.int .i64 c,uo]/\RdT S1 [a1,a2,a3,a4] g)/\(D 11=false->q=zP6)/\Inv w [br] ([B3,B4,rdI br sl p]++cond (D 5) [cond (D 8) (aK uo ag 6 css) (aK ox ag 6 [])] []++cond (D 10) [.blk b (.cells q ag)] []) S1 w_,⟨Fx.nil _ _,⟨S,0,zP6,[],Ext.refl _ _ _,aV,aV,aV,aV,aV,fun _=>rfl,hI.draw⟩⟩,⟨?_,?_,?_,?_,?_,?_,?_,?_,?_,?_,?_,?_,trivial⟩,?_⟩
 all_goals (intro D bn; intros; rename_i x5 AD uo xA Cn ox Kl x9 x8 x7 x6 w_ hA_; have hF_:=hA_.1; obtain ⟨⟨bR,bQ,bG,bS,bU,bB,bD,cq,ci,cL,bH,bT,_⟩,⟨S1,b,q,css,hE1,f2,f8,f9,f10,f11,z11,hI⟩⟩:=hA_)
 ·refine ai cQ ?_
  exact ⟨hF_.set 0 rfl,⟨S1,b,q,css,hE1,f2,f8,f9,f10,f11,z11,hI⟩⟩
 ·obtain rfl:=bR ‹_›
  refine b0 hI 0 [.int .i64 g.kind,.int .i64 g.n,.string g.name,gkv] ac e3 rfl sH ?_
  exact ⟨hF_.set 1 rfl,⟨S1,b,q,css,hE1,f2,f8,f9,f10,f11,z11,hI⟩⟩
 ·obtain rfl:=bQ ‹_›
  refine Run.call0E eh er hI (eL g S1 _ (hg.mono hE1.1) (by omega)) fun v I' S2 w_=>?_
  rintro ⟨eS,cs',L,rfl,rfl,hT⟩ _ hI
  rw [eS] at hI
  obtain ⟨S2,hI,hE2,hins⟩:=hI.pubExt
  have hrt:=hT.rd hins
  obtain ⟨a1,a2,a3,a4,rfl⟩:=ql hrt.length
  have f2:aG D 2 2=true->∃ b1 b2 b3 b4,Value.agg [a1,a2,a3,a4].toArray=.agg #[b1,b2,b3,b4]/\RdT S2 [b1,b2,b3,b4] g:=fun _=>⟨a1,a2,a3,a4,rfl,hrt⟩
  have f9:aG D 2 9=true->aG D 2 8=true/\∃ a1 a2 a3 a4,AD=.agg #[a1,a2,a3,a4,.int .i64 c,uo]/\RdT S2 [a1,a2,a3,a4] g:=fun h=>by
   obtain ⟨k,b1,b2,b3,b4,e,h⟩:=f9 h
   exact ⟨k,b1,b2,b3,b4,e,h.mono hE2.1⟩
  have f11:aG D 2 11=true->aG D 2 10=true/\aG D 2 8=true/\∃ a1 a2 a3 a4,q=#[a1,a2,a3,a4,.int .i64 c,uo]/\RdT S2 [a1,a2,a3,a4] g:=fun h=>by
   obtain ⟨k,k2,b1,b2,b3,b4,e,h⟩:=f11 h
   exact ⟨k,k2,b1,b2,b3,b4,e,h.mono hE2.1⟩
  obtain ⟨S1,rfl,hE1⟩:∃ S1,S1=S2/\Ext w.heap.size [br] S S1:=⟨S2,rfl,hE1.trans hE2⟩
  exact ⟨hF_.set 2 (by first|assumption|trivial),⟨S1,b,q,css,hE1,f2,f8,f9,f10,f11,z11,hI⟩⟩
 ·refine ai cA ?_
  exact ⟨hF_.set 3 rfl,⟨S1,b,q,css,hE1,f2,f8,f9,f10,f11,z11,hI⟩⟩
 ·obtain rfl:=bS ‹_›
  refine aA hI 0 av e3 rfl ?_
  exact ⟨hF_.set 4 rfl,⟨S1,b,q,css,hE1,f2,f8,f9,f10,f11,z11,hI⟩⟩
 ·have n8:D 8=false:=Bool.eq_false_iff.2 fun h=>by rw [(f8 h).1] at bn; cases bn
  rw [bn,n8] at hI
  refine dD hI gU fun v w_ hI=>?_
  have f8:aG D 5 8=true->aG D 5 5=true/\Rows 6 (RdF S) css ks:=fun h=>⟨rfl,(f8 h).2⟩
  have hI:Inv w [br] ([B3,B4,rdI br sl p]++cond (aG D 5 5) [cond (aG D 5 8) (aK uo ag 6 css) (aK v ag 6 [])] []++cond (aG D 5 10) [.blk b (.cells q ag)] []) S1 w_:=by
   rw [show aG D 5 8=D 8 from rfl,n8]
   refine hI.perm ?_
   show List.Perm ([B3,B4,rdI br sl p]++[aK v ag 6 []]++_) ([B3,B4,rdI br sl p]++[]++_++[aK v ag 6 []])
   rw [List.append_nil,List.append_assoc,List.append_assoc]
   exact List.Perm.append_left _ List.perm_append_comm
  exact ⟨hF_.set 5 (by first|assumption|trivial),⟨S1,b,q,css,hE1,f2,f8,f9,f10,f11,z11,hI⟩⟩
 ·refine ai be ?_
  exact ⟨hF_.set 6 rfl,⟨S1,b,q,css,hE1,f2,f8,f9,f10,f11,z11,hI⟩⟩
 ·obtain rfl:=bD ‹_›
  refine aA hI 0 bk e3 rfl ?_
  exact ⟨hF_.set 7 rfl,⟨S1,b,q,css,hE1,f2,f8,f9,f10,f11,z11,hI⟩⟩
 ·have MX:=bB ‹_›
  obtain rfl:=cq ‹_›
  rw [‹D 5=true›,bn] at hI
  refine eB (css:=[]) hI 3 gU (by omega) rfl (hks.mono hE1.1 fun _ _ h=>h) (fun _ _=>RdF.length) (fun _ _=>RdF.one) (by simp; omega) (by omega) fun v w_ css hR hI=>?_
  have n9:D 9=false:=Bool.eq_false_iff.2 fun h=>by rw [(f9 h).1] at bn; cases bn
  have n11:D 11=false:=Bool.eq_false_iff.2 fun h=>by rw [(f11 h).2.1] at bn; cases bn
  have f8:aG D 8 8=true->aG D 8 5=true/\Rows 6 (RdF S) css ks:=fun _=>⟨‹D 5=true›,hR⟩
  have f9:aG D 8 9=true->aG D 8 8=true/\∃ a1 a2 a3 a4,AD=.agg #[a1,a2,a3,a4,.int .i64 c,v]/\RdT S1 [a1,a2,a3,a4] g:=fun h=>absurd (show D 9=true from h) (by rw [n9]; decide)
  have f11:aG D 8 11=true->aG D 8 10=true/\aG D 8 8=true/\∃ a1 a2 a3 a4,q=#[a1,a2,a3,a4,.int .i64 c,v]/\RdT S1 [a1,a2,a3,a4] g:=fun h=>absurd (show D 11=true from h) (by rw [n11]; decide)
  have hI:Inv w [br] ([B3,B4,rdI br sl p]++cond (aG D 8 5) [cond (aG D 8 8) (aK v ag 6 css) (aK ox ag 6 [])] []++cond (aG D 8 10) [.blk b (.cells q ag)] []) S1 w_:=by
   rw [show aG D 8 5=D 5 from rfl,‹D 5=true›]
   exact hI
  exact ⟨hF_.set 8 (by first|assumption|trivial),⟨S1,b,q,css,hE1,f2,f8,f9,f10,f11,z11,hI⟩⟩
 ·have Pm:=bG ‹_›
  obtain rfl:=bU ‹_›
  have Dt:=ci ‹_›
  obtain ⟨a1,a2,a3,a4,rfl,hrt⟩:=f2 ‹D 2=true›
  have hI2:=hI
  rw [(f8 ‹D 8=true›).1,‹D 8=true›] at hI2
  obtain ⟨qa,qn,qc,rfl⟩:=hI2.rowSl (i:=3) rfl
  refine LG ?_
  have f9:aG D 9 9=true->aG D 9 8=true/\∃ b1 b2 b3 b4,Value.agg #[a1,a2,a3,a4,.int .i64 c,.slice qa qn qc]=.agg #[b1,b2,b3,b4,.int .i64 c,.slice qa qn qc]/\RdT S1 [b1,b2,b3,b4] g:=fun _=>⟨‹D 8=true›,a1,a2,a3,a4,rfl,hrt⟩
  exact ⟨hF_.set 9 (by first|assumption|trivial),⟨S1,b,q,css,hE1,f2,f8,f9,f10,f11,z11,hI⟩⟩
 ·have n11:D 11=false:=Bool.eq_false_iff.2 fun h=>by rw [(f11 h).1] at bn; cases bn
  rw [bn,cond_false,List.append_nil] at hI
  refine aD hI dh fun b w_ hI=>?_
  have f10:aG D 10 10=true->Value.pointer (some ⟨b,0,none⟩)=.pointer (some ⟨b,0,none⟩):=fun _=>rfl
  have f11:aG D 10 11=true->aG D 10 10=true/\aG D 10 8=true/\∃ a1 a2 a3 a4,q=#[a1,a2,a3,a4,.int .i64 c,uo]/\RdT S1 [a1,a2,a3,a4] g:=fun h=>absurd (show D 11=true from h) (by rw [n11]; decide)
  have hI:Inv w [br] ([B3,B4,rdI br sl p]++cond (aG D 10 5) [cond (aG D 10 8) (aK uo ag 6 css) (aK ox ag 6 [])] []++cond (aG D 10 10) [.blk b (.cells q ag)] []) S1 w_:=by
   rw [z11 n11]
   exact hI
  exact ⟨hF_.set 10 (by first|assumption|trivial),⟨S1,b,q,css,hE1,f2,f8,f9,f10,f11,z11,hI⟩⟩
 ·have wB:=bH ‹_›
  have H9:=cL ‹_›
  obtain ⟨_,a1,a2,a3,a4,rfl,hrt⟩:=f9 ‹D 9=true›
  obtain rfl:=f10 ‹D 10=true›
  have h5:=(f8 ‹D 8=true›).1
  rw [h5,‹D 8=true›,‹D 10=true›,z11 bn] at hI
  obtain ⟨qa,qn,qc,rfl⟩:=hI.rowSl (i:=3) rfl
  refine aq (cs:=#[a1,a2,a3,a4,.int .i64 c,.slice qa qn qc]) hI 4 rfl aN rfl rfl (Fk hrt.one rfl) fun w_ hI=>?_
  obtain ⟨q,hq⟩:∃ q:Array Value,q=#[a1,a2,a3,a4,.int .i64 c,.slice qa qn qc]:=⟨_,rfl⟩
  have f11:aG D 11 11=true->aG D 11 10=true/\aG D 11 8=true/\∃ b1 b2 b3 b4,q=#[b1,b2,b3,b4,.int .i64 c,.slice qa qn qc]/\RdT S1 [b1,b2,b3,b4] g:=fun _=>⟨‹D 10=true›,‹D 8=true›,a1,a2,a3,a4,hq,hrt⟩
  have z11:aG D 11 11=false->q=zP6:=fun h=>Bool.noConfusion h
  have hI:Inv w [br] ([B3,B4,rdI br sl p]++cond (aG D 11 5) [cond (aG D 11 8) (aK (.slice qa qn qc) ag 6 css) (aK ox ag 6 [])] []++cond (aG D 11 10) [.blk b (.cells q ag)] []) S1 w_:=by
   rw [show aG D 11 5=D 5 from rfl,h5,show aG D 11 8=D 8 from rfl,‹D 8=true›,show aG D 11 10=D 10 from rfl,‹D 10=true›,hq]
   exact hI
  exact ⟨hF_.set 11 trivial,⟨S1,b,q,css,hE1,f2,f8,f9,f10,f11,z11,hI⟩⟩
 obtain ⟨rfl,rfl,Pm,rfl,rfl,MX,rfl,rfl,Dt,H9,wB,_,_⟩:=hF_.all
 have Uq:D 5=true:=by assumption
 have A8:D 8=true:=by assumption
 have xI:D 10=true:=by assumption
 have jV:D 11=true:=by assumption
 clear hF_ bR bQ bG bS bU bB bD cq ci cL bH bT
 obtain ⟨_,_,a1,a2,a3,a4,rfl,hrt⟩:=f11 jV
 obtain rfl:=f10 xI
 obtain ⟨_,hR⟩:=f8 A8
 have hRc:=hR.hc
 rw [Uq,A8,xI] at hI
 have hIk:=hI
 obtain ⟨qa,qn,qc,rfl⟩:=hI.rowSl (i:=3) rfl
 have hI:Inv w [br] [B3,B4,aK (.slice qa qn qc) ag 6 css,.blk b (.cells #[a1,a2,a3,a4,.int .i64 c,.slice qa qn qc] ag),rdI br sl p] S1 w_:=hIk.last 2 rfl
 have hrd1:=hrd.monoU hE1.1
 refine ⟨fun w'=>∃ (p2:Nat) (S2:ae) (e1 e2 e3 e4:Value) (g2:T) (c2:Int) (kv:Value) (kk:List PF),p2<=p+700 * (W+1)/\Ext w.heap.size [br] S S2/\RdT S2 [e1,e2,e3,e4] g2/\inI c2/\RdSl S2 6 (RdF S2) kv kk/\wT g2+kk.length+wFL kk<=W+1000/\
  Inv w [br] [B3,B4,.blk b (.cells #[e1,e2,e3,e4,.int .i64 c2,kv] ag),rdI br sl p2] S2 w',?_,?_⟩
 ·have hsame:∀ {S2:ae} {p2:Nat} {e1 e2 e3 e4:Value} {g2:T} {c2:Int} {w':World},p2<=p+700 * (W+1)->Ext w.heap.size [br] S1 S2->RdT S2 [e1,e2,e3,e4] g2->inI c2->wT g2<=wT g+1000->
    Inv w [br] [B3,B4,aK (.slice qa qn qc) ag 6 css,.blk b (.cells #[e1,e2,e3,e4,.int .i64 c2,.slice qa qn qc] ag),rdI br sl p2] S2 w'->∃ S3,Ext w.heap.size [br] S2 S3/\RdSl S3 6 (RdF S3) (.slice qa qn qc) ks/\
    Inv w [br] [B3,B4,.blk b (.cells #[e1,e2,e3,e4,.int .i64 c2,.slice qa qn qc] ag),rdI br sl p2] S3 w'/\RdT S3 [e1,e2,e3,e4] g2:=by
   intro S2 p2 e1 e2 e3 e4 g2 c2 w' _ hE2 ht2 _ _ hI
   have hI:Inv w [br] ([B3,B4,.blk b (.cells #[e1,e2,e3,e4,.int .i64 c2,.slice qa qn qc] ag),rdI br sl p2]++[aK (.slice qa qn qc) ag 6 css]) S2 w':=hI.last 2 rfl
   obtain ⟨S3,hE3,hrw,hI⟩:=Inv.lendExt hI
   exact ⟨S3,hE3,RowRd.rows (hR.monoR fun _ _ h=>h.mono (hE1.1.trans (hE2.1.trans hE3.1))) hrw,hI,ht2.mono hE3.1⟩
  refine Run.callL bP bN hI (cY (n:=20) (p:=p) hrd1 (by omega) (by omega)) rfl fun v' I' S' w'=>?_
  rintro ⟨eS,rfl,k,hk,rfl⟩ _ hI
  rw [eS] at hI
  have hI:Inv w [br] [B3,B4,aK (.slice qa qn qc) ag 6 css,.blk b (.cells #[a1,a2,a3,a4,.int .i64 c,.slice qa qn qc] ag),rdI br sl (p+1)] S1 w':=hI
  have hdone:∀ {w':World},Inv w [br] [B3,B4,aK (.slice qa qn qc) ag 6 css,.blk b (.cells #[a1,a2,a3,a4,.int .i64 c,.slice qa qn qc] ag),rdI br sl (p+1)] S1 w'->∃ (p2:Nat) (S2:ae) (e1 e2 e3 e4:Value) (g2:T) (c2:Int) (kv:Value) (kk:List PF),p2<=p+700 * (W+1)/\Ext w.heap.size [br] S S2/\RdT S2 [e1,e2,e3,e4] g2/\inI c2/\RdSl S2 6 (RdF S2) kv kk/\wT g2+kk.length+wFL kk<=W+1000/\
    Inv w [br] [B3,B4,.blk b (.cells #[e1,e2,e3,e4,.int .i64 c2,kv] ag),rdI br sl p2] S2 w':=by
   intro w' hI
   obtain ⟨S3,hE3,hk3,hI,ht3⟩:=hsame (g2:=g) (by omega) (Ext.refl _ _ _) hrt hci (by omega) hI
   exact ⟨_,S3,_,_,_,_,g,c,_,ks,by omega,hE1.trans hE3,ht3,hci,hk3,by omega,hI⟩
  refine aZ ?_
  refine aI (fun h0=>?_) (fun h0=>?_)
  ·refine tP hI (by kernel_rfl) rfl (by omega) fun v S2 w' hE2 hv hI=>?_
   refine Run.callL ez ey hI (i9 (p:=p+1) (hrd1.monoU hE2.1) hv (by decide) (by omega)) rfl fun v' I' S' w'=>?_
   rintro ⟨eS,rfl,n,hn,rfl⟩ _ hI
   rw [eS] at hI
   have hn:=ru (a:=-1000) (b:=1000) hn (by decide)
   have hI:Inv w [br] [B3,B4,aK (.slice qa qn qc) ag 6 css,.blk b (.cells #[a1,a2,a3,a4,.int .i64 c,.slice qa qn qc] ag),rdI br sl (p+2)] S2 w':=hI
   refine cJ hI 3 rfl cA av rfl rfl rfl fun w' hI=>?_
   have hn2:inI n:=⟨by omega,by omega⟩
   obtain ⟨S3,hE3,hk3,hI,ht3⟩:=hsame (p2:=p+2) (c2:=n) (g2:=g) (by omega) hE2 (hrt.mono hE2.1) hn2 (by omega) hI
   exact ⟨_,S3,_,_,_,_,g,n,_,ks,by omega,(hE1.trans hE2).trans hE3,ht3,hn2,hk3,by omega,hI⟩
  refine aZ ?_
  refine aI (fun h1=>?_) (fun h1=>?_)
  ·refine Run.callL jt jG hI (oC 2 (by omega) (p+1) S1 hrd1 (by rw [O6]; omega)) rfl fun v' I' S2 w'=>?_
   rintro ⟨p2,hp2,rfl,ds,u,rfl,hds,hwu,_⟩ hE2 hI
   rw [O6] at hp2 hwu
   refine Run.callL mR mI hI (lg (p:=p2) (hrd1.monoU hE2.1) hds (by omega) (by omega)) rfl fun v' I' S3 w'=>?_
   rintro ⟨p3,hp3,rfl,es,u2,rfl,hes,hwu2⟩ hE3 hI
   obtain ⟨e1,e2,e3,e4,rfl⟩:=ql hes.length
   have hI:Inv w [br] [B3,B4,aK (.slice qa qn qc) ag 6 css,.blk b (.cells #[a1,a2,a3,a4,.int .i64 c,.slice qa qn qc] ag),rdI br sl p3] S3 w':=hI
   refine ai cQ ?_
   refine kP hI 3 rfl ac rfl rfl (by simpa [Value.cells] using hes.one) fun w' hI=>?_
   have hI:Inv w [br] [B3,B4,aK (.slice qa qn qc) ag 6 css,.blk b (.cells #[e1,e2,e3,e4,.int .i64 c,.slice qa qn qc] ag),rdI br sl p3] S3 w':=hI
   obtain ⟨S4,hE4,hk4,hI,ht4⟩:=hsame (p2:=p3) (c2:=c) (g2:=u2) (by omega) (hE2.trans hE3) hes hci (by omega) hI
   exact ⟨_,S4,_,_,_,_,u2,c,_,ks,by omega,((hE1.trans hE2).trans hE3).trans hE4,ht4,hci,hk4,by omega,hI⟩
  refine aZ ?_
  refine aI (fun h2=>?_) (fun h2=>?_)
  ·obtain ⟨F,hF⟩:∃ F:Value->Array Value,F=fun kv=>#[a1,a2,a3,a4,.int .i64 c,kv]:=⟨_,rfl⟩
   have hFv:∀ kv,F kv=#[a1,a2,a3,a4,.int .i64 c,kv]:=fun kv=>by rw [hF]
   obtain ⟨tt,htt⟩:∃ tt:T,tt=.mk 3 0 ⟨#[116,114,117,101]⟩ []:=⟨_,rfl⟩
   have hI:Inv w [br] ([B3,B4,rdI br sl (p+1)]++[.blk b (.cells (F (.slice qa qn qc)) ag),aK (.slice qa qn qc) ag 6 css]) S1 w':=by
    rw [hFv]
    exact (hI.last 2 rfl).perm (((List.Perm.swap _ _ _).cons _ |>.cons _).trans ((List.Perm.refl _)))
   refine ⟨fun D gK gr lN iD ji nU j9 w_=>Fx D 0 [j9=.pointer (some ⟨b,5,none⟩),nU=.slice qa qn qc,True,True,True,True,gK=.pointer (some ⟨b,5,none⟩),True]/\∃ n_:Nat,n_<=5/\D 2=decide (1<=n_)/\D 3=decide (2<=n_)/\D 4=decide (3<=n_)/\D 5=decide (4<=n_)/\D 7=decide (5<=n_)/\(D 7=true->D 1=true)/\(muC w [br] b F [B3,B4,rdI br sl (p+1)] (.slice qa qn qc) css tt (.mk tt (-1) []) S1 ji iD lN gr w_ n_),⟨Fx.nil _ _,⟨0,Nat.zero_le _,rfl,rfl,rfl,rfl,rfl,(aV),hI.draw⟩⟩,⟨?_,?_,?_,?_,?_,?_,?_,?_,trivial⟩,?_⟩
   all_goals (intro D bn; intros; rename_i gK gr lN iD ji nU j9 w_ hA_; have hF_:=hA_.1; obtain ⟨⟨bR,bQ,bG,bS,bU,bB,bD,cq,_⟩,⟨n_,ln_,e1_,e2_,e3_,e4_,e5_,kp_,hS⟩⟩:=hA_)
   ·refine ai be ?_
    exact ⟨hF_.set 0 rfl,⟨n_,ln_,e1_,e2_,e3_,e4_,e5_,kp_,hS⟩⟩
   ·obtain rfl:=bR ‹_›
    have ln2_:=NJ e5_ kp_ bn
    obtain ⟨R,S3,hI⟩:=hS.low ln2_
    rw [hFv] at hI
    refine aA hI 3 bk rfl rfl ?_
    exact ⟨hF_.set 1 rfl,⟨n_,ln_,e1_,e2_,e3_,e4_,e5_,(fun _=>rfl),hS⟩⟩
   ·obtain rfl:n_=0:=rT e1_ bn
    refine Run.call0E dr dv hS (dP ⟨#[116,114,117,101]⟩ (by decide) (jf S1) (by simp)) fun v' I' S3 w_=>?_
    rintro ⟨rfl,ds,rfl,hds⟩ hE3 hI
    rw [List.append_nil] at hI
    obtain ⟨d1,d2,d3,d4,rfl⟩:=ql hds.length
    rw [<- htt] at hds
    have hS:muC w [br] b F [B3,B4,rdI br sl (p+1)] (.slice qa qn qc) css tt (.mk tt (-1) []) S1 (.agg [d1,d2,d3,d4].toArray) iD lN gr w_ 1:=⟨S3,d1,d2,d3,d4,rfl,hE3,hds,hI⟩
    exact ⟨hF_.set 2 (by first|assumption|trivial),⟨1,by decide,rfl,(by first|exact e2_|rfl),(by first|exact e3_|rfl),(by first|exact e4_|rfl),(by first|exact e5_|rfl),kp_,hS⟩⟩
   ·have Pm:=bG ‹_›
    obtain rfl:n_=1:=fD e1_ ‹D 2=true› e2_ bn
    obtain ⟨S3,d1,d2,d3,d4,rfl,hE3,hds,hI⟩:=hS
    refine rB ?_
    have hS:muC w [br] b F [B3,B4,rdI br sl (p+1)] (.slice qa qn qc) css tt (.mk tt (-1) []) S1 (.agg #[d1,d2,d3,d4]) (.agg #[d1,d2,d3,d4,.int .i64 (-1),.slice none 0 0]) lN gr w_ 2:=⟨S3,[d1,d2,d3,d4,.int .i64 (-1),.slice none 0 0],rfl,hE3,by
     obtain ⟨tkv,hte,_⟩:=RdT.iff.1 hds
     simp only [List.cons.injEq,and_true] at hte
     obtain ⟨rfl,rfl,rfl,rfl⟩:=hte
     exact RdF.iff.2 ⟨_,_,rfl,hds,⟨by simp [PF.clause],by simp [PF.clause]⟩,RdSl.nil0 ..⟩,hI⟩
    exact ⟨hF_.set 3 (by first|assumption|trivial),⟨2,by decide,(by first|exact e1_|rfl),rfl,(by first|exact e3_|rfl),(by first|exact e4_|rfl),(by first|exact e5_|rfl),kp_,hS⟩⟩
   ·have KP:=bS ‹_›
    obtain rfl:n_=2:=fD e2_ ‹D 3=true› e3_ bn
    obtain ⟨S3,cs,rfl,hE3,hcs,hI⟩:=hS
    refine dT hI gU (by simpa [Value.cells] using hcs.length) (by omega) (by omega) fun b9 w_ hI=>?_
    obtain ⟨S4,hI,hE4,hb⟩:=Inv.pub1 hI
    have hS:muC w [br] b F [B3,B4,rdI br sl (p+1)] (.slice qa qn qc) css tt (.mk tt (-1) []) S1 ji (.agg cs.toArray) (.slice (some ⟨b9,0,none⟩) 1 1) gr w_ 3:=⟨S4,hE3.trans hE4,RdSl.single hb hcs.length (hcs.mono hE4.1),hI⟩
    exact ⟨hF_.set 4 (by first|assumption|trivial),⟨3,by decide,(by first|exact e1_|rfl),(by first|exact e2_|rfl),rfl,(by first|exact e4_|rfl),(by first|exact e5_|rfl),kp_,hS⟩⟩
   ·obtain rfl:=bQ ‹_›
    have Ql:=bU ‹_›
    obtain rfl:n_=3:=fD e3_ ‹D 4=true› e4_ bn
    obtain ⟨S3,hE3,hrd3,hI⟩:=hS
    refine eB (css:=css) hI 4 gU (by omega) rfl hrd3 (fun _ _=>RdF.length) (fun _ _=>RdF.one) (by simp; omega) (by omega) fun v w_ css2 hR2 hI=>?_
    obtain ⟨c0,hc0⟩:∃ c0,css2=[c0]:=List.length_eq_one_iff.1 hR2.hc
    subst hc0
    have hc0:RdF S3 c0 (.mk tt (-1) []):=hR2.hR 0 (by simp) (by simp)
    have hS:muC w [br] b F [B3,B4,rdI br sl (p+1)] (.slice qa qn qc) css tt (.mk tt (-1) []) S1 ji iD lN v w_ 4:=⟨S3,c0,hE3,hc0,hI⟩
    exact ⟨hF_.set 5 (by first|assumption|trivial),⟨4,by decide,(by first|exact e1_|rfl),(by first|exact e2_|rfl),(by first|exact e3_|rfl),rfl,(by first|exact e5_|rfl),kp_,hS⟩⟩
   ·refine ai be ?_
    exact ⟨hF_.set 6 rfl,⟨n_,ln_,e1_,e2_,e3_,e4_,e5_,kp_,hS⟩⟩
   ·obtain rfl:=bD ‹_›
    have MX:=bB ‹_›
    obtain rfl:n_=4:=fD e4_ ‹D 5=true› e5_ bn
    obtain ⟨S3,cs,hE3,hcs,hI⟩:=hS
    obtain ⟨hv1,hv2⟩:=hI.rowOne (i:=4) rfl
    rw [hFv] at hI
    refine dA hI 3 (b:=b) (o:=5) (n:=1) (by rw [hv1]; rfl) (by rw [bk]; rfl) rfl (by simp) (by rw [hv1]; simpa using hv2) fun w_ hI=>?_
    have hS:muC w [br] b F [B3,B4,rdI br sl (p+1)] (.slice qa qn qc) css tt (.mk tt (-1) []) S1 ji iD lN gr w_ 5:=⟨S3,gr,cs,hE3,hcs,by rw [hFv]; rw [hv1] at hI; exact hI⟩
    exact ⟨hF_.set 7 trivial,⟨5,by decide,(by first|exact e1_|rfl),(by first|exact e2_|rfl),(by first|exact e3_|rfl),(by first|exact e4_|rfl),rfl,(fun _=>‹D 1=true›),hS⟩⟩
   obtain rfl:n_=5:=kB ln_ e5_ ‹D 7=true›
   clear e1_ e2_ e3_ e4_ e5_
   obtain ⟨S3,kv',cs,hE3,hcs,hI⟩:=hS
   obtain ⟨S4,hE4,hrw,hI⟩:=Inv.lendExt (A:=[B3,B4,rdI br sl (p+1),.blk b (.cells (F kv') ag)]) hI
   rw [hFv] at hI
   have hks4:=RowRd.rows (((hR.monoR fun _ _ h=>h.mono (hE1.1.trans hE3.1)).snoc hcs hcs.length).monoR fun _ _ h=>RdF.mono hE4.1 h) hrw
   have et:wF (.mk tt (-1) [])=4:=by rw [htt]; have e:(ByteArray.mk #[116,114,117,101]).size=4:=rfl; simp only [wF,wFL,wT,wL,List.length_nil,e]
   refine ⟨p+1,S4,_,_,_,_,g,c,_,ks++[.mk tt (-1) []],by omega,(hE1.trans hE3).trans hE4,hrt.mono (hE3.trans hE4).1,hci,hks4,?_,hI.last 2 rfl⟩
   rw [List.length_append,Nr]
   simp only [List.length_singleton,wFL]
   omega
  refine aZ ?_
  refine aI (fun h3=>?_) (fun h3=>?_)
  ·obtain ⟨S3,hE3,hk3,hI,ht3⟩:=hsame (g2:=g) (by omega) (Ext.refl _ _ _) hrt hci (by omega) hI
   refine ad hI 2 rfl be bk rfl ?_
   refine aC hk3 bz ?_
   refine dl ?_
   refine aI (fun hl=>?_) (fun hl=>?_)
   ·refine ad hI 2 rfl be bk rfl ?_
    refine fZ (l:=1) bz hk3 (by omega) fun v' hv'=>?_
    refine cJ hI 2 rfl be bk rfl (by obtain ⟨a,m,rfl,_⟩:=hv'; rfl) hv'.sl fun w' hI=>?_
    have:=Om ks
    exact ⟨_,S3,_,_,_,_,g,c,_,ks.drop 1,by omega,hE1.trans hE3,ht3,hci,hv',by rw [List.length_drop]; omega,hI⟩
   ·exact ⟨_,S3,_,_,_,_,g,c,_,ks,by omega,hE1.trans hE3,ht3,hci,hk3,by omega,hI⟩
  refine aZ ?_
  refine aI (fun h4=>?_) (fun h4=>?_)
  ·have hI2:Inv w [br] ([B3,B4,.blk b (.cells #[a1,a2,a3,a4,.int .i64 c,.slice qa qn qc] ag),rdI br sl (p+1)]++[aK (.slice qa qn qc) ag 6 css]) S1 w':=hI.last 2 rfl
   obtain ⟨hlx,ho⟩:=Inv.openRow hI2
   rcases ho with ⟨hz,hz0⟩|⟨gb,cap,cur,hz,hnc,hcm,hcs,ht,hI3⟩
   ·have hq:qn=0:=by
     simp only [Value.slice.injEq] at hz
     exact hz.2.1
    refine ad hI 3 rfl be bk rfl ?_
    refine dK bz ?_
    refine dl ?_
    refine aI (fun hl=>?_) (fun hl=>?_)
    ·omega
    ·exact hdone hI
   refine ad hI 3 rfl be bk rfl ?_
   refine dK bz ?_
   refine dl ?_
   have hqn:qn=css.length:=by
    simp only [Value.slice.injEq] at hz
    exact hz.2.1
   refine aI (fun hl=>?_) (fun hl=>hdone hI)
   rw [hz] at hI3
   have hpos:0<css.length:=by omega
   have hk0l:0<ks.length:=by omega
   have hcz:cur.size=cap * 6:=hcs
   have hk0:RdF S (aH cur (0+0 * 6) 6) ks[0]:=by
    have hfa:=gW 6 css 0 hR.hk (by omega)
    rw [<- ht,List.drop_take,List.take_take,Nat.min_eq_left (by omega)] at hfa
    have e:aH cur (0+0 * 6) 6=css[0]:=hfa
    rw [e]
    exact hR.hR 0 hk0l hpos
   have hwk:=Ba (List.getElem_mem hk0l)
   obtain ⟨wk,hwke⟩:∃ wk,wk=wF ks[0]:=⟨_,rfl⟩
   rw [<- hwke] at hwk
   have hWk:1+wk<=W:=by omega
   have hcallM:∀ (p2:Nat) (S2:ae),p2=p+1->Sle S S2->Tri Tryz.prog tk [rdP br,.agg (aH cur (0+0 * 6) 6).toArray] [rdI br sl p2] S2 (O3 br sl p2 (700 * (wk+1)) (wk+1000)):=by
    intro p2 S2 hp2 hle
    have:=ih ks[0] (List.getElem_mem hk0l) p2 S2 _ (hrd.monoU hle) (hk0.mono hle)
    rw [<- hwke] at this
    obtain ⟨q1,q2,_⟩:=harith wk hWk
    exact this q1 (by rw [hp2]; exact q2)
   have hI:Inv w [br] [B3,B4,.blk b (.cells #[a1,a2,a3,a4,.int .i64 c,.slice (some ⟨gb,0,none⟩) css.length cap] ag),.blk gb (.cells cur ag),rdI br sl (p+1)] S1 w':=hI3.last 3 rfl
   have hixz:∀ {ty:TypeId} {K:Value->World->Prop} {w':World},K (.pointer (some ⟨gb,0,none⟩)) w'->Run Tryz.prog (sOp (.indexAddr FW (.const (.slice (some ⟨gb,0,none⟩) css.length cap)) (.const (.int .i64 0))) ty) w' K:=fun hk=>ar (i:=0) bz hpos hk
   refine ⟨fun D EP yd yc yQ xL yr wS si tJ w_=>Fx D 0 [tJ=.pointer (some ⟨b,5,none⟩),si=.slice (some ⟨gb,0,none⟩) css.length cap,wS=rdP br,yr=.pointer (some ⟨b,5,none⟩),xL=.slice (some ⟨gb,0,none⟩) css.length cap,yQ=.pointer (some ⟨gb,0,none⟩),yc=.agg (aH cur (0+0 * 6) 6).toArray,True,EP=.pointer (some ⟨gb,0,none⟩),True]/\∃ p2 S2 q,(D 7=false->p2=p+1)/\(p2<=p+1+700 * (wk+1))/\Ext w.heap.size [br] S1 S2/\(D 7=true->∃ cs y,yd=.agg (List.toArray cs)/\RdF S2 cs y/\wF y<=wk+1000)/\(D 9=true->D 6=true)/\(D 9=false->q=cur)/\(D 9=true->∃ cs y,q=bx cur 0 cs/\RdF S2 cs y/\wF y<=wk+1000)/\Inv w [br] [B3,B4,.blk b (.cells #[a1,a2,a3,a4,.int .i64 c,.slice (some ⟨gb,0,none⟩) css.length cap] ag),.blk gb (.cells q ag),rdI br sl p2] S2 w_,⟨Fx.nil _ _,⟨p+1,S1,cur,fun _=>rfl,by omega,Ext.refl _ _ _,aV,aV,fun _=>rfl,aV,hI.draw⟩⟩,⟨?_,?_,?_,?_,?_,?_,?_,?_,?_,?_,trivial⟩,?_⟩
   all_goals (intro D bn; intros; rename_i EP yd yc yQ xL yr wS si tJ w_ hA_; have hF_:=hA_.1; obtain ⟨⟨bR,bQ,bG,bS,bU,bB,bD,cq,ci,cL,_⟩,⟨p2,S2,q,z7,hp2,hE2,f7,k9,z9,f9,hI⟩⟩:=hA_)
   ·refine ai be ?_
    exact ⟨hF_.set 0 rfl,⟨p2,S2,q,z7,hp2,hE2,f7,k9,z9,f9,hI⟩⟩
   ·obtain rfl:=bR ‹_›
    refine aA hI 2 bk rfl rfl ?_
    exact ⟨hF_.set 1 rfl,⟨p2,S2,q,z7,hp2,hE2,f7,k9,z9,f9,hI⟩⟩
   ·exact ⟨hF_.set 2 rfl,⟨p2,S2,q,z7,hp2,hE2,f7,k9,z9,f9,hI⟩⟩
   ·refine ai be ?_
    exact ⟨hF_.set 3 rfl,⟨p2,S2,q,z7,hp2,hE2,f7,k9,z9,f9,hI⟩⟩
   ·obtain rfl:=bS ‹_›
    refine aA hI 2 bk rfl rfl ?_
    exact ⟨hF_.set 4 rfl,⟨p2,S2,q,z7,hp2,hE2,f7,k9,z9,f9,hI⟩⟩
   ·obtain rfl:=bU ‹_›
    refine hixz ?_
    exact ⟨hF_.set 5 rfl,⟨p2,S2,q,z7,hp2,hE2,f7,k9,z9,f9,hI⟩⟩
   ·obtain rfl:=bB ‹_›
    have n9:D 9=false:=Bool.eq_false_iff.2 fun h=>by rw [k9 h] at bn; cases bn
    have hI2:=hI
    rw [z9 n9] at hI2
    refine b0 hI2 3 (aH cur (0+0 * 6) 6) aN rfl hk0.length (fun j v hj=>au rfl j v hj) ?_
    have k9:aG D 6 9=true->aG D 6 6=true:=fun _=>rfl
    exact ⟨hF_.set 6 rfl,⟨p2,S2,q,z7,hp2,hE2,f7,k9,z9,f9,hI⟩⟩
   ·obtain rfl:=bG ‹_›
    obtain rfl:=bD ‹_›
    have hpe:=z7 bn
    refine Run.callL (L:=[B3,B4,.blk b _,.blk gb _,rdI br sl p2]) kU lI hI (hcallM p2 S2 hpe (hE1.1.trans hE2.1)) rfl fun v' I' S3 w_=>?_
    rintro ⟨p3,hp3,rfl,cs',y,rfl,hcs',hwy⟩ hE3 hI
    have hI:Inv w [br] [B3,B4,.blk b (.cells #[a1,a2,a3,a4,.int .i64 c,.slice (some ⟨gb,0,none⟩) css.length cap] ag),.blk gb (.cells q ag),rdI br sl p3] S3 w_:=hI
    have z7:aG D 7 7=false->p3=p+1:=fun h=>Bool.noConfusion h
    have hp2:p3<=p+1+700 * (wk+1):=by rw [<- hpe]; exact hp3
    have hE2:=hE2.trans hE3
    have f7:aG D 7 7=true->∃ cs y,Value.agg cs'.toArray=.agg (List.toArray cs)/\RdF S3 cs y/\wF y<=wk+1000:=fun _=>⟨cs',y,rfl,hcs',hwy⟩
    have f9:aG D 7 9=true->∃ cs y,q=bx cur 0 cs/\RdF S3 cs y/\wF y<=wk+1000:=fun h=>by
     obtain ⟨cs2,y2,e,h2,h3⟩:=f9 h
     exact ⟨cs2,y2,e,h2.mono hE3.1,h3⟩
    obtain ⟨p2,rfl⟩:∃ p2,p2=p3:=⟨_,rfl⟩
    obtain ⟨S2,rfl⟩:∃ S2,S2=S3:=⟨_,rfl⟩
    exact ⟨hF_.set 7 (by first|assumption|trivial),⟨p2,S2,q,z7,hp2,hE2,f7,k9,z9,f9,hI⟩⟩
   ·obtain rfl:=bQ ‹_›
    refine hixz ?_
    exact ⟨hF_.set 8 rfl,⟨p2,S2,q,z7,hp2,hE2,f7,k9,z9,f9,hI⟩⟩
   ·obtain rfl:=ci ‹_›
    have AO:=cq ‹_›
    obtain ⟨cs2,y2,rfl,h2,h3⟩:=f7 ‹D 7=true›
    rw [z9 bn] at hI
    refine kP hI 3 rfl aN (by simpa [Value.cells] using h2.length) (by rw [hcz]; exact Nat.ble_eq_true_of_le (by omega)) (by simpa [Value.cells] using h2.one) fun w_ hI=>?_
    have k9:aG D 9 9=true->aG D 9 6=true:=fun _=>by assumption
    obtain ⟨q,hq⟩:∃ q:Array Value,q=bx cur 0 cs2:=⟨_,rfl⟩
    have z9:aG D 9 9=false->q=cur:=fun h=>Bool.noConfusion h
    have f9:aG D 9 9=true->∃ cs y,q=bx cur 0 cs/\RdF S2 cs y/\wF y<=wk+1000:=fun _=>⟨cs2,y2,hq,h2,h3⟩
    have hI:Inv w [br] [B3,B4,.blk b (.cells #[a1,a2,a3,a4,.int .i64 c,.slice (some ⟨gb,0,none⟩) css.length cap] ag),.blk gb (.cells q ag),rdI br sl p2] S2 w_:=by rw [hq]; exact hI
    exact ⟨hF_.set 9 trivial,⟨p2,S2,q,z7,hp2,hE2,f7,k9,z9,f9,hI⟩⟩
   obtain ⟨rfl,rfl,rfl,rfl,rfl,rfl,rfl,AO,rfl,_,_⟩:=hF_.all
   have Hq:D 9=true:=by assumption
   clear hF_ bR bQ bG bS bU bB bD cq ci cL
   obtain ⟨cs2,y2,rfl,h2,h3⟩:=f9 Hq
   have hI:Inv w [br] ([B3,B4,.blk b (.cells #[a1,a2,a3,a4,.int .i64 c,.slice (some ⟨gb,0,none⟩) css.length cap] ag),rdI br sl p2]++[.blk gb (.cells (bx cur 0 cs2) ag)]) S2 w_:=hI.last 3 rfl
   obtain ⟨S3,hI,hE3,hgS⟩:=Inv.pub1 hI
   have hks3:=RdSl.put0 hR ht hnc hcm hcz (hE1.1.trans (hE2.1.trans hE3.1)) hgS (h2.mono hE3.1) hk0l
   rw [<- hRc] at hks3
   have hws:=Rb ks y2 hk0l
   rw [<- hwke] at hws
   have hwq:wT g+ks.length+wFL (ks.set 0 y2)<=W+1000:=by
    generalize wFL (ks.set 0 y2)=v1 at hws ⊢
    generalize wF y2=v2 at hws h3
    omega
   exact ⟨p2,S3,_,_,_,_,g,c,_,ks.set 0 y2,Nat.le_trans hp2 (harith wk hWk).2.2,(hE1.trans hE2).trans hE3,hrt.mono (hE2.1.trans hE3.1),hci,hks3,by rw [List.length_set]; exact hwq,hI⟩
  ·exact hdone hI
 intro _ _ _ _ _ _ _ _ _ _ _ _ _ _ _ _ _ _ _ _ _ _ _ _ _ _ _ _ _ _ _ _ _ _ _ _ _ _ _ _ _ _ _ _ _ _ _ _ _ w'
 rintro ⟨p2,S2,e1,e2,e3',e4',g2,c2,kv,kk,hp2,hE2,ht2,hc2,hkk,hw2,hI⟩
 obtain ⟨tkv,hte,_⟩:=RdT.iff.1 ht2
 simp only [List.cons.injEq,and_true] at hte
 obtain ⟨rfl,rfl,rfl,rfl⟩:=hte
 have hfin:RdF S2 [.int .i64 g2.kind,.int .i64 g2.n,.string g2.name,e4',.int .i64 c2,kv] (.mk g2 c2 kk):=RdF.iff.2 ⟨_,_,rfl,ht2,hc2,hkk⟩
 refine ao hI 2 aN rfl rfl ?_
 refine aq (cs:=#[.int .i64 g2.kind,.int .i64 g2.n,.string g2.name,e4',.int .i64 c2,kv]) hI 1 e4 aN rfl rfl (by simpa using hfin.one) fun w' hI=>?_
 refine aU hI 1 aN rfl rfl ?_
 exact ⟨_,[rdI br sl p2],S2,rfl,hI.pick [false,false,false,true],hE2,p2,hp2,rfl,_,_,rfl,hfin,by rw [wF]; exact hw2⟩
theorem pS {S:ae} {v:Value} (h:RdSl S 1 iR v ys):Tri Tryz.prog ui [v] [] S fun v' I' S'=>I'=[]/\∃ cs x,v'=.agg cs.toArray/\RdF S' cs x/\wF x<=101000:=by
 intro w hI
 refine j0.2 ?_
 dsimp only[j0,aL]
 refine aD hI dh fun b2 w' hI=>?_
 have hI:Inv w [] [.blk b2 (.cells zP6 ag)] S w':=hI
 refine Run.call0E wK uv hI (C2 h) fun v1 I' S1 w'=>?_
 rintro ⟨eS,br,sl,ys',rfl,rfl,hrd⟩ _ hI
 rw [eS] at hI
 have hI:Inv w [] [.blk b2 (.cells zP6 ag),rdI br sl 0] S w':=hI
 refine Run.callL uM wn hI (sx (p:=0) hrd (by omega)) rfl fun v2 I' S2 w'=>?_
 rintro ⟨p1,hp1,rfl,u,cs,ps,x,rfl,hps,hlp,h0,hpv,hx,hwx⟩ hE2 hI
 have hxl:=hx.length
 refine aj (v:=u) rfl ?_
 refine aj (v:=.agg cs.toArray) rfl ?_
 refine aD hI dh fun b5 w' hI=>?_
 have hI:Inv w [] [.blk b2 (.cells zP6 ag),rdI br sl p1,.blk b5 (.cells zP6 ag)] S2 w':=hI
 refine aq hI 2 rfl aN (by simpa using hxl) rfl (by simpa using hx.one) fun w' hI=>?_
 have hI:Inv w [] [.blk b2 (.cells zP6 ag),.blk b5 (.cells cs.toArray ag),rdI br sl p1] S2 w':=hI.last 1 rfl
 refine ao hI 1 aN rfl (by simpa using hxl) ?_
 refine Run.callL kU lI hI (px x p1 S2 cs (hrd.monoU hE2.1) hx (by omega) (by omega)) rfl fun v3 I' S3 w'=>?_
 rintro ⟨p2,hp2,rfl,ds,y,rfl,hy,hwy⟩ hE3 hI
 have hyl:=hy.length
 refine aq hI 0 rfl aN (by simpa using hyl) rfl (by simpa using hy.one) fun w' hI=>?_
 refine aU hI 0 aN rfl (by simpa using hyl) ?_
 exact ⟨_,[],S3,rfl,hI.nil,hE2.trans hE3,rfl,ds,y,rfl,hy,by omega⟩
theorem qq {S:ae} {v:Value} (h:RdSl S 1 iR v ys):Tri Tryz.prog tW [v] [] S fun v' I' S'=>I'=[]/\∃ u cs ps x,v'=.tuple #[u,.agg cs.toArray]/\RdSl S' 5 (RdC S') u ps/\Light 30 900 ps/\RdF S' cs x/\wF x<=101000:=by
 intro w hI
 refine j2.2 ?_
 dsimp only[j2,aL]
 refine aD hI dh fun b3 w' hI=>?_
 have hI:Inv w [] [.blk b3 (.cells zP6 ag)] S w':=hI
 refine Run.call0E wK uv hI (C2 h) fun v1 I' S1 w'=>?_
 rintro ⟨eS,br,sl,ys',rfl,rfl,hrd⟩ _ hI
 rw [eS] at hI
 have hI:Inv w [] [.blk b3 (.cells zP6 ag),rdI br sl 0] S w':=hI
 refine Run.callL uM wn hI (sx (p:=0) hrd (by omega)) rfl fun v2 I' S2 w'=>?_
 rintro ⟨p1,hp1,rfl,u,cs,ps,x,rfl,hps,hlp,h0,hpv,hx,hwx⟩ hE2 hI
 have hxl:=hx.length
 refine aj (v:=u) rfl ?_
 refine aj (v:=.agg cs.toArray) rfl ?_
 refine aD hI dh fun b6 w' hI=>?_
 have hI:Inv w [] [.blk b3 (.cells zP6 ag),rdI br sl p1,.blk b6 (.cells zP6 ag)] S2 w':=hI
 refine aq hI 2 rfl aN (by simpa using hxl) rfl (by simpa using hx.one) fun w' hI=>?_
 have hI:Inv w [] [.blk b3 (.cells zP6 ag),.blk b6 (.cells cs.toArray ag),rdI br sl p1] S2 w':=hI.last 1 rfl
 refine ⟨fun v w'=>∃ (p2:Nat) (S3:ae) (qs:List C),p2<=p1+1+20000/\Ext w.heap.size [] S2 S3/\RdSl S3 5 (RdC S3) v qs/\Light 30 900 qs/\Inv w [] [.blk b3 (.cells zP6 ag),.blk b6 (.cells cs.toArray ag),rdI br sl p2] S3 w',?_,?_⟩
 ·refine Run.callL bP bN hI (cY (n:=3) (p:=p1) (hrd.monoU hE2.1) (by omega) (by omega)) rfl fun v' I' S' w'=>?_
  rintro ⟨eS,rfl,k,hk,rfl⟩ _ hI
  rw [eS] at hI
  have hI:Inv w [] [.blk b3 (.cells zP6 ag),.blk b6 (.cells cs.toArray ag),rdI br sl (p1+1)] S2 w':=hI
  refine aZ ?_
  refine aI (fun _=>?_) (fun _=>?_)
  ·refine Run.callL yK xB hI (uI (m:=200) (p:=p1+1) (hrd.monoU hE2.1) hps ⟨by have:=hlp.1; omega,hlp.2⟩ h0 (by omega) (by omega)) rfl fun v' I' S3 w'=>?_
   rintro ⟨p2,hp2,rfl,qs,hqs,hlq⟩ hE3 hI
   exact ⟨p2,S3,qs,hp2,hE3,hqs,hlq,hI⟩
  ·exact ⟨p1+1,S2,ps,Nat.le_add_right _ _,Ext.refl _ _ _,hps,⟨by have:=hlp.1; omega,fun c hc=>by have:=hlp.2 c hc; omega⟩,hI⟩
 intro q _ _ _ _ _ _ w'
 rintro ⟨p2,S3,qs,hp2,hE3,hqs,hlq,hI⟩
 refine ao hI 1 aN rfl (by simpa using hxl) ?_
 refine Run.callL kU lI hI (px x p2 S3 cs (hrd.monoU (hE2.trans hE3).1) (hx.mono hE3.1) (by omega) (by omega)) rfl fun v3 I' S4 w'=>?_
 rintro ⟨p3,hp3,rfl,ds,y,rfl,hy,hwy⟩ hE4 hI
 have hyl:=hy.length
 refine aq hI 0 rfl aN (by simpa using hyl) rfl (by simpa using hy.one) fun w' hI=>?_
 refine aU hI 0 aN rfl (by simpa using hyl) ?_
 exact ⟨_,[],S4,rfl,hI.nil,(hE2.trans hE3).trans hE4,rfl,_,ds,qs,y,rfl,hqs.monoC hE4.1,hlq,hy,by omega⟩
theorem nZ {S:ae} {v:Value} (h:RdSl S 1 iR v ys):Tri Tryz.prog rM [v] [] S fun v' I' S'=>I'=[]/\∃ cs x,v'=.agg cs.toArray/\RdF S' cs x/\wF x<=101000:=by
 intro w hI
 refine jz.2 ?_
 dsimp only[jz,aL]
 refine aD hI dh fun b2 w' hI=>?_
 have hI:Inv w [] [.blk b2 (.cells zP6 ag)] S w':=hI
 refine Run.call0E rI rX hI (pS h) fun v1 I' S1 w'=>?_
 rintro ⟨rfl,cs,x,rfl,hx,hwx⟩ hE1 hI
 have hxl:=hx.length
 refine aq hI 0 rfl aN (by simpa using hxl) rfl (by simpa using hx.one) fun w' hI=>?_
 refine aU hI 0 aN rfl (by simpa using hxl) ?_
 exact ⟨_,[],S1,rfl,hI.nil,hE1,rfl,cs,x,rfl,hx,hwx⟩
end
end
section
open Go Go.RowKit
section
variable {w:World} {K:Value->World->Prop}
attribute [local irreducible] Run
end
section
variable {S:ae} {ys:List Nat} {v:Value}
attribute [local irreducible] Run CondV aB aS
end
end
end Go.Proofs.YtfcbhfjomgopbaaGreat

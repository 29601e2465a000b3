/- spec.l13Mutate, DrawProofValid, DrawCheckProof, DrawProofSize, DrawUsedClauses. -/
import Derived.Test.YtellfcpffcipcaaGreatDoorZCkA
import Derived.Test.YtellfcpffcipcaaGreatDoorZCk32
import Derived.Test.YtellfcpffcipcaaGreatDoorTie
import Derived.LaidMore
import Derived.LaidLaws
namespace Go.Proofs.YtellfcpffcipcaaGreatDoor
attribute [local irreducible] Run CondV aF aT
section
open Go Go.RowKit
theorem Yu {p W f:Nat} (i:W<=110000) (j:p+700 * (W+1)<=390000000) (h:1+f<=W):f<=110000/\p+1+700 * (f+1)<=390000000/\p+1+700 * (f+1)<=p+700 * (W+1):=by
 have g:700 * (f+1+1)<=700 * (W+1):=Nat.mul_le_mul_left 700 (by omega);rw [Nat.mul_add 700 (f+1) 1] at g;generalize 700 * (f+1)=a at g ⊢;generalize 700 * (W+1)=b at g j ⊢;refine ⟨by omega,by omega,by omega⟩
theorem aaQ:∀ (a:List PF) (y:PF) (h:0<a.length),wFL (a.set 0 y)+wF a[0]=wFL a+wF y
 | k::a,y,_=>by simp only [TY,wFL,pi];omega
theorem Xw:∀ (a:List PF),wFL (a.drop 1)<=wFL a
 | []=>be _
 | k::a=>by simp only [List.drop_succ_cons,yE,wFL];omega
theorem Wi:∀ (a b:List PF),wFL (a++b)=wFL a+wFL b
 | [],b=>by simp [wFL]
 | x::a,b=>by rw [i8,wFL,wFL,Wi a b];omega
def muC (w0:World) (X:List Nat) (b5:Nat) (F:Value->Array Value) (B:List Item) (kv:Value) (css:List (List Value)) (t:T) (y:PF) (S:ae) (mC lK oH jt:Value) (w:World):Nat->Prop
 | 0=>rnC w0 X b5 F B kv css y S lK oH jt w 0
 | 1=>∃ S1 a1 a2 a3 a4,mC=.agg #[a1,a2,a3,a4]/\Ext w0.heap.size X S S1/\RdT S1 [a1,a2,a3,a4] t/\Inv w0 X (B++[.blk b5 (.cells (F kv) ar),aK kv ar 6 css]) S1 w
 | n+2=>rnC w0 X b5 F B kv css y S lK oH jt w (n+1)
theorem muC.low {w0 w:World} {X:List Nat} {a:Nat} {F:Value->Array Value} {B:List Item} {kv:Value} {css:List (hZ)} {t:T} {y:PF} {S:ae} {f g i j:Value}:∀ {n:Nat},muC w0 X a F B kv css t y S f g i j w n->n<5->∃ R S1,Inv w0 X (B++.blk a (.cells (F kv) ar)::R) S1 w
 | 0,h,_=>⟨_,_,h⟩
 | 1,⟨S1,_,_,_,_,_,_,_,h⟩,_=>⟨_,S1,h⟩
 | n+2,h,hn=>rnC.low (n:=n+1) h (by omega)
theorem RdSl.put0 {S S1:ae} {g cap:Nat} {a:Array Value} {E:TypeId} {r:Nat × Nat} {css:List (hZ)} {j:List PF} {cs:hZ} {y:PF} (hR:Rows 6 (RdF S) css j) (t:a.toList.take (css.length * 6)=css.flatten) (hc:css.length<=cap) (l:cap<=maxLen) (B:a.size=cap * 6)
  (m:Sle S S1) (D:S1 g=some (.cells (b0 a 0 cs) E r)) (f:RdF S1 cs y) (N:0<j.length):RdSl S1 6 (RdF S1) (eF g 0 j.length cap) (j.set 0 y):=by
 have J:=hR.hc;have q:=f.length;have M:6<=a.size:=by rw [B];omega
 refine ⟨_,cap,by rw [mQ],by rw [mQ];omega,l,.inr ⟨g,0,_,E,r,rfl,D,fun i G=>?_⟩⟩;rw [mQ] at G;rw [dr];by_cases e:i=0
 ·subst e;rw [Md];have:=jE (c:=a) (o:=0) (vs:=cs) (by omega);rw [q] at this;rw [sz,this];exact f
 ·rw [QC (by omega),lB (by omega) (by omega)];have h:=jc 6 css i hR.hk (by omega);rw [<- t,EX,lW,kJ (by omega)] at h;rw [aO,h];exact (hR.hR i (by omega) (by omega)).mono m
section
variable {br:Nat} {sl:Value} {ys:List Nat}
abbrev Y0 (br:Nat) (sl:Value) (p k m:Nat):Value->List Item->ae->Prop:=fun v I' S'=>∃ p',p'<=p+k/\I'=[rdI br sl p']/\∃ cs y,v=.agg cs.toArray/\RdF S' cs y/\wF y<=m
set_option maxHeartbeats 4000000 in
theorem GR:∀ (x:PF) (p:Nat) (S:ae) (cs:hZ),RdSl S 1 nZ sl ys->RdF S cs x->wF x<=110000->p+700 * (wF x+1)<=390000000->kt yg [rdP br,.agg cs.toArray] [rdI br sl p] S (Y0 br sl p (700 * (wF x+1)) (wF x+1000)):=by
 refine PF.ind fun g c ks ih p S cs i2 h i3 hp=>?_;intro w f;obtain ⟨g5,kp,rfl,hg,a9,g6⟩:=RdF.iff.1 h;simp only [PF.goal,PF.clause,PF.kids] at hg a9 g6 ⊢;obtain ⟨W,hW⟩:∃ W,W=wF (.mk g c ks):=⟨_,rfl⟩
 rw [<- hW] at i3 hp ⊢;have d7:∀ wk,1+wk<=W->wk<=110000/\p+1+700 * (wk+1)<=390000000/\p+1+700 * (wk+1)<=p+700 * (W+1):=fun wk h=>Yu i3 hp h;rw [wF] at hW;obtain ⟨ka,kc,rfl,_⟩:=id g6;apply wK.2;dsimp only[wK,bl];refine bq f fun b3 w' f=>?_;refine aG f fG fun b4 w' f=>?_;obtain ⟨B3,i6⟩:∃ B:Item,B=ay b3 #[ax g.kind,ax g.n,.string g.name,g5,ax c,.slice ka ks.length kc] ar:=⟨_,rfl⟩
 obtain ⟨B4,i7⟩:∃ B:Item,B=ay b4 zP6 ar:=⟨_,rfl⟩
 have e3:=congrArg some i6;have e4:=congrArg some i7;have f:Inv w [br] [B3,B4,rdI br sl p] S w':=by rw [i6,i7];exact f.last 0 rfl
 refine ⟨fun D x5 zZ xw Ld M0 zY P4 x9 x8 x7 x6 w_=>Fx D 0 [x6=ee b3,x7=.agg (gn g g5),True,x9=eu b3 4,P4=ax c,True,M0=eu b3 5,Ld=.slice ka ks.length kc,True,True,True,True]/\∃ S1 b q css,Ext w.heap.size [br] S S1/\(D 2=true->∃ M N O U,x8=.agg #[M,N,O,U]/\RdT S1 [M,N,O,U] g)/\(D 8=true->D 5=true/\Rows 6 (RdF S) css ks)/\(D 9=true->D 8=true/\∃ M N O U,zZ=.agg #[M,N,O,U,ax c,xw]/\RdT S1 [M,N,O,U] g)/\(D 10=true->x5=ee b)/\(D 11=true->D 10=true/\D 8=true/\∃ M N O U,q=#[M,N,O,U,ax c,xw]/\RdT S1 [M,N,O,U] g)/\(D 11=false->q=zP6)/\Inv w [br] ([B3,B4,rdI br sl p]++cond (D 5) [cond (D 8) (aK xw ar 6 css) (aK zY ar 6 [])] []++cond (D 10) [ay b q ar] []) S1 w_,⟨Fx.nil _ _,⟨S,0,zP6,[],Ext.refl _ _ _,aU,aU,aU,aU,aU,fun _=>rfl,f.draw⟩⟩,⟨?_,?_,?_,?_,?_,?_,?_,?_,?_,?_,?_,?_,trivial⟩,?_⟩;all_goals (intro D bw;intros;rename_i x5 zZ xw Ld M0 zY P4 x9 x8 x7 x6 w_ c4;have r:=c4.1;obtain ⟨⟨co,cn,bP,cj,cA,bQ,bO,cM,de,dv,bU,cC,_⟩,⟨S1,b,q,css,J,f2,f8,f9,a0,V,a5,f⟩⟩:=c4)
 apply ah dE;rotate_left
 obtain rfl:=co ‹_›;refine cP f 0 (hJ g g5) ac e3 rfl wg ?_;rotate_left
 obtain rfl:=cn ‹_›;refine Run.call0E fR fQ f (gL g S1 _ (hg.mono J.1) (by omega)) fun v I' S2 w_=>?_;rintro ⟨eS,g1,L,rfl,rfl,hT⟩ _ f;rw [eS] at f;obtain ⟨S2,f,G,i8⟩:=f.pubExt;have a7:=hT.rd i8;obtain ⟨M,N,O,U,rfl⟩:=uR a7.length;have f2:aC D 2 2=true->∃ b1 b2 b3 b4,Value.agg [M,N,O,U].toArray=.agg #[b1,b2,b3,b4]/\RdT S2 [b1,b2,b3,b4] g:=fun _=>⟨M,N,O,U,rfl,a7⟩
 have f9:aC D 2 9=true->aC D 2 8=true/\∃ M N O U,zZ=.agg #[M,N,O,U,ax c,xw]/\RdT S2 [M,N,O,U] g:=fun h=>by
  obtain ⟨k,b1,b2,b3,b4,e,h⟩:=f9 h;exact ⟨k,b1,b2,b3,b4,e,h.mono G.1⟩
 have V:aC D 2 11=true->aC D 2 10=true/\aC D 2 8=true/\∃ M N O U,q=#[M,N,O,U,ax c,xw]/\RdT S2 [M,N,O,U] g:=fun h=>by
  obtain ⟨k,k2,b1,b2,b3,b4,e,h⟩:=V h;exact ⟨k,k2,b1,b2,b3,b4,e,h.mono G.1⟩
 obtain ⟨S1,rfl,J⟩:∃ S1,S1=S2/\Ext w.heap.size [br] S S1:=⟨S2,rfl,J.trans G⟩
 rotate_left;apply ah dF;rotate_left
 obtain rfl:=cj ‹_›;apply aD f 0 aw e3 rfl;rotate_left
 have n8:D 8=false:=bN.2 fun h=>by rw [(f8 h).1] at bw;cases bw
 rw [bw,n8] at f;refine fg f kC fun v w_ f=>?_;have f8:aC D 5 8=true->aC D 5 5=true/\Rows 6 (RdF S) css ks:=fun h=>⟨rfl,(f8 h).2⟩
 have f:Inv w [br] ([B3,B4,rdI br sl p]++cond (aC D 5 5) [cond (aC D 5 8) (aK xw ar 6 css) (aK v ar 6 [])] []++cond (aC D 5 10) [ay b q ar] []) S1 w_:=by
  rw [show aC D 5 8=D 8 from rfl,n8];apply f.perm;show List.Perm ([B3,B4,rdI br sl p]++[aK v ar 6 []]++_) ([B3,B4,rdI br sl p]++[]++_++[aK v ar 6 []]);rw [dc,eY,eY];exact yj _ cT
 rotate_left;apply ah bH;rotate_left
 obtain rfl:=bO ‹_›;apply aD f 0 bT e3 rfl;rotate_left
 have PS:=bQ ‹_›;obtain rfl:=cM ‹_›;rw [‹D 5=true›,bw] at f;refine fZ (css:=[]) f 3 kC (by omega) rfl (g6.mono J.1 fun _ _ h=>h) (fun _ _=>RdF.length) (fun _ _=>RdF.one) (by simp;omega) (by omega) fun v w_ css hR f=>?_;have n9:D 9=false:=bN.2 fun h=>by rw [(f9 h).1] at bw;cases bw
 have f1:D 11=false:=bN.2 fun h=>by rw [(V h).2.1] at bw;cases bw
 have f8:aC D 8 8=true->aC D 8 5=true/\Rows 6 (RdF S) css ks:=fun _=>⟨‹D 5=true›,hR⟩
 have f9:aC D 8 9=true->aC D 8 8=true/\∃ M N O U,zZ=.agg #[M,N,O,U,ax c,v]/\RdT S1 [M,N,O,U] g:=fun h=>absurd (show D 9=true from h) (by rw [n9];decide);have V:aC D 8 11=true->aC D 8 10=true/\aC D 8 8=true/\∃ M N O U,q=#[M,N,O,U,ax c,v]/\RdT S1 [M,N,O,U] g:=fun h=>absurd (show D 11=true from h) (by rw [f1];decide);have f:Inv w [br] ([B3,B4,rdI br sl p]++cond (aC D 8 5) [cond (aC D 8 8) (aK v ar 6 css) (aK zY ar 6 [])] []++cond (aC D 8 10) [ay b q ar] []) S1 w_:=by
  rw [show aC D 8 5=D 5 from rfl,‹D 5=true›];exact f
 rotate_left;have i9:=bP ‹_›;obtain rfl:=cA ‹_›;have Db:=de ‹_›;obtain ⟨M,N,O,U,rfl,a7⟩:=f2 ‹D 2=true›;have d0:=f;rw [(f8 ‹D 8=true›).1,‹D 8=true›] at d0;obtain ⟨qa,Y,qc,rfl⟩:=d0.rowSl (i:=3) rfl;apply VQ;have f9:aC D 9 9=true->aC D 9 8=true/\∃ b1 b2 b3 b4,Value.agg #[M,N,O,U,ax c,.slice qa Y qc]=.agg #[b1,b2,b3,b4,ax c,.slice qa Y qc]/\RdT S1 [b1,b2,b3,b4] g:=fun _=>⟨‹D 8=true›,M,N,O,U,rfl,a7⟩
 rotate_left;have f1:D 11=false:=bN.2 fun h=>by rw [(V h).1] at bw;cases bw
 rw [bw,cond_false,dc] at f;refine aG f fG fun b w_ f=>?_;have a0:aC D 10 10=true->Value.pointer (some ⟨b,0,none⟩)=ee b:=fun _=>rfl;have V:aC D 10 11=true->aC D 10 10=true/\aC D 10 8=true/\∃ M N O U,q=#[M,N,O,U,ax c,xw]/\RdT S1 [M,N,O,U] g:=fun h=>absurd (show D 11=true from h) (by rw [f1];decide);have f:Inv w [br] ([B3,B4,rdI br sl p]++cond (aC D 10 5) [cond (aC D 10 8) (aK xw ar 6 css) (aK zY ar 6 [])] []++cond (aC D 10 10) [ay b q ar] []) S1 w_:=by
  rw [a5 f1];exact f
 rotate_left;have xE:=bU ‹_›;have K2:=dv ‹_›;obtain ⟨_,M,N,O,U,rfl,a7⟩:=f9 ‹D 9=true›;obtain rfl:=a0 ‹D 10=true›;have h5:=(f8 ‹D 8=true›).1;rw [h5,‹D 8=true›,‹D 10=true›,a5 bw] at f;obtain ⟨qa,Y,qc,rfl⟩:=f.rowSl (i:=3) rfl;refine aq (cs:=#[M,N,O,U,ax c,.slice qa Y qc]) f 4 rfl bp rfl rfl (MF a7.one rfl) fun w_ f=>?_;obtain ⟨q,hq⟩:∃ q:Array Value,q=#[M,N,O,U,ax c,.slice qa Y qc]:=⟨_,rfl⟩
 have V:aC D 11 11=true->aC D 11 10=true/\aC D 11 8=true/\∃ b1 b2 b3 b4,q=#[b1,b2,b3,b4,ax c,.slice qa Y qc]/\RdT S1 [b1,b2,b3,b4] g:=fun _=>⟨‹D 10=true›,‹D 8=true›,M,N,O,U,hq,a7⟩
 have a5:aC D 11 11=false->q=zP6:=fun h=>Bool.noConfusion h;have f:Inv w [br] ([B3,B4,rdI br sl p]++cond (aC D 11 5) [cond (aC D 11 8) (aK (.slice qa Y qc) ar 6 css) (aK zY ar 6 [])] []++cond (aC D 11 10) [ay b q ar] []) S1 w_:=by
  rw [show aC D 11 5=D 5 from rfl,h5,show aC D 11 8=D 8 from rfl,‹D 8=true›,show aC D 11 10=D 10 from rfl,‹D 10=true›,hq];exact f
 rotate_left
 all_goals try exact ⟨r.set _ (by first|rfl|assumption|trivial),S1,b,q,css,J,f2,f8,f9,a0,V,a5,f⟩
 obtain ⟨rfl,rfl,i9,rfl,rfl,PS,rfl,rfl,Db,K2,xE,_,_⟩:=r.all;have l5:D 5=true:=by assumption
 have Dc:D 8=true:=by assumption
 have Dg:D 10=true:=by assumption
 have nH:D 11=true:=by assumption
 clear r;obtain ⟨_,_,M,N,O,U,rfl,a7⟩:=V nH;obtain rfl:=a0 Dg;obtain ⟨_,hR⟩:=f8 Dc;have l6:=hR.hc;rw [l5,Dc,Dg] at f;have l7:=f;obtain ⟨qa,Y,qc,rfl⟩:=f.rowSl (i:=3) rfl;have f:Inv w [br] [B3,B4,aK (.slice qa Y qc) ar 6 css,ay b #[M,N,O,U,ax c,.slice qa Y qc] ar,rdI br sl p] S1 w_:=l7.last 2 rfl;have d9:=i2.monoU J.1;refine ⟨fun w'=>∃ (p2:Nat) (S2:ae) (e1 e2 e3 e4:Value) (g2:T) (c2:Int) (kv:Value) (kk:List PF),p2<=p+700 * (W+1)/\Ext w.heap.size [br] S S2/\RdT S2 [e1,e2,e3,e4] g2/\inI c2/\RdSl S2 6 (RdF S2) kv kk/\wT g2+kk.length+wFL kk<=W+1000/\
  Inv w [br] [B3,B4,ay b #[e1,e2,e3,e4,ax c2,kv] ar,rdI br sl p2] S2 w',?_,?_⟩
 ·have c3:∀ {S2:ae} {p2:Nat} {e1 e2 e3 e4:Value} {g2:T} {c2:Int} {w':World},p2<=p+700 * (W+1)->Ext w.heap.size [br] S1 S2->RdT S2 [e1,e2,e3,e4] g2->inI c2->wT g2<=wT g+1000->
    Inv w [br] [B3,B4,aK (.slice qa Y qc) ar 6 css,ay b #[e1,e2,e3,e4,ax c2,.slice qa Y qc] ar,rdI br sl p2] S2 w'->∃ S3,Ext w.heap.size [br] S2 S3/\RdSl S3 6 (RdF S3) (.slice qa Y qc) ks/\
    Inv w [br] [B3,B4,ay b #[e1,e2,e3,e4,ax c2,.slice qa Y qc] ar,rdI br sl p2] S3 w'/\RdT S3 [e1,e2,e3,e4] g2:=by
   intro S2 p2 e1 e2 e3 e4 g2 c2 w' _ G e9 _ _ f;have f:Inv w [br] ([B3,B4,ay b #[e1,e2,e3,e4,ax c2,.slice qa Y qc] ar,rdI br sl p2]++[aK (.slice qa Y qc) ar 6 css]) S2 w':=f.last 2 rfl;obtain ⟨S3,t,g7,f⟩:=Inv.lendExt f;exact ⟨S3,t,RowRd.rows (hR.monoR fun _ _ h=>h.mono (J.1.trans (G.1.trans t.1))) g7,f,e9.mono t.1⟩
  refine Run.callL cG cH f (dU (n:=20) (p:=p) d9 (by omega) (by omega)) rfl fun v' I' S' w'=>?_;rintro ⟨eS,rfl,k,hk,rfl⟩ _ f;rw [eS] at f;have f:Inv w [br] [B3,B4,aK (.slice qa Y qc) ar 6 css,ay b #[M,N,O,U,ax c,.slice qa Y qc] ar,rdI br sl (p+1)] S1 w':=f;have d6:∀ {w':World},Inv w [br] [B3,B4,aK (.slice qa Y qc) ar 6 css,ay b #[M,N,O,U,ax c,.slice qa Y qc] ar,rdI br sl (p+1)] S1 w'->∃ (p2:Nat) (S2:ae) (e1 e2 e3 e4:Value) (g2:T) (c2:Int) (kv:Value) (kk:List PF),p2<=p+700 * (W+1)/\Ext w.heap.size [br] S S2/\RdT S2 [e1,e2,e3,e4] g2/\inI c2/\RdSl S2 6 (RdF S2) kv kk/\wT g2+kk.length+wFL kk<=W+1000/\
    Inv w [br] [B3,B4,ay b #[e1,e2,e3,e4,ax c2,kv] ar,rdI br sl p2] S2 w':=by
   intro w' f;obtain ⟨S3,t,c8,f,e0⟩:=c3 (g2:=g) (by omega) (Ext.refl _ _ _) a7 a9 (by omega) f;exact ⟨_,S3,_,_,_,_,g,c,_,ks,by omega,J.trans t,e0,a9,c8,by omega,f⟩
  refine bn (aJ (fun h0=>?_) (fun h0=>?_))
  ·refine zS f (by kernel_rfl) rfl (by omega) fun v S2 w' G hv f=>?_;refine Run.callL gf gg f (mv (p:=p+1) (d9.monoU G.1) hv (by decide) (by omega)) rfl fun v' I' S' w'=>?_;rintro ⟨eS,rfl,n,hn,rfl⟩ _ f;rw [eS] at f;have hn:=xp (a:=-1000) (b:=1000) hn (by decide);have f:Inv w [br] [B3,B4,aK (.slice qa Y qc) ar 6 css,ay b #[M,N,O,U,ax c,.slice qa Y qc] ar,rdI br sl (p+2)] S2 w':=f;refine cX f 3 rfl dF aw rfl rfl rfl fun w' f=>?_;have j2:inI n:=⟨by omega,by omega⟩
   obtain ⟨S3,t,c8,f,e0⟩:=c3 (p2:=p+2) (c2:=n) (g2:=g) (by omega) G (a7.mono G.1) j2 (by omega) f;exact ⟨_,S3,_,_,_,_,g,n,_,ks,by omega,(J.trans G).trans t,e0,j2,c8,by omega,f⟩
  refine bn (aJ (fun h1=>?_) (fun h1=>?_))
  ·refine Run.callL mL mU f (sJ 2 (by omega) (p+1) S1 d9 (by rw [Za];omega)) rfl fun v' I' S2 w'=>?_;rintro ⟨p2,Z,rfl,ds,u,rfl,c5,k3,_⟩ G f;rw [Za] at Z k3;refine Run.callL qV qQ f (oY (p:=p2) (d9.monoU G.1) c5 (by omega) (by omega)) rfl fun v' I' S3 w'=>?_;rintro ⟨p3,h7,rfl,es,u2,rfl,g3,m2⟩ t f;obtain ⟨e1,e2,e3,e4,rfl⟩:=uR g3.length;refine ah dE (rX f 3 rfl ac rfl rfl (by simpa [Value.cells] using g3.one) fun w' f=>?_);have f:Inv w [br] [B3,B4,aK (.slice qa Y qc) ar 6 css,ay b #[e1,e2,e3,e4,ax c,.slice qa Y qc] ar,rdI br sl p3] S3 w':=f;obtain ⟨S4,c6,k8,f,l0⟩:=c3 (p2:=p3) (c2:=c) (g2:=u2) (by omega) (G.trans t) g3 a9 (by omega) f;exact ⟨_,S4,_,_,_,_,u2,c,_,ks,by omega,((J.trans G).trans t).trans c6,l0,a9,k8,by omega,f⟩
  refine bn (aJ (fun h2=>?_) (fun h2=>?_))
  ·obtain ⟨F,hF⟩:∃ F:Value->Array Value,F=fun kv=>#[M,N,O,U,ax c,kv]:=⟨_,rfl⟩
   have e8:∀ kv,F kv=#[M,N,O,U,ax c,kv]:=fun kv=>by rw [hF]
   obtain ⟨tt,j0⟩:∃ tt:T,tt=.mk 3 0 ⟨#[116,114,117,101]⟩ []:=⟨_,rfl⟩
   have f:Inv w [br] ([B3,B4,rdI br sl (p+1)]++[ay b (F (.slice qa Y qc)) ar,aK (.slice qa Y qc) ar 6 css]) S1 w':=by
    rw [e8];exact (f.last 2 rfl).perm (((List.Perm.swap _ _ _).cons _ |>.cons _).trans ((List.Perm.refl _)))
   refine ⟨fun D j7 jt oH lK mC r7 og w_=>Fx D 0 [og=eu b 5,r7=.slice qa Y qc,True,True,True,True,j7=eu b 5,True]/\∃ n_:Nat,n_<=5/\D 2=decide (1<=n_)/\D 3=decide (2<=n_)/\D 4=decide (3<=n_)/\D 5=decide (4<=n_)/\D 7=decide (5<=n_)/\(D 7=true->D 1=true)/\(muC w [br] b F [B3,B4,rdI br sl (p+1)] (.slice qa Y qc) css tt (.mk tt (-1) []) S1 mC lK oH jt w_ n_),⟨Fx.nil _ _,⟨0,bf _,rfl,rfl,rfl,rfl,rfl,(aU),f.draw⟩⟩,⟨?_,?_,?_,?_,?_,?_,?_,?_,trivial⟩,?_⟩;all_goals (intro D bw;intros;rename_i j7 jt oH lK mC r7 og w_ c4;have r:=c4.1;obtain ⟨⟨co,cn,bP,cj,cA,bQ,bO,cM,_⟩,⟨n_,f0,b5,b6,b7,b8,a8,c9,hS⟩⟩:=c4)
   ·apply ah bH;exact ⟨r.set 0 rfl,n_,f0,b5,b6,b7,b8,a8,c9,hS⟩
   ·obtain rfl:=co ‹_›;have j3:=X1 a8 c9 bw;obtain ⟨R,S3,f⟩:=hS.low j3;rw [e8] at f;apply aD f 3 bT rfl rfl;exact ⟨r.set 1 rfl,n_,f0,b5,b6,b7,b8,a8,(fun _=>rfl),hS⟩
   ·obtain rfl:n_=0:=Af b5 bw;refine Run.call0E eA eC hS (fq ⟨#[116,114,117,101]⟩ (by decide) (mJ S1) (by simp)) fun v' I' S3 w_=>?_;rintro ⟨rfl,ds,rfl,c5⟩ t f;rw [dc] at f;obtain ⟨d1,d2,d3,d4,rfl⟩:=uR c5.length;rw [<- j0] at c5;have hS:muC w [br] b F [B3,B4,rdI br sl (p+1)] (.slice qa Y qc) css tt (.mk tt (-1) []) S1 (.agg [d1,d2,d3,d4].toArray) lK oH jt w_ 1:=⟨S3,d1,d2,d3,d4,rfl,t,c5,f⟩
    exact ⟨r.set 2 (by first|assumption|trivial),1,by decide,rfl,(by first|exact b6|rfl),(by first|exact b7|rfl),(by first|exact b8|rfl),(by first|exact a8|rfl),c9,hS⟩
   ·have i9:=bP ‹_›;obtain rfl:n_=1:=iY b5 ‹D 2=true› b6 bw;obtain ⟨S3,d1,d2,d3,d4,rfl,t,c5,f⟩:=hS;refine xe ?_;have hS:muC w [br] b F [B3,B4,rdI br sl (p+1)] (.slice qa Y qc) css tt (.mk tt (-1) []) S1 (.agg #[d1,d2,d3,d4]) (.agg #[d1,d2,d3,d4,ax (-1),hV]) oH jt w_ 2:=⟨S3,[d1,d2,d3,d4,ax (-1),hV],rfl,t,by
     obtain ⟨l1,e6,_⟩:=RdT.iff.1 c5;simp only [gV,i0] at e6;obtain ⟨rfl,rfl,rfl,rfl⟩:=e6;exact RdF.iff.2 ⟨_,_,rfl,c5,⟨by simp [PF.clause],by simp [PF.clause]⟩,RdSl.nil0 ..⟩,f⟩
    exact ⟨r.set 3 (by first|assumption|trivial),2,by decide,(by first|exact b5|rfl),rfl,(by first|exact b7|rfl),(by first|exact b8|rfl),(by first|exact a8|rfl),c9,hS⟩
   ·have SV:=cj ‹_›;obtain rfl:n_=2:=iY b6 ‹D 3=true› b7 bw;obtain ⟨S3,cs,rfl,t,c1,f⟩:=hS;refine dQ f kC (by simpa [Value.cells] using c1.length) (by omega) (by omega) fun b9 w_ f=>?_;obtain ⟨S4,f,c6,hb⟩:=Inv.pub1 f;have hS:muC w [br] b F [B3,B4,rdI br sl (p+1)] (.slice qa Y qc) css tt (.mk tt (-1) []) S1 mC (.agg cs.toArray) (eF b9 0 1 1) jt w_ 3:=⟨S4,t.trans c6,RdSl.single hb c1.length (c1.mono c6.1),f⟩
    exact ⟨r.set 4 (by first|assumption|trivial),3,by decide,(by first|exact b5|rfl),(by first|exact b6|rfl),rfl,(by first|exact b8|rfl),(by first|exact a8|rfl),c9,hS⟩
   ·obtain rfl:=cn ‹_›;have Ot:=cA ‹_›;obtain rfl:n_=3:=iY b7 ‹D 4=true› b8 bw;obtain ⟨S3,t,j1,f⟩:=hS;refine fZ (css:=css) f 4 kC (by omega) rfl j1 (fun _ _=>RdF.length) (fun _ _=>RdF.one) (by simp;omega) (by omega) fun v w_ i4 i5 f=>?_;obtain ⟨c0,g8⟩:∃ c0,i4=[c0]:=List.length_eq_one_iff.1 i5.hc;subst g8;have g8:RdF S3 c0 (.mk tt (-1) []):=i5.hR 0 (by simp) (by simp);have hS:muC w [br] b F [B3,B4,rdI br sl (p+1)] (.slice qa Y qc) css tt (.mk tt (-1) []) S1 mC lK oH v w_ 4:=⟨S3,c0,t,g8,f⟩
    exact ⟨r.set 5 (by first|assumption|trivial),4,by decide,(by first|exact b5|rfl),(by first|exact b6|rfl),(by first|exact b7|rfl),rfl,(by first|exact a8|rfl),c9,hS⟩
   ·apply ah bH;exact ⟨r.set 6 rfl,n_,f0,b5,b6,b7,b8,a8,c9,hS⟩
   ·obtain rfl:=bO ‹_›;have PS:=bQ ‹_›;obtain rfl:n_=4:=iY b8 ‹D 5=true› a8 bw;obtain ⟨S3,cs,t,c1,f⟩:=hS;obtain ⟨g9,l2⟩:=f.rowOne (i:=4) rfl;rw [e8] at f;refine dD f 3 (b:=b) (o:=5) (n:=1) (by rw [g9];rfl) (by rw [bT];rfl) rfl (by simp) (by rw [g9];simpa using l2) fun w_ f=>?_;have hS:muC w [br] b F [B3,B4,rdI br sl (p+1)] (.slice qa Y qc) css tt (.mk tt (-1) []) S1 mC lK oH jt w_ 5:=⟨S3,jt,cs,t,c1,by rw [e8];rw [g9] at f;exact f⟩
    exact ⟨r.set 7 trivial,5,by decide,(by first|exact b5|rfl),(by first|exact b6|rfl),(by first|exact b7|rfl),(by first|exact b8|rfl),rfl,(fun _=>‹D 1=true›),hS⟩
   obtain rfl:n_=5:=pH f0 a8 ‹D 7=true›;clear b5 b6 b7 b8 a8;obtain ⟨S3,l3,cs,t,c1,f⟩:=hS;obtain ⟨S4,c6,g7,f⟩:=Inv.lendExt (A:=[B3,B4,rdI br sl (p+1),ay b (F l3) ar]) f;rw [e8] at f;have j4:=RowRd.rows (((hR.monoR fun _ _ h=>h.mono (J.1.trans t.1)).snoc c1 c1.length).monoR fun _ _ h=>RdF.mono c6.1 h) g7;have et:wF (.mk tt (-1) [])=4:=by rw [j0];have e:(ByteArray.mk #[116,114,117,101]).size=4:=rfl;simp only [wF,wFL,wT,wL,cB,e]
   refine ⟨p+1,S4,_,_,_,_,g,c,_,ks++[.mk tt (-1) []],by omega,(J.trans t).trans c6,a7.mono (t.trans c6).1,a9,j4,?_,f.last 2 rfl⟩;rw [bK,Wi];simp only [sg,wFL];omega
  refine bn (aJ (fun h3=>?_) (fun h3=>?_))
  ·obtain ⟨S3,t,c8,f,e0⟩:=c3 (g2:=g) (by omega) (Ext.refl _ _ _) a7 a9 (by omega) f;refine ad f 2 rfl bH bT rfl (aI c8 cK (ew (aJ (fun hl=>?_) (fun hl=>?_))))
   ·refine ad f 2 rfl bH bT rfl (ju (l:=1) cK c8 (by omega) fun v' g4=>?_);refine cX f 2 rfl bH bT rfl (by obtain ⟨a,m,rfl,_⟩:=g4;rfl) g4.sl fun w' f=>?_;have:=Xw ks;exact ⟨_,S3,_,_,_,_,g,c,_,ks.drop 1,by omega,J.trans t,e0,a9,g4,by rw [nJ];omega,f⟩
   ·exact ⟨_,S3,_,_,_,_,g,c,_,ks,by omega,J.trans t,e0,a9,c8,by omega,f⟩
  refine bn (aJ (fun h4=>?_) (fun h4=>?_))
  ·have d0:Inv w [br] ([B3,B4,ay b #[M,N,O,U,ax c,.slice qa Y qc] ar,rdI br sl (p+1)]++[aK (.slice qa Y qc) ar 6 css]) S1 w':=f.last 2 rfl;obtain ⟨m4,ho⟩:=Inv.openRow d0;rcases ho with ⟨hz,m6⟩|⟨gb,cap,a6,hz,m0,m1,c1,ht,k1⟩
   ·have hq:Y=0:=by
     simp only [Value.slice.injEq] at hz;exact hz.2.1
    refine ad f 3 rfl bH bT rfl (fJ cK (ew (aJ (fun hl=>?_) (fun hl=>?_))))
    ·omega
    ·exact d6 f
   refine ad f 3 rfl bH bT rfl (fJ cK (ew ?_));have m5:Y=css.length:=by
    simp only [Value.slice.injEq] at hz;exact hz.2.1
   refine aJ (fun hl=>?_) (fun hl=>d6 f);rw [hz] at k1;have f4:0<css.length:=by omega
   have c7:0<ks.length:=by omega
   have j5:a6.size=cap * 6:=c1;have j6:RdF S (aO a6 (0+0 * 6) 6) ks[0]:=by
    have j8:=jc 6 css 0 hR.hk (by omega);rw [<- ht,EX,lW,kJ (by omega)] at j8;have e:aO a6 (0+0 * 6) 6=css[0]:=j8;rw [e];exact hR.hR 0 c7 f4
   have l8:=Hh (bJ c7);obtain ⟨wk,e7⟩:∃ wk,wk=wF ks[0]:=⟨_,rfl⟩
   rw [<- e7] at l8;have j9:1+wk<=W:=by omega
   have f3:∀ (p2:Nat) (S2:ae),p2=p+1->Sle S S2->kt yg [rdP br,.agg (aO a6 (0+0 * 6) 6).toArray] [rdI br sl p2] S2 (Y0 br sl p2 (700 * (wk+1)) (wk+1000)):=by
    intro p2 S2 Z h8;have:=ih ks[0] (bJ c7) p2 S2 _ (i2.monoU h8) (j6.mono h8);rw [<- e7] at this;obtain ⟨q1,q2,_⟩:=d7 wk j9;exact this q1 (by rw [Z];exact q2)
   have f:Inv w [br] [B3,B4,ay b #[M,N,O,U,ax c,eF gb 0 css.length cap] ar,ay gb a6 ar,rdI br sl (p+1)] S1 w':=k1.last 3 rfl;have f5:∀ {ty:TypeId} {K:Value->World->Prop} {w':World},K (ee gb) w'->Run Tryz.prog (sOp (.indexAddr MH (.const (eF gb 0 css.length cap)) (.const (ax 0))) ty) w' K:=fun hk=>az (i:=0) cK f4 hk;refine ⟨fun D Me z5 xN yU xj xH vC uk uB w_=>Fx D 0 [uB=eu b 5,uk=eF gb 0 css.length cap,vC=rdP br,xH=eu b 5,xj=eF gb 0 css.length cap,yU=ee gb,xN=.agg (aO a6 (0+0 * 6) 6).toArray,True,Me=ee gb,True]/\∃ p2 S2 q,(D 7=false->p2=p+1)/\(p2<=p+1+700 * (wk+1))/\Ext w.heap.size [br] S1 S2/\(D 7=true->∃ cs y,z5=.agg (List.toArray cs)/\RdF S2 cs y/\wF y<=wk+1000)/\(D 9=true->D 6=true)/\(D 9=false->q=a6)/\(D 9=true->∃ cs y,q=b0 a6 0 cs/\RdF S2 cs y/\wF y<=wk+1000)/\Inv w [br] [B3,B4,ay b #[M,N,O,U,ax c,eF gb 0 css.length cap] ar,ay gb q ar,rdI br sl p2] S2 w_,⟨Fx.nil _ _,⟨p+1,S1,a6,fun _=>rfl,by omega,Ext.refl _ _ _,aU,aU,fun _=>rfl,aU,f.draw⟩⟩,⟨?_,?_,?_,?_,?_,?_,?_,?_,?_,?_,trivial⟩,?_⟩;all_goals (intro D bw;intros;rename_i Me z5 xN yU xj xH vC uk uB w_ c4;have r:=c4.1;obtain ⟨⟨co,cn,bP,cj,cA,bQ,bO,cM,de,dv,_⟩,⟨p2,S2,q,z7,Z,G,f7,k9,z9,f9,f⟩⟩:=c4)
   apply ah bH;rotate_left
   obtain rfl:=co ‹_›;apply aD f 2 bT rfl rfl;rotate_left;rotate_left
   apply ah bH;rotate_left
   obtain rfl:=cj ‹_›;apply aD f 2 bT rfl rfl;rotate_left
   obtain rfl:=cA ‹_›;apply f5;rotate_left
   obtain rfl:=bQ ‹_›;have n9:D 9=false:=bN.2 fun h=>by rw [k9 h] at bw;cases bw
   have d0:=f;rw [z9 n9] at d0;refine cP d0 3 (aO a6 (0+0 * 6) 6) bp rfl j6.length (fun j v hj=>aA rfl j v hj) ?_;have k9:aC D 6 9=true->aC D 6 6=true:=fun _=>rfl
   rotate_left;obtain rfl:=bP ‹_›;obtain rfl:=bO ‹_›;have k0:=z7 bw;refine Run.callL (L:=[B3,B4,.blk b _,.blk gb _,rdI br sl p2]) vx wy f (f3 p2 S2 k0 (J.1.trans G.1)) rfl fun v' I' S3 w_=>?_;rintro ⟨p3,h7,rfl,g1,y,rfl,h9,k4⟩ t f;have f:Inv w [br] [B3,B4,ay b #[M,N,O,U,ax c,eF gb 0 css.length cap] ar,ay gb q ar,rdI br sl p3] S3 w_:=f;have z7:aC D 7 7=false->p3=p+1:=fun h=>Bool.noConfusion h;have Z:p3<=p+1+700 * (wk+1):=by rw [<- k0];exact h7
   have G:=G.trans t;have f7:aC D 7 7=true->∃ cs y,Value.agg g1.toArray=.agg (List.toArray cs)/\RdF S3 cs y/\wF y<=wk+1000:=fun _=>⟨g1,y,rfl,h9,k4⟩
   have f9:aC D 7 9=true->∃ cs y,q=b0 a6 0 cs/\RdF S3 cs y/\wF y<=wk+1000:=fun h=>by
    obtain ⟨e5,y2,e,h2,h3⟩:=f9 h;exact ⟨e5,y2,e,h2.mono t.1,h3⟩
   obtain ⟨p2,rfl⟩:∃ p2,p2=p3:=⟨_,rfl⟩
   obtain ⟨S2,rfl⟩:∃ S2,S2=S3:=⟨_,rfl⟩
   rotate_left;obtain rfl:=cn ‹_›;apply f5;rotate_left
   obtain rfl:=de ‹_›;have Fi:=cM ‹_›;obtain ⟨e5,y2,rfl,h2,h3⟩:=f7 ‹D 7=true›;rw [z9 bw] at f;refine rX f 3 rfl bp (by simpa [Value.cells] using h2.length) (by rw [j5];exact Uj (by omega)) (by simpa [Value.cells] using h2.one) fun w_ f=>?_;have k9:aC D 9 9=true->aC D 9 6=true:=fun _=>by assumption
   obtain ⟨q,hq⟩:∃ q:Array Value,q=b0 a6 0 e5:=⟨_,rfl⟩
   have z9:aC D 9 9=false->q=a6:=fun h=>Bool.noConfusion h;have f9:aC D 9 9=true->∃ cs y,q=b0 a6 0 cs/\RdF S2 cs y/\wF y<=wk+1000:=fun _=>⟨e5,y2,hq,h2,h3⟩
   have f:Inv w [br] [B3,B4,ay b #[M,N,O,U,ax c,eF gb 0 css.length cap] ar,ay gb q ar,rdI br sl p2] S2 w_:=by rw [hq];exact f
   rotate_left
   all_goals try exact ⟨r.set _ (by first|rfl|assumption|trivial),p2,S2,q,z7,Z,G,f7,k9,z9,f9,f⟩
   obtain ⟨rfl,rfl,rfl,rfl,rfl,rfl,rfl,Fi,rfl,_,_⟩:=r.all;have Og:D 9=true:=by assumption
   clear r;obtain ⟨e5,y2,rfl,h2,h3⟩:=f9 Og;have f:Inv w [br] ([B3,B4,ay b #[M,N,O,U,ax c,eF gb 0 css.length cap] ar,rdI br sl p2]++[ay gb (b0 a6 0 e5) ar]) S2 w_:=f.last 3 rfl;obtain ⟨S3,f,t,l4⟩:=Inv.pub1 f;have f6:=RdSl.put0 hR ht m0 m1 j5 (J.1.trans (G.1.trans t.1)) l4 (h2.mono t.1) c7;rw [<- l6] at f6;have h6:=aaQ ks y2 c7;rw [<- e7] at h6;have l9:wT g+ks.length+wFL (ks.set 0 y2)<=W+1000:=by
    generalize wFL (ks.set 0 y2)=v1 at h6 ⊢;generalize wF y2=v2 at h6 h3;omega
   exact ⟨p2,S3,_,_,_,_,g,c,_,ks.set 0 y2,gM Z (d7 wk j9).2.2,(J.trans G).trans t,a7.mono (G.1.trans t.1),a9,f6,by rw [mQ];exact l9,f⟩
  ·exact d6 f
 (iterate 49 intro);intro w';rintro ⟨p2,S2,e1,e2,m3,i1,g2,c2,kv,kk,Z,G,e9,k5,k6,k7,f⟩;obtain ⟨l1,e6,_⟩:=RdT.iff.1 e9;simp only [gV,i0] at e6;obtain ⟨rfl,rfl,rfl,rfl⟩:=e6;have g0:RdF S2 [ax g2.kind,ax g2.n,.string g2.name,i1,ax c2,kv] (.mk g2 c2 kk):=RdF.iff.2 ⟨_,_,rfl,e9,k5,k6⟩;refine av f 2 bp rfl rfl (aq (cs:=#[ax g2.kind,ax g2.n,.string g2.name,i1,ax c2,kv]) f 1 e4 bp rfl rfl (by simpa using g0.one) fun w' f=>?_);apply bm f 1 bp rfl rfl;exact ⟨_,[rdI br sl p2],S2,rfl,f.pick [false,false,false,true],G,p2,Z,rfl,_,_,rfl,g0,by rw [wF];exact k7⟩
theorem vw {S:ae} {v:Value} (h:RdSl S 1 nZ v ys):kt zR [v] [] S fun v' I' S'=>I'=[]/\∃ u cs O x,v'=.tuple #[u,.agg cs.toArray]/\RdSl S' 5 (RdC S') u O/\Light 30 900 O/\RdF S' cs x/\wF x<=101000:=by
 intro w a;apply nO.2;dsimp only[nO,aR];refine aG a fG fun B w' a=>?_;have a:Inv w [] [ay B zP6 ar] S w':=a;refine Run.call0E NP OY a (TG h) fun v1 I' S1 w'=>?_;rintro ⟨V,br,sl,a0,rfl,rfl,g⟩ _ a;rw [V] at a;have a:Inv w [] [ay B zP6 ar,rdI br sl 0] S w':=a;refine Run.callL NU N3 a (LF (p:=0) g (by omega)) rfl fun v2 I' S2 w'=>?_;rintro ⟨l,a1,rfl,u,cs,O,x,rfl,D,i,h0,a2,Y,a3⟩ j a;have M:=Y.length;refine al (v:=u) rfl (al (v:=.agg cs.toArray) rfl (aG a fG fun U w' a=>?_));refine aq a 2 rfl bp (by simpa using M) rfl (by simpa using Y.one) fun w' a=>?_;have a:Inv w [] [ay B zP6 ar,ay U cs.toArray ar,rdI br sl l] S2 w':=a.last 1 rfl;refine ⟨fun v w'=>∃ (p2:Nat) (S3:ae) (t:List C),p2<=l+1+20000/\Ext w.heap.size [] S2 S3/\RdSl S3 5 (RdC S3) v t/\Light 30 900 t/\Inv w [] [ay B zP6 ar,ay U cs.toArray ar,rdI br sl p2] S3 w',?_,?_⟩
 ·refine Run.callL cG cH a (dU (n:=3) (p:=l) (g.monoU j.1) (by omega) (by omega)) rfl fun v' I' S' w'=>?_;rintro ⟨V,rfl,k,hk,rfl⟩ _ a;rw [V] at a;have a:Inv w [] [ay B zP6 ar,ay U cs.toArray ar,rdI br sl (l+1)] S2 w':=a;refine bn (aJ (fun _=>?_) (fun _=>?_))
  ·refine Run.callL DP Ex a (C1 (m:=200) (p:=l+1) (g.monoU j.1) D ⟨by have:=i.1;omega,i.2⟩ h0 (by omega) (by omega)) rfl fun v' I' S3 w'=>?_;rintro ⟨p2,G,rfl,t,o,r⟩ f a;exact ⟨p2,S3,t,G,f,o,r,a⟩
  ·exact ⟨l+1,S2,O,s3 _ _,Ext.refl _ _ _,D,⟨by have:=i.1;omega,fun c hc=>by have:=i.2 c hc;omega⟩,a⟩
 intro q _ _ _ _ _ _ w';rintro ⟨p2,S3,t,G,f,o,r,a⟩;refine av a 1 bp rfl (by simpa using M) (Run.callL vx wy a (GR x p2 S3 cs (g.monoU (j.trans f).1) (Y.mono f.1) (by omega) (by omega)) rfl fun v3 I' S4 w'=>?_);rintro ⟨p3,a4,rfl,ds,y,rfl,Z,a5⟩ J a;have N:=Z.length;refine aq a 0 rfl bp (by simpa using N) rfl (by simpa using Z.one) fun w' a=>?_;refine bm a 0 bp rfl (by simpa using N) ?_;exact ⟨_,[],S4,rfl,a.nil,(j.trans f).trans J,rfl,_,ds,t,y,rfl,o.monoC J.1,r,Z,by omega⟩
end
end
section
open Go Go.RowKit
end
section
open Go Go.RowKit
end
section
open Go Go.RowKit
section
variable {w:World} {K:Value->World->Prop}
end
section
variable {S:ae} {ys:List Nat} {v:Value}
end
end
section
open Go Go.RowKit
section
variable {br:Nat} {sl:Value} {ys:List Nat} {S:ae}
end
end
section
open Go Go.RowKit
section
variable {w w0:World} {X:List Nat} {L A:List Item} {S:ae} {K:Value->World->Prop}
end
end
section
open Go Go.RowKit
section
variable {w0 w:World} {X:List Nat} {L:List Item} {S:ae} {K:Value->World->Prop} {ys:List Nat} {v:Value}
theorem Light.fit {q:List C} (h:Light 30 900 q):q.length+wP q<=1048576:=by
 have:=h.le;omega
end
end
section
open Go Go.RowKit
section
variable {w:World} {K:Value->World->Prop}
theorem UH {sb:Nat} {a p2:Option Addr} {f g h i:Nat} {fuel:Int} {b:Bool}
  (hk:K (.agg #[ee sb,.slice a f h,.slice p2 g i,.bool b,.bool false,ax fuel,ax 0,ax 26,.pointer none,hV,hV,ax 0]) w) :
  Run Tryz.prog (bZ sx [(0,ee sb),(1,.slice a f h),(2,.slice p2 g i),(5,ax fuel),(3,.bool b),(7,ax 26)]) w K:=by
 refine Run.of (v:=.agg #[ee sb,.slice a f h,.slice p2 g i,.bool b,.bool false,ax fuel,ax 0,ax 26,.pointer none,hV,hV,ax 0]) (w':=w) ?_ hk;unfold bZ;rw [Sem.run_bind,run_build w sx _ #[ee sb,.slice a f h,.slice p2 g i,.bool b,.bool false,ax fuel,ax 0,ax 26,.pointer none,hV,hV,ax 0] (by kernel_rfl),Result.andThen_ok];rfl
end
section
theorem Inv.rowLeM {w0 w:World} {X:List Nat} {L:List Item} {S:ae} (h:Inv w0 X L S w) {i k n:Nat} {e:TypeId} {v:Value} {xs:hZ} (a:L[i]?=some (.row v e k n xs)):n<=maxLen:=by
 have f:w.ownsRow 0 e k v n xs:=h.its (.row v e k n xs) (cJ a);rcases f.2 with ⟨rfl,hn⟩|⟨g,cap,j,rfl,_,_,hn,hc,_⟩
 ·rw [hn];exact bf _
 ·exact gM hn hc
theorem Hd {p:List C} {q:List T} {S:ae} {h i:Value} (t:RdSl S 5 (RdC S) h p) (m:RdSl S 4 (RdT S) i q) (fuel:Int) :
  kt LI [h,i,ax fuel,.bool false] [] S fun x I' S'=>∃ sp sb mb r,x=ee sp/\GL S' r (jb q).goals/\
   I'=uY sp sb mb h i false fuel 0 26 r (hV) [] (hV) [] 0 #[] 0 (hV) []:=by
 intro w a;obtain ⟨D,f,rfl,-⟩:=id t;obtain ⟨G,g,rfl,-⟩:=id m;apply vy.2;dsimp only[vy,lQ];refine Run.call0 yl yA a (wa S) fun B I' S' w'=>?_;rintro ⟨rfl,sb,mb,rfl,rfl⟩ _ a;refine UH (bq a fun sp w' a=>?_);refine Run.call0E QE RP a (M1 (cut:=0) (up:=-1) m GL.nil) fun B I' S1 w'=>?_;rintro ⟨rfl,j⟩ l a;have a:=a.sub (eh _ _);obtain ⟨o,rfl⟩:=j.ptr;refine aH (cX a 3 rfl jD eO rfl rfl rfl fun w' a=>?_);have a:=(a.rowNil fk 9).rowNil nV 6;have a:Inv w [] (aN sb mb #[] 0 (hV) []++[g7 sp (eW sb (.slice D p.length f) (.slice G q.length g) false fuel 0 26 (.pointer o) (hV) (hV) 0),chI (hV) [],noI (hV) []]) S1 w':=a;refine ⟨_,_,S1,rfl,a.perm (cT (l₂:=aN sb mb #[] 0 (hV) [])),l,sp,sb,mb,.pointer o,rfl,?_,rfl⟩;rw [dc] at j;exact j
theorem HE {p:List C} {q:List T} {S:ae} {f g:Value} (h:RdSl S 5 (RdC S) f p) (i:RdSl S 4 (RdT S) g q) {most fuel:Nat} (l:most<=20) (hf:fuel<=300) :
  ll NF [f,g,ax (most:Int),ax (fuel:Int)] S (.bool (dZ p && eJ q)):=by
 intro w a;apply yi.2;dsimp only[yi,lQ];refine Run.callPure lH ly a (jL h) fun w' a=>?_;have e1:(decide ((0:Int)<=(most:Int)) && decide ((most:Int)<=20))=true:=by simp;omega
 have e2:(decide ((0:Int)<=(fuel:Int)) && decide ((fuel:Int)<=300))=true:=by simp;omega
 cases m:dZ p
 ·refine rpG ?_;exact done a rfl
 ·refine rpG ?_;refine Run.callPure Ha GZ a (BN i) fun w' a=>?_;cases j:eJ q
  ·refine rpG ?_;exact done a rfl
  ·refine rpG ?_;refine Run.callPure iA iv a (gK _ _ _ S) fun w' a=>?_;rw [e1];refine rpG ?_;refine Run.callPure iA iv a (gK _ _ _ S) fun w' a=>?_;rw [e2];refine rpG ?_;exact done a rfl
set_option maxHeartbeats 2000000 in
theorem RI {p:List C} {q:List T} {S:ae} {pv qv:Value} (h4:RdSl S 5 (RdC S) pv p) (hq:RdSl S 4 (RdT S) qv q) {most fuel:Nat} (hm:most<=20) (hf:fuel<=300) {r:List (List T) × Int} (hr:SolR p q most fuel r) :
  kt XI [pv,qv,ax (most:Int),ax (fuel:Int),.bool false] [] S fun x I' S'=>I'=[]/\∃ v,x=.tuple #[v,ax r.2]/\RdSl S' 1 (RdAns S') v r.1:=by
 intro w l;apply IO.2;dsimp only[IO,LY];refine Run.callPure Lf KS l (HE h4 hq hm hf) fun w' l=>?_;apply cq;rcases hr with ⟨hb,hr⟩|⟨hb,rfl⟩
 ·rw [hb];refine aE (fun h=>by cases h) (fun _=>?_);have D:=hb;rw [aZ] at D;obtain ⟨f1,f2,f3⟩:=kM D.1;obtain ⟨g1,g2,g3⟩:=zi D.2;refine Run.call0E Jc Ig l (Hd h4 hq fuel) fun v' I' S1 w'=>?_;rintro ⟨sp,sb,mb,gv,rfl,hG,rfl⟩ J l;have a0:=pl D.2 p.length;have a1:(jb q).st.length=26:=by show (List.replicate 26 (none:Option T)).length=26;simp
  have hK:SeaK S1 (jb q).chs (jb q).nodes (jb q).st [] [] #[] [] []:=by
   refine ⟨KnownM.none S1 26,Rows.nil _ _,Rows.nil _ _,.nil,?_⟩;show ([]:List Int).length+unb (List.replicate 26 none)<=(List.replicate 26 (none:Option T)).length;rw [Ay];simp
  have b5:26 * p.length * (fuel+1)<=520 * 301:=DY (by omega) (by omega);have b2:act p fuel (jb q):=by
   refine ⟨a0,by omega,?_,?_,?_⟩
   ·rw [a1];show 26+26 * 0+_<=_;omega
   ·show 0+fuel<=_;omega
   ·show 0+fuel<=_;omega
  refine Run.callE (A:=[]) GB Hb l (by
   have:=XP f1 f2 (by omega) (by omega) hr b2 g1 g2 (by omega) (fuel:=fuel) (used:=0) (H1 _) (by omega) (by omega) (h4.monoC J.1) (hq.monoT J.1) hG hK (sp:=sp) (sb:=sb) (mb:=mb) (ck:=0) (mo:=0) (cv:=hV) (nv:=hV) (tv:=hV);rw [a1] at this;exact this) fun v' I' S2 w'=>?_
  rintro ⟨v,css,rfl,rfl,hR⟩ a5 l;have b3:=hr.small f1 g1 g2 a0 (by omega) (by simp);refine al rfl ?_;refine al rfl ?_;refine mG l 0 rfl nl ?_;have b7:=hR.hc;have a2:=J.trans a5;have l:Inv w [] [aK v gy 1 css] S2 w':=l;refine ⟨fun i w'=>∃ (k:Nat) (a:List (hZ)) (S3:ae),k<=css.length/\i=ax (k:Int)/\a.length=css.length/\Ext w.heap.size [] S2 S3/\Rows 1 (RdAns S3) a r.1/\Inv w [] [.row v gy 1 css.length a.flatten] S3 w',
   fun i _=>css.length - (intOf i).toNat,⟨0,css,S2,bf _,rfl,rfl,Ext.refl _ _ _,hR,l⟩,?_⟩
  clear l;intro ii _ _ _ _ _ _ _ _ _ _ _ _ _ _ w';rintro ⟨k,a,S3,hk,rfl,B,O,m,l⟩;refine bM (aJ (fun a8=>?_) (fun a8=>?_))
  ·have t:k<a.length:=by omega
   have a3:k<r.1.length:=by omega
   have b4:=l.rowLeM (i:=0) rfl;simp only [maxLen] at b4;rw [<- B] at l;obtain ⟨u,hu,U⟩:=m.hR k a3 t;obtain ⟨g,cap,hv,N⟩:=l.rowPtr (i:=0) rfl t m.hk;subst hv;obtain ⟨ua,V,rfl,-⟩:=id U;have a4:=b3 _ (bJ a3);refine az nl t ?_;refine bV (cs:=[.slice ua r.1[k].length V]) Im rfl (fun j x hj=>by
    rw [dr];exact N j x (by rw [hu];exact hj)) ?_
   refine aG l TU fun b6 w' l=>?_;refine aq l 1 rfl Im rfl rfl (by simp [Value.oneCell']) fun w' l=>?_;apply ad l 1 rfl CN aj rfl;have l:Inv w [] [aK (eF g 0 a.length cap) gy 1 a] S3 _:=l.sub (eh [_] [_]);refine Run.call0E Da CP l (Kx U a4) fun v' I' S5 w'=>?_;rintro ⟨rfl,M,rfl,hT⟩ a6 a7;obtain ⟨S9,a9,b0,Y⟩:=Inv.pubExt a7;have hn:=hT.rd Y fun _ _ _ hi h=>h.rd hi;obtain ⟨na,o,rfl,-⟩:=id hn;refine az nl t (ah CN (Jv a9 0 (j:=k) (f:=0) rfl aj t (by omega) (by omega) m.hk rfl rfl fun w' l=>?_));have G:=a6.trans b0;refine bA (by omega) ?_;refine ⟨⟨k+1,a.set k (a[k].set 0 (.slice na r.1[k].length o)),S9,by omega,rfl,by rw [mQ,B],O.trans G,?_,?_⟩,by simp only [intOf,dq];omega⟩
   ·have h9:=(m.monoR fun _ _=>RdAns.mono G.1).set k (cs:=a[k].set 0 (.slice na r.1[k].length o)) (y:=r.1[k]) ⟨_,by rw [hu];rfl,hn⟩ (by rw [hu];rfl)
    rwa [List.set_getElem_self] at h9
   ·have l:Inv w [] [aK (eF g 0 a.length cap) gy 1 (a.set k (a[k].set 0 (.slice na r.1[k].length o)))] S9 _:=l;rw [aK,mQ] at l;rw [<- B];exact l
  ·rw [<- B] at l;have l:Inv w [] ([]++[aK v gy 1 a]) S3 _:=l;obtain ⟨S4,Z,b1,l⟩:=l.lendExt;exact ⟨_,_,S4,rfl,l,(a2.trans O).trans Z,rfl,v,rfl,RowRd.rows (m.monoR fun _ _=>RdAns.mono Z.1) b1⟩
 ·rw [hb];refine aE (fun _=>?_) (fun h=>by cases h);exact ⟨_,_,S,rfl,l,Ext.refl _ _ _,rfl,_,rfl,none,0,rfl,be _,bf _,.inl rfl⟩
theorem P5 {p:List C} {q:List T} {S:ae} {g h:Value} (i:RdSl S 5 (RdC S) g p) (j:RdSl S 4 (RdT S) h q) {most fuel:Nat} (l:most<=20) (hf:fuel<=300) {r:List (List T) × Int} (m:SolR p q most fuel r) :
  kt Xm [g,h,ax (most:Int),ax (fuel:Int)] [] S fun x I' S'=>I'=[]/\∃ v,x=.tuple #[v,ax r.2]/\RdSl S' 1 (RdAns S') v r.1:=by
 intro w a;apply Jg.2;dsimp only[Jg,lQ];refine Run.call0E Ub Tk a (RI i j l hf m) fun o I' S1 w'=>?_;rintro ⟨rfl,v,rfl,hR⟩ f a;refine al rfl (al rfl ?_);exact ⟨_,_,S1,rfl,a,f,rfl,v,rfl,hR⟩
end
end
section
open Go Go.RowKit
section
variable {S:ae} {ys:List Nat} {v:Value}
theorem GE (h:RdSl S 1 nZ v ys):ll dM [v] S (.bool true):=by
 intro w a;apply qr.2;dsimp only[qr,aR];refine aI h fW (ew ?_);refine aJ (fun _=>done a rfl) (fun _=>?_);refine Run.call0E xO xR a (vw h) fun v1 I' S1 w'=>?_;rintro ⟨rfl,u,cs,p,x,rfl,g,B,N,Y⟩ i a;have f:=N;have a1:=B.le;have M:=g.le;simp only [maxLen] at M;obtain ⟨ua,uc,rfl,_⟩:=id g;obtain ⟨kv,kp,rfl,hg,_,_⟩:=RdF.iff.1 N;refine al (v:=.slice ua p.length uc) rfl (al (v:=.agg [ax x.goal.kind,ax x.goal.n,.string x.goal.name,kv,ax x.clause,kp].toArray) rfl (aG a fG fun O w' a=>?_));refine aq a 0 rfl bp rfl rfl (by simpa using f.one) fun w' a=>?_;have a:Inv w [] [ay O #[ax x.goal.kind,ax x.goal.n,.string x.goal.name,kv,ax x.clause,kp] ar] S1 w':=a;refine av a 0 bp rfl rfl (Run.callPure Hc Gz a (zX g f) fun w' a=>?_);refine ⟨fun q w'=>q=.bool (!checkB p x || (!CD p || decide (x.clause<0)))/\Inv w [] [ay O #[ax x.goal.kind,ax x.goal.n,.string x.goal.name,kv,ax x.clause,kp] ar] S1 w',?_,?_⟩
 ·refine av a 0 bp rfl rfl (Run.callPure uf tB a (oV g f (by omega) (by omega)) fun w' a=>?_);apply Vj B0;rw [Tl];refine rpG ?_;apply cq;cases hc:checkB p x
  ·refine rpG ?_;exact ⟨rfl,a⟩
  ·refine rpG ?_;refine Run.callPure El D2 a (LA g) fun w' a=>?_;apply cq;cases l:CD p
   ·refine rpG ?_;exact ⟨rfl,a⟩
   ·refine rpG ?_;refine ad a 0 rfl dF aw rfl (bM ?_);refine rpG ?_;exact ⟨rfl,a⟩
 intro q;(iterate 18 intro);intro w';rintro ⟨rfl,a⟩;refine aE (fun _=>?_) (fun U=>?_)
 ·refine av a 0 bp rfl rfl (Run.callPure uf tB a (oV g f (by omega) (by omega)) fun w' a=>?_);apply ab3 B0;exact iN a i.1 (by rw [Tl])
 rw [Hy,Hy,rW,rW,nt] at U;obtain ⟨J,l,a0⟩:=U;obtain ⟨r,V⟩:=SolR.ex p [x.goal] 20 300;have m:=Pu J l (by omega) V;refine ah dE (cP a 0 (hJ x.goal kv) ac rfl rfl wg (adf a hg fun qv S2 w' j Z a=>?_));refine Run.call0E Uf TQ a (P5 (most:=20) (fuel:=300) (g.monoC j.1) Z (by omega) (by omega) V) fun t I' S3 w'=>?_;rintro ⟨rfl,v1,rfl,D⟩ G a;have o:=(i.trans (j.trans G)).1;refine al (v:=v1) rfl (al (v:=ax r.2) rfl (dw ?_));cases h0:decide (r.2=0)
 ·refine rpG ?_;exact iN a o rfl
 ·refine rpG ?_;refine aI D nl (ew ?_);have:=m.resolve_left (fun h=>h (of_decide_eq_true h0));rw [aL (by omega)];refine rpG ?_;exact iN a o rfl
end
end
section
open Go Go.ChangeShapes Go.WideShapes Go.RowKit
def Ww:List (String × DataW Unit):=[("math/bits.deBruijn32tab",Rows.laid_math_bits_deBruijn32tab),("math/bits.deBruijn64tab",Rows.laid_math_bits_deBruijn64tab),("internal/strconv.uint64pow10",Rows.laid_internal_strconv_uint64pow10)]
theorem YG (os:Os) (args:Array Value):laidMetH Tryz.prog Ww ((World.doorLaid Tryz.prog 24 os).forCall (fun _ _=>0) ⟨#[],args,[]⟩).memory:=
 laidMetH_of_parts3 (fuel:=8) (laidMet_of_run' 8 (by kernel_rfl) (by kernel_rfl)) (by kernel_rfl) (by kernel_rfl)
end
section
open Go Go.ChangeShapes Go.WideShapes Go.ChangeAt Go.RowKit

theorem Tryz.own:ownKnob Tryz.prog.godebug=none:=by kernel_rfl
theorem Tryz.kids:Kids Tryz.prog (·<Tryz.prog.types.size):=kids_rows (by kernel_rfl) (by kernel_rfl)
theorem Tryz.full:∀ t e,t<Tryz.prog.types.size->Tryz.prog.underlying t=some (.slice e)->0<Tryz.prog.cellsOf e:=slices_full_of Tryz.prog (by kernel_rfl)
section
variable {H:Type} {enc:TypeId × Value->H} {W W':World}
theorem Ql {P:Program}:∀ {ts:List TypeId} {vs:hZ} {ds:List (DataW H)} {a:List MemPlace},DataW.TrodAll enc P W 0 (fun _=>true) true ts vs ds a->(∀ p∈a,W.sameAt W' p)->
  DataW.TrodAll enc P W' 0 (fun _=>true) true ts vs ds a
 | [],[],[],_,h,_=>h
 | _::_,_::_,_::_,_,⟨p,q,⟨n,h1⟩,h2,e⟩,hs=>
  ⟨p,q,⟨n,DataW.trod_carry n _ _ _ h1 fun x f=>hs x (by rw [e];exact dO _ f)⟩,Ql h2 fun x f=>hs x (by rw [e];exact im _ f),e⟩
theorem aaM {p:MemPlace} (h:∀ b,b<W.heap.size->W'.heap[b]?=W.heap[b]?) (a:p.block<W.heap.size):W.sameAt W' p:=by
 cases p with
 | cell b f=>simp only [World.sameAt,World.cell?];rw [h b a]
 | map b=>exact h b a
theorem Xo {f:Func} {s:ChangeSpec} {args:Array Value} {ds gs:List (DataW H)} {a p q:List MemPlace}
  (D:DataW.Whole enc Tryz.prog f.params.toList s.vars false W args.toList ds gs a) (M:DataW.TrodAll enc Tryz.prog W 0 (fun _=>true) true f.params.toList args.toList ds p)
  (G:DataW.TrodVars enc Tryz.prog W (fun _=>true) s.vars gs q) (j:a=p++q) (J:s.vars=[]) (l:∀ t∈f.params.toList,t<Tryz.prog.types.size) (N:f.resultTypes=#[UN])
  (O:(s.fn H (ds++gs)).results=[.lit (.bool true)]) (U:(s.fn H (ds++gs)).args=ds) (m:(s.fn H (ds++gs)).vars=[]) (o:Inv W [] [] (Wt W) W') :
  s.post enc Tryz.prog f false true false false W args (.bool true) W':=by
 have g:∀ b,b<W.heap.size->W'.heap[b]?=W.heap[b]?:=fun b j=>o.same b j;have i:=D.lt;rw [J] at G;obtain ⟨Y,V⟩:=trodVars_none G;subst V;rw [dc] at j;subst j;have B:=Ql (W':=W') M fun x r=>aaM g (i x r);refine ⟨ds,gs,a,[],a,[],D,?_,?_,?_,XN o.os o.output g,fun h=>by cases h⟩
 ·rw [O,N];exact trodAll_mk1 (shut_bool B0 true)
 ·rw [U];exact DataW.TrodAll.respare Tryz.kids Tryz.full l B fun x r=>by simpa using i x r
 ·rw [J,m];rfl
end
end
end Go.Proofs.YtellfcpffcipcaaGreatDoor

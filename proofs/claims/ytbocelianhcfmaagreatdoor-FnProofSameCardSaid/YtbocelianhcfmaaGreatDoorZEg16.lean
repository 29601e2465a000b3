/- The reference's solver of goals that are built in. -/
import Derived.Test.YtbocelianhcfmaaGreatDoorZEg15
import Derived.Test.YtbocelianhcfmaaGreatDoorZEg14
import Derived.Test.YtbocelianhcfmaaGreatDoorZEg5
import Derived.Test.YtbocelianhcfmaaGreatDoorZEg12
import Derived.Test.YtbocelianhcfmaaGreatDoorZEg13
import Derived.Test.YtbocelianhcfmaaGreatDoorZEg10
namespace Go.Proofs.YtbocelianhcfmaaGreatDoor
section
open Go Go.RowKit
section
attribute [local irreducible] Run CondV ar aI
def JC (kb:Nat) (S:ae) (code:Int) (st':aG):Value->List Item->ae->Prop:=fun q I' S'=>S'=S/\q=.int .i64 code/\∃ kc',I'=[.blk kb (.cells kc' ab)]/\KnU S kc' st'
def neSt (w0:World) (X:List Nat) (A:List Item) (S:ae) (N:Nat) (st:aG) (r:Bool) (fN lX iD:Value) (w':World):Nat->Prop
 | 0=>Inv w0 X A S w'
 | 1=>Inv w0 X (A++[.row fN ab 4 0 []]) S w'
 | 2=>∃ g cap cur,lX=kvU g N cap/\KnU S cur st/\Inv w0 X (A++[.blk g (.cells cur ab)]) S w'
 | _=>iD=.bool r/\∃ R,Inv w0 X (A++R) S w'
theorem neSt.inv {w0 w':World} {X:List Nat} {A:List Item} {S:ae} {N:Nat} {st:aG} {r:Bool} {fN lX iD:Value}:∀ {n:Nat},neSt w0 X A S N st r fN lX iD w' n->∃ R,Inv w0 X (A++R) S w'
 | 0,h=>⟨[],by rw [List.append_nil]; exact h⟩
 | 1,h=>⟨_,h⟩
 | 2,⟨_,_,_,_,_,h⟩=>⟨_,h⟩
 | _+3,h=>h.2
set_option maxHeartbeats 1000000 in
theorem xA {N kp:Nat} (hN:N<=1000000) (hN0:0<N) (hkp:N<=kp) (hkp2:kp<=maxLen) {st st':aG} {g:T} {code:Int} (hg:Good N st) (ho:okU N g/\wT g<=1048576) (hn:okN g) (hb:dw g=true) (hB:Blt st g code st')
  {S:ae} {cs:List Value} {kb:Nat} {kc:Array Value} (h:RdT S cs g) (hk:KnU S kc st):Tri Tryz.prog EK [.agg cs.toArray,kvU kb N kp] [.blk kb (.cells kc ab)] S (JC kb S code st'):=by
 intro w hI
 have hgl:=h
 obtain ⟨k,n,s,ks⟩:=g
 obtain ⟨kv,rfl,_,_,_,hks⟩:=RdT.iff.1 h
 have hbj:=Dz hb ho
 rw [dw,Bool.and_eq_true] at hb
 have hbs:=hb.2
 rw [okN] at hn
 simp only [T.name,T.kids,T.kind,T.n] at hks hbs hgl ⊢
 obtain ⟨X,hX⟩:∃ X,X=bz [Item.blk kb (.cells kc ab)]:=⟨_,rfl⟩
 rw [<- hX] at hI ⊢
 unfold Blt at hB
 clear h
 refine s9.2 ?_
 dsimp only[s9,aY]
 refine be hI fun b2 w' hI=>?_
 have hI:Inv w X [.blk b2 (.cells #[.int .i64 k,.int .i64 n,.string s,kv] ab),.blk kb (.cells kc ab)] S w':=hI.perm (List.Perm.swap ..)
 have fin:∀ {w':World} {L:List Item} {j:BJ} (c:Int),j=.done c->BltJ st j code st'->Inv w X L S w'->List.Sublist [.blk kb (.cells kc ab)] L->
   ∃ v' I' S',Ending.returned (.int .i64 c)=.returned v'/\Inv w X I' S' w'/\Ext w.heap.size X S S'/\JC kb S code st' v' I' S':=by
  intro w' L j c hj hB hI hs
  subst hj
  obtain ⟨rfl,rfl⟩:=hB
  exact ⟨_,_,S,rfl,hI.sub hs,Ext.refl _ _ _,rfl,rfl,kc,rfl,hk⟩
 refine ad hI 0 rfl aH aC rfl ?_
 refine bf ?_
 refine aN (fun h=>fin 0 (by rw [kR,if_pos (show (T.mk k n s ks).name=pW from h)]) hB hI ((List.Sublist.refl _).cons _)) (fun h0=>?_)
 refine bf ?_
 refine aN (fun h=>fin 1 (by rw [kR,if_neg (show ¬ (T.mk k n s ks).name=pW from h0),if_pos (show (T.mk k n s ks).name=sR from h)]) hB hI ((List.Sublist.refl _).cons _)) (fun h1=>?_)
 refine bf ?_
 refine aN (fun h=>?_) (fun h2=>?_)
 ·obtain ⟨x,y,rfl⟩:=uM (l:=ks) (by have:=j1 (by rw [h]; decide +kernel) hbs; omega)
  have hj:kR (.mk k n s [x,y])=.uni x y:=by
   rw [kR,if_neg (show ¬ (T.mk k n s [x,y]).name=pW from h0),if_neg (show ¬ (T.mk k n s [x,y]).name=sR from h1),if_pos (show (T.mk k n s [x,y]).name=nEq from h)]
   rfl
  rw [hj] at hB hbj
  obtain ⟨b,o,cap,c,E,fz,rfl,hSb,hR⟩:=hks.ptr (by simp)
  obtain ⟨r,hu,rfl⟩:=hB
  have hjj:okJ N (.one x y):=hbj
  refine ⟨fun D x4 kl lf iT lY ni mD kX i6 lQ pJ mX w_=>Fx D 0 [mX=.pointer (some ⟨b2,3,none⟩),pJ=.slice (some ⟨b,o,none⟩) [x,y].length cap,lQ=.pointer (some ⟨b,o+0 * 4,none⟩),i6=.agg (aL c (o+0 * 4) 4).toArray,kX=.pointer (some ⟨b2,3,none⟩),mD=.slice (some ⟨b,o,none⟩) [x,y].length cap,ni=.pointer (some ⟨b,o+1 * 4,none⟩),lY=.agg (aL c (o+1 * 4) 4).toArray,iT=kvU kb N kp,lf=.bool r,kl=.int .i64 (gg r),x4=.int .i64 (gg r)]/\∃ kcx,(D 9=false->kcx=kc)/\(D 9=true->KnU S kcx st')/\Inv w X [.blk b2 (.cells #[.int .i64 k,.int .i64 n,.string s,.slice (some ⟨b,o,none⟩) [x,y].length cap] ab),.blk kb (.cells kcx ab)] S w_,⟨Fx.nil _ _,⟨kc,fun _=>rfl,aT,hI.draw⟩⟩,⟨?_,?_,?_,?_,?_,?_,?_,?_,?_,?_,?_,?_,trivial⟩,?_⟩
  all_goals (intro D bw; intros; rename_i x4 kl lf iT lY ni mD kX i6 lQ pJ mX w_ hA_; have hF_:=hA_.1; obtain ⟨⟨bQ,bS,bU,bR,bY,bZ,bO,cG,cS,cT,bL,co,_⟩,⟨kcx,k0,k1,hI⟩⟩:=hA_)
  ·refine ao ak ?_
   exact ⟨hF_.set 0 rfl,⟨kcx,k0,k1,hI⟩⟩
  ·obtain rfl:=bQ ‹_›
   refine ax hI 0 al rfl rfl ?_
   exact ⟨hF_.set 1 rfl,⟨kcx,k0,k1,hI⟩⟩
  ·obtain rfl:=bS ‹_›
   refine ay (i:=0) ah (by simp) ?_
   exact ⟨hF_.set 2 rfl,⟨kcx,k0,k1,hI⟩⟩
  ·obtain rfl:=bU ‹_›
   refine ci ac (RdT.length (hR 0 (by simp))) (fun j v hj=>by rw [hI.cellS hSb]; exact aD rfl j v hj) ?_
   exact ⟨hF_.set 3 rfl,⟨kcx,k0,k1,hI⟩⟩
  ·refine ao ak ?_
   exact ⟨hF_.set 4 rfl,⟨kcx,k0,k1,hI⟩⟩
  ·obtain rfl:=bY ‹_›
   refine ax hI 0 al rfl rfl ?_
   exact ⟨hF_.set 5 rfl,⟨kcx,k0,k1,hI⟩⟩
  ·obtain rfl:=bZ ‹_›
   refine ay (i:=1) ah (by simp) ?_
   exact ⟨hF_.set 6 rfl,⟨kcx,k0,k1,hI⟩⟩
  ·obtain rfl:=bO ‹_›
   refine ci ac (RdT.length (hR 1 (by simp))) (fun j v hj=>by rw [hI.cellS hSb]; exact aD rfl j v hj) ?_
   exact ⟨hF_.set 7 rfl,⟨kcx,k0,k1,hI⟩⟩
  ·exact ⟨hF_.set 8 rfl,⟨kcx,k0,k1,hI⟩⟩
  ·obtain rfl:=bR ‹_›
   obtain rfl:=cG ‹_›
   obtain rfl:=cS ‹_›
   have e0:=k0 bw
   rw [e0] at hI
   have hI:Inv w X ([.blk b2 (.cells #[.int .i64 k,.int .i64 n,.string s,.slice (some ⟨b,o,none⟩) [x,y].length cap] ab)]++[.blk kb (.cells kc ab)]) S w_:=hI
   refine Run.callE (A:=[_]) eK eI hI (fF (kp:=kp) hN hg hjj hu S _ _ kb kc (hR 0 (by simp)) (hR 1 (by simp)) hk) fun v' I' S' w_=>?_
   rintro ⟨eS,rfl,kcx,rfl,hkx⟩ _ hI
   rw [eS] at hI
   have hI:Inv w X [.blk b2 (.cells #[.int .i64 k,.int .i64 n,.string s,.slice (some ⟨b,o,none⟩) [x,y].length cap] ab),.blk kb (.cells kcx ab)] S w_:=hI
   have k0:=fun (h:aB D 9 9=false)=>(Bool.noConfusion h:kcx=kc)
   have k1:=fun (_:aB D 9 9=true)=>hkx
   exact ⟨hF_.set 9 rfl,⟨kcx,k0,k1,hI⟩⟩
  ·obtain rfl:=cT ‹_›
   refine Run.callPure dr du hI (cr r S) fun w_ hI=>?_
   exact ⟨hF_.set 10 rfl,⟨kcx,k0,k1,hI⟩⟩
  ·obtain rfl:=bL ‹_›
   exact ⟨hF_.set 11 rfl,⟨kcx,k0,k1,hI⟩⟩
  obtain ⟨rfl,rfl,rfl,rfl,rfl,rfl,rfl,rfl,rfl,rfl,rfl,rfl,_⟩:=hF_.all
  have Fk:D 9=true:=by assumption
  clear hF_ bQ bS bU bR bY bZ bO cG cS cT bL co
  have hkx:=k1 Fk
  exact ⟨_,_,S,rfl,hI.sub (((List.Sublist.refl _).cons _)),Ext.refl _ _ _,rfl,rfl,kcx,rfl,hkx⟩
 refine bf ?_
 refine aN (fun h=>?_) (fun h3=>?_)
 ·obtain ⟨x,y,rfl⟩:=uM (l:=ks) (by have:=j1 (by rw [h]; decide +kernel) hbs; omega)
  have hj:kR (.mk k n s [x,y])=.not x y:=by
   rw [kR,if_neg (show ¬ (T.mk k n s [x,y]).name=pW from h0),if_neg (show ¬ (T.mk k n s [x,y]).name=sR from h1),if_neg (show ¬ (T.mk k n s [x,y]).name=nEq from h2),if_pos (show (T.mk k n s [x,y]).name=nNe from h)]
   rfl
  rw [hj] at hB hbj
  obtain ⟨b,o,cap,c,E,fz,rfl,hSb,hR⟩:=hks.ptr (by simp)
  obtain ⟨rfl,r,st1,hu,rfl⟩:=hB
  have hjj:okJ N (.one x y):=hbj
  have hI0:=hI
  refine ⟨fun D x4 iE jb iD lX gD fN kJ gU iI nC jT mP iM ia w_=>Fx D 0 [ia=.pointer (some ⟨b2,3,none⟩),iM=.slice (some ⟨b,o,none⟩) [x,y].length cap,mP=.pointer (some ⟨b,o+0 * 4,none⟩),jT=.agg (aL c (o+0 * 4) 4).toArray,nC=.pointer (some ⟨b2,3,none⟩),iI=.slice (some ⟨b,o,none⟩) [x,y].length cap,gU=.pointer (some ⟨b,o+1 * 4,none⟩),kJ=.agg (aL c (o+1 * 4) 4).toArray,True,gD=kvU kb N kp,True,True,jb=.bool (!r),iE=.int .i64 (gg (!r)),x4=.int .i64 (gg (!r))]/\∃ n_:Nat,n_<=3/\D 8=decide (1<=n_)/\D 10=decide (2<=n_)/\D 11=decide (3<=n_)/\(neSt w X [.blk b2 (.cells #[.int .i64 k,.int .i64 n,.string s,.slice (some ⟨b,o,none⟩) [x,y].length cap] ab),.blk kb (.cells kc ab)] S N st' r fN lX iD w_ n_),⟨Fx.nil _ _,⟨0,Nat.zero_le _,rfl,rfl,rfl,hI.draw⟩⟩,⟨?_,?_,?_,?_,?_,?_,?_,?_,?_,?_,?_,?_,?_,?_,?_,trivial⟩,?_⟩
  all_goals (intro D bw; intros; rename_i x4 iE jb iD lX gD fN kJ gU iI nC jT mP iM ia w_ hA_; have hF_:=hA_.1; obtain ⟨⟨bQ,bS,bU,bR,bY,bZ,bO,cG,cS,cT,bL,co,cO,dJ,dT,_⟩,⟨n_,ln_,e1_,e2_,e3_,hS⟩⟩:=hA_)
  ·refine ao ak ?_
   exact ⟨hF_.set 0 rfl,⟨n_,ln_,e1_,e2_,e3_,hS⟩⟩
  ·obtain rfl:=bQ ‹_›
   obtain ⟨R,hI⟩:=hS.inv; refine ax hI 0 al rfl rfl ?_
   exact ⟨hF_.set 1 rfl,⟨n_,ln_,e1_,e2_,e3_,hS⟩⟩
  ·obtain rfl:=bS ‹_›
   refine ay (i:=0) ah (by simp) ?_
   exact ⟨hF_.set 2 rfl,⟨n_,ln_,e1_,e2_,e3_,hS⟩⟩
  ·obtain rfl:=bU ‹_›
   obtain ⟨R,hI⟩:=hS.inv; refine ci ac (RdT.length (hR 0 (by simp))) (fun j v hj=>by rw [hI.cellS hSb]; exact aD rfl j v hj) ?_
   exact ⟨hF_.set 3 rfl,⟨n_,ln_,e1_,e2_,e3_,hS⟩⟩
  ·refine ao ak ?_
   exact ⟨hF_.set 4 rfl,⟨n_,ln_,e1_,e2_,e3_,hS⟩⟩
  ·obtain rfl:=bY ‹_›
   obtain ⟨R,hI⟩:=hS.inv; refine ax hI 0 al rfl rfl ?_
   exact ⟨hF_.set 5 rfl,⟨n_,ln_,e1_,e2_,e3_,hS⟩⟩
  ·obtain rfl:=bZ ‹_›
   refine ay (i:=1) ah (by simp) ?_
   exact ⟨hF_.set 6 rfl,⟨n_,ln_,e1_,e2_,e3_,hS⟩⟩
  ·obtain rfl:=bO ‹_›
   obtain ⟨R,hI⟩:=hS.inv; refine ci ac (RdT.length (hR 1 (by simp))) (fun j v hj=>by rw [hI.cellS hSb]; exact aD rfl j v hj) ?_
   exact ⟨hF_.set 7 rfl,⟨n_,ln_,e1_,e2_,e3_,hS⟩⟩
  ·obtain rfl:n_=0:=xr e1_ bw
   refine dG hS bj fun v w_ hI=>?_
   have hS:neSt w X [.blk b2 (.cells #[.int .i64 k,.int .i64 n,.string s,.slice (some ⟨b,o,none⟩) [x,y].length cap] ab),.blk kb (.cells kc ab)] S N st' r v lX iD w_ 1:=hI
   exact ⟨hF_.set 8 (by first|assumption|trivial),⟨1,by decide,rfl,(by first|exact e2_|rfl),(by first|exact e3_|rfl),hS⟩⟩
  ·exact ⟨hF_.set 9 rfl,⟨n_,ln_,e1_,e2_,e3_,hS⟩⟩
  ·have Bo:=cS ‹_›
   obtain rfl:=cT ‹_›
   obtain rfl:n_=1:=fZ e1_ ‹D 8=true› e2_ bw
   have hI:Inv w X ([.blk b2 (.cells #[.int .i64 k,.int .i64 n,.string s,.slice (some ⟨b,o,none⟩) [x,y].length cap] ab),.blk kb (.cells kc ab)]++[.row fN ab 4 0 []]) S w_:=hS
   have hI:=hI.perm (M:=[.blk b2 (.cells #[.int .i64 k,.int .i64 n,.string s,.slice (some ⟨b,o,none⟩) [x,y].length cap] ab),aP fN ab 4 []]++bB [(kb,.cells kc ab)]) ((List.Perm.swap ..).cons _)
   obtain ⟨S1,hle,hins,hI,hback⟩:=Inv.lendAll _ hI
   have hkN:=hg.len
   have hrd:=hk.rd (hins _ (List.mem_singleton.2 rfl)) (by rw [hkN]; exact hkp) hkp2
   rw [hkN] at hrd
   refine dI hI 1 bj (by omega) rfl hrd (fun _ _=>RdO.length) (fun _ _=>RdO.one) (by rw [hkN]; simp; omega) (by omega) fun v w_ css2 hR2 hI=>?_
   have hI:=hback _ _ hI
   have hI:Inv w X ([.blk b2 (.cells #[.int .i64 k,.int .i64 n,.string s,.slice (some ⟨b,o,none⟩) [x,y].length cap] ab),.blk kb (.cells kc ab)]++[aP v ab 4 css2]) S w_:=hI.perm ((List.Perm.swap ..).cons _)
   obtain ⟨g,cp,cur,rfl,hc1,hc2,hkn,hI⟩:=Inv.tab hI hR2 (by omega)
   rw [hkN]
   have hS:neSt w X [.blk b2 (.cells #[.int .i64 k,.int .i64 n,.string s,.slice (some ⟨b,o,none⟩) [x,y].length cap] ab),.blk kb (.cells kc ab)] S N st' r fN (kvU g N cp) iD w_ 2:=⟨g,cp,cur,rfl,hkn,hI⟩
   exact ⟨hF_.set 10 (by first|assumption|trivial),⟨2,by decide,(by first|exact e1_|rfl),rfl,(by first|exact e3_|rfl),hS⟩⟩
  ·obtain rfl:=bR ‹_›
   obtain rfl:=cG ‹_›
   have xG:=bL ‹_›
   obtain rfl:n_=2:=fZ e2_ ‹D 10=true› e3_ bw
   obtain ⟨g,cp,cur,rfl,hkn,hI⟩:=hS
   refine Run.callE eK eI hI (fF (kp:=cp) hN hg hjj hu S _ _ g cur (hR 0 (by simp)) (hR 1 (by simp)) hkn) fun v' I' S' w_=>?_
   rintro ⟨eS,rfl,kcx,rfl,hkx⟩ _ hI
   rw [eS] at hI
   have hS:neSt w X [.blk b2 (.cells #[.int .i64 k,.int .i64 n,.string s,.slice (some ⟨b,o,none⟩) [x,y].length cap] ab),.blk kb (.cells kc ab)] S N st' r fN (kvU g N cp) (.bool r) w_ 3:=⟨rfl,_,hI⟩
   exact ⟨hF_.set 11 (by first|assumption|trivial),⟨3,by decide,(by first|exact e1_|rfl),(by first|exact e2_|rfl),rfl,hS⟩⟩
  ·have MO:=co ‹_›
   have hn3:=lU ln_ e3_ ‹D 11=true›
   have hS3:=hS
   rw [hn3] at hS3
   obtain ⟨hx41,_⟩:=hS3
   subst hx41
   refine bW ?_
   exact ⟨hF_.set 12 rfl,⟨n_,ln_,e1_,e2_,e3_,hS⟩⟩
  ·obtain rfl:=cO ‹_›
   have hn3:=lU ln_ e3_ ‹D 11=true›
   rw [hn3] at hS
   obtain ⟨hx41,R,hI⟩:=hS
   refine Run.callPure dr du hI (cr (!r) S) fun w_ hI=>?_
   have hS:neSt w X [.blk b2 (.cells #[.int .i64 k,.int .i64 n,.string s,.slice (some ⟨b,o,none⟩) [x,y].length cap] ab),.blk kb (.cells kc ab)] S N st' r fN lX iD w_ n_:=by rw [hn3]; exact ⟨hx41,R,hI⟩
   exact ⟨hF_.set 13 rfl,⟨n_,ln_,e1_,e2_,e3_,hS⟩⟩
  ·obtain rfl:=dJ ‹_›
   exact ⟨hF_.set 14 rfl,⟨n_,ln_,e1_,e2_,e3_,hS⟩⟩
  obtain rfl:n_=3:=lU ln_ e3_ ‹D 11=true›
  have QU:D 14=true:=by assumption
  clear e1_ e2_ e3_
  obtain rfl:=dT QU
  obtain ⟨_,R,hI⟩:=hS
  exact ⟨_,_,S,rfl,hI.sub (((List.nil_sublist _).cons_cons _).cons _),Ext.refl _ _ _,rfl,rfl,kc,rfl,hk⟩
 refine bf ?_
 refine aN (fun h=>?_) (fun h4=>?_)
 ·obtain ⟨x,y,rfl⟩:=uM (l:=ks) (by have:=j1 (by rw [h]; decide +kernel) hbs; omega)
  have hj:kR (.mk k n s [x,y])=.done (gg (eqT x y)):=by
   rw [kR,if_neg (show ¬ (T.mk k n s [x,y]).name=pW from h0),if_neg (show ¬ (T.mk k n s [x,y]).name=sR from h1),if_neg (show ¬ (T.mk k n s [x,y]).name=nEq from h2),if_neg (show ¬ (T.mk k n s [x,y]).name=nNe from h3),if_pos (show (T.mk k n s [x,y]).name=BV from h)]
   rfl
  rw [hj] at hB hbj
  obtain ⟨b,o,cap,c,E,fz,rfl,hSb,hR⟩:=hks.ptr (by simp)
  refine ⟨fun D x4 u4 tC pu kq rq rP sg pK lW nU w_=>Fx D 0 [nU=.pointer (some ⟨b2,3,none⟩),lW=.slice (some ⟨b,o,none⟩) [x,y].length cap,pK=.pointer (some ⟨b,o+0 * 4,none⟩),sg=.agg (aL c (o+0 * 4) 4).toArray,rP=.pointer (some ⟨b2,3,none⟩),rq=.slice (some ⟨b,o,none⟩) [x,y].length cap,kq=.pointer (some ⟨b,o+1 * 4,none⟩),pu=.agg (aL c (o+1 * 4) 4).toArray,tC=.bool (eqT x y),u4=.int .i64 (gg (eqT x y)),x4=.int .i64 (gg (eqT x y))]/\Inv w X [.blk b2 (.cells #[.int .i64 k,.int .i64 n,.string s,.slice (some ⟨b,o,none⟩) [x,y].length cap] ab),.blk kb (.cells kc ab)] S w_,⟨Fx.nil _ _,hI.draw⟩,⟨?_,?_,?_,?_,?_,?_,?_,?_,?_,?_,?_,trivial⟩,?_⟩
  all_goals (intro D bw; intros; rename_i x4 u4 tC pu kq rq rP sg pK lW nU w_ hA_; have hF_:=hA_.1; obtain ⟨⟨bQ,bS,bU,bR,bY,bZ,bO,cG,cS,cT,bL,_⟩,hI⟩:=hA_)
  ·refine ao ak ?_
   exact ⟨hF_.set 0 rfl,hI⟩
  ·obtain rfl:=bQ ‹_›
   refine ax hI 0 al rfl rfl ?_
   exact ⟨hF_.set 1 rfl,hI⟩
  ·obtain rfl:=bS ‹_›
   refine ay (i:=0) ah (by simp) ?_
   exact ⟨hF_.set 2 rfl,hI⟩
  ·obtain rfl:=bU ‹_›
   refine ci ac (RdT.length (hR 0 (by simp))) (fun j v hj=>by rw [hI.cellS hSb]; exact aD rfl j v hj) ?_
   exact ⟨hF_.set 3 rfl,hI⟩
  ·refine ao ak ?_
   exact ⟨hF_.set 4 rfl,hI⟩
  ·obtain rfl:=bY ‹_›
   refine ax hI 0 al rfl rfl ?_
   exact ⟨hF_.set 5 rfl,hI⟩
  ·obtain rfl:=bZ ‹_›
   refine ay (i:=1) ah (by simp) ?_
   exact ⟨hF_.set 6 rfl,hI⟩
  ·obtain rfl:=bO ‹_›
   refine ci ac (RdT.length (hR 1 (by simp))) (fun j v hj=>by rw [hI.cellS hSb]; exact aD rfl j v hj) ?_
   exact ⟨hF_.set 7 rfl,hI⟩
  ·obtain rfl:=bR ‹_›
   obtain rfl:=cG ‹_›
   refine Run.callPure kQ kS hI (lj x y S _ _ (hR 0 (by simp)) (hR 1 (by simp))) fun w_ hI=>?_
   exact ⟨hF_.set 8 rfl,hI⟩
  ·obtain rfl:=cS ‹_›
   refine Run.callPure dr du hI (cr _ S) fun w_ hI=>?_
   exact ⟨hF_.set 9 rfl,hI⟩
  ·obtain rfl:=cT ‹_›
   exact ⟨hF_.set 10 rfl,hI⟩
  obtain ⟨rfl,rfl,rfl,rfl,rfl,rfl,rfl,rfl,rfl,rfl,rfl,_⟩:=hF_.all
  clear hF_ bQ bS bU bR bY bZ bO cG cS cT bL
  exact fin _ rfl hB hI ((List.Sublist.refl _).cons _)
 refine bf ?_
 refine aN (fun h=>?_) (fun h5=>?_)
 ·obtain ⟨x,y,rfl⟩:=uM (l:=ks) (by have:=j1 (by rw [h]; decide +kernel) hbs; omega)
  have hj:kR (.mk k n s [x,y])=if (dD y).2≠0 then .done (dD y).2 else .uni x (EV (dD y).1):=by
   rw [kR,if_neg (show ¬ (T.mk k n s [x,y]).name=pW from h0),if_neg (show ¬ (T.mk k n s [x,y]).name=sR from h1),if_neg (show ¬ (T.mk k n s [x,y]).name=nEq from h2),if_neg (show ¬ (T.mk k n s [x,y]).name=nNe from h3),if_neg (show ¬ (T.mk k n s [x,y]).name=BV from h4),if_pos (show (T.mk k n s [x,y]).name=nIs from h)]
   rfl
  rw [hj] at hB hbj
  obtain ⟨b,o,cap,c,E,fz,rfl,hSb,hR⟩:=hks.ptr (by simp)
  have ny:=im hn.2 y (by simp)
  refine ad hI 0 rfl ak al rfl ?_
  refine bP (i:=1) hI hks ah ac (by simp) (fun _ _=>RdT.length) fun ds hds=>?_
  refine Run.callPure gf gp hI (iL y S ds hds ny) fun w' hI=>?_
  refine ai (v:=.int .i64 _) rfl ?_
  refine ai (v:=.int .i64 _) rfl ?_
  refine dt ?_
  refine av (fun h6=>?_) (fun h6=>?_)
  ·simp at h6
   exact fin _ (if_pos h6) hB hI ((List.Sublist.refl _).cons _)
  simp at h6
  rw [if_neg (by simp [h6])] at hB hbj
  obtain ⟨r,hu,rfl⟩:=hB
  have hjj:okJ N (.one x (EV (dD y).1)):=hbj
  have hsm:=rE y ny
  unfold Sm at hsm
  refine ⟨fun D x4 JR JG K5 K2 ML LW Ld K0 K4 w_=>Fx D 0 [K4=.pointer (some ⟨b2,3,none⟩),K0=.slice (some ⟨b,o,none⟩) [x,y].length cap,Ld=.pointer (some ⟨b,o+0 * 4,none⟩),LW=.agg (aL c (o+0 * 4) 4).toArray,ML=.int .i64 (dD y).1,K2=zl 2 (dD y).1,K5=kvU kb N kp,JG=.bool r,JR=.int .i64 (gg r),x4=.int .i64 (gg r)]/\∃ kcx,(D 7=false->kcx=kc)/\(D 7=true->KnU S kcx st')/\Inv w X [.blk b2 (.cells #[.int .i64 k,.int .i64 n,.string s,.slice (some ⟨b,o,none⟩) [x,y].length cap] ab),.blk kb (.cells kcx ab)] S w_,⟨Fx.nil _ _,⟨kc,fun _=>rfl,aT,hI.draw⟩⟩,⟨?_,?_,?_,?_,?_,?_,?_,?_,?_,?_,trivial⟩,?_⟩
  all_goals (intro D bw; intros; rename_i x4 JR JG K5 K2 ML LW Ld K0 K4 w_ hA_; have hF_:=hA_.1; obtain ⟨⟨bQ,bS,bU,bR,bY,bZ,bO,cG,cS,cT,_⟩,⟨kcx,k0,k1,hI⟩⟩:=hA_)
  ·refine ao ak ?_
   exact ⟨hF_.set 0 rfl,⟨kcx,k0,k1,hI⟩⟩
  ·obtain rfl:=bQ ‹_›
   refine ax hI 0 al rfl rfl ?_
   exact ⟨hF_.set 1 rfl,⟨kcx,k0,k1,hI⟩⟩
  ·obtain rfl:=bS ‹_›
   refine ay (i:=0) ah (by simp) ?_
   exact ⟨hF_.set 2 rfl,⟨kcx,k0,k1,hI⟩⟩
  ·obtain rfl:=bU ‹_›
   refine ci ac (RdT.length (hR 0 (by simp))) (fun j v hj=>by rw [hI.cellS hSb]; exact aD rfl j v hj) ?_
   exact ⟨hF_.set 3 rfl,⟨kcx,k0,k1,hI⟩⟩
  ·exact ⟨hF_.set 4 rfl,⟨kcx,k0,k1,hI⟩⟩
  ·obtain rfl:=bY ‹_›
   refine Run.callPure mi md hI (hY _ S) fun w_ hI=>?_
   exact ⟨hF_.set 5 rfl,⟨kcx,k0,k1,hI⟩⟩
  ·exact ⟨hF_.set 6 rfl,⟨kcx,k0,k1,hI⟩⟩
  ·obtain rfl:=bR ‹_›
   obtain rfl:=bZ ‹_›
   obtain rfl:=bO ‹_›
   have e0:=k0 bw
   rw [e0] at hI
   have hI:Inv w X ([.blk b2 (.cells #[.int .i64 k,.int .i64 n,.string s,.slice (some ⟨b,o,none⟩) [x,y].length cap] ab)]++[.blk kb (.cells kc ab)]) S w_:=hI
   refine Run.callE (A:=[_]) eK eI hI (fF (kp:=kp) hN hg hjj hu S _ _ kb kc (hR 0 (by simp)) (nY (by simp [inI]) (by simp only [inI]; omega)) hk) fun v' I' S' w_=>?_
   rintro ⟨eS,rfl,kcx,rfl,hkx⟩ _ hI
   rw [eS] at hI
   have hI:Inv w X [.blk b2 (.cells #[.int .i64 k,.int .i64 n,.string s,.slice (some ⟨b,o,none⟩) [x,y].length cap] ab),.blk kb (.cells kcx ab)] S w_:=hI
   have k0:=fun (h:aB D 7 7=false)=>(Bool.noConfusion h:kcx=kc)
   have k1:=fun (_:aB D 7 7=true)=>hkx
   exact ⟨hF_.set 7 rfl,⟨kcx,k0,k1,hI⟩⟩
  ·obtain rfl:=cG ‹_›
   refine Run.callPure dr du hI (cr r S) fun w_ hI=>?_
   exact ⟨hF_.set 8 rfl,⟨kcx,k0,k1,hI⟩⟩
  ·obtain rfl:=cS ‹_›
   exact ⟨hF_.set 9 rfl,⟨kcx,k0,k1,hI⟩⟩
  obtain ⟨rfl,rfl,rfl,rfl,rfl,rfl,rfl,rfl,rfl,rfl,_⟩:=hF_.all
  have Cs:D 7=true:=by assumption
  clear hF_ bQ bS bU bR bY bZ bO cG cS cT
  have hkx:=k1 Cs
  exact ⟨_,_,S,rfl,hI.sub (((List.Sublist.refl _).cons _)),Ext.refl _ _ _,rfl,rfl,kcx,rfl,hkx⟩
 refine bf ?_
 refine aN (fun h=>?_) (fun h6=>?_)
 ·obtain ⟨x,y,z,rfl⟩:=Mf (l:=ks) (by have:=Jy (h ▸ hbs); omega)
  have hj:kR (.mk k n s [x,y,z])=zx x y z:=by
   rw [kR,if_neg (show ¬ (T.mk k n s [x,y,z]).name=pW from h0),if_neg (show ¬ (T.mk k n s [x,y,z]).name=sR from h1),if_neg (show ¬ (T.mk k n s [x,y,z]).name=nEq from h2),if_neg (show ¬ (T.mk k n s [x,y,z]).name=nNe from h3),if_neg (show ¬ (T.mk k n s [x,y,z]).name=BV from h4),if_neg (show ¬ (T.mk k n s [x,y,z]).name=nIs from h5),if_pos (show (T.mk k n s [x,y,z]).name=Ma from h)]
   rfl
  rw [hj] at hB hbj
  refine ag hI 0 ac rfl rfl ?_
  refine Run.call0 Hc IP hI (Au hgl) fun v1 I' S' w'=>?_
  rintro ⟨rfl,eS,ds,cd,rfl,hdl,hd1,hcase⟩ _ hI
  rw [eS] at hI
  have hI:=hI
  refine ai (v:=.agg ds.toArray) rfl ?_
  refine ai (v:=.int .i64 cd) rfl ?_
  refine aA hI aU fun b7 w' hI=>?_
  refine aj hI 2 rfl ac (by simpa using hdl) rfl (by simpa using hd1) fun w' hI=>?_
  obtain ⟨b,o,cap,c,E,fz,rfl,hSb,hR⟩:=hks.ptr (by simp)
  have hI:Inv w X [.blk b2 (.cells #[.int .i64 k,.int .i64 n,.string s,.slice (some ⟨b,o,none⟩) [x,y,z].length cap] ab),.blk kb (.cells kc ab),.blk b7 (.cells ds.toArray ab)] S w':=hI
  refine dt ?_
  obtain ⟨j,hja⟩:∃ j,zx x y z=j:=⟨_,rfl⟩
  rw [hja] at hcase hB hbj
  match j,hja,hcase,hB,hbj with
  | .done c2,_,hcase,hB,_=>
   obtain ⟨rfl,hne⟩:=hcase
   rw [decide_eq_false hne]
   refine av (fun _=>?_) (fun hb=>by cases hb)
   exact fin _ rfl hB hI (((List.nil_sublist _).cons_cons _).cons _)
  | .not _ _,_,hcase,_,_=>exact hcase.elim
  | .uni u t,hja,hcase,hB,hbj=>
   obtain ⟨rfl,hdt⟩:=hcase
   refine av (fun hb=>by cases hb) (fun _=>?_)
   obtain rfl:u=z:=by
    unfold zx at hja
    split at hja
    ·cases hja
    split at hja
    ·cases hja
    split at hja
    ·cases hja
    ·rw [BJ.uni.injEq] at hja
     exact hja.1.symm
   obtain ⟨r,hu,rfl⟩:=hB
   have hjj:okJ N (.one u t):=hbj
   refine ⟨fun D x4 Qv OA Oe M1 JH Jr Ja EE w_=>Fx D 0 [EE=.pointer (some ⟨b2,3,none⟩),Ja=.slice (some ⟨b,o,none⟩) [x,y,u].length cap,Jr=.pointer (some ⟨b,o+2 * 4,none⟩),JH=.agg (aL c (o+2 * 4) 4).toArray,M1=.agg ds.toArray,Oe=kvU kb N kp,OA=.bool r,Qv=.int .i64 (gg r),x4=.int .i64 (gg r)]/\∃ kcx,(D 6=false->kcx=kc)/\(D 6=true->KnU S kcx st')/\Inv w X [.blk b2 (.cells #[.int .i64 k,.int .i64 n,.string s,.slice (some ⟨b,o,none⟩) [x,y,u].length cap] ab),.blk kb (.cells kcx ab),.blk b7 (.cells ds.toArray ab)] S w_,⟨Fx.nil _ _,⟨kc,fun _=>rfl,aT,hI.draw⟩⟩,⟨?_,?_,?_,?_,?_,?_,?_,?_,?_,trivial⟩,?_⟩
   all_goals (intro D bw; intros; rename_i x4 Qv OA Oe M1 JH Jr Ja EE w_ hA_; have hF_:=hA_.1; obtain ⟨⟨bQ,bS,bU,bR,bY,bZ,bO,cG,cS,_⟩,⟨kcx,k0,k1,hI⟩⟩:=hA_)
   ·refine ao ak ?_
    exact ⟨hF_.set 0 rfl,⟨kcx,k0,k1,hI⟩⟩
   ·obtain rfl:=bQ ‹_›
    refine ax hI 0 al rfl rfl ?_
    exact ⟨hF_.set 1 rfl,⟨kcx,k0,k1,hI⟩⟩
   ·obtain rfl:=bS ‹_›
    refine ay (i:=2) ah (by simp) ?_
    exact ⟨hF_.set 2 rfl,⟨kcx,k0,k1,hI⟩⟩
   ·obtain rfl:=bU ‹_›
    refine ci ac (RdT.length (hR 2 (by simp))) (fun j v hj=>by rw [hI.cellS hSb]; exact aD rfl j v hj) ?_
    exact ⟨hF_.set 3 rfl,⟨kcx,k0,k1,hI⟩⟩
   ·refine ag hI 2 ac rfl (by simpa using hdl) ?_
    exact ⟨hF_.set 4 rfl,⟨kcx,k0,k1,hI⟩⟩
   ·exact ⟨hF_.set 5 rfl,⟨kcx,k0,k1,hI⟩⟩
   ·obtain rfl:=bR ‹_›
    obtain rfl:=bY ‹_›
    obtain rfl:=bZ ‹_›
    have e0:=k0 bw
    rw [e0] at hI
    have hI:=hI.perm (M:=[.blk b2 (.cells #[.int .i64 k,.int .i64 n,.string s,.slice (some ⟨b,o,none⟩) [x,y,u].length cap] ab),.blk b7 (.cells ds.toArray ab)]++[.blk kb (.cells kc ab)]) ((List.Perm.swap ..).cons _)
    refine Run.callE (A:=[_,_]) eK eI hI (fF (kp:=kp) hN hg hjj hu S _ _ kb kc (hR 2 (by simp)) hdt hk) fun v' I' S' w_=>?_
    rintro ⟨eS,rfl,kcx,rfl,hkx⟩ _ hI
    rw [eS] at hI
    have hI:Inv w X [.blk b2 (.cells #[.int .i64 k,.int .i64 n,.string s,.slice (some ⟨b,o,none⟩) [x,y,u].length cap] ab),.blk kb (.cells kcx ab),.blk b7 (.cells ds.toArray ab)] S w_:=hI.perm ((List.Perm.swap ..).cons _)
    have k0:=fun (h:aB D 6 6=false)=>(Bool.noConfusion h:kcx=kc)
    have k1:=fun (_:aB D 6 6=true)=>hkx
    exact ⟨hF_.set 6 rfl,⟨kcx,k0,k1,hI⟩⟩
   ·obtain rfl:=bO ‹_›
    refine Run.callPure dr du hI (cr r S) fun w_ hI=>?_
    exact ⟨hF_.set 7 rfl,⟨kcx,k0,k1,hI⟩⟩
   ·obtain rfl:=cG ‹_›
    exact ⟨hF_.set 8 rfl,⟨kcx,k0,k1,hI⟩⟩
   obtain ⟨rfl,rfl,rfl,rfl,rfl,rfl,rfl,rfl,rfl,_⟩:=hF_.all
   have QC:D 6=true:=by assumption
   clear hF_ bQ bS bU bR bY bZ bO cG cS
   have hkx:=k1 QC
   exact ⟨_,_,S,rfl,hI.sub (((List.nil_sublist _).cons_cons _).cons _),Ext.refl _ _ _,rfl,rfl,kcx,rfl,hkx⟩
 have hrest:kR (.mk k n s ks)=if cV s eP=true then .done (NP s (eU ks)) else .done (gg (we s (kd (.mk k n s ks) 0))):=by
  rw [kR,if_neg (show ¬ (T.mk k n s ks).name=pW from h0),if_neg (show ¬ (T.mk k n s ks).name=sR from h1),if_neg (show ¬ (T.mk k n s ks).name=nEq from h2),if_neg (show ¬ (T.mk k n s ks).name=nNe from h3),if_neg (show ¬ (T.mk k n s ks).name=BV from h4),if_neg (show ¬ (T.mk k n s ks).name=nIs from h5),if_neg (show ¬ (T.mk k n s ks).name=Ma from h6)]
  rfl
 rw [hrest] at hB
 refine ad hI 0 rfl aH aC rfl ?_
 refine Run.callPure xH xC hI (qM s S) fun w' hI=>?_
 refine av (fun hc=>?_) (fun hc=>?_)
 ·rw [if_pos hc] at hB
  have hl:ks.length=2:=by have:=j1 (Of hc) hbs; omega
  refine ag hI 0 ac rfl rfl ?_
  refine Run.callPure yY yN hI (tT hgl hl hn.2) fun w' hI=>?_
  exact fin _ rfl hB hI ((List.Sublist.refl _).cons _)
 rw [hc,if_neg (by decide)] at hB
 obtain ⟨x,rfl⟩:=Po (l:=ks) (by
  rcases Mg hbs h0 h1 h2 h3 h4 h5 hc with ⟨_,h⟩|⟨h,_⟩
  ·omega
  ·exact absurd h h6)
 refine ag hI 0 ac rfl rfl ?_
 refine Run.callPure Fw Ga hI (zp hgl) fun w' hI=>?_
 exact fin _ rfl hB hI ((List.Sublist.refl _).cons _)
end
end
section
open Go Go.RowKit
section
variable {P:Program} {w w0:World} {X:List Nat} {L:List Item} {S:ae} {K:Value->World->Prop}
attribute [local irreducible] Run CondV ar aI
end
section
attribute [local irreducible] Run CondV ar aI
def StS (S0 S:ae) (sb:Nat) (st:aG):Prop:=∃ mb tv es ck E,S sb=some (.cells #[.map (some mb),tv] E)/\S mb=some (.map es ck)/\KnownM S0 es st
theorem StS.mono {S0 S S':ae} {sb:Nat} {st:aG} (h:StS S0 S sb st) (hs:Sle S S'):StS S0 S' sb st:=by
 obtain ⟨mb,tv,es,ck,E,h1,h2,h3⟩:=h
 exact ⟨mb,tv,es,ck,E,hs _ _ h1,hs _ _ h2,h3⟩
def MetM (es:Array MapEntry) (met:Nat->Prop):Prop:=(∀ e∈es.toList,∃ n:Nat,e.key=.int .i64 n/\e.val=.bool true/\met n)/\∀ n,met n->∃ e∈es.toList,e.key=.int .i64 (n:Nat)
theorem MetM.push {es:Array MapEntry} {met:Nat->Prop} (h:MetM es met) (n:Nat) (ck:Nat):MetM (es.push { key:=.int .i64 n,val:=.bool true,born:=ck }) (fun m=>met m ∨ m=n):=by
 refine ⟨fun e he=>?_,fun m hm=>?_⟩
 ·rw [Array.toList_push] at he
  rcases List.mem_append.1 he with he|he
  ·obtain ⟨m,hk,hv,hm⟩:=h.1 e he
   exact ⟨m,hk,hv,.inl hm⟩
  ·simp at he
   subst he
   exact ⟨n,rfl,rfl,.inr rfl⟩
 ·rw [Array.toList_push]
  rcases hm with hm|rfl
  ·obtain ⟨x,hx,hk⟩:=h.2 m hm
   exact ⟨x,List.mem_append_left _ hx,hk⟩
  ·exact ⟨_,List.mem_append_right _ (List.mem_singleton.2 rfl),rfl⟩
theorem MetM.empty:MetM #[] (fun _=>False):=⟨fun e he=>by simp at he,fun n h=>h.elim⟩
end
end
section
open Go Go.RowKit
section
attribute [local irreducible] Run CondV ar aI
def ur:aG->List Int->aG
 | st,[]=>st
 | st,n::ns=>(ur st ns).set n.toNat none
theorem FJ (st:aG):∀ a b:List Int,ur st (a++b)=ur (ur st b) a
 | [],_=>rfl
 | n::a,b=>by rw [List.cons_append,ur,ur,FJ st a b]
theorem El (st:aG):∀ (ns:List Int) (i:Nat),(ur st ns)[i]?=if (∃ n∈ns,n.toNat=i) then st[i]?.map (fun _=>none) else st[i]?
 | [],i=>by rw [ur,if_neg (by simp)]
 | n::ns,i=>by
  rw [ur,List.getElem?_set,El st ns]
  have hl:(ur st ns).length=st.length:=by
   clear i
   induction ns with
   | nil=>rfl
   | cons m ns ih=>rw [ur,List.length_set,ih]
  by_cases h1:n.toNat=i
  ·subst h1
   have h3:∃ m∈n::ns,m.toNat=n.toNat:=⟨n,by simp,rfl⟩
   by_cases h2:n.toNat<st.length
   ·rw [if_pos rfl,hl,if_pos h2,if_pos h3,List.getElem?_eq_getElem h2]; rfl
   ·rw [if_pos rfl,hl,if_neg h2,if_pos h3,List.getElem?_eq_none (by omega)]; rfl
  ·rw [if_neg h1]
   by_cases h2:∃ m∈ns,m.toNat=i
   ·obtain ⟨m,h3,h4⟩:=h2
    rw [if_pos ⟨m,h3,h4⟩,if_pos ⟨m,List.mem_cons_of_mem _ h3,h4⟩]
   ·rw [if_neg h2,if_neg]
    rintro ⟨m,h3,h4⟩
    rcases List.mem_cons.1 h3 with rfl|h3
    ·exact h1 h4
    ·exact h2 ⟨m,h3,h4⟩
def Tr (st st':aG) (tr tr':List Int):Prop:=∃ ns,tr'=tr++ns/\ur st' ns=st/\∀ n∈ns,∃ j:Nat,n=(j:Int)/\st[j]?=some none
theorem Tr.refl (st:aG) (tr:List Int):Tr st st tr tr:=⟨[],(List.append_nil _).symm,rfl,by simp⟩
theorem Tr.bind {st:aG} {tr:List Int} {n:Nat} {t:T} (h:st[n]?=some none):Tr st (st.set n (some t)) tr (tr++[(n:Int)]):=by
 refine ⟨[(n:Int)],rfl,?_,fun m hm=>⟨n,List.mem_singleton.1 hm,h⟩⟩
 rw [ur,ur,Int.toNat_natCast,List.set_set]
 apply List.ext_getElem?
 intro i
 rw [List.getElem?_set]
 by_cases e:n=i
 ·subst e
  rw [if_pos rfl,h,if_pos (List.getElem?_eq_some_iff.1 h).1]
 ·rw [if_neg e]
theorem Tr.trans {a b c:aG} {x y z:List Int} (h:Tr a b x y) (h':Tr b c y z):Tr a c x z:=by
 obtain ⟨ns,rfl,rfl,h3⟩:=h
 obtain ⟨ms,rfl,rfl,h5⟩:=h'
 refine ⟨ns++ms,by rw [List.append_assoc],by rw [FJ],fun n hn=>?_⟩
 rcases List.mem_append.1 hn with hn|hn
 ·exact h3 n hn
 ·obtain ⟨j,rfl,hj⟩:=h5 n hn
  refine ⟨j,rfl,?_⟩
  rw [El]
  split
  ·rw [hj]; rfl
  ·exact hj
end
end
section
open Go Go.RowKit
theorem KnownM.clear {S:ae} {es:Array MapEntry} {st:aG} (h:KnownM S es st) {n:Nat} (hn:∀ t,st[n]?≠some (some t)):KnownM S es (st.set n none):=by
 refine ⟨fun x hx=>?_,fun m t ht=>?_,h.2.2⟩
 ·obtain ⟨m,t,cs,hk,hv,hR,hs⟩:=h.1 x hx
  refine ⟨m,t,cs,hk,hv,hR,?_⟩
  have:n≠m:=by rintro rfl; exact hn t hs
  rw [List.getElem?_set_ne this]
  exact hs
 ·have hm:n≠m:=by
   rintro rfl
   rw [List.getElem?_set] at ht
   simp at ht
  rw [List.getElem?_set_ne hm] at ht
  exact h.2.1 m t ht
section
variable {P:Program} {w w0:World} {X:List Nat} {L:List Item} {S:ae} {K:Value->World->Prop}
attribute [local irreducible] Run CondV ar aI
end
section
attribute [local irreducible] Run CondV ar aI
end
end
section
open Go Go.RowKit
theorem RdT.f0 {S:ae} {cs:List Value} {t:T} (h:RdT S cs t):cs[0]?=some (.int .i64 t.kind):=by
 obtain ⟨_,rfl,_⟩:=RdT.iff.1 h; rfl
theorem RdT.f1 {S:ae} {cs:List Value} {t:T} (h:RdT S cs t):cs[1]?=some (.int .i64 t.n):=by
 obtain ⟨_,rfl,_⟩:=RdT.iff.1 h; rfl
section
variable {w:World} {X:List Nat} {S:ae}
attribute [local irreducible] Run CondV ar aI
end
end
section
open Go Go.RowKit
theorem KnownM.up {S S':ae} {es:Array MapEntry} {st:aG} (h:KnownM S es st) (hs:Sle S S'):KnownM S' es st:=
 ⟨fun e he=>by
  obtain ⟨n,t,cs,h1,h2,h3,h4⟩:=h.1 e he
  exact ⟨n,t,cs,h1,h2,h3.mono hs,h4⟩,h.2⟩
theorem StS.up {S S':ae} {sb:Nat} {st:aG} (h:StS S S sb st) (hs:Sle S S'):StS S' S' sb st:=by
 obtain ⟨mb,tv,es,ck,E,h1,h2,h3⟩:=h
 exact ⟨mb,tv,es,ck,E,hs _ _ h1,hs _ _ h2,h3.up hs⟩
section
attribute [local irreducible] Run CondV ar aI
end
end
section
open Go Go.RowKit

theorem y5:∀ (a b c:List UInt8),Op.bytesLess a b=true->Op.bytesLess b c=true->Op.bytesLess a c=true
 | _,[],_,h,_=>by simp [Op.bytesLess] at h
 | _,_::_,[],_,h=>by simp [Op.bytesLess] at h
 | [],_::_,_::_,_,_=>by simp [Op.bytesLess]
 | x::a,y::b,z::c,h,h'=>by
  simp only [Op.bytesLess,Bool.or_eq_true,decide_eq_true_eq,Bool.and_eq_true,beq_iff_eq] at h h' ⊢
  rcases h with h|⟨rfl,h⟩
  ·rcases h' with h'|⟨rfl,h'⟩
   ·left; exact UInt8.lt_trans h h'
   ·left; exact h
  ·rcases h' with h'|⟨rfl,h'⟩
   ·left; exact h'
   ·right; exact ⟨rfl,y5 a b c h h'⟩
theorem Cq:∀ a:List UInt8,Op.bytesLess a a=false
 | []=>by simp [Op.bytesLess]
 | x::a=>by
  simp only [Op.bytesLess,Cq a,Bool.and_false,Bool.or_false,decide_eq_false_iff_not]
  exact UInt8.lt_irrefl x
theorem FK:∀ a b:List UInt8,a≠b->Op.bytesLess a b=true ∨ Op.bytesLess b a=true
 | [],[],h=>absurd rfl h
 | [],_::_,_=>.inl (by simp [Op.bytesLess])
 | _::_,[],_=>.inr (by simp [Op.bytesLess])
 | x::a,y::b,h=>by
  simp only [Op.bytesLess,Bool.or_eq_true,decide_eq_true_eq,Bool.and_eq_true,beq_iff_eq]
  by_cases e:x=y
  ·subst e
   rcases FK a b (fun e=>h (by rw [e])) with h1|h1
   ·exact .inl (.inr ⟨rfl,h1⟩)
   ·exact .inr (.inr ⟨rfl,h1⟩)
  ·rcases UInt8.lt_or_lt_of_ne e with h1|h1
   ·exact .inl (.inl h1)
   ·exact .inr (.inl h1)
def bls (a b:ByteArray):Bool:=Op.bytesLess a.toList b.toList
def mR (a b:Int):Int:=if a<b then -1 else if b<a then 1 else 0
def fq (a b:ByteArray):Int:=if bls a b=true then -1 else if bls b a=true then 1 else 0
def rkS (t:T):Int:=if t.kind=3/\0<t.kids.length then 4 else t.kind
def xq (a b:Int):Int:=if a≠0 then a else b
def hdC (t u:T):Int:=xq (mR (rkS t) (rkS u)) (xq (mR t.n u.n) (xq (mR t.kids.length u.kids.length) (fq t.name u.name)))
mutual
def uz:T->T->Int
 | .mk k n s ks,u=>xq (hdC (.mk k n s ks) u) (gh ks u.kids)
def gh:List T->List T->Int
 | [],[]=>0
 | [],_::_=>-1
 | _::_,[]=>1
 | t::ts,u::us=>xq (uz t u) (gh ts us)
end
theorem iC (a b:Int):(a<b/\mR a b=-1) ∨ (b<a/\mR a b=1) ∨ (a=b/\mR a b=0):=by
 unfold mR
 by_cases h:a<b
 ·exact .inl ⟨h,if_pos h⟩
 ·by_cases h':b<a
  ·exact .inr (.inl ⟨h',by rw [if_neg h,if_pos h']⟩)
  ·exact .inr (.inr ⟨by omega,by rw [if_neg h,if_neg h']⟩)
theorem toList_inj {a b:ByteArray} (h:a.toList=b.toList):a=b:=by
 have:=yt a b
 rw [beq_iff_eq.2 h] at this
 exact of_decide_eq_true this.symm
theorem fD (a b:ByteArray):(bls a b=true/\fq a b=-1) ∨ (bls b a=true/\bls a b=false/\fq a b=1) ∨ (a=b/\fq a b=0):=by
 unfold fq
 cases h:bls a b with
 | true=>exact .inl ⟨rfl,if_pos rfl⟩
 | false=>
  cases h':bls b a with
  | true=>exact .inr (.inl ⟨rfl,rfl,by simp⟩)
  | false=>
   refine .inr (.inr ⟨?_,by simp⟩)
   refine toList_inj (Decidable.byContradiction fun e=>?_)
   rcases FK _ _ e with h1|h1
   ·rw [bls,h1] at h; cases h
   ·rw [bls,h1] at h'; cases h'
theorem Le {a b:ByteArray} (h:bls a b=true):bls b a=false:=by
 cases h':bls b a with
 | false=>rfl
 | true=>
  have:=y5 _ _ _ h h'
  rw [Cq] at this
  cases this

structure TC (a b c:Int):Prop where
 lt:a=-1->b=-1->c=-1
 e1:a=0->c=b
 e2:b=0->c=a
theorem TC.lex {a b c a' b' c':Int} (h:TC a b c) (h':TC a' b' c'):TC (xq a a') (xq b b') (xq c c'):=by
 obtain ⟨h1,h2,h3⟩:=h
 obtain ⟨h4,h5,h6⟩:=h'
 unfold xq
 refine ⟨fun x y=>?_,fun x=>?_,fun x=>?_⟩
 ·by_cases ea:a=0
  ·rw [if_neg (by omega)] at x
   by_cases eb:b=0
   ·rw [if_neg (by omega)] at y
    rw [if_neg (by have:=h2 ea; omega)]
    exact h4 x y
   ·rw [if_pos (by omega)] at y
    have:=h2 ea
    rw [if_pos (by omega)]; omega
  ·rw [if_pos (by omega)] at x
   by_cases eb:b=0
   ·have:=h3 eb
    rw [if_pos (by omega)]; omega
   ·rw [if_pos (by omega)] at y
    have:=h1 x y
    rw [if_pos (by omega)]; omega
 ·by_cases ea:a=0
  ·rw [if_neg (by omega)] at x
   rw [h2 ea,h5 x]
  ·rw [if_pos (by omega)] at x; omega
 ·by_cases eb:b=0
  ·rw [if_neg (by omega)] at x
   rw [h3 eb,h6 x]
  ·rw [if_pos (by omega)] at x; omega
theorem TC.zero:TC 0 0 0:=⟨fun h=>by omega,fun _=>rfl,fun _=>rfl⟩
theorem TC.int (a b c:Int):TC (mR a b) (mR b c) (mR a c):=by
 have h1:=iC a b
 have h2:=iC b c
 have h3:=iC a c
 exact ⟨fun _ _=>by omega,fun _=>by omega,fun _=>by omega⟩
theorem TC.str (a b c:ByteArray):TC (fq a b) (fq b c) (fq a c):=by
 refine ⟨fun x y=>?_,fun x=>?_,fun x=>?_⟩
 ·rcases fD a b with h|h|h
  ·rcases fD b c with h'|h'|h'
   ·have:=y5 _ _ _ h.1 h'.1
    unfold fq
    rw [if_pos (show bls a c=true from this)]
   ·omega
   ·omega
  ·omega
  ·omega
 ·rcases fD a b with h|h|h
  ·omega
  ·omega
  ·rw [h.1]
 ·rcases fD b c with h|h|h
  ·omega
  ·omega
  ·rw [h.1]
theorem TC.hd (t u v:T):TC (hdC t u) (hdC u v) (hdC t v):=(TC.int _ _ _).lex ((TC.int _ _ _).lex ((TC.int _ _ _).lex (TC.str _ _ _)))
mutual
theorem TC.term:∀ t u v:T,TC (uz t u) (uz u v) (uz t v)
 | .mk k n s ks,.mk k' n' s' ks',v=>by
  rw [uz,uz,uz]
  exact (TC.hd _ _ _).lex (TC.list ks ks' v.kids)
theorem TC.list:∀ t u v:List T,TC (gh t u) (gh u v) (gh t v)
 | [],[],[]=>by simpa [gh] using TC.zero
 | [],[],_::_=>by rw [gh,gh]; exact ⟨fun h=>by omega,fun _=>rfl,fun h=>by omega⟩
 | [],_::_,[]=>by rw [gh,gh,gh]; exact ⟨fun _ h=>by omega,fun h=>by omega,fun h=>by omega⟩
 | [],_::_,_::_=>by rw [gh,gh]; exact ⟨fun h _=>h,fun h=>by omega,fun h=>rfl⟩
 | _::_,[],[]=>by rw [gh,gh]; exact ⟨fun h _=>h,fun h=>by omega,fun h=>rfl⟩
 | _::_,[],_::_=>by rw [gh,gh]; exact ⟨fun h _=>by omega,fun h=>by omega,fun h=>by omega⟩
 | _::_,_::_,[]=>by rw [gh,gh]; exact ⟨fun _ h=>by omega,fun h=>rfl,fun h=>by omega⟩
 | t::ts,u::us,v::vs=>by
  rw [gh,gh,gh]
  exact (TC.term t u v).lex (TC.list ts us vs)
end
theorem nT (a b:Int):-(xq a b)=xq (-a) (-b):=by
 unfold xq
 by_cases h:a=0
 ·subst h; simp
 ·rw [if_pos h,if_pos (by omega)]
theorem qP (a b:Int):mR b a=-mR a b:=by
 have:=iC a b
 have:=iC b a
 omega
theorem Dr (a b:ByteArray):fq b a=-fq a b:=by
 rcases fD a b with h|h|h
 ·rw [h.2]
  have:=Le h.1
  unfold fq
  rw [this,if_neg (by decide),if_pos h.1]; rfl
 ·rw [h.2.2]
  unfold fq
  rw [if_pos h.1]
 ·rw [h.2]
  obtain rfl:=h.1
  rw [h.2]; rfl
theorem Mb (t u:T):hdC u t=-hdC t u:=by
 rw [hdC,hdC,nT,nT,nT,qP (rkS t),qP t.n,qP t.kids.length,Dr t.name]
mutual
theorem Ce:∀ t u:T,uz u t=-uz t u
 | .mk k n s ks,.mk k' n' s' ks'=>by
  rw [uz,uz,nT,Mb (.mk k n s ks)]
  congr 1
  exact BB ks ks'
theorem BB:∀ t u:List T,gh u t=-gh t u
 | [],[]=>by simp [gh]
 | [],_::_=>by simp [gh]
 | _::_,[]=>by simp [gh]
 | t::ts,u::us=>by rw [gh,gh,nT,Ce t u,BB ts us]
end
theorem KU (t:T):uz t t=0:=by
 have:=Ce t t
 omega
def Sorted:List T->Prop
 | []=>True
 | x::xs=>(∀ y∈xs,uz x y<0)/\Sorted xs
theorem Sorted.nodup:∀ {l:List T},Sorted l->l.Nodup
 | [],_=>List.nodup_nil
 | x::xs,h=>by
  rw [List.nodup_cons]
  refine ⟨fun hx=>?_,Sorted.nodup h.2⟩
  have:=h.1 x hx
  rw [KU] at this
  omega
end
section
open Go Go.RowKit
section
variable {P:Program} {w:World} {K:Value->World->Prop}
attribute [local irreducible] Run
end
section
attribute [local irreducible] Run CondV ar aI
end
end
section
open Go Go.RowKit
section
attribute [local irreducible] Run CondV ar aI
end
end
section
open Go Go.RowKit
def Jj:T:=.mk 0 0 ⟨#[]⟩ []
theorem RdT.zero (S:ae):RdT S j3 Jj:=RdT.iff.2 ⟨_,rfl,by simp [inI,T.kind,Jj],by simp [inI,T.n,Jj],by rw [Jj,T.name]; decide +kernel,none,0,rfl,Nat.le_refl _,Nat.zero_le _,.inl rfl⟩
def KRel (S:ae) (cs:List Value) (o:Option T):Prop:=cs.length=4/\(o=none->cs=j3)/\∀ t,o=some t->RdT S cs t
theorem KRel.one {S:ae} {cs:List Value} {o:Option T} (h:KRel S cs o):∀ u∈cs,u.oneCell'=true:=by
 cases o with
 | none=>rw [h.2.1 rfl]; simp [j3,Value.oneCell']
 | some t=>exact (h.2.2 t rfl).one
theorem KnownC.rd {S:ae} {kb kp:Nat} {kc:Array Value} {st:aG} {E:TypeId} (hS:S kb=some (.cells kc E)) (h:KnownC S kc st) (hst:st.length=26) (hkp:26<=kp) (hkm:kp<=maxLen):RdSl S 4 (KRel S) (kvn kb kp) st:=by
 refine ⟨some ⟨kb,0,none⟩,kp,by rw [hst],by omega,hkm,.inr ⟨kb,0,kc,E,(0,0),rfl,hS,fun i hi=>?_⟩⟩
 obtain ⟨h1,h2⟩:=h.2 i hi
 rw [Nat.zero_add]
 refine ⟨?_,h1,h2⟩
 have:=h.1
 rw [aL,List.length_take,List.length_drop,Array.length_toList]
 omega
section
attribute [local irreducible] Run CondV ar aI
theorem KnownC.mono {S S':ae} {kc:Array Value} {st:aG} (h:KnownC S kc st) (hs:Sle S S'):KnownC S' kc st:=
 ⟨h.1,fun i hi=>⟨(h.2 i hi).1,fun t ht=>((h.2 i hi).2 t ht).mono hs⟩⟩
end
end
section
open Go Go.RowKit
def Fun (f:FuncId) (cap:List Value) (S:ae) (φ:Int->T):Prop:=∀ S',Sle S S'->∀ n:Int,0<=n->n<=25->∃ cs,RdT S' cs (φ n)/\Pure Tryz.prog f (.int .i64 n::cap) S' (.agg cs.toArray)
theorem Fun.mono {f:FuncId} {cap:List Value} {S S':ae} {φ:Int->T} (h:Fun f cap S φ) (hs:Sle S S'):Fun f cap S' φ:=fun S2 h2=>h S2 (hs.trans h2)
section
attribute [local irreducible] Run CondV ar aI
end
end
section
open Go Go.RowKit
section
attribute [local irreducible] Run CondV ar aI
theorem KnownM.none (S:ae) (N:Nat):KnownM S #[] (List.replicate N Option.none):=by
 refine ⟨fun e he=>by simp at he,fun n t h=>?_,by simp⟩
 have:=List.mem_of_getElem? h
 simp at this
end
end
section
open Go Go.RowKit
def QK:aG:=List.replicate 26 none
theorem Ka (N:Nat):Good N (List.replicate N none):=⟨by simp,fun t ht=>by simp at ht,fun t ht=>by simp at ht,fun n=>n,fun n u hu=>by
 have:=List.mem_of_getElem? hu
 simp at this⟩
theorem KnU.zero (z:Array Value) (hz:z=#[.int .i64 0,.int .i64 0,.string ⟨#[]⟩,.slice none 0 0]) (S:ae) (N:Nat):KnU S ((Array.range (N * 4)).map (z[· % z.size]!)) (List.replicate N none):=by
 subst hz
 refine ⟨by simp,fun i hi=>⟨fun _=>?_,fun t ht=>?_⟩⟩
 ·simp only [List.length_replicate] at hi
  apply List.ext_getElem?
  intro j
  rw [aL,List.getElem?_take]
  match j with
  | 0|1|2|3=>
   rw [if_pos (by omega),List.getElem?_drop,Array.getElem?_toList,Array.getElem?_map,Array.getElem?_range,if_pos (by omega)]
   simp only [Option.map_some,List.size_toArray,List.length_cons,List.length_nil]
   first
    | rw [show (i * 4+0) % 4=0 by omega]; rfl
    | rw [show (i * 4+1) % 4=1 by omega]; rfl
    | rw [show (i * 4+2) % 4=2 by omega]; rfl
    | rw [show (i * 4+3) % 4=3 by omega]; rfl
  | j+4=>
   rw [if_neg (by omega)]
   rfl
 ·have e:(List.replicate N (none:Option T))[i]=none:=by simp
  rw [e] at ht
  cases ht
def Qx (code:Int) (st:aG):Bool:=decide (code=0) && st.all Option.isNone
section
variable {w:World} {K:Value->World->Prop}
attribute [local irreducible] Run CondV ar aI
end
end
end Go.Proofs.YtbocelianhcfmaaGreatDoor

/- The program's solver of goals that are built in. -/
import Derived.Test.YtfcbhfjomgopbaaGreatZFu18
import Derived.Test.YtfcbhfjomgopbaaGreatZFu20
import Derived.Test.YtfcbhfjomgopbaaGreatZFu9
namespace Go.Proofs.YtfcbhfjomgopbaaGreat
open Go Go.RowKit
theorem PT {k n:Int} {s:ByteArray} {ks:List T} (h:cM s dL=true):eP (.mk k n s ks)=.done (MJ s (dy ks)):=by
 have h0:=h
 rw [cM,List.any_eq_true] at h
 obtain ⟨x,hx,hd⟩:=h
 have hd:=of_decide_eq_true hd
 subst hd
 have hne:∀ y∈([gE,g8,nEq,nNe,mp,nIs,Ak]:List ByteArray),s≠y:=by
  intro y hy
  simp only [dL,List.mem_cons,List.not_mem_nil,or_false] at hx hy
  rcases hx with rfl|rfl|rfl|rfl|rfl <;> rcases hy with rfl|rfl|rfl|rfl|rfl|rfl|rfl <;> decide +kernel
 have n1:(T.mk k n s ks).name=s:=rfl
 rw [eP,n1,if_neg (hne _ (by simp)),if_neg (hne _ (by simp)),if_neg (hne _ (by simp)),if_neg (hne _ (by simp)),if_neg (hne _ (by simp)),if_neg (hne _ (by simp)),if_neg (hne _ (by simp)),if_pos h0]
 rfl
theorem RdT.f0 {S:ae} {cs:List Value} {t:T} (h:RdT S cs t):cs[0]?=some (.int .i64 t.kind):=by
 obtain ⟨_,rfl,_⟩:=RdT.iff.1 h; rfl
section
variable {w:World} {X:List Nat} {S:ae}
attribute [local irreducible] Run CondV aB aS
theorem p6 (n:Int) (S:ae):Pure Tryz.prog Me [.int .i64 n] S (.agg #[.int .i64 2,.int .i64 n,.string ⟨#[]⟩,.slice none 0 0]):=by
 intro w hI
 refine yS.2 ?_
 dsimp only[yS,aL]
 refine aD hI aQ fun b w' hI=>?_
 refine pI ?_
 refine aq hI 0 rfl ac rfl rfl (by simp [Value.oneCell']) fun w' hI=>?_
 refine aU hI 0 ac rfl rfl ?_
 exact done hI rfl
def PO (sb mb:Nat) (S:ae) (st:aF) (tr:List Int) (code:Int) (st':aF):Value->List Item->ae->Prop:=fun q I' S'=>S'=S/\q=.int .i64 code/\
 ∃ es' ck' tv' tr',I'=aX sb mb es' ck' tv' tr'/\KnownM S es' st'/\tr'.length+unb st'<=1000000/\Tr st st' tr tr'
set_option maxHeartbeats 1000000 in
theorem Hj {N:Nat} (hN:N<=1000000) {st st':aF} {g:T} {code:Int} (hg:Good N st) (ho:okU N g/\wT g<=1048576) (hn:okN g) (hb:cO g=true) (hB:Blt st g code st')
  {S:ae} {cs:List Value} {sb mb ck:Nat} {es:Array MapEntry} {tv:Value} {tr:List Int} (h:RdT S cs g) (hkm:KnownM S es st) (htr:tr.length+unb st<=1000000) :
  Tri Tryz.prog BV [.pointer (some ⟨sb,0,none⟩),.agg cs.toArray] (aX sb mb es ck tv tr) S (PO sb mb S st tr code st'):=by
 intro w hI
 have hgl:=h
 obtain ⟨k,n,s,ks⟩:=g
 obtain ⟨kv,rfl,_,_,_,hks⟩:=RdT.iff.1 h
 have hbj:=A4 hb ho
 rw [cO,Bool.and_eq_true] at hb
 obtain ⟨hk3,hbs⟩:=hb
 rw [okN] at hn
 simp only [T.name,T.kids,T.kind,T.n] at hks hbs hgl hk3 ⊢
 obtain ⟨X,hX⟩:∃ X,X=bC (aX sb mb es ck tv tr):=⟨_,rfl⟩
 rw [<- hX] at hI ⊢
 unfold Blt at hB
 clear h
 refine o8.2 ?_
 dsimp only[o8,aW]
 refine bf hI fun b3 w' hI=>?_
 have hI:Inv w X ([.blk b3 (.cells #[.int .i64 k,.int .i64 n,.string s,kv] ab)]++aX sb mb es ck tv tr) S w':=hI.perm List.perm_append_comm
 have fin:∀ {w':World} {L:List Item} {j:BJ} (c:Int),j=.done c->BltJ st j code st'->Inv w X L S w'->List.Sublist (aX sb mb es ck tv tr) L->
   ∃ v' I' S',Ending.returned (.int .i64 c)=.returned v'/\Inv w X I' S' w'/\Ext w.heap.size X S S'/\PO sb mb S st tr code st' v' I' S':=by
  intro w' L j c hj hB hI hs
  subst hj
  obtain ⟨rfl,rfl⟩:=hB
  exact ⟨_,_,S,rfl,hI.sub hs,Ext.refl _ _ _,rfl,rfl,es,ck,tv,tr,rfl,hkm,htr,Tr.refl _ _⟩
 have sub1:∀ it:Item,List.Sublist (aX sb mb es ck tv tr) ([it]++aX sb mb es ck tv tr):=fun it=>List.sublist_append_right [it] _
 refine ao hI 0 ac rfl rfl ?_
 refine Run.callPure DP DT hI (yx hgl) fun w' hI=>?_
 have hcg:Rf (.mk k n s ks)=(decide (ks.length=2) && cM s dL):=by
  unfold Rf
  rw [show decide ((T.mk k n s ks).kind=3)=true from hk3]
  rfl
 rw [hcg]
 refine az (fun hc=>?_) (fun hc=>?_)
 ·rw [Bool.and_eq_true,decide_eq_true_eq] at hc
  refine ao hI 0 ac rfl rfl ?_
  refine Run.callPure ED Eb hI (yl hgl hc.1 hn.2) fun w' hI=>?_
  exact fin _ (PT hc.2) hB hI (sub1 _)
 have hcn:cM s dL=false:=by
  cases hx:cM s dL
  ·rfl
  ·have:=gx (Na hx) hbs
   rw [hx,decide_eq_true (show ks.length=2 by omega)] at hc
   cases hc
 refine ad hI 0 rfl al ah rfl ?_
 refine ad hI 0 rfl aO aJ rfl ?_
 refine bg ?_
 refine aI (fun h=>fin 0 (by rw [eP,if_pos (show (T.mk k n s ks).name=gE from h)]) hB hI (sub1 _)) (fun h0=>?_)
 refine bg ?_
 refine aI (fun h=>fin 1 (by rw [eP,if_neg (show ¬ (T.mk k n s ks).name=gE from h0),if_pos (show (T.mk k n s ks).name=g8 from h)]) hB hI (sub1 _)) (fun h1=>?_)
 refine bg ?_
 refine aI (fun h=>?_) (fun h2=>?_)
 ·obtain ⟨x,y,rfl⟩:=jR (l:=ks) (by have:=gx (by rw [h]; decide +kernel) hbs; omega)
  have hj:eP (.mk k n s [x,y])=.uni x y:=by
   rw [eP,if_neg (show ¬ (T.mk k n s [x,y]).name=gE from h0),if_neg (show ¬ (T.mk k n s [x,y]).name=g8 from h1),if_pos (show (T.mk k n s [x,y]).name=nEq from h)]
   rfl
  rw [hj] at hB hbj
  obtain ⟨b,o,cap,c,E,fz,rfl,hSb,hR⟩:=hks.ptr (by simp)
  obtain ⟨r,hu,rfl⟩:=hB
  have hjj:okJ N (.one x y):=hbj
  refine ⟨fun D x4 mD iE ia jM gI lq lw fT j4 w_=>Fx D 0 [j4=.pointer (some ⟨sb,0,none⟩),fT=.slice (some ⟨b,o,none⟩) [x,y].length cap,lw=.pointer (some ⟨b,o+0 * 4,none⟩),lq=.agg (aH c (o+0 * 4) 4).toArray,gI=.slice (some ⟨b,o,none⟩) [x,y].length cap,jM=.pointer (some ⟨b,o+1 * 4,none⟩),ia=.agg (aH c (o+1 * 4) 4).toArray,iE=.bool r,mD=.int .i64 (dY r),x4=.int .i64 (dY r)]/\(D 7=false->Inv w X ([.blk b3 (.cells #[.int .i64 k,.int .i64 n,.string s,.slice (some ⟨b,o,none⟩) [x,y].length cap] ab)]++aX sb mb es ck tv tr) S w_)/\(D 7=true->∃ es1 ck1 tv1 tr1,KnownM S es1 st'/\tr1.length+unb st'<=1000000/\Tr st st' tr tr1/\Inv w X ([.blk b3 (.cells #[.int .i64 k,.int .i64 n,.string s,.slice (some ⟨b,o,none⟩) [x,y].length cap] ab)]++aX sb mb es1 ck1 tv1 tr1) S w_)/\∃ es3 ck3 tv3 tr3,Inv w X ([.blk b3 (.cells #[.int .i64 k,.int .i64 n,.string s,.slice (some ⟨b,o,none⟩) [x,y].length cap] ab)]++aX sb mb es3 ck3 tv3 tr3) S w_,⟨Fx.nil _ _,⟨fun _=>hI.draw,aV,es,ck,tv,tr,hI.draw⟩⟩,⟨?_,?_,?_,?_,?_,?_,?_,?_,?_,?_,trivial⟩,?_⟩
  all_goals (intro D bn; intros; rename_i x4 mD iE ia jM gI lq lw fT j4 w_ hA_; have hF_:=hA_.1; obtain ⟨⟨bR,bQ,bG,bS,bU,bB,bD,cq,ci,cL,_⟩,⟨hI0,hI1,es3,ck3,tv3,tr3,hI⟩⟩:=hA_)
  ·exact ⟨hF_.set 0 rfl,⟨hI0,hI1,es3,ck3,tv3,tr3,hI⟩⟩
  ·exact ⟨hF_.set 1 rfl,⟨hI0,hI1,es3,ck3,tv3,tr3,hI⟩⟩
  ·obtain rfl:=bQ ‹_›
   refine ar (i:=0) af (by simp) ?_
   exact ⟨hF_.set 2 rfl,⟨hI0,hI1,es3,ck3,tv3,tr3,hI⟩⟩
  ·obtain rfl:=bG ‹_›
   refine bE ac (RdT.length (hR 0 (by simp))) (fun j v hj=>by rw [hI.cellS hSb]; exact au rfl j v hj) ?_
   exact ⟨hF_.set 3 rfl,⟨hI0,hI1,es3,ck3,tv3,tr3,hI⟩⟩
  ·exact ⟨hF_.set 4 rfl,⟨hI0,hI1,es3,ck3,tv3,tr3,hI⟩⟩
  ·obtain rfl:=bU ‹_›
   refine ar (i:=1) af (by simp) ?_
   exact ⟨hF_.set 5 rfl,⟨hI0,hI1,es3,ck3,tv3,tr3,hI⟩⟩
  ·obtain rfl:=bB ‹_›
   refine bE ac (RdT.length (hR 1 (by simp))) (fun j v hj=>by rw [hI.cellS hSb]; exact au rfl j v hj) ?_
   exact ⟨hF_.set 6 rfl,⟨hI0,hI1,es3,ck3,tv3,tr3,hI⟩⟩
  ·obtain rfl:=bR ‹_›
   obtain rfl:=bS ‹_›
   obtain rfl:=bD ‹_›
   refine Run.callE (A:=[_]) fi eW (hI0 bn) (jn hN hg hjj hu S _ _ sb mb ck es tv tr (hR 0 (by simp)) (hR 1 (by simp)) hkm htr) fun v' I' S' w_=>?_
   rintro ⟨eS,rfl,es1,ck1,tv1,tr1,rfl,hm1,htr1,hT1⟩ _ hI
   rw [eS] at hI
   have hI0:=fun (h:aG D 7 7=false)=>(Bool.noConfusion h:Inv w X ([.blk b3 (.cells #[.int .i64 k,.int .i64 n,.string s,.slice (some ⟨b,o,none⟩) [x,y].length cap] ab)]++aX sb mb es ck tv tr) S w_)
   have hI1:=fun (_:aG D 7 7=true)=>(⟨es1,ck1,tv1,tr1,hm1,htr1,hT1,hI⟩:∃ es1 ck1 tv1 tr1,KnownM S es1 st'/\tr1.length+unb st'<=1000000/\Tr st st' tr tr1/\Inv w X ([.blk b3 (.cells #[.int .i64 k,.int .i64 n,.string s,.slice (some ⟨b,o,none⟩) [x,y].length cap] ab)]++aX sb mb es1 ck1 tv1 tr1) S w_)
   obtain ⟨es3,ck3,tv3,tr3,hI⟩:∃ es3 ck3 tv3 tr3,Inv w X ([.blk b3 (.cells #[.int .i64 k,.int .i64 n,.string s,.slice (some ⟨b,o,none⟩) [x,y].length cap] ab)]++aX sb mb es3 ck3 tv3 tr3) S w_:=⟨es1,ck1,tv1,tr1,hI⟩
   exact ⟨hF_.set 7 rfl,⟨hI0,hI1,es3,ck3,tv3,tr3,hI⟩⟩
  ·obtain rfl:=cq ‹_›
   obtain ⟨es1,ck1,tv1,tr1,hm1,htr1,hT1,hI⟩:=hI1 ‹D 7=true›
   refine Run.callPure fn_i_holds nm_i_holds hI (dB r S) fun w_ hI=>?_
   have hI0:=fun (h:aG D 8 7=false)=>(Bool.noConfusion (h.symm.trans (show aG D 8 7=true from ‹D 7=true›)):Inv w X ([.blk b3 (.cells #[.int .i64 k,.int .i64 n,.string s,.slice (some ⟨b,o,none⟩) [x,y].length cap] ab)]++aX sb mb es ck tv tr) S w_)
   have hI1:=fun (_:aG D 8 7=true)=>(⟨es1,ck1,tv1,tr1,hm1,htr1,hT1,hI⟩:∃ es1 ck1 tv1 tr1,KnownM S es1 st'/\tr1.length+unb st'<=1000000/\Tr st st' tr tr1/\Inv w X ([.blk b3 (.cells #[.int .i64 k,.int .i64 n,.string s,.slice (some ⟨b,o,none⟩) [x,y].length cap] ab)]++aX sb mb es1 ck1 tv1 tr1) S w_)
   obtain ⟨es3,ck3,tv3,tr3,hI⟩:∃ es3 ck3 tv3 tr3,Inv w X ([.blk b3 (.cells #[.int .i64 k,.int .i64 n,.string s,.slice (some ⟨b,o,none⟩) [x,y].length cap] ab)]++aX sb mb es3 ck3 tv3 tr3) S w_:=⟨es1,ck1,tv1,tr1,hI⟩
   exact ⟨hF_.set 8 rfl,⟨hI0,hI1,es3,ck3,tv3,tr3,hI⟩⟩
  ·obtain rfl:=ci ‹_›
   exact ⟨hF_.set 9 rfl,⟨hI0,hI1,es3,ck3,tv3,tr3,hI⟩⟩
  obtain ⟨rfl,rfl,rfl,rfl,rfl,rfl,rfl,rfl,rfl,rfl,_⟩:=hF_.all
  have uZ:D 7=true:=by assumption
  clear hF_ bR bQ bG bS bU bB bD cq ci cL
  obtain ⟨es1,ck1,tv1,tr1,hm1,htr1,hT1,hI⟩:=hI1 uZ
  exact ⟨_,_,S,rfl,hI.sub (List.sublist_append_right [_] _),Ext.refl _ _ _,rfl,rfl,es1,ck1,tv1,tr1,rfl,hm1,htr1,hT1⟩
 refine bg ?_
 refine aI (fun h=>?_) (fun h3=>?_)
 ·obtain ⟨x,y,rfl⟩:=jR (l:=ks) (by have:=gx (by rw [h]; decide +kernel) hbs; omega)
  have hj:eP (.mk k n s [x,y])=.not x y:=by
   rw [eP,if_neg (show ¬ (T.mk k n s [x,y]).name=gE from h0),if_neg (show ¬ (T.mk k n s [x,y]).name=g8 from h1),if_neg (show ¬ (T.mk k n s [x,y]).name=nEq from h2),if_pos (show (T.mk k n s [x,y]).name=nNe from h)]
   rfl
  rw [hj] at hB hbj
  obtain ⟨b,o,cap,c,E,fz,rfl,hSb,hR⟩:=hks.ptr (by simp)
  obtain ⟨rfl,r,st1,hu,rfl⟩:=hB
  have hjj:okJ N (.one x y):=hbj
  refine bF ?_
  refine ad hI 1 rfl gh eG rfl ?_
  obtain ⟨ta,tn,tc,htv⟩:=hI.rowSlice 3 rfl
  have htn:tn=tr.length:=by
   have hm:w'.ownsRow 0 bZ 1 tv tr.length (ints tr):=hI.its (ed tv tr) (by simp [aX])
   rcases hm.2 with ⟨e1,e2⟩|⟨g1,c1,u1,e1,_⟩
   ·rw [htv] at e1; simp only [Value.slice.injEq] at e1; omega
   ·rw [htv] at e1; simp only [Value.slice.injEq] at e1; omega
  obtain rfl:=htn
  rw [htv]
  refine dK bV ?_
  refine ⟨fun D x7 jL mw kL jY iC iJ ig lK w_=>Fx D 0 [lK=.pointer (some ⟨sb,0,none⟩),ig=.slice (some ⟨b,o,none⟩) [x,y].length cap,iJ=.pointer (some ⟨b,o+0 * 4,none⟩),iC=.agg (aH c (o+0 * 4) 4).toArray,jY=.slice (some ⟨b,o,none⟩) [x,y].length cap,kL=.pointer (some ⟨b,o+1 * 4,none⟩),mw=.agg (aH c (o+1 * 4) 4).toArray,jL=.bool r,x7=.bool r]/\(D 7=false->Inv w X ([.blk b3 (.cells #[.int .i64 k,.int .i64 n,.string s,.slice (some ⟨b,o,none⟩) [x,y].length cap] ab)]++aX sb mb es ck tv tr) S w_)/\(D 7=true->∃ es1 ck1 tv1 tr1,KnownM S es1 st1/\tr1.length+unb st1<=1000000/\Tr st' st1 tr tr1/\Inv w X ([.blk b3 (.cells #[.int .i64 k,.int .i64 n,.string s,.slice (some ⟨b,o,none⟩) [x,y].length cap] ab)]++aX sb mb es1 ck1 tv1 tr1) S w_)/\∃ es3 ck3 tv3 tr3,Inv w X ([.blk b3 (.cells #[.int .i64 k,.int .i64 n,.string s,.slice (some ⟨b,o,none⟩) [x,y].length cap] ab)]++aX sb mb es3 ck3 tv3 tr3) S w_,⟨Fx.nil _ _,⟨fun _=>hI.draw,aV,es,ck,tv,tr,hI.draw⟩⟩,⟨?_,?_,?_,?_,?_,?_,?_,?_,?_,trivial⟩,?_⟩
  all_goals (intro D bn; intros; rename_i x7 jL mw kL jY iC iJ ig lK w_ hA_; have hF_:=hA_.1; obtain ⟨⟨bR,bQ,bG,bS,bU,bB,bD,cq,ci,_⟩,⟨hI0,hI1,es3,ck3,tv3,tr3,hI⟩⟩:=hA_)
  ·exact ⟨hF_.set 0 rfl,⟨hI0,hI1,es3,ck3,tv3,tr3,hI⟩⟩
  ·exact ⟨hF_.set 1 rfl,⟨hI0,hI1,es3,ck3,tv3,tr3,hI⟩⟩
  ·obtain rfl:=bQ ‹_›
   refine ar (i:=0) af (by simp) ?_
   exact ⟨hF_.set 2 rfl,⟨hI0,hI1,es3,ck3,tv3,tr3,hI⟩⟩
  ·obtain rfl:=bG ‹_›
   refine bE ac (RdT.length (hR 0 (by simp))) (fun j v hj=>by rw [hI.cellS hSb]; exact au rfl j v hj) ?_
   exact ⟨hF_.set 3 rfl,⟨hI0,hI1,es3,ck3,tv3,tr3,hI⟩⟩
  ·exact ⟨hF_.set 4 rfl,⟨hI0,hI1,es3,ck3,tv3,tr3,hI⟩⟩
  ·obtain rfl:=bU ‹_›
   refine ar (i:=1) af (by simp) ?_
   exact ⟨hF_.set 5 rfl,⟨hI0,hI1,es3,ck3,tv3,tr3,hI⟩⟩
  ·obtain rfl:=bB ‹_›
   refine bE ac (RdT.length (hR 1 (by simp))) (fun j v hj=>by rw [hI.cellS hSb]; exact au rfl j v hj) ?_
   exact ⟨hF_.set 6 rfl,⟨hI0,hI1,es3,ck3,tv3,tr3,hI⟩⟩
  ·obtain rfl:=bR ‹_›
   obtain rfl:=bS ‹_›
   obtain rfl:=bD ‹_›
   refine Run.callE (A:=[_]) fi eW (hI0 bn) (jn hN hg hjj hu S _ _ sb mb ck es tv tr (hR 0 (by simp)) (hR 1 (by simp)) hkm htr) fun v' I' S' w_=>?_
   rintro ⟨eS,rfl,es1,ck1,tv1,tr1,rfl,hm1,htr1,hT1⟩ _ hI
   rw [eS] at hI
   have hI0:=fun (h:aG D 7 7=false)=>(Bool.noConfusion h:Inv w X ([.blk b3 (.cells #[.int .i64 k,.int .i64 n,.string s,.slice (some ⟨b,o,none⟩) [x,y].length cap] ab)]++aX sb mb es ck tv tr) S w_)
   have hI1:=fun (_:aG D 7 7=true)=>(⟨es1,ck1,tv1,tr1,hm1,htr1,hT1,hI⟩:∃ es1 ck1 tv1 tr1,KnownM S es1 st1/\tr1.length+unb st1<=1000000/\Tr st' st1 tr tr1/\Inv w X ([.blk b3 (.cells #[.int .i64 k,.int .i64 n,.string s,.slice (some ⟨b,o,none⟩) [x,y].length cap] ab)]++aX sb mb es1 ck1 tv1 tr1) S w_)
   obtain ⟨es3,ck3,tv3,tr3,hI⟩:∃ es3 ck3 tv3 tr3,Inv w X ([.blk b3 (.cells #[.int .i64 k,.int .i64 n,.string s,.slice (some ⟨b,o,none⟩) [x,y].length cap] ab)]++aX sb mb es3 ck3 tv3 tr3) S w_:=⟨es1,ck1,tv1,tr1,hI⟩
   exact ⟨hF_.set 7 rfl,⟨hI0,hI1,es3,ck3,tv3,tr3,hI⟩⟩
  ·obtain rfl:=cq ‹_›
   exact ⟨hF_.set 8 rfl,⟨hI0,hI1,es3,ck3,tv3,tr3,hI⟩⟩
  obtain ⟨rfl,rfl,rfl,rfl,rfl,rfl,rfl,rfl,rfl,_⟩:=hF_.all
  have uZ:D 7=true:=by assumption
  clear hF_ bR bQ bG bS bU bB bD cq ci
  obtain ⟨es1,ck1,tv1,tr1,hm1,htr1,⟨ns,rfl,hun,hns⟩,hI⟩:=hI1 uZ
  have hd1:(tr++ns).drop tr.length=ns:=by rw [List.drop_left]
  have hd2:(tr++ns).take tr.length=tr:=by rw [List.take_left]
  refine Run.callE (A:=[_]) Ag AK hI (Lz (mark:=tr.length) hm1 (by simp) (by rw [hd1]; intro n hn; obtain ⟨j,rfl,_⟩:=hns n hn; omega) (by omega)) fun v' I' S' w'=>?_
  rintro ⟨eS,rfl,es2,tv2,rfl,hm2⟩ _ hI
  rw [eS] at hI
  rw [hd1,hun] at hm2
  rw [hd2] at hI
  refine bK ?_
  refine Run.callPure fn_i_holds nm_i_holds hI (dB (!r) S) fun w' hI=>?_
  exact ⟨_,_,S,rfl,hI.sub (List.sublist_append_right [_] _),Ext.refl _ _ _,rfl,rfl,es2,ck1,tv2,tr,rfl,hm2,htr,Tr.refl _ _⟩
 refine bg ?_
 refine aI (fun h=>?_) (fun h4=>?_)
 ·obtain ⟨x,y,rfl⟩:=jR (l:=ks) (by have:=gx (by rw [h]; decide +kernel) hbs; omega)
  have hj:eP (.mk k n s [x,y])=.done (dY (eqT x y)):=by
   rw [eP,if_neg (show ¬ (T.mk k n s [x,y]).name=gE from h0),if_neg (show ¬ (T.mk k n s [x,y]).name=g8 from h1),if_neg (show ¬ (T.mk k n s [x,y]).name=nEq from h2),if_neg (show ¬ (T.mk k n s [x,y]).name=nNe from h3),if_pos (show (T.mk k n s [x,y]).name=mp from h)]
   rfl
  rw [hj] at hB hbj
  obtain ⟨b,o,cap,c,E,fz,rfl,hSb,hR⟩:=hks.ptr (by simp)
  refine ⟨fun D x4 yd yc yQ xL yr wS si tJ w_=>Fx D 0 [tJ=.slice (some ⟨b,o,none⟩) [x,y].length cap,si=.pointer (some ⟨b,o+0 * 4,none⟩),wS=.agg (aH c (o+0 * 4) 4).toArray,yr=.slice (some ⟨b,o,none⟩) [x,y].length cap,xL=.pointer (some ⟨b,o+1 * 4,none⟩),yQ=.agg (aH c (o+1 * 4) 4).toArray,yc=.bool (eqT x y),yd=.int .i64 (dY (eqT x y)),x4=.int .i64 (dY (eqT x y))]/\Inv w X ([.blk b3 (.cells #[.int .i64 k,.int .i64 n,.string s,.slice (some ⟨b,o,none⟩) [x,y].length cap] ab)]++aX sb mb es ck tv tr) S w_,⟨Fx.nil _ _,hI.draw⟩,⟨?_,?_,?_,?_,?_,?_,?_,?_,?_,trivial⟩,?_⟩
  all_goals (intro D bn; intros; rename_i x4 yd yc yQ xL yr wS si tJ w_ hA_; have hF_:=hA_.1; obtain ⟨⟨bR,bQ,bG,bS,bU,bB,bD,cq,ci,_⟩,hI⟩:=hA_)
  ·exact ⟨hF_.set 0 rfl,hI⟩
  ·obtain rfl:=bR ‹_›
   refine ar (i:=0) af (by simp) ?_
   exact ⟨hF_.set 1 rfl,hI⟩
  ·obtain rfl:=bQ ‹_›
   refine bE ac (RdT.length (hR 0 (by simp))) (fun j v hj=>by rw [hI.cellS hSb]; exact au rfl j v hj) ?_
   exact ⟨hF_.set 2 rfl,hI⟩
  ·exact ⟨hF_.set 3 rfl,hI⟩
  ·obtain rfl:=bS ‹_›
   refine ar (i:=1) af (by simp) ?_
   exact ⟨hF_.set 4 rfl,hI⟩
  ·obtain rfl:=bU ‹_›
   refine bE ac (RdT.length (hR 1 (by simp))) (fun j v hj=>by rw [hI.cellS hSb]; exact au rfl j v hj) ?_
   exact ⟨hF_.set 5 rfl,hI⟩
  ·obtain rfl:=bG ‹_›
   obtain rfl:=bB ‹_›
   refine Run.callPure mQ mJ hI (nj x y S _ _ (hR 0 (by simp)) (hR 1 (by simp))) fun w_ hI=>?_
   exact ⟨hF_.set 6 rfl,hI⟩
  ·obtain rfl:=bD ‹_›
   refine Run.callPure fn_i_holds nm_i_holds hI (dB _ S) fun w_ hI=>?_
   exact ⟨hF_.set 7 rfl,hI⟩
  ·obtain rfl:=cq ‹_›
   exact ⟨hF_.set 8 rfl,hI⟩
  obtain ⟨rfl,rfl,rfl,rfl,rfl,rfl,rfl,rfl,rfl,_⟩:=hF_.all
  clear hF_ bR bQ bG bS bU bB bD cq ci
  exact fin _ rfl hB hI (sub1 _)
 refine bg ?_
 refine aI (fun h=>?_) (fun h5=>?_)
 ·obtain ⟨x,y,rfl⟩:=jR (l:=ks) (by have:=gx (by rw [h]; decide +kernel) hbs; omega)
  have hj:eP (.mk k n s [x,y])=if (cj y).2≠0 then .done (cj y).2 else .uni x (DE (cj y).1):=by
   rw [eP,if_neg (show ¬ (T.mk k n s [x,y]).name=gE from h0),if_neg (show ¬ (T.mk k n s [x,y]).name=g8 from h1),if_neg (show ¬ (T.mk k n s [x,y]).name=nEq from h2),if_neg (show ¬ (T.mk k n s [x,y]).name=nNe from h3),if_neg (show ¬ (T.mk k n s [x,y]).name=mp from h4),if_pos (show (T.mk k n s [x,y]).name=nIs from h)]
   rfl
  rw [hj] at hB hbj
  obtain ⟨b,o,cap,c,E,fz,rfl,hSb,hR⟩:=hks.ptr (by simp)
  have ny:=eT hn.2 y (by simp)
  refine bY (i:=1) hI hks af ac (by simp) (fun _ _=>RdT.length) fun ds hds=>?_
  refine Run.callPure ly lx hI (mK y S ds hds ny) fun w' hI=>?_
  refine aj (v:=.int .i64 _) rfl ?_
  refine aj (v:=.int .i64 _) rfl ?_
  refine cD ?_
  refine az (fun h6=>?_) (fun h6=>?_)
  ·simp at h6
   exact fin _ (if_pos h6) hB hI (sub1 _)
  simp at h6
  rw [if_neg (by simp [h6])] at hB hbj
  obtain ⟨r,hu,rfl⟩:=hB
  have hjj:okJ N (.one x (DE (cj y).1)):=hbj
  have hsm:=lh y ny
  unfold Sm at hsm
  refine ⟨fun D x4 wh y5 yi y7 zc uY pM zr w_=>Fx D 0 [zr=.pointer (some ⟨sb,0,none⟩),pM=.slice (some ⟨b,o,none⟩) [x,y].length cap,uY=.pointer (some ⟨b,o+0 * 4,none⟩),zc=.agg (aH c (o+0 * 4) 4).toArray,y7=.int .i64 (cj y).1,yi=.agg #[.int .i64 2,.int .i64 (cj y).1,.string ⟨#[]⟩,.slice none 0 0],y5=.bool r,wh=.int .i64 (dY r),x4=.int .i64 (dY r)]/\(D 6=false->Inv w X ([.blk b3 (.cells #[.int .i64 k,.int .i64 n,.string s,.slice (some ⟨b,o,none⟩) [x,y].length cap] ab)]++aX sb mb es ck tv tr) S w_)/\(D 6=true->∃ es1 ck1 tv1 tr1,KnownM S es1 st'/\tr1.length+unb st'<=1000000/\Tr st st' tr tr1/\Inv w X ([.blk b3 (.cells #[.int .i64 k,.int .i64 n,.string s,.slice (some ⟨b,o,none⟩) [x,y].length cap] ab)]++aX sb mb es1 ck1 tv1 tr1) S w_)/\∃ es3 ck3 tv3 tr3,Inv w X ([.blk b3 (.cells #[.int .i64 k,.int .i64 n,.string s,.slice (some ⟨b,o,none⟩) [x,y].length cap] ab)]++aX sb mb es3 ck3 tv3 tr3) S w_,⟨Fx.nil _ _,⟨fun _=>hI.draw,aV,es,ck,tv,tr,hI.draw⟩⟩,⟨?_,?_,?_,?_,?_,?_,?_,?_,?_,trivial⟩,?_⟩
  all_goals (intro D bn; intros; rename_i x4 wh y5 yi y7 zc uY pM zr w_ hA_; have hF_:=hA_.1; obtain ⟨⟨bR,bQ,bG,bS,bU,bB,bD,cq,ci,_⟩,⟨hI0,hI1,es3,ck3,tv3,tr3,hI⟩⟩:=hA_)
  ·exact ⟨hF_.set 0 rfl,⟨hI0,hI1,es3,ck3,tv3,tr3,hI⟩⟩
  ·exact ⟨hF_.set 1 rfl,⟨hI0,hI1,es3,ck3,tv3,tr3,hI⟩⟩
  ·obtain rfl:=bQ ‹_›
   refine ar (i:=0) af (by simp) ?_
   exact ⟨hF_.set 2 rfl,⟨hI0,hI1,es3,ck3,tv3,tr3,hI⟩⟩
  ·obtain rfl:=bG ‹_›
   refine bE ac (RdT.length (hR 0 (by simp))) (fun j v hj=>by rw [hI.cellS hSb]; exact au rfl j v hj) ?_
   exact ⟨hF_.set 3 rfl,⟨hI0,hI1,es3,ck3,tv3,tr3,hI⟩⟩
  ·exact ⟨hF_.set 4 rfl,⟨hI0,hI1,es3,ck3,tv3,tr3,hI⟩⟩
  ·obtain rfl:=bU ‹_›
   have f6:D 6=D 6:=rfl
   cases f6v:D 6
   ·refine Run.callPure zm Af (hI0 f6v) (p6 _ S) fun w_ hI=>?_
    have hI0:=fun (_:aG D 5 6=false)=>hI
    have hI1:=fun (h:aG D 5 6=true)=>(Bool.noConfusion (f6v.symm.trans h):∃ es1 ck1 tv1 tr1,KnownM S es1 st'/\tr1.length+unb st'<=1000000/\Tr st st' tr tr1/\Inv w X ([.blk b3 (.cells #[.int .i64 k,.int .i64 n,.string s,.slice (some ⟨b,o,none⟩) [x,y].length cap] ab)]++aX sb mb es1 ck1 tv1 tr1) S w_)
    obtain ⟨es3,ck3,tv3,tr3,hI⟩:∃ es3 ck3 tv3 tr3,Inv w X ([.blk b3 (.cells #[.int .i64 k,.int .i64 n,.string s,.slice (some ⟨b,o,none⟩) [x,y].length cap] ab)]++aX sb mb es3 ck3 tv3 tr3) S w_:=⟨es,ck,tv,tr,hI⟩
    exact ⟨hF_.set 5 rfl,⟨hI0,hI1,es3,ck3,tv3,tr3,hI⟩⟩
   obtain ⟨es1,ck1,tv1,tr1,hm1,htr1,hT1,hI⟩:=hI1 f6v
   refine Run.callPure zm Af hI (p6 _ S) fun w_ hI=>?_
   have hI0:=fun (h:aG D 5 6=false)=>(Bool.noConfusion (h.symm.trans f6v):Inv w X ([.blk b3 (.cells #[.int .i64 k,.int .i64 n,.string s,.slice (some ⟨b,o,none⟩) [x,y].length cap] ab)]++aX sb mb es ck tv tr) S w_)
   have hI1:=fun (_:aG D 5 6=true)=>(⟨es1,ck1,tv1,tr1,hm1,htr1,hT1,hI⟩:∃ es1 ck1 tv1 tr1,KnownM S es1 st'/\tr1.length+unb st'<=1000000/\Tr st st' tr tr1/\Inv w X ([.blk b3 (.cells #[.int .i64 k,.int .i64 n,.string s,.slice (some ⟨b,o,none⟩) [x,y].length cap] ab)]++aX sb mb es1 ck1 tv1 tr1) S w_)
   obtain ⟨es3,ck3,tv3,tr3,hI⟩:∃ es3 ck3 tv3 tr3,Inv w X ([.blk b3 (.cells #[.int .i64 k,.int .i64 n,.string s,.slice (some ⟨b,o,none⟩) [x,y].length cap] ab)]++aX sb mb es3 ck3 tv3 tr3) S w_:=⟨es1,ck1,tv1,tr1,hI⟩
   exact ⟨hF_.set 5 rfl,⟨hI0,hI1,es3,ck3,tv3,tr3,hI⟩⟩
  ·obtain rfl:=bR ‹_›
   obtain rfl:=bS ‹_›
   obtain rfl:=bB ‹_›
   refine Run.callE (A:=[_]) fi eW (hI0 bn) (jn hN hg hjj hu S _ _ sb mb ck es tv tr (hR 0 (by simp)) (nK (by simp [inI]) (by simp only [inI]; omega)) hkm htr) fun v' I' S' w_=>?_
   rintro ⟨eS,rfl,es1,ck1,tv1,tr1,rfl,hm1,htr1,hT1⟩ _ hI
   rw [eS] at hI
   have hI0:=fun (h:aG D 6 6=false)=>(Bool.noConfusion h:Inv w X ([.blk b3 (.cells #[.int .i64 k,.int .i64 n,.string s,.slice (some ⟨b,o,none⟩) [x,y].length cap] ab)]++aX sb mb es ck tv tr) S w_)
   have hI1:=fun (_:aG D 6 6=true)=>(⟨es1,ck1,tv1,tr1,hm1,htr1,hT1,hI⟩:∃ es1 ck1 tv1 tr1,KnownM S es1 st'/\tr1.length+unb st'<=1000000/\Tr st st' tr tr1/\Inv w X ([.blk b3 (.cells #[.int .i64 k,.int .i64 n,.string s,.slice (some ⟨b,o,none⟩) [x,y].length cap] ab)]++aX sb mb es1 ck1 tv1 tr1) S w_)
   obtain ⟨es3,ck3,tv3,tr3,hI⟩:∃ es3 ck3 tv3 tr3,Inv w X ([.blk b3 (.cells #[.int .i64 k,.int .i64 n,.string s,.slice (some ⟨b,o,none⟩) [x,y].length cap] ab)]++aX sb mb es3 ck3 tv3 tr3) S w_:=⟨es1,ck1,tv1,tr1,hI⟩
   exact ⟨hF_.set 6 rfl,⟨hI0,hI1,es3,ck3,tv3,tr3,hI⟩⟩
  ·obtain rfl:=bD ‹_›
   obtain ⟨es1,ck1,tv1,tr1,hm1,htr1,hT1,hI⟩:=hI1 ‹D 6=true›
   refine Run.callPure fn_i_holds nm_i_holds hI (dB r S) fun w_ hI=>?_
   have hI0:=fun (h:aG D 7 6=false)=>(Bool.noConfusion (h.symm.trans (show aG D 7 6=true from ‹D 6=true›)):Inv w X ([.blk b3 (.cells #[.int .i64 k,.int .i64 n,.string s,.slice (some ⟨b,o,none⟩) [x,y].length cap] ab)]++aX sb mb es ck tv tr) S w_)
   have hI1:=fun (_:aG D 7 6=true)=>(⟨es1,ck1,tv1,tr1,hm1,htr1,hT1,hI⟩:∃ es1 ck1 tv1 tr1,KnownM S es1 st'/\tr1.length+unb st'<=1000000/\Tr st st' tr tr1/\Inv w X ([.blk b3 (.cells #[.int .i64 k,.int .i64 n,.string s,.slice (some ⟨b,o,none⟩) [x,y].length cap] ab)]++aX sb mb es1 ck1 tv1 tr1) S w_)
   obtain ⟨es3,ck3,tv3,tr3,hI⟩:∃ es3 ck3 tv3 tr3,Inv w X ([.blk b3 (.cells #[.int .i64 k,.int .i64 n,.string s,.slice (some ⟨b,o,none⟩) [x,y].length cap] ab)]++aX sb mb es3 ck3 tv3 tr3) S w_:=⟨es1,ck1,tv1,tr1,hI⟩
   exact ⟨hF_.set 7 rfl,⟨hI0,hI1,es3,ck3,tv3,tr3,hI⟩⟩
  ·obtain rfl:=cq ‹_›
   exact ⟨hF_.set 8 rfl,⟨hI0,hI1,es3,ck3,tv3,tr3,hI⟩⟩
  obtain ⟨rfl,rfl,rfl,rfl,rfl,rfl,rfl,rfl,rfl,_⟩:=hF_.all
  have Qa:D 6=true:=by assumption
  clear hF_ bR bQ bG bS bU bB bD cq ci
  obtain ⟨es1,ck1,tv1,tr1,hm1,htr1,hT1,hI⟩:=hI1 Qa
  exact ⟨_,_,S,rfl,hI.sub (List.sublist_append_right [_] _),Ext.refl _ _ _,rfl,rfl,es1,ck1,tv1,tr1,rfl,hm1,htr1,hT1⟩
 refine bg ?_
 refine aI (fun h=>?_) (fun g1=>?_)
 ·obtain ⟨x,rfl⟩:=Bq (l:=ks) (by
    rcases nY hbs h0 h1 h2 h3 h4 h5 hcn with ⟨_,h⟩|⟨h',_⟩
    ·omega
    ·rw [h] at h'; exact absurd h' (by decide +kernel))
  have hj:eP (.mk k n s [x])=.done (dY (jX s x)):=by
   rw [eP,if_neg (show ¬ (T.mk k n s [x]).name=gE from h0),if_neg (show ¬ (T.mk k n s [x]).name=g8 from h1),if_neg (show ¬ (T.mk k n s [x]).name=nEq from h2),if_neg (show ¬ (T.mk k n s [x]).name=nNe from h3),if_neg (show ¬ (T.mk k n s [x]).name=mp from h4),if_neg (show ¬ (T.mk k n s [x]).name=nIs from h5),if_neg (show ¬ (T.mk k n s [x]).name=Ak from by rw [show (T.mk k n s [x]).name=s from rfl,h]; decide +kernel),show (T.mk k n s [x]).name=s from rfl,hcn,if_neg (by decide)]
   rfl
  rw [hj] at hB
  have ht:jX s x=decide (x.kind=1):=by rw [h]; rfl
  refine oL hI hks af aE av (i:=0) (by simp) (fun cs hcs=>RdT.f0 hcs) ?_
  refine aZ ?_
  exact Run.callPure fn_i_holds nm_i_holds hI (dB _ S) fun w' hI=>fin _ (by rw [ht]; rfl) hB hI (sub1 _)
 refine bg ?_
 refine aI (fun h=>?_) (fun g2=>?_)
 ·obtain ⟨x,rfl⟩:=Bq (l:=ks) (by
    rcases nY hbs h0 h1 h2 h3 h4 h5 hcn with ⟨_,h⟩|⟨h',_⟩
    ·omega
    ·rw [h] at h'; exact absurd h' (by decide +kernel))
  have hj:eP (.mk k n s [x])=.done (dY (jX s x)):=by
   rw [eP,if_neg (show ¬ (T.mk k n s [x]).name=gE from h0),if_neg (show ¬ (T.mk k n s [x]).name=g8 from h1),if_neg (show ¬ (T.mk k n s [x]).name=nEq from h2),if_neg (show ¬ (T.mk k n s [x]).name=nNe from h3),if_neg (show ¬ (T.mk k n s [x]).name=mp from h4),if_neg (show ¬ (T.mk k n s [x]).name=nIs from h5),if_neg (show ¬ (T.mk k n s [x]).name=Ak from by rw [show (T.mk k n s [x]).name=s from rfl,h]; decide +kernel),show (T.mk k n s [x]).name=s from rfl,hcn,if_neg (by decide)]
   rfl
  rw [hj] at hB
  have ht:jX s x=!decide (x.kind=1):=by rw [h]; rfl
  refine oL hI hks af aE av (i:=0) (by simp) (fun cs hcs=>RdT.f0 hcs) ?_
  refine cD ?_
  exact Run.callPure fn_i_holds nm_i_holds hI (dB _ S) fun w' hI=>fin _ (by rw [ht]; rfl) hB hI (sub1 _)
 refine bg ?_
 refine aI (fun h=>?_) (fun g3=>?_)
 ·obtain ⟨x,rfl⟩:=Bq (l:=ks) (by
    rcases nY hbs h0 h1 h2 h3 h4 h5 hcn with ⟨_,h⟩|⟨h',_⟩
    ·omega
    ·rw [h] at h'; exact absurd h' (by decide +kernel))
  have hj:eP (.mk k n s [x])=.done (dY (jX s x)):=by
   rw [eP,if_neg (show ¬ (T.mk k n s [x]).name=gE from h0),if_neg (show ¬ (T.mk k n s [x]).name=g8 from h1),if_neg (show ¬ (T.mk k n s [x]).name=nEq from h2),if_neg (show ¬ (T.mk k n s [x]).name=nNe from h3),if_neg (show ¬ (T.mk k n s [x]).name=mp from h4),if_neg (show ¬ (T.mk k n s [x]).name=nIs from h5),if_neg (show ¬ (T.mk k n s [x]).name=Ak from by rw [show (T.mk k n s [x]).name=s from rfl,h]; decide +kernel),show (T.mk k n s [x]).name=s from rfl,hcn,if_neg (by decide)]
   rfl
  rw [hj] at hB
  have ht:jX s x=(decide (x.kind=3) && decide (x.kids.length=0)):=by rw [h]; rfl
  refine bY (i:=0) hI hks af ac (by simp) (fun _ _=>RdT.length) fun ds hds=>?_
  refine Run.callPure zt zH hI (xj hds) fun w' hI=>?_
  exact Run.callPure fn_i_holds nm_i_holds hI (dB _ S) fun w' hI=>fin _ (by rw [ht]; rfl) hB hI (sub1 _)
 refine bg ?_
 refine aI (fun h=>?_) (fun g4=>?_)
 ·obtain ⟨x,rfl⟩:=Bq (l:=ks) (by
    rcases nY hbs h0 h1 h2 h3 h4 h5 hcn with ⟨_,h⟩|⟨h',_⟩
    ·omega
    ·rw [h] at h'; exact absurd h' (by decide +kernel))
  have hj:eP (.mk k n s [x])=.done (dY (jX s x)):=by
   rw [eP,if_neg (show ¬ (T.mk k n s [x]).name=gE from h0),if_neg (show ¬ (T.mk k n s [x]).name=g8 from h1),if_neg (show ¬ (T.mk k n s [x]).name=nEq from h2),if_neg (show ¬ (T.mk k n s [x]).name=nNe from h3),if_neg (show ¬ (T.mk k n s [x]).name=mp from h4),if_neg (show ¬ (T.mk k n s [x]).name=nIs from h5),if_neg (show ¬ (T.mk k n s [x]).name=Ak from by rw [show (T.mk k n s [x]).name=s from rfl,h]; decide +kernel),show (T.mk k n s [x]).name=s from rfl,hcn,if_neg (by decide)]
   rfl
  rw [hj] at hB
  have ht:jX s x=decide (x.kind=2):=by rw [h]; rfl
  refine oL hI hks af aE av (i:=0) (by simp) (fun cs hcs=>RdT.f0 hcs) ?_
  refine aZ ?_
  exact Run.callPure fn_i_holds nm_i_holds hI (dB _ S) fun w' hI=>fin _ (by rw [ht]; rfl) hB hI (sub1 _)
 have hall:s=Ak/\ks.length=3:=by
  rcases nY hbs h0 h1 h2 h3 h4 h5 hcn with ⟨ht,_⟩|⟨h,hl⟩
  ·rw [cM,List.any_eq_true] at ht
   obtain ⟨x,hx,hd⟩:=ht
   have hd:=of_decide_eq_true hd
   simp only [sa,List.mem_cons,List.not_mem_nil,or_false] at hx
   rcases hx with rfl|rfl|rfl|rfl
   ·exact absurd hd g1
   ·exact absurd hd g2
   ·exact absurd hd g3
   ·exact absurd hd g4
  ·exact ⟨h,by omega⟩
 obtain ⟨h,hl⟩:=hall
 obtain ⟨x,y,z,rfl⟩:=Jg hl
 have hj:eP (.mk k n s [x,y,z])=ri x y z:=by
  rw [eP,if_neg (show ¬ (T.mk k n s [x,y,z]).name=gE from h0),if_neg (show ¬ (T.mk k n s [x,y,z]).name=g8 from h1),if_neg (show ¬ (T.mk k n s [x,y,z]).name=nEq from h2),if_neg (show ¬ (T.mk k n s [x,y,z]).name=nNe from h3),if_neg (show ¬ (T.mk k n s [x,y,z]).name=mp from h4),if_neg (show ¬ (T.mk k n s [x,y,z]).name=nIs from h5),if_pos (show (T.mk k n s [x,y,z]).name=Ak from h)]
  rfl
 rw [hj] at hB hbj
 obtain ⟨b,o,cap,c,E,fz,rfl,hSb,hR⟩:=hks.ptr (by simp)
 have hx:=hR 0 (by simp)
 have hy:=hR 1 (by simp)
 have hz:=hR 2 (by simp)
 obtain ⟨kx,hxe,_,hx2,_,_⟩:=RdT.iff.1 hx
 obtain ⟨ky,hye,_,_,_,hyk⟩:=RdT.iff.1 hy
 have hx:RdT S (aH c (o+0 * 4) 4) x:=hx
 have hy:RdT S (aH c (o+1 * 4) 4) y:=hy
 have hxe:aH c (o+0 * 4) 4=[.int .i64 x.kind,.int .i64 x.n,.string x.name,kx]:=hxe
 have hye:aH c (o+1 * 4) 4=[.int .i64 y.kind,.int .i64 y.n,.string y.name,ky]:=hye
 have hyk:RdSl S 4 (RdT S) ky y.kids:=hyk
 have hx2:inI x.n:=hx2
 have hky1:=hyk.le
 simp only [maxLen] at hky1
 refine ⟨fun q w'=>q=.bool (decide (x.kind=1 ∨ y.kind=1))/\Inv w X ([.blk b3 (.cells #[.int .i64 k,.int .i64 n,.string s,.slice (some ⟨b,o,none⟩) [x,y,z].length cap] ab)]++aX sb mb es ck tv tr) S w',?_,?_⟩
 ·refine oL hI hks af aE av (i:=0) (by simp) (fun cs hcs=>RdT.f0 hcs) ?_
  refine aZ ?_
  have e0:([x,y,z]:List T)[0]=x:=rfl
  rw [e0]
  cases k1:decide (x.kind=1)
  ·refine rpG ?_
   refine oL hI hks af aE av (i:=1) (by simp) (fun cs hcs=>RdT.f0 hcs) ?_
   refine aZ ?_
   refine rpG ?_
   have:=of_decide_eq_false k1
   refine ⟨?_,hI⟩
   rw [Value.bool.injEq,decide_eq_decide]
   exact ⟨.inr,fun h=>h.resolve_left this⟩
  ·refine rpG ?_
   exact ⟨by rw [decide_eq_true (.inl (of_decide_eq_true k1))],hI⟩
 intro q _ _ _ _ _ _ _ _ _ _ _ _ w'
 rintro ⟨rfl,hI⟩
 refine aI (fun k1=>fin 2 (by rw [ri,if_pos k1]) hB hI (sub1 _)) (fun k1=>?_)
 have el:decide ((y.kids.length:Int)=0)=decide (y.kids.length=0):=by rw [decide_eq_decide]; omega
 refine ⟨fun q w'=>q=.bool (decide (x.kind≠2 ∨ y.kind≠3 ∨ y.kids.length=0))/\Inv w X ([.blk b3 (.cells #[.int .i64 k,.int .i64 n,.string s,.slice (some ⟨b,o,none⟩) [x,y,z].length cap] ab)]++aX sb mb es ck tv tr) S w',?_,?_⟩
 ·refine oL hI hks af aE av (i:=0) (by simp) (fun cs hcs=>RdT.f0 hcs) ?_
  refine cD ?_
  have e0:([x,y,z]:List T)[0]=x:=rfl
  rw [e0]
  cases q2:decide (x.kind=2)
  ·refine rpG ?_
   exact ⟨by rw [decide_eq_true (.inl (of_decide_eq_false q2))],hI⟩
  have q2:=of_decide_eq_true q2
  refine rpG ?_
  refine oL hI hks af aE av (i:=1) (by simp) (fun cs hcs=>RdT.f0 hcs) ?_
  refine cD ?_
  have e1:([x,y,z]:List T)[1]=y:=rfl
  rw [e1]
  cases q3:decide (y.kind=3)
  ·refine rpG ?_
   exact ⟨by rw [decide_eq_true (.inr (.inl (of_decide_eq_false q3)))],hI⟩
  have q3:=of_decide_eq_true q3
  refine rpG ?_
  refine ar (i:=1) af (by simp) ?_
  refine ai al ?_
  refine ce ah (by rw [hI.cellS hSb]; exact au hye 3 _ rfl) ?_
  refine aC hyk af ?_
  refine aZ ?_
  rw [el]
  refine rpG ?_
  refine ⟨?_,hI⟩
  rw [Value.bool.injEq,decide_eq_decide]
  simp [q2,q3]
 intro q _ _ _ _ _ _ _ _ _ _ _ _ _ _ _ _ _ _ _ _ w'
 rintro ⟨rfl,hI⟩
 refine aI (fun k2=>fin 3 (by rw [ri,if_neg k1,if_pos k2]) hB hI (sub1 _)) (fun k2=>?_)
 have hwi:(decide (1<=x.n) && decide (x.n<=(y.kids.length:Int)))=!decide (x.n<1 ∨ (y.kids.length:Int)<x.n):=by
  by_cases h8:x.n<1
  ·simp [h8]; omega
  ·by_cases h9:(y.kids.length:Int)<x.n
   ·simp [h9]
   ·simp [h8,h9]; omega
 refine ⟨fun D Un TX ST SS TN S9 TP To Te Tt TS TH w_=>Fx D 0 [TH=.slice (some ⟨b,o,none⟩) [x,y,z].length cap,TS=.pointer (some ⟨b,o+0 * 4,none⟩),Tt=.pointer (some ⟨b,o+0 * 4+1,none⟩),Te=.int .i64 x.n,To=.slice (some ⟨b,o,none⟩) [x,y,z].length cap,TP=.pointer (some ⟨b,o+1 * 4,none⟩),S9=.pointer (some ⟨b,o+1 * 4+3,none⟩),TN=ky,SS=.int .i64 y.kids.length,ST=.bool (!decide (x.n<1 ∨ (y.kids.length:Int)<x.n)),TX=.bool (decide (x.n<1 ∨ (y.kids.length:Int)<x.n)),Un=.bool (decide (x.n<1 ∨ (y.kids.length:Int)<x.n))]/\Inv w X ([.blk b3 (.cells #[.int .i64 k,.int .i64 n,.string s,.slice (some ⟨b,o,none⟩) [x,y,z].length cap] ab)]++aX sb mb es ck tv tr) S w_,⟨Fx.nil _ _,hI.draw⟩,⟨?_,?_,?_,?_,?_,?_,?_,?_,?_,?_,?_,?_,trivial⟩,?_⟩
 all_goals (intro D bn; intros; rename_i Un TX ST SS TN S9 TP To Te Tt TS TH w_ hA_; have hF_:=hA_.1; obtain ⟨⟨bR,bQ,bG,bS,bU,bB,bD,cq,ci,cL,bH,bT,_⟩,hI⟩:=hA_)
 ·exact ⟨hF_.set 0 rfl,hI⟩
 ·obtain rfl:=bR ‹_›
  refine ar (i:=0) af (by simp) ?_
  exact ⟨hF_.set 1 rfl,hI⟩
 ·obtain rfl:=bQ ‹_›
  refine ai aM ?_
  exact ⟨hF_.set 2 rfl,hI⟩
 ·obtain rfl:=bG ‹_›
  refine ce av (by rw [hI.cellS hSb]; exact au hxe 1 _ rfl) ?_
  exact ⟨hF_.set 3 rfl,hI⟩
 ·exact ⟨hF_.set 4 rfl,hI⟩
 ·obtain rfl:=bU ‹_›
  refine ar (i:=1) af (by simp) ?_
  exact ⟨hF_.set 5 rfl,hI⟩
 ·obtain rfl:=bB ‹_›
  refine ai al ?_
  exact ⟨hF_.set 6 rfl,hI⟩
 ·obtain rfl:=bD ‹_›
  refine ce ah (by rw [hI.cellS hSb]; exact au hye 3 _ rfl) ?_
  exact ⟨hF_.set 7 rfl,hI⟩
 ·obtain rfl:=cq ‹_›
  refine aC hyk af ?_
  exact ⟨hF_.set 8 rfl,hI⟩
 ·obtain rfl:=bS ‹_›
  obtain rfl:=ci ‹_›
  refine Run.callPure g7 g0 hI (gw _ _ _ S) fun w_ hI=>?_
  rw [hwi]
  exact ⟨hF_.set 9 rfl,hI⟩
 ·obtain rfl:=cL ‹_›
  refine bK ?_
  rw [Bool.not_not]
  exact ⟨hF_.set 10 rfl,hI⟩
 ·obtain rfl:=bH ‹_›
  exact ⟨hF_.set 11 rfl,hI⟩
 obtain ⟨rfl,rfl,rfl,rfl,rfl,rfl,rfl,rfl,rfl,rfl,rfl,rfl,_⟩:=hF_.all
 clear hF_ bR bQ bG bS bU bB bD cq ci cL bH bT
 refine aI (fun k3=>fin 1 (by rw [ri,if_neg k1,if_neg k2,if_pos k3]) hB hI (sub1 _)) (fun k3=>?_)
 obtain ⟨m,hm⟩:∃ m:Nat,x.n=(m:Int)+1:=⟨(x.n - 1).toNat,by omega⟩
 have hml:m<y.kids.length:=by omega
 have hkd:kd y (x.n.toNat - 1)=y.kids[m]:=by
  have e1:x.n.toNat - 1=m:=by omega
  rw [e1,kd,List.getD_eq_getElem?_getD,List.getElem?_eq_getElem hml]
  rfl
 have hja:ri x y z=.uni z y.kids[m]:=by rw [ri,if_neg k1,if_neg k2,if_neg k3,hkd]
 rw [hja] at hB hbj
 obtain ⟨r,hu,rfl⟩:=hB
 have hjj:okJ N (.one z y.kids[m]):=hbj
 obtain ⟨c2,o2,cap2,a2,E2,fz2,rfl,hS2,hR2⟩:=hyk.at_ hml
 refine ⟨fun D x4 Ub TT Tc SX Tu Uj Tb TK Uh TF TM Tl Tg TI TZ TE S8 w_=>Fx D 0 [S8=.pointer (some ⟨sb,0,none⟩),TE=.slice (some ⟨b,o,none⟩) [x,y,z].length cap,TZ=.pointer (some ⟨b,o+2 * 4,none⟩),TI=.agg (aH c (o+2 * 4) 4).toArray,Tg=.slice (some ⟨b,o,none⟩) [x,y,z].length cap,Tl=.pointer (some ⟨b,o+1 * 4,none⟩),TM=.pointer (some ⟨b,o+1 * 4+3,none⟩),TF=.slice (some ⟨c2,o2,none⟩) y.kids.length cap2,Uh=.slice (some ⟨b,o,none⟩) [x,y,z].length cap,TK=.pointer (some ⟨b,o+0 * 4,none⟩),Tb=.pointer (some ⟨b,o+0 * 4+1,none⟩),Uj=.int .i64 x.n,Tu=.int .i64 m,SX=.pointer (some ⟨c2,o2+m * 4,none⟩),Tc=.agg (aH a2 (o2+m * 4) 4).toArray,TT=.bool r,Ub=.int .i64 (dY r),x4=.int .i64 (dY r)]/\(D 15=false->Inv w X ([.blk b3 (.cells #[.int .i64 k,.int .i64 n,.string s,.slice (some ⟨b,o,none⟩) [x,y,z].length cap] ab)]++aX sb mb es ck tv tr) S w_)/\(D 15=true->∃ es1 ck1 tv1 tr1,KnownM S es1 st'/\tr1.length+unb st'<=1000000/\Tr st st' tr tr1/\Inv w X ([.blk b3 (.cells #[.int .i64 k,.int .i64 n,.string s,.slice (some ⟨b,o,none⟩) [x,y,z].length cap] ab)]++aX sb mb es1 ck1 tv1 tr1) S w_)/\∃ es3 ck3 tv3 tr3,Inv w X ([.blk b3 (.cells #[.int .i64 k,.int .i64 n,.string s,.slice (some ⟨b,o,none⟩) [x,y,z].length cap] ab)]++aX sb mb es3 ck3 tv3 tr3) S w_,⟨Fx.nil _ _,⟨fun _=>hI.draw,aV,es,ck,tv,tr,hI.draw⟩⟩,⟨?_,?_,?_,?_,?_,?_,?_,?_,?_,?_,?_,?_,?_,?_,?_,?_,?_,?_,trivial⟩,?_⟩
 all_goals (intro D bn; intros; rename_i x4 Ub TT Tc SX Tu Uj Tb TK Uh TF TM Tl Tg TI TZ TE S8 w_ hA_; have hF_:=hA_.1; obtain ⟨⟨bR,bQ,bG,bS,bU,bB,bD,cq,ci,cL,bH,bT,cH,de,cB,dk,dw,dH,_⟩,⟨hI0,hI1,es3,ck3,tv3,tr3,hI⟩⟩:=hA_)
 ·exact ⟨hF_.set 0 rfl,⟨hI0,hI1,es3,ck3,tv3,tr3,hI⟩⟩
 ·exact ⟨hF_.set 1 rfl,⟨hI0,hI1,es3,ck3,tv3,tr3,hI⟩⟩
 ·obtain rfl:=bQ ‹_›
  refine ar (i:=2) af (by simp) ?_
  exact ⟨hF_.set 2 rfl,⟨hI0,hI1,es3,ck3,tv3,tr3,hI⟩⟩
 ·obtain rfl:=bG ‹_›
  refine bE ac (RdT.length (hR 2 (by simp))) (fun j v hj=>by rw [hI.cellS hSb]; exact au rfl j v hj) ?_
  exact ⟨hF_.set 3 rfl,⟨hI0,hI1,es3,ck3,tv3,tr3,hI⟩⟩
 ·exact ⟨hF_.set 4 rfl,⟨hI0,hI1,es3,ck3,tv3,tr3,hI⟩⟩
 ·obtain rfl:=bU ‹_›
  refine ar (i:=1) af (by simp) ?_
  exact ⟨hF_.set 5 rfl,⟨hI0,hI1,es3,ck3,tv3,tr3,hI⟩⟩
 ·obtain rfl:=bB ‹_›
  refine ai al ?_
  exact ⟨hF_.set 6 rfl,⟨hI0,hI1,es3,ck3,tv3,tr3,hI⟩⟩
 ·obtain rfl:=bD ‹_›
  refine ce ah (by rw [hI.cellS hSb]; exact au hye 3 _ rfl) ?_
  exact ⟨hF_.set 7 rfl,⟨hI0,hI1,es3,ck3,tv3,tr3,hI⟩⟩
 ·exact ⟨hF_.set 8 rfl,⟨hI0,hI1,es3,ck3,tv3,tr3,hI⟩⟩
 ·obtain rfl:=ci ‹_›
  refine ar (i:=0) af (by simp) ?_
  exact ⟨hF_.set 9 rfl,⟨hI0,hI1,es3,ck3,tv3,tr3,hI⟩⟩
 ·obtain rfl:=cL ‹_›
  refine ai aM ?_
  exact ⟨hF_.set 10 rfl,⟨hI0,hI1,es3,ck3,tv3,tr3,hI⟩⟩
 ·obtain rfl:=bH ‹_›
  refine ce av (by rw [hI.cellS hSb]; exact au hxe 1 _ rfl) ?_
  exact ⟨hF_.set 11 rfl,⟨hI0,hI1,es3,ck3,tv3,tr3,hI⟩⟩
 ·obtain rfl:=bT ‹_›
  refine hK (by omega) ?_
  rw [show x.n - 1=(m:Int) by omega]
  exact ⟨hF_.set 12 rfl,⟨hI0,hI1,es3,ck3,tv3,tr3,hI⟩⟩
 ·obtain rfl:=cq ‹_›
  obtain rfl:=cH ‹_›
  refine ar af hml ?_
  exact ⟨hF_.set 13 rfl,⟨hI0,hI1,es3,ck3,tv3,tr3,hI⟩⟩
 ·obtain rfl:=de ‹_›
  refine bE ac hR2.length (fun j v hj=>by rw [hI.cellS hS2]; exact au rfl j v hj) ?_
  exact ⟨hF_.set 14 rfl,⟨hI0,hI1,es3,ck3,tv3,tr3,hI⟩⟩
 ·obtain rfl:=bR ‹_›
  obtain rfl:=bS ‹_›
  obtain rfl:=cB ‹_›
  refine Run.callE (A:=[_]) fi eW (hI0 bn) (jn hN hg hjj hu S _ _ sb mb ck es tv tr hz hR2 hkm htr) fun v' I' S' w_=>?_
  rintro ⟨eS,rfl,es1,ck1,tv1,tr1,rfl,hm1,htr1,hT1⟩ _ hI
  rw [eS] at hI
  have hI0:=fun (h:aG D 15 15=false)=>(Bool.noConfusion h:Inv w X ([.blk b3 (.cells #[.int .i64 k,.int .i64 n,.string s,.slice (some ⟨b,o,none⟩) [x,y,z].length cap] ab)]++aX sb mb es ck tv tr) S w_)
  have hI1:=fun (_:aG D 15 15=true)=>(⟨es1,ck1,tv1,tr1,hm1,htr1,hT1,hI⟩:∃ es1 ck1 tv1 tr1,KnownM S es1 st'/\tr1.length+unb st'<=1000000/\Tr st st' tr tr1/\Inv w X ([.blk b3 (.cells #[.int .i64 k,.int .i64 n,.string s,.slice (some ⟨b,o,none⟩) [x,y,z].length cap] ab)]++aX sb mb es1 ck1 tv1 tr1) S w_)
  obtain ⟨es3,ck3,tv3,tr3,hI⟩:∃ es3 ck3 tv3 tr3,Inv w X ([.blk b3 (.cells #[.int .i64 k,.int .i64 n,.string s,.slice (some ⟨b,o,none⟩) [x,y,z].length cap] ab)]++aX sb mb es3 ck3 tv3 tr3) S w_:=⟨es1,ck1,tv1,tr1,hI⟩
  exact ⟨hF_.set 15 rfl,⟨hI0,hI1,es3,ck3,tv3,tr3,hI⟩⟩
 ·obtain rfl:=dk ‹_›
  obtain ⟨es1,ck1,tv1,tr1,hm1,htr1,hT1,hI⟩:=hI1 ‹D 15=true›
  refine Run.callPure fn_i_holds nm_i_holds hI (dB r S) fun w_ hI=>?_
  have hI0:=fun (h:aG D 16 15=false)=>(Bool.noConfusion (h.symm.trans (show aG D 16 15=true from ‹D 15=true›)):Inv w X ([.blk b3 (.cells #[.int .i64 k,.int .i64 n,.string s,.slice (some ⟨b,o,none⟩) [x,y,z].length cap] ab)]++aX sb mb es ck tv tr) S w_)
  have hI1:=fun (_:aG D 16 15=true)=>(⟨es1,ck1,tv1,tr1,hm1,htr1,hT1,hI⟩:∃ es1 ck1 tv1 tr1,KnownM S es1 st'/\tr1.length+unb st'<=1000000/\Tr st st' tr tr1/\Inv w X ([.blk b3 (.cells #[.int .i64 k,.int .i64 n,.string s,.slice (some ⟨b,o,none⟩) [x,y,z].length cap] ab)]++aX sb mb es1 ck1 tv1 tr1) S w_)
  obtain ⟨es3,ck3,tv3,tr3,hI⟩:∃ es3 ck3 tv3 tr3,Inv w X ([.blk b3 (.cells #[.int .i64 k,.int .i64 n,.string s,.slice (some ⟨b,o,none⟩) [x,y,z].length cap] ab)]++aX sb mb es3 ck3 tv3 tr3) S w_:=⟨es1,ck1,tv1,tr1,hI⟩
  exact ⟨hF_.set 16 rfl,⟨hI0,hI1,es3,ck3,tv3,tr3,hI⟩⟩
 ·obtain rfl:=dw ‹_›
  exact ⟨hF_.set 17 rfl,⟨hI0,hI1,es3,ck3,tv3,tr3,hI⟩⟩
 obtain ⟨rfl,rfl,rfl,rfl,rfl,rfl,rfl,rfl,rfl,rfl,rfl,rfl,rfl,rfl,rfl,rfl,rfl,rfl,_⟩:=hF_.all
 have Uy:D 15=true:=by assumption
 clear hF_ bR bQ bG bS bU bB bD cq ci cL bH bT cH de cB dk dw dH
 obtain ⟨es1,ck1,tv1,tr1,hm1,htr1,hT1,hI⟩:=hI1 Uy
 exact ⟨_,_,S,rfl,hI.sub (List.sublist_append_right [_] _),Ext.refl _ _ _,rfl,rfl,es1,ck1,tv1,tr1,rfl,hm1,htr1,hT1⟩
end
end Go.Proofs.YtfcbhfjomgopbaaGreat

/- The program's solver of goals that are built in. -/
import Derived.Test.YtcpgagfdeflbkaaGreatDoorZMv15
import Derived.Test.YtcpgagfdeflbkaaGreatDoorZMv17
import Derived.Test.YtcpgagfdeflbkaaGreatDoorZMv6
namespace Go.Proofs.YtcpgagfdeflbkaaGreatDoor
open Go Go.RowKit
theorem Kr {k n:Int} {s:ByteArray} {ks:List T} (h:bV s ey=true):fL (.mk k n s ks)=.done (LX s (ed ks)):=by
 have h0:=h
 rw [bV,List.any_eq_true] at h
 obtain ⟨x,hx,hd⟩:=h
 have hd:=of_decide_eq_true hd
 subst hd
 have hne:∀ y∈([i7,j8,nEq,nNe,pT,nIs,Ag]:List ByteArray),s≠y:=by
  intro y hy
  simp only [ey,List.mem_cons,List.not_mem_nil,or_false] at hx hy
  rcases hx with rfl|rfl|rfl|rfl|rfl <;> rcases hy with rfl|rfl|rfl|rfl|rfl|rfl|rfl <;> decide +kernel
 have n1:(T.mk k n s ks).name=s:=rfl
 rw [fL,n1,if_neg (hne _ (by simp)),if_neg (hne _ (by simp)),if_neg (hne _ (by simp)),if_neg (hne _ (by simp)),if_neg (hne _ (by simp)),if_neg (hne _ (by simp)),if_neg (hne _ (by simp)),if_pos h0]
 rfl
theorem RdT.f0 {S:ad} {cs:List Value} {t:T} (h:RdT S cs t):cs[0]?=some (.int .i64 t.kind):=by
 obtain ⟨_,rfl,_⟩:=RdT.iff.1 h; rfl
theorem RdT.f1 {S:ad} {cs:List Value} {t:T} (h:RdT S cs t):cs[1]?=some (.int .i64 t.n):=by
 obtain ⟨_,rfl,_⟩:=RdT.iff.1 h; rfl
section
variable {w:World} {X:List Nat} {S:ad}
attribute [local irreducible] Run CondV ao aI
theorem nN (n:Int) (S:ad):Pure Tryz.prog Ha [.int .i64 n] S (.agg #[.int .i64 2,.int .i64 n,.string ⟨#[]⟩,.slice none 0 0]):=by
 intro w hI
 refine u0.2 ?_
 dsimp only[u0,aC]
 refine aL hI aW fun b w' hI=>?_
 refine mW ?_
 refine au hI 0 rfl ac rfl rfl (by simp [Value.oneCell']) fun w' hI=>?_
 refine be hI 0 ac rfl rfl ?_
 exact done hI rfl
def Kn (sb mb:Nat) (S:ad) (st:ah) (tr:List Int) (code:Int) (st':ah):Value->List Item->ad->Prop:=fun q I' S'=>S'=S/\q=.int .i64 code/\
 ∃ es' ck' tv' tr',I'=aq sb mb es' ck' tv' tr'/\KnownM S es' st'/\tr'.length+unb st'<=1000000/\Tr st st' tr tr'
set_option maxHeartbeats 1000000 in
theorem CO {N:Nat} (hN:N<=1000000) {st st':ah} {g:T} {code:Int} (hg:Good N st) (ho:okU N g/\wT g<=1048576) (hn:okN g) (hb:cn g=true) (hB:Blt st g code st')
  {S:ad} {cs:List Value} {sb mb ck:Nat} {es:Array MapEntry} {tv:Value} {tr:List Int} (h:RdT S cs g) (hkm:KnownM S es st) (htr:tr.length+unb st<=1000000) :
  Tri Tryz.prog yG [.pointer (some ⟨sb,0,none⟩),.agg cs.toArray] (aq sb mb es ck tv tr) S (Kn sb mb S st tr code st'):=by
 intro w hI
 have hgl:=h
 obtain ⟨k,n,s,ks⟩:=g
 obtain ⟨kv,rfl,_,_,_,hks⟩:=RdT.iff.1 h
 have hbj:=Ce hb ho
 rw [cn,Bool.and_eq_true] at hb
 obtain ⟨hk3,hbs⟩:=hb
 rw [okN] at hn
 simp only [T.name,T.kids,T.kind,T.n] at hks hbs hgl hk3 ⊢
 obtain ⟨X,hX⟩:∃ X,X=bp (aq sb mb es ck tv tr):=⟨_,rfl⟩
 rw [<- hX] at hI ⊢
 unfold Blt at hB
 clear h
 refine mc.2 ?_
 dsimp only[mc,aR]
 refine bl hI fun b3 w' hI=>?_
 have hI:Inv w X ([.blk b3 (.cells #[.int .i64 k,.int .i64 n,.string s,kv] ab)]++aq sb mb es ck tv tr) S w':=hI.perm List.perm_append_comm
 have fin:∀ {w':World} {L:List Item} {j:BJ} (c:Int),j=.done c->BltJ st j code st'->Inv w X L S w'->List.Sublist (aq sb mb es ck tv tr) L->
   ∃ v' I' S',Ending.returned (.int .i64 c)=.returned v'/\Inv w X I' S' w'/\Ext w.heap.size X S S'/\Kn sb mb S st tr code st' v' I' S':=by
  intro w' L j c hj hB hI hs
  subst hj
  obtain ⟨rfl,rfl⟩:=hB
  exact ⟨_,_,S,rfl,hI.sub hs,Ext.refl _ _ _,rfl,rfl,es,ck,tv,tr,rfl,hkm,htr,Tr.refl _ _⟩
 have sub1:∀ it:Item,List.Sublist (aq sb mb es ck tv tr) ([it]++aq sb mb es ck tv tr):=fun it=>List.sublist_append_right [it] _
 refine aw hI 0 ac rfl rfl ?_
 refine Run.callPure Am zx hI (uj hgl) fun w' hI=>?_
 have hcg:Mo (.mk k n s ks)=(decide (ks.length=2) && bV s ey):=by
  unfold Mo
  rw [show decide ((T.mk k n s ks).kind=3)=true from hk3]
  rfl
 rw [hcg]
 refine av (fun hc=>?_) (fun hc=>?_)
 ·rw [Bool.and_eq_true,decide_eq_true_eq] at hc
  refine aw hI 0 ac rfl rfl ?_
  refine Run.callPure zC Ak hI (ue hgl hc.1 hn.2) fun w' hI=>?_
  exact fin _ (Kr hc.2) hB hI (sub1 _)
 have hcn:bV s ey=false:=by
  cases hx:bV s ey
  ·rfl
  ·have:=i6 (MC hx) hbs
   rw [hx,decide_eq_true (show ks.length=2 by omega)] at hc
   cases hc
 refine ae hI 0 rfl ar aj rfl ?_
 refine ae hI 0 rfl aQ aK rfl ?_
 refine bj ?_
 refine aH (fun h=>fin 0 (by rw [fL,if_pos (show (T.mk k n s ks).name=i7 from h)]) hB hI (sub1 _)) (fun h0=>?_)
 refine bj ?_
 refine aH (fun h=>fin 1 (by rw [fL,if_neg (show ¬ (T.mk k n s ks).name=i7 from h0),if_pos (show (T.mk k n s ks).name=j8 from h)]) hB hI (sub1 _)) (fun h1=>?_)
 refine bj ?_
 refine aH (fun h=>?_) (fun h2=>?_)
 ·obtain ⟨x,y,rfl⟩:=ur (l:=ks) (by have:=i6 (by rw [h]; decide +kernel) hbs; omega)
  have hj:fL (.mk k n s [x,y])=.uni x y:=by
   rw [fL,if_neg (show ¬ (T.mk k n s [x,y]).name=i7 from h0),if_neg (show ¬ (T.mk k n s [x,y]).name=j8 from h1),if_pos (show (T.mk k n s [x,y]).name=nEq from h)]
   rfl
  rw [hj] at hB hbj
  obtain ⟨b,o,cap,c,E,fz,rfl,hSb,hR⟩:=hks.ptr (by simp)
  obtain ⟨r,hu,rfl⟩:=hB
  have hjj:okJ N (.one x y):=hbj
  refine ⟨fun D x4 Na DM kL wR iC vG mu eH mw w_=>Fx D 0 [mw=.pointer (some ⟨sb,0,none⟩),eH=.slice (some ⟨b,o,none⟩) [x,y].length cap,mu=.pointer (some ⟨b,o+0 * 4,none⟩),vG=.agg (aV c (o+0 * 4) 4).toArray,iC=.slice (some ⟨b,o,none⟩) [x,y].length cap,wR=.pointer (some ⟨b,o+1 * 4,none⟩),kL=.agg (aV c (o+1 * 4) 4).toArray,DM=.bool r,Na=.int .i64 (fm r),x4=.int .i64 (fm r)]/\(D 7=false->Inv w X ([.blk b3 (.cells #[.int .i64 k,.int .i64 n,.string s,.slice (some ⟨b,o,none⟩) [x,y].length cap] ab)]++aq sb mb es ck tv tr) S w_)/\(D 7=true->∃ es1 ck1 tv1 tr1,KnownM S es1 st'/\tr1.length+unb st'<=1000000/\Tr st st' tr tr1/\Inv w X ([.blk b3 (.cells #[.int .i64 k,.int .i64 n,.string s,.slice (some ⟨b,o,none⟩) [x,y].length cap] ab)]++aq sb mb es1 ck1 tv1 tr1) S w_)/\∃ es3 ck3 tv3 tr3,Inv w X ([.blk b3 (.cells #[.int .i64 k,.int .i64 n,.string s,.slice (some ⟨b,o,none⟩) [x,y].length cap] ab)]++aq sb mb es3 ck3 tv3 tr3) S w_,⟨Fx.nil _ _,⟨fun _=>hI.draw,aM,es,ck,tv,tr,hI.draw⟩⟩,⟨?_,?_,?_,?_,?_,?_,?_,?_,?_,?_,trivial⟩,?_⟩
  all_goals (intro D bv; intros; rename_i x4 Na DM kL wR iC vG mu eH mw w_ hA_; have hF_:=hA_.1; obtain ⟨⟨ci,cd,cj,cc,cm,cr,bO,cR,dt,eP,_⟩,⟨hI0,hI1,es3,ck3,tv3,tr3,hI⟩⟩:=hA_)
  ·exact ⟨hF_.set 0 rfl,⟨hI0,hI1,es3,ck3,tv3,tr3,hI⟩⟩
  ·exact ⟨hF_.set 1 rfl,⟨hI0,hI1,es3,ck3,tv3,tr3,hI⟩⟩
  ·obtain rfl:=cd ‹_›
   refine aE (i:=0) ag (by simp) ?_
   exact ⟨hF_.set 2 rfl,⟨hI0,hI1,es3,ck3,tv3,tr3,hI⟩⟩
  ·obtain rfl:=cj ‹_›
   refine bK ac (RdT.length (hR 0 (by simp))) (fun j v hj=>by rw [hI.cellS hSb]; exact aJ rfl j v hj) ?_
   exact ⟨hF_.set 3 rfl,⟨hI0,hI1,es3,ck3,tv3,tr3,hI⟩⟩
  ·exact ⟨hF_.set 4 rfl,⟨hI0,hI1,es3,ck3,tv3,tr3,hI⟩⟩
  ·obtain rfl:=cm ‹_›
   refine aE (i:=1) ag (by simp) ?_
   exact ⟨hF_.set 5 rfl,⟨hI0,hI1,es3,ck3,tv3,tr3,hI⟩⟩
  ·obtain rfl:=cr ‹_›
   refine bK ac (RdT.length (hR 1 (by simp))) (fun j v hj=>by rw [hI.cellS hSb]; exact aJ rfl j v hj) ?_
   exact ⟨hF_.set 6 rfl,⟨hI0,hI1,es3,ck3,tv3,tr3,hI⟩⟩
  ·obtain rfl:=ci ‹_›
   obtain rfl:=cc ‹_›
   obtain rfl:=bO ‹_›
   refine Run.callE (A:=[_]) de df (hI0 bv) (fb hN hg hjj hu S _ _ sb mb ck es tv tr (hR 0 (by simp)) (hR 1 (by simp)) hkm htr) fun v' I' S' w_=>?_
   rintro ⟨eS,rfl,es1,ck1,tv1,tr1,rfl,hm1,htr1,hT1⟩ _ hI
   rw [eS] at hI
   have hI0:=fun (h:az D 7 7=false)=>(Bool.noConfusion h:Inv w X ([.blk b3 (.cells #[.int .i64 k,.int .i64 n,.string s,.slice (some ⟨b,o,none⟩) [x,y].length cap] ab)]++aq sb mb es ck tv tr) S w_)
   have hI1:=fun (_:az D 7 7=true)=>(⟨es1,ck1,tv1,tr1,hm1,htr1,hT1,hI⟩:∃ es1 ck1 tv1 tr1,KnownM S es1 st'/\tr1.length+unb st'<=1000000/\Tr st st' tr tr1/\Inv w X ([.blk b3 (.cells #[.int .i64 k,.int .i64 n,.string s,.slice (some ⟨b,o,none⟩) [x,y].length cap] ab)]++aq sb mb es1 ck1 tv1 tr1) S w_)
   obtain ⟨es3,ck3,tv3,tr3,hI⟩:∃ es3 ck3 tv3 tr3,Inv w X ([.blk b3 (.cells #[.int .i64 k,.int .i64 n,.string s,.slice (some ⟨b,o,none⟩) [x,y].length cap] ab)]++aq sb mb es3 ck3 tv3 tr3) S w_:=⟨es1,ck1,tv1,tr1,hI⟩
   exact ⟨hF_.set 7 rfl,⟨hI0,hI1,es3,ck3,tv3,tr3,hI⟩⟩
  ·obtain rfl:=cR ‹_›
   obtain ⟨es1,ck1,tv1,tr1,hm1,htr1,hT1,hI⟩:=hI1 ‹D 7=true›
   refine Run.callPure fn_i_holds nm_i_holds hI (cF r S) fun w_ hI=>?_
   have hI0:=fun (h:az D 8 7=false)=>(Bool.noConfusion (h.symm.trans (show az D 8 7=true from ‹D 7=true›)):Inv w X ([.blk b3 (.cells #[.int .i64 k,.int .i64 n,.string s,.slice (some ⟨b,o,none⟩) [x,y].length cap] ab)]++aq sb mb es ck tv tr) S w_)
   have hI1:=fun (_:az D 8 7=true)=>(⟨es1,ck1,tv1,tr1,hm1,htr1,hT1,hI⟩:∃ es1 ck1 tv1 tr1,KnownM S es1 st'/\tr1.length+unb st'<=1000000/\Tr st st' tr tr1/\Inv w X ([.blk b3 (.cells #[.int .i64 k,.int .i64 n,.string s,.slice (some ⟨b,o,none⟩) [x,y].length cap] ab)]++aq sb mb es1 ck1 tv1 tr1) S w_)
   obtain ⟨es3,ck3,tv3,tr3,hI⟩:∃ es3 ck3 tv3 tr3,Inv w X ([.blk b3 (.cells #[.int .i64 k,.int .i64 n,.string s,.slice (some ⟨b,o,none⟩) [x,y].length cap] ab)]++aq sb mb es3 ck3 tv3 tr3) S w_:=⟨es1,ck1,tv1,tr1,hI⟩
   exact ⟨hF_.set 8 rfl,⟨hI0,hI1,es3,ck3,tv3,tr3,hI⟩⟩
  ·obtain rfl:=dt ‹_›
   exact ⟨hF_.set 9 rfl,⟨hI0,hI1,es3,ck3,tv3,tr3,hI⟩⟩
  obtain ⟨rfl,rfl,rfl,rfl,rfl,rfl,rfl,rfl,rfl,rfl,_⟩:=hF_.all
  have Aa:D 7=true:=by assumption
  clear hF_ ci cd cj cc cm cr bO cR dt eP
  obtain ⟨es1,ck1,tv1,tr1,hm1,htr1,hT1,hI⟩:=hI1 Aa
  exact ⟨_,_,S,rfl,hI.sub (List.sublist_append_right [_] _),Ext.refl _ _ _,rfl,rfl,es1,ck1,tv1,tr1,rfl,hm1,htr1,hT1⟩
 refine bj ?_
 refine aH (fun h=>?_) (fun h3=>?_)
 ·obtain ⟨x,y,rfl⟩:=ur (l:=ks) (by have:=i6 (by rw [h]; decide +kernel) hbs; omega)
  have hj:fL (.mk k n s [x,y])=.not x y:=by
   rw [fL,if_neg (show ¬ (T.mk k n s [x,y]).name=i7 from h0),if_neg (show ¬ (T.mk k n s [x,y]).name=j8 from h1),if_neg (show ¬ (T.mk k n s [x,y]).name=nEq from h2),if_pos (show (T.mk k n s [x,y]).name=nNe from h)]
   rfl
  rw [hj] at hB hbj
  obtain ⟨b,o,cap,c,E,fz,rfl,hSb,hR⟩:=hks.ptr (by simp)
  obtain ⟨rfl,r,st1,hu,rfl⟩:=hB
  have hjj:okJ N (.one x y):=hbj
  refine al ?_
  refine ae hI 1 rfl dQ fD rfl ?_
  obtain ⟨ta,tn,tc,htv⟩:=hI.rowSlice 3 rfl
  have htn:tn=tr.length:=by
   have hm:w'.ownsRow 0 bG 1 tv tr.length (ints tr):=hI.its (dl tv tr) (by simp [aq])
   rcases hm.2 with ⟨e1,e2⟩|⟨g1,c1,u1,e1,_⟩
   ·rw [htv] at e1; simp only [Value.slice.injEq] at e1; omega
   ·rw [htv] at e1; simp only [Value.slice.injEq] at e1; omega
  obtain rfl:=htn
  rw [htv]
  refine fw dd ?_
  refine ⟨fun D x7 y7 HP H6 HZ Iq Ib Dx GA w_=>Fx D 0 [GA=.pointer (some ⟨sb,0,none⟩),Dx=.slice (some ⟨b,o,none⟩) [x,y].length cap,Ib=.pointer (some ⟨b,o+0 * 4,none⟩),Iq=.agg (aV c (o+0 * 4) 4).toArray,HZ=.slice (some ⟨b,o,none⟩) [x,y].length cap,H6=.pointer (some ⟨b,o+1 * 4,none⟩),HP=.agg (aV c (o+1 * 4) 4).toArray,y7=.bool r,x7=.bool r]/\(D 7=false->Inv w X ([.blk b3 (.cells #[.int .i64 k,.int .i64 n,.string s,.slice (some ⟨b,o,none⟩) [x,y].length cap] ab)]++aq sb mb es ck tv tr) S w_)/\(D 7=true->∃ es1 ck1 tv1 tr1,KnownM S es1 st1/\tr1.length+unb st1<=1000000/\Tr st' st1 tr tr1/\Inv w X ([.blk b3 (.cells #[.int .i64 k,.int .i64 n,.string s,.slice (some ⟨b,o,none⟩) [x,y].length cap] ab)]++aq sb mb es1 ck1 tv1 tr1) S w_)/\∃ es3 ck3 tv3 tr3,Inv w X ([.blk b3 (.cells #[.int .i64 k,.int .i64 n,.string s,.slice (some ⟨b,o,none⟩) [x,y].length cap] ab)]++aq sb mb es3 ck3 tv3 tr3) S w_,⟨Fx.nil _ _,⟨fun _=>hI.draw,aM,es,ck,tv,tr,hI.draw⟩⟩,⟨?_,?_,?_,?_,?_,?_,?_,?_,?_,trivial⟩,?_⟩
  all_goals (intro D bv; intros; rename_i x7 y7 HP H6 HZ Iq Ib Dx GA w_ hA_; have hF_:=hA_.1; obtain ⟨⟨ci,cd,cj,cc,cm,cr,bO,cR,dt,_⟩,⟨hI0,hI1,es3,ck3,tv3,tr3,hI⟩⟩:=hA_)
  ·exact ⟨hF_.set 0 rfl,⟨hI0,hI1,es3,ck3,tv3,tr3,hI⟩⟩
  ·exact ⟨hF_.set 1 rfl,⟨hI0,hI1,es3,ck3,tv3,tr3,hI⟩⟩
  ·obtain rfl:=cd ‹_›
   refine aE (i:=0) ag (by simp) ?_
   exact ⟨hF_.set 2 rfl,⟨hI0,hI1,es3,ck3,tv3,tr3,hI⟩⟩
  ·obtain rfl:=cj ‹_›
   refine bK ac (RdT.length (hR 0 (by simp))) (fun j v hj=>by rw [hI.cellS hSb]; exact aJ rfl j v hj) ?_
   exact ⟨hF_.set 3 rfl,⟨hI0,hI1,es3,ck3,tv3,tr3,hI⟩⟩
  ·exact ⟨hF_.set 4 rfl,⟨hI0,hI1,es3,ck3,tv3,tr3,hI⟩⟩
  ·obtain rfl:=cm ‹_›
   refine aE (i:=1) ag (by simp) ?_
   exact ⟨hF_.set 5 rfl,⟨hI0,hI1,es3,ck3,tv3,tr3,hI⟩⟩
  ·obtain rfl:=cr ‹_›
   refine bK ac (RdT.length (hR 1 (by simp))) (fun j v hj=>by rw [hI.cellS hSb]; exact aJ rfl j v hj) ?_
   exact ⟨hF_.set 6 rfl,⟨hI0,hI1,es3,ck3,tv3,tr3,hI⟩⟩
  ·obtain rfl:=ci ‹_›
   obtain rfl:=cc ‹_›
   obtain rfl:=bO ‹_›
   refine Run.callE (A:=[_]) de df (hI0 bv) (fb hN hg hjj hu S _ _ sb mb ck es tv tr (hR 0 (by simp)) (hR 1 (by simp)) hkm htr) fun v' I' S' w_=>?_
   rintro ⟨eS,rfl,es1,ck1,tv1,tr1,rfl,hm1,htr1,hT1⟩ _ hI
   rw [eS] at hI
   have hI0:=fun (h:az D 7 7=false)=>(Bool.noConfusion h:Inv w X ([.blk b3 (.cells #[.int .i64 k,.int .i64 n,.string s,.slice (some ⟨b,o,none⟩) [x,y].length cap] ab)]++aq sb mb es ck tv tr) S w_)
   have hI1:=fun (_:az D 7 7=true)=>(⟨es1,ck1,tv1,tr1,hm1,htr1,hT1,hI⟩:∃ es1 ck1 tv1 tr1,KnownM S es1 st1/\tr1.length+unb st1<=1000000/\Tr st' st1 tr tr1/\Inv w X ([.blk b3 (.cells #[.int .i64 k,.int .i64 n,.string s,.slice (some ⟨b,o,none⟩) [x,y].length cap] ab)]++aq sb mb es1 ck1 tv1 tr1) S w_)
   obtain ⟨es3,ck3,tv3,tr3,hI⟩:∃ es3 ck3 tv3 tr3,Inv w X ([.blk b3 (.cells #[.int .i64 k,.int .i64 n,.string s,.slice (some ⟨b,o,none⟩) [x,y].length cap] ab)]++aq sb mb es3 ck3 tv3 tr3) S w_:=⟨es1,ck1,tv1,tr1,hI⟩
   exact ⟨hF_.set 7 rfl,⟨hI0,hI1,es3,ck3,tv3,tr3,hI⟩⟩
  ·obtain rfl:=cR ‹_›
   exact ⟨hF_.set 8 rfl,⟨hI0,hI1,es3,ck3,tv3,tr3,hI⟩⟩
  obtain ⟨rfl,rfl,rfl,rfl,rfl,rfl,rfl,rfl,rfl,_⟩:=hF_.all
  have Aa:D 7=true:=by assumption
  clear hF_ ci cd cj cc cm cr bO cR dt
  obtain ⟨es1,ck1,tv1,tr1,hm1,htr1,⟨ns,rfl,hun,hns,_⟩,hI⟩:=hI1 Aa
  have hd1:(tr++ns).drop tr.length=ns:=by rw [List.drop_left]
  have hd2:(tr++ns).take tr.length=tr:=by rw [List.take_left]
  refine Run.callE (A:=[_]) gQ gM hI (qe (mark:=tr.length) hm1 (by simp) (by rw [hd1]; intro n hn; obtain ⟨j,rfl,_⟩:=hns n hn; omega) (by omega)) fun v' I' S' w'=>?_
  rintro ⟨eS,rfl,es2,tv2,rfl,hm2⟩ _ hI
  rw [eS] at hI
  rw [hd1,hun] at hm2
  rw [hd2] at hI
  refine bU ?_
  refine Run.callPure fn_i_holds nm_i_holds hI (cF (!r) S) fun w' hI=>?_
  exact ⟨_,_,S,rfl,hI.sub (List.sublist_append_right [_] _),Ext.refl _ _ _,rfl,rfl,es2,ck1,tv2,tr,rfl,hm2,htr,Tr.refl _ _⟩
 refine bj ?_
 refine aH (fun h=>?_) (fun h4=>?_)
 ·obtain ⟨x,y,rfl⟩:=ur (l:=ks) (by have:=i6 (by rw [h]; decide +kernel) hbs; omega)
  have hj:fL (.mk k n s [x,y])=.done (fm (eqT x y)):=by
   rw [fL,if_neg (show ¬ (T.mk k n s [x,y]).name=i7 from h0),if_neg (show ¬ (T.mk k n s [x,y]).name=j8 from h1),if_neg (show ¬ (T.mk k n s [x,y]).name=nEq from h2),if_neg (show ¬ (T.mk k n s [x,y]).name=nNe from h3),if_pos (show (T.mk k n s [x,y]).name=pT from h)]
   rfl
  rw [hj] at hB hbj
  obtain ⟨b,o,cap,c,E,fz,rfl,hSb,hR⟩:=hks.ptr (by simp)
  refine ⟨fun D x4 Bm xc xP wN xw zd xK x0 w_=>Fx D 0 [x0=.slice (some ⟨b,o,none⟩) [x,y].length cap,xK=.pointer (some ⟨b,o+0 * 4,none⟩),zd=.agg (aV c (o+0 * 4) 4).toArray,xw=.slice (some ⟨b,o,none⟩) [x,y].length cap,wN=.pointer (some ⟨b,o+1 * 4,none⟩),xP=.agg (aV c (o+1 * 4) 4).toArray,xc=.bool (eqT x y),Bm=.int .i64 (fm (eqT x y)),x4=.int .i64 (fm (eqT x y))]/\Inv w X ([.blk b3 (.cells #[.int .i64 k,.int .i64 n,.string s,.slice (some ⟨b,o,none⟩) [x,y].length cap] ab)]++aq sb mb es ck tv tr) S w_,⟨Fx.nil _ _,hI.draw⟩,⟨?_,?_,?_,?_,?_,?_,?_,?_,?_,trivial⟩,?_⟩
  all_goals (intro D bv; intros; rename_i x4 Bm xc xP wN xw zd xK x0 w_ hA_; have hF_:=hA_.1; obtain ⟨⟨ci,cd,cj,cc,cm,cr,bO,cR,dt,_⟩,hI⟩:=hA_)
  ·exact ⟨hF_.set 0 rfl,hI⟩
  ·obtain rfl:=ci ‹_›
   refine aE (i:=0) ag (by simp) ?_
   exact ⟨hF_.set 1 rfl,hI⟩
  ·obtain rfl:=cd ‹_›
   refine bK ac (RdT.length (hR 0 (by simp))) (fun j v hj=>by rw [hI.cellS hSb]; exact aJ rfl j v hj) ?_
   exact ⟨hF_.set 2 rfl,hI⟩
  ·exact ⟨hF_.set 3 rfl,hI⟩
  ·obtain rfl:=cc ‹_›
   refine aE (i:=1) ag (by simp) ?_
   exact ⟨hF_.set 4 rfl,hI⟩
  ·obtain rfl:=cm ‹_›
   refine bK ac (RdT.length (hR 1 (by simp))) (fun j v hj=>by rw [hI.cellS hSb]; exact aJ rfl j v hj) ?_
   exact ⟨hF_.set 5 rfl,hI⟩
  ·obtain rfl:=cj ‹_›
   obtain rfl:=cr ‹_›
   refine Run.callPure jO jG hI (eK x y S _ _ (hR 0 (by simp)) (hR 1 (by simp))) fun w_ hI=>?_
   exact ⟨hF_.set 6 rfl,hI⟩
  ·obtain rfl:=bO ‹_›
   refine Run.callPure fn_i_holds nm_i_holds hI (cF _ S) fun w_ hI=>?_
   exact ⟨hF_.set 7 rfl,hI⟩
  ·obtain rfl:=cR ‹_›
   exact ⟨hF_.set 8 rfl,hI⟩
  obtain ⟨rfl,rfl,rfl,rfl,rfl,rfl,rfl,rfl,rfl,_⟩:=hF_.all
  clear hF_ ci cd cj cc cm cr bO cR dt
  exact fin _ rfl hB hI (sub1 _)
 refine bj ?_
 refine aH (fun h=>?_) (fun h5=>?_)
 ·obtain ⟨x,y,rfl⟩:=ur (l:=ks) (by have:=i6 (by rw [h]; decide +kernel) hbs; omega)
  have hj:fL (.mk k n s [x,y])=if (cC y).2≠0 then .done (cC y).2 else .uni x (FT (cC y).1):=by
   rw [fL,if_neg (show ¬ (T.mk k n s [x,y]).name=i7 from h0),if_neg (show ¬ (T.mk k n s [x,y]).name=j8 from h1),if_neg (show ¬ (T.mk k n s [x,y]).name=nEq from h2),if_neg (show ¬ (T.mk k n s [x,y]).name=nNe from h3),if_neg (show ¬ (T.mk k n s [x,y]).name=pT from h4),if_pos (show (T.mk k n s [x,y]).name=nIs from h)]
   rfl
  rw [hj] at hB hbj
  obtain ⟨b,o,cap,c,E,fz,rfl,hSb,hR⟩:=hks.ptr (by simp)
  have ny:=gC hn.2 y (by simp)
  refine bM (i:=1) hI hks ag ac (by simp) (fun _ _=>RdT.length) fun ds hds=>?_
  refine Run.callPure iL iu hI (jR y S ds hds ny) fun w' hI=>?_
  refine ai (v:=.int .i64 _) rfl ?_
  refine ai (v:=.int .i64 _) rfl ?_
  refine fN ?_
  refine av (fun h6=>?_) (fun h6=>?_)
  ·simp at h6
   exact fin _ (if_pos h6) hB hI (sub1 _)
  simp at h6
  rw [if_neg (by simp [h6])] at hB hbj
  obtain ⟨r,hu,rfl⟩:=hB
  have hjj:okJ N (.one x (FT (cC y).1)):=hbj
  have hsm:=sZ y ny
  unfold Sm at hsm
  refine ⟨fun D x4 Lw M6 KL Kb MX MW Nb M5 w_=>Fx D 0 [M5=.pointer (some ⟨sb,0,none⟩),Nb=.slice (some ⟨b,o,none⟩) [x,y].length cap,MW=.pointer (some ⟨b,o+0 * 4,none⟩),MX=.agg (aV c (o+0 * 4) 4).toArray,Kb=.int .i64 (cC y).1,KL=.agg #[.int .i64 2,.int .i64 (cC y).1,.string ⟨#[]⟩,.slice none 0 0],M6=.bool r,Lw=.int .i64 (fm r),x4=.int .i64 (fm r)]/\(D 6=false->Inv w X ([.blk b3 (.cells #[.int .i64 k,.int .i64 n,.string s,.slice (some ⟨b,o,none⟩) [x,y].length cap] ab)]++aq sb mb es ck tv tr) S w_)/\(D 6=true->∃ es1 ck1 tv1 tr1,KnownM S es1 st'/\tr1.length+unb st'<=1000000/\Tr st st' tr tr1/\Inv w X ([.blk b3 (.cells #[.int .i64 k,.int .i64 n,.string s,.slice (some ⟨b,o,none⟩) [x,y].length cap] ab)]++aq sb mb es1 ck1 tv1 tr1) S w_)/\∃ es3 ck3 tv3 tr3,Inv w X ([.blk b3 (.cells #[.int .i64 k,.int .i64 n,.string s,.slice (some ⟨b,o,none⟩) [x,y].length cap] ab)]++aq sb mb es3 ck3 tv3 tr3) S w_,⟨Fx.nil _ _,⟨fun _=>hI.draw,aM,es,ck,tv,tr,hI.draw⟩⟩,⟨?_,?_,?_,?_,?_,?_,?_,?_,?_,trivial⟩,?_⟩
  all_goals (intro D bv; intros; rename_i x4 Lw M6 KL Kb MX MW Nb M5 w_ hA_; have hF_:=hA_.1; obtain ⟨⟨ci,cd,cj,cc,cm,cr,bO,cR,dt,_⟩,⟨hI0,hI1,es3,ck3,tv3,tr3,hI⟩⟩:=hA_)
  ·exact ⟨hF_.set 0 rfl,⟨hI0,hI1,es3,ck3,tv3,tr3,hI⟩⟩
  ·exact ⟨hF_.set 1 rfl,⟨hI0,hI1,es3,ck3,tv3,tr3,hI⟩⟩
  ·obtain rfl:=cd ‹_›
   refine aE (i:=0) ag (by simp) ?_
   exact ⟨hF_.set 2 rfl,⟨hI0,hI1,es3,ck3,tv3,tr3,hI⟩⟩
  ·obtain rfl:=cj ‹_›
   refine bK ac (RdT.length (hR 0 (by simp))) (fun j v hj=>by rw [hI.cellS hSb]; exact aJ rfl j v hj) ?_
   exact ⟨hF_.set 3 rfl,⟨hI0,hI1,es3,ck3,tv3,tr3,hI⟩⟩
  ·exact ⟨hF_.set 4 rfl,⟨hI0,hI1,es3,ck3,tv3,tr3,hI⟩⟩
  ·obtain rfl:=cm ‹_›
   have f6:D 6=D 6:=rfl
   cases f6v:D 6
   ·refine Run.callPure vB vC (hI0 f6v) (nN _ S) fun w_ hI=>?_
    have hI0:=fun (_:az D 5 6=false)=>hI
    have hI1:=fun (h:az D 5 6=true)=>(Bool.noConfusion (f6v.symm.trans h):∃ es1 ck1 tv1 tr1,KnownM S es1 st'/\tr1.length+unb st'<=1000000/\Tr st st' tr tr1/\Inv w X ([.blk b3 (.cells #[.int .i64 k,.int .i64 n,.string s,.slice (some ⟨b,o,none⟩) [x,y].length cap] ab)]++aq sb mb es1 ck1 tv1 tr1) S w_)
    obtain ⟨es3,ck3,tv3,tr3,hI⟩:∃ es3 ck3 tv3 tr3,Inv w X ([.blk b3 (.cells #[.int .i64 k,.int .i64 n,.string s,.slice (some ⟨b,o,none⟩) [x,y].length cap] ab)]++aq sb mb es3 ck3 tv3 tr3) S w_:=⟨es,ck,tv,tr,hI⟩
    exact ⟨hF_.set 5 rfl,⟨hI0,hI1,es3,ck3,tv3,tr3,hI⟩⟩
   obtain ⟨es1,ck1,tv1,tr1,hm1,htr1,hT1,hI⟩:=hI1 f6v
   refine Run.callPure vB vC hI (nN _ S) fun w_ hI=>?_
   have hI0:=fun (h:az D 5 6=false)=>(Bool.noConfusion (h.symm.trans f6v):Inv w X ([.blk b3 (.cells #[.int .i64 k,.int .i64 n,.string s,.slice (some ⟨b,o,none⟩) [x,y].length cap] ab)]++aq sb mb es ck tv tr) S w_)
   have hI1:=fun (_:az D 5 6=true)=>(⟨es1,ck1,tv1,tr1,hm1,htr1,hT1,hI⟩:∃ es1 ck1 tv1 tr1,KnownM S es1 st'/\tr1.length+unb st'<=1000000/\Tr st st' tr tr1/\Inv w X ([.blk b3 (.cells #[.int .i64 k,.int .i64 n,.string s,.slice (some ⟨b,o,none⟩) [x,y].length cap] ab)]++aq sb mb es1 ck1 tv1 tr1) S w_)
   obtain ⟨es3,ck3,tv3,tr3,hI⟩:∃ es3 ck3 tv3 tr3,Inv w X ([.blk b3 (.cells #[.int .i64 k,.int .i64 n,.string s,.slice (some ⟨b,o,none⟩) [x,y].length cap] ab)]++aq sb mb es3 ck3 tv3 tr3) S w_:=⟨es1,ck1,tv1,tr1,hI⟩
   exact ⟨hF_.set 5 rfl,⟨hI0,hI1,es3,ck3,tv3,tr3,hI⟩⟩
  ·obtain rfl:=ci ‹_›
   obtain rfl:=cc ‹_›
   obtain rfl:=cr ‹_›
   refine Run.callE (A:=[_]) de df (hI0 bv) (fb hN hg hjj hu S _ _ sb mb ck es tv tr (hR 0 (by simp)) (oI (by simp [inI]) (by simp only [inI]; omega)) hkm htr) fun v' I' S' w_=>?_
   rintro ⟨eS,rfl,es1,ck1,tv1,tr1,rfl,hm1,htr1,hT1⟩ _ hI
   rw [eS] at hI
   have hI0:=fun (h:az D 6 6=false)=>(Bool.noConfusion h:Inv w X ([.blk b3 (.cells #[.int .i64 k,.int .i64 n,.string s,.slice (some ⟨b,o,none⟩) [x,y].length cap] ab)]++aq sb mb es ck tv tr) S w_)
   have hI1:=fun (_:az D 6 6=true)=>(⟨es1,ck1,tv1,tr1,hm1,htr1,hT1,hI⟩:∃ es1 ck1 tv1 tr1,KnownM S es1 st'/\tr1.length+unb st'<=1000000/\Tr st st' tr tr1/\Inv w X ([.blk b3 (.cells #[.int .i64 k,.int .i64 n,.string s,.slice (some ⟨b,o,none⟩) [x,y].length cap] ab)]++aq sb mb es1 ck1 tv1 tr1) S w_)
   obtain ⟨es3,ck3,tv3,tr3,hI⟩:∃ es3 ck3 tv3 tr3,Inv w X ([.blk b3 (.cells #[.int .i64 k,.int .i64 n,.string s,.slice (some ⟨b,o,none⟩) [x,y].length cap] ab)]++aq sb mb es3 ck3 tv3 tr3) S w_:=⟨es1,ck1,tv1,tr1,hI⟩
   exact ⟨hF_.set 6 rfl,⟨hI0,hI1,es3,ck3,tv3,tr3,hI⟩⟩
  ·obtain rfl:=bO ‹_›
   obtain ⟨es1,ck1,tv1,tr1,hm1,htr1,hT1,hI⟩:=hI1 ‹D 6=true›
   refine Run.callPure fn_i_holds nm_i_holds hI (cF r S) fun w_ hI=>?_
   have hI0:=fun (h:az D 7 6=false)=>(Bool.noConfusion (h.symm.trans (show az D 7 6=true from ‹D 6=true›)):Inv w X ([.blk b3 (.cells #[.int .i64 k,.int .i64 n,.string s,.slice (some ⟨b,o,none⟩) [x,y].length cap] ab)]++aq sb mb es ck tv tr) S w_)
   have hI1:=fun (_:az D 7 6=true)=>(⟨es1,ck1,tv1,tr1,hm1,htr1,hT1,hI⟩:∃ es1 ck1 tv1 tr1,KnownM S es1 st'/\tr1.length+unb st'<=1000000/\Tr st st' tr tr1/\Inv w X ([.blk b3 (.cells #[.int .i64 k,.int .i64 n,.string s,.slice (some ⟨b,o,none⟩) [x,y].length cap] ab)]++aq sb mb es1 ck1 tv1 tr1) S w_)
   obtain ⟨es3,ck3,tv3,tr3,hI⟩:∃ es3 ck3 tv3 tr3,Inv w X ([.blk b3 (.cells #[.int .i64 k,.int .i64 n,.string s,.slice (some ⟨b,o,none⟩) [x,y].length cap] ab)]++aq sb mb es3 ck3 tv3 tr3) S w_:=⟨es1,ck1,tv1,tr1,hI⟩
   exact ⟨hF_.set 7 rfl,⟨hI0,hI1,es3,ck3,tv3,tr3,hI⟩⟩
  ·obtain rfl:=cR ‹_›
   exact ⟨hF_.set 8 rfl,⟨hI0,hI1,es3,ck3,tv3,tr3,hI⟩⟩
  obtain ⟨rfl,rfl,rfl,rfl,rfl,rfl,rfl,rfl,rfl,_⟩:=hF_.all
  have IB:D 6=true:=by assumption
  clear hF_ ci cd cj cc cm cr bO cR dt
  obtain ⟨es1,ck1,tv1,tr1,hm1,htr1,hT1,hI⟩:=hI1 IB
  exact ⟨_,_,S,rfl,hI.sub (List.sublist_append_right [_] _),Ext.refl _ _ _,rfl,rfl,es1,ck1,tv1,tr1,rfl,hm1,htr1,hT1⟩
 refine bj ?_
 refine aH (fun h=>?_) (fun g1=>?_)
 ·obtain ⟨x,rfl⟩:=Ct (l:=ks) (by
    rcases nK hbs h0 h1 h2 h3 h4 h5 hcn with ⟨_,h⟩|⟨h',_⟩
    ·omega
    ·rw [h] at h'; exact absurd h' (by decide +kernel))
  have hj:fL (.mk k n s [x])=.done (fm (sj s x)):=by
   rw [fL,if_neg (show ¬ (T.mk k n s [x]).name=i7 from h0),if_neg (show ¬ (T.mk k n s [x]).name=j8 from h1),if_neg (show ¬ (T.mk k n s [x]).name=nEq from h2),if_neg (show ¬ (T.mk k n s [x]).name=nNe from h3),if_neg (show ¬ (T.mk k n s [x]).name=pT from h4),if_neg (show ¬ (T.mk k n s [x]).name=nIs from h5),if_neg (show ¬ (T.mk k n s [x]).name=Ag from by rw [show (T.mk k n s [x]).name=s from rfl,h]; decide +kernel),show (T.mk k n s [x]).name=s from rfl,hcn,if_neg (by decide)]
   rfl
  rw [hj] at hB
  have ht:sj s x=decide (x.kind=1):=by rw [h]; rfl
  refine lp hI hks ag aP aF (i:=0) (by simp) (fun cs hcs=>RdT.f0 hcs) ?_
  refine ba ?_
  exact Run.callPure fn_i_holds nm_i_holds hI (cF _ S) fun w' hI=>fin _ (by rw [ht]; rfl) hB hI (sub1 _)
 refine bj ?_
 refine aH (fun h=>?_) (fun g2=>?_)
 ·obtain ⟨x,rfl⟩:=Ct (l:=ks) (by
    rcases nK hbs h0 h1 h2 h3 h4 h5 hcn with ⟨_,h⟩|⟨h',_⟩
    ·omega
    ·rw [h] at h'; exact absurd h' (by decide +kernel))
  have hj:fL (.mk k n s [x])=.done (fm (sj s x)):=by
   rw [fL,if_neg (show ¬ (T.mk k n s [x]).name=i7 from h0),if_neg (show ¬ (T.mk k n s [x]).name=j8 from h1),if_neg (show ¬ (T.mk k n s [x]).name=nEq from h2),if_neg (show ¬ (T.mk k n s [x]).name=nNe from h3),if_neg (show ¬ (T.mk k n s [x]).name=pT from h4),if_neg (show ¬ (T.mk k n s [x]).name=nIs from h5),if_neg (show ¬ (T.mk k n s [x]).name=Ag from by rw [show (T.mk k n s [x]).name=s from rfl,h]; decide +kernel),show (T.mk k n s [x]).name=s from rfl,hcn,if_neg (by decide)]
   rfl
  rw [hj] at hB
  have ht:sj s x=!decide (x.kind=1):=by rw [h]; rfl
  refine lp hI hks ag aP aF (i:=0) (by simp) (fun cs hcs=>RdT.f0 hcs) ?_
  refine fN ?_
  exact Run.callPure fn_i_holds nm_i_holds hI (cF _ S) fun w' hI=>fin _ (by rw [ht]; rfl) hB hI (sub1 _)
 refine bj ?_
 refine aH (fun h=>?_) (fun g3=>?_)
 ·obtain ⟨x,rfl⟩:=Ct (l:=ks) (by
    rcases nK hbs h0 h1 h2 h3 h4 h5 hcn with ⟨_,h⟩|⟨h',_⟩
    ·omega
    ·rw [h] at h'; exact absurd h' (by decide +kernel))
  have hj:fL (.mk k n s [x])=.done (fm (sj s x)):=by
   rw [fL,if_neg (show ¬ (T.mk k n s [x]).name=i7 from h0),if_neg (show ¬ (T.mk k n s [x]).name=j8 from h1),if_neg (show ¬ (T.mk k n s [x]).name=nEq from h2),if_neg (show ¬ (T.mk k n s [x]).name=nNe from h3),if_neg (show ¬ (T.mk k n s [x]).name=pT from h4),if_neg (show ¬ (T.mk k n s [x]).name=nIs from h5),if_neg (show ¬ (T.mk k n s [x]).name=Ag from by rw [show (T.mk k n s [x]).name=s from rfl,h]; decide +kernel),show (T.mk k n s [x]).name=s from rfl,hcn,if_neg (by decide)]
   rfl
  rw [hj] at hB
  have ht:sj s x=(decide (x.kind=3) && decide (x.kids.length=0)):=by rw [h]; rfl
  refine bM (i:=0) hI hks ag ac (by simp) (fun _ _=>RdT.length) fun ds hds=>?_
  refine Run.callPure vA uA hI (sm hds) fun w' hI=>?_
  exact Run.callPure fn_i_holds nm_i_holds hI (cF _ S) fun w' hI=>fin _ (by rw [ht]; rfl) hB hI (sub1 _)
 refine bj ?_
 refine aH (fun h=>?_) (fun g4=>?_)
 ·obtain ⟨x,rfl⟩:=Ct (l:=ks) (by
    rcases nK hbs h0 h1 h2 h3 h4 h5 hcn with ⟨_,h⟩|⟨h',_⟩
    ·omega
    ·rw [h] at h'; exact absurd h' (by decide +kernel))
  have hj:fL (.mk k n s [x])=.done (fm (sj s x)):=by
   rw [fL,if_neg (show ¬ (T.mk k n s [x]).name=i7 from h0),if_neg (show ¬ (T.mk k n s [x]).name=j8 from h1),if_neg (show ¬ (T.mk k n s [x]).name=nEq from h2),if_neg (show ¬ (T.mk k n s [x]).name=nNe from h3),if_neg (show ¬ (T.mk k n s [x]).name=pT from h4),if_neg (show ¬ (T.mk k n s [x]).name=nIs from h5),if_neg (show ¬ (T.mk k n s [x]).name=Ag from by rw [show (T.mk k n s [x]).name=s from rfl,h]; decide +kernel),show (T.mk k n s [x]).name=s from rfl,hcn,if_neg (by decide)]
   rfl
  rw [hj] at hB
  have ht:sj s x=decide (x.kind=2):=by rw [h]; rfl
  refine lp hI hks ag aP aF (i:=0) (by simp) (fun cs hcs=>RdT.f0 hcs) ?_
  refine ba ?_
  exact Run.callPure fn_i_holds nm_i_holds hI (cF _ S) fun w' hI=>fin _ (by rw [ht]; rfl) hB hI (sub1 _)
 have hall:s=Ag/\ks.length=3:=by
  rcases nK hbs h0 h1 h2 h3 h4 h5 hcn with ⟨ht,_⟩|⟨h,hl⟩
  ·rw [bV,List.any_eq_true] at ht
   obtain ⟨x,hx,hd⟩:=ht
   have hd:=of_decide_eq_true hd
   simp only [pB,List.mem_cons,List.not_mem_nil,or_false] at hx
   rcases hx with rfl|rfl|rfl|rfl
   ·exact absurd hd g1
   ·exact absurd hd g2
   ·exact absurd hd g3
   ·exact absurd hd g4
  ·exact ⟨h,by omega⟩
 obtain ⟨h,hl⟩:=hall
 obtain ⟨x,y,z,rfl⟩:=Kv hl
 have hj:fL (.mk k n s [x,y,z])=B9 x y z:=by
  rw [fL,if_neg (show ¬ (T.mk k n s [x,y,z]).name=i7 from h0),if_neg (show ¬ (T.mk k n s [x,y,z]).name=j8 from h1),if_neg (show ¬ (T.mk k n s [x,y,z]).name=nEq from h2),if_neg (show ¬ (T.mk k n s [x,y,z]).name=nNe from h3),if_neg (show ¬ (T.mk k n s [x,y,z]).name=pT from h4),if_neg (show ¬ (T.mk k n s [x,y,z]).name=nIs from h5),if_pos (show (T.mk k n s [x,y,z]).name=Ag from h)]
  rfl
 rw [hj] at hB hbj
 obtain ⟨b,o,cap,c,E,fz,rfl,hSb,hR⟩:=hks.ptr (by simp)
 have hx:=hR 0 (by simp)
 have hy:=hR 1 (by simp)
 have hz:=hR 2 (by simp)
 obtain ⟨kx,hxe,_,hx2,_,_⟩:=RdT.iff.1 hx
 obtain ⟨ky,hye,_,_,_,hyk⟩:=RdT.iff.1 hy
 have hx:RdT S (aV c (o+0 * 4) 4) x:=hx
 have hy:RdT S (aV c (o+1 * 4) 4) y:=hy
 have hxe:aV c (o+0 * 4) 4=[.int .i64 x.kind,.int .i64 x.n,.string x.name,kx]:=hxe
 have hye:aV c (o+1 * 4) 4=[.int .i64 y.kind,.int .i64 y.n,.string y.name,ky]:=hye
 have hyk:RdSl S 4 (RdT S) ky y.kids:=hyk
 have hx2:inI x.n:=hx2
 have hky1:=hyk.le
 simp only [maxLen] at hky1
 refine ⟨fun q w'=>q=.bool (decide (x.kind=1 ∨ y.kind=1))/\Inv w X ([.blk b3 (.cells #[.int .i64 k,.int .i64 n,.string s,.slice (some ⟨b,o,none⟩) [x,y,z].length cap] ab)]++aq sb mb es ck tv tr) S w',?_,?_⟩
 ·refine lp hI hks ag aP aF (i:=0) (by simp) (fun cs hcs=>RdT.f0 hcs) ?_
  refine ba ?_
  have e0:([x,y,z]:List T)[0]=x:=rfl
  rw [e0]
  cases k1:decide (x.kind=1)
  ·refine rpG ?_
   refine lp hI hks ag aP aF (i:=1) (by simp) (fun cs hcs=>RdT.f0 hcs) ?_
   refine ba ?_
   refine rpG ?_
   have:=of_decide_eq_false k1
   refine ⟨?_,hI⟩
   rw [Value.bool.injEq,decide_eq_decide]
   exact ⟨.inr,fun h=>h.resolve_left this⟩
  ·refine rpG ?_
   exact ⟨by rw [decide_eq_true (.inl (of_decide_eq_true k1))],hI⟩
 intro q _ _ _ _ _ _ _ _ _ _ _ _ w'
 rintro ⟨rfl,hI⟩
 refine aH (fun k1=>fin 2 (by rw [B9,if_pos k1]) hB hI (sub1 _)) (fun k1=>?_)
 have el:decide ((y.kids.length:Int)=0)=decide (y.kids.length=0):=by rw [decide_eq_decide]; omega
 refine ⟨fun q w'=>q=.bool (decide (x.kind≠2 ∨ y.kind≠3 ∨ y.kids.length=0))/\Inv w X ([.blk b3 (.cells #[.int .i64 k,.int .i64 n,.string s,.slice (some ⟨b,o,none⟩) [x,y,z].length cap] ab)]++aq sb mb es ck tv tr) S w',?_,?_⟩
 ·refine lp hI hks ag aP aF (i:=0) (by simp) (fun cs hcs=>RdT.f0 hcs) ?_
  refine fN ?_
  have e0:([x,y,z]:List T)[0]=x:=rfl
  rw [e0]
  cases q2:decide (x.kind=2)
  ·refine rpG ?_
   exact ⟨by rw [decide_eq_true (.inl (of_decide_eq_false q2))],hI⟩
  have q2:=of_decide_eq_true q2
  refine rpG ?_
  refine lp hI hks ag aP aF (i:=1) (by simp) (fun cs hcs=>RdT.f0 hcs) ?_
  refine fN ?_
  have e1:([x,y,z]:List T)[1]=y:=rfl
  rw [e1]
  cases q3:decide (y.kind=3)
  ·refine rpG ?_
   exact ⟨by rw [decide_eq_true (.inr (.inl (of_decide_eq_false q3)))],hI⟩
  have q3:=of_decide_eq_true q3
  refine rpG ?_
  refine aE (i:=1) ag (by simp) ?_
  refine aA ar ?_
  refine bW aj (by rw [hI.cellS hSb]; exact aJ hye 3 _ rfl) ?_
  refine aD hyk ag ?_
  refine ba ?_
  rw [el]
  refine rpG ?_
  refine ⟨?_,hI⟩
  rw [Value.bool.injEq,decide_eq_decide]
  simp [q2,q3]
 intro q _ _ _ _ _ _ _ _ _ _ _ _ _ _ _ _ _ _ _ _ w'
 rintro ⟨rfl,hI⟩
 refine aH (fun k2=>fin 3 (by rw [B9,if_neg k1,if_pos k2]) hB hI (sub1 _)) (fun k2=>?_)
 have hwi:(decide (1<=x.n) && decide (x.n<=(y.kids.length:Int)))=!decide (x.n<1 ∨ (y.kids.length:Int)<x.n):=by
  by_cases h8:x.n<1
  ·simp [h8]; omega
  ·by_cases h9:(y.kids.length:Int)<x.n
   ·simp [h9]
   ·simp [h8,h9]; omega
 refine ⟨fun D JT OX OE OA PA Pt Og PG PK Oe JI JX w_=>Fx D 0 [JX=.slice (some ⟨b,o,none⟩) [x,y,z].length cap,JI=.pointer (some ⟨b,o+0 * 4,none⟩),Oe=.pointer (some ⟨b,o+0 * 4+1,none⟩),PK=.int .i64 x.n,PG=.slice (some ⟨b,o,none⟩) [x,y,z].length cap,Og=.pointer (some ⟨b,o+1 * 4,none⟩),Pt=.pointer (some ⟨b,o+1 * 4+3,none⟩),PA=ky,OA=.int .i64 y.kids.length,OE=.bool (!decide (x.n<1 ∨ (y.kids.length:Int)<x.n)),OX=.bool (decide (x.n<1 ∨ (y.kids.length:Int)<x.n)),JT=.bool (decide (x.n<1 ∨ (y.kids.length:Int)<x.n))]/\Inv w X ([.blk b3 (.cells #[.int .i64 k,.int .i64 n,.string s,.slice (some ⟨b,o,none⟩) [x,y,z].length cap] ab)]++aq sb mb es ck tv tr) S w_,⟨Fx.nil _ _,hI.draw⟩,⟨?_,?_,?_,?_,?_,?_,?_,?_,?_,?_,?_,?_,trivial⟩,?_⟩
 all_goals (intro D bv; intros; rename_i JT OX OE OA PA Pt Og PG PK Oe JI JX w_ hA_; have hF_:=hA_.1; obtain ⟨⟨ci,cd,cj,cc,cm,cr,bO,cR,dt,eP,cI,db,_⟩,hI⟩:=hA_)
 ·exact ⟨hF_.set 0 rfl,hI⟩
 ·obtain rfl:=ci ‹_›
  refine aE (i:=0) ag (by simp) ?_
  exact ⟨hF_.set 1 rfl,hI⟩
 ·obtain rfl:=cd ‹_›
  refine aA bb ?_
  exact ⟨hF_.set 2 rfl,hI⟩
 ·obtain rfl:=cj ‹_›
  refine bW aF (by rw [hI.cellS hSb]; exact aJ hxe 1 _ rfl) ?_
  exact ⟨hF_.set 3 rfl,hI⟩
 ·exact ⟨hF_.set 4 rfl,hI⟩
 ·obtain rfl:=cm ‹_›
  refine aE (i:=1) ag (by simp) ?_
  exact ⟨hF_.set 5 rfl,hI⟩
 ·obtain rfl:=cr ‹_›
  refine aA ar ?_
  exact ⟨hF_.set 6 rfl,hI⟩
 ·obtain rfl:=bO ‹_›
  refine bW aj (by rw [hI.cellS hSb]; exact aJ hye 3 _ rfl) ?_
  exact ⟨hF_.set 7 rfl,hI⟩
 ·obtain rfl:=cR ‹_›
  refine aD hyk ag ?_
  exact ⟨hF_.set 8 rfl,hI⟩
 ·obtain rfl:=cc ‹_›
  obtain rfl:=dt ‹_›
  refine Run.callPure ek eD hI (dX _ _ _ S) fun w_ hI=>?_
  rw [hwi]
  exact ⟨hF_.set 9 rfl,hI⟩
 ·obtain rfl:=eP ‹_›
  refine bU ?_
  rw [Bool.not_not]
  exact ⟨hF_.set 10 rfl,hI⟩
 ·obtain rfl:=cI ‹_›
  exact ⟨hF_.set 11 rfl,hI⟩
 obtain ⟨rfl,rfl,rfl,rfl,rfl,rfl,rfl,rfl,rfl,rfl,rfl,rfl,_⟩:=hF_.all
 clear hF_ ci cd cj cc cm cr bO cR dt eP cI db
 refine aH (fun k3=>fin 1 (by rw [B9,if_neg k1,if_neg k2,if_pos k3]) hB hI (sub1 _)) (fun k3=>?_)
 obtain ⟨m,hm⟩:∃ m:Nat,x.n=(m:Int)+1:=⟨(x.n - 1).toNat,by omega⟩
 have hml:m<y.kids.length:=by omega
 have hkd:kd y (x.n.toNat - 1)=y.kids[m]:=by
  have e1:x.n.toNat - 1=m:=by omega
  rw [e1,kd,List.getD_eq_getElem?_getD,List.getElem?_eq_getElem hml]
  rfl
 have hja:B9 x y z=.uni z y.kids[m]:=by rw [B9,if_neg k1,if_neg k2,if_neg k3,hkd]
 rw [hja] at hB hbj
 obtain ⟨r,hu,rfl⟩:=hB
 have hjj:okJ N (.one z y.kids[m]):=hbj
 obtain ⟨c2,o2,cap2,a2,E2,fz2,rfl,hS2,hR2⟩:=hyk.at_ hml
 refine ⟨fun D x4 Pb O6 OV OT Ob OZ Pp OY OR OU Oq N8 Pw OH Ot Om Od w_=>Fx D 0 [Od=.pointer (some ⟨sb,0,none⟩),Om=.slice (some ⟨b,o,none⟩) [x,y,z].length cap,Ot=.pointer (some ⟨b,o+2 * 4,none⟩),OH=.agg (aV c (o+2 * 4) 4).toArray,Pw=.slice (some ⟨b,o,none⟩) [x,y,z].length cap,N8=.pointer (some ⟨b,o+1 * 4,none⟩),Oq=.pointer (some ⟨b,o+1 * 4+3,none⟩),OU=.slice (some ⟨c2,o2,none⟩) y.kids.length cap2,OR=.slice (some ⟨b,o,none⟩) [x,y,z].length cap,OY=.pointer (some ⟨b,o+0 * 4,none⟩),Pp=.pointer (some ⟨b,o+0 * 4+1,none⟩),OZ=.int .i64 x.n,Ob=.int .i64 m,OT=.pointer (some ⟨c2,o2+m * 4,none⟩),OV=.agg (aV a2 (o2+m * 4) 4).toArray,O6=.bool r,Pb=.int .i64 (fm r),x4=.int .i64 (fm r)]/\(D 15=false->Inv w X ([.blk b3 (.cells #[.int .i64 k,.int .i64 n,.string s,.slice (some ⟨b,o,none⟩) [x,y,z].length cap] ab)]++aq sb mb es ck tv tr) S w_)/\(D 15=true->∃ es1 ck1 tv1 tr1,KnownM S es1 st'/\tr1.length+unb st'<=1000000/\Tr st st' tr tr1/\Inv w X ([.blk b3 (.cells #[.int .i64 k,.int .i64 n,.string s,.slice (some ⟨b,o,none⟩) [x,y,z].length cap] ab)]++aq sb mb es1 ck1 tv1 tr1) S w_)/\∃ es3 ck3 tv3 tr3,Inv w X ([.blk b3 (.cells #[.int .i64 k,.int .i64 n,.string s,.slice (some ⟨b,o,none⟩) [x,y,z].length cap] ab)]++aq sb mb es3 ck3 tv3 tr3) S w_,⟨Fx.nil _ _,⟨fun _=>hI.draw,aM,es,ck,tv,tr,hI.draw⟩⟩,⟨?_,?_,?_,?_,?_,?_,?_,?_,?_,?_,?_,?_,?_,?_,?_,?_,?_,?_,trivial⟩,?_⟩
 all_goals (intro D bv; intros; rename_i x4 Pb O6 OV OT Ob OZ Pp OY OR OU Oq N8 Pw OH Ot Om Od w_ hA_; have hF_:=hA_.1; obtain ⟨⟨ci,cd,cj,cc,cm,cr,bO,cR,dt,eP,cI,db,d6,fx,fS,gN,iU,lH,_⟩,⟨hI0,hI1,es3,ck3,tv3,tr3,hI⟩⟩:=hA_)
 ·exact ⟨hF_.set 0 rfl,⟨hI0,hI1,es3,ck3,tv3,tr3,hI⟩⟩
 ·exact ⟨hF_.set 1 rfl,⟨hI0,hI1,es3,ck3,tv3,tr3,hI⟩⟩
 ·obtain rfl:=cd ‹_›
  refine aE (i:=2) ag (by simp) ?_
  exact ⟨hF_.set 2 rfl,⟨hI0,hI1,es3,ck3,tv3,tr3,hI⟩⟩
 ·obtain rfl:=cj ‹_›
  refine bK ac (RdT.length (hR 2 (by simp))) (fun j v hj=>by rw [hI.cellS hSb]; exact aJ rfl j v hj) ?_
  exact ⟨hF_.set 3 rfl,⟨hI0,hI1,es3,ck3,tv3,tr3,hI⟩⟩
 ·exact ⟨hF_.set 4 rfl,⟨hI0,hI1,es3,ck3,tv3,tr3,hI⟩⟩
 ·obtain rfl:=cm ‹_›
  refine aE (i:=1) ag (by simp) ?_
  exact ⟨hF_.set 5 rfl,⟨hI0,hI1,es3,ck3,tv3,tr3,hI⟩⟩
 ·obtain rfl:=cr ‹_›
  refine aA ar ?_
  exact ⟨hF_.set 6 rfl,⟨hI0,hI1,es3,ck3,tv3,tr3,hI⟩⟩
 ·obtain rfl:=bO ‹_›
  refine bW aj (by rw [hI.cellS hSb]; exact aJ hye 3 _ rfl) ?_
  exact ⟨hF_.set 7 rfl,⟨hI0,hI1,es3,ck3,tv3,tr3,hI⟩⟩
 ·exact ⟨hF_.set 8 rfl,⟨hI0,hI1,es3,ck3,tv3,tr3,hI⟩⟩
 ·obtain rfl:=dt ‹_›
  refine aE (i:=0) ag (by simp) ?_
  exact ⟨hF_.set 9 rfl,⟨hI0,hI1,es3,ck3,tv3,tr3,hI⟩⟩
 ·obtain rfl:=eP ‹_›
  refine aA bb ?_
  exact ⟨hF_.set 10 rfl,⟨hI0,hI1,es3,ck3,tv3,tr3,hI⟩⟩
 ·obtain rfl:=cI ‹_›
  refine bW aF (by rw [hI.cellS hSb]; exact aJ hxe 1 _ rfl) ?_
  exact ⟨hF_.set 11 rfl,⟨hI0,hI1,es3,ck3,tv3,tr3,hI⟩⟩
 ·obtain rfl:=db ‹_›
  refine jk (by omega) ?_
  rw [show x.n - 1=(m:Int) by omega]
  exact ⟨hF_.set 12 rfl,⟨hI0,hI1,es3,ck3,tv3,tr3,hI⟩⟩
 ·obtain rfl:=cR ‹_›
  obtain rfl:=d6 ‹_›
  refine aE ag hml ?_
  exact ⟨hF_.set 13 rfl,⟨hI0,hI1,es3,ck3,tv3,tr3,hI⟩⟩
 ·obtain rfl:=fx ‹_›
  refine bK ac hR2.length (fun j v hj=>by rw [hI.cellS hS2]; exact aJ rfl j v hj) ?_
  exact ⟨hF_.set 14 rfl,⟨hI0,hI1,es3,ck3,tv3,tr3,hI⟩⟩
 ·obtain rfl:=ci ‹_›
  obtain rfl:=cc ‹_›
  obtain rfl:=fS ‹_›
  refine Run.callE (A:=[_]) de df (hI0 bv) (fb hN hg hjj hu S _ _ sb mb ck es tv tr hz hR2 hkm htr) fun v' I' S' w_=>?_
  rintro ⟨eS,rfl,es1,ck1,tv1,tr1,rfl,hm1,htr1,hT1⟩ _ hI
  rw [eS] at hI
  have hI0:=fun (h:az D 15 15=false)=>(Bool.noConfusion h:Inv w X ([.blk b3 (.cells #[.int .i64 k,.int .i64 n,.string s,.slice (some ⟨b,o,none⟩) [x,y,z].length cap] ab)]++aq sb mb es ck tv tr) S w_)
  have hI1:=fun (_:az D 15 15=true)=>(⟨es1,ck1,tv1,tr1,hm1,htr1,hT1,hI⟩:∃ es1 ck1 tv1 tr1,KnownM S es1 st'/\tr1.length+unb st'<=1000000/\Tr st st' tr tr1/\Inv w X ([.blk b3 (.cells #[.int .i64 k,.int .i64 n,.string s,.slice (some ⟨b,o,none⟩) [x,y,z].length cap] ab)]++aq sb mb es1 ck1 tv1 tr1) S w_)
  obtain ⟨es3,ck3,tv3,tr3,hI⟩:∃ es3 ck3 tv3 tr3,Inv w X ([.blk b3 (.cells #[.int .i64 k,.int .i64 n,.string s,.slice (some ⟨b,o,none⟩) [x,y,z].length cap] ab)]++aq sb mb es3 ck3 tv3 tr3) S w_:=⟨es1,ck1,tv1,tr1,hI⟩
  exact ⟨hF_.set 15 rfl,⟨hI0,hI1,es3,ck3,tv3,tr3,hI⟩⟩
 ·obtain rfl:=gN ‹_›
  obtain ⟨es1,ck1,tv1,tr1,hm1,htr1,hT1,hI⟩:=hI1 ‹D 15=true›
  refine Run.callPure fn_i_holds nm_i_holds hI (cF r S) fun w_ hI=>?_
  have hI0:=fun (h:az D 16 15=false)=>(Bool.noConfusion (h.symm.trans (show az D 16 15=true from ‹D 15=true›)):Inv w X ([.blk b3 (.cells #[.int .i64 k,.int .i64 n,.string s,.slice (some ⟨b,o,none⟩) [x,y,z].length cap] ab)]++aq sb mb es ck tv tr) S w_)
  have hI1:=fun (_:az D 16 15=true)=>(⟨es1,ck1,tv1,tr1,hm1,htr1,hT1,hI⟩:∃ es1 ck1 tv1 tr1,KnownM S es1 st'/\tr1.length+unb st'<=1000000/\Tr st st' tr tr1/\Inv w X ([.blk b3 (.cells #[.int .i64 k,.int .i64 n,.string s,.slice (some ⟨b,o,none⟩) [x,y,z].length cap] ab)]++aq sb mb es1 ck1 tv1 tr1) S w_)
  obtain ⟨es3,ck3,tv3,tr3,hI⟩:∃ es3 ck3 tv3 tr3,Inv w X ([.blk b3 (.cells #[.int .i64 k,.int .i64 n,.string s,.slice (some ⟨b,o,none⟩) [x,y,z].length cap] ab)]++aq sb mb es3 ck3 tv3 tr3) S w_:=⟨es1,ck1,tv1,tr1,hI⟩
  exact ⟨hF_.set 16 rfl,⟨hI0,hI1,es3,ck3,tv3,tr3,hI⟩⟩
 ·obtain rfl:=iU ‹_›
  exact ⟨hF_.set 17 rfl,⟨hI0,hI1,es3,ck3,tv3,tr3,hI⟩⟩
 obtain ⟨rfl,rfl,rfl,rfl,rfl,rfl,rfl,rfl,rfl,rfl,rfl,rfl,rfl,rfl,rfl,rfl,rfl,rfl,_⟩:=hF_.all
 have PR:D 15=true:=by assumption
 clear hF_ ci cd cj cc cm cr bO cR dt eP cI db d6 fx fS gN iU lH
 obtain ⟨es1,ck1,tv1,tr1,hm1,htr1,hT1,hI⟩:=hI1 PR
 exact ⟨_,_,S,rfl,hI.sub (List.sublist_append_right [_] _),Ext.refl _ _ _,rfl,rfl,es1,ck1,tv1,tr1,rfl,hm1,htr1,hT1⟩
end
end Go.Proofs.YtcpgagfdeflbkaaGreatDoor

/- The program's solver of goals that are built in. -/
import Derived.Test.YtgllldjiaglkcaaGreatDoorZMa13
import Derived.Test.YtgllldjiaglkcaaGreatDoorZMa14
import Derived.Test.YtgllldjiaglkcaaGreatDoorZMa7
import Derived.Test.YtgllldjiaglkcaaGreatDoorZMa6
import Derived.Test.YtgllldjiaglkcaaGreatDoorZMa5
namespace Go.Proofs.YtgllldjiaglkcaaGreatDoor
section
open Go Go.RowKit
theorem Xk {k n:Int} {s:ByteArray} {ks:List T} (h:df s hH=true):iR (.mk k n s ks)=.done (YN s (gy ks)):=by
 have h0:=h
 rw [df,Gq] at h
 obtain ⟨x,hx,hd⟩:=h
 have hd:=of_decide_eq_true hd
 subst hd
 have hne:∀ y∈([ov,pC,nEq,nNe,vH,nIs,IP]:List ByteArray),s≠y:=by
  intro y hy
  simp only [hH,bG,lB,lw] at hx hy
  rcases hx with rfl|rfl|rfl|rfl|rfl <;> rcases hy with rfl|rfl|rfl|rfl|rfl|rfl|rfl <;> decide +kernel
 have n1:(T.mk k n s ks).name=s:=rfl
 rw [iR,n1,ah (hne _ (by simp)),ah (hne _ (by simp)),ah (hne _ (by simp)),ah (hne _ (by simp)),ah (hne _ (by simp)),ah (hne _ (by simp)),ah (hne _ (by simp)),ai h0]
 rfl
theorem RdT.f0 {S:af} {cs:List Value} {t:T} (h:RdT S cs t):cs[0]?=some (.int .i64 t.kind):=by
 obtain ⟨_,rfl,_⟩:=RdT.iff.1 h; rfl
theorem RdT.f1 {S:af} {cs:List Value} {t:T} (h:RdT S cs t):cs[1]?=some (.int .i64 t.n):=by
 obtain ⟨_,rfl,_⟩:=RdT.iff.1 h; rfl
section
variable {w:World} {X:List Nat} {S:af}
attribute [local irreducible] Run CondV aw aN
theorem s8 (n:Int) (S:af):Pure Tryz.prog Re [.int .i64 n] S (.agg #[.int .i64 2,.int .i64 n,.string ⟨#[]⟩,.slice none 0 0]):=by
 intro w hI
 refine CF.2 ?_
 dsimp only[CF,aL]
 refine aV hI aY fun b w' hI=>?_
 refine tp ?_
 refine aA hI 0 rfl ad rfl rfl (by simp [Value.oneCell']) fun w' hI=>?_
 refine bC hI 0 ad rfl rfl ?_
 exact done hI rfl
def Wx (sb mb:Nat) (S:af) (st:ao) (tr:List Int) (code:Int) (st':ao):Value->List Item->af->Prop:=fun q I' S'=>S'=S/\q=.int .i64 code/\
 ∃ es' ck' tv' tr',I'=aG sb mb es' ck' tv' tr'/\KnownM S es' st'/\tr'.length+unb st'<=1000000/\Tr st st' tr tr'
set_option maxHeartbeats 1000000 in
theorem NR {N:Nat} (hN:N<=1000000) {st st':ao} {g:T} {code:Int} (hg:Good N st) (ho:okU N g/\wT g<=1048576) (hn:okN g) (hb:cz g=true) (hB:Blt st g code st')
  {S:af} {cs:List Value} {sb mb ck:Nat} {es:Array MapEntry} {tv:Value} {tr:List Int} (h:RdT S cs g) (hkm:KnownM S es st) (htr:tr.length+unb st<=1000000) :
  Tri Tryz.prog Gz [.pointer (some ⟨sb,0,none⟩),.agg cs.toArray] (aG sb mb es ck tv tr) S (Wx sb mb S st tr code st'):=by
 intro w hI
 have hgl:=h
 obtain ⟨k,n,s,ks⟩:=g
 obtain ⟨kv,rfl,_,_,_,hks⟩:=RdT.iff.1 h
 have hbj:=NS hb ho
 rw [cz,bw] at hb
 obtain ⟨hk3,hbs⟩:=hb
 rw [okN] at hn
 simp only [T.name,T.kids,T.kind,T.n] at hks hbs hgl hk3 ⊢
 obtain ⟨X,hX⟩:∃ X,X=bI (aG sb mb es ck tv tr):=⟨_,rfl⟩
 rw [<- hX] at hI ⊢
 unfold Blt at hB
 clear h
 refine r4.2 ?_
 dsimp only[r4,aZ]
 refine bt hI fun b3 w' hI=>?_
 have hI:Inv w X ([.blk b3 (.cells #[.int .i64 k,.int .i64 n,.string s,kv] ac)]++aG sb mb es ck tv tr) S w':=hI.perm cu
 have fin:∀ {w':World} {L:List Item} {j:BJ} (c:Int),j=.done c->BltJ st j code st'->Inv w X L S w'->List.Sublist (aG sb mb es ck tv tr) L->
   ∃ v' I' S',Ending.returned (.int .i64 c)=.returned v'/\Inv w X I' S' w'/\Ext w.heap.size X S S'/\Wx sb mb S st tr code st' v' I' S':=by
  intro w' L j c hj hB hI hs
  subst hj
  obtain ⟨rfl,rfl⟩:=hB
  exact ⟨_,_,S,rfl,hI.sub hs,Ext.refl _ _ _,rfl,rfl,es,ck,tv,tr,rfl,hkm,htr,Tr.refl _ _⟩
 have sub1:∀ it:Item,List.Sublist (aG sb mb es ck tv tr) ([it]++aG sb mb es ck tv tr):=fun it=>dX [it] _
 refine ar hI 0 ad rfl rfl ?_
 refine Run.callPure IC IZ hI (Cs hgl) fun w' hI=>?_
 have hcg:Y2 (.mk k n s ks)=(decide (ks.length=2) && df s hH):=by
  unfold Y2
  rw [show decide ((T.mk k n s ks).kind=3)=true from hk3]
  rfl
 rw [hcg]
 refine az (fun hc=>?_) (fun hc=>?_)
 ·rw [bw,bk] at hc
  refine ar hI 0 ad rfl rfl ?_
  refine Run.callPure Jo ID hI (Bb hgl hc.1 hn.2) fun w' hI=>?_
  exact fin _ (Xk hc.2) hB hI (sub1 _)
 have hcn:df s hH=false:=by
  cases hx:df s hH
  ·rfl
  ·have:=nM (Zv hx) hbs
   rw [hx,aM (show ks.length=2 by omega)] at hc
   cases hc
 refine ag hI 0 rfl al aj rfl ?_
 refine ag hI 0 rfl bb aQ rfl ?_
 refine bO ?_
 refine aI (fun h=>fin 0 (by rw [iR,ai (show (T.mk k n s ks).name=ov from h)]) hB hI (sub1 _)) (fun h0=>?_)
 refine bO ?_
 refine aI (fun h=>fin 1 (by rw [iR,ah (show ¬ (T.mk k n s ks).name=ov from h0),ai (show (T.mk k n s ks).name=pC from h)]) hB hI (sub1 _)) (fun h1=>?_)
 refine bO ?_
 refine aI (fun h=>?_) (fun h2=>?_)
 ·obtain ⟨x,y,rfl⟩:=B0 (l:=ks) (by have:=nM (by rw [h]; decide +kernel) hbs; omega)
  have hj:iR (.mk k n s [x,y])=.uni x y:=by
   rw [iR,ah (show ¬ (T.mk k n s [x,y]).name=ov from h0),ah (show ¬ (T.mk k n s [x,y]).name=pC from h1),ai (show (T.mk k n s [x,y]).name=nEq from h)]
   rfl
  rw [hj] at hB hbj
  obtain ⟨b,o,cap,c,E,fz,rfl,hSb,hR⟩:=hks.ptr (by simp)
  obtain ⟨r,hu,rfl⟩:=hB
  have hjj:okJ N (.one x y):=hbj
  refine ⟨fun D x4 LH v9 iq qs jL r2 lE fF kU w_=>Fx D 0 [kU=.pointer (some ⟨sb,0,none⟩),fF=.slice (some ⟨b,o,none⟩) [x,y].length cap,lE=.pointer (some ⟨b,o+0 * 4,none⟩),r2=.agg (aO c (o+0 * 4) 4).toArray,jL=.slice (some ⟨b,o,none⟩) [x,y].length cap,qs=.pointer (some ⟨b,o+1 * 4,none⟩),iq=.agg (aO c (o+1 * 4) 4).toArray,v9=.bool r,LH=.int .i64 (iX r),x4=.int .i64 (iX r)]/\(D 7=false->Inv w X ([.blk b3 (.cells #[.int .i64 k,.int .i64 n,.string s,.slice (some ⟨b,o,none⟩) [x,y].length cap] ac)]++aG sb mb es ck tv tr) S w_)/\(D 7=true->∃ es1 ck1 tv1 tr1,KnownM S es1 st'/\tr1.length+unb st'<=1000000/\Tr st st' tr tr1/\Inv w X ([.blk b3 (.cells #[.int .i64 k,.int .i64 n,.string s,.slice (some ⟨b,o,none⟩) [x,y].length cap] ac)]++aG sb mb es1 ck1 tv1 tr1) S w_)/\∃ es3 ck3 tv3 tr3,Inv w X ([.blk b3 (.cells #[.int .i64 k,.int .i64 n,.string s,.slice (some ⟨b,o,none⟩) [x,y].length cap] ac)]++aG sb mb es3 ck3 tv3 tr3) S w_,⟨Fx.nil _ _,⟨fun _=>hI.draw,ba,es,ck,tv,tr,hI.draw⟩⟩,⟨?_,?_,?_,?_,?_,?_,?_,?_,?_,?_,trivial⟩,?_⟩
  all_goals (intro D bP; intros; rename_i x4 LH v9 iq qs jL r2 lE fF kU w_ hA_; have hF_:=hA_.1; obtain ⟨⟨cm,cj,cd,ci,bT,ct,bZ,cR,dq,er,_⟩,⟨hI0,hI1,es3,ck3,tv3,tr3,hI⟩⟩:=hA_)
  ·exact ⟨hF_.set 0 rfl,⟨hI0,hI1,es3,ck3,tv3,tr3,hI⟩⟩
  ·exact ⟨hF_.set 1 rfl,⟨hI0,hI1,es3,ck3,tv3,tr3,hI⟩⟩
  ·obtain rfl:=cj ‹_›
   refine aD (i:=0) ae (by simp) ?_
   exact ⟨hF_.set 2 rfl,⟨hI0,hI1,es3,ck3,tv3,tr3,hI⟩⟩
  ·obtain rfl:=cd ‹_›
   refine bK ad (RdT.length (hR 0 (by simp))) (fun j v hj=>by rw [hI.cellS hSb]; exact aK rfl j v hj) ?_
   exact ⟨hF_.set 3 rfl,⟨hI0,hI1,es3,ck3,tv3,tr3,hI⟩⟩
  ·exact ⟨hF_.set 4 rfl,⟨hI0,hI1,es3,ck3,tv3,tr3,hI⟩⟩
  ·obtain rfl:=bT ‹_›
   refine aD (i:=1) ae (by simp) ?_
   exact ⟨hF_.set 5 rfl,⟨hI0,hI1,es3,ck3,tv3,tr3,hI⟩⟩
  ·obtain rfl:=ct ‹_›
   refine bK ad (RdT.length (hR 1 (by simp))) (fun j v hj=>by rw [hI.cellS hSb]; exact aK rfl j v hj) ?_
   exact ⟨hF_.set 6 rfl,⟨hI0,hI1,es3,ck3,tv3,tr3,hI⟩⟩
  ·obtain rfl:=cm ‹_›
   obtain rfl:=ci ‹_›
   obtain rfl:=bZ ‹_›
   refine Run.callE (A:=[_]) fb eY (hI0 bP) (iL hN hg hjj hu S _ _ sb mb ck es tv tr (hR 0 (by simp)) (hR 1 (by simp)) hkm htr) fun v' I' S' w_=>?_
   rintro ⟨eS,rfl,es1,ck1,tv1,tr1,rfl,hm1,htr1,hT1⟩ _ hI
   rw [eS] at hI
   have hI0:=fun (h:aF D 7 7=false)=>(Bool.noConfusion h:Inv w X ([.blk b3 (.cells #[.int .i64 k,.int .i64 n,.string s,.slice (some ⟨b,o,none⟩) [x,y].length cap] ac)]++aG sb mb es ck tv tr) S w_)
   have hI1:=fun (_:aF D 7 7=true)=>(⟨es1,ck1,tv1,tr1,hm1,htr1,hT1,hI⟩:∃ es1 ck1 tv1 tr1,KnownM S es1 st'/\tr1.length+unb st'<=1000000/\Tr st st' tr tr1/\Inv w X ([.blk b3 (.cells #[.int .i64 k,.int .i64 n,.string s,.slice (some ⟨b,o,none⟩) [x,y].length cap] ac)]++aG sb mb es1 ck1 tv1 tr1) S w_)
   obtain ⟨es3,ck3,tv3,tr3,hI⟩:∃ es3 ck3 tv3 tr3,Inv w X ([.blk b3 (.cells #[.int .i64 k,.int .i64 n,.string s,.slice (some ⟨b,o,none⟩) [x,y].length cap] ac)]++aG sb mb es3 ck3 tv3 tr3) S w_:=⟨es1,ck1,tv1,tr1,hI⟩
   exact ⟨hF_.set 7 rfl,⟨hI0,hI1,es3,ck3,tv3,tr3,hI⟩⟩
  ·obtain rfl:=cR ‹_›
   obtain ⟨es1,ck1,tv1,tr1,hm1,htr1,hT1,hI⟩:=hI1 ‹D 7=true›
   refine Run.callPure fn_i_holds nm_i_holds hI (dP r S) fun w_ hI=>?_
   have hI0:=fun (h:aF D 8 7=false)=>(Bool.noConfusion (h.symm.trans (show aF D 8 7=true from ‹D 7=true›)):Inv w X ([.blk b3 (.cells #[.int .i64 k,.int .i64 n,.string s,.slice (some ⟨b,o,none⟩) [x,y].length cap] ac)]++aG sb mb es ck tv tr) S w_)
   have hI1:=fun (_:aF D 8 7=true)=>(⟨es1,ck1,tv1,tr1,hm1,htr1,hT1,hI⟩:∃ es1 ck1 tv1 tr1,KnownM S es1 st'/\tr1.length+unb st'<=1000000/\Tr st st' tr tr1/\Inv w X ([.blk b3 (.cells #[.int .i64 k,.int .i64 n,.string s,.slice (some ⟨b,o,none⟩) [x,y].length cap] ac)]++aG sb mb es1 ck1 tv1 tr1) S w_)
   obtain ⟨es3,ck3,tv3,tr3,hI⟩:∃ es3 ck3 tv3 tr3,Inv w X ([.blk b3 (.cells #[.int .i64 k,.int .i64 n,.string s,.slice (some ⟨b,o,none⟩) [x,y].length cap] ac)]++aG sb mb es3 ck3 tv3 tr3) S w_:=⟨es1,ck1,tv1,tr1,hI⟩
   exact ⟨hF_.set 8 rfl,⟨hI0,hI1,es3,ck3,tv3,tr3,hI⟩⟩
  ·obtain rfl:=dq ‹_›
   exact ⟨hF_.set 9 rfl,⟨hI0,hI1,es3,ck3,tv3,tr3,hI⟩⟩
  obtain ⟨rfl,rfl,rfl,rfl,rfl,rfl,rfl,rfl,rfl,rfl,_⟩:=hF_.all
  have EA:D 7=true:=by assumption
  clear hF_ cm cj cd ci bT ct bZ cR dq er
  obtain ⟨es1,ck1,tv1,tr1,hm1,htr1,hT1,hI⟩:=hI1 EA
  exact ⟨_,_,S,rfl,hI.sub (dX [_] _),Ext.refl _ _ _,rfl,rfl,es1,ck1,tv1,tr1,rfl,hm1,htr1,hT1⟩
 refine bO ?_
 refine aI (fun h=>?_) (fun h3=>?_)
 ·obtain ⟨x,y,rfl⟩:=B0 (l:=ks) (by have:=nM (by rw [h]; decide +kernel) hbs; omega)
  have hj:iR (.mk k n s [x,y])=.not x y:=by
   rw [iR,ah (show ¬ (T.mk k n s [x,y]).name=ov from h0),ah (show ¬ (T.mk k n s [x,y]).name=pC from h1),ah (show ¬ (T.mk k n s [x,y]).name=nEq from h2),ai (show (T.mk k n s [x,y]).name=nNe from h)]
   rfl
  rw [hj] at hB hbj
  obtain ⟨b,o,cap,c,E,fz,rfl,hSb,hR⟩:=hks.ptr (by simp)
  obtain ⟨rfl,r,st1,hu,rfl⟩:=hB
  have hjj:okJ N (.one x y):=hbj
  refine aE ?_
  refine ag hI 1 rfl fX gH rfl ?_
  obtain ⟨ta,tn,tc,htv⟩:=hI.rowSlice 3 rfl
  have htn:tn=tr.length:=by
   have hm:w'.ownsRow 0 cc 1 tv tr.length (ints tr):=hI.its (dt tv tr) (by simp [aG])
   rcases hm.2 with ⟨e1,e2⟩|⟨g1,c1,u1,e1,_⟩
   ·rw [htv] at e1; simp only [Value.slice.injEq] at e1; omega
   ·rw [htv] at e1; simp only [Value.slice.injEq] at e1; omega
  obtain rfl:=htn
  rw [htv]
  refine eP c5 ?_
  refine ⟨fun D x7 rx Az Eg DK Em Dd x1 Fl w_=>Fx D 0 [Fl=.pointer (some ⟨sb,0,none⟩),x1=.slice (some ⟨b,o,none⟩) [x,y].length cap,Dd=.pointer (some ⟨b,o+0 * 4,none⟩),Em=.agg (aO c (o+0 * 4) 4).toArray,DK=.slice (some ⟨b,o,none⟩) [x,y].length cap,Eg=.pointer (some ⟨b,o+1 * 4,none⟩),Az=.agg (aO c (o+1 * 4) 4).toArray,rx=.bool r,x7=.bool r]/\(D 7=false->Inv w X ([.blk b3 (.cells #[.int .i64 k,.int .i64 n,.string s,.slice (some ⟨b,o,none⟩) [x,y].length cap] ac)]++aG sb mb es ck tv tr) S w_)/\(D 7=true->∃ es1 ck1 tv1 tr1,KnownM S es1 st1/\tr1.length+unb st1<=1000000/\Tr st' st1 tr tr1/\Inv w X ([.blk b3 (.cells #[.int .i64 k,.int .i64 n,.string s,.slice (some ⟨b,o,none⟩) [x,y].length cap] ac)]++aG sb mb es1 ck1 tv1 tr1) S w_)/\∃ es3 ck3 tv3 tr3,Inv w X ([.blk b3 (.cells #[.int .i64 k,.int .i64 n,.string s,.slice (some ⟨b,o,none⟩) [x,y].length cap] ac)]++aG sb mb es3 ck3 tv3 tr3) S w_,⟨Fx.nil _ _,⟨fun _=>hI.draw,ba,es,ck,tv,tr,hI.draw⟩⟩,⟨?_,?_,?_,?_,?_,?_,?_,?_,?_,trivial⟩,?_⟩
  all_goals (intro D bP; intros; rename_i x7 rx Az Eg DK Em Dd x1 Fl w_ hA_; have hF_:=hA_.1; obtain ⟨⟨cm,cj,cd,ci,bT,ct,bZ,cR,dq,_⟩,⟨hI0,hI1,es3,ck3,tv3,tr3,hI⟩⟩:=hA_)
  ·exact ⟨hF_.set 0 rfl,⟨hI0,hI1,es3,ck3,tv3,tr3,hI⟩⟩
  ·exact ⟨hF_.set 1 rfl,⟨hI0,hI1,es3,ck3,tv3,tr3,hI⟩⟩
  ·obtain rfl:=cj ‹_›
   refine aD (i:=0) ae (by simp) ?_
   exact ⟨hF_.set 2 rfl,⟨hI0,hI1,es3,ck3,tv3,tr3,hI⟩⟩
  ·obtain rfl:=cd ‹_›
   refine bK ad (RdT.length (hR 0 (by simp))) (fun j v hj=>by rw [hI.cellS hSb]; exact aK rfl j v hj) ?_
   exact ⟨hF_.set 3 rfl,⟨hI0,hI1,es3,ck3,tv3,tr3,hI⟩⟩
  ·exact ⟨hF_.set 4 rfl,⟨hI0,hI1,es3,ck3,tv3,tr3,hI⟩⟩
  ·obtain rfl:=bT ‹_›
   refine aD (i:=1) ae (by simp) ?_
   exact ⟨hF_.set 5 rfl,⟨hI0,hI1,es3,ck3,tv3,tr3,hI⟩⟩
  ·obtain rfl:=ct ‹_›
   refine bK ad (RdT.length (hR 1 (by simp))) (fun j v hj=>by rw [hI.cellS hSb]; exact aK rfl j v hj) ?_
   exact ⟨hF_.set 6 rfl,⟨hI0,hI1,es3,ck3,tv3,tr3,hI⟩⟩
  ·obtain rfl:=cm ‹_›
   obtain rfl:=ci ‹_›
   obtain rfl:=bZ ‹_›
   refine Run.callE (A:=[_]) fb eY (hI0 bP) (iL hN hg hjj hu S _ _ sb mb ck es tv tr (hR 0 (by simp)) (hR 1 (by simp)) hkm htr) fun v' I' S' w_=>?_
   rintro ⟨eS,rfl,es1,ck1,tv1,tr1,rfl,hm1,htr1,hT1⟩ _ hI
   rw [eS] at hI
   have hI0:=fun (h:aF D 7 7=false)=>(Bool.noConfusion h:Inv w X ([.blk b3 (.cells #[.int .i64 k,.int .i64 n,.string s,.slice (some ⟨b,o,none⟩) [x,y].length cap] ac)]++aG sb mb es ck tv tr) S w_)
   have hI1:=fun (_:aF D 7 7=true)=>(⟨es1,ck1,tv1,tr1,hm1,htr1,hT1,hI⟩:∃ es1 ck1 tv1 tr1,KnownM S es1 st1/\tr1.length+unb st1<=1000000/\Tr st' st1 tr tr1/\Inv w X ([.blk b3 (.cells #[.int .i64 k,.int .i64 n,.string s,.slice (some ⟨b,o,none⟩) [x,y].length cap] ac)]++aG sb mb es1 ck1 tv1 tr1) S w_)
   obtain ⟨es3,ck3,tv3,tr3,hI⟩:∃ es3 ck3 tv3 tr3,Inv w X ([.blk b3 (.cells #[.int .i64 k,.int .i64 n,.string s,.slice (some ⟨b,o,none⟩) [x,y].length cap] ac)]++aG sb mb es3 ck3 tv3 tr3) S w_:=⟨es1,ck1,tv1,tr1,hI⟩
   exact ⟨hF_.set 7 rfl,⟨hI0,hI1,es3,ck3,tv3,tr3,hI⟩⟩
  ·obtain rfl:=cR ‹_›
   exact ⟨hF_.set 8 rfl,⟨hI0,hI1,es3,ck3,tv3,tr3,hI⟩⟩
  obtain ⟨rfl,rfl,rfl,rfl,rfl,rfl,rfl,rfl,rfl,_⟩:=hF_.all
  have EA:D 7=true:=by assumption
  clear hF_ cm cj cd ci bT ct bZ cR dq
  obtain ⟨es1,ck1,tv1,tr1,hm1,htr1,⟨ns,rfl,hun,hns,_⟩,hI⟩:=hI1 EA
  have hd1:(tr++ns).drop tr.length=ns:=by rw [TX]
  have hd2:(tr++ns).take tr.length=tr:=by rw [Hw]
  refine Run.callE (A:=[_]) lA lq hI (xF (mark:=tr.length) hm1 (by simp) (by rw [hd1]; intro n hn; obtain ⟨j,rfl,_⟩:=hns n hn; omega) (by omega)) fun v' I' S' w'=>?_
  rintro ⟨eS,rfl,es2,tv2,rfl,hm2⟩ _ hI
  rw [eS] at hI
  rw [hd1,hun] at hm2
  rw [hd2] at hI
  refine bX ?_
  refine Run.callPure fn_i_holds nm_i_holds hI (dP (!r) S) fun w' hI=>?_
  exact ⟨_,_,S,rfl,hI.sub (dX [_] _),Ext.refl _ _ _,rfl,rfl,es2,ck1,tv2,tr,rfl,hm2,htr,Tr.refl _ _⟩
 refine bO ?_
 refine aI (fun h=>?_) (fun h4=>?_)
 ·obtain ⟨x,y,rfl⟩:=B0 (l:=ks) (by have:=nM (by rw [h]; decide +kernel) hbs; omega)
  have hj:iR (.mk k n s [x,y])=.done (iX (eqT x y)):=by
   rw [iR,ah (show ¬ (T.mk k n s [x,y]).name=ov from h0),ah (show ¬ (T.mk k n s [x,y]).name=pC from h1),ah (show ¬ (T.mk k n s [x,y]).name=nEq from h2),ah (show ¬ (T.mk k n s [x,y]).name=nNe from h3),ai (show (T.mk k n s [x,y]).name=vH from h)]
   rfl
  rw [hj] at hB hbj
  obtain ⟨b,o,cap,c,E,fz,rfl,hSb,hR⟩:=hks.ptr (by simp)
  refine ⟨fun D x4 DW DG El Ba CE CD C6 Ei w_=>Fx D 0 [Ei=.slice (some ⟨b,o,none⟩) [x,y].length cap,C6=.pointer (some ⟨b,o+0 * 4,none⟩),CD=.agg (aO c (o+0 * 4) 4).toArray,CE=.slice (some ⟨b,o,none⟩) [x,y].length cap,Ba=.pointer (some ⟨b,o+1 * 4,none⟩),El=.agg (aO c (o+1 * 4) 4).toArray,DG=.bool (eqT x y),DW=.int .i64 (iX (eqT x y)),x4=.int .i64 (iX (eqT x y))]/\Inv w X ([.blk b3 (.cells #[.int .i64 k,.int .i64 n,.string s,.slice (some ⟨b,o,none⟩) [x,y].length cap] ac)]++aG sb mb es ck tv tr) S w_,⟨Fx.nil _ _,hI.draw⟩,⟨?_,?_,?_,?_,?_,?_,?_,?_,?_,trivial⟩,?_⟩
  all_goals (intro D bP; intros; rename_i x4 DW DG El Ba CE CD C6 Ei w_ hA_; have hF_:=hA_.1; obtain ⟨⟨cm,cj,cd,ci,bT,ct,bZ,cR,dq,_⟩,hI⟩:=hA_)
  ·exact ⟨hF_.set 0 rfl,hI⟩
  ·obtain rfl:=cm ‹_›
   refine aD (i:=0) ae (by simp) ?_
   exact ⟨hF_.set 1 rfl,hI⟩
  ·obtain rfl:=cj ‹_›
   refine bK ad (RdT.length (hR 0 (by simp))) (fun j v hj=>by rw [hI.cellS hSb]; exact aK rfl j v hj) ?_
   exact ⟨hF_.set 2 rfl,hI⟩
  ·exact ⟨hF_.set 3 rfl,hI⟩
  ·obtain rfl:=ci ‹_›
   refine aD (i:=1) ae (by simp) ?_
   exact ⟨hF_.set 4 rfl,hI⟩
  ·obtain rfl:=bT ‹_›
   refine bK ad (RdT.length (hR 1 (by simp))) (fun j v hj=>by rw [hI.cellS hSb]; exact aK rfl j v hj) ?_
   exact ⟨hF_.set 5 rfl,hI⟩
  ·obtain rfl:=cd ‹_›
   obtain rfl:=ct ‹_›
   refine Run.callPure iH iD hI (ib x y S _ _ (hR 0 (by simp)) (hR 1 (by simp))) fun w_ hI=>?_
   exact ⟨hF_.set 6 rfl,hI⟩
  ·obtain rfl:=bZ ‹_›
   refine Run.callPure fn_i_holds nm_i_holds hI (dP _ S) fun w_ hI=>?_
   exact ⟨hF_.set 7 rfl,hI⟩
  ·obtain rfl:=cR ‹_›
   exact ⟨hF_.set 8 rfl,hI⟩
  obtain ⟨rfl,rfl,rfl,rfl,rfl,rfl,rfl,rfl,rfl,_⟩:=hF_.all
  clear hF_ cm cj cd ci bT ct bZ cR dq
  exact fin _ rfl hB hI (sub1 _)
 refine bO ?_
 refine aI (fun h=>?_) (fun h5=>?_)
 ·obtain ⟨x,y,rfl⟩:=B0 (l:=ks) (by have:=nM (by rw [h]; decide +kernel) hbs; omega)
  have hj:iR (.mk k n s [x,y])=if (dI y).2≠0 then .done (dI y).2 else .uni x (Ph (dI y).1):=by
   rw [iR,ah (show ¬ (T.mk k n s [x,y]).name=ov from h0),ah (show ¬ (T.mk k n s [x,y]).name=pC from h1),ah (show ¬ (T.mk k n s [x,y]).name=nEq from h2),ah (show ¬ (T.mk k n s [x,y]).name=nNe from h3),ah (show ¬ (T.mk k n s [x,y]).name=vH from h4),ai (show (T.mk k n s [x,y]).name=nIs from h)]
   rfl
  rw [hj] at hB hbj
  obtain ⟨b,o,cap,c,E,fz,rfl,hSb,hR⟩:=hks.ptr (by simp)
  have ny:=k0 hn.2 y (by simp)
  refine cE (i:=1) hI hks ae ad (by simp) (fun _ _=>RdT.length) fun ds hds=>?_
  refine Run.callPure mw mR hI (oK y S ds hds ny) fun w' hI=>?_
  refine aq (v:=.int .i64 _) rfl ?_
  refine aq (v:=.int .i64 _) rfl ?_
  refine ei ?_
  refine az (fun h6=>?_) (fun h6=>?_)
  ·simp at h6
   exact fin _ (ai h6) hB hI (sub1 _)
  simp at h6
  rw [ah (by simp [h6])] at hB hbj
  obtain ⟨r,hu,rfl⟩:=hB
  have hjj:okJ N (.one x (Ph (dI y).1)):=hbj
  have hsm:=yx y ny
  unfold Sm at hsm
  refine ⟨fun D x4 Wh x82 Xc XT x79 x78 T2 T9 w_=>Fx D 0 [T9=.pointer (some ⟨sb,0,none⟩),T2=.slice (some ⟨b,o,none⟩) [x,y].length cap,x78=.pointer (some ⟨b,o+0 * 4,none⟩),x79=.agg (aO c (o+0 * 4) 4).toArray,XT=.int .i64 (dI y).1,Xc=.agg #[.int .i64 2,.int .i64 (dI y).1,.string ⟨#[]⟩,.slice none 0 0],x82=.bool r,Wh=.int .i64 (iX r),x4=.int .i64 (iX r)]/\(D 6=false->Inv w X ([.blk b3 (.cells #[.int .i64 k,.int .i64 n,.string s,.slice (some ⟨b,o,none⟩) [x,y].length cap] ac)]++aG sb mb es ck tv tr) S w_)/\(D 6=true->∃ es1 ck1 tv1 tr1,KnownM S es1 st'/\tr1.length+unb st'<=1000000/\Tr st st' tr tr1/\Inv w X ([.blk b3 (.cells #[.int .i64 k,.int .i64 n,.string s,.slice (some ⟨b,o,none⟩) [x,y].length cap] ac)]++aG sb mb es1 ck1 tv1 tr1) S w_)/\∃ es3 ck3 tv3 tr3,Inv w X ([.blk b3 (.cells #[.int .i64 k,.int .i64 n,.string s,.slice (some ⟨b,o,none⟩) [x,y].length cap] ac)]++aG sb mb es3 ck3 tv3 tr3) S w_,⟨Fx.nil _ _,⟨fun _=>hI.draw,ba,es,ck,tv,tr,hI.draw⟩⟩,⟨?_,?_,?_,?_,?_,?_,?_,?_,?_,trivial⟩,?_⟩
  all_goals (intro D bP; intros; rename_i x4 Wh x82 Xc XT x79 x78 T2 T9 w_ hA_; have hF_:=hA_.1; obtain ⟨⟨cm,cj,cd,ci,bT,ct,bZ,cR,dq,_⟩,⟨hI0,hI1,es3,ck3,tv3,tr3,hI⟩⟩:=hA_)
  ·exact ⟨hF_.set 0 rfl,⟨hI0,hI1,es3,ck3,tv3,tr3,hI⟩⟩
  ·exact ⟨hF_.set 1 rfl,⟨hI0,hI1,es3,ck3,tv3,tr3,hI⟩⟩
  ·obtain rfl:=cj ‹_›
   refine aD (i:=0) ae (by simp) ?_
   exact ⟨hF_.set 2 rfl,⟨hI0,hI1,es3,ck3,tv3,tr3,hI⟩⟩
  ·obtain rfl:=cd ‹_›
   refine bK ad (RdT.length (hR 0 (by simp))) (fun j v hj=>by rw [hI.cellS hSb]; exact aK rfl j v hj) ?_
   exact ⟨hF_.set 3 rfl,⟨hI0,hI1,es3,ck3,tv3,tr3,hI⟩⟩
  ·exact ⟨hF_.set 4 rfl,⟨hI0,hI1,es3,ck3,tv3,tr3,hI⟩⟩
  ·obtain rfl:=bT ‹_›
   have f6:D 6=D 6:=rfl
   cases f6v:D 6
   ·refine Run.callPure CX Dv (hI0 f6v) (s8 _ S) fun w_ hI=>?_
    have hI0:=fun (_:aF D 5 6=false)=>hI
    have hI1:=fun (h:aF D 5 6=true)=>(Bool.noConfusion (f6v.symm.trans h):∃ es1 ck1 tv1 tr1,KnownM S es1 st'/\tr1.length+unb st'<=1000000/\Tr st st' tr tr1/\Inv w X ([.blk b3 (.cells #[.int .i64 k,.int .i64 n,.string s,.slice (some ⟨b,o,none⟩) [x,y].length cap] ac)]++aG sb mb es1 ck1 tv1 tr1) S w_)
    obtain ⟨es3,ck3,tv3,tr3,hI⟩:∃ es3 ck3 tv3 tr3,Inv w X ([.blk b3 (.cells #[.int .i64 k,.int .i64 n,.string s,.slice (some ⟨b,o,none⟩) [x,y].length cap] ac)]++aG sb mb es3 ck3 tv3 tr3) S w_:=⟨es,ck,tv,tr,hI⟩
    exact ⟨hF_.set 5 rfl,⟨hI0,hI1,es3,ck3,tv3,tr3,hI⟩⟩
   obtain ⟨es1,ck1,tv1,tr1,hm1,htr1,hT1,hI⟩:=hI1 f6v
   refine Run.callPure CX Dv hI (s8 _ S) fun w_ hI=>?_
   have hI0:=fun (h:aF D 5 6=false)=>(Bool.noConfusion (h.symm.trans f6v):Inv w X ([.blk b3 (.cells #[.int .i64 k,.int .i64 n,.string s,.slice (some ⟨b,o,none⟩) [x,y].length cap] ac)]++aG sb mb es ck tv tr) S w_)
   have hI1:=fun (_:aF D 5 6=true)=>(⟨es1,ck1,tv1,tr1,hm1,htr1,hT1,hI⟩:∃ es1 ck1 tv1 tr1,KnownM S es1 st'/\tr1.length+unb st'<=1000000/\Tr st st' tr tr1/\Inv w X ([.blk b3 (.cells #[.int .i64 k,.int .i64 n,.string s,.slice (some ⟨b,o,none⟩) [x,y].length cap] ac)]++aG sb mb es1 ck1 tv1 tr1) S w_)
   obtain ⟨es3,ck3,tv3,tr3,hI⟩:∃ es3 ck3 tv3 tr3,Inv w X ([.blk b3 (.cells #[.int .i64 k,.int .i64 n,.string s,.slice (some ⟨b,o,none⟩) [x,y].length cap] ac)]++aG sb mb es3 ck3 tv3 tr3) S w_:=⟨es1,ck1,tv1,tr1,hI⟩
   exact ⟨hF_.set 5 rfl,⟨hI0,hI1,es3,ck3,tv3,tr3,hI⟩⟩
  ·obtain rfl:=cm ‹_›
   obtain rfl:=ci ‹_›
   obtain rfl:=ct ‹_›
   refine Run.callE (A:=[_]) fb eY (hI0 bP) (iL hN hg hjj hu S _ _ sb mb ck es tv tr (hR 0 (by simp)) (tg (by simp [inI]) (by simp only [inI]; omega)) hkm htr) fun v' I' S' w_=>?_
   rintro ⟨eS,rfl,es1,ck1,tv1,tr1,rfl,hm1,htr1,hT1⟩ _ hI
   rw [eS] at hI
   have hI0:=fun (h:aF D 6 6=false)=>(Bool.noConfusion h:Inv w X ([.blk b3 (.cells #[.int .i64 k,.int .i64 n,.string s,.slice (some ⟨b,o,none⟩) [x,y].length cap] ac)]++aG sb mb es ck tv tr) S w_)
   have hI1:=fun (_:aF D 6 6=true)=>(⟨es1,ck1,tv1,tr1,hm1,htr1,hT1,hI⟩:∃ es1 ck1 tv1 tr1,KnownM S es1 st'/\tr1.length+unb st'<=1000000/\Tr st st' tr tr1/\Inv w X ([.blk b3 (.cells #[.int .i64 k,.int .i64 n,.string s,.slice (some ⟨b,o,none⟩) [x,y].length cap] ac)]++aG sb mb es1 ck1 tv1 tr1) S w_)
   obtain ⟨es3,ck3,tv3,tr3,hI⟩:∃ es3 ck3 tv3 tr3,Inv w X ([.blk b3 (.cells #[.int .i64 k,.int .i64 n,.string s,.slice (some ⟨b,o,none⟩) [x,y].length cap] ac)]++aG sb mb es3 ck3 tv3 tr3) S w_:=⟨es1,ck1,tv1,tr1,hI⟩
   exact ⟨hF_.set 6 rfl,⟨hI0,hI1,es3,ck3,tv3,tr3,hI⟩⟩
  ·obtain rfl:=bZ ‹_›
   obtain ⟨es1,ck1,tv1,tr1,hm1,htr1,hT1,hI⟩:=hI1 ‹D 6=true›
   refine Run.callPure fn_i_holds nm_i_holds hI (dP r S) fun w_ hI=>?_
   have hI0:=fun (h:aF D 7 6=false)=>(Bool.noConfusion (h.symm.trans (show aF D 7 6=true from ‹D 6=true›)):Inv w X ([.blk b3 (.cells #[.int .i64 k,.int .i64 n,.string s,.slice (some ⟨b,o,none⟩) [x,y].length cap] ac)]++aG sb mb es ck tv tr) S w_)
   have hI1:=fun (_:aF D 7 6=true)=>(⟨es1,ck1,tv1,tr1,hm1,htr1,hT1,hI⟩:∃ es1 ck1 tv1 tr1,KnownM S es1 st'/\tr1.length+unb st'<=1000000/\Tr st st' tr tr1/\Inv w X ([.blk b3 (.cells #[.int .i64 k,.int .i64 n,.string s,.slice (some ⟨b,o,none⟩) [x,y].length cap] ac)]++aG sb mb es1 ck1 tv1 tr1) S w_)
   obtain ⟨es3,ck3,tv3,tr3,hI⟩:∃ es3 ck3 tv3 tr3,Inv w X ([.blk b3 (.cells #[.int .i64 k,.int .i64 n,.string s,.slice (some ⟨b,o,none⟩) [x,y].length cap] ac)]++aG sb mb es3 ck3 tv3 tr3) S w_:=⟨es1,ck1,tv1,tr1,hI⟩
   exact ⟨hF_.set 7 rfl,⟨hI0,hI1,es3,ck3,tv3,tr3,hI⟩⟩
  ·obtain rfl:=cR ‹_›
   exact ⟨hF_.set 8 rfl,⟨hI0,hI1,es3,ck3,tv3,tr3,hI⟩⟩
  obtain ⟨rfl,rfl,rfl,rfl,rfl,rfl,rfl,rfl,rfl,_⟩:=hF_.all
  have TH:D 6=true:=by assumption
  clear hF_ cm cj cd ci bT ct bZ cR dq
  obtain ⟨es1,ck1,tv1,tr1,hm1,htr1,hT1,hI⟩:=hI1 TH
  exact ⟨_,_,S,rfl,hI.sub (dX [_] _),Ext.refl _ _ _,rfl,rfl,es1,ck1,tv1,tr1,rfl,hm1,htr1,hT1⟩
 refine bO ?_
 refine aI (fun h=>?_) (fun g1=>?_)
 ·obtain ⟨x,rfl⟩:=ME (l:=ks) (by
    rcases s9 hbs h0 h1 h2 h3 h4 h5 hcn with ⟨_,h⟩|⟨h',_⟩
    ·omega
    ·rw [h] at h'; exact absurd h' (by decide +kernel))
  have hj:iR (.mk k n s [x])=.done (iX (AC s x)):=by
   rw [iR,ah (show ¬ (T.mk k n s [x]).name=ov from h0),ah (show ¬ (T.mk k n s [x]).name=pC from h1),ah (show ¬ (T.mk k n s [x]).name=nEq from h2),ah (show ¬ (T.mk k n s [x]).name=nNe from h3),ah (show ¬ (T.mk k n s [x]).name=vH from h4),ah (show ¬ (T.mk k n s [x]).name=nIs from h5),ah (show ¬ (T.mk k n s [x]).name=IP from by rw [show (T.mk k n s [x]).name=s from rfl,h]; decide +kernel),show (T.mk k n s [x]).name=s from rfl,hcn,ah (by decide)]
   rfl
  rw [hj] at hB
  have ht:AC s x=decide (x.kind=1):=by rw [h]; rfl
  refine rc hI hks ae aP aH (i:=0) (by simp) (fun cs hcs=>RdT.f0 hcs) ?_
  refine bo ?_
  exact Run.callPure fn_i_holds nm_i_holds hI (dP _ S) fun w' hI=>fin _ (by rw [ht]; rfl) hB hI (sub1 _)
 refine bO ?_
 refine aI (fun h=>?_) (fun g2=>?_)
 ·obtain ⟨x,rfl⟩:=ME (l:=ks) (by
    rcases s9 hbs h0 h1 h2 h3 h4 h5 hcn with ⟨_,h⟩|⟨h',_⟩
    ·omega
    ·rw [h] at h'; exact absurd h' (by decide +kernel))
  have hj:iR (.mk k n s [x])=.done (iX (AC s x)):=by
   rw [iR,ah (show ¬ (T.mk k n s [x]).name=ov from h0),ah (show ¬ (T.mk k n s [x]).name=pC from h1),ah (show ¬ (T.mk k n s [x]).name=nEq from h2),ah (show ¬ (T.mk k n s [x]).name=nNe from h3),ah (show ¬ (T.mk k n s [x]).name=vH from h4),ah (show ¬ (T.mk k n s [x]).name=nIs from h5),ah (show ¬ (T.mk k n s [x]).name=IP from by rw [show (T.mk k n s [x]).name=s from rfl,h]; decide +kernel),show (T.mk k n s [x]).name=s from rfl,hcn,ah (by decide)]
   rfl
  rw [hj] at hB
  have ht:AC s x=!decide (x.kind=1):=by rw [h]; rfl
  refine rc hI hks ae aP aH (i:=0) (by simp) (fun cs hcs=>RdT.f0 hcs) ?_
  refine ei ?_
  exact Run.callPure fn_i_holds nm_i_holds hI (dP _ S) fun w' hI=>fin _ (by rw [ht]; rfl) hB hI (sub1 _)
 refine bO ?_
 refine aI (fun h=>?_) (fun g3=>?_)
 ·obtain ⟨x,rfl⟩:=ME (l:=ks) (by
    rcases s9 hbs h0 h1 h2 h3 h4 h5 hcn with ⟨_,h⟩|⟨h',_⟩
    ·omega
    ·rw [h] at h'; exact absurd h' (by decide +kernel))
  have hj:iR (.mk k n s [x])=.done (iX (AC s x)):=by
   rw [iR,ah (show ¬ (T.mk k n s [x]).name=ov from h0),ah (show ¬ (T.mk k n s [x]).name=pC from h1),ah (show ¬ (T.mk k n s [x]).name=nEq from h2),ah (show ¬ (T.mk k n s [x]).name=nNe from h3),ah (show ¬ (T.mk k n s [x]).name=vH from h4),ah (show ¬ (T.mk k n s [x]).name=nIs from h5),ah (show ¬ (T.mk k n s [x]).name=IP from by rw [show (T.mk k n s [x]).name=s from rfl,h]; decide +kernel),show (T.mk k n s [x]).name=s from rfl,hcn,ah (by decide)]
   rfl
  rw [hj] at hB
  have ht:AC s x=(decide (x.kind=3) && decide (x.kids.length=0)):=by rw [h]; rfl
  refine cE (i:=0) hI hks ae ad (by simp) (fun _ _=>RdT.length) fun ds hds=>?_
  refine Run.callPure Ec Dh hI (zg hds) fun w' hI=>?_
  exact Run.callPure fn_i_holds nm_i_holds hI (dP _ S) fun w' hI=>fin _ (by rw [ht]; rfl) hB hI (sub1 _)
 refine bO ?_
 refine aI (fun h=>?_) (fun g4=>?_)
 ·obtain ⟨x,rfl⟩:=ME (l:=ks) (by
    rcases s9 hbs h0 h1 h2 h3 h4 h5 hcn with ⟨_,h⟩|⟨h',_⟩
    ·omega
    ·rw [h] at h'; exact absurd h' (by decide +kernel))
  have hj:iR (.mk k n s [x])=.done (iX (AC s x)):=by
   rw [iR,ah (show ¬ (T.mk k n s [x]).name=ov from h0),ah (show ¬ (T.mk k n s [x]).name=pC from h1),ah (show ¬ (T.mk k n s [x]).name=nEq from h2),ah (show ¬ (T.mk k n s [x]).name=nNe from h3),ah (show ¬ (T.mk k n s [x]).name=vH from h4),ah (show ¬ (T.mk k n s [x]).name=nIs from h5),ah (show ¬ (T.mk k n s [x]).name=IP from by rw [show (T.mk k n s [x]).name=s from rfl,h]; decide +kernel),show (T.mk k n s [x]).name=s from rfl,hcn,ah (by decide)]
   rfl
  rw [hj] at hB
  have ht:AC s x=decide (x.kind=2):=by rw [h]; rfl
  refine rc hI hks ae aP aH (i:=0) (by simp) (fun cs hcs=>RdT.f0 hcs) ?_
  refine bo ?_
  exact Run.callPure fn_i_holds nm_i_holds hI (dP _ S) fun w' hI=>fin _ (by rw [ht]; rfl) hB hI (sub1 _)
 have hall:s=IP/\ks.length=3:=by
  rcases s9 hbs h0 h1 h2 h3 h4 h5 hcn with ⟨ht,_⟩|⟨h,hl⟩
  ·rw [df,Gq] at ht
   obtain ⟨x,hx,hd⟩:=ht
   have hd:=of_decide_eq_true hd
   simp only [vL,bG,lB,lw] at hx
   rcases hx with rfl|rfl|rfl|rfl
   ·exact absurd hd g1
   ·exact absurd hd g2
   ·exact absurd hd g3
   ·exact absurd hd g4
  ·exact ⟨h,by omega⟩
 obtain ⟨h,hl⟩:=hall
 obtain ⟨x,y,z,rfl⟩:=Xw hl
 have hj:iR (.mk k n s [x,y,z])=M8 x y z:=by
  rw [iR,ah (show ¬ (T.mk k n s [x,y,z]).name=ov from h0),ah (show ¬ (T.mk k n s [x,y,z]).name=pC from h1),ah (show ¬ (T.mk k n s [x,y,z]).name=nEq from h2),ah (show ¬ (T.mk k n s [x,y,z]).name=nNe from h3),ah (show ¬ (T.mk k n s [x,y,z]).name=vH from h4),ah (show ¬ (T.mk k n s [x,y,z]).name=nIs from h5),ai (show (T.mk k n s [x,y,z]).name=IP from h)]
  rfl
 rw [hj] at hB hbj
 obtain ⟨b,o,cap,c,E,fz,rfl,hSb,hR⟩:=hks.ptr (by simp)
 have hx:=hR 0 (by simp)
 have hy:=hR 1 (by simp)
 have hz:=hR 2 (by simp)
 obtain ⟨kx,hxe,_,hx2,_,_⟩:=RdT.iff.1 hx
 obtain ⟨ky,hye,_,_,_,hyk⟩:=RdT.iff.1 hy
 have hx:RdT S (aO c (o+0 * 4) 4) x:=hx
 have hy:RdT S (aO c (o+1 * 4) 4) y:=hy
 have hxe:aO c (o+0 * 4) 4=[.int .i64 x.kind,.int .i64 x.n,.string x.name,kx]:=hxe
 have hye:aO c (o+1 * 4) 4=[.int .i64 y.kind,.int .i64 y.n,.string y.name,ky]:=hye
 have hyk:RdSl S 4 (RdT S) ky y.kids:=hyk
 have hx2:inI x.n:=hx2
 have hky1:=hyk.le
 simp only [maxLen] at hky1
 refine ⟨fun q w'=>q=.bool (decide (x.kind=1 ∨ y.kind=1))/\Inv w X ([.blk b3 (.cells #[.int .i64 k,.int .i64 n,.string s,.slice (some ⟨b,o,none⟩) [x,y,z].length cap] ac)]++aG sb mb es ck tv tr) S w',?_,?_⟩
 ·refine rc hI hks ae aP aH (i:=0) (by simp) (fun cs hcs=>RdT.f0 hcs) ?_
  refine bo ?_
  have e0:([x,y,z]:List T)[0]=x:=rfl
  rw [e0]
  cases k1:decide (x.kind=1)
  ·refine rpG ?_
   refine rc hI hks ae aP aH (i:=1) (by simp) (fun cs hcs=>RdT.f0 hcs) ?_
   refine bo ?_
   refine rpG ?_
   have:=of_decide_eq_false k1
   refine ⟨?_,hI⟩
   rw [Value.bool.injEq,fK]
   exact ⟨.inr,fun h=>h.resolve_left this⟩
  ·refine rpG ?_
   exact ⟨by rw [aM (.inl (of_decide_eq_true k1))],hI⟩
 intro q _ _ _ _ _ _ _ _ _ _ _ _ w'
 rintro ⟨rfl,hI⟩
 refine aI (fun k1=>fin 2 (by rw [M8,ai k1]) hB hI (sub1 _)) (fun k1=>?_)
 have el:decide ((y.kids.length:Int)=0)=decide (y.kids.length=0):=by rw [fK]; omega
 refine ⟨fun q w'=>q=.bool (decide (x.kind≠2 ∨ y.kind≠3 ∨ y.kids.length=0))/\Inv w X ([.blk b3 (.cells #[.int .i64 k,.int .i64 n,.string s,.slice (some ⟨b,o,none⟩) [x,y,z].length cap] ac)]++aG sb mb es ck tv tr) S w',?_,?_⟩
 ·refine rc hI hks ae aP aH (i:=0) (by simp) (fun cs hcs=>RdT.f0 hcs) ?_
  refine ei ?_
  have e0:([x,y,z]:List T)[0]=x:=rfl
  rw [e0]
  cases q2:decide (x.kind=2)
  ·refine rpG ?_
   exact ⟨by rw [aM (.inl (of_decide_eq_false q2))],hI⟩
  have q2:=of_decide_eq_true q2
  refine rpG ?_
  refine rc hI hks ae aP aH (i:=1) (by simp) (fun cs hcs=>RdT.f0 hcs) ?_
  refine ei ?_
  have e1:([x,y,z]:List T)[1]=y:=rfl
  rw [e1]
  cases q3:decide (y.kind=3)
  ·refine rpG ?_
   exact ⟨by rw [aM (.inr (.inl (of_decide_eq_false q3)))],hI⟩
  have q3:=of_decide_eq_true q3
  refine rpG ?_
  refine aD (i:=1) ae (by simp) ?_
  refine aB al ?_
  refine cw aj (by rw [hI.cellS hSb]; exact aK hye 3 _ rfl) ?_
  refine aC hyk ae ?_
  refine bo ?_
  rw [el]
  refine rpG ?_
  refine ⟨?_,hI⟩
  rw [Value.bool.injEq,fK]
  simp [q2,q3]
 intro q _ _ _ _ _ _ _ _ _ _ _ _ _ _ _ _ _ _ _ _ w'
 rintro ⟨rfl,hI⟩
 refine aI (fun k2=>fin 3 (by rw [M8,ah k1,ai k2]) hB hI (sub1 _)) (fun k2=>?_)
 have hwi:(decide (1<=x.n) && decide (x.n<=(y.kids.length:Int)))=!decide (x.n<1 ∨ (y.kids.length:Int)<x.n):=by
  by_cases h8:x.n<1
  ·simp [h8]; omega
  ·by_cases h9:(y.kids.length:Int)<x.n
   ·simp [h9]
   ·simp [h8,h9]; omega
 refine ⟨fun D X5 acm abR ace acy acR abJ abZ abu acQ WC X2 w_=>Fx D 0 [X2=.slice (some ⟨b,o,none⟩) [x,y,z].length cap,WC=.pointer (some ⟨b,o+0 * 4,none⟩),acQ=.pointer (some ⟨b,o+0 * 4+1,none⟩),abu=.int .i64 x.n,abZ=.slice (some ⟨b,o,none⟩) [x,y,z].length cap,abJ=.pointer (some ⟨b,o+1 * 4,none⟩),acR=.pointer (some ⟨b,o+1 * 4+3,none⟩),acy=ky,ace=.int .i64 y.kids.length,abR=.bool (!decide (x.n<1 ∨ (y.kids.length:Int)<x.n)),acm=.bool (decide (x.n<1 ∨ (y.kids.length:Int)<x.n)),X5=.bool (decide (x.n<1 ∨ (y.kids.length:Int)<x.n))]/\Inv w X ([.blk b3 (.cells #[.int .i64 k,.int .i64 n,.string s,.slice (some ⟨b,o,none⟩) [x,y,z].length cap] ac)]++aG sb mb es ck tv tr) S w_,⟨Fx.nil _ _,hI.draw⟩,⟨?_,?_,?_,?_,?_,?_,?_,?_,?_,?_,?_,?_,trivial⟩,?_⟩
 all_goals (intro D bP; intros; rename_i X5 acm abR ace acy acR abJ abZ abu acQ WC X2 w_ hA_; have hF_:=hA_.1; obtain ⟨⟨cm,cj,cd,ci,bT,ct,bZ,cR,dq,er,co,cG,_⟩,hI⟩:=hA_)
 ·exact ⟨hF_.set 0 rfl,hI⟩
 ·obtain rfl:=cm ‹_›
  refine aD (i:=0) ae (by simp) ?_
  exact ⟨hF_.set 1 rfl,hI⟩
 ·obtain rfl:=cj ‹_›
  refine aB bh ?_
  exact ⟨hF_.set 2 rfl,hI⟩
 ·obtain rfl:=cd ‹_›
  refine cw aH (by rw [hI.cellS hSb]; exact aK hxe 1 _ rfl) ?_
  exact ⟨hF_.set 3 rfl,hI⟩
 ·exact ⟨hF_.set 4 rfl,hI⟩
 ·obtain rfl:=bT ‹_›
  refine aD (i:=1) ae (by simp) ?_
  exact ⟨hF_.set 5 rfl,hI⟩
 ·obtain rfl:=ct ‹_›
  refine aB al ?_
  exact ⟨hF_.set 6 rfl,hI⟩
 ·obtain rfl:=bZ ‹_›
  refine cw aj (by rw [hI.cellS hSb]; exact aK hye 3 _ rfl) ?_
  exact ⟨hF_.set 7 rfl,hI⟩
 ·obtain rfl:=cR ‹_›
  refine aC hyk ae ?_
  exact ⟨hF_.set 8 rfl,hI⟩
 ·obtain rfl:=ci ‹_›
  obtain rfl:=dq ‹_›
  refine Run.callPure gO hO hI (gg _ _ _ S) fun w_ hI=>?_
  rw [hwi]
  exact ⟨hF_.set 9 rfl,hI⟩
 ·obtain rfl:=er ‹_›
  refine bX ?_
  rw [Bool.not_not]
  exact ⟨hF_.set 10 rfl,hI⟩
 ·obtain rfl:=co ‹_›
  exact ⟨hF_.set 11 rfl,hI⟩
 obtain ⟨rfl,rfl,rfl,rfl,rfl,rfl,rfl,rfl,rfl,rfl,rfl,rfl,_⟩:=hF_.all
 clear hF_ cm cj cd ci bT ct bZ cR dq er co cG
 refine aI (fun k3=>fin 1 (by rw [M8,ah k1,ah k2,ai k3]) hB hI (sub1 _)) (fun k3=>?_)
 obtain ⟨m,hm⟩:∃ m:Nat,x.n=(m:Int)+1:=⟨(x.n - 1).toNat,by omega⟩
 have hml:m<y.kids.length:=by omega
 have hkd:kd y (x.n.toNat - 1)=y.kids[m]:=by
  have e1:x.n.toNat - 1=m:=by omega
  rw [e1,kd,wF,fT hml]
  rfl
 have hja:M8 x y z=.uni z y.kids[m]:=by rw [M8,ah k1,ah k2,ah k3,hkd]
 rw [hja] at hB hbj
 obtain ⟨r,hu,rfl⟩:=hB
 have hjj:okJ N (.one z y.kids[m]):=hbj
 obtain ⟨c2,o2,cap2,a2,E2,fz2,rfl,hS2,hR2⟩:=hyk.at_ hml
 refine ⟨fun D x4 abL ab2 acM ac3 acD acF abD acz aco abP acV acG abE acg abT acU ack w_=>Fx D 0 [ack=.pointer (some ⟨sb,0,none⟩),acU=.slice (some ⟨b,o,none⟩) [x,y,z].length cap,abT=.pointer (some ⟨b,o+2 * 4,none⟩),acg=.agg (aO c (o+2 * 4) 4).toArray,abE=.slice (some ⟨b,o,none⟩) [x,y,z].length cap,acG=.pointer (some ⟨b,o+1 * 4,none⟩),acV=.pointer (some ⟨b,o+1 * 4+3,none⟩),abP=.slice (some ⟨c2,o2,none⟩) y.kids.length cap2,aco=.slice (some ⟨b,o,none⟩) [x,y,z].length cap,acz=.pointer (some ⟨b,o+0 * 4,none⟩),abD=.pointer (some ⟨b,o+0 * 4+1,none⟩),acF=.int .i64 x.n,acD=.int .i64 m,ac3=.pointer (some ⟨c2,o2+m * 4,none⟩),acM=.agg (aO a2 (o2+m * 4) 4).toArray,ab2=.bool r,abL=.int .i64 (iX r),x4=.int .i64 (iX r)]/\(D 15=false->Inv w X ([.blk b3 (.cells #[.int .i64 k,.int .i64 n,.string s,.slice (some ⟨b,o,none⟩) [x,y,z].length cap] ac)]++aG sb mb es ck tv tr) S w_)/\(D 15=true->∃ es1 ck1 tv1 tr1,KnownM S es1 st'/\tr1.length+unb st'<=1000000/\Tr st st' tr tr1/\Inv w X ([.blk b3 (.cells #[.int .i64 k,.int .i64 n,.string s,.slice (some ⟨b,o,none⟩) [x,y,z].length cap] ac)]++aG sb mb es1 ck1 tv1 tr1) S w_)/\∃ es3 ck3 tv3 tr3,Inv w X ([.blk b3 (.cells #[.int .i64 k,.int .i64 n,.string s,.slice (some ⟨b,o,none⟩) [x,y,z].length cap] ac)]++aG sb mb es3 ck3 tv3 tr3) S w_,⟨Fx.nil _ _,⟨fun _=>hI.draw,ba,es,ck,tv,tr,hI.draw⟩⟩,⟨?_,?_,?_,?_,?_,?_,?_,?_,?_,?_,?_,?_,?_,?_,?_,?_,?_,?_,trivial⟩,?_⟩
 all_goals (intro D bP; intros; rename_i x4 abL ab2 acM ac3 acD acF abD acz aco abP acV acG abE acg abT acU ack w_ hA_; have hF_:=hA_.1; obtain ⟨⟨cm,cj,cd,ci,bT,ct,bZ,cR,dq,er,co,cG,dJ,fl,fS,gD,kF,nn,_⟩,⟨hI0,hI1,es3,ck3,tv3,tr3,hI⟩⟩:=hA_)
 ·exact ⟨hF_.set 0 rfl,⟨hI0,hI1,es3,ck3,tv3,tr3,hI⟩⟩
 ·exact ⟨hF_.set 1 rfl,⟨hI0,hI1,es3,ck3,tv3,tr3,hI⟩⟩
 ·obtain rfl:=cj ‹_›
  refine aD (i:=2) ae (by simp) ?_
  exact ⟨hF_.set 2 rfl,⟨hI0,hI1,es3,ck3,tv3,tr3,hI⟩⟩
 ·obtain rfl:=cd ‹_›
  refine bK ad (RdT.length (hR 2 (by simp))) (fun j v hj=>by rw [hI.cellS hSb]; exact aK rfl j v hj) ?_
  exact ⟨hF_.set 3 rfl,⟨hI0,hI1,es3,ck3,tv3,tr3,hI⟩⟩
 ·exact ⟨hF_.set 4 rfl,⟨hI0,hI1,es3,ck3,tv3,tr3,hI⟩⟩
 ·obtain rfl:=bT ‹_›
  refine aD (i:=1) ae (by simp) ?_
  exact ⟨hF_.set 5 rfl,⟨hI0,hI1,es3,ck3,tv3,tr3,hI⟩⟩
 ·obtain rfl:=ct ‹_›
  refine aB al ?_
  exact ⟨hF_.set 6 rfl,⟨hI0,hI1,es3,ck3,tv3,tr3,hI⟩⟩
 ·obtain rfl:=bZ ‹_›
  refine cw aj (by rw [hI.cellS hSb]; exact aK hye 3 _ rfl) ?_
  exact ⟨hF_.set 7 rfl,⟨hI0,hI1,es3,ck3,tv3,tr3,hI⟩⟩
 ·exact ⟨hF_.set 8 rfl,⟨hI0,hI1,es3,ck3,tv3,tr3,hI⟩⟩
 ·obtain rfl:=dq ‹_›
  refine aD (i:=0) ae (by simp) ?_
  exact ⟨hF_.set 9 rfl,⟨hI0,hI1,es3,ck3,tv3,tr3,hI⟩⟩
 ·obtain rfl:=er ‹_›
  refine aB bh ?_
  exact ⟨hF_.set 10 rfl,⟨hI0,hI1,es3,ck3,tv3,tr3,hI⟩⟩
 ·obtain rfl:=co ‹_›
  refine cw aH (by rw [hI.cellS hSb]; exact aK hxe 1 _ rfl) ?_
  exact ⟨hF_.set 11 rfl,⟨hI0,hI1,es3,ck3,tv3,tr3,hI⟩⟩
 ·obtain rfl:=cG ‹_›
  refine mz (by omega) ?_
  rw [show x.n - 1=(m:Int) by omega]
  exact ⟨hF_.set 12 rfl,⟨hI0,hI1,es3,ck3,tv3,tr3,hI⟩⟩
 ·obtain rfl:=cR ‹_›
  obtain rfl:=dJ ‹_›
  refine aD ae hml ?_
  exact ⟨hF_.set 13 rfl,⟨hI0,hI1,es3,ck3,tv3,tr3,hI⟩⟩
 ·obtain rfl:=fl ‹_›
  refine bK ad hR2.length (fun j v hj=>by rw [hI.cellS hS2]; exact aK rfl j v hj) ?_
  exact ⟨hF_.set 14 rfl,⟨hI0,hI1,es3,ck3,tv3,tr3,hI⟩⟩
 ·obtain rfl:=cm ‹_›
  obtain rfl:=ci ‹_›
  obtain rfl:=fS ‹_›
  refine Run.callE (A:=[_]) fb eY (hI0 bP) (iL hN hg hjj hu S _ _ sb mb ck es tv tr hz hR2 hkm htr) fun v' I' S' w_=>?_
  rintro ⟨eS,rfl,es1,ck1,tv1,tr1,rfl,hm1,htr1,hT1⟩ _ hI
  rw [eS] at hI
  have hI0:=fun (h:aF D 15 15=false)=>(Bool.noConfusion h:Inv w X ([.blk b3 (.cells #[.int .i64 k,.int .i64 n,.string s,.slice (some ⟨b,o,none⟩) [x,y,z].length cap] ac)]++aG sb mb es ck tv tr) S w_)
  have hI1:=fun (_:aF D 15 15=true)=>(⟨es1,ck1,tv1,tr1,hm1,htr1,hT1,hI⟩:∃ es1 ck1 tv1 tr1,KnownM S es1 st'/\tr1.length+unb st'<=1000000/\Tr st st' tr tr1/\Inv w X ([.blk b3 (.cells #[.int .i64 k,.int .i64 n,.string s,.slice (some ⟨b,o,none⟩) [x,y,z].length cap] ac)]++aG sb mb es1 ck1 tv1 tr1) S w_)
  obtain ⟨es3,ck3,tv3,tr3,hI⟩:∃ es3 ck3 tv3 tr3,Inv w X ([.blk b3 (.cells #[.int .i64 k,.int .i64 n,.string s,.slice (some ⟨b,o,none⟩) [x,y,z].length cap] ac)]++aG sb mb es3 ck3 tv3 tr3) S w_:=⟨es1,ck1,tv1,tr1,hI⟩
  exact ⟨hF_.set 15 rfl,⟨hI0,hI1,es3,ck3,tv3,tr3,hI⟩⟩
 ·obtain rfl:=gD ‹_›
  obtain ⟨es1,ck1,tv1,tr1,hm1,htr1,hT1,hI⟩:=hI1 ‹D 15=true›
  refine Run.callPure fn_i_holds nm_i_holds hI (dP r S) fun w_ hI=>?_
  have hI0:=fun (h:aF D 16 15=false)=>(Bool.noConfusion (h.symm.trans (show aF D 16 15=true from ‹D 15=true›)):Inv w X ([.blk b3 (.cells #[.int .i64 k,.int .i64 n,.string s,.slice (some ⟨b,o,none⟩) [x,y,z].length cap] ac)]++aG sb mb es ck tv tr) S w_)
  have hI1:=fun (_:aF D 16 15=true)=>(⟨es1,ck1,tv1,tr1,hm1,htr1,hT1,hI⟩:∃ es1 ck1 tv1 tr1,KnownM S es1 st'/\tr1.length+unb st'<=1000000/\Tr st st' tr tr1/\Inv w X ([.blk b3 (.cells #[.int .i64 k,.int .i64 n,.string s,.slice (some ⟨b,o,none⟩) [x,y,z].length cap] ac)]++aG sb mb es1 ck1 tv1 tr1) S w_)
  obtain ⟨es3,ck3,tv3,tr3,hI⟩:∃ es3 ck3 tv3 tr3,Inv w X ([.blk b3 (.cells #[.int .i64 k,.int .i64 n,.string s,.slice (some ⟨b,o,none⟩) [x,y,z].length cap] ac)]++aG sb mb es3 ck3 tv3 tr3) S w_:=⟨es1,ck1,tv1,tr1,hI⟩
  exact ⟨hF_.set 16 rfl,⟨hI0,hI1,es3,ck3,tv3,tr3,hI⟩⟩
 ·obtain rfl:=kF ‹_›
  exact ⟨hF_.set 17 rfl,⟨hI0,hI1,es3,ck3,tv3,tr3,hI⟩⟩
 obtain ⟨rfl,rfl,rfl,rfl,rfl,rfl,rfl,rfl,rfl,rfl,rfl,rfl,rfl,rfl,rfl,rfl,rfl,rfl,_⟩:=hF_.all
 have aaI:D 15=true:=by assumption
 clear hF_ cm cj cd ci bT ct bZ cR dq er co cG dJ fl fS gD kF nn
 obtain ⟨es1,ck1,tv1,tr1,hm1,htr1,hT1,hI⟩:=hI1 aaI
 exact ⟨_,_,S,rfl,hI.sub (dX [_] _),Ext.refl _ _ _,rfl,rfl,es1,ck1,tv1,tr1,rfl,hm1,htr1,hT1⟩
end
end
section
open Go Go.RowKit
theorem KnownM.up {S S':af} {es:Array MapEntry} {st:ao} (h:KnownM S es st) (hs:Sle S S'):KnownM S' es st:=
 ⟨fun e he=>by
  obtain ⟨n,t,cs,h1,h2,h3,h4⟩:=h.1 e he
  exact ⟨n,t,cs,h1,h2,h3.mono hs,h4⟩,h.2⟩
theorem StS.up {S S':af} {sb:Nat} {st:ao} (h:StS S S sb st) (hs:Sle S S'):StS S' S' sb st:=by
 obtain ⟨mb,tv,es,ck,E,h1,h2,h3⟩:=h
 exact ⟨mb,tv,es,ck,E,hs _ _ h1,hs _ _ h2,h3.up hs⟩
def okR (u:T) (deep count:Int):Bool:=decide (count+eq u<=120) && V1 u (31 - deep)
def RC (st:ao) (sb:Nat) (t u:T):Prop:=∀ (S:af) (cs:List Value) (cb:Nat) (deep count:Int),RdT S cs t->StS S S sb st->1<=deep->deep<=1000000->0<=count->count<=1000000->
 Tri Tryz.prog vt [.pointer (some ⟨sb,0,none⟩),.agg cs.toArray,.int .i64 deep,.pointer (some ⟨cb,0,none⟩)] [.blk cb (.cells #[.int .i64 count] cc)] S fun q I' S'=>
  ∃ (cs':List Value) (c':Int),q=.tuple #[.agg cs'.toArray,.bool (okR u deep count)]/\I'=[.blk cb (.cells #[.int .i64 c'] cc)]/\cs'.length=4/\(∀ x∈cs',x.oneCell'=true)/\(okR u deep count=true->c'=count+eq u/\RdT S' cs' u)
section
attribute [local irreducible] Run CondV aw aN
theorem G3 {N:Nat} {st:ao} {sb:Nat} {t v:T} {us:List T} (hg:Good N st) (hwv:dA st t v) (hot:okU N t/\wT t<=1048576) (hlu:us.length=v.kids.length)
  (hk:∀ i (h:i<us.length) (h':i<v.kids.length),RC st sb v.kids[i] us[i]):RC st sb t (.mk v.kind v.n v.name us):=by
 intro S cs cb deep count h hst hd0 hd1 hc0 hc1 w hI
 have hlc:=h.length
 have hov:=ek hg hwv hot
 obtain ⟨X,hX⟩:∃ X,X=bI [Item.blk cb (.cells #[.int .i64 count] cc)]:=⟨_,rfl⟩
 rw [<- hX] at hI ⊢
 have hcu:=eN us
 have hokd:okR (.mk v.kind v.n v.name us) deep count=(decide (count+(1+cY us)<=120) && (if 31 - deep<1 then false else Vc us (31 - deep - 1))):=by
  rw [okR,NK,V1]
 refine lm.2 ?_
 dsimp only[lm,lG]
 refine bt hI fun b5 w' hI=>?_
 refine aV hI aY fun b8 w' hI=>?_
 have hI:Inv w X ([.blk b5 (.cells cs.toArray ac),.blk b8 (.cells #[.int .i64 0,.int .i64 0,.string ⟨#[]⟩,.slice none 0 0] ac)]++[.blk cb (.cells #[.int .i64 count] cc)]) S w':=hI.perm (cu (l₁:=[_,_]) (l₂:=[_]))
 refine ar hI 0 ad rfl (by simpa using hlc) ?_
 refine Run.call0 iO iP hI (lU hg hwv hot.1 hst h) fun v' I' S' w'=>?_
 rintro ⟨eS,rfl,cs',rfl,hcs'⟩ _ hI
 rw [eS] at hI
 clear eS
 refine aA hI 0 rfl ad (by simpa using hcs'.length) (by simpa using hlc) (by simpa using hcs'.one) fun w' hI=>?_
 obtain ⟨kv,rfl,hi1,hi2,hs,hks⟩:=RdT.iff.1 hcs'
 have hI:Inv w X [.blk b5 (.cells #[.int .i64 v.kind,.int .i64 v.n,.string v.name,kv] ac),.blk b8 (.cells #[.int .i64 0,.int .i64 0,.string ⟨#[]⟩,.slice none 0 0] ac),.blk cb (.cells #[.int .i64 count] cc)] S w':=hI
 have hlen:=hks.le
 have hkl:v.kids.length<=1048576:=by
  have:=hov.2
  cases v
  simp only [wT] at this
  simp only [T.kids]
  omega
 refine aE ?_
 refine aX hI 2 aH rfl rfl ?_
 refine bq (by omega) ?_
 refine aE ?_
 refine c8 hI 2 (n:=1) rfl (by decide +kernel) rfl (by simp) (by simp [Value.cells,Value.oneCell']) fun w' hI=>?_
 have hI:Inv w X [.blk b5 (.cells #[.int .i64 v.kind,.int .i64 v.n,.string v.name,kv] ac),.blk b8 (.cells #[.int .i64 0,.int .i64 0,.string ⟨#[]⟩,.slice none 0 0] ac),.blk cb (.cells #[.int .i64 (count+1)] cc)] S w':=hI
 refine ⟨fun q w'=>q=.bool (decide (120<count+1 ∨ 30<deep))/\Inv w X [.blk b5 (.cells #[.int .i64 v.kind,.int .i64 v.n,.string v.name,kv] ac),.blk b8 (.cells #[.int .i64 0,.int .i64 0,.string ⟨#[]⟩,.slice none 0 0] ac),.blk cb (.cells #[.int .i64 (count+1)] cc)] S w',?_,?_⟩
 ·refine aE ?_
  refine aX hI 2 aH rfl rfl ?_
  refine dC ?_
  by_cases e1:120<count+1
  ·rw [aM e1]
   refine rpG ?_
   exact ⟨by rw [aM (Or.inl e1)],hI⟩
  ·rw [aW e1]
   refine rpG ?_
   refine dC ?_
   refine rpG ?_
   refine ⟨?_,hI⟩
   congr 1
   rw [mP,bk,bk]
   omega
 intro q _ _ _ _ _ _ _ w'
 rintro ⟨rfl,hI⟩
 refine aI (fun hbad=>?_) (fun hgood=>?_)
 ·have hno:okR (.mk v.kind v.n v.name us) deep count=false:=by
   rw [hokd]
   rcases hbad with e|e
   ·rw [aW (by omega),g6]
   ·rw [ai (by omega),lP]
  refine yu ?_
  refine aA hI 1 rfl ad rfl rfl yq fun w' hI=>?_
  refine bC hI 1 ad rfl rfl ?_
  exact ⟨_,_,_,rfl,hI.pick [false,false,true],Ext.refl _ _ _,[.int .i64 0,.int .i64 0,.string ⟨#[]⟩,.slice none 0 0],count+1,by rw [hno],rfl,rfl,yq,fun h=>by rw [hno] at h; cases h⟩
 have hg1:count+1<=120:=by omega
 have hg2:deep<=30:=by omega
 rw [ah (by omega)] at hokd
 refine ag hI 0 rfl aP aH rfl ?_
 refine ag hI 0 rfl bh aH rfl ?_
 refine ag hI 0 rfl bb aQ rfl ?_
 refine tz ?_
 refine aV hI aY fun b10 w' hI=>?_
 have hI:Inv w X [.blk b5 (.cells #[.int .i64 v.kind,.int .i64 v.n,.string v.name,kv] ac),.blk b8 (.cells #[.int .i64 0,.int .i64 0,.string ⟨#[]⟩,.slice none 0 0] ac),.blk b10 _,.blk cb (.cells #[.int .i64 (count+1)] cc)] S w':=hI.perm (((cu (l₁:=[_]) (l₂:=[_])).cons _).cons _)
 refine aA hI 2 rfl ad rfl rfl (by simp [Value.oneCell']) fun w' hI=>?_
 have hI:=hI.rowNil ac 4
 have hI:Inv w X [.blk b5 (.cells #[.int .i64 v.kind,.int .i64 v.n,.string v.name,kv] ac),.blk b8 (.cells #[.int .i64 0,.int .i64 0,.string ⟨#[]⟩,.slice none 0 0] ac),.blk b10 (.cells #[.int .i64 v.kind,.int .i64 v.n,.string v.name,.slice none 0 0] ac),aJ (.slice none 0 0) ac 4 [],.blk cb (.cells #[.int .i64 (count+1)] cc)] S w':=hI.perm ((((cu (l₁:=[_]) (l₂:=[_])).cons _).cons _).cons _)
 refine ag hI 0 rfl al aj rfl ?_
 refine aC hks ae ?_
 refine ⟨fun i w'=>∃ (j:Nat) (c:Int) (kvc:Value) (css:List (List Value)) (S1:af),j<=us.length/\i=.int .i64 j/\Ext w.heap.size X S S1/\c=count+1+cY (us.take j)/\c<=120/\(∀ k (_:k<us.length),k<j->V1 us[k] (31 - deep - 1)=true)/\Rows 4 (RdT S1) css (us.take j)/\
   Inv w X [.blk b5 (.cells #[.int .i64 v.kind,.int .i64 v.n,.string v.name,kv] ac),.blk b8 (.cells #[.int .i64 0,.int .i64 0,.string ⟨#[]⟩,.slice none 0 0] ac),.blk b10 (.cells #[.int .i64 v.kind,.int .i64 v.n,.string v.name,kvc] ac),aJ kvc ac 4 css,.blk cb (.cells #[.int .i64 c] cc)] S1 w',
  fun i _=>us.length - (intOf i).toNat,⟨0,count+1,_,[],S,be _,rfl,Ext.refl _ _ _,by simp [cY],hg1,fun k _ h=>by omega,Rows.nil _ _,hI⟩,?_⟩
 intro t42 _ _ _ _ _ _ _ _ _ _ _ _ _ _ _ _ _ _ _ _ _ _ _ _ _ _ w'
 rintro ⟨j,c,kvc,css,S1,hj,rfl,hE,hc,hc120,hdep,hR,hI⟩
 have hpos:=eN (us.take j)
 refine bF ?_
 refine aI (fun hji=>?_) (fun hji=>?_)
 ·have hj1:j<us.length:=by omega
  have hj2:j<v.kids.length:=by omega
  have hcl:=hR.hc
  rw [dK] at hcl
  refine cE hI (hks.monoT hE.1) ae ad hj2 (fun _ _=>RdT.length) fun cs0 hcs0=>?_
  have hlc0:=hcs0.length
  refine aV hI aY fun b12 w' hI=>?_
  have hI:=hI.perm (M:=.blk b12 _::[.blk b5 (.cells #[.int .i64 v.kind,.int .i64 v.n,.string v.name,kv] ac),.blk b8 (.cells #[.int .i64 0,.int .i64 0,.string ⟨#[]⟩,.slice none 0 0] ac),.blk b10 (.cells #[.int .i64 v.kind,.int .i64 v.n,.string v.name,kvc] ac),aJ kvc ac 4 css,.blk cb (.cells #[.int .i64 c] cc)]) (cu (l₁:=[_]))
  refine aA hI 0 rfl ad (by simpa using hlc0) rfl (by simpa using hcs0.one) fun w' hI=>?_
  refine ar hI 0 ad rfl (by simpa using hlc0) ?_
  refine bq (by omega) ?_
  have hI:Inv w X ([.blk b5 (.cells #[.int .i64 v.kind,.int .i64 v.n,.string v.name,kv] ac),.blk b8 (.cells #[.int .i64 0,.int .i64 0,.string ⟨#[]⟩,.slice none 0 0] ac),.blk b10 (.cells #[.int .i64 v.kind,.int .i64 v.n,.string v.name,kvc] ac),aJ kvc ac 4 css]++[.blk cb (.cells #[.int .i64 c] cc)]) S1 w':=hI.pick [false,true,true,true,true,true]
  refine Run.callE ld lf hI (hk j hj1 hj2 S1 cs0 cb (deep+1) c hcs0 (hst.up hE.1) (by omega) (by omega) (by omega) (by omega)) fun v' I' S2 w'=>?_
  rintro ⟨cs2,c2,rfl,rfl,hl4,ho4,hrd⟩ hE2 hI
  refine aq rfl ?_
  refine aq rfl ?_
  refine aV hI aY fun b13 w' hI=>?_
  have hI:=hI.perm (M:=.blk b13 _::[.blk b5 (.cells #[.int .i64 v.kind,.int .i64 v.n,.string v.name,kv] ac),.blk b8 (.cells #[.int .i64 0,.int .i64 0,.string ⟨#[]⟩,.slice none 0 0] ac),.blk b10 (.cells #[.int .i64 v.kind,.int .i64 v.n,.string v.name,kvc] ac),aJ kvc ac 4 css,.blk cb (.cells #[.int .i64 c2] cc)]) (cu (l₁:=[_]))
  refine aA hI 0 rfl ad (by simpa using hl4) rfl (by simpa using ho4) fun w' hI=>?_
  refine bX ?_
  have hct:=V5 us j hj1
  have hcle:=LO us (j+1)
  refine az (fun hb=>?_) (fun hb=>?_)
  ·have hb':okR us[j] (deep+1) c=false:=by simpa using hb
   have hno:okR (.mk v.kind v.n v.name us) deep count=false:=by
    rw [hokd]
    rw [okR,Bool.and_eq_false_iff] at hb'
    rcases hb' with e|e
    ·have e:=of_decide_eq_false e
     rw [aW (by omega),g6]
    ·have:Vc us (31 - deep - 1)=false:=by
      rw [HZ,List.all_eq_false]
      exact ⟨us[j],bA hj1,by rw [show 31 - deep - 1=31 - (deep+1) by omega,e]; decide⟩
     rw [this,lP]
   refine yu ?_
   have hI:Inv w X [.blk b13 (.cells cs2.toArray ac),.blk b5 (.cells #[.int .i64 v.kind,.int .i64 v.n,.string v.name,kv] ac),.blk b8 (.cells #[.int .i64 0,.int .i64 0,.string ⟨#[]⟩,.slice none 0 0] ac),.blk b10 (.cells #[.int .i64 v.kind,.int .i64 v.n,.string v.name,kvc] ac),aJ kvc ac 4 css,.blk cb (.cells #[.int .i64 c2] cc)] S2 w':=hI
   refine aA hI 2 rfl ad rfl rfl yq fun w' hI=>?_
   refine bC hI 2 ad rfl rfl ?_
   exact ⟨_,_,_,rfl,hI.pick [false,false,false,false,false,true],hE.trans hE2,[.int .i64 0,.int .i64 0,.string ⟨#[]⟩,.slice none 0 0],c2,by rw [hno],rfl,rfl,yq,fun h=>by rw [hno] at h; cases h⟩
  ·have hb':okR us[j] (deep+1) c=true:=by simpa using hb
   obtain ⟨hc2,hR2⟩:=hrd hb'
   rw [okR,bw,bk] at hb'
   refine ag (b:=b10) (c:=#[.int .i64 v.kind,.int .i64 v.n,.string v.name,kvc]) hI 3 rfl al aj rfl ?_
   refine ar hI 0 ad rfl (by simpa using hl4) ?_
   refine dD hI 4 cs2 bj (by omega) (by omega) rfl hl4 ho4 (by omega) (by omega) fun kvc2 w' hI=>?_
   have hkv2:=FU (hI.its (aJ kvc2 ac 4 (css++[cs2])) (by simp))
   refine dh (b:=b10) (c:=#[.int .i64 v.kind,.int .i64 v.n,.string v.name,kvc]) hI 3 rfl al aj rfl hkv2.1 hkv2.2 fun w' hI=>?_
   have hI:Inv w X [.blk b5 (.cells #[.int .i64 v.kind,.int .i64 v.n,.string v.name,kv] ac),.blk b8 (.cells #[.int .i64 0,.int .i64 0,.string ⟨#[]⟩,.slice none 0 0] ac),.blk b10 (.cells #[.int .i64 v.kind,.int .i64 v.n,.string v.name,kvc2] ac),aJ kvc2 ac 4 (css++[cs2]),.blk cb (.cells #[.int .i64 c2] cc)] S2 w':=hI.pick [false,true,true,true,true,true]
   refine bq (by omega) ?_
   refine ⟨⟨j+1,c2,kvc2,css++[cs2],S2,hj1,rfl,hE.trans hE2,by omega,by omega,fun k hk2 hkj=>?_,?_,hI⟩,by simp [intOf]; omega⟩
   ·by_cases e:k=j
    ·subst e
     rw [show 31 - deep - 1=31 - (deep+1) by omega]
     exact hb'.2
    ·exact hdep k hk2 (by omega)
   ·rw [fj hj1]
    exact (hR.monoR fun _ _ h=>RdT.mono hE2.1 h).snoc hR2 hl4
 ·have hje:j=us.length:=by omega
  subst hje
  rw [fk] at hR hc
  have hyes:okR (.mk v.kind v.n v.name us) deep count=true:=by
   rw [hokd,aM (by omega),dM,HZ,dE]
   intro x hx
   obtain ⟨k,hk2,rfl⟩:=Cx.1 hx
   exact hdep k hk2 hk2
  refine ar (b:=b10) (c:=#[.int .i64 v.kind,.int .i64 v.n,.string v.name,kvc]) hI 2 ad rfl rfl ?_
  have hkv2:=FU (hI.its (aJ kvc ac 4 css) (by simp))
  have hone:∀ x∈([.int .i64 v.kind,.int .i64 v.n,.string v.name,kvc]:List Value),x.oneCell'=true:=by
   intro x hx
   simp at hx
   rcases hx with rfl|rfl|rfl|rfl <;> first|rfl|exact hkv2.2
  refine aA hI 1 rfl ad rfl rfl hone fun w' hI=>?_
  refine bC (c:=#[.int .i64 v.kind,.int .i64 v.n,.string v.name,kvc]) hI 1 ad rfl rfl ?_
  have hI:Inv w X ([.blk cb (.cells #[.int .i64 c] cc)]++[aJ kvc ac 4 css]) S1 w':=(hI.pick [false,false,false,true,true]).perm (List.Perm.swap ..)
  obtain ⟨S3,hE3,hrd,hI⟩:=hI.lendExt
  have hrr:=RowRd.rows (hR.monoR fun _ _ h=>RdT.mono hE3.1 h) hrd
  exact ⟨_,_,_,rfl,hI,hE.trans hE3,[.int .i64 v.kind,.int .i64 v.n,.string v.name,kvc],c,by rw [hyes],rfl,rfl,hone,fun _=>⟨by rw [NK]; omega,RdT.iff.2 ⟨kvc,rfl,hi1,hi2,hs,hrr⟩⟩⟩
theorem EY {N:Nat} {st:ao} (sb:Nat) (hg:Good N st) {j:Ra} (hr:Res st j):match j with
  | .one t u=>(okU N t/\wT t<=1048576)->RC st sb t u
  | .list ts us=>(∀ t∈ts,okU N t/\wT t<=1048576)->us.length=ts.length/\∀ i (h:i<us.length) (h':i<ts.length),RC st sb ts[i] us[i]:=by
 induction hr with
 | one hw _ ih=>
  intro ho
  have h1:=ih (kP (ek hg hw ho))
  exact G3 hg hw ho h1.1 h1.2
 | nil=>exact fun _=>⟨rfl,fun i h _=>by simp at h⟩
 | cons _ _ ih1 ih2=>
  intro ho
  obtain ⟨h1,h2⟩:=ih2 fun t ht=>ho t (aS _ ht)
  refine ⟨by simp [h1],fun i h h'=>?_⟩
  cases i with
  | zero=>exact ih1 (ho _ (aT ..))
  | succ i=>exact h2 i (by simpa using h) (by simpa using h')
theorem JW {N:Nat} {st:ao} (hg:Good N st) {t u:T} (hr:Res st (.one t u)) (ho:okU N t/\wT t<=1048576) {S:af} {cs:List Value} {sb:Nat} (h:RdT S cs t) (hst:StS S S sb st) :
  Tri Tryz.prog oE [.pointer (some ⟨sb,0,none⟩),.agg cs.toArray] [] S fun q I' S'=>I'=[]/\∃ cs':List Value,cs'.length=4/\(∀ x∈cs',x.oneCell'=true)/\q=.tuple #[.agg cs'.toArray,.bool (cq u)]/\(cq u=true->RdT S' cs' u):=by
 intro w hI
 have hlc:=h.length
 have hI:Inv w [] [] S w:=hI
 have hrc:RC st sb t u:=EY sb hg hr ho
 have e:okR u 1 0=cq u:=by rw [okR,cq,Int.zero_add]; rfl
 refine ml.2 ?_
 dsimp only[ml,aZ]
 refine bt hI fun b3 w' hI=>?_
 refine aV hI aY fun b4 w' hI=>?_
 have hz:fZ Tryz.prog cc=some (.int .i64 0):=by kernel_rfl
 refine aV hI hz fun b6 w' hI=>?_
 refine c8 hI 2 (n:=1) rfl (by decide +kernel) rfl (by simp [Value.cells]) (by simp [Value.cells,Value.oneCell']) fun w' hI=>?_
 have hI:Inv w [] ([.blk b3 (.cells cs.toArray ac),.blk b4 (.cells #[.int .i64 0,.int .i64 0,.string ⟨#[]⟩,.slice none 0 0] ac)]++[.blk b6 (.cells #[.int .i64 0] cc)]) S w':=hI
 refine ar hI 0 ad rfl (by simpa using hlc) ?_
 refine Run.callE ld lf hI (hrc S cs b6 1 0 h hst (by omega) (by omega) (by omega) (by omega)) fun v' I' S2 w'=>?_
 rintro ⟨cs2,c2,rfl,rfl,hl4,ho4,hrd⟩ hE2 hI
 rw [e] at hrd ⊢
 refine aq rfl ?_
 refine aq rfl ?_
 have hI:Inv w [] [.blk b3 (.cells cs.toArray ac),.blk b4 (.cells #[.int .i64 0,.int .i64 0,.string ⟨#[]⟩,.slice none 0 0] ac),.blk b6 (.cells #[.int .i64 c2] cc)] S2 w':=hI
 refine aA hI 1 rfl ad (by simpa using hl4) rfl (by simpa using ho4) fun w' hI=>?_
 refine bC hI 1 ad rfl (by simpa using hl4) ?_
 exact ⟨_,_,_,rfl,hI.nil,hE2,rfl,cs2,hl4,ho4,rfl,fun h=>(hrd h).2⟩
end
end
section
open Go Go.RowKit
mutual
theorem L4:∀ t:T,okU 26 t->okV t
 | .mk k n s ks,h=>by
  rw [okU] at h
  rw [okV]
  exact ⟨fun hk=>by have:=h.2.1 hk; omega,Qf ks h.2.2.1⟩
theorem Qf:∀ ts:List T,de 26 ts->nl ts
 | [],_=>by rw [nl]; trivial
 | t::ts,h=>by
  rw [de] at h
  rw [nl]
  exact ⟨L4 t h.1,Qf ts h.2⟩
end
section
attribute [local irreducible] Run CondV aw aN
theorem Mq {K:Value->World->Prop} {w:World} {mb:Nat} (hk:K (.agg #[.map (some mb),.slice none 0 0]) w):Run Tryz.prog (cU dd [(0,.map (some mb))]) w K:=by
 refine Run.of (v:=.agg #[.map (some mb),.slice none 0 0]) (w':=w) ?_ hk
 unfold cU
 rw [Sem.run_bind,run_build w dd _ #[.map (some mb),.slice none 0 0] (by kernel_rfl),Result.andThen_ok]
 rfl
theorem Gj (S:af):Tri Tryz.prog MG [] [] S fun r I' S'=>S'=S/\∃ sb mb,r=.pointer (some ⟨sb,0,none⟩)/\I'=aG sb mb #[] 0 (.slice none 0 0) []:=by
 intro w hI
 have hI:Inv w [] [] S w:=hI
 refine wh.2 ?_
 dsimp only[wh,oF]
 refine uY hI fun mb w' hI=>?_
 refine Mq ?_
 refine bt hI fun sb w' hI=>?_
 have hI:=hI.rowNil cc 1
 have hI:Inv w [] (aG sb mb #[] 0 (.slice none 0 0) []) S w':=hI.perm (List.Perm.swap ..)
 exact ⟨_,_,_,rfl,hI,Ext.refl _ _ _,rfl,sb,mb,rfl,rfl⟩
theorem KnownM.none (S:af) (N:Nat):KnownM S #[] (List.replicate N Option.none):=by
 refine ⟨fun e he=>by simp at he,fun n t h=>?_,by simp⟩
 have:=b0 h
 simp at this
end
end
section
open Go Go.RowKit
def ac5:ao:=List.replicate 26 none
theorem H8:∀ n:Nat,unb (List.replicate n none)=n
 | 0=>rfl
 | n+1=>by rw [List.replicate_succ,unb,H8 n]
theorem Ky (N:Nat):Good N (List.replicate N none):=⟨by simp,fun t ht=>by simp at ht,fun t ht=>by simp at ht,fun n=>n,fun n u hu=>by
 have:=b0 hu
 simp at this⟩
theorem KnU.zero (z:Array Value) (hz:z=#[.int .i64 0,.int .i64 0,.string ⟨#[]⟩,.slice none 0 0]) (S:af) (N:Nat):KnU S ((Array.range (N * 4)).map (z[· % z.size]!)) (List.replicate N none):=by
 subst hz
 refine ⟨by simp,fun i hi=>⟨fun _=>?_,fun t ht=>?_⟩⟩
 ·simp only [List.length_replicate] at hi
  apply wv
  intro j
  rw [aO,uj]
  match j with
  | 0|1|2|3=>
   rw [ai (by omega),Ax,aaP,Array.getElem?_map,Array.getElem?_range,ai (by omega)]
   simp only [rj,Rz,bu,bQ]
   first
    | rw [show (i * 4+0) % 4=0 by omega]; rfl
    | rw [show (i * 4+1) % 4=1 by omega]; rfl
    | rw [show (i * 4+2) % 4=2 by omega]; rfl
    | rw [show (i * 4+3) % 4=3 by omega]; rfl
  | j+4=>
   rw [ah (by omega)]
   rfl
 ·have e:(List.replicate N (none:Option T))[i]=none:=by simp
  rw [e] at ht
  cases ht
def acP (code:Int) (st:ao):Bool:=decide (code=0) && st.all Option.isNone
section
variable {w:World} {K:Value->World->Prop}
attribute [local irreducible] Run CondV aw aN
end
end
section
open Go Go.RowKit
structure Ch where
 goal:T
 rest:List (T × Int)
 left:List Int
 binds:ao
structure St6 where
 goals:List (T × Int)
 binds:ao
 chs:List Ch
def RdCh (S:af) (cs:List Value) (c:Ch):Prop:=∃ hd g l b,cs=hd++[g,l,b]/\RdT S hd c.goal/\RdSl S 5 (RdG S) g c.rest/\RdSl S 1 i5 l c.left/\RdSl S 4 (RdO S) b c.binds
theorem RdSl.sl {α:Type} {S:af} {k:Nat} {R:List Value->α->Prop} {v:Value} {xs:List α} (h:RdSl S k R v xs):v.oneCell'=true:=by
 obtain ⟨a,m,rfl,_⟩:=h; rfl
theorem RdSl.monoO {S S':af} {v:Value} {st:ao} (hs:Sle S S') (h:RdSl S 4 (RdO S) v st):RdSl S' 4 (RdO S') v st:=h.mono hs fun _ _=>RdO.mono hs
theorem RdCh.length {S:af} {cs:List Value} {c:Ch} (h:RdCh S cs c):cs.length=7:=by
 obtain ⟨hd,g,l,b,rfl,h,_⟩:=h; simp [h.length]
theorem RdCh.one {S:af} {cs:List Value} {c:Ch} (h:RdCh S cs c):∀ u∈cs,u.oneCell'=true:=by
 obtain ⟨hd,g,l,b,rfl,h,h1,h2,h3⟩:=h
 intro u hu
 rcases bJ.1 hu with hu|hu
 ·exact h.one u hu
 ·simp only [bG,lB,lw] at hu
  rcases hu with rfl|rfl|rfl
  ·exact h1.sl
  ·exact h2.sl
  ·exact h3.sl
theorem RdCh.mono {S S':af} {cs:List Value} {c:Ch} (hs:Sle S S') (h:RdCh S cs c):RdCh S' cs c:=by
 obtain ⟨hd,g,l,b,rfl,h,h1,h2,h3⟩:=h
 exact ⟨hd,g,l,b,rfl,h.mono hs,h1.monoG hs,h2.mono hs fun _ _ h=>h,h3.monoO hs⟩
theorem RdSl.monoCh {S S':af} {v:Value} {cs:List Ch} (hs:Sle S S') (h:RdSl S 7 (RdCh S) v cs):RdSl S' 7 (RdCh S') v cs:=h.mono hs fun _ _=>RdCh.mono hs
def RdS6 (S:af) (cs:List Value) (s:St6):Prop:=∃ g b c,cs=[g,b,c]/\RdSl S 5 (RdG S) g s.goals/\RdSl S 4 (RdO S) b s.binds/\RdSl S 7 (RdCh S) c s.chs
theorem RdS6.length {S:af} {cs:List Value} {s:St6} (h:RdS6 S cs s):cs.length=3:=by
 obtain ⟨g,b,c,rfl,_⟩:=h; rfl
theorem RdS6.one {S:af} {cs:List Value} {s:St6} (h:RdS6 S cs s):∀ u∈cs,u.oneCell'=true:=by
 obtain ⟨g,b,c,rfl,h1,h2,h3⟩:=h
 intro u hu
 simp only [bG,lB,lw] at hu
 rcases hu with rfl|rfl|rfl
 ·exact h1.sl
 ·exact h2.sl
 ·exact h3.sl
theorem RdS6.mono {S S':af} {cs:List Value} {s:St6} (hs:Sle S S') (h:RdS6 S cs s):RdS6 S' cs s:=by
 obtain ⟨g,b,c,rfl,h1,h2,h3⟩:=h
 exact ⟨g,b,c,rfl,h1.monoG hs,h2.monoO hs,h3.monoCh hs⟩
section
variable {w:World} {K:Value->World->Prop}
attribute [local irreducible] Run
end
section
attribute [local irreducible] Run CondV aw aN
end
end
end Go.Proofs.YtgllldjiaglkcaaGreatDoor

/- The program's solver of goals that are built in. -/
import Derived.Test.YtfcbhfjomgopbaaGreatZFf8
import Derived.Test.YtfcbhfjomgopbaaGreatZFf9
import Derived.Test.YtfcbhfjomgopbaaGreatZFf7
import Derived.Test.YtfcbhfjomgopbaaGreatZFf6
import Derived.Test.YtfcbhfjomgopbaaGreatZFf5
import Derived.Test.YtfcbhfjomgopbaaGreatZFf2
namespace Go.Proofs.YtfcbhfjomgopbaaGreat
section
open Go Go.RowKit
theorem Pn {k n:Int} {s:ByteArray} {ks:List T} (h:cJ s dL=true):eP (.mk k n s ks)=.done (Kg s (dw ks)):=by
 have h0:=h
 rw [cJ,List.any_eq_true] at h
 obtain ⟨x,hx,hd⟩:=h
 have hd:=of_decide_eq_true hd
 subst hd
 have hne:∀ y∈([gE,g9,nEq,nNe,lH,nIs,zI]:List ByteArray),s≠y:=by
  intro y hy
  simp only [dL,List.mem_cons,List.not_mem_nil,or_false] at hx hy
  rcases hx with rfl|rfl|rfl|rfl|rfl <;> rcases hy with rfl|rfl|rfl|rfl|rfl|rfl|rfl <;> decide +kernel
 have n1:(T.mk k n s ks).name=s:=rfl
 rw [eP,n1,if_neg (hne _ (by simp)),if_neg (hne _ (by simp)),if_neg (hne _ (by simp)),if_neg (hne _ (by simp)),if_neg (hne _ (by simp)),if_neg (hne _ (by simp)),if_neg (hne _ (by simp)),if_pos h0]
 rfl
theorem RdT.f0 {S:ae} {cs:List Value} {t:T} (h:RdT S cs t):cs[0]?=some (.int .i64 t.kind):=by
 obtain ⟨_,rfl,_⟩:=RdT.iff.1 h; rfl
section
variable {w:World} {X:List Nat} {S:ae}
attribute [local irreducible] Run CondV aB aS
theorem p6 (n:Int) (S:ae):Pure Tryz.prog Kc [.int .i64 n] S (.agg #[.int .i64 2,.int .i64 n,.string ⟨#[]⟩,.slice none 0 0]):=by
 intro w hI
 refine yU.2 ?_
 dsimp only[yU,aO]
 refine aG hI aP fun b w' hI=>?_
 refine qe ?_
 refine ao hI 0 rfl ac rfl rfl (by simp [Value.oneCell']) fun w' hI=>?_
 refine aW hI 0 ac rfl rfl ?_
 exact done hI rfl
def Pg (sb mb:Nat) (S:ae) (st:aC) (tr:List Int) (code:Int) (st':aC):Value->List Item->ae->Prop:=fun q I' S'=>S'=S/\q=.int .i64 code/\
 ∃ es' ck' tv' tr',I'=aV sb mb es' ck' tv' tr'/\KnownM S es' st'/\tr'.length+unb st'<=1000000/\Tr st st' tr tr'
set_option maxHeartbeats 1000000 in
theorem Gu {N:Nat} (hN:N<=1000000) {st st':aC} {g:T} {code:Int} (hg:Good N st) (ho:okU N g/\wT g<=1048576) (hn:okN g) (hb:cM g=true) (hB:Blt st g code st')
  {S:ae} {cs:List Value} {sb mb ck:Nat} {es:Array MapEntry} {tv:Value} {tr:List Int} (h:RdT S cs g) (hkm:KnownM S es st) (htr:tr.length+unb st<=1000000) :
  Tri Tryz.prog AN [.pointer (some ⟨sb,0,none⟩),.agg cs.toArray] (aV sb mb es ck tv tr) S (Pg sb mb S st tr code st'):=by
 intro w hI
 have hgl:=h
 obtain ⟨k,n,s,ks⟩:=g
 obtain ⟨kv,rfl,_,_,_,hks⟩:=RdT.iff.1 h
 have hbj:=Ae hb ho
 rw [cM,Bool.and_eq_true] at hb
 obtain ⟨hk3,hbs⟩:=hb
 rw [okN] at hn
 simp only [T.name,T.kids,T.kind,T.n] at hks hbs hgl hk3 ⊢
 obtain ⟨X,hX⟩:∃ X,X=bE (aV sb mb es ck tv tr):=⟨_,rfl⟩
 rw [<- hX] at hI ⊢
 unfold Blt at hB
 clear h
 refine oV.2 ?_
 dsimp only[oV,aX]
 refine be hI fun b3 w' hI=>?_
 have hI:Inv w X ([.blk b3 (.cells #[.int .i64 k,.int .i64 n,.string s,kv] ab)]++aV sb mb es ck tv tr) S w':=hI.perm List.perm_append_comm
 have fin:∀ {w':World} {L:List Item} {j:BJ} (c:Int),j=.done c->BltJ st j code st'->Inv w X L S w'->List.Sublist (aV sb mb es ck tv tr) L->
   ∃ v' I' S',Ending.returned (.int .i64 c)=.returned v'/\Inv w X I' S' w'/\Ext w.heap.size X S S'/\Pg sb mb S st tr code st' v' I' S':=by
  intro w' L j c hj hB hI hs
  subst hj
  obtain ⟨rfl,rfl⟩:=hB
  exact ⟨_,_,S,rfl,hI.sub hs,Ext.refl _ _ _,rfl,rfl,es,ck,tv,tr,rfl,hkm,htr,Tr.refl _ _⟩
 have sub1:∀ it:Item,List.Sublist (aV sb mb es ck tv tr) ([it]++aV sb mb es ck tv tr):=fun it=>List.sublist_append_right [it] _
 refine aq hI 0 ac rfl rfl ?_
 refine Run.callPure CY C7 hI (xt hgl) fun w' hI=>?_
 have hcg:QC (.mk k n s ks)=(decide (ks.length=2) && cJ s dL):=by
  unfold QC
  rw [show decide ((T.mk k n s ks).kind=3)=true from hk3]
  rfl
 rw [hcg]
 refine az (fun hc=>?_) (fun hc=>?_)
 ·rw [Bool.and_eq_true,decide_eq_true_eq] at hc
  refine aq hI 0 ac rfl rfl ?_
  refine Run.callPure DF CZ hI (xH hgl hc.1 hn.2) fun w' hI=>?_
  exact fin _ (Pn hc.2) hB hI (sub1 _)
 have hcn:cJ s dL=false:=by
  cases hx:cJ s dL
  ·rfl
  ·have:=gA (Mq hx) hbs
   rw [hx,decide_eq_true (show ks.length=2 by omega)] at hc
   cases hc
 refine ad hI 0 rfl al ag rfl ?_
 refine ad hI 0 rfl aM aJ rfl ?_
 refine bf ?_
 refine aI (fun h=>fin 0 (by rw [eP,if_pos (show (T.mk k n s ks).name=gE from h)]) hB hI (sub1 _)) (fun h0=>?_)
 refine bf ?_
 refine aI (fun h=>fin 1 (by rw [eP,if_neg (show ¬ (T.mk k n s ks).name=gE from h0),if_pos (show (T.mk k n s ks).name=g9 from h)]) hB hI (sub1 _)) (fun h1=>?_)
 refine bf ?_
 refine aI (fun h=>?_) (fun h2=>?_)
 ·obtain ⟨x,y,rfl⟩:=jS (l:=ks) (by have:=gA (by rw [h]; decide +kernel) hbs; omega)
  have hj:eP (.mk k n s [x,y])=.uni x y:=by
   rw [eP,if_neg (show ¬ (T.mk k n s [x,y]).name=gE from h0),if_neg (show ¬ (T.mk k n s [x,y]).name=g9 from h1),if_pos (show (T.mk k n s [x,y]).name=nEq from h)]
   rfl
  rw [hj] at hB hbj
  obtain ⟨b,o,cap,c,E,fz,rfl,hSb,hR⟩:=hks.ptr (by simp)
  obtain ⟨r,hu,rfl⟩:=hB
  have hjj:okJ N (.one x y):=hbj
  refine ⟨fun D x4 oE jM jd lw iB mJ nh hY mY w_=>Fx D 0 [mY=.pointer (some ⟨sb,0,none⟩),hY=.slice (some ⟨b,o,none⟩) [x,y].length cap,nh=.pointer (some ⟨b,o+0 * 4,none⟩),mJ=.agg (aH c (o+0 * 4) 4).toArray,iB=.slice (some ⟨b,o,none⟩) [x,y].length cap,lw=.pointer (some ⟨b,o+1 * 4,none⟩),jd=.agg (aH c (o+1 * 4) 4).toArray,jM=.bool r,oE=.int .i64 (dY r),x4=.int .i64 (dY r)]/\(D 7=false->Inv w X ([.blk b3 (.cells #[.int .i64 k,.int .i64 n,.string s,.slice (some ⟨b,o,none⟩) [x,y].length cap] ab)]++aV sb mb es ck tv tr) S w_)/\(D 7=true->∃ es1 ck1 tv1 tr1,KnownM S es1 st'/\tr1.length+unb st'<=1000000/\Tr st st' tr tr1/\Inv w X ([.blk b3 (.cells #[.int .i64 k,.int .i64 n,.string s,.slice (some ⟨b,o,none⟩) [x,y].length cap] ab)]++aV sb mb es1 ck1 tv1 tr1) S w_)/\∃ es3 ck3 tv3 tr3,Inv w X ([.blk b3 (.cells #[.int .i64 k,.int .i64 n,.string s,.slice (some ⟨b,o,none⟩) [x,y].length cap] ab)]++aV sb mb es3 ck3 tv3 tr3) S w_,⟨Fx.nil _ _,⟨fun _=>hI.draw,aU,es,ck,tv,tr,hI.draw⟩⟩,⟨?_,?_,?_,?_,?_,?_,?_,?_,?_,?_,trivial⟩,?_⟩
  all_goals (intro D bo; intros; rename_i x4 oE jM jd lw iB mJ nh hY mY w_ hA_; have hF_:=hA_.1; obtain ⟨⟨bU,bV,bH,bR,bZ,bI,bB,ct,cF,cK,_⟩,⟨hI0,hI1,es3,ck3,tv3,tr3,hI⟩⟩:=hA_)
  ·exact ⟨hF_.set 0 rfl,⟨hI0,hI1,es3,ck3,tv3,tr3,hI⟩⟩
  ·exact ⟨hF_.set 1 rfl,⟨hI0,hI1,es3,ck3,tv3,tr3,hI⟩⟩
  ·obtain rfl:=bV ‹_›
   refine au (i:=0) af (by simp) ?_
   exact ⟨hF_.set 2 rfl,⟨hI0,hI1,es3,ck3,tv3,tr3,hI⟩⟩
  ·obtain rfl:=bH ‹_›
   refine bw ac (RdT.length (hR 0 (by simp))) (fun j v hj=>by rw [hI.cellS hSb]; exact ar rfl j v hj) ?_
   exact ⟨hF_.set 3 rfl,⟨hI0,hI1,es3,ck3,tv3,tr3,hI⟩⟩
  ·exact ⟨hF_.set 4 rfl,⟨hI0,hI1,es3,ck3,tv3,tr3,hI⟩⟩
  ·obtain rfl:=bZ ‹_›
   refine au (i:=1) af (by simp) ?_
   exact ⟨hF_.set 5 rfl,⟨hI0,hI1,es3,ck3,tv3,tr3,hI⟩⟩
  ·obtain rfl:=bI ‹_›
   refine bw ac (RdT.length (hR 1 (by simp))) (fun j v hj=>by rw [hI.cellS hSb]; exact ar rfl j v hj) ?_
   exact ⟨hF_.set 6 rfl,⟨hI0,hI1,es3,ck3,tv3,tr3,hI⟩⟩
  ·obtain rfl:=bU ‹_›
   obtain rfl:=bR ‹_›
   obtain rfl:=bB ‹_›
   refine Run.callE (A:=[_]) eT eZ (hI0 bo) (ja hN hg hjj hu S _ _ sb mb ck es tv tr (hR 0 (by simp)) (hR 1 (by simp)) hkm htr) fun v' I' S' w_=>?_
   rintro ⟨eS,rfl,es1,ck1,tv1,tr1,rfl,hm1,htr1,hT1⟩ _ hI
   rw [eS] at hI
   have hI0:=fun (h:aF D 7 7=false)=>(Bool.noConfusion h:Inv w X ([.blk b3 (.cells #[.int .i64 k,.int .i64 n,.string s,.slice (some ⟨b,o,none⟩) [x,y].length cap] ab)]++aV sb mb es ck tv tr) S w_)
   have hI1:=fun (_:aF D 7 7=true)=>(⟨es1,ck1,tv1,tr1,hm1,htr1,hT1,hI⟩:∃ es1 ck1 tv1 tr1,KnownM S es1 st'/\tr1.length+unb st'<=1000000/\Tr st st' tr tr1/\Inv w X ([.blk b3 (.cells #[.int .i64 k,.int .i64 n,.string s,.slice (some ⟨b,o,none⟩) [x,y].length cap] ab)]++aV sb mb es1 ck1 tv1 tr1) S w_)
   obtain ⟨es3,ck3,tv3,tr3,hI⟩:∃ es3 ck3 tv3 tr3,Inv w X ([.blk b3 (.cells #[.int .i64 k,.int .i64 n,.string s,.slice (some ⟨b,o,none⟩) [x,y].length cap] ab)]++aV sb mb es3 ck3 tv3 tr3) S w_:=⟨es1,ck1,tv1,tr1,hI⟩
   exact ⟨hF_.set 7 rfl,⟨hI0,hI1,es3,ck3,tv3,tr3,hI⟩⟩
  ·obtain rfl:=ct ‹_›
   obtain ⟨es1,ck1,tv1,tr1,hm1,htr1,hT1,hI⟩:=hI1 ‹D 7=true›
   refine Run.callPure fn_i_holds nm_i_holds hI (dy r S) fun w_ hI=>?_
   have hI0:=fun (h:aF D 8 7=false)=>(Bool.noConfusion (h.symm.trans (show aF D 8 7=true from ‹D 7=true›)):Inv w X ([.blk b3 (.cells #[.int .i64 k,.int .i64 n,.string s,.slice (some ⟨b,o,none⟩) [x,y].length cap] ab)]++aV sb mb es ck tv tr) S w_)
   have hI1:=fun (_:aF D 8 7=true)=>(⟨es1,ck1,tv1,tr1,hm1,htr1,hT1,hI⟩:∃ es1 ck1 tv1 tr1,KnownM S es1 st'/\tr1.length+unb st'<=1000000/\Tr st st' tr tr1/\Inv w X ([.blk b3 (.cells #[.int .i64 k,.int .i64 n,.string s,.slice (some ⟨b,o,none⟩) [x,y].length cap] ab)]++aV sb mb es1 ck1 tv1 tr1) S w_)
   obtain ⟨es3,ck3,tv3,tr3,hI⟩:∃ es3 ck3 tv3 tr3,Inv w X ([.blk b3 (.cells #[.int .i64 k,.int .i64 n,.string s,.slice (some ⟨b,o,none⟩) [x,y].length cap] ab)]++aV sb mb es3 ck3 tv3 tr3) S w_:=⟨es1,ck1,tv1,tr1,hI⟩
   exact ⟨hF_.set 8 rfl,⟨hI0,hI1,es3,ck3,tv3,tr3,hI⟩⟩
  ·obtain rfl:=cF ‹_›
   exact ⟨hF_.set 9 rfl,⟨hI0,hI1,es3,ck3,tv3,tr3,hI⟩⟩
  obtain ⟨rfl,rfl,rfl,rfl,rfl,rfl,rfl,rfl,rfl,rfl,_⟩:=hF_.all
  have vG:D 7=true:=by assumption
  clear hF_ bU bV bH bR bZ bI bB ct cF cK
  obtain ⟨es1,ck1,tv1,tr1,hm1,htr1,hT1,hI⟩:=hI1 vG
  exact ⟨_,_,S,rfl,hI.sub (List.sublist_append_right [_] _),Ext.refl _ _ _,rfl,rfl,es1,ck1,tv1,tr1,rfl,hm1,htr1,hT1⟩
 refine bf ?_
 refine aI (fun h=>?_) (fun h3=>?_)
 ·obtain ⟨x,y,rfl⟩:=jS (l:=ks) (by have:=gA (by rw [h]; decide +kernel) hbs; omega)
  have hj:eP (.mk k n s [x,y])=.not x y:=by
   rw [eP,if_neg (show ¬ (T.mk k n s [x,y]).name=gE from h0),if_neg (show ¬ (T.mk k n s [x,y]).name=g9 from h1),if_neg (show ¬ (T.mk k n s [x,y]).name=nEq from h2),if_pos (show (T.mk k n s [x,y]).name=nNe from h)]
   rfl
  rw [hj] at hB hbj
  obtain ⟨b,o,cap,c,E,fz,rfl,hSb,hR⟩:=hks.ptr (by simp)
  obtain ⟨rfl,r,st1,hu,rfl⟩:=hB
  have hjj:okJ N (.one x y):=hbj
  refine bD ?_
  refine ad hI 1 rfl ge eG rfl ?_
  obtain ⟨ta,tn,tc,htv⟩:=hI.rowSlice 3 rfl
  have htn:tn=tr.length:=by
   have hm:w'.ownsRow 0 cD 1 tv tr.length (ints tr):=hI.its (dZ tv tr) (by simp [aV])
   rcases hm.2 with ⟨e1,e2⟩|⟨g1,c1,u1,e1,_⟩
   ·rw [htv] at e1; simp only [Value.slice.injEq] at e1; omega
   ·rw [htv] at e1; simp only [Value.slice.injEq] at e1; omega
  obtain rfl:=htn
  rw [htv]
  refine dX cQ ?_
  refine ⟨fun D x7 jK mh kw lW jJ j1 jG na w_=>Fx D 0 [na=.pointer (some ⟨sb,0,none⟩),jG=.slice (some ⟨b,o,none⟩) [x,y].length cap,j1=.pointer (some ⟨b,o+0 * 4,none⟩),jJ=.agg (aH c (o+0 * 4) 4).toArray,lW=.slice (some ⟨b,o,none⟩) [x,y].length cap,kw=.pointer (some ⟨b,o+1 * 4,none⟩),mh=.agg (aH c (o+1 * 4) 4).toArray,jK=.bool r,x7=.bool r]/\(D 7=false->Inv w X ([.blk b3 (.cells #[.int .i64 k,.int .i64 n,.string s,.slice (some ⟨b,o,none⟩) [x,y].length cap] ab)]++aV sb mb es ck tv tr) S w_)/\(D 7=true->∃ es1 ck1 tv1 tr1,KnownM S es1 st1/\tr1.length+unb st1<=1000000/\Tr st' st1 tr tr1/\Inv w X ([.blk b3 (.cells #[.int .i64 k,.int .i64 n,.string s,.slice (some ⟨b,o,none⟩) [x,y].length cap] ab)]++aV sb mb es1 ck1 tv1 tr1) S w_)/\∃ es3 ck3 tv3 tr3,Inv w X ([.blk b3 (.cells #[.int .i64 k,.int .i64 n,.string s,.slice (some ⟨b,o,none⟩) [x,y].length cap] ab)]++aV sb mb es3 ck3 tv3 tr3) S w_,⟨Fx.nil _ _,⟨fun _=>hI.draw,aU,es,ck,tv,tr,hI.draw⟩⟩,⟨?_,?_,?_,?_,?_,?_,?_,?_,?_,trivial⟩,?_⟩
  all_goals (intro D bo; intros; rename_i x7 jK mh kw lW jJ j1 jG na w_ hA_; have hF_:=hA_.1; obtain ⟨⟨bU,bV,bH,bR,bZ,bI,bB,ct,cF,_⟩,⟨hI0,hI1,es3,ck3,tv3,tr3,hI⟩⟩:=hA_)
  ·exact ⟨hF_.set 0 rfl,⟨hI0,hI1,es3,ck3,tv3,tr3,hI⟩⟩
  ·exact ⟨hF_.set 1 rfl,⟨hI0,hI1,es3,ck3,tv3,tr3,hI⟩⟩
  ·obtain rfl:=bV ‹_›
   refine au (i:=0) af (by simp) ?_
   exact ⟨hF_.set 2 rfl,⟨hI0,hI1,es3,ck3,tv3,tr3,hI⟩⟩
  ·obtain rfl:=bH ‹_›
   refine bw ac (RdT.length (hR 0 (by simp))) (fun j v hj=>by rw [hI.cellS hSb]; exact ar rfl j v hj) ?_
   exact ⟨hF_.set 3 rfl,⟨hI0,hI1,es3,ck3,tv3,tr3,hI⟩⟩
  ·exact ⟨hF_.set 4 rfl,⟨hI0,hI1,es3,ck3,tv3,tr3,hI⟩⟩
  ·obtain rfl:=bZ ‹_›
   refine au (i:=1) af (by simp) ?_
   exact ⟨hF_.set 5 rfl,⟨hI0,hI1,es3,ck3,tv3,tr3,hI⟩⟩
  ·obtain rfl:=bI ‹_›
   refine bw ac (RdT.length (hR 1 (by simp))) (fun j v hj=>by rw [hI.cellS hSb]; exact ar rfl j v hj) ?_
   exact ⟨hF_.set 6 rfl,⟨hI0,hI1,es3,ck3,tv3,tr3,hI⟩⟩
  ·obtain rfl:=bU ‹_›
   obtain rfl:=bR ‹_›
   obtain rfl:=bB ‹_›
   refine Run.callE (A:=[_]) eT eZ (hI0 bo) (ja hN hg hjj hu S _ _ sb mb ck es tv tr (hR 0 (by simp)) (hR 1 (by simp)) hkm htr) fun v' I' S' w_=>?_
   rintro ⟨eS,rfl,es1,ck1,tv1,tr1,rfl,hm1,htr1,hT1⟩ _ hI
   rw [eS] at hI
   have hI0:=fun (h:aF D 7 7=false)=>(Bool.noConfusion h:Inv w X ([.blk b3 (.cells #[.int .i64 k,.int .i64 n,.string s,.slice (some ⟨b,o,none⟩) [x,y].length cap] ab)]++aV sb mb es ck tv tr) S w_)
   have hI1:=fun (_:aF D 7 7=true)=>(⟨es1,ck1,tv1,tr1,hm1,htr1,hT1,hI⟩:∃ es1 ck1 tv1 tr1,KnownM S es1 st1/\tr1.length+unb st1<=1000000/\Tr st' st1 tr tr1/\Inv w X ([.blk b3 (.cells #[.int .i64 k,.int .i64 n,.string s,.slice (some ⟨b,o,none⟩) [x,y].length cap] ab)]++aV sb mb es1 ck1 tv1 tr1) S w_)
   obtain ⟨es3,ck3,tv3,tr3,hI⟩:∃ es3 ck3 tv3 tr3,Inv w X ([.blk b3 (.cells #[.int .i64 k,.int .i64 n,.string s,.slice (some ⟨b,o,none⟩) [x,y].length cap] ab)]++aV sb mb es3 ck3 tv3 tr3) S w_:=⟨es1,ck1,tv1,tr1,hI⟩
   exact ⟨hF_.set 7 rfl,⟨hI0,hI1,es3,ck3,tv3,tr3,hI⟩⟩
  ·obtain rfl:=ct ‹_›
   exact ⟨hF_.set 8 rfl,⟨hI0,hI1,es3,ck3,tv3,tr3,hI⟩⟩
  obtain ⟨rfl,rfl,rfl,rfl,rfl,rfl,rfl,rfl,rfl,_⟩:=hF_.all
  have vG:D 7=true:=by assumption
  clear hF_ bU bV bH bR bZ bI bB ct cF
  obtain ⟨es1,ck1,tv1,tr1,hm1,htr1,⟨ns,rfl,hun,hns⟩,hI⟩:=hI1 vG
  have hd1:(tr++ns).drop tr.length=ns:=by rw [List.drop_left]
  have hd2:(tr++ns).take tr.length=tr:=by rw [List.take_left]
  refine Run.callE (A:=[_]) zu zt hI (Kh (mark:=tr.length) hm1 (by simp) (by rw [hd1]; intro n hn; obtain ⟨j,rfl,_⟩:=hns n hn; omega) (by omega)) fun v' I' S' w'=>?_
  rintro ⟨eS,rfl,es2,tv2,rfl,hm2⟩ _ hI
  rw [eS] at hI
  rw [hd1,hun] at hm2
  rw [hd2] at hI
  refine bM ?_
  refine Run.callPure fn_i_holds nm_i_holds hI (dy (!r) S) fun w' hI=>?_
  exact ⟨_,_,S,rfl,hI.sub (List.sublist_append_right [_] _),Ext.refl _ _ _,rfl,rfl,es2,ck1,tv2,tr,rfl,hm2,htr,Tr.refl _ _⟩
 refine bf ?_
 refine aI (fun h=>?_) (fun h4=>?_)
 ·obtain ⟨x,y,rfl⟩:=jS (l:=ks) (by have:=gA (by rw [h]; decide +kernel) hbs; omega)
  have hj:eP (.mk k n s [x,y])=.done (dY (eqT x y)):=by
   rw [eP,if_neg (show ¬ (T.mk k n s [x,y]).name=gE from h0),if_neg (show ¬ (T.mk k n s [x,y]).name=g9 from h1),if_neg (show ¬ (T.mk k n s [x,y]).name=nEq from h2),if_neg (show ¬ (T.mk k n s [x,y]).name=nNe from h3),if_pos (show (T.mk k n s [x,y]).name=lH from h)]
   rfl
  rw [hj] at hB hbj
  obtain ⟨b,o,cap,c,E,fz,rfl,hSb,hR⟩:=hks.ptr (by simp)
  refine ⟨fun D x4 tH tK vZ tN tM sY rH tE w_=>Fx D 0 [tE=.slice (some ⟨b,o,none⟩) [x,y].length cap,rH=.pointer (some ⟨b,o+0 * 4,none⟩),sY=.agg (aH c (o+0 * 4) 4).toArray,tM=.slice (some ⟨b,o,none⟩) [x,y].length cap,tN=.pointer (some ⟨b,o+1 * 4,none⟩),vZ=.agg (aH c (o+1 * 4) 4).toArray,tK=.bool (eqT x y),tH=.int .i64 (dY (eqT x y)),x4=.int .i64 (dY (eqT x y))]/\Inv w X ([.blk b3 (.cells #[.int .i64 k,.int .i64 n,.string s,.slice (some ⟨b,o,none⟩) [x,y].length cap] ab)]++aV sb mb es ck tv tr) S w_,⟨Fx.nil _ _,hI.draw⟩,⟨?_,?_,?_,?_,?_,?_,?_,?_,?_,trivial⟩,?_⟩
  all_goals (intro D bo; intros; rename_i x4 tH tK vZ tN tM sY rH tE w_ hA_; have hF_:=hA_.1; obtain ⟨⟨bU,bV,bH,bR,bZ,bI,bB,ct,cF,_⟩,hI⟩:=hA_)
  ·exact ⟨hF_.set 0 rfl,hI⟩
  ·obtain rfl:=bU ‹_›
   refine au (i:=0) af (by simp) ?_
   exact ⟨hF_.set 1 rfl,hI⟩
  ·obtain rfl:=bV ‹_›
   refine bw ac (RdT.length (hR 0 (by simp))) (fun j v hj=>by rw [hI.cellS hSb]; exact ar rfl j v hj) ?_
   exact ⟨hF_.set 2 rfl,hI⟩
  ·exact ⟨hF_.set 3 rfl,hI⟩
  ·obtain rfl:=bR ‹_›
   refine au (i:=1) af (by simp) ?_
   exact ⟨hF_.set 4 rfl,hI⟩
  ·obtain rfl:=bZ ‹_›
   refine bw ac (RdT.length (hR 1 (by simp))) (fun j v hj=>by rw [hI.cellS hSb]; exact ar rfl j v hj) ?_
   exact ⟨hF_.set 5 rfl,hI⟩
  ·obtain rfl:=bH ‹_›
   obtain rfl:=bI ‹_›
   refine Run.callPure mz mC hI (mL x y S _ _ (hR 0 (by simp)) (hR 1 (by simp))) fun w_ hI=>?_
   exact ⟨hF_.set 6 rfl,hI⟩
  ·obtain rfl:=bB ‹_›
   refine Run.callPure fn_i_holds nm_i_holds hI (dy _ S) fun w_ hI=>?_
   exact ⟨hF_.set 7 rfl,hI⟩
  ·obtain rfl:=ct ‹_›
   exact ⟨hF_.set 8 rfl,hI⟩
  obtain ⟨rfl,rfl,rfl,rfl,rfl,rfl,rfl,rfl,rfl,_⟩:=hF_.all
  clear hF_ bU bV bH bR bZ bI bB ct cF
  exact fin _ rfl hB hI (sub1 _)
 refine bf ?_
 refine aI (fun h=>?_) (fun h5=>?_)
 ·obtain ⟨x,y,rfl⟩:=jS (l:=ks) (by have:=gA (by rw [h]; decide +kernel) hbs; omega)
  have hj:eP (.mk k n s [x,y])=if (cj y).2≠0 then .done (cj y).2 else .uni x (Du (cj y).1):=by
   rw [eP,if_neg (show ¬ (T.mk k n s [x,y]).name=gE from h0),if_neg (show ¬ (T.mk k n s [x,y]).name=g9 from h1),if_neg (show ¬ (T.mk k n s [x,y]).name=nEq from h2),if_neg (show ¬ (T.mk k n s [x,y]).name=nNe from h3),if_neg (show ¬ (T.mk k n s [x,y]).name=lH from h4),if_pos (show (T.mk k n s [x,y]).name=nIs from h)]
   rfl
  rw [hj] at hB hbj
  obtain ⟨b,o,cap,c,E,fz,rfl,hSb,hR⟩:=hks.ptr (by simp)
  have ny:=fg hn.2 y (by simp)
  refine ch (i:=1) hI hks af ac (by simp) (fun _ _=>RdT.length) fun ds hds=>?_
  refine Run.callPure kO kS hI (mv y S ds hds ny) fun w' hI=>?_
  refine aj (v:=.int .i64 _) rfl ?_
  refine aj (v:=.int .i64 _) rfl ?_
  refine cE ?_
  refine az (fun h6=>?_) (fun h6=>?_)
  ·simp at h6
   exact fin _ (if_pos h6) hB hI (sub1 _)
  simp at h6
  rw [if_neg (by simp [h6])] at hB hbj
  obtain ⟨r,hu,rfl⟩:=hB
  have hjj:okJ N (.one x (Du (cj y).1)):=hbj
  have hsm:=lj y ny
  unfold Sm at hsm
  refine ⟨fun D x4 vH yY xb yc yk vh qu yB w_=>Fx D 0 [yB=.pointer (some ⟨sb,0,none⟩),qu=.slice (some ⟨b,o,none⟩) [x,y].length cap,vh=.pointer (some ⟨b,o+0 * 4,none⟩),yk=.agg (aH c (o+0 * 4) 4).toArray,yc=.int .i64 (cj y).1,xb=.agg #[.int .i64 2,.int .i64 (cj y).1,.string ⟨#[]⟩,.slice none 0 0],yY=.bool r,vH=.int .i64 (dY r),x4=.int .i64 (dY r)]/\(D 6=false->Inv w X ([.blk b3 (.cells #[.int .i64 k,.int .i64 n,.string s,.slice (some ⟨b,o,none⟩) [x,y].length cap] ab)]++aV sb mb es ck tv tr) S w_)/\(D 6=true->∃ es1 ck1 tv1 tr1,KnownM S es1 st'/\tr1.length+unb st'<=1000000/\Tr st st' tr tr1/\Inv w X ([.blk b3 (.cells #[.int .i64 k,.int .i64 n,.string s,.slice (some ⟨b,o,none⟩) [x,y].length cap] ab)]++aV sb mb es1 ck1 tv1 tr1) S w_)/\∃ es3 ck3 tv3 tr3,Inv w X ([.blk b3 (.cells #[.int .i64 k,.int .i64 n,.string s,.slice (some ⟨b,o,none⟩) [x,y].length cap] ab)]++aV sb mb es3 ck3 tv3 tr3) S w_,⟨Fx.nil _ _,⟨fun _=>hI.draw,aU,es,ck,tv,tr,hI.draw⟩⟩,⟨?_,?_,?_,?_,?_,?_,?_,?_,?_,trivial⟩,?_⟩
  all_goals (intro D bo; intros; rename_i x4 vH yY xb yc yk vh qu yB w_ hA_; have hF_:=hA_.1; obtain ⟨⟨bU,bV,bH,bR,bZ,bI,bB,ct,cF,_⟩,⟨hI0,hI1,es3,ck3,tv3,tr3,hI⟩⟩:=hA_)
  ·exact ⟨hF_.set 0 rfl,⟨hI0,hI1,es3,ck3,tv3,tr3,hI⟩⟩
  ·exact ⟨hF_.set 1 rfl,⟨hI0,hI1,es3,ck3,tv3,tr3,hI⟩⟩
  ·obtain rfl:=bV ‹_›
   refine au (i:=0) af (by simp) ?_
   exact ⟨hF_.set 2 rfl,⟨hI0,hI1,es3,ck3,tv3,tr3,hI⟩⟩
  ·obtain rfl:=bH ‹_›
   refine bw ac (RdT.length (hR 0 (by simp))) (fun j v hj=>by rw [hI.cellS hSb]; exact ar rfl j v hj) ?_
   exact ⟨hF_.set 3 rfl,⟨hI0,hI1,es3,ck3,tv3,tr3,hI⟩⟩
  ·exact ⟨hF_.set 4 rfl,⟨hI0,hI1,es3,ck3,tv3,tr3,hI⟩⟩
  ·obtain rfl:=bZ ‹_›
   have f6:D 6=D 6:=rfl
   cases f6v:D 6
   ·refine Run.callPure zh yg (hI0 f6v) (p6 _ S) fun w_ hI=>?_
    have hI0:=fun (_:aF D 5 6=false)=>hI
    have hI1:=fun (h:aF D 5 6=true)=>(Bool.noConfusion (f6v.symm.trans h):∃ es1 ck1 tv1 tr1,KnownM S es1 st'/\tr1.length+unb st'<=1000000/\Tr st st' tr tr1/\Inv w X ([.blk b3 (.cells #[.int .i64 k,.int .i64 n,.string s,.slice (some ⟨b,o,none⟩) [x,y].length cap] ab)]++aV sb mb es1 ck1 tv1 tr1) S w_)
    obtain ⟨es3,ck3,tv3,tr3,hI⟩:∃ es3 ck3 tv3 tr3,Inv w X ([.blk b3 (.cells #[.int .i64 k,.int .i64 n,.string s,.slice (some ⟨b,o,none⟩) [x,y].length cap] ab)]++aV sb mb es3 ck3 tv3 tr3) S w_:=⟨es,ck,tv,tr,hI⟩
    exact ⟨hF_.set 5 rfl,⟨hI0,hI1,es3,ck3,tv3,tr3,hI⟩⟩
   obtain ⟨es1,ck1,tv1,tr1,hm1,htr1,hT1,hI⟩:=hI1 f6v
   refine Run.callPure zh yg hI (p6 _ S) fun w_ hI=>?_
   have hI0:=fun (h:aF D 5 6=false)=>(Bool.noConfusion (h.symm.trans f6v):Inv w X ([.blk b3 (.cells #[.int .i64 k,.int .i64 n,.string s,.slice (some ⟨b,o,none⟩) [x,y].length cap] ab)]++aV sb mb es ck tv tr) S w_)
   have hI1:=fun (_:aF D 5 6=true)=>(⟨es1,ck1,tv1,tr1,hm1,htr1,hT1,hI⟩:∃ es1 ck1 tv1 tr1,KnownM S es1 st'/\tr1.length+unb st'<=1000000/\Tr st st' tr tr1/\Inv w X ([.blk b3 (.cells #[.int .i64 k,.int .i64 n,.string s,.slice (some ⟨b,o,none⟩) [x,y].length cap] ab)]++aV sb mb es1 ck1 tv1 tr1) S w_)
   obtain ⟨es3,ck3,tv3,tr3,hI⟩:∃ es3 ck3 tv3 tr3,Inv w X ([.blk b3 (.cells #[.int .i64 k,.int .i64 n,.string s,.slice (some ⟨b,o,none⟩) [x,y].length cap] ab)]++aV sb mb es3 ck3 tv3 tr3) S w_:=⟨es1,ck1,tv1,tr1,hI⟩
   exact ⟨hF_.set 5 rfl,⟨hI0,hI1,es3,ck3,tv3,tr3,hI⟩⟩
  ·obtain rfl:=bU ‹_›
   obtain rfl:=bR ‹_›
   obtain rfl:=bI ‹_›
   refine Run.callE (A:=[_]) eT eZ (hI0 bo) (ja hN hg hjj hu S _ _ sb mb ck es tv tr (hR 0 (by simp)) (np (by simp [inI]) (by simp only [inI]; omega)) hkm htr) fun v' I' S' w_=>?_
   rintro ⟨eS,rfl,es1,ck1,tv1,tr1,rfl,hm1,htr1,hT1⟩ _ hI
   rw [eS] at hI
   have hI0:=fun (h:aF D 6 6=false)=>(Bool.noConfusion h:Inv w X ([.blk b3 (.cells #[.int .i64 k,.int .i64 n,.string s,.slice (some ⟨b,o,none⟩) [x,y].length cap] ab)]++aV sb mb es ck tv tr) S w_)
   have hI1:=fun (_:aF D 6 6=true)=>(⟨es1,ck1,tv1,tr1,hm1,htr1,hT1,hI⟩:∃ es1 ck1 tv1 tr1,KnownM S es1 st'/\tr1.length+unb st'<=1000000/\Tr st st' tr tr1/\Inv w X ([.blk b3 (.cells #[.int .i64 k,.int .i64 n,.string s,.slice (some ⟨b,o,none⟩) [x,y].length cap] ab)]++aV sb mb es1 ck1 tv1 tr1) S w_)
   obtain ⟨es3,ck3,tv3,tr3,hI⟩:∃ es3 ck3 tv3 tr3,Inv w X ([.blk b3 (.cells #[.int .i64 k,.int .i64 n,.string s,.slice (some ⟨b,o,none⟩) [x,y].length cap] ab)]++aV sb mb es3 ck3 tv3 tr3) S w_:=⟨es1,ck1,tv1,tr1,hI⟩
   exact ⟨hF_.set 6 rfl,⟨hI0,hI1,es3,ck3,tv3,tr3,hI⟩⟩
  ·obtain rfl:=bB ‹_›
   obtain ⟨es1,ck1,tv1,tr1,hm1,htr1,hT1,hI⟩:=hI1 ‹D 6=true›
   refine Run.callPure fn_i_holds nm_i_holds hI (dy r S) fun w_ hI=>?_
   have hI0:=fun (h:aF D 7 6=false)=>(Bool.noConfusion (h.symm.trans (show aF D 7 6=true from ‹D 6=true›)):Inv w X ([.blk b3 (.cells #[.int .i64 k,.int .i64 n,.string s,.slice (some ⟨b,o,none⟩) [x,y].length cap] ab)]++aV sb mb es ck tv tr) S w_)
   have hI1:=fun (_:aF D 7 6=true)=>(⟨es1,ck1,tv1,tr1,hm1,htr1,hT1,hI⟩:∃ es1 ck1 tv1 tr1,KnownM S es1 st'/\tr1.length+unb st'<=1000000/\Tr st st' tr tr1/\Inv w X ([.blk b3 (.cells #[.int .i64 k,.int .i64 n,.string s,.slice (some ⟨b,o,none⟩) [x,y].length cap] ab)]++aV sb mb es1 ck1 tv1 tr1) S w_)
   obtain ⟨es3,ck3,tv3,tr3,hI⟩:∃ es3 ck3 tv3 tr3,Inv w X ([.blk b3 (.cells #[.int .i64 k,.int .i64 n,.string s,.slice (some ⟨b,o,none⟩) [x,y].length cap] ab)]++aV sb mb es3 ck3 tv3 tr3) S w_:=⟨es1,ck1,tv1,tr1,hI⟩
   exact ⟨hF_.set 7 rfl,⟨hI0,hI1,es3,ck3,tv3,tr3,hI⟩⟩
  ·obtain rfl:=ct ‹_›
   exact ⟨hF_.set 8 rfl,⟨hI0,hI1,es3,ck3,tv3,tr3,hI⟩⟩
  obtain ⟨rfl,rfl,rfl,rfl,rfl,rfl,rfl,rfl,rfl,_⟩:=hF_.all
  have QF:D 6=true:=by assumption
  clear hF_ bU bV bH bR bZ bI bB ct cF
  obtain ⟨es1,ck1,tv1,tr1,hm1,htr1,hT1,hI⟩:=hI1 QF
  exact ⟨_,_,S,rfl,hI.sub (List.sublist_append_right [_] _),Ext.refl _ _ _,rfl,rfl,es1,ck1,tv1,tr1,rfl,hm1,htr1,hT1⟩
 refine bf ?_
 refine aI (fun h=>?_) (fun g1=>?_)
 ·obtain ⟨x,rfl⟩:=Bi (l:=ks) (by
    rcases nj hbs h0 h1 h2 h3 h4 h5 hcn with ⟨_,h⟩|⟨h',_⟩
    ·omega
    ·rw [h] at h'; exact absurd h' (by decide +kernel))
  have hj:eP (.mk k n s [x])=.done (dY (jY s x)):=by
   rw [eP,if_neg (show ¬ (T.mk k n s [x]).name=gE from h0),if_neg (show ¬ (T.mk k n s [x]).name=g9 from h1),if_neg (show ¬ (T.mk k n s [x]).name=nEq from h2),if_neg (show ¬ (T.mk k n s [x]).name=nNe from h3),if_neg (show ¬ (T.mk k n s [x]).name=lH from h4),if_neg (show ¬ (T.mk k n s [x]).name=nIs from h5),if_neg (show ¬ (T.mk k n s [x]).name=zI from by rw [show (T.mk k n s [x]).name=s from rfl,h]; decide +kernel),show (T.mk k n s [x]).name=s from rfl,hcn,if_neg (by decide)]
   rfl
  rw [hj] at hB
  have ht:jY s x=decide (x.kind=1):=by rw [h]; rfl
  refine nZ hI hks af aE aw (i:=0) (by simp) (fun cs hcs=>RdT.f0 hcs) ?_
  refine aY ?_
  exact Run.callPure fn_i_holds nm_i_holds hI (dy _ S) fun w' hI=>fin _ (by rw [ht]; rfl) hB hI (sub1 _)
 refine bf ?_
 refine aI (fun h=>?_) (fun g2=>?_)
 ·obtain ⟨x,rfl⟩:=Bi (l:=ks) (by
    rcases nj hbs h0 h1 h2 h3 h4 h5 hcn with ⟨_,h⟩|⟨h',_⟩
    ·omega
    ·rw [h] at h'; exact absurd h' (by decide +kernel))
  have hj:eP (.mk k n s [x])=.done (dY (jY s x)):=by
   rw [eP,if_neg (show ¬ (T.mk k n s [x]).name=gE from h0),if_neg (show ¬ (T.mk k n s [x]).name=g9 from h1),if_neg (show ¬ (T.mk k n s [x]).name=nEq from h2),if_neg (show ¬ (T.mk k n s [x]).name=nNe from h3),if_neg (show ¬ (T.mk k n s [x]).name=lH from h4),if_neg (show ¬ (T.mk k n s [x]).name=nIs from h5),if_neg (show ¬ (T.mk k n s [x]).name=zI from by rw [show (T.mk k n s [x]).name=s from rfl,h]; decide +kernel),show (T.mk k n s [x]).name=s from rfl,hcn,if_neg (by decide)]
   rfl
  rw [hj] at hB
  have ht:jY s x=!decide (x.kind=1):=by rw [h]; rfl
  refine nZ hI hks af aE aw (i:=0) (by simp) (fun cs hcs=>RdT.f0 hcs) ?_
  refine cE ?_
  exact Run.callPure fn_i_holds nm_i_holds hI (dy _ S) fun w' hI=>fin _ (by rw [ht]; rfl) hB hI (sub1 _)
 refine bf ?_
 refine aI (fun h=>?_) (fun g3=>?_)
 ·obtain ⟨x,rfl⟩:=Bi (l:=ks) (by
    rcases nj hbs h0 h1 h2 h3 h4 h5 hcn with ⟨_,h⟩|⟨h',_⟩
    ·omega
    ·rw [h] at h'; exact absurd h' (by decide +kernel))
  have hj:eP (.mk k n s [x])=.done (dY (jY s x)):=by
   rw [eP,if_neg (show ¬ (T.mk k n s [x]).name=gE from h0),if_neg (show ¬ (T.mk k n s [x]).name=g9 from h1),if_neg (show ¬ (T.mk k n s [x]).name=nEq from h2),if_neg (show ¬ (T.mk k n s [x]).name=nNe from h3),if_neg (show ¬ (T.mk k n s [x]).name=lH from h4),if_neg (show ¬ (T.mk k n s [x]).name=nIs from h5),if_neg (show ¬ (T.mk k n s [x]).name=zI from by rw [show (T.mk k n s [x]).name=s from rfl,h]; decide +kernel),show (T.mk k n s [x]).name=s from rfl,hcn,if_neg (by decide)]
   rfl
  rw [hj] at hB
  have ht:jY s x=(decide (x.kind=3) && decide (x.kids.length=0)):=by rw [h]; rfl
  refine ch (i:=0) hI hks af ac (by simp) (fun _ _=>RdT.length) fun ds hds=>?_
  refine Run.callPure yt yA hI (wA hds) fun w' hI=>?_
  exact Run.callPure fn_i_holds nm_i_holds hI (dy _ S) fun w' hI=>fin _ (by rw [ht]; rfl) hB hI (sub1 _)
 refine bf ?_
 refine aI (fun h=>?_) (fun g4=>?_)
 ·obtain ⟨x,rfl⟩:=Bi (l:=ks) (by
    rcases nj hbs h0 h1 h2 h3 h4 h5 hcn with ⟨_,h⟩|⟨h',_⟩
    ·omega
    ·rw [h] at h'; exact absurd h' (by decide +kernel))
  have hj:eP (.mk k n s [x])=.done (dY (jY s x)):=by
   rw [eP,if_neg (show ¬ (T.mk k n s [x]).name=gE from h0),if_neg (show ¬ (T.mk k n s [x]).name=g9 from h1),if_neg (show ¬ (T.mk k n s [x]).name=nEq from h2),if_neg (show ¬ (T.mk k n s [x]).name=nNe from h3),if_neg (show ¬ (T.mk k n s [x]).name=lH from h4),if_neg (show ¬ (T.mk k n s [x]).name=nIs from h5),if_neg (show ¬ (T.mk k n s [x]).name=zI from by rw [show (T.mk k n s [x]).name=s from rfl,h]; decide +kernel),show (T.mk k n s [x]).name=s from rfl,hcn,if_neg (by decide)]
   rfl
  rw [hj] at hB
  have ht:jY s x=decide (x.kind=2):=by rw [h]; rfl
  refine nZ hI hks af aE aw (i:=0) (by simp) (fun cs hcs=>RdT.f0 hcs) ?_
  refine aY ?_
  exact Run.callPure fn_i_holds nm_i_holds hI (dy _ S) fun w' hI=>fin _ (by rw [ht]; rfl) hB hI (sub1 _)
 have hall:s=zI/\ks.length=3:=by
  rcases nj hbs h0 h1 h2 h3 h4 h5 hcn with ⟨ht,_⟩|⟨h,hl⟩
  ·rw [cJ,List.any_eq_true] at ht
   obtain ⟨x,hx,hd⟩:=ht
   have hd:=of_decide_eq_true hd
   simp only [rG,List.mem_cons,List.not_mem_nil,or_false] at hx
   rcases hx with rfl|rfl|rfl|rfl
   ·exact absurd hd g1
   ·exact absurd hd g2
   ·exact absurd hd g3
   ·exact absurd hd g4
  ·exact ⟨h,by omega⟩
 obtain ⟨h,hl⟩:=hall
 obtain ⟨x,y,z,rfl⟩:=Jo hl
 have hj:eP (.mk k n s [x,y,z])=qt x y z:=by
  rw [eP,if_neg (show ¬ (T.mk k n s [x,y,z]).name=gE from h0),if_neg (show ¬ (T.mk k n s [x,y,z]).name=g9 from h1),if_neg (show ¬ (T.mk k n s [x,y,z]).name=nEq from h2),if_neg (show ¬ (T.mk k n s [x,y,z]).name=nNe from h3),if_neg (show ¬ (T.mk k n s [x,y,z]).name=lH from h4),if_neg (show ¬ (T.mk k n s [x,y,z]).name=nIs from h5),if_pos (show (T.mk k n s [x,y,z]).name=zI from h)]
  rfl
 rw [hj] at hB hbj
 obtain ⟨b,o,cap,c,E,fz,rfl,hSb,hR⟩:=hks.ptr (by simp)
 have hx:=hR 0 (by simp)
 have hy:=hR 1 (by simp)
 have hz:=hR 2 (by simp)
 obtain ⟨kx,hxe,_,hx2,_,_⟩:=RdT.iff.1 hx
 obtain ⟨ky,hye,_,_,_,hyk⟩:=RdT.iff.1 hy
 have hx:RdT S (aH c (o+0 * 4) 4) x:=hx
 have hy:RdT S (aH c (o+1 * 4) 4) y:=hy
 have hxe:aH c (o+0 * 4) 4=[.int .i64 x.kind,.int .i64 x.n,.string x.name,kx]:=hxe
 have hye:aH c (o+1 * 4) 4=[.int .i64 y.kind,.int .i64 y.n,.string y.name,ky]:=hye
 have hyk:RdSl S 4 (RdT S) ky y.kids:=hyk
 have hx2:inI x.n:=hx2
 have hky1:=hyk.le
 simp only [maxLen] at hky1
 refine ⟨fun q w'=>q=.bool (decide (x.kind=1 ∨ y.kind=1))/\Inv w X ([.blk b3 (.cells #[.int .i64 k,.int .i64 n,.string s,.slice (some ⟨b,o,none⟩) [x,y,z].length cap] ab)]++aV sb mb es ck tv tr) S w',?_,?_⟩
 ·refine nZ hI hks af aE aw (i:=0) (by simp) (fun cs hcs=>RdT.f0 hcs) ?_
  refine aY ?_
  have e0:([x,y,z]:List T)[0]=x:=rfl
  rw [e0]
  cases k1:decide (x.kind=1)
  ·refine rpG ?_
   refine nZ hI hks af aE aw (i:=1) (by simp) (fun cs hcs=>RdT.f0 hcs) ?_
   refine aY ?_
   refine rpG ?_
   have:=of_decide_eq_false k1
   refine ⟨?_,hI⟩
   rw [Value.bool.injEq,decide_eq_decide]
   exact ⟨.inr,fun h=>h.resolve_left this⟩
  ·refine rpG ?_
   exact ⟨by rw [decide_eq_true (.inl (of_decide_eq_true k1))],hI⟩
 intro q _ _ _ _ _ _ _ _ _ _ _ _ w'
 rintro ⟨rfl,hI⟩
 refine aI (fun k1=>fin 2 (by rw [qt,if_pos k1]) hB hI (sub1 _)) (fun k1=>?_)
 have el:decide ((y.kids.length:Int)=0)=decide (y.kids.length=0):=by rw [decide_eq_decide]; omega
 refine ⟨fun q w'=>q=.bool (decide (x.kind≠2 ∨ y.kind≠3 ∨ y.kids.length=0))/\Inv w X ([.blk b3 (.cells #[.int .i64 k,.int .i64 n,.string s,.slice (some ⟨b,o,none⟩) [x,y,z].length cap] ab)]++aV sb mb es ck tv tr) S w',?_,?_⟩
 ·refine nZ hI hks af aE aw (i:=0) (by simp) (fun cs hcs=>RdT.f0 hcs) ?_
  refine cE ?_
  have e0:([x,y,z]:List T)[0]=x:=rfl
  rw [e0]
  cases q2:decide (x.kind=2)
  ·refine rpG ?_
   exact ⟨by rw [decide_eq_true (.inl (of_decide_eq_false q2))],hI⟩
  have q2:=of_decide_eq_true q2
  refine rpG ?_
  refine nZ hI hks af aE aw (i:=1) (by simp) (fun cs hcs=>RdT.f0 hcs) ?_
  refine cE ?_
  have e1:([x,y,z]:List T)[1]=y:=rfl
  rw [e1]
  cases q3:decide (y.kind=3)
  ·refine rpG ?_
   exact ⟨by rw [decide_eq_true (.inr (.inl (of_decide_eq_false q3)))],hI⟩
  have q3:=of_decide_eq_true q3
  refine rpG ?_
  refine au (i:=1) af (by simp) ?_
  refine ai al ?_
  refine cz ag (by rw [hI.cellS hSb]; exact ar hye 3 _ rfl) ?_
  refine aD hyk af ?_
  refine aY ?_
  rw [el]
  refine rpG ?_
  refine ⟨?_,hI⟩
  rw [Value.bool.injEq,decide_eq_decide]
  simp [q2,q3]
 intro q _ _ _ _ _ _ _ _ _ _ _ _ _ _ _ _ _ _ _ _ w'
 rintro ⟨rfl,hI⟩
 refine aI (fun k2=>fin 3 (by rw [qt,if_neg k1,if_pos k2]) hB hI (sub1 _)) (fun k2=>?_)
 have hwi:(decide (1<=x.n) && decide (x.n<=(y.kids.length:Int)))=!decide (x.n<1 ∨ (y.kids.length:Int)<x.n):=by
  by_cases h8:x.n<1
  ·simp [h8]; omega
  ·by_cases h9:(y.kids.length:Int)<x.n
   ·simp [h9]
   ·simp [h8,h9]; omega
 refine ⟨fun D RT RH RF SF RY Sg RP SQ Su RI Sc Sz w_=>Fx D 0 [Sz=.slice (some ⟨b,o,none⟩) [x,y,z].length cap,Sc=.pointer (some ⟨b,o+0 * 4,none⟩),RI=.pointer (some ⟨b,o+0 * 4+1,none⟩),Su=.int .i64 x.n,SQ=.slice (some ⟨b,o,none⟩) [x,y,z].length cap,RP=.pointer (some ⟨b,o+1 * 4,none⟩),Sg=.pointer (some ⟨b,o+1 * 4+3,none⟩),RY=ky,SF=.int .i64 y.kids.length,RF=.bool (!decide (x.n<1 ∨ (y.kids.length:Int)<x.n)),RH=.bool (decide (x.n<1 ∨ (y.kids.length:Int)<x.n)),RT=.bool (decide (x.n<1 ∨ (y.kids.length:Int)<x.n))]/\Inv w X ([.blk b3 (.cells #[.int .i64 k,.int .i64 n,.string s,.slice (some ⟨b,o,none⟩) [x,y,z].length cap] ab)]++aV sb mb es ck tv tr) S w_,⟨Fx.nil _ _,hI.draw⟩,⟨?_,?_,?_,?_,?_,?_,?_,?_,?_,?_,?_,?_,trivial⟩,?_⟩
 all_goals (intro D bo; intros; rename_i RT RH RF SF RY Sg RP SQ Su RI Sc Sz w_ hA_; have hF_:=hA_.1; obtain ⟨⟨bU,bV,bH,bR,bZ,bI,bB,ct,cF,cK,bG,bX,_⟩,hI⟩:=hA_)
 ·exact ⟨hF_.set 0 rfl,hI⟩
 ·obtain rfl:=bU ‹_›
  refine au (i:=0) af (by simp) ?_
  exact ⟨hF_.set 1 rfl,hI⟩
 ·obtain rfl:=bV ‹_›
  refine ai aK ?_
  exact ⟨hF_.set 2 rfl,hI⟩
 ·obtain rfl:=bH ‹_›
  refine cz aw (by rw [hI.cellS hSb]; exact ar hxe 1 _ rfl) ?_
  exact ⟨hF_.set 3 rfl,hI⟩
 ·exact ⟨hF_.set 4 rfl,hI⟩
 ·obtain rfl:=bZ ‹_›
  refine au (i:=1) af (by simp) ?_
  exact ⟨hF_.set 5 rfl,hI⟩
 ·obtain rfl:=bI ‹_›
  refine ai al ?_
  exact ⟨hF_.set 6 rfl,hI⟩
 ·obtain rfl:=bB ‹_›
  refine cz ag (by rw [hI.cellS hSb]; exact ar hye 3 _ rfl) ?_
  exact ⟨hF_.set 7 rfl,hI⟩
 ·obtain rfl:=ct ‹_›
  refine aD hyk af ?_
  exact ⟨hF_.set 8 rfl,hI⟩
 ·obtain rfl:=bR ‹_›
  obtain rfl:=cF ‹_›
  refine Run.callPure g7 ia hI (gw _ _ _ S) fun w_ hI=>?_
  rw [hwi]
  exact ⟨hF_.set 9 rfl,hI⟩
 ·obtain rfl:=cK ‹_›
  refine bM ?_
  rw [Bool.not_not]
  exact ⟨hF_.set 10 rfl,hI⟩
 ·obtain rfl:=bG ‹_›
  exact ⟨hF_.set 11 rfl,hI⟩
 obtain ⟨rfl,rfl,rfl,rfl,rfl,rfl,rfl,rfl,rfl,rfl,rfl,rfl,_⟩:=hF_.all
 clear hF_ bU bV bH bR bZ bI bB ct cF cK bG bX
 refine aI (fun k3=>fin 1 (by rw [qt,if_neg k1,if_neg k2,if_pos k3]) hB hI (sub1 _)) (fun k3=>?_)
 obtain ⟨m,hm⟩:∃ m:Nat,x.n=(m:Int)+1:=⟨(x.n - 1).toNat,by omega⟩
 have hml:m<y.kids.length:=by omega
 have hkd:kd y (x.n.toNat - 1)=y.kids[m]:=by
  have e1:x.n.toNat - 1=m:=by omega
  rw [e1,kd,List.getD_eq_getElem?_getD,List.getElem?_eq_getElem hml]
  rfl
 have hja:qt x y z=.uni z y.kids[m]:=by rw [qt,if_neg k1,if_neg k2,if_neg k3,hkd]
 rw [hja] at hB hbj
 obtain ⟨r,hu,rfl⟩:=hB
 have hjj:okJ N (.one z y.kids[m]):=hbj
 obtain ⟨c2,o2,cap2,a2,E2,fz2,rfl,hS2,hR2⟩:=hyk.at_ hml
 refine ⟨fun D x4 RW RL Sw Sf RJ Sy SM Si RU R7 SN So Sb R5 R2 SE RD w_=>Fx D 0 [RD=.pointer (some ⟨sb,0,none⟩),SE=.slice (some ⟨b,o,none⟩) [x,y,z].length cap,R2=.pointer (some ⟨b,o+2 * 4,none⟩),R5=.agg (aH c (o+2 * 4) 4).toArray,Sb=.slice (some ⟨b,o,none⟩) [x,y,z].length cap,So=.pointer (some ⟨b,o+1 * 4,none⟩),SN=.pointer (some ⟨b,o+1 * 4+3,none⟩),R7=.slice (some ⟨c2,o2,none⟩) y.kids.length cap2,RU=.slice (some ⟨b,o,none⟩) [x,y,z].length cap,Si=.pointer (some ⟨b,o+0 * 4,none⟩),SM=.pointer (some ⟨b,o+0 * 4+1,none⟩),Sy=.int .i64 x.n,RJ=.int .i64 m,Sf=.pointer (some ⟨c2,o2+m * 4,none⟩),Sw=.agg (aH a2 (o2+m * 4) 4).toArray,RL=.bool r,RW=.int .i64 (dY r),x4=.int .i64 (dY r)]/\(D 15=false->Inv w X ([.blk b3 (.cells #[.int .i64 k,.int .i64 n,.string s,.slice (some ⟨b,o,none⟩) [x,y,z].length cap] ab)]++aV sb mb es ck tv tr) S w_)/\(D 15=true->∃ es1 ck1 tv1 tr1,KnownM S es1 st'/\tr1.length+unb st'<=1000000/\Tr st st' tr tr1/\Inv w X ([.blk b3 (.cells #[.int .i64 k,.int .i64 n,.string s,.slice (some ⟨b,o,none⟩) [x,y,z].length cap] ab)]++aV sb mb es1 ck1 tv1 tr1) S w_)/\∃ es3 ck3 tv3 tr3,Inv w X ([.blk b3 (.cells #[.int .i64 k,.int .i64 n,.string s,.slice (some ⟨b,o,none⟩) [x,y,z].length cap] ab)]++aV sb mb es3 ck3 tv3 tr3) S w_,⟨Fx.nil _ _,⟨fun _=>hI.draw,aU,es,ck,tv,tr,hI.draw⟩⟩,⟨?_,?_,?_,?_,?_,?_,?_,?_,?_,?_,?_,?_,?_,?_,?_,?_,?_,?_,trivial⟩,?_⟩
 all_goals (intro D bo; intros; rename_i x4 RW RL Sw Sf RJ Sy SM Si RU R7 SN So Sb R5 R2 SE RD w_ hA_; have hF_:=hA_.1; obtain ⟨⟨bU,bV,bH,bR,bZ,bI,bB,ct,cF,cK,bG,bX,cI,dq,cC,dA,dH,dV,_⟩,⟨hI0,hI1,es3,ck3,tv3,tr3,hI⟩⟩:=hA_)
 ·exact ⟨hF_.set 0 rfl,⟨hI0,hI1,es3,ck3,tv3,tr3,hI⟩⟩
 ·exact ⟨hF_.set 1 rfl,⟨hI0,hI1,es3,ck3,tv3,tr3,hI⟩⟩
 ·obtain rfl:=bV ‹_›
  refine au (i:=2) af (by simp) ?_
  exact ⟨hF_.set 2 rfl,⟨hI0,hI1,es3,ck3,tv3,tr3,hI⟩⟩
 ·obtain rfl:=bH ‹_›
  refine bw ac (RdT.length (hR 2 (by simp))) (fun j v hj=>by rw [hI.cellS hSb]; exact ar rfl j v hj) ?_
  exact ⟨hF_.set 3 rfl,⟨hI0,hI1,es3,ck3,tv3,tr3,hI⟩⟩
 ·exact ⟨hF_.set 4 rfl,⟨hI0,hI1,es3,ck3,tv3,tr3,hI⟩⟩
 ·obtain rfl:=bZ ‹_›
  refine au (i:=1) af (by simp) ?_
  exact ⟨hF_.set 5 rfl,⟨hI0,hI1,es3,ck3,tv3,tr3,hI⟩⟩
 ·obtain rfl:=bI ‹_›
  refine ai al ?_
  exact ⟨hF_.set 6 rfl,⟨hI0,hI1,es3,ck3,tv3,tr3,hI⟩⟩
 ·obtain rfl:=bB ‹_›
  refine cz ag (by rw [hI.cellS hSb]; exact ar hye 3 _ rfl) ?_
  exact ⟨hF_.set 7 rfl,⟨hI0,hI1,es3,ck3,tv3,tr3,hI⟩⟩
 ·exact ⟨hF_.set 8 rfl,⟨hI0,hI1,es3,ck3,tv3,tr3,hI⟩⟩
 ·obtain rfl:=cF ‹_›
  refine au (i:=0) af (by simp) ?_
  exact ⟨hF_.set 9 rfl,⟨hI0,hI1,es3,ck3,tv3,tr3,hI⟩⟩
 ·obtain rfl:=cK ‹_›
  refine ai aK ?_
  exact ⟨hF_.set 10 rfl,⟨hI0,hI1,es3,ck3,tv3,tr3,hI⟩⟩
 ·obtain rfl:=bG ‹_›
  refine cz aw (by rw [hI.cellS hSb]; exact ar hxe 1 _ rfl) ?_
  exact ⟨hF_.set 11 rfl,⟨hI0,hI1,es3,ck3,tv3,tr3,hI⟩⟩
 ·obtain rfl:=bX ‹_›
  refine ib (by omega) ?_
  rw [show x.n - 1=(m:Int) by omega]
  exact ⟨hF_.set 12 rfl,⟨hI0,hI1,es3,ck3,tv3,tr3,hI⟩⟩
 ·obtain rfl:=ct ‹_›
  obtain rfl:=cI ‹_›
  refine au af hml ?_
  exact ⟨hF_.set 13 rfl,⟨hI0,hI1,es3,ck3,tv3,tr3,hI⟩⟩
 ·obtain rfl:=dq ‹_›
  refine bw ac hR2.length (fun j v hj=>by rw [hI.cellS hS2]; exact ar rfl j v hj) ?_
  exact ⟨hF_.set 14 rfl,⟨hI0,hI1,es3,ck3,tv3,tr3,hI⟩⟩
 ·obtain rfl:=bU ‹_›
  obtain rfl:=bR ‹_›
  obtain rfl:=cC ‹_›
  refine Run.callE (A:=[_]) eT eZ (hI0 bo) (ja hN hg hjj hu S _ _ sb mb ck es tv tr hz hR2 hkm htr) fun v' I' S' w_=>?_
  rintro ⟨eS,rfl,es1,ck1,tv1,tr1,rfl,hm1,htr1,hT1⟩ _ hI
  rw [eS] at hI
  have hI0:=fun (h:aF D 15 15=false)=>(Bool.noConfusion h:Inv w X ([.blk b3 (.cells #[.int .i64 k,.int .i64 n,.string s,.slice (some ⟨b,o,none⟩) [x,y,z].length cap] ab)]++aV sb mb es ck tv tr) S w_)
  have hI1:=fun (_:aF D 15 15=true)=>(⟨es1,ck1,tv1,tr1,hm1,htr1,hT1,hI⟩:∃ es1 ck1 tv1 tr1,KnownM S es1 st'/\tr1.length+unb st'<=1000000/\Tr st st' tr tr1/\Inv w X ([.blk b3 (.cells #[.int .i64 k,.int .i64 n,.string s,.slice (some ⟨b,o,none⟩) [x,y,z].length cap] ab)]++aV sb mb es1 ck1 tv1 tr1) S w_)
  obtain ⟨es3,ck3,tv3,tr3,hI⟩:∃ es3 ck3 tv3 tr3,Inv w X ([.blk b3 (.cells #[.int .i64 k,.int .i64 n,.string s,.slice (some ⟨b,o,none⟩) [x,y,z].length cap] ab)]++aV sb mb es3 ck3 tv3 tr3) S w_:=⟨es1,ck1,tv1,tr1,hI⟩
  exact ⟨hF_.set 15 rfl,⟨hI0,hI1,es3,ck3,tv3,tr3,hI⟩⟩
 ·obtain rfl:=dA ‹_›
  obtain ⟨es1,ck1,tv1,tr1,hm1,htr1,hT1,hI⟩:=hI1 ‹D 15=true›
  refine Run.callPure fn_i_holds nm_i_holds hI (dy r S) fun w_ hI=>?_
  have hI0:=fun (h:aF D 16 15=false)=>(Bool.noConfusion (h.symm.trans (show aF D 16 15=true from ‹D 15=true›)):Inv w X ([.blk b3 (.cells #[.int .i64 k,.int .i64 n,.string s,.slice (some ⟨b,o,none⟩) [x,y,z].length cap] ab)]++aV sb mb es ck tv tr) S w_)
  have hI1:=fun (_:aF D 16 15=true)=>(⟨es1,ck1,tv1,tr1,hm1,htr1,hT1,hI⟩:∃ es1 ck1 tv1 tr1,KnownM S es1 st'/\tr1.length+unb st'<=1000000/\Tr st st' tr tr1/\Inv w X ([.blk b3 (.cells #[.int .i64 k,.int .i64 n,.string s,.slice (some ⟨b,o,none⟩) [x,y,z].length cap] ab)]++aV sb mb es1 ck1 tv1 tr1) S w_)
  obtain ⟨es3,ck3,tv3,tr3,hI⟩:∃ es3 ck3 tv3 tr3,Inv w X ([.blk b3 (.cells #[.int .i64 k,.int .i64 n,.string s,.slice (some ⟨b,o,none⟩) [x,y,z].length cap] ab)]++aV sb mb es3 ck3 tv3 tr3) S w_:=⟨es1,ck1,tv1,tr1,hI⟩
  exact ⟨hF_.set 16 rfl,⟨hI0,hI1,es3,ck3,tv3,tr3,hI⟩⟩
 ·obtain rfl:=dH ‹_›
  exact ⟨hF_.set 17 rfl,⟨hI0,hI1,es3,ck3,tv3,tr3,hI⟩⟩
 obtain ⟨rfl,rfl,rfl,rfl,rfl,rfl,rfl,rfl,rfl,rfl,rfl,rfl,rfl,rfl,rfl,rfl,rfl,rfl,_⟩:=hF_.all
 have S9:D 15=true:=by assumption
 clear hF_ bU bV bH bR bZ bI bB ct cF cK bG bX cI dq cC dA dH dV
 obtain ⟨es1,ck1,tv1,tr1,hm1,htr1,hT1,hI⟩:=hI1 S9
 exact ⟨_,_,S,rfl,hI.sub (List.sublist_append_right [_] _),Ext.refl _ _ _,rfl,rfl,es1,ck1,tv1,tr1,rfl,hm1,htr1,hT1⟩
end
end
section
open Go Go.RowKit
theorem KnownM.up {S S':ae} {es:Array MapEntry} {st:aC} (h:KnownM S es st) (hs:Sle S S'):KnownM S' es st:=
 ⟨fun e he=>by
  obtain ⟨n,t,cs,h1,h2,h3,h4⟩:=h.1 e he
  exact ⟨n,t,cs,h1,h2,h3.mono hs,h4⟩,h.2⟩
theorem StS.up {S S':ae} {sb:Nat} {st:aC} (h:StS S S sb st) (hs:Sle S S'):StS S' S' sb st:=by
 obtain ⟨mb,tv,es,ck,E,h1,h2,h3⟩:=h
 exact ⟨mb,tv,es,ck,E,hs _ _ h1,hs _ _ h2,h3.up hs⟩
def okR (u:T) (deep count:Int):Bool:=decide (count+dF u<=120) && qf u (31 - deep)
def RC (st:aC) (sb:Nat) (t u:T):Prop:=∀ (S:ae) (cs:List Value) (cb:Nat) (deep count:Int),RdT S cs t->StS S S sb st->1<=deep->deep<=1000000->0<=count->count<=1000000->
 Tri Tryz.prog rD [.pointer (some ⟨sb,0,none⟩),.agg cs.toArray,.int .i64 deep,.pointer (some ⟨cb,0,none⟩)] [.blk cb (.cells #[.int .i64 count] cD)] S fun q I' S'=>
  ∃ (cs':List Value) (c':Int),q=.tuple #[.agg cs'.toArray,.bool (okR u deep count)]/\I'=[.blk cb (.cells #[.int .i64 c'] cD)]/\cs'.length=4/\(∀ x∈cs',x.oneCell'=true)/\(okR u deep count=true->c'=count+dF u/\RdT S' cs' u)
section
attribute [local irreducible] Run CondV aB aS
theorem CC {N:Nat} {st:aC} {sb:Nat} {t v:T} {us:List T} (hg:Good N st) (hwv:cS st t v) (hot:okU N t/\wT t<=1048576) (hlu:us.length=v.kids.length)
  (hk:∀ i (h:i<us.length) (h':i<v.kids.length),RC st sb v.kids[i] us[i]):RC st sb t (.mk v.kind v.n v.name us):=by
 intro S cs cb deep count h hst hd0 hd1 hc0 hc1 w hI
 have hlc:=h.length
 have hov:=dN hg hwv hot
 obtain ⟨X,hX⟩:∃ X,X=bE [Item.blk cb (.cells #[.int .i64 count] cD)]:=⟨_,rfl⟩
 rw [<- hX] at hI ⊢
 have hcu:=dR us
 have hokd:okR (.mk v.kind v.n v.name us) deep count=(decide (count+(1+dc us)<=120) && (if 31 - deep<1 then false else M2 us (31 - deep - 1))):=by
  rw [okR,gz,qf]
 refine jy.2 ?_
 dsimp only[jy,sK]
 refine be hI fun b5 w' hI=>?_
 refine aG hI aP fun b8 w' hI=>?_
 have hI:Inv w X ([.blk b5 (.cells cs.toArray ab),.blk b8 (.cells #[.int .i64 0,.int .i64 0,.string ⟨#[]⟩,.slice none 0 0] ab)]++[.blk cb (.cells #[.int .i64 count] cD)]) S w':=hI.perm (List.perm_append_comm (l₁:=[_,_]) (l₂:=[_]))
 refine aq hI 0 ac rfl (by simpa using hlc) ?_
 refine Run.call0 gT gV hI (j4 hg hwv hot.1 hst h) fun v' I' S' w'=>?_
 rintro ⟨eS,rfl,cs',rfl,hcs'⟩ _ hI
 rw [eS] at hI
 clear eS
 refine ao hI 0 rfl ac (by simpa using hcs'.length) (by simpa using hlc) (by simpa using hcs'.one) fun w' hI=>?_
 obtain ⟨kv,rfl,hi1,hi2,hs,hks⟩:=RdT.iff.1 hcs'
 have hI:Inv w X [.blk b5 (.cells #[.int .i64 v.kind,.int .i64 v.n,.string v.name,kv] ab),.blk b8 (.cells #[.int .i64 0,.int .i64 0,.string ⟨#[]⟩,.slice none 0 0] ab),.blk cb (.cells #[.int .i64 count] cD)] S w':=hI
 have hlen:=hks.le
 have hkl:v.kids.length<=1048576:=by
  have:=hov.2
  cases v
  simp only [wT] at this
  simp only [T.kids]
  omega
 refine bD ?_
 refine aA hI 2 aw rfl rfl ?_
 refine bn (by omega) ?_
 refine bD ?_
 refine dK hI 2 (n:=1) rfl (by decide +kernel) rfl (by simp) (by simp [Value.cells,Value.oneCell']) fun w' hI=>?_
 have hI:Inv w X [.blk b5 (.cells #[.int .i64 v.kind,.int .i64 v.n,.string v.name,kv] ab),.blk b8 (.cells #[.int .i64 0,.int .i64 0,.string ⟨#[]⟩,.slice none 0 0] ab),.blk cb (.cells #[.int .i64 (count+1)] cD)] S w':=hI
 refine ⟨fun q w'=>q=.bool (decide (120<count+1 ∨ 30<deep))/\Inv w X [.blk b5 (.cells #[.int .i64 v.kind,.int .i64 v.n,.string v.name,kv] ab),.blk b8 (.cells #[.int .i64 0,.int .i64 0,.string ⟨#[]⟩,.slice none 0 0] ab),.blk cb (.cells #[.int .i64 (count+1)] cD)] S w',?_,?_⟩
 ·refine bD ?_
  refine aA hI 2 aw rfl rfl ?_
  refine dv ?_
  by_cases e1:120<count+1
  ·rw [decide_eq_true e1]
   refine rpG ?_
   exact ⟨by rw [decide_eq_true (Or.inl e1)],hI⟩
  ·rw [decide_eq_false e1]
   refine rpG ?_
   refine dv ?_
   refine rpG ?_
   refine ⟨?_,hI⟩
   congr 1
   rw [Bool.eq_iff_iff,decide_eq_true_eq,decide_eq_true_eq]
   omega
 intro q _ _ _ _ _ _ _ w'
 rintro ⟨rfl,hI⟩
 refine aI (fun hbad=>?_) (fun hgood=>?_)
 ·have hno:okR (.mk v.kind v.n v.name us) deep count=false:=by
   rw [hokd]
   rcases hbad with e|e
   ·rw [decide_eq_false (by omega),Bool.false_and]
   ·rw [if_pos (by omega),Bool.and_false]
  refine fD ?_
  refine ao hI 1 rfl ac rfl rfl ju fun w' hI=>?_
  refine aW hI 1 ac rfl rfl ?_
  exact ⟨_,_,_,rfl,hI.pick [false,false,true],Ext.refl _ _ _,[.int .i64 0,.int .i64 0,.string ⟨#[]⟩,.slice none 0 0],count+1,by rw [hno],rfl,rfl,ju,fun h=>by rw [hno] at h; cases h⟩
 have hg1:count+1<=120:=by omega
 have hg2:deep<=30:=by omega
 rw [if_neg (by omega)] at hokd
 refine ad hI 0 rfl aE aw rfl ?_
 refine ad hI 0 rfl aK aw rfl ?_
 refine ad hI 0 rfl aM aJ rfl ?_
 refine gf ?_
 refine aG hI aP fun b10 w' hI=>?_
 have hI:Inv w X [.blk b5 (.cells #[.int .i64 v.kind,.int .i64 v.n,.string v.name,kv] ab),.blk b8 (.cells #[.int .i64 0,.int .i64 0,.string ⟨#[]⟩,.slice none 0 0] ab),.blk b10 _,.blk cb (.cells #[.int .i64 (count+1)] cD)] S w':=hI.perm (((List.perm_append_comm (l₁:=[_]) (l₂:=[_])).cons _).cons _)
 refine ao hI 2 rfl ac rfl rfl (by simp [Value.oneCell']) fun w' hI=>?_
 have hI:=hI.rowNil ab 4
 have hI:Inv w X [.blk b5 (.cells #[.int .i64 v.kind,.int .i64 v.n,.string v.name,kv] ab),.blk b8 (.cells #[.int .i64 0,.int .i64 0,.string ⟨#[]⟩,.slice none 0 0] ab),.blk b10 (.cells #[.int .i64 v.kind,.int .i64 v.n,.string v.name,.slice none 0 0] ab),aL (.slice none 0 0) ab 4 [],.blk cb (.cells #[.int .i64 (count+1)] cD)] S w':=hI.perm ((((List.perm_append_comm (l₁:=[_]) (l₂:=[_])).cons _).cons _).cons _)
 refine ad hI 0 rfl al ag rfl ?_
 refine aD hks af ?_
 refine ⟨fun i w'=>∃ (j:Nat) (c:Int) (kvc:Value) (css:List (List Value)) (S1:ae),j<=us.length/\i=.int .i64 j/\Ext w.heap.size X S S1/\c=count+1+dc (us.take j)/\c<=120/\(∀ k (_:k<us.length),k<j->qf us[k] (31 - deep - 1)=true)/\Rows 4 (RdT S1) css (us.take j)/\
   Inv w X [.blk b5 (.cells #[.int .i64 v.kind,.int .i64 v.n,.string v.name,kv] ab),.blk b8 (.cells #[.int .i64 0,.int .i64 0,.string ⟨#[]⟩,.slice none 0 0] ab),.blk b10 (.cells #[.int .i64 v.kind,.int .i64 v.n,.string v.name,kvc] ab),aL kvc ab 4 css,.blk cb (.cells #[.int .i64 c] cD)] S1 w',
  fun i _=>us.length - (intOf i).toNat,⟨0,count+1,_,[],S,Nat.zero_le _,rfl,Ext.refl _ _ _,by simp [dc],hg1,fun k _ h=>by omega,Rows.nil _ _,hI⟩,?_⟩
 intro t42 _ _ _ _ _ _ _ _ _ _ _ _ _ _ _ _ _ _ _ _ _ _ _ _ _ _ w'
 rintro ⟨j,c,kvc,css,S1,hj,rfl,hE,hc,hc120,hdep,hR,hI⟩
 have hpos:=dR (us.take j)
 refine bA ?_
 refine aI (fun hji=>?_) (fun hji=>?_)
 ·have hj1:j<us.length:=by omega
  have hj2:j<v.kids.length:=by omega
  have hcl:=hR.hc
  rw [List.length_take] at hcl
  refine ch hI (hks.monoT hE.1) af ac hj2 (fun _ _=>RdT.length) fun cs0 hcs0=>?_
  have hlc0:=hcs0.length
  refine aG hI aP fun b12 w' hI=>?_
  have hI:=hI.perm (M:=.blk b12 _::[.blk b5 (.cells #[.int .i64 v.kind,.int .i64 v.n,.string v.name,kv] ab),.blk b8 (.cells #[.int .i64 0,.int .i64 0,.string ⟨#[]⟩,.slice none 0 0] ab),.blk b10 (.cells #[.int .i64 v.kind,.int .i64 v.n,.string v.name,kvc] ab),aL kvc ab 4 css,.blk cb (.cells #[.int .i64 c] cD)]) (List.perm_append_comm (l₁:=[_]))
  refine ao hI 0 rfl ac (by simpa using hlc0) rfl (by simpa using hcs0.one) fun w' hI=>?_
  refine aq hI 0 ac rfl (by simpa using hlc0) ?_
  refine bn (by omega) ?_
  have hI:Inv w X ([.blk b5 (.cells #[.int .i64 v.kind,.int .i64 v.n,.string v.name,kv] ab),.blk b8 (.cells #[.int .i64 0,.int .i64 0,.string ⟨#[]⟩,.slice none 0 0] ab),.blk b10 (.cells #[.int .i64 v.kind,.int .i64 v.n,.string v.name,kvc] ab),aL kvc ab 4 css]++[.blk cb (.cells #[.int .i64 c] cD)]) S1 w':=hI.pick [false,true,true,true,true,true]
  refine Run.callE jE jv hI (hk j hj1 hj2 S1 cs0 cb (deep+1) c hcs0 (hst.up hE.1) (by omega) (by omega) (by omega) (by omega)) fun v' I' S2 w'=>?_
  rintro ⟨cs2,c2,rfl,rfl,hl4,ho4,hrd⟩ hE2 hI
  refine aj rfl ?_
  refine aj rfl ?_
  refine aG hI aP fun b13 w' hI=>?_
  have hI:=hI.perm (M:=.blk b13 _::[.blk b5 (.cells #[.int .i64 v.kind,.int .i64 v.n,.string v.name,kv] ab),.blk b8 (.cells #[.int .i64 0,.int .i64 0,.string ⟨#[]⟩,.slice none 0 0] ab),.blk b10 (.cells #[.int .i64 v.kind,.int .i64 v.n,.string v.name,kvc] ab),aL kvc ab 4 css,.blk cb (.cells #[.int .i64 c2] cD)]) (List.perm_append_comm (l₁:=[_]))
  refine ao hI 0 rfl ac (by simpa using hl4) rfl (by simpa using ho4) fun w' hI=>?_
  refine bM ?_
  have hct:=xB us j hj1
  have hcle:=n6 us (j+1)
  refine az (fun hb=>?_) (fun hb=>?_)
  ·have hb':okR us[j] (deep+1) c=false:=by simpa using hb
   have hno:okR (.mk v.kind v.n v.name us) deep count=false:=by
    rw [hokd]
    rw [okR,Bool.and_eq_false_iff] at hb'
    rcases hb' with e|e
    ·have e:=of_decide_eq_false e
     rw [decide_eq_false (by omega),Bool.false_and]
    ·have:M2 us (31 - deep - 1)=false:=by
      rw [wK,List.all_eq_false]
      exact ⟨us[j],List.getElem_mem hj1,by rw [show 31 - deep - 1=31 - (deep+1) by omega,e]; decide⟩
     rw [this,Bool.and_false]
   refine fD ?_
   have hI:Inv w X [.blk b13 (.cells cs2.toArray ab),.blk b5 (.cells #[.int .i64 v.kind,.int .i64 v.n,.string v.name,kv] ab),.blk b8 (.cells #[.int .i64 0,.int .i64 0,.string ⟨#[]⟩,.slice none 0 0] ab),.blk b10 (.cells #[.int .i64 v.kind,.int .i64 v.n,.string v.name,kvc] ab),aL kvc ab 4 css,.blk cb (.cells #[.int .i64 c2] cD)] S2 w':=hI
   refine ao hI 2 rfl ac rfl rfl ju fun w' hI=>?_
   refine aW hI 2 ac rfl rfl ?_
   exact ⟨_,_,_,rfl,hI.pick [false,false,false,false,false,true],hE.trans hE2,[.int .i64 0,.int .i64 0,.string ⟨#[]⟩,.slice none 0 0],c2,by rw [hno],rfl,rfl,ju,fun h=>by rw [hno] at h; cases h⟩
  ·have hb':okR us[j] (deep+1) c=true:=by simpa using hb
   obtain ⟨hc2,hR2⟩:=hrd hb'
   rw [okR,Bool.and_eq_true,decide_eq_true_eq] at hb'
   refine ad (b:=b10) (c:=#[.int .i64 v.kind,.int .i64 v.n,.string v.name,kvc]) hI 3 rfl al ag rfl ?_
   refine aq hI 0 ac rfl (by simpa using hl4) ?_
   refine dM hI 4 cs2 bm (by omega) (by omega) rfl hl4 ho4 (by omega) (by omega) fun kvc2 w' hI=>?_
   have hkv2:=iK (hI.its (aL kvc2 ab 4 (css++[cs2])) (by simp))
   refine cG (b:=b10) (c:=#[.int .i64 v.kind,.int .i64 v.n,.string v.name,kvc]) hI 3 rfl al ag rfl hkv2.1 hkv2.2 fun w' hI=>?_
   have hI:Inv w X [.blk b5 (.cells #[.int .i64 v.kind,.int .i64 v.n,.string v.name,kv] ab),.blk b8 (.cells #[.int .i64 0,.int .i64 0,.string ⟨#[]⟩,.slice none 0 0] ab),.blk b10 (.cells #[.int .i64 v.kind,.int .i64 v.n,.string v.name,kvc2] ab),aL kvc2 ab 4 (css++[cs2]),.blk cb (.cells #[.int .i64 c2] cD)] S2 w':=hI.pick [false,true,true,true,true,true]
   refine bn (by omega) ?_
   refine ⟨⟨j+1,c2,kvc2,css++[cs2],S2,hj1,rfl,hE.trans hE2,by omega,by omega,fun k hk2 hkj=>?_,?_,hI⟩,by simp [intOf]; omega⟩
   ·by_cases e:k=j
    ·subst e
     rw [show 31 - deep - 1=31 - (deep+1) by omega]
     exact hb'.2
    ·exact hdep k hk2 (by omega)
   ·rw [List.take_succ_eq_append_getElem hj1]
    exact (hR.monoR fun _ _ h=>RdT.mono hE2.1 h).snoc hR2 hl4
 ·have hje:j=us.length:=by omega
  subst hje
  rw [List.take_length] at hR hc
  have hyes:okR (.mk v.kind v.n v.name us) deep count=true:=by
   rw [hokd,decide_eq_true (by omega),Bool.true_and,wK,List.all_eq_true]
   intro x hx
   obtain ⟨k,hk2,rfl⟩:=List.mem_iff_getElem.1 hx
   exact hdep k hk2 hk2
  refine aq (b:=b10) (c:=#[.int .i64 v.kind,.int .i64 v.n,.string v.name,kvc]) hI 2 ac rfl rfl ?_
  have hkv2:=iK (hI.its (aL kvc ab 4 css) (by simp))
  have hone:∀ x∈([.int .i64 v.kind,.int .i64 v.n,.string v.name,kvc]:List Value),x.oneCell'=true:=by
   intro x hx
   simp at hx
   rcases hx with rfl|rfl|rfl|rfl <;> first|rfl|exact hkv2.2
  refine ao hI 1 rfl ac rfl rfl hone fun w' hI=>?_
  refine aW (c:=#[.int .i64 v.kind,.int .i64 v.n,.string v.name,kvc]) hI 1 ac rfl rfl ?_
  have hI:Inv w X ([.blk cb (.cells #[.int .i64 c] cD)]++[aL kvc ab 4 css]) S1 w':=(hI.pick [false,false,false,true,true]).perm (List.Perm.swap ..)
  obtain ⟨S3,hE3,hrd,hI⟩:=hI.lendExt
  have hrr:=RowRd.rows (hR.monoR fun _ _ h=>RdT.mono hE3.1 h) hrd
  exact ⟨_,_,_,rfl,hI,hE.trans hE3,[.int .i64 v.kind,.int .i64 v.n,.string v.name,kvc],c,by rw [hyes],rfl,rfl,hone,fun _=>⟨by rw [gz]; omega,RdT.iff.2 ⟨kvc,rfl,hi1,hi2,hs,hrr⟩⟩⟩
theorem zA {N:Nat} {st:aC} (sb:Nat) (hg:Good N st) {j:M9} (hr:Res st j):match j with
  | .one t u=>(okU N t/\wT t<=1048576)->RC st sb t u
  | .list ts us=>(∀ t∈ts,okU N t/\wT t<=1048576)->us.length=ts.length/\∀ i (h:i<us.length) (h':i<ts.length),RC st sb ts[i] us[i]:=by
 induction hr with
 | one hw _ ih=>
  intro ho
  have h1:=ih (jf (dN hg hw ho))
  exact CC hg hw ho h1.1 h1.2
 | nil=>exact fun _=>⟨rfl,fun i h _=>by simp at h⟩
 | cons _ _ ih1 ih2=>
  intro ho
  obtain ⟨h1,h2⟩:=ih2 fun t ht=>ho t (List.mem_cons_of_mem _ ht)
  refine ⟨by simp [h1],fun i h h'=>?_⟩
  cases i with
  | zero=>exact ih1 (ho _ (List.mem_cons_self ..))
  | succ i=>exact h2 i (by simpa using h) (by simpa using h')
theorem CS {N:Nat} {st:aC} (hg:Good N st) {t u:T} (hr:Res st (.one t u)) (ho:okU N t/\wT t<=1048576) {S:ae} {cs:List Value} {sb:Nat} (h:RdT S cs t) (hst:StS S S sb st) :
  Tri Tryz.prog tP [.pointer (some ⟨sb,0,none⟩),.agg cs.toArray] [] S fun q I' S'=>I'=[]/\∃ cs':List Value,cs'.length=4/\(∀ x∈cs',x.oneCell'=true)/\q=.tuple #[.agg cs'.toArray,.bool (cA u)]/\(cA u=true->RdT S' cs' u):=by
 intro w hI
 have hlc:=h.length
 have hI:Inv w [] [] S w:=hI
 have hrc:RC st sb t u:=zA sb hg hr ho
 have e:okR u 1 0=cA u:=by rw [okR,cA,Int.zero_add]; rfl
 refine kJ.2 ?_
 dsimp only[kJ,aX]
 refine be hI fun b3 w' hI=>?_
 refine aG hI aP fun b4 w' hI=>?_
 have hz:fC Tryz.prog cD=some (.int .i64 0):=by kernel_rfl
 refine aG hI hz fun b6 w' hI=>?_
 refine dK hI 2 (n:=1) rfl (by decide +kernel) rfl (by simp [Value.cells]) (by simp [Value.cells,Value.oneCell']) fun w' hI=>?_
 have hI:Inv w [] ([.blk b3 (.cells cs.toArray ab),.blk b4 (.cells #[.int .i64 0,.int .i64 0,.string ⟨#[]⟩,.slice none 0 0] ab)]++[.blk b6 (.cells #[.int .i64 0] cD)]) S w':=hI
 refine aq hI 0 ac rfl (by simpa using hlc) ?_
 refine Run.callE jE jv hI (hrc S cs b6 1 0 h hst (by omega) (by omega) (by omega) (by omega)) fun v' I' S2 w'=>?_
 rintro ⟨cs2,c2,rfl,rfl,hl4,ho4,hrd⟩ hE2 hI
 rw [e] at hrd ⊢
 refine aj rfl ?_
 refine aj rfl ?_
 have hI:Inv w [] [.blk b3 (.cells cs.toArray ab),.blk b4 (.cells #[.int .i64 0,.int .i64 0,.string ⟨#[]⟩,.slice none 0 0] ab),.blk b6 (.cells #[.int .i64 c2] cD)] S2 w':=hI
 refine ao hI 1 rfl ac (by simpa using hl4) rfl (by simpa using ho4) fun w' hI=>?_
 refine aW hI 1 ac rfl (by simpa using hl4) ?_
 exact ⟨_,_,_,rfl,hI.nil,hE2,rfl,cs2,hl4,ho4,rfl,fun h=>(hrd h).2⟩
end
end
section
open Go Go.RowKit

theorem Bm:∀ (a b c:List UInt8),Op.bytesLess a b=true->Op.bytesLess b c=true->Op.bytesLess a c=true
 | _,[],_,h,_=>by simp [Op.bytesLess] at h
 | _,_::_,[],_,h=>by simp [Op.bytesLess] at h
 | [],_::_,_::_,_,_=>by simp [Op.bytesLess]
 | x::a,y::b,z::c,h,h'=>by
  simp only [Op.bytesLess,Bool.or_eq_true,decide_eq_true_eq,Bool.and_eq_true,beq_iff_eq] at h h' ⊢
  rcases h with h|⟨rfl,h⟩
  ·rcases h' with h'|⟨rfl,h'⟩
   ·left; exact UInt8.lt_trans h h'
   ·left; exact h
  ·rcases h' with h'|⟨rfl,h'⟩
   ·left; exact h'
   ·right; exact ⟨rfl,Bm a b c h h'⟩
theorem EA:∀ a:List UInt8,Op.bytesLess a a=false
 | []=>by simp [Op.bytesLess]
 | x::a=>by
  simp only [Op.bytesLess,EA a,Bool.and_false,Bool.or_false,decide_eq_false_iff_not]
  exact UInt8.lt_irrefl x
theorem H9:∀ a b:List UInt8,a≠b->Op.bytesLess a b=true ∨ Op.bytesLess b a=true
 | [],[],h=>absurd rfl h
 | [],_::_,_=>.inl (by simp [Op.bytesLess])
 | _::_,[],_=>.inr (by simp [Op.bytesLess])
 | x::a,y::b,h=>by
  simp only [Op.bytesLess,Bool.or_eq_true,decide_eq_true_eq,Bool.and_eq_true,beq_iff_eq]
  by_cases e:x=y
  ·subst e
   rcases H9 a b (fun e=>h (by rw [e])) with h1|h1
   ·exact .inl (.inr ⟨rfl,h1⟩)
   ·exact .inr (.inr ⟨rfl,h1⟩)
  ·rcases UInt8.lt_or_lt_of_ne e with h1|h1
   ·exact .inl (.inl h1)
   ·exact .inr (.inl h1)
def bls (a b:ByteArray):Bool:=Op.bytesLess a.toList b.toList
def oU (a b:Int):Int:=if a<b then -1 else if b<a then 1 else 0
def gy (a b:ByteArray):Int:=if bls a b=true then -1 else if bls b a=true then 1 else 0
def rkS (t:T):Int:=if t.kind=3/\0<t.kids.length then 4 else t.kind
def zS (a b:Int):Int:=if a≠0 then a else b
def hdC (t u:T):Int:=zS (oU (rkS t) (rkS u)) (zS (oU t.n u.n) (zS (oU t.kids.length u.kids.length) (gy t.name u.name)))
mutual
def wS:T->T->Int
 | .mk k n s ks,u=>zS (hdC (.mk k n s ks) u) (io ks u.kids)
def io:List T->List T->Int
 | [],[]=>0
 | [],_::_=>-1
 | _::_,[]=>1
 | t::ts,u::us=>zS (wS t u) (io ts us)
end
theorem jA (a b:Int):(a<b/\oU a b=-1) ∨ (b<a/\oU a b=1) ∨ (a=b/\oU a b=0):=by
 unfold oU
 by_cases h:a<b
 ·exact .inl ⟨h,if_pos h⟩
 ·by_cases h':b<a
  ·exact .inr (.inl ⟨h',by rw [if_neg h,if_pos h']⟩)
  ·exact .inr (.inr ⟨by omega,by rw [if_neg h,if_neg h']⟩)
theorem toList_inj {a b:ByteArray} (h:a.toList=b.toList):a=b:=by
 have:=BE a b
 rw [beq_iff_eq.2 h] at this
 exact of_decide_eq_true this.symm
theorem gJ (a b:ByteArray):(bls a b=true/\gy a b=-1) ∨ (bls b a=true/\bls a b=false/\gy a b=1) ∨ (a=b/\gy a b=0):=by
 unfold gy
 cases h:bls a b with
 | true=>exact .inl ⟨rfl,if_pos rfl⟩
 | false=>
  cases h':bls b a with
  | true=>exact .inr (.inl ⟨rfl,rfl,by simp⟩)
  | false=>
   refine .inr (.inr ⟨?_,by simp⟩)
   refine toList_inj (Decidable.byContradiction fun e=>?_)
   rcases H9 _ _ e with h1|h1
   ·rw [bls,h1] at h; cases h
   ·rw [bls,h1] at h'; cases h'
theorem OP {a b:ByteArray} (h:bls a b=true):bls b a=false:=by
 cases h':bls b a with
 | false=>rfl
 | true=>
  have:=Bm _ _ _ h h'
  rw [EA] at this
  cases this

structure TC (a b c:Int):Prop where
 lt:a=-1->b=-1->c=-1
 e1:a=0->c=b
 e2:b=0->c=a
theorem TC.lex {a b c a' b' c':Int} (h:TC a b c) (h':TC a' b' c'):TC (zS a a') (zS b b') (zS c c'):=by
 obtain ⟨h1,h2,h3⟩:=h
 obtain ⟨h4,h5,h6⟩:=h'
 unfold zS
 refine ⟨fun x y=>?_,fun x=>?_,fun x=>?_⟩
 ·by_cases ea:a=0
  ·rw [if_neg (by omega)] at x
   by_cases eb:b=0
   ·rw [if_neg (by omega)] at y
    rw [if_neg (by have:=h2 ea; omega)]
    exact h4 x y
   ·rw [if_pos (by omega)] at y
    have:=h2 ea
    rw [if_pos (by omega)]; omega
  ·rw [if_pos (by omega)] at x
   by_cases eb:b=0
   ·have:=h3 eb
    rw [if_pos (by omega)]; omega
   ·rw [if_pos (by omega)] at y
    have:=h1 x y
    rw [if_pos (by omega)]; omega
 ·by_cases ea:a=0
  ·rw [if_neg (by omega)] at x
   rw [h2 ea,h5 x]
  ·rw [if_pos (by omega)] at x; omega
 ·by_cases eb:b=0
  ·rw [if_neg (by omega)] at x
   rw [h3 eb,h6 x]
  ·rw [if_pos (by omega)] at x; omega
theorem TC.zero:TC 0 0 0:=⟨fun h=>by omega,fun _=>rfl,fun _=>rfl⟩
theorem TC.int (a b c:Int):TC (oU a b) (oU b c) (oU a c):=by
 have h1:=jA a b
 have h2:=jA b c
 have h3:=jA a c
 exact ⟨fun _ _=>by omega,fun _=>by omega,fun _=>by omega⟩
theorem TC.str (a b c:ByteArray):TC (gy a b) (gy b c) (gy a c):=by
 refine ⟨fun x y=>?_,fun x=>?_,fun x=>?_⟩
 ·rcases gJ a b with h|h|h
  ·rcases gJ b c with h'|h'|h'
   ·have:=Bm _ _ _ h.1 h'.1
    unfold gy
    rw [if_pos (show bls a c=true from this)]
   ·omega
   ·omega
  ·omega
  ·omega
 ·rcases gJ a b with h|h|h
  ·omega
  ·omega
  ·rw [h.1]
 ·rcases gJ b c with h|h|h
  ·omega
  ·omega
  ·rw [h.1]
theorem TC.hd (t u v:T):TC (hdC t u) (hdC u v) (hdC t v):=(TC.int _ _ _).lex ((TC.int _ _ _).lex ((TC.int _ _ _).lex (TC.str _ _ _)))
mutual
theorem TC.term:∀ t u v:T,TC (wS t u) (wS u v) (wS t v)
 | .mk k n s ks,.mk k' n' s' ks',v=>by
  rw [wS,wS,wS]
  exact (TC.hd _ _ _).lex (TC.list ks ks' v.kids)
theorem TC.list:∀ t u v:List T,TC (io t u) (io u v) (io t v)
 | [],[],[]=>by simpa [io] using TC.zero
 | [],[],_::_=>by rw [io,io]; exact ⟨fun h=>by omega,fun _=>rfl,fun h=>by omega⟩
 | [],_::_,[]=>by rw [io,io,io]; exact ⟨fun _ h=>by omega,fun h=>by omega,fun h=>by omega⟩
 | [],_::_,_::_=>by rw [io,io]; exact ⟨fun h _=>h,fun h=>by omega,fun h=>rfl⟩
 | _::_,[],[]=>by rw [io,io]; exact ⟨fun h _=>h,fun h=>by omega,fun h=>rfl⟩
 | _::_,[],_::_=>by rw [io,io]; exact ⟨fun h _=>by omega,fun h=>by omega,fun h=>by omega⟩
 | _::_,_::_,[]=>by rw [io,io]; exact ⟨fun _ h=>by omega,fun h=>rfl,fun h=>by omega⟩
 | t::ts,u::us,v::vs=>by
  rw [io,io,io]
  exact (TC.term t u v).lex (TC.list ts us vs)
end
theorem qx (a b:Int):-(zS a b)=zS (-a) (-b):=by
 unfold zS
 by_cases h:a=0
 ·subst h; simp
 ·rw [if_pos h,if_pos (by omega)]
theorem s0 (a b:Int):oU b a=-oU a b:=by
 have:=jA a b
 have:=jA b a
 omega
theorem Gv (a b:ByteArray):gy b a=-gy a b:=by
 rcases gJ a b with h|h|h
 ·rw [h.2]
  have:=OP h.1
  unfold gy
  rw [this,if_neg (by decide),if_pos h.1]; rfl
 ·rw [h.2.2]
  unfold gy
  rw [if_pos h.1]
 ·rw [h.2]
  obtain rfl:=h.1
  rw [h.2]; rfl
theorem NM (t u:T):hdC u t=-hdC t u:=by
 rw [hdC,hdC,qx,qx,qx,s0 (rkS t),s0 t.n,s0 t.kids.length,Gv t.name]
mutual
theorem Ec:∀ t u:T,wS u t=-wS t u
 | .mk k n s ks,.mk k' n' s' ks'=>by
  rw [wS,wS,qx,NM (.mk k n s ks)]
  congr 1
  exact EJ ks ks'
theorem EJ:∀ t u:List T,io u t=-io t u
 | [],[]=>by simp [io]
 | [],_::_=>by simp [io]
 | _::_,[]=>by simp [io]
 | t::ts,u::us=>by rw [io,io,qx,Ec t u,EJ ts us]
end
theorem Mz (t:T):wS t t=0:=by
 have:=Ec t t
 omega
def Sorted:List T->Prop
 | []=>True
 | x::xs=>(∀ y∈xs,wS x y<0)/\Sorted xs
theorem Sorted.nodup:∀ {l:List T},Sorted l->l.Nodup
 | [],_=>List.nodup_nil
 | x::xs,h=>by
  rw [List.nodup_cons]
  refine ⟨fun hx=>?_,Sorted.nodup h.2⟩
  have:=h.1 x hx
  rw [Mz] at this
  omega
end
section
open Go Go.RowKit
section
variable {P:Program} {w:World} {K:Value->World->Prop}
attribute [local irreducible] Run
end
section
attribute [local irreducible] Run CondV aB aS
end
end
section
open Go Go.RowKit
section
attribute [local irreducible] Run CondV aB aS
end
end
section
open Go Go.RowKit
def LN:T:=.mk 0 0 ⟨#[]⟩ []
theorem RdT.zero (S:ae):RdT S md LN:=RdT.iff.2 ⟨_,rfl,by simp [inI,T.kind,LN],by simp [inI,T.n,LN],by rw [LN,T.name]; decide +kernel,none,0,rfl,Nat.le_refl _,Nat.zero_le _,.inl rfl⟩
def KRel (S:ae) (cs:List Value) (o:Option T):Prop:=cs.length=4/\(o=none->cs=md)/\∀ t,o=some t->RdT S cs t
theorem KRel.one {S:ae} {cs:List Value} {o:Option T} (h:KRel S cs o):∀ u∈cs,u.oneCell'=true:=by
 cases o with
 | none=>rw [h.2.1 rfl]; simp [md,Value.oneCell']
 | some t=>exact (h.2.2 t rfl).one
theorem KnownC.rd {S:ae} {kb kp:Nat} {kc:Array Value} {st:aC} {E:TypeId} (hS:S kb=some (.cells kc E)) (h:KnownC S kc st) (hst:st.length=26) (hkp:26<=kp) (hkm:kp<=maxLen):RdSl S 4 (KRel S) (kvn kb kp) st:=by
 refine ⟨some ⟨kb,0,none⟩,kp,by rw [hst],by omega,hkm,.inr ⟨kb,0,kc,E,(0,0),rfl,hS,fun i hi=>?_⟩⟩
 obtain ⟨h1,h2⟩:=h.2 i hi
 rw [Nat.zero_add]
 refine ⟨?_,h1,h2⟩
 have:=h.1
 rw [aH,List.length_take,List.length_drop,Array.length_toList]
 omega
section
attribute [local irreducible] Run CondV aB aS
theorem KnownC.mono {S S':ae} {kc:Array Value} {st:aC} (h:KnownC S kc st) (hs:Sle S S'):KnownC S' kc st:=
 ⟨h.1,fun i hi=>⟨(h.2 i hi).1,fun t ht=>((h.2 i hi).2 t ht).mono hs⟩⟩
end
end
section
open Go Go.RowKit
def Fun (f:FuncId) (cap:List Value) (S:ae) (φ:Int->T):Prop:=∀ S',Sle S S'->∀ n:Int,0<=n->n<=25->∃ cs,RdT S' cs (φ n)/\Pure Tryz.prog f (.int .i64 n::cap) S' (.agg cs.toArray)
theorem Fun.mono {f:FuncId} {cap:List Value} {S S':ae} {φ:Int->T} (h:Fun f cap S φ) (hs:Sle S S'):Fun f cap S' φ:=fun S2 h2=>h S2 (hs.trans h2)
section
attribute [local irreducible] Run CondV aB aS
end
end
section
open Go Go.RowKit
section
attribute [local irreducible] Run CondV aB aS
theorem Gp {K:Value->World->Prop} {w:World} {mb:Nat} (hk:K (.agg #[.map (some mb),.slice none 0 0]) w):Run Tryz.prog (bW dj [(0,.map (some mb))]) w K:=by
 refine Run.of (v:=.agg #[.map (some mb),.slice none 0 0]) (w':=w) ?_ hk
 unfold bW
 rw [Sem.run_bind,run_build w dj _ #[.map (some mb),.slice none 0 0] (by kernel_rfl),Result.andThen_ok]
 rfl
theorem BB (S:ae):Tri Tryz.prog Fs [] [] S fun r I' S'=>S'=S/\∃ sb mb,r=.pointer (some ⟨sb,0,none⟩)/\I'=aV sb mb #[] 0 (.slice none 0 0) []:=by
 intro w hI
 have hI:Inv w [] [] S w:=hI
 refine r6.2 ?_
 dsimp only[r6,r7]
 refine xo hI fun mb w' hI=>?_
 refine Gp ?_
 refine be hI fun sb w' hI=>?_
 have hI:=hI.rowNil cD 1
 have hI:Inv w [] (aV sb mb #[] 0 (.slice none 0 0) []) S w':=hI.perm (List.Perm.swap ..)
 exact ⟨_,_,_,rfl,hI,Ext.refl _ _ _,rfl,sb,mb,rfl,rfl⟩
theorem KnownM.none (S:ae) (N:Nat):KnownM S #[] (List.replicate N Option.none):=by
 refine ⟨fun e he=>by simp at he,fun n t h=>?_,by simp⟩
 have:=List.mem_of_getElem? h
 simp at this
end
end
section
open Go Go.RowKit
def Qn:aC:=List.replicate 26 none
theorem Il:∀ n:Nat,unb (List.replicate n none)=n
 | 0=>rfl
 | n+1=>by rw [List.replicate_succ,unb,Il n]
theorem nH (N:Nat):Good N (List.replicate N none):=⟨by simp,fun t ht=>by simp at ht,fun t ht=>by simp at ht,fun n=>n,fun n u hu=>by
 have:=List.mem_of_getElem? hu
 simp at this⟩
theorem KnU.zero (z:Array Value) (hz:z=#[.int .i64 0,.int .i64 0,.string ⟨#[]⟩,.slice none 0 0]) (S:ae) (N:Nat):KnU S ((Array.range (N * 4)).map (z[· % z.size]!)) (List.replicate N none):=by
 subst hz
 refine ⟨by simp,fun i hi=>⟨fun _=>?_,fun t ht=>?_⟩⟩
 ·simp only [List.length_replicate] at hi
  apply List.ext_getElem?
  intro j
  rw [aH,List.getElem?_take]
  match j with
  | 0|1|2|3=>
   rw [if_pos (by omega),List.getElem?_drop,Array.getElem?_toList,Array.getElem?_map,Array.getElem?_range,if_pos (by omega)]
   simp only [Option.map_some,List.size_toArray,List.length_cons,List.length_nil]
   first
    | rw [show (i * 4+0) % 4=0 by omega]; rfl
    | rw [show (i * 4+1) % 4=1 by omega]; rfl
    | rw [show (i * 4+2) % 4=2 by omega]; rfl
    | rw [show (i * 4+3) % 4=3 by omega]; rfl
  | j+4=>
   rw [if_neg (by omega)]
   rfl
 ·have e:(List.replicate N (none:Option T))[i]=none:=by simp
  rw [e] at ht
  cases ht
def sd (code:Int) (st:aC):Bool:=decide (code=0) && st.all Option.isNone
def Mi (f:Bool):Value->List Item->ae->Prop:=fun q _ _=>∃ a n cap c,q=.tuple #[.slice a n cap,.int .i64 c]/\(decide (c=0) && decide (n=0))=f
theorem HC {st:aC} {j:Nat} (h:j<st.length):(st.take (j+1)).all Option.isNone=((st.take j).all Option.isNone && st[j].isNone):=by
 rw [List.take_succ_eq_append_getElem h,List.all_append]
 simp
theorem Jc {st:aC} {j:Nat} (h:j<st.length) {t:T} (hs:st[j]=some t):st.all Option.isNone=false:=by
 rw [List.all_eq_false]
 exact ⟨st[j],List.getElem_mem h,by rw [hs]; simp⟩
section
variable {w:World} {K:Value->World->Prop}
attribute [local irreducible] Run CondV aB aS
theorem zo {n:Int} {cs:List Value} (h4:cs.length=4) (hk:K (.agg (([Value.int .i64 n]:List Value)++cs).toArray) w):Run Tryz.prog (bW df [(0,.int .i64 n),(1,.agg cs.toArray)]) w K:=by
 match cs,h4 with
 | [a,b,c,d],_=>
  refine Run.of (v:=.agg #[.int .i64 n,a,b,c,d]) (w':=w) ?_ hk
  unfold bW
  rw [Sem.run_bind,run_build w df _ #[.int .i64 n,a,b,c,d] (by kernel_rfl),Result.andThen_ok]
  rfl
set_option maxHeartbeats 1000000 in
theorem rq {g:T} {code:Int} {st':aC} (hv:dd g=true) (hb:cM g=true) (ho:okU 26 g/\wT g<=1048576) (hn:okN g) (hB:Blt Qn g code st') {S:ae} {cs:List Value} (h:RdT S cs g) :
  Tri Tryz.prog zM [.agg cs.toArray] [] S (Mi (sd code st')):=by
 intro w hI
 have hl4:=h.length
 have h0:=h
 have hg':=hB.good (nH 26) hb ho
 obtain ⟨kv,rfl,_,_,_,hks⟩:=RdT.iff.1 h
 have hbt:=hb
 rw [cM,Bool.and_eq_true] at hb
 obtain ⟨hk3,hbs⟩:=hb
 refine nE.2 ?_
 dsimp only[nE,aO]
 refine be hI fun b1 w' hI=>?_
 refine dE hI ri fun v4 w' hI=>?_
 obtain ⟨a4,n4,c4,hv4⟩:=hI.rowSlice 1 rfl
 have hn4:n4=0:=by
  have hm:w'.ownsRow 0 df 5 v4 0 []:=hI.its (.row v4 df 5 0 []) (by simp)
  rcases hm.2 with ⟨e1,e2⟩|⟨g1,c1,u1,e1,_⟩
  ·rw [hv4] at e1; simp only [Value.slice.injEq] at e1; omega
  ·rw [hv4] at e1; simp only [Value.slice.injEq] at e1; omega
 rw [hn4] at hv4
 have hI:Inv w [] [.blk b1 (.cells #[.int .i64 g.kind,.int .i64 g.n,.string g.name,kv] ab),.row v4 df 5 0 []] S w':=hI
 refine ⟨fun q w'=>q=.bool false/\Inv w [] [.blk b1 (.cells #[.int .i64 g.kind,.int .i64 g.n,.string g.name,kv] ab),.row v4 df 5 0 []] S w',?_,?_⟩
 ·refine aq hI 0 ac rfl rfl ?_
  refine Run.callPure fW gd hI (fi h0 (Ah ho.2)) fun w' hI=>?_
  rw [hv]
  refine bM ?_
  refine rpG ?_
  refine ad hI 0 rfl aE aw rfl ?_
  refine cE ?_
  rw [hk3]
  refine rpG ?_
  refine ad hI 0 rfl aM aJ rfl ?_
  refine ad hI 0 rfl al ag rfl ?_
  refine aD hks af ?_
  refine Run.callPure gj f1 hI (fh _ _ S) fun w' hI=>?_
  rw [hbs]
  refine bM ?_
  refine rpG ?_
  exact ⟨rfl,hI⟩
 intro q _ _ _ _ _ _ _ _ _ _ _ _ _ _ _ _ w'
 rintro ⟨rfl,hI⟩
 refine az (fun hb=>by cases hb) (fun _=>?_)
 refine nU (n:=26) hI bm (by omega) (by omega) (by omega) fun kb w' hI=>?_
 refine aq hI 0 ac rfl rfl ?_
 refine Run.callE (A:=[_,_]) vQ we hI (oT (kp:=26) (by omega) (by omega) (Nat.le_refl _) (by decide) (nH 26) ho hn hbt hB h0 (KnU.zero _ rfl S 26)) fun v' I' S1 w'=>?_
 rintro ⟨rfl,rfl,kc,rfl,hkn⟩ hE0 hI
 refine cE ?_
 refine az (fun hc=>?_) (fun hc=>?_)
 ·refine ⟨_,_,_,rfl,hI.nil,Ext.refl _ _ _,a4,0,c4,code,by rw [hv4],?_⟩
  have:code≠0:=by simpa using hc
  rw [sd,decide_eq_false this]
  rfl
 have hc0:code=0:=by simpa using hc
 subst hc0
 have hl26:=hg'.len
 refine dE hI ri fun v7 w' hI=>?_
 refine ⟨fun t8 t7 w'=>∃ (j:Nat) (css:List (List Value)) (S2:ae),j<=26/\t8=.int .i64 j/\css.length<=j/\decide (css.length=0)=(st'.take j).all Option.isNone/\Ext w.heap.size [] S1 S2/\
   Inv w [] [.blk b1 (.cells #[.int .i64 g.kind,.int .i64 g.n,.string g.name,kv] ab),.row v4 df 5 0 [],.blk kb (.cells kc ab),aL t7 df 5 css] S2 w',
  fun t8 _ _=>26 - (intOf t8).toNat,⟨0,[],S1,Nat.zero_le _,rfl,Nat.le_refl _,by simp,Ext.refl _ _ _,hI⟩,?_⟩
 intro t8 _ _ t7 _ _ _ _ _ _ _ _ _ _ _ _ _ _ _ _ _ _ _ _ _ _ _ _ _ _ _ _ _ _ _ _ _ _ _ _ _ w'
 rintro ⟨j,css,S2,hj,rfl,hcl,hcs,hE2,hI⟩
 refine dX af ?_
 refine bA ?_
 refine aI (fun hji=>?_) (fun hji=>?_)
 ·have hj':j<26:=by omega
  have hjl:j<st'.length:=by omega
  have hkn:=hkn.mono hE2.1
  have hro:=hkn.rdO j hjl
  have hroL:=hro.length
  have hnext:=HC (st:=st') hjl
  refine ⟨fun t7 w'=>∃ (css:List (List Value)) (S2:ae),css.length<=j+1/\decide (css.length=0)=(st'.take (j+1)).all Option.isNone/\Ext w.heap.size [] S1 S2/\
   Inv w [] [.blk b1 (.cells #[.int .i64 g.kind,.int .i64 g.n,.string g.name,kv] ab),.row v4 df 5 0 [],.blk kb (.cells kc ab),aL t7 df 5 css] S2 w',?_,?_⟩
  ·refine au af hj' ?_
   rw [Nat.zero_add]
   refine ai aE ?_
   cases hs:st'[j] with
   | none=>
    rw [hs] at hro hnext
    refine aA (v:=.int .i64 0) hI 2 aw rfl (ar (k:=4) hro 0 _ rfl) ?_
    refine aY ?_
    rw [decide_eq_true rfl]
    refine az (fun _=>?_) (fun hb=>by cases hb)
    exact ⟨css,S2,by omega,by rw [hcs,hnext]; simp,hE2,hI⟩
   | some t=>
    rw [hs] at hro hnext
    have hro:RdT S2 (aH kc (j * 4) 4) t:=hro
    have hall:=Jc hjl hs
    have hmem:some t∈st':=by rw [<- hs]; exact List.getElem_mem hjl
    have hto:=hg'.ok t hmem
    have htw:=hg'.w t hmem
    have hko:=hto.kind
    refine aA (v:=.int .i64 t.kind) hI 2 aw rfl (ar rfl 0 _ hro.f0) ?_
    refine aY ?_
    rw [decide_eq_false hko]
    refine az (fun hb=>by cases hb) (fun _=>?_)
    refine au af hj' ?_
    rw [Nat.zero_add]
    refine b0 hI 2 (aH kc (j * 4) 4) ac rfl hro.length (fun i v hi=>ar rfl i v hi) ?_
    obtain ⟨u,hu⟩:=Fv hg' t hto
    have hfull:FC 26 26 st' t u:=GB hg' hu ⟨hto,htw⟩
    have hI:=hI.perm (M:=[.blk b1 (.cells #[.int .i64 g.kind,.int .i64 g.n,.string g.name,kv] ab),.row v4 df 5 0 [],aL t7 df 5 css]++[.blk kb (.cells kc ab)]) (((List.Perm.swap ..).cons _).cons _)
    refine Run.callE (A:=[_,_,_]) mi l6 hI (hfull S2 _ kb kc 120 hro hkn (by omega) (by omega)) fun v' I' S3 w'=>?_
    rintro ⟨rfl,ds,hdl,hd1,rfl,hdr⟩ hE3 hI
    refine aj (v:=.agg ds.toArray) rfl ?_
    refine aj (v:=.int .i64 _) rfl ?_
    refine aG hI aP fun b9 w' hI=>?_
    refine ao hI 4 rfl ac (by simpa using hdl) rfl (by simpa using hd1) fun w' hI=>?_
    have hI:Inv w [] [.blk b1 (.cells #[.int .i64 g.kind,.int .i64 g.n,.string g.name,kv] ab),.row v4 df 5 0 [],aL t7 df 5 css,.blk kb (.cells kc ab),.blk b9 (.cells ds.toArray ab)] S3 w':=hI
    refine ⟨fun q w'=>∃ b,q=.bool b/\Inv w [] [.blk b1 (.cells #[.int .i64 g.kind,.int .i64 g.n,.string g.name,kv] ab),.row v4 df 5 0 [],aL t7 df 5 css,.blk kb (.cells kc ab),.blk b9 (.cells ds.toArray ab)] S3 w',?_,?_⟩
    ·refine bA ?_
     by_cases hroom:dF u<=120
     ·rw [if_pos hroom,decide_eq_false (by omega)]
      refine rpG ?_
      refine aq hI 4 ac rfl (by simpa using hdl) ?_
      refine Run.callPure fW gd hI (fi (hdr hroom) (by omega)) fun w' hI=>?_
      refine bM ?_
      refine rpG ?_
      exact ⟨_,rfl,hI⟩
     ·rw [if_neg hroom,decide_eq_true (by omega)]
      refine rpG ?_
      exact ⟨_,rfl,hI⟩
    intro q _ _ _ _ _ _ w'
    rintro ⟨b,rfl,hI⟩
    refine az (fun hb=>?_) (fun hb=>?_)
    ·refine ⟨_,_,_,rfl,hI.nil,(hE0.trans (hE2.trans hE3)),a4,0,c4,5,by rw [hv4],?_⟩
     rw [sd,hall]
     rfl
    ·refine aq hI 4 ac rfl (by simpa using hdl) ?_
     refine zo hdl ?_
     obtain ⟨xs,hxs⟩:∃ xs:List Value,xs=[Value.int .i64 (j:Int)]++ds:=⟨_,rfl⟩
     have hxl:xs.length=5:=by rw [hxs]; simp [hdl]
     have hx1:∀ u∈xs,u.oneCell'=true:=by
      intro u hu
      rw [hxs] at hu
      rcases List.mem_append.1 hu with hu|hu
      ·simp at hu; subst hu; rfl
      ·exact hd1 u hu
     rw [<- hxs]
     refine dM (css:=css) hI 2 xs ri (by omega) (by omega) rfl hxl hx1 (by omega) (by omega) fun v' w' hI=>?_
     have hI:Inv w [] [.blk b1 (.cells #[.int .i64 g.kind,.int .i64 g.n,.string g.name,kv] ab),.row v4 df 5 0 [],aL v' df 5 (css++[xs]),.blk kb (.cells kc ab),.blk b9 (.cells ds.toArray ab)] S3 w':=hI
     refine ⟨css++[xs],S3,by simp; omega,?_,hE2.trans hE3,?_⟩
     ·rw [hnext]; simp
     ·exact (hI.pick [true,true,true,true]).perm (((List.Perm.swap ..).cons _).cons _)
  intro t7 _ _ _ _ _ _ _ _ _ _ _ _ _ _ _ _ _ _ _ _ _ _ _ _ _ _ _ _ _ _ _ _ _ w'
  rintro ⟨css,S2,h1,h2,h3,hI⟩
  refine bn (by omega) ?_
  exact ⟨⟨j+1,css,S2,by omega,rfl,h1,h2,h3,hI⟩,by simp [intOf]; omega⟩
 ·have:j=26:=by omega
  subst this
  obtain ⟨a7,n7,c7,hv7⟩:=hI.rowSlice 3 rfl
  have hn7:n7=css.length:=by
   have hm:w'.ownsRow 0 df 5 t7 css.length css.flatten:=hI.its (aL t7 df 5 css) (by simp)
   rcases hm.2 with ⟨e1,e2⟩|⟨g1,c1,u1,e1,_⟩
   ·rw [hv7] at e1; simp only [Value.slice.injEq] at e1; omega
   ·rw [hv7] at e1; simp only [Value.slice.injEq] at e1; omega
  refine ⟨_,_,_,rfl,hI.nil,hE0.trans hE2,a7,n7,c7,0,by rw [hv7],?_⟩
  rw [hn7,hcs,sd,<- hl26,List.take_length]
set_option maxHeartbeats 1000000 in
theorem uL {st:aC} (hg:Good 26 st) {S:ae} {sb:Nat} (hst:StS S S sb st):Tri Tryz.prog CM [.pointer (some ⟨sb,0,none⟩)] [] S
  fun q _ _=>∃ a n cap b,q=.tuple #[.slice a n cap,.bool b]/\(b && decide (n=0))=st.all Option.isNone:=by
 intro w hI
 have hI:Inv w [] [] S w:=hI
 have hl26:=hg.len
 refine qM.2 ?_
 dsimp only[qM,aO]
 have hI:=hI.rowNil df 5
 refine ⟨fun t9 t4 w'=>∃ (j:Nat) (css:List (List Value)) (S2:ae),j<=26/\t9=.int .i64 j/\css.length<=j/\decide (css.length=0)=(st.take j).all Option.isNone/\Ext w.heap.size [] S S2/\Inv w [] [aL t4 df 5 css] S2 w',
  fun t9 _ _=>26 - (intOf t9).toNat,⟨0,[],S,Nat.zero_le _,rfl,Nat.le_refl _,by simp,Ext.refl _ _ _,hI⟩,?_⟩
 intro t9 _ t4 _ _ _ _ _ _ _ _ _ _ _ _ _ _ _ _ _ _ _ _ _ _ _ _ _ _ _ _ _ _ _ _ _ w'
 rintro ⟨j,css,S2,hj,rfl,hcl,hcs,hE2,hI⟩
 have hstj:=hst.up hE2.1
 obtain ⟨mb,tv,es,ck,E,hsb,hmb,hkm⟩:=id hstj
 refine bA ?_
 refine aI (fun hji=>?_) (fun hji=>?_)
 ·have hj':j<26:=by omega
  have hjl:j<st.length:=by omega
  have hnext:=HC (st:=st) hjl
  refine ⟨fun t4 w'=>∃ (css:List (List Value)) (S2:ae),css.length<=j+1/\decide (css.length=0)=(st.take (j+1)).all Option.isNone/\Ext w.heap.size [] S S2/\Inv w [] [aL t4 df 5 css] S2 w',?_,?_⟩
  ·refine bD ?_
   refine ai lK ?_
   refine cz (v:=.map (some mb)) rI (by rw [hI.cellS hsb]; rfl) ?_
   cases hs:st[j] with
   | none=>
    rw [hs] at hnext
    have hf:Instr.findNow (.int .i64) (.int .i64 j) es.toList 0=some none:=by
     rcases hkm.find j with ⟨_,_,u,_,_,_,_,hu⟩|⟨_,hf⟩
     ·rw [List.getElem?_eq_getElem hjl,hs] at hu; cases hu
     ·exact hf
    refine kD (c:=true) (v:=.agg #[.int .i64 0,.int .i64 0,.string ⟨#[]⟩,.slice none 0 0]) (ok:=false) ((hI.pub _ _ hmb).1) dO eW aP (.inr ⟨hf,rfl,rfl⟩) ?_
    refine aj (v:=.agg #[.int .i64 0,.int .i64 0,.string ⟨#[]⟩,.slice none 0 0]) rfl ?_
    refine aj (v:=.bool false) rfl ?_
    refine aG hI aP fun b6 w' hI=>?_
    refine ao hI 1 rfl ac rfl rfl (by simp [Value.oneCell']) fun w' hI=>?_
    refine bM ?_
    refine az (fun _=>?_) (fun hb=>by cases hb)
    exact ⟨css,S2,by omega,by rw [hcs,hnext]; simp,hE2,hI.pick [true]⟩
   | some t=>
    rw [hs] at hnext
    have hall:=Jc hjl hs
    have hmem:some t∈st:=by rw [<- hs]; exact List.getElem_mem hjl
    have hto:=hg.ok t hmem
    have htw:=hg.w t hmem
    obtain ⟨cs,hf,hR⟩:∃ cs,(∃ i,Instr.findNow (.int .i64) (.int .i64 j) es.toList 0=some (some (i,.agg (List.toArray cs))))/\RdT S2 cs t:=by
     rcases hkm.find j with ⟨i,v,u,cs,hf,rfl,hR,hu⟩|⟨hno,_⟩
     ·rw [List.getElem?_eq_getElem hjl,hs] at hu
      cases hu
      exact ⟨cs,⟨i,hf⟩,hR⟩
     ·exact absurd (by rw [List.getElem?_eq_getElem hjl,hs]) (hno t)
    obtain ⟨i,hf⟩:=hf
    refine kD (c:=true) (v:=.agg cs.toArray) (ok:=true) ((hI.pub _ _ hmb).1) dO eW aP (.inl ⟨i,hf,rfl⟩) ?_
    refine aj (v:=.agg cs.toArray) rfl ?_
    refine aj (v:=.bool true) rfl ?_
    refine aG hI aP fun b6 w' hI=>?_
    refine ao hI 1 rfl ac (by simpa using hR.length) rfl (by simpa using hR.one) fun w' hI=>?_
    refine bM ?_
    refine az (fun hb=>by cases hb) (fun _=>?_)
    refine aq hI 1 ac rfl (by simpa using hR.length) ?_
    obtain ⟨u,hu⟩:=Fv hg t hto
    refine Run.call0E tB tx hI (CS hg hu ⟨hto,htw⟩ hR hstj) fun v' I' S3 w'=>?_
    rintro ⟨rfl,ds,hdl,hd1,rfl,hdr⟩ hE3 hI
    refine aj (v:=.agg ds.toArray) rfl ?_
    refine aj (v:=.bool (cA u)) rfl ?_
    refine aG hI aP fun b8 w' hI=>?_
    refine ao hI 2 rfl ac (by simpa using hdl) rfl (by simpa using hd1) fun w' hI=>?_
    have hI:Inv w [] [aL t4 df 5 css,.blk b6 (.cells cs.toArray ab),.blk b8 (.cells ds.toArray ab)] S3 w':=hI
    refine bM ?_
    refine az (fun hb=>?_) (fun hb=>?_)
    ·refine ⟨_,_,_,rfl,hI.nil,hE2.trans hE3,none,0,0,false,rfl,?_⟩
     rw [hall]; rfl
    ·refine aq hI 2 ac rfl (by simpa using hdl) ?_
     refine zo hdl ?_
     obtain ⟨xs,hxs⟩:∃ xs:List Value,xs=[Value.int .i64 (j:Int)]++ds:=⟨_,rfl⟩
     have hxl:xs.length=5:=by rw [hxs]; simp [hdl]
     have hx1:∀ u∈xs,u.oneCell'=true:=by
      intro u hu
      rw [hxs] at hu
      rcases List.mem_append.1 hu with hu|hu
      ·simp at hu; subst hu; rfl
      ·exact hd1 u hu
     rw [<- hxs]
     refine dM (css:=css) hI 0 xs ri (by omega) (by omega) rfl hxl hx1 (by omega) (by omega) fun v' w' hI=>?_
     refine ⟨css++[xs],S3,by simp; omega,?_,hE2.trans hE3,hI.pick [true]⟩
     rw [hnext]; simp
  intro t4 _ _ _ _ _ _ _ _ _ _ _ _ _ _ _ _ _ _ _ _ _ _ _ _ _ _ _ _ _ _ _ _ w'
  rintro ⟨css,S2,h1,h2,h3,hI⟩
  refine bn (by omega) ?_
  exact ⟨⟨j+1,css,S2,by omega,rfl,h1,h2,h3,hI⟩,by simp [intOf]; omega⟩
 ·have:j=26:=by omega
  subst this
  obtain ⟨a7,n7,c7,hv7⟩:=hI.rowSlice 0 rfl
  have hn7:n7=css.length:=by
   have hm:w'.ownsRow 0 df 5 t4 css.length css.flatten:=hI.its (aL t4 df 5 css) (by simp)
   rcases hm.2 with ⟨e1,e2⟩|⟨g1,c1,u1,e1,_⟩
   ·rw [hv7] at e1; simp only [Value.slice.injEq] at e1; omega
   ·rw [hv7] at e1; simp only [Value.slice.injEq] at e1; omega
  refine ⟨_,_,_,rfl,hI.nil,hE2,a7,n7,c7,true,by rw [hv7],?_⟩
  rw [hn7,hcs,<- hl26,List.take_length,Bool.true_and]
set_option maxHeartbeats 1000000 in
theorem rn {g:T} {f:Bool} (hv:dd g=true) (ho:okU 26 g/\wT g<=1048576) (hn:okN g) (hf:(cM g=false/\f=false) ∨ (cM g=true/\∃ code st',Blt Qn g code st'/\f=sd code st')) {S:ae} {cs:List Value} (h:RdT S cs g) :
  Tri Tryz.prog zN [.agg cs.toArray] [] S (Mi f):=by
 intro w hI
 have hI:Inv w [] [] S w:=hI
 have hl4:=h.length
 refine nf.2 ?_
 dsimp only[nf,aO]
 refine be hI fun b1 w' hI=>?_
 have hI:Inv w [] [.blk b1 (.cells cs.toArray ab)] S w':=hI
 refine ⟨fun q w'=>q=.bool (!cM g)/\Inv w [] [.blk b1 (.cells cs.toArray ab)] S w',?_,?_⟩
 ·refine aq hI 0 ac rfl (by simpa using hl4) ?_
  refine Run.callPure lu lq hI (i7 h) fun w' hI=>?_
  rw [hv]
  refine bM ?_
  refine rpG ?_
  refine aq hI 0 ac rfl (by simpa using hl4) ?_
  refine Run.callPure j6 j5 hI (jm h) fun w' hI=>?_
  refine bM ?_
  refine rpG ?_
  exact ⟨rfl,hI⟩
 intro q _ _ _ _ _ _ _ w'
 rintro ⟨rfl,hI⟩
 rcases hf with ⟨hb,rfl⟩|⟨hb,code,st',hB,rfl⟩
 ·rw [hb]
  refine az (fun _=>?_) (fun hb=>by cases hb)
  exact ⟨_,_,_,rfl,hI.nil,Ext.refl _ _ _,none,0,0,6,rfl,rfl⟩
 rw [hb]
 refine az (fun hb=>by cases hb) (fun _=>?_)
 have hg':=hB.good (nH 26) hb ho
 refine Run.call0E C5 Dw hI (BB S) fun v' I' S' w'=>?_
 rintro ⟨rfl,sb,mb,rfl,rfl⟩ hE1 hI
 refine aq hI 0 ac rfl (by simpa using hl4) ?_
 refine Run.callE (A:=[_]) Aa zB hI (Gu (by omega) (nH 26) ho hn hb hB h (KnownM.none _ 26) (by rw [Il]; simp)) fun v' I' S' w'=>?_
 rintro ⟨rfl,rfl,es,ck,tv,tr,rfl,hkm,_,_⟩ hE2 hI
 refine cE ?_
 refine az (fun hc=>?_) (fun hc=>?_)
 ·refine ⟨_,_,_,rfl,hI.nil,Ext.refl _ _ _,none,0,0,code,rfl,?_⟩
  have:code≠0:=by simpa using hc
  rw [sd,decide_eq_false this]
  rfl
 have hc0:code=0:=by simpa using hc
 subst hc0
 have hI:=hI.perm (M:=[.blk b1 (.cells cs.toArray ab),dZ tv tr]++bq [(sb,.cells #[.map (some mb),tv] dj),(mb,.map es ck)]) (List.Perm.cons _ (List.perm_append_comm (l₁:=[dZ tv tr]) (l₂:=bq [(sb,.cells #[.map (some mb),tv] dj),(mb,.map es ck)])))
 obtain ⟨S3,hI,hE3,hins⟩:=Inv.pubExt hI
 have hst:StS S3 S3 sb st':=⟨mb,tv,es,ck,dj,hins _ (List.mem_cons_self ..),hins _ (List.mem_cons_of_mem _ (List.mem_cons_self ..)),hkm.up hE3.1⟩
 refine Run.call0E Cf AF hI (uL hg' hst) fun v' I' S4 w'=>?_
 rintro ⟨a,n,cap,b,rfl,hbn⟩ hE4 hI
 refine aj (v:=.slice a n cap) rfl ?_
 refine aj (v:=.bool b) rfl ?_
 refine bM ?_
 refine az (fun hb=>?_) (fun hb=>?_)
 ·have hb:b=false:=by simpa using hb
  refine ⟨_,_,_,rfl,hI.nil,hE3.trans hE4,none,0,0,5,rfl,?_⟩
  rw [hb,Bool.false_and] at hbn
  rw [sd,<- hbn]
  rfl
 ·have hb:b=true:=by simpa using hb
  refine ⟨_,_,_,rfl,hI.nil,hE3.trans hE4,a,n,cap,0,rfl,?_⟩
  rw [hb,Bool.true_and] at hbn
  rw [sd,<- hbn]
end
end
section
open Go Go.RowKit
structure Ch where
 goal:T
 rest:List (T × Int)
 left:List Int
 binds:aC
structure St6 where
 goals:List (T × Int)
 binds:aC
 chs:List Ch
def RdCh (S:ae) (cs:List Value) (c:Ch):Prop:=∃ hd g l b,cs=hd++[g,l,b]/\RdT S hd c.goal/\RdSl S 5 (RdG S) g c.rest/\RdSl S 1 ig l c.left/\RdSl S 4 (RdO S) b c.binds
theorem RdSl.sl {α:Type} {S:ae} {k:Nat} {R:List Value->α->Prop} {v:Value} {xs:List α} (h:RdSl S k R v xs):v.oneCell'=true:=by
 obtain ⟨a,m,rfl,_⟩:=h; rfl
theorem RdSl.monoO {S S':ae} {v:Value} {st:aC} (hs:Sle S S') (h:RdSl S 4 (RdO S) v st):RdSl S' 4 (RdO S') v st:=h.mono hs fun _ _=>RdO.mono hs
theorem RdCh.length {S:ae} {cs:List Value} {c:Ch} (h:RdCh S cs c):cs.length=7:=by
 obtain ⟨hd,g,l,b,rfl,h,_⟩:=h; simp [h.length]
theorem RdCh.one {S:ae} {cs:List Value} {c:Ch} (h:RdCh S cs c):∀ u∈cs,u.oneCell'=true:=by
 obtain ⟨hd,g,l,b,rfl,h,h1,h2,h3⟩:=h
 intro u hu
 rcases List.mem_append.1 hu with hu|hu
 ·exact h.one u hu
 ·simp only [List.mem_cons,List.not_mem_nil,or_false] at hu
  rcases hu with rfl|rfl|rfl
  ·exact h1.sl
  ·exact h2.sl
  ·exact h3.sl
theorem RdCh.mono {S S':ae} {cs:List Value} {c:Ch} (hs:Sle S S') (h:RdCh S cs c):RdCh S' cs c:=by
 obtain ⟨hd,g,l,b,rfl,h,h1,h2,h3⟩:=h
 exact ⟨hd,g,l,b,rfl,h.mono hs,h1.monoG hs,h2.mono hs fun _ _ h=>h,h3.monoO hs⟩
theorem RdSl.monoCh {S S':ae} {v:Value} {cs:List Ch} (hs:Sle S S') (h:RdSl S 7 (RdCh S) v cs):RdSl S' 7 (RdCh S') v cs:=h.mono hs fun _ _=>RdCh.mono hs
def RdS6 (S:ae) (cs:List Value) (s:St6):Prop:=∃ g b c,cs=[g,b,c]/\RdSl S 5 (RdG S) g s.goals/\RdSl S 4 (RdO S) b s.binds/\RdSl S 7 (RdCh S) c s.chs
theorem RdS6.length {S:ae} {cs:List Value} {s:St6} (h:RdS6 S cs s):cs.length=3:=by
 obtain ⟨g,b,c,rfl,_⟩:=h; rfl
theorem RdS6.one {S:ae} {cs:List Value} {s:St6} (h:RdS6 S cs s):∀ u∈cs,u.oneCell'=true:=by
 obtain ⟨g,b,c,rfl,h1,h2,h3⟩:=h
 intro u hu
 simp only [List.mem_cons,List.not_mem_nil,or_false] at hu
 rcases hu with rfl|rfl|rfl
 ·exact h1.sl
 ·exact h2.sl
 ·exact h3.sl
theorem RdS6.mono {S S':ae} {cs:List Value} {s:St6} (hs:Sle S S') (h:RdS6 S cs s):RdS6 S' cs s:=by
 obtain ⟨g,b,c,rfl,h1,h2,h3⟩:=h
 exact ⟨g,b,c,rfl,h1.monoG hs,h2.monoO hs,h3.monoCh hs⟩
theorem RdSl.nil0 {α:Type} (S:ae) (k:Nat) (R:List Value->α->Prop):RdSl S k R (.slice none 0 0) []:=⟨none,0,rfl,Nat.le_refl _,Nat.zero_le _,.inl rfl⟩
section
variable {w:World} {K:Value->World->Prop}
attribute [local irreducible] Run
theorem Dy {a:Option Addr} {n m:Nat} (hk:K (.agg #[.slice none 0 0,.slice a n m,.slice none 0 0]) w) :
  Run Tryz.prog (bW bK [(1,.slice a n m)]) w K:=by
 refine Run.of (v:=.agg #[.slice none 0 0,.slice a n m,.slice none 0 0]) (w':=w) ?_ hk
 unfold bW
 rw [Sem.run_bind,run_build w bK _ #[.slice none 0 0,.slice a n m,.slice none 0 0] (by kernel_rfl),Result.andThen_ok]
 rfl
end
section
attribute [local irreducible] Run CondV aB aS
abbrev Ro (s:St6):Value->List Item->ae->Prop:=fun q I' S'=>I'=[]/\∃ cs,q=.agg cs.toArray/\RdS6 S' cs s
theorem Dl {ts:List T} {S:ae} {v:Value} (h:RdSl S 4 (RdT S) v ts) (ho:∀ t∈ts,okU 26 t/\wT t<=1048576) (hl:ts.length<=1000000) :
  Tri Tryz.prog Jt [v] [] S (Ro ⟨ts.map (fun t=>(cH 0 t,0)),List.replicate 26 none,[]⟩):=by
 intro w hI
 refine uP.2 ?_
 dsimp only[uP,aO]
 refine aG hI fR fun b2 w' hI=>?_
 refine nU (n:=26) hI bm (by omega) (by omega) (by omega) fun kb w' hI=>?_
 have hk:=KnU.zero _ rfl S 26
 obtain ⟨S1,hI,hE,hkb⟩:=Inv.pub1 (A:=[_]) hI
 have hkr:RdSl S1 4 (RdO S) (.slice (some ⟨kb,0,none⟩) 26 26) (List.replicate 26 none):=hk.rd (cap:=26) hkb (by simp) (by simp [maxLen])
 refine Dy ?_
 refine aG hI fR fun b3 w' hI=>?_
 have hI:Inv w [] [.blk b2 (.cells #[.slice none 0 0,.slice none 0 0,.slice none 0 0] bK),.blk b3 (.cells #[.slice none 0 0,.slice none 0 0,.slice none 0 0] bK)] S1 w':=hI
 refine ao hI 1 rfl bY rfl rfl (by simp [Value.oneCell']) fun w' hI=>?_
 refine Run.call0E uB wl hI (sn (N:=26) (by omega) 0 (by omega) (by omega) 0 (h.monoT hE.1) (RdSl.nil0 ..) ho hl (by simp)) fun v' I' S2 w'=>?_
 rintro ⟨rfl,hg⟩ hE2 hI
 rw [List.append_nil] at hg
 obtain ⟨ga,gm,rfl,_⟩:=id hg
 have hI:Inv w [] [.blk b2 (.cells #[.slice none 0 0,.slice none 0 0,.slice none 0 0] bK),.blk b3 (.cells #[.slice none 0 0,.slice (some ⟨kb,0,none⟩) 26 26,.slice none 0 0] bK)] S2 w':=hI
 refine cG hI 1 rfl fJ fk rfl rfl rfl fun w' hI=>?_
 refine aq hI 1 bY rfl rfl ?_
 refine ao hI 0 rfl bY rfl rfl (by simp [Value.oneCell']) fun w' hI=>?_
 refine aW hI 0 bY rfl rfl ?_
 exact ⟨_,_,_,rfl,hI.pick [false,false],hE.trans hE2,rfl,_,rfl,_,_,_,rfl,hg,(hkr.mono hE2.1 fun _ _ h=>RdO.mono (hE.1.trans hE2.1) h),RdSl.nil0 ..⟩
end
end
end Go.Proofs.YtfcbhfjomgopbaaGreat

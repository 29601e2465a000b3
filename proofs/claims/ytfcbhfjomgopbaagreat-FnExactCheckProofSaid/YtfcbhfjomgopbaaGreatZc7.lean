/- The program's solver of goals that are built in. -/
import Derived.Test.YtfcbhfjomgopbaaGreatZc5
import Derived.Test.YtfcbhfjomgopbaaGreatZc6
import Derived.Test.YtfcbhfjomgopbaaGreatZc4
import Derived.Test.YtfcbhfjomgopbaaGreatZc2
import Derived.Test.YtfcbhfjomgopbaaGreatZc3
namespace Go.Proofs.YtfcbhfjomgopbaaGreat
open Go Go.RowKit
theorem DG {k n:Int} {s:ByteArray} {ks:List T} (h:ca s dc=true):d5 (.mk k n s ks)=.done (B6 s (cM ks)):=by
 have h0:=h
 rw [ca,List.any_eq_true] at h
 obtain ⟨x,hx,hd⟩:=h
 have hd:=of_decide_eq_true hd
 subst hd
 have hne:∀ y∈([e6,fJ,nEq,nNe,iN,nIs,tX]:List ByteArray),s≠y:=by
  intro y hy
  simp only [dc,List.mem_cons,List.not_mem_nil,or_false] at hx hy
  rcases hx with rfl|rfl|rfl|rfl|rfl <;> rcases hy with rfl|rfl|rfl|rfl|rfl|rfl|rfl <;> decide +kernel
 have n1:(T.mk k n s ks).name=s:=rfl
 rw [d5,n1,if_neg (hne _ (by simp)),if_neg (hne _ (by simp)),if_neg (hne _ (by simp)),if_neg (hne _ (by simp)),if_neg (hne _ (by simp)),if_neg (hne _ (by simp)),if_neg (hne _ (by simp)),if_pos h0]
 rfl
theorem RdT.f0 {S:ar} {cs:List Value} {t:T} (h:RdT S cs t):cs[0]?=some (.int .i64 t.kind):=by
 obtain ⟨_,rfl,_⟩:=RdT.iff.1 h; rfl
section
variable {w:World} {X:List Nat} {S:ar}
attribute [local irreducible] Run CondV ak bg
theorem lz (n:Int) (S:ar):Pure Tryz.prog BN [.int .i64 n] S (.agg #[.int .i64 2,.int .i64 n,.string ⟨#[]⟩,.slice none 0 0]):=by
 intro w hI
 refine vW ?_
 unfold sn
 refine bC hI bA fun b w' hI=>?_
 refine sU ?_
 refine bq hI 0 rfl al rfl rfl (by simp [Value.oneCell']) fun w' hI=>?_
 refine dJ hI 0 al rfl rfl ?_
 exact done hI rfl
def Dp (sb mb:Nat) (S:ar) (st:a6) (tr:List Int) (code:Int) (st':a6):Value->List Item->ar->Prop:=fun q I' S'=>S'=S/\q=.int .i64 code/\
 ∃ es' ck' tv' tr',I'=bh sb mb es' ck' tv' tr'/\KnownM S es' st'/\tr'.length+unb st'<=1000000/\Tr st st' tr tr'
set_option maxHeartbeats 1000000 in
theorem zd {N:Nat} (hN:N<=1000000) {st st':a6} {g:T} {code:Int} (hg:Good N st) (ho:okU N g/\wT g<=1048576) (hn:okN g) (hb:c9 g=true) (hB:Blt st g code st')
  {S:ar} {cs:List Value} {sb mb ck:Nat} {es:Array MapEntry} {tv:Value} {tr:List Int} (h:RdT S cs g) (hkm:KnownM S es st) (htr:tr.length+unb st<=1000000) :
  Tri Tryz.prog vC [.pointer (some ⟨sb,0,none⟩),.agg cs.toArray] (bh sb mb es ck tv tr) S (Dp sb mb S st tr code st'):=by
 intro w hI
 have hgl:=h
 obtain ⟨k,n,s,ks⟩:=g
 obtain ⟨kv,rfl,_,_,_,hks⟩:=RdT.iff.1 h
 have hbj:=ue hb ho
 rw [c9,Bool.and_eq_true] at hb
 obtain ⟨hk3,hbs⟩:=hb
 rw [okN] at hn
 simp only [T.name,T.kids,T.kind,T.n] at hks hbs hgl hk3 ⊢
 obtain ⟨X,hX⟩:∃ X,X=bv (bh sb mb es ck tv tr):=⟨_,rfl⟩
 rw [<- hX] at hI ⊢
 unfold Blt at hB
 clear h
 refine om ?_
 unfold lf;dsimp only
 refine bt hI fun b3 w' hI=>?_
 have hI:Inv w X ([.blk b3 (.cells #[.int .i64 k,.int .i64 n,.string s,kv] ac)]++bh sb mb es ck tv tr) S w':=hI.perm List.perm_append_comm
 have fin:∀ {w':World} {L:List Item} {j:BJ} (c:Int),j=.done c->BltJ st j code st'->Inv w X L S w'->List.Sublist (bh sb mb es ck tv tr) L->
   ∃ v' I' S',Ending.returned (.int .i64 c)=.returned v'/\Inv w X I' S' w'/\Ext w.heap.size X S S'/\Dp sb mb S st tr code st' v' I' S':=by
  intro w' L j c hj hB hI hs
  subst hj
  obtain ⟨rfl,rfl⟩:=hB
  exact ⟨_,_,S,rfl,hI.sub hs,Ext.refl _ _ _,rfl,rfl,es,ck,tv,tr,rfl,hkm,htr,Tr.refl _ _⟩
 have sub1:∀ it:Item,List.Sublist (bh sb mb es ck tv tr) ([it]++bh sb mb es ck tv tr):=fun it=>List.sublist_append_right [it] _
 refine a8 hI 0 al rfl rfl ?_
 refine Run.callPure wO wt hI (rR hgl) fun w' hI=>?_
 have hcg:EL (.mk k n s ks)=(decide (ks.length=2) && ca s dc):=by
  unfold EL
  rw [show decide ((T.mk k n s ks).kind=3)=true from hk3]
  rfl
 rw [hcg]
 refine bd (fun hc=>?_) (fun hc=>?_)
 ·rw [Bool.and_eq_true,decide_eq_true_eq] at hc
  refine a8 hI 0 al rfl rfl ?_
  refine Run.callPure xz wx hI (rx hgl hc.1 hn.2) fun w' hI=>?_
  exact fin _ (DG hc.2) hB hI (sub1 _)
 have hcn:ca s dc=false:=by
  cases hx:ca s dc
  ·rfl
  ·have:=eR (CB hx) hbs
   rw [hx,decide_eq_true (show ks.length=2 by omega)] at hc
   cases hc
 refine ah hI 0 rfl aP aO rfl ?_
 refine ah hI 0 rfl bi bk rfl ?_
 refine bm ?_
 refine bf (fun h=>fin 0 (by rw [d5,if_pos (show (T.mk k n s ks).name=e6 from h)]) hB hI (sub1 _)) (fun h0=>?_)
 refine bm ?_
 refine bf (fun h=>fin 1 (by rw [d5,if_neg (show ¬ (T.mk k n s ks).name=e6 from h0),if_pos (show (T.mk k n s ks).name=fJ from h)]) hB hI (sub1 _)) (fun h1=>?_)
 refine bm ?_
 refine bf (fun h=>?_) (fun h2=>?_)
 ·obtain ⟨x,y,rfl⟩:=gX (l:=ks) (by have:=eR (by rw [h]; decide +kernel) hbs; omega)
  have hj:d5 (.mk k n s [x,y])=.uni x y:=by
   rw [d5,if_neg (show ¬ (T.mk k n s [x,y]).name=e6 from h0),if_neg (show ¬ (T.mk k n s [x,y]).name=fJ from h1),if_pos (show (T.mk k n s [x,y]).name=nEq from h)]
   rfl
  rw [hj] at hB hbj
  obtain ⟨b,o,cap,c,E,fz,rfl,hSb,hR⟩:=hks.ptr (by simp)
  obtain ⟨r,hu,rfl⟩:=hB
  have hjj:okJ N (.one x y):=hbj
  refine ⟨fun D x4 ey ew ez Dh Dg qR fm fl dM w_=>(D 0=true->dM=.pointer (some ⟨sb,0,none⟩))/\(D 1=true->fl=.slice (some ⟨b,o,none⟩) [x,y].length cap)/\(D 2=true->fm=.pointer (some ⟨b,o+0 * 4,none⟩))/\(D 3=true->qR=.agg (ba c (o+0 * 4) 4).toArray)/\(D 4=true->Dg=.slice (some ⟨b,o,none⟩) [x,y].length cap)/\(D 5=true->Dh=.pointer (some ⟨b,o+1 * 4,none⟩))/\(D 6=true->ez=.agg (ba c (o+1 * 4) 4).toArray)/\(D 7=true->ew=.bool r)/\(D 8=true->ey=.int .i64 (dl r))/\(D 9=true->x4=.int .i64 (dl r))/\(D 7=false->Inv w X ([.blk b3 (.cells #[.int .i64 k,.int .i64 n,.string s,.slice (some ⟨b,o,none⟩) [x,y].length cap] ac)]++bh sb mb es ck tv tr) S w_)/\(D 7=true->∃ es1 ck1 tv1 tr1,KnownM S es1 st'/\tr1.length+unb st'<=1000000/\Tr st st' tr tr1/\Inv w X ([.blk b3 (.cells #[.int .i64 k,.int .i64 n,.string s,.slice (some ⟨b,o,none⟩) [x,y].length cap] ac)]++bh sb mb es1 ck1 tv1 tr1) S w_)/\∃ es3 ck3 tv3 tr3,Inv w X ([.blk b3 (.cells #[.int .i64 k,.int .i64 n,.string s,.slice (some ⟨b,o,none⟩) [x,y].length cap] ac)]++bh sb mb es3 ck3 tv3 tr3) S w_,⟨ae,ae,ae,ae,ae,ae,ae,ae,ae,ae,⟨fun _=>hI.draw,ae,es,ck,tv,tr,hI.draw⟩⟩,⟨?_,?_,?_,?_,?_,?_,?_,?_,?_,?_,trivial⟩,?_⟩
  ·intro D aY  x4 ey ew ez Dh Dg qR fm fl dM w_
   rintro ⟨av,aw,ao,au,az,aq,aA,aE,aH,aL,⟨hI0,hI1,es3,ck3,tv3,tr3,hI⟩⟩
   exact ⟨fun _=>rfl,aw,ao,au,az,aq,aA,aE,aH,aL,⟨hI0,hI1,es3,ck3,tv3,tr3,hI⟩⟩
  ·intro D aY  x4 ey ew ez Dh Dg qR fm fl dM w_
   rintro ⟨av,aw,ao,au,az,aq,aA,aE,aH,aL,⟨hI0,hI1,es3,ck3,tv3,tr3,hI⟩⟩
   exact ⟨av,fun _=>rfl,ao,au,az,aq,aA,aE,aH,aL,⟨hI0,hI1,es3,ck3,tv3,tr3,hI⟩⟩
  ·intro D aY c6 x4 ey ew ez Dh Dg qR fm fl dM w_
   rintro ⟨av,aw,ao,au,az,aq,aA,aE,aH,aL,⟨hI0,hI1,es3,ck3,tv3,tr3,hI⟩⟩
   obtain rfl:=aw c6
   refine aT (i:=0) aC (by simp) ?_
   exact ⟨av,aw,fun _=>rfl,au,az,aq,aA,aE,aH,aL,⟨hI0,hI1,es3,ck3,tv3,tr3,hI⟩⟩
  ·intro D aY cc x4 ey ew ez Dh Dg qR fm fl dM w_
   rintro ⟨av,aw,ao,au,az,aq,aA,aE,aH,aL,⟨hI0,hI1,es3,ck3,tv3,tr3,hI⟩⟩
   obtain rfl:=ao cc
   refine bw al (RdT.length (hR 0 (by simp))) (fun j v hj=>by rw [hI.cellS hSb]; exact aS rfl j v hj) ?_
   exact ⟨av,aw,ao,fun _=>rfl,az,aq,aA,aE,aH,aL,⟨hI0,hI1,es3,ck3,tv3,tr3,hI⟩⟩
  ·intro D aY  x4 ey ew ez Dh Dg qR fm fl dM w_
   rintro ⟨av,aw,ao,au,az,aq,aA,aE,aH,aL,⟨hI0,hI1,es3,ck3,tv3,tr3,hI⟩⟩
   exact ⟨av,aw,ao,au,fun _=>rfl,aq,aA,aE,aH,aL,⟨hI0,hI1,es3,ck3,tv3,tr3,hI⟩⟩
  ·intro D aY cZ x4 ey ew ez Dh Dg qR fm fl dM w_
   rintro ⟨av,aw,ao,au,az,aq,aA,aE,aH,aL,⟨hI0,hI1,es3,ck3,tv3,tr3,hI⟩⟩
   obtain rfl:=az cZ
   refine aT (i:=1) aC (by simp) ?_
   exact ⟨av,aw,ao,au,az,fun _=>rfl,aA,aE,aH,aL,⟨hI0,hI1,es3,ck3,tv3,tr3,hI⟩⟩
  ·intro D aY cY x4 ey ew ez Dh Dg qR fm fl dM w_
   rintro ⟨av,aw,ao,au,az,aq,aA,aE,aH,aL,⟨hI0,hI1,es3,ck3,tv3,tr3,hI⟩⟩
   obtain rfl:=aq cY
   refine bw al (RdT.length (hR 1 (by simp))) (fun j v hj=>by rw [hI.cellS hSb]; exact aS rfl j v hj) ?_
   exact ⟨av,aw,ao,au,az,aq,fun _=>rfl,aE,aH,aL,⟨hI0,hI1,es3,ck3,tv3,tr3,hI⟩⟩
  ·intro D aY cB jw q0 x4 ey ew ez Dh Dg qR fm fl dM w_
   rintro ⟨av,aw,ao,au,az,aq,aA,aE,aH,aL,⟨hI0,hI1,es3,ck3,tv3,tr3,hI⟩⟩
   obtain rfl:=av cB
   obtain rfl:=au jw
   obtain rfl:=aA q0
   refine Run.callE (A:=[_]) dU dZ (hI0 aY) (gG hN hg hjj hu S _ _ sb mb ck es tv tr (hR 0 (by simp)) (hR 1 (by simp)) hkm htr) fun v' I' S' w_=>?_
   rintro ⟨eS,rfl,es1,ck1,tv1,tr1,rfl,hm1,htr1,hT1⟩ _ hI
   rw [eS] at hI
   have hI0:=fun (h:aD D 7 7=false)=>(Bool.noConfusion h:Inv w X ([.blk b3 (.cells #[.int .i64 k,.int .i64 n,.string s,.slice (some ⟨b,o,none⟩) [x,y].length cap] ac)]++bh sb mb es ck tv tr) S w_)
   have hI1:=fun (_:aD D 7 7=true)=>(⟨es1,ck1,tv1,tr1,hm1,htr1,hT1,hI⟩:∃ es1 ck1 tv1 tr1,KnownM S es1 st'/\tr1.length+unb st'<=1000000/\Tr st st' tr tr1/\Inv w X ([.blk b3 (.cells #[.int .i64 k,.int .i64 n,.string s,.slice (some ⟨b,o,none⟩) [x,y].length cap] ac)]++bh sb mb es1 ck1 tv1 tr1) S w_)
   obtain ⟨es3,ck3,tv3,tr3,hI⟩:∃ es3 ck3 tv3 tr3,Inv w X ([.blk b3 (.cells #[.int .i64 k,.int .i64 n,.string s,.slice (some ⟨b,o,none⟩) [x,y].length cap] ac)]++bh sb mb es3 ck3 tv3 tr3) S w_:=⟨es1,ck1,tv1,tr1,hI⟩
   exact ⟨av,aw,ao,au,az,aq,aA,fun _=>rfl,aH,aL,⟨hI0,hI1,es3,ck3,tv3,tr3,hI⟩⟩
  ·intro D aY dT gY x4 ey ew ez Dh Dg qR fm fl dM w_
   rintro ⟨av,aw,ao,au,az,aq,aA,aE,aH,aL,⟨hI0,hI1,es3,ck3,tv3,tr3,hI⟩⟩
   obtain rfl:=aE dT
   obtain ⟨es1,ck1,tv1,tr1,hm1,htr1,hT1,hI⟩:=hI1 dT
   refine Run.callPure fn_i_holds nm_i_holds hI (c8 r S) fun w_ hI=>?_
   have hI0:=fun (h:aD D 8 7=false)=>(Bool.noConfusion (h.symm.trans (show aD D 8 7=true from dT)):Inv w X ([.blk b3 (.cells #[.int .i64 k,.int .i64 n,.string s,.slice (some ⟨b,o,none⟩) [x,y].length cap] ac)]++bh sb mb es ck tv tr) S w_)
   have hI1:=fun (_:aD D 8 7=true)=>(⟨es1,ck1,tv1,tr1,hm1,htr1,hT1,hI⟩:∃ es1 ck1 tv1 tr1,KnownM S es1 st'/\tr1.length+unb st'<=1000000/\Tr st st' tr tr1/\Inv w X ([.blk b3 (.cells #[.int .i64 k,.int .i64 n,.string s,.slice (some ⟨b,o,none⟩) [x,y].length cap] ac)]++bh sb mb es1 ck1 tv1 tr1) S w_)
   obtain ⟨es3,ck3,tv3,tr3,hI⟩:∃ es3 ck3 tv3 tr3,Inv w X ([.blk b3 (.cells #[.int .i64 k,.int .i64 n,.string s,.slice (some ⟨b,o,none⟩) [x,y].length cap] ac)]++bh sb mb es3 ck3 tv3 tr3) S w_:=⟨es1,ck1,tv1,tr1,hI⟩
   exact ⟨av,aw,ao,au,az,aq,aA,aE,fun _=>rfl,aL,⟨hI0,hI1,es3,ck3,tv3,tr3,hI⟩⟩
  ·intro D aY dN AE oB mQ lu oL oo rF rB v9 u3 x4 ey ew ez Dh Dg qR fm fl dM w_
   rintro ⟨av,aw,ao,au,az,aq,aA,aE,aH,aL,⟨hI0,hI1,es3,ck3,tv3,tr3,hI⟩⟩
   obtain rfl:=aH dN
   exact ⟨av,aw,ao,au,az,aq,aA,aE,aH,fun _=>rfl,⟨hI0,hI1,es3,ck3,tv3,tr3,hI⟩⟩
  intro D hY gh fB fk fi e9 fe eQ eZ e8 x4 ey ew ez Dh Dg qR fm fl dM w_
  rintro ⟨av,aw,ao,au,az,aq,aA,aE,aH,aL,⟨hI0,hI1,es3,ck3,tv3,tr3,hI⟩⟩
  obtain rfl:=aL hY
  obtain rfl:=aH gh
  obtain rfl:=aE fB
  obtain rfl:=aA fk
  obtain rfl:=aq fi
  obtain rfl:=az e9
  obtain rfl:=au fe
  obtain rfl:=ao eQ
  obtain rfl:=aw eZ
  obtain rfl:=av e8
  clear av aw ao au az aq aA aE aH aL
  obtain ⟨es1,ck1,tv1,tr1,hm1,htr1,hT1,hI⟩:=hI1 fB
  exact ⟨_,_,S,rfl,hI.sub (List.sublist_append_right [_] _),Ext.refl _ _ _,rfl,rfl,es1,ck1,tv1,tr1,rfl,hm1,htr1,hT1⟩
 refine bm ?_
 refine bf (fun h=>?_) (fun h3=>?_)
 ·obtain ⟨x,y,rfl⟩:=gX (l:=ks) (by have:=eR (by rw [h]; decide +kernel) hbs; omega)
  have hj:d5 (.mk k n s [x,y])=.not x y:=by
   rw [d5,if_neg (show ¬ (T.mk k n s [x,y]).name=e6 from h0),if_neg (show ¬ (T.mk k n s [x,y]).name=fJ from h1),if_neg (show ¬ (T.mk k n s [x,y]).name=nEq from h2),if_pos (show (T.mk k n s [x,y]).name=nNe from h)]
   rfl
  rw [hj] at hB hbj
  obtain ⟨b,o,cap,c,E,fz,rfl,hSb,hR⟩:=hks.ptr (by simp)
  obtain ⟨rfl,r,st1,hu,rfl⟩:=hB
  have hjj:okJ N (.one x y):=hbj
  refine bR ?_
  refine ah hI 1 rfl eA kE rfl ?_
  obtain ⟨ta,tn,tc,htv⟩:=hI.rowSlice 3 rfl
  have htn:tn=tr.length:=by
   have hm:w'.ownsRow 0 ce 1 tv tr.length (ints tr):=hI.its (em tv tr) (by simp [bh])
   rcases hm.2 with ⟨e1,e2⟩|⟨g1,c1,u1,e1,_⟩
   ·rw [htv] at e1; simp only [Value.slice.injEq] at e1; omega
   ·rw [htv] at e1; simp only [Value.slice.injEq] at e1; omega
  obtain rfl:=htn
  rw [htv]
  refine wl eU ?_
  refine ⟨fun D x7 cU cW df da cC cD cr cL w_=>(D 0=true->cL=.pointer (some ⟨sb,0,none⟩))/\(D 1=true->cr=.slice (some ⟨b,o,none⟩) [x,y].length cap)/\(D 2=true->cD=.pointer (some ⟨b,o+0 * 4,none⟩))/\(D 3=true->cC=.agg (ba c (o+0 * 4) 4).toArray)/\(D 4=true->da=.slice (some ⟨b,o,none⟩) [x,y].length cap)/\(D 5=true->df=.pointer (some ⟨b,o+1 * 4,none⟩))/\(D 6=true->cW=.agg (ba c (o+1 * 4) 4).toArray)/\(D 7=true->cU=.bool r)/\(D 8=true->x7=.bool r)/\(D 7=false->Inv w X ([.blk b3 (.cells #[.int .i64 k,.int .i64 n,.string s,.slice (some ⟨b,o,none⟩) [x,y].length cap] ac)]++bh sb mb es ck tv tr) S w_)/\(D 7=true->∃ es1 ck1 tv1 tr1,KnownM S es1 st1/\tr1.length+unb st1<=1000000/\Tr st' st1 tr tr1/\Inv w X ([.blk b3 (.cells #[.int .i64 k,.int .i64 n,.string s,.slice (some ⟨b,o,none⟩) [x,y].length cap] ac)]++bh sb mb es1 ck1 tv1 tr1) S w_)/\∃ es3 ck3 tv3 tr3,Inv w X ([.blk b3 (.cells #[.int .i64 k,.int .i64 n,.string s,.slice (some ⟨b,o,none⟩) [x,y].length cap] ac)]++bh sb mb es3 ck3 tv3 tr3) S w_,⟨ae,ae,ae,ae,ae,ae,ae,ae,ae,⟨fun _=>hI.draw,ae,es,ck,tv,tr,hI.draw⟩⟩,⟨?_,?_,?_,?_,?_,?_,?_,?_,?_,trivial⟩,?_⟩
  ·intro D aY  x7 cU cW df da cC cD cr cL w_
   rintro ⟨av,aw,ao,au,az,aq,aA,aE,aH,⟨hI0,hI1,es3,ck3,tv3,tr3,hI⟩⟩
   exact ⟨fun _=>rfl,aw,ao,au,az,aq,aA,aE,aH,⟨hI0,hI1,es3,ck3,tv3,tr3,hI⟩⟩
  ·intro D aY  x7 cU cW df da cC cD cr cL w_
   rintro ⟨av,aw,ao,au,az,aq,aA,aE,aH,⟨hI0,hI1,es3,ck3,tv3,tr3,hI⟩⟩
   exact ⟨av,fun _=>rfl,ao,au,az,aq,aA,aE,aH,⟨hI0,hI1,es3,ck3,tv3,tr3,hI⟩⟩
  ·intro D aY c6 x7 cU cW df da cC cD cr cL w_
   rintro ⟨av,aw,ao,au,az,aq,aA,aE,aH,⟨hI0,hI1,es3,ck3,tv3,tr3,hI⟩⟩
   obtain rfl:=aw c6
   refine aT (i:=0) aC (by simp) ?_
   exact ⟨av,aw,fun _=>rfl,au,az,aq,aA,aE,aH,⟨hI0,hI1,es3,ck3,tv3,tr3,hI⟩⟩
  ·intro D aY cc x7 cU cW df da cC cD cr cL w_
   rintro ⟨av,aw,ao,au,az,aq,aA,aE,aH,⟨hI0,hI1,es3,ck3,tv3,tr3,hI⟩⟩
   obtain rfl:=ao cc
   refine bw al (RdT.length (hR 0 (by simp))) (fun j v hj=>by rw [hI.cellS hSb]; exact aS rfl j v hj) ?_
   exact ⟨av,aw,ao,fun _=>rfl,az,aq,aA,aE,aH,⟨hI0,hI1,es3,ck3,tv3,tr3,hI⟩⟩
  ·intro D aY  x7 cU cW df da cC cD cr cL w_
   rintro ⟨av,aw,ao,au,az,aq,aA,aE,aH,⟨hI0,hI1,es3,ck3,tv3,tr3,hI⟩⟩
   exact ⟨av,aw,ao,au,fun _=>rfl,aq,aA,aE,aH,⟨hI0,hI1,es3,ck3,tv3,tr3,hI⟩⟩
  ·intro D aY cZ x7 cU cW df da cC cD cr cL w_
   rintro ⟨av,aw,ao,au,az,aq,aA,aE,aH,⟨hI0,hI1,es3,ck3,tv3,tr3,hI⟩⟩
   obtain rfl:=az cZ
   refine aT (i:=1) aC (by simp) ?_
   exact ⟨av,aw,ao,au,az,fun _=>rfl,aA,aE,aH,⟨hI0,hI1,es3,ck3,tv3,tr3,hI⟩⟩
  ·intro D aY cY x7 cU cW df da cC cD cr cL w_
   rintro ⟨av,aw,ao,au,az,aq,aA,aE,aH,⟨hI0,hI1,es3,ck3,tv3,tr3,hI⟩⟩
   obtain rfl:=aq cY
   refine bw al (RdT.length (hR 1 (by simp))) (fun j v hj=>by rw [hI.cellS hSb]; exact aS rfl j v hj) ?_
   exact ⟨av,aw,ao,au,az,aq,fun _=>rfl,aE,aH,⟨hI0,hI1,es3,ck3,tv3,tr3,hI⟩⟩
  ·intro D aY cB jw q0 x7 cU cW df da cC cD cr cL w_
   rintro ⟨av,aw,ao,au,az,aq,aA,aE,aH,⟨hI0,hI1,es3,ck3,tv3,tr3,hI⟩⟩
   obtain rfl:=av cB
   obtain rfl:=au jw
   obtain rfl:=aA q0
   refine Run.callE (A:=[_]) dU dZ (hI0 aY) (gG hN hg hjj hu S _ _ sb mb ck es tv tr (hR 0 (by simp)) (hR 1 (by simp)) hkm htr) fun v' I' S' w_=>?_
   rintro ⟨eS,rfl,es1,ck1,tv1,tr1,rfl,hm1,htr1,hT1⟩ _ hI
   rw [eS] at hI
   have hI0:=fun (h:aD D 7 7=false)=>(Bool.noConfusion h:Inv w X ([.blk b3 (.cells #[.int .i64 k,.int .i64 n,.string s,.slice (some ⟨b,o,none⟩) [x,y].length cap] ac)]++bh sb mb es ck tv tr) S w_)
   have hI1:=fun (_:aD D 7 7=true)=>(⟨es1,ck1,tv1,tr1,hm1,htr1,hT1,hI⟩:∃ es1 ck1 tv1 tr1,KnownM S es1 st1/\tr1.length+unb st1<=1000000/\Tr st' st1 tr tr1/\Inv w X ([.blk b3 (.cells #[.int .i64 k,.int .i64 n,.string s,.slice (some ⟨b,o,none⟩) [x,y].length cap] ac)]++bh sb mb es1 ck1 tv1 tr1) S w_)
   obtain ⟨es3,ck3,tv3,tr3,hI⟩:∃ es3 ck3 tv3 tr3,Inv w X ([.blk b3 (.cells #[.int .i64 k,.int .i64 n,.string s,.slice (some ⟨b,o,none⟩) [x,y].length cap] ac)]++bh sb mb es3 ck3 tv3 tr3) S w_:=⟨es1,ck1,tv1,tr1,hI⟩
   exact ⟨av,aw,ao,au,az,aq,aA,fun _=>rfl,aH,⟨hI0,hI1,es3,ck3,tv3,tr3,hI⟩⟩
  ·intro D aY dT gY oB mQ lu oL oo rF rB v9 x7 cU cW df da cC cD cr cL w_
   rintro ⟨av,aw,ao,au,az,aq,aA,aE,aH,⟨hI0,hI1,es3,ck3,tv3,tr3,hI⟩⟩
   obtain rfl:=aE dT
   exact ⟨av,aw,ao,au,az,aq,aA,aE,fun _=>rfl,⟨hI0,hI1,es3,ck3,tv3,tr3,hI⟩⟩
  intro D gh fB fk fi e9 fe eQ eZ e8 x7 cU cW df da cC cD cr cL w_
  rintro ⟨av,aw,ao,au,az,aq,aA,aE,aH,⟨hI0,hI1,es3,ck3,tv3,tr3,hI⟩⟩
  obtain rfl:=aH gh
  obtain rfl:=aE fB
  obtain rfl:=aA fk
  obtain rfl:=aq fi
  obtain rfl:=az e9
  obtain rfl:=au fe
  obtain rfl:=ao eQ
  obtain rfl:=aw eZ
  obtain rfl:=av e8
  clear av aw ao au az aq aA aE aH
  obtain ⟨es1,ck1,tv1,tr1,hm1,htr1,⟨ns,rfl,hun,hns⟩,hI⟩:=hI1 fB
  have hd1:(tr++ns).drop tr.length=ns:=by rw [List.drop_left]
  have hd2:(tr++ns).take tr.length=tr:=by rw [List.take_left]
  refine Run.callE (A:=[_]) s9 tw hI (BQ (mark:=tr.length) hm1 (by simp) (by rw [hd1]; intro n hn; obtain ⟨j,rfl,_⟩:=hns n hn; omega) (by omega)) fun v' I' S' w'=>?_
  rintro ⟨eS,rfl,es2,tv2,rfl,hm2⟩ _ hI
  rw [eS] at hI
  rw [hd1,hun] at hm2
  rw [hd2] at hI
  refine bJ ?_
  refine Run.callPure fn_i_holds nm_i_holds hI (c8 (!r) S) fun w' hI=>?_
  exact ⟨_,_,S,rfl,hI.sub (List.sublist_append_right [_] _),Ext.refl _ _ _,rfl,rfl,es2,ck1,tv2,tr,rfl,hm2,htr,Tr.refl _ _⟩
 refine bm ?_
 refine bf (fun h=>?_) (fun h4=>?_)
 ·obtain ⟨x,y,rfl⟩:=gX (l:=ks) (by have:=eR (by rw [h]; decide +kernel) hbs; omega)
  have hj:d5 (.mk k n s [x,y])=.done (dl (eqT x y)):=by
   rw [d5,if_neg (show ¬ (T.mk k n s [x,y]).name=e6 from h0),if_neg (show ¬ (T.mk k n s [x,y]).name=fJ from h1),if_neg (show ¬ (T.mk k n s [x,y]).name=nEq from h2),if_neg (show ¬ (T.mk k n s [x,y]).name=nNe from h3),if_pos (show (T.mk k n s [x,y]).name=iN from h)]
   rfl
  rw [hj] at hB hbj
  obtain ⟨b,o,cap,c,E,fz,rfl,hSb,hR⟩:=hks.ptr (by simp)
  refine ⟨fun D x4 rQ DL Dj Ds DI Ep Eo Es w_=>(D 0=true->Es=.slice (some ⟨b,o,none⟩) [x,y].length cap)/\(D 1=true->Eo=.pointer (some ⟨b,o+0 * 4,none⟩))/\(D 2=true->Ep=.agg (ba c (o+0 * 4) 4).toArray)/\(D 3=true->DI=.slice (some ⟨b,o,none⟩) [x,y].length cap)/\(D 4=true->Ds=.pointer (some ⟨b,o+1 * 4,none⟩))/\(D 5=true->Dj=.agg (ba c (o+1 * 4) 4).toArray)/\(D 6=true->DL=.bool (eqT x y))/\(D 7=true->rQ=.int .i64 (dl (eqT x y)))/\(D 8=true->x4=.int .i64 (dl (eqT x y)))/\Inv w X ([.blk b3 (.cells #[.int .i64 k,.int .i64 n,.string s,.slice (some ⟨b,o,none⟩) [x,y].length cap] ac)]++bh sb mb es ck tv tr) S w_,⟨ae,ae,ae,ae,ae,ae,ae,ae,ae,hI.draw⟩,⟨?_,?_,?_,?_,?_,?_,?_,?_,?_,trivial⟩,?_⟩
  ·intro D aY  x4 rQ DL Dj Ds DI Ep Eo Es w_
   rintro ⟨av,aw,ao,au,az,aq,aA,aE,aH,hI⟩
   exact ⟨fun _=>rfl,aw,ao,au,az,aq,aA,aE,aH,hI⟩
  ·intro D aY cB x4 rQ DL Dj Ds DI Ep Eo Es w_
   rintro ⟨av,aw,ao,au,az,aq,aA,aE,aH,hI⟩
   obtain rfl:=av cB
   refine aT (i:=0) aC (by simp) ?_
   exact ⟨av,fun _=>rfl,ao,au,az,aq,aA,aE,aH,hI⟩
  ·intro D aY c6 x4 rQ DL Dj Ds DI Ep Eo Es w_
   rintro ⟨av,aw,ao,au,az,aq,aA,aE,aH,hI⟩
   obtain rfl:=aw c6
   refine bw al (RdT.length (hR 0 (by simp))) (fun j v hj=>by rw [hI.cellS hSb]; exact aS rfl j v hj) ?_
   exact ⟨av,aw,fun _=>rfl,au,az,aq,aA,aE,aH,hI⟩
  ·intro D aY  x4 rQ DL Dj Ds DI Ep Eo Es w_
   rintro ⟨av,aw,ao,au,az,aq,aA,aE,aH,hI⟩
   exact ⟨av,aw,ao,fun _=>rfl,az,aq,aA,aE,aH,hI⟩
  ·intro D aY dq x4 rQ DL Dj Ds DI Ep Eo Es w_
   rintro ⟨av,aw,ao,au,az,aq,aA,aE,aH,hI⟩
   obtain rfl:=au dq
   refine aT (i:=1) aC (by simp) ?_
   exact ⟨av,aw,ao,au,fun _=>rfl,aq,aA,aE,aH,hI⟩
  ·intro D aY cZ x4 rQ DL Dj Ds DI Ep Eo Es w_
   rintro ⟨av,aw,ao,au,az,aq,aA,aE,aH,hI⟩
   obtain rfl:=az cZ
   refine bw al (RdT.length (hR 1 (by simp))) (fun j v hj=>by rw [hI.cellS hSb]; exact aS rfl j v hj) ?_
   exact ⟨av,aw,ao,au,az,fun _=>rfl,aA,aE,aH,hI⟩
  ·intro D aY cc cm x4 rQ DL Dj Ds DI Ep Eo Es w_
   rintro ⟨av,aw,ao,au,az,aq,aA,aE,aH,hI⟩
   obtain rfl:=ao cc
   obtain rfl:=aq cm
   refine Run.callPure jc i6 hI (kk x y S _ _ (hR 0 (by simp)) (hR 1 (by simp))) fun w_ hI=>?_
   exact ⟨av,aw,ao,au,az,aq,fun _=>rfl,aE,aH,hI⟩
  ·intro D aY ci gc x4 rQ DL Dj Ds DI Ep Eo Es w_
   rintro ⟨av,aw,ao,au,az,aq,aA,aE,aH,hI⟩
   obtain rfl:=aA ci
   refine Run.callPure fn_i_holds nm_i_holds hI (c8 _ S) fun w_ hI=>?_
   exact ⟨av,aw,ao,au,az,aq,aA,fun _=>rfl,aH,hI⟩
  ·intro D aY dT gY oB mQ lu oL oo rF rB v9 x4 rQ DL Dj Ds DI Ep Eo Es w_
   rintro ⟨av,aw,ao,au,az,aq,aA,aE,aH,hI⟩
   obtain rfl:=aE dT
   exact ⟨av,aw,ao,au,az,aq,aA,aE,fun _=>rfl,hI⟩
  intro D gh fB fk fi e9 fe eQ eZ e8 x4 rQ DL Dj Ds DI Ep Eo Es w_
  rintro ⟨av,aw,ao,au,az,aq,aA,aE,aH,hI⟩
  obtain rfl:=aH gh
  obtain rfl:=aE fB
  obtain rfl:=aA fk
  obtain rfl:=aq fi
  obtain rfl:=az e9
  obtain rfl:=au fe
  obtain rfl:=ao eQ
  obtain rfl:=aw eZ
  obtain rfl:=av e8
  clear av aw ao au az aq aA aE aH
  exact fin _ rfl hB hI (sub1 _)
 refine bm ?_
 refine bf (fun h=>?_) (fun h5=>?_)
 ·obtain ⟨x,y,rfl⟩:=gX (l:=ks) (by have:=eR (by rw [h]; decide +kernel) hbs; omega)
  have hj:d5 (.mk k n s [x,y])=if (bG y).2≠0 then .done (bG y).2 else .uni x (Ax (bG y).1):=by
   rw [d5,if_neg (show ¬ (T.mk k n s [x,y]).name=e6 from h0),if_neg (show ¬ (T.mk k n s [x,y]).name=fJ from h1),if_neg (show ¬ (T.mk k n s [x,y]).name=nEq from h2),if_neg (show ¬ (T.mk k n s [x,y]).name=nNe from h3),if_neg (show ¬ (T.mk k n s [x,y]).name=iN from h4),if_pos (show (T.mk k n s [x,y]).name=nIs from h)]
   rfl
  rw [hj] at hB hbj
  obtain ⟨b,o,cap,c,E,fz,rfl,hSb,hR⟩:=hks.ptr (by simp)
  have ny:=dR hn.2 y (by simp)
  refine cj (i:=1) hI hks aC al (by simp) (fun _ _=>RdT.length) fun ds hds=>?_
  refine Run.callPure iG iz hI (ja y S ds hds ny) fun w' hI=>?_
  refine be (v:=.int .i64 _) rfl ?_
  refine be (v:=.int .i64 _) rfl ?_
  refine bQ ?_
  refine bd (fun h6=>?_) (fun h6=>?_)
  ·simp at h6
   exact fin _ (if_pos h6) hB hI (sub1 _)
  simp at h6
  rw [if_neg (by simp [h6])] at hB hbj
  obtain ⟨r,hu,rfl⟩:=hB
  have hjj:okJ N (.one x (Ax (bG y).1)):=hbj
  have hsm:=jO y ny
  unfold Sm at hsm
  refine ⟨fun D x4 cf cA cz cu cv cw bP dE w_=>(D 0=true->dE=.pointer (some ⟨sb,0,none⟩))/\(D 1=true->bP=.slice (some ⟨b,o,none⟩) [x,y].length cap)/\(D 2=true->cw=.pointer (some ⟨b,o+0 * 4,none⟩))/\(D 3=true->cv=.agg (ba c (o+0 * 4) 4).toArray)/\(D 4=true->cu=.int .i64 (bG y).1)/\(D 5=true->cz=.agg #[.int .i64 2,.int .i64 (bG y).1,.string ⟨#[]⟩,.slice none 0 0])/\(D 6=true->cA=.bool r)/\(D 7=true->cf=.int .i64 (dl r))/\(D 8=true->x4=.int .i64 (dl r))/\(D 6=false->Inv w X ([.blk b3 (.cells #[.int .i64 k,.int .i64 n,.string s,.slice (some ⟨b,o,none⟩) [x,y].length cap] ac)]++bh sb mb es ck tv tr) S w_)/\(D 6=true->∃ es1 ck1 tv1 tr1,KnownM S es1 st'/\tr1.length+unb st'<=1000000/\Tr st st' tr tr1/\Inv w X ([.blk b3 (.cells #[.int .i64 k,.int .i64 n,.string s,.slice (some ⟨b,o,none⟩) [x,y].length cap] ac)]++bh sb mb es1 ck1 tv1 tr1) S w_)/\∃ es3 ck3 tv3 tr3,Inv w X ([.blk b3 (.cells #[.int .i64 k,.int .i64 n,.string s,.slice (some ⟨b,o,none⟩) [x,y].length cap] ac)]++bh sb mb es3 ck3 tv3 tr3) S w_,⟨ae,ae,ae,ae,ae,ae,ae,ae,ae,⟨fun _=>hI.draw,ae,es,ck,tv,tr,hI.draw⟩⟩,⟨?_,?_,?_,?_,?_,?_,?_,?_,?_,trivial⟩,?_⟩
  ·intro D aY  x4 cf cA cz cu cv cw bP dE w_
   rintro ⟨av,aw,ao,au,az,aq,aA,aE,aH,⟨hI0,hI1,es3,ck3,tv3,tr3,hI⟩⟩
   exact ⟨fun _=>rfl,aw,ao,au,az,aq,aA,aE,aH,⟨hI0,hI1,es3,ck3,tv3,tr3,hI⟩⟩
  ·intro D aY  x4 cf cA cz cu cv cw bP dE w_
   rintro ⟨av,aw,ao,au,az,aq,aA,aE,aH,⟨hI0,hI1,es3,ck3,tv3,tr3,hI⟩⟩
   exact ⟨av,fun _=>rfl,ao,au,az,aq,aA,aE,aH,⟨hI0,hI1,es3,ck3,tv3,tr3,hI⟩⟩
  ·intro D aY c6 x4 cf cA cz cu cv cw bP dE w_
   rintro ⟨av,aw,ao,au,az,aq,aA,aE,aH,⟨hI0,hI1,es3,ck3,tv3,tr3,hI⟩⟩
   obtain rfl:=aw c6
   refine aT (i:=0) aC (by simp) ?_
   exact ⟨av,aw,fun _=>rfl,au,az,aq,aA,aE,aH,⟨hI0,hI1,es3,ck3,tv3,tr3,hI⟩⟩
  ·intro D aY cc x4 cf cA cz cu cv cw bP dE w_
   rintro ⟨av,aw,ao,au,az,aq,aA,aE,aH,⟨hI0,hI1,es3,ck3,tv3,tr3,hI⟩⟩
   obtain rfl:=ao cc
   refine bw al (RdT.length (hR 0 (by simp))) (fun j v hj=>by rw [hI.cellS hSb]; exact aS rfl j v hj) ?_
   exact ⟨av,aw,ao,fun _=>rfl,az,aq,aA,aE,aH,⟨hI0,hI1,es3,ck3,tv3,tr3,hI⟩⟩
  ·intro D aY  x4 cf cA cz cu cv cw bP dE w_
   rintro ⟨av,aw,ao,au,az,aq,aA,aE,aH,⟨hI0,hI1,es3,ck3,tv3,tr3,hI⟩⟩
   exact ⟨av,aw,ao,au,fun _=>rfl,aq,aA,aE,aH,⟨hI0,hI1,es3,ck3,tv3,tr3,hI⟩⟩
  ·intro D aY cZ x4 cf cA cz cu cv cw bP dE w_
   rintro ⟨av,aw,ao,au,az,aq,aA,aE,aH,⟨hI0,hI1,es3,ck3,tv3,tr3,hI⟩⟩
   obtain rfl:=az cZ
   have f6:D 6=D 6:=rfl
   cases f6v:D 6
   ·refine Run.callPure r7 sg (hI0 f6v) (lz _ S) fun w_ hI=>?_
    have hI0:=fun (_:aD D 5 6=false)=>hI
    have hI1:=fun (h:aD D 5 6=true)=>(Bool.noConfusion (f6v.symm.trans h):∃ es1 ck1 tv1 tr1,KnownM S es1 st'/\tr1.length+unb st'<=1000000/\Tr st st' tr tr1/\Inv w X ([.blk b3 (.cells #[.int .i64 k,.int .i64 n,.string s,.slice (some ⟨b,o,none⟩) [x,y].length cap] ac)]++bh sb mb es1 ck1 tv1 tr1) S w_)
    obtain ⟨es3,ck3,tv3,tr3,hI⟩:∃ es3 ck3 tv3 tr3,Inv w X ([.blk b3 (.cells #[.int .i64 k,.int .i64 n,.string s,.slice (some ⟨b,o,none⟩) [x,y].length cap] ac)]++bh sb mb es3 ck3 tv3 tr3) S w_:=⟨es,ck,tv,tr,hI⟩
    exact ⟨av,aw,ao,au,az,(fun _=>rfl),aA,aE,aH,⟨hI0,hI1,es3,ck3,tv3,tr3,hI⟩⟩
   obtain ⟨es1,ck1,tv1,tr1,hm1,htr1,hT1,hI⟩:=hI1 f6v
   refine Run.callPure r7 sg hI (lz _ S) fun w_ hI=>?_
   have hI0:=fun (h:aD D 5 6=false)=>(Bool.noConfusion (h.symm.trans f6v):Inv w X ([.blk b3 (.cells #[.int .i64 k,.int .i64 n,.string s,.slice (some ⟨b,o,none⟩) [x,y].length cap] ac)]++bh sb mb es ck tv tr) S w_)
   have hI1:=fun (_:aD D 5 6=true)=>(⟨es1,ck1,tv1,tr1,hm1,htr1,hT1,hI⟩:∃ es1 ck1 tv1 tr1,KnownM S es1 st'/\tr1.length+unb st'<=1000000/\Tr st st' tr tr1/\Inv w X ([.blk b3 (.cells #[.int .i64 k,.int .i64 n,.string s,.slice (some ⟨b,o,none⟩) [x,y].length cap] ac)]++bh sb mb es1 ck1 tv1 tr1) S w_)
   obtain ⟨es3,ck3,tv3,tr3,hI⟩:∃ es3 ck3 tv3 tr3,Inv w X ([.blk b3 (.cells #[.int .i64 k,.int .i64 n,.string s,.slice (some ⟨b,o,none⟩) [x,y].length cap] ac)]++bh sb mb es3 ck3 tv3 tr3) S w_:=⟨es1,ck1,tv1,tr1,hI⟩
   exact ⟨av,aw,ao,au,az,fun _=>rfl,aA,aE,aH,⟨hI0,hI1,es3,ck3,tv3,tr3,hI⟩⟩
  ·intro D aY cB jw jg F5 x4 cf cA cz cu cv cw bP dE w_
   rintro ⟨av,aw,ao,au,az,aq,aA,aE,aH,⟨hI0,hI1,es3,ck3,tv3,tr3,hI⟩⟩
   obtain rfl:=av cB
   obtain rfl:=au jw
   obtain rfl:=aq jg
   refine Run.callE (A:=[_]) dU dZ (hI0 aY) (gG hN hg hjj hu S _ _ sb mb ck es tv tr (hR 0 (by simp)) (zQ (by simp [inI]) (by simp only [inI]; omega)) hkm htr) fun v' I' S' w_=>?_
   rintro ⟨eS,rfl,es1,ck1,tv1,tr1,rfl,hm1,htr1,hT1⟩ _ hI
   rw [eS] at hI
   have hI0:=fun (h:aD D 6 6=false)=>(Bool.noConfusion h:Inv w X ([.blk b3 (.cells #[.int .i64 k,.int .i64 n,.string s,.slice (some ⟨b,o,none⟩) [x,y].length cap] ac)]++bh sb mb es ck tv tr) S w_)
   have hI1:=fun (_:aD D 6 6=true)=>(⟨es1,ck1,tv1,tr1,hm1,htr1,hT1,hI⟩:∃ es1 ck1 tv1 tr1,KnownM S es1 st'/\tr1.length+unb st'<=1000000/\Tr st st' tr tr1/\Inv w X ([.blk b3 (.cells #[.int .i64 k,.int .i64 n,.string s,.slice (some ⟨b,o,none⟩) [x,y].length cap] ac)]++bh sb mb es1 ck1 tv1 tr1) S w_)
   obtain ⟨es3,ck3,tv3,tr3,hI⟩:∃ es3 ck3 tv3 tr3,Inv w X ([.blk b3 (.cells #[.int .i64 k,.int .i64 n,.string s,.slice (some ⟨b,o,none⟩) [x,y].length cap] ac)]++bh sb mb es3 ck3 tv3 tr3) S w_:=⟨es1,ck1,tv1,tr1,hI⟩
   exact ⟨av,aw,ao,au,az,aq,fun _=>rfl,aE,aH,⟨hI0,hI1,es3,ck3,tv3,tr3,hI⟩⟩
  ·intro D aY ci gc x4 cf cA cz cu cv cw bP dE w_
   rintro ⟨av,aw,ao,au,az,aq,aA,aE,aH,⟨hI0,hI1,es3,ck3,tv3,tr3,hI⟩⟩
   obtain rfl:=aA ci
   obtain ⟨es1,ck1,tv1,tr1,hm1,htr1,hT1,hI⟩:=hI1 ci
   refine Run.callPure fn_i_holds nm_i_holds hI (c8 r S) fun w_ hI=>?_
   have hI0:=fun (h:aD D 7 6=false)=>(Bool.noConfusion (h.symm.trans (show aD D 7 6=true from ci)):Inv w X ([.blk b3 (.cells #[.int .i64 k,.int .i64 n,.string s,.slice (some ⟨b,o,none⟩) [x,y].length cap] ac)]++bh sb mb es ck tv tr) S w_)
   have hI1:=fun (_:aD D 7 6=true)=>(⟨es1,ck1,tv1,tr1,hm1,htr1,hT1,hI⟩:∃ es1 ck1 tv1 tr1,KnownM S es1 st'/\tr1.length+unb st'<=1000000/\Tr st st' tr tr1/\Inv w X ([.blk b3 (.cells #[.int .i64 k,.int .i64 n,.string s,.slice (some ⟨b,o,none⟩) [x,y].length cap] ac)]++bh sb mb es1 ck1 tv1 tr1) S w_)
   obtain ⟨es3,ck3,tv3,tr3,hI⟩:∃ es3 ck3 tv3 tr3,Inv w X ([.blk b3 (.cells #[.int .i64 k,.int .i64 n,.string s,.slice (some ⟨b,o,none⟩) [x,y].length cap] ac)]++bh sb mb es3 ck3 tv3 tr3) S w_:=⟨es1,ck1,tv1,tr1,hI⟩
   exact ⟨av,aw,ao,au,az,aq,aA,fun _=>rfl,aH,⟨hI0,hI1,es3,ck3,tv3,tr3,hI⟩⟩
  ·intro D aY dT gY oB mQ lu oL oo rF rB v9 x4 cf cA cz cu cv cw bP dE w_
   rintro ⟨av,aw,ao,au,az,aq,aA,aE,aH,⟨hI0,hI1,es3,ck3,tv3,tr3,hI⟩⟩
   obtain rfl:=aE dT
   exact ⟨av,aw,ao,au,az,aq,aA,aE,fun _=>rfl,⟨hI0,hI1,es3,ck3,tv3,tr3,hI⟩⟩
  intro D gh fB fk fi e9 fe eQ eZ e8 x4 cf cA cz cu cv cw bP dE w_
  rintro ⟨av,aw,ao,au,az,aq,aA,aE,aH,⟨hI0,hI1,es3,ck3,tv3,tr3,hI⟩⟩
  obtain rfl:=aH gh
  obtain rfl:=aE fB
  obtain rfl:=aA fk
  obtain rfl:=aq fi
  obtain rfl:=az e9
  obtain rfl:=au fe
  obtain rfl:=ao eQ
  obtain rfl:=aw eZ
  obtain rfl:=av e8
  clear av aw ao au az aq aA aE aH
  obtain ⟨es1,ck1,tv1,tr1,hm1,htr1,hT1,hI⟩:=hI1 fk
  exact ⟨_,_,S,rfl,hI.sub (List.sublist_append_right [_] _),Ext.refl _ _ _,rfl,rfl,es1,ck1,tv1,tr1,rfl,hm1,htr1,hT1⟩
 refine bm ?_
 refine bf (fun h=>?_) (fun g1=>?_)
 ·obtain ⟨x,rfl⟩:=wd (l:=ks) (by
    rcases jV hbs h0 h1 h2 h3 h4 h5 hcn with ⟨_,h⟩|⟨h',_⟩
    ·omega
    ·rw [h] at h'; exact absurd h' (by decide +kernel))
  have hj:d5 (.mk k n s [x])=.done (dl (hK s x)):=by
   rw [d5,if_neg (show ¬ (T.mk k n s [x]).name=e6 from h0),if_neg (show ¬ (T.mk k n s [x]).name=fJ from h1),if_neg (show ¬ (T.mk k n s [x]).name=nEq from h2),if_neg (show ¬ (T.mk k n s [x]).name=nNe from h3),if_neg (show ¬ (T.mk k n s [x]).name=iN from h4),if_neg (show ¬ (T.mk k n s [x]).name=nIs from h5),if_neg (show ¬ (T.mk k n s [x]).name=tX from by rw [show (T.mk k n s [x]).name=s from rfl,h]; decide +kernel),show (T.mk k n s [x]).name=s from rfl,hcn,if_neg (by decide)]
   rfl
  rw [hj] at hB
  have ht:hK s x=decide (x.kind=1):=by rw [h]; rfl
  refine kO hI hks aC aU aR (i:=0) (by simp) (fun cs hcs=>RdT.f0 hcs) ?_
  refine bu ?_
  exact Run.callPure fn_i_holds nm_i_holds hI (c8 _ S) fun w' hI=>fin _ (by rw [ht]; rfl) hB hI (sub1 _)
 refine bm ?_
 refine bf (fun h=>?_) (fun g2=>?_)
 ·obtain ⟨x,rfl⟩:=wd (l:=ks) (by
    rcases jV hbs h0 h1 h2 h3 h4 h5 hcn with ⟨_,h⟩|⟨h',_⟩
    ·omega
    ·rw [h] at h'; exact absurd h' (by decide +kernel))
  have hj:d5 (.mk k n s [x])=.done (dl (hK s x)):=by
   rw [d5,if_neg (show ¬ (T.mk k n s [x]).name=e6 from h0),if_neg (show ¬ (T.mk k n s [x]).name=fJ from h1),if_neg (show ¬ (T.mk k n s [x]).name=nEq from h2),if_neg (show ¬ (T.mk k n s [x]).name=nNe from h3),if_neg (show ¬ (T.mk k n s [x]).name=iN from h4),if_neg (show ¬ (T.mk k n s [x]).name=nIs from h5),if_neg (show ¬ (T.mk k n s [x]).name=tX from by rw [show (T.mk k n s [x]).name=s from rfl,h]; decide +kernel),show (T.mk k n s [x]).name=s from rfl,hcn,if_neg (by decide)]
   rfl
  rw [hj] at hB
  have ht:hK s x=!decide (x.kind=1):=by rw [h]; rfl
  refine kO hI hks aC aU aR (i:=0) (by simp) (fun cs hcs=>RdT.f0 hcs) ?_
  refine bQ ?_
  exact Run.callPure fn_i_holds nm_i_holds hI (c8 _ S) fun w' hI=>fin _ (by rw [ht]; rfl) hB hI (sub1 _)
 refine bm ?_
 refine bf (fun h=>?_) (fun g3=>?_)
 ·obtain ⟨x,rfl⟩:=wd (l:=ks) (by
    rcases jV hbs h0 h1 h2 h3 h4 h5 hcn with ⟨_,h⟩|⟨h',_⟩
    ·omega
    ·rw [h] at h'; exact absurd h' (by decide +kernel))
  have hj:d5 (.mk k n s [x])=.done (dl (hK s x)):=by
   rw [d5,if_neg (show ¬ (T.mk k n s [x]).name=e6 from h0),if_neg (show ¬ (T.mk k n s [x]).name=fJ from h1),if_neg (show ¬ (T.mk k n s [x]).name=nEq from h2),if_neg (show ¬ (T.mk k n s [x]).name=nNe from h3),if_neg (show ¬ (T.mk k n s [x]).name=iN from h4),if_neg (show ¬ (T.mk k n s [x]).name=nIs from h5),if_neg (show ¬ (T.mk k n s [x]).name=tX from by rw [show (T.mk k n s [x]).name=s from rfl,h]; decide +kernel),show (T.mk k n s [x]).name=s from rfl,hcn,if_neg (by decide)]
   rfl
  rw [hj] at hB
  have ht:hK s x=(decide (x.kind=3) && decide (x.kids.length=0)):=by rw [h]; rfl
  refine cj (i:=0) hI hks aC al (by simp) (fun _ _=>RdT.length) fun ds hds=>?_
  refine Run.callPure sJ r5 hI (qA hds) fun w' hI=>?_
  exact Run.callPure fn_i_holds nm_i_holds hI (c8 _ S) fun w' hI=>fin _ (by rw [ht]; rfl) hB hI (sub1 _)
 refine bm ?_
 refine bf (fun h=>?_) (fun g4=>?_)
 ·obtain ⟨x,rfl⟩:=wd (l:=ks) (by
    rcases jV hbs h0 h1 h2 h3 h4 h5 hcn with ⟨_,h⟩|⟨h',_⟩
    ·omega
    ·rw [h] at h'; exact absurd h' (by decide +kernel))
  have hj:d5 (.mk k n s [x])=.done (dl (hK s x)):=by
   rw [d5,if_neg (show ¬ (T.mk k n s [x]).name=e6 from h0),if_neg (show ¬ (T.mk k n s [x]).name=fJ from h1),if_neg (show ¬ (T.mk k n s [x]).name=nEq from h2),if_neg (show ¬ (T.mk k n s [x]).name=nNe from h3),if_neg (show ¬ (T.mk k n s [x]).name=iN from h4),if_neg (show ¬ (T.mk k n s [x]).name=nIs from h5),if_neg (show ¬ (T.mk k n s [x]).name=tX from by rw [show (T.mk k n s [x]).name=s from rfl,h]; decide +kernel),show (T.mk k n s [x]).name=s from rfl,hcn,if_neg (by decide)]
   rfl
  rw [hj] at hB
  have ht:hK s x=decide (x.kind=2):=by rw [h]; rfl
  refine kO hI hks aC aU aR (i:=0) (by simp) (fun cs hcs=>RdT.f0 hcs) ?_
  refine bu ?_
  exact Run.callPure fn_i_holds nm_i_holds hI (c8 _ S) fun w' hI=>fin _ (by rw [ht]; rfl) hB hI (sub1 _)
 have hall:s=tX/\ks.length=3:=by
  rcases jV hbs h0 h1 h2 h3 h4 h5 hcn with ⟨ht,_⟩|⟨h,hl⟩
  ·rw [ca,List.any_eq_true] at ht
   obtain ⟨x,hx,hd⟩:=ht
   have hd:=of_decide_eq_true hd
   simp only [nn,List.mem_cons,List.not_mem_nil,or_false] at hx
   rcases hx with rfl|rfl|rfl|rfl
   ·exact absurd hd g1
   ·exact absurd hd g2
   ·exact absurd hd g3
   ·exact absurd hd g4
  ·exact ⟨h,by omega⟩
 obtain ⟨h,hl⟩:=hall
 obtain ⟨x,y,z,rfl⟩:=zK hl
 have hj:d5 (.mk k n s [x,y,z])=m8 x y z:=by
  rw [d5,if_neg (show ¬ (T.mk k n s [x,y,z]).name=e6 from h0),if_neg (show ¬ (T.mk k n s [x,y,z]).name=fJ from h1),if_neg (show ¬ (T.mk k n s [x,y,z]).name=nEq from h2),if_neg (show ¬ (T.mk k n s [x,y,z]).name=nNe from h3),if_neg (show ¬ (T.mk k n s [x,y,z]).name=iN from h4),if_neg (show ¬ (T.mk k n s [x,y,z]).name=nIs from h5),if_pos (show (T.mk k n s [x,y,z]).name=tX from h)]
  rfl
 rw [hj] at hB hbj
 obtain ⟨b,o,cap,c,E,fz,rfl,hSb,hR⟩:=hks.ptr (by simp)
 have hx:=hR 0 (by simp)
 have hy:=hR 1 (by simp)
 have hz:=hR 2 (by simp)
 obtain ⟨kx,hxe,_,hx2,_,_⟩:=RdT.iff.1 hx
 obtain ⟨ky,hye,_,_,_,hyk⟩:=RdT.iff.1 hy
 have hx:RdT S (ba c (o+0 * 4) 4) x:=hx
 have hy:RdT S (ba c (o+1 * 4) 4) y:=hy
 have hxe:ba c (o+0 * 4) 4=[.int .i64 x.kind,.int .i64 x.n,.string x.name,kx]:=hxe
 have hye:ba c (o+1 * 4) 4=[.int .i64 y.kind,.int .i64 y.n,.string y.name,ky]:=hye
 have hyk:RdSl S 4 (RdT S) ky y.kids:=hyk
 have hx2:inI x.n:=hx2
 have hky1:=hyk.le
 simp only [maxLen] at hky1
 refine ⟨fun q w'=>q=.bool (decide (x.kind=1 ∨ y.kind=1))/\Inv w X ([.blk b3 (.cells #[.int .i64 k,.int .i64 n,.string s,.slice (some ⟨b,o,none⟩) [x,y,z].length cap] ac)]++bh sb mb es ck tv tr) S w',?_,?_⟩
 ·refine kO hI hks aC aU aR (i:=0) (by simp) (fun cs hcs=>RdT.f0 hcs) ?_
  refine bu ?_
  have e0:([x,y,z]:List T)[0]=x:=rfl
  rw [e0]
  cases k1:decide (x.kind=1)
  ·repeat (first|refine ab ?_|refine ad (by decide) ?_|refine aa ?_|refine af ?_|refine ag ?_)
   refine kO hI hks aC aU aR (i:=1) (by simp) (fun cs hcs=>RdT.f0 hcs) ?_
   refine bu ?_
   repeat (first|refine ab ?_|refine ad (by decide) ?_|refine aa ?_|refine af ?_|refine ag ?_)
   have:=of_decide_eq_false k1
   refine ⟨?_,hI⟩
   rw [Value.bool.injEq,decide_eq_decide]
   exact ⟨.inr,fun h=>h.resolve_left this⟩
  ·repeat (first|refine ab ?_|refine ad (by decide) ?_|refine aa ?_|refine af ?_|refine ag ?_)
   exact ⟨by rw [decide_eq_true (.inl (of_decide_eq_true k1))],hI⟩
 intro q _ _ _ _ _ _ _ _ _ _ _ _ w'
 rintro ⟨rfl,hI⟩
 refine bf (fun k1=>fin 2 (by rw [m8,if_pos k1]) hB hI (sub1 _)) (fun k1=>?_)
 have el:decide ((y.kids.length:Int)=0)=decide (y.kids.length=0):=by rw [decide_eq_decide]; omega
 refine ⟨fun q w'=>q=.bool (decide (x.kind≠2 ∨ y.kind≠3 ∨ y.kids.length=0))/\Inv w X ([.blk b3 (.cells #[.int .i64 k,.int .i64 n,.string s,.slice (some ⟨b,o,none⟩) [x,y,z].length cap] ac)]++bh sb mb es ck tv tr) S w',?_,?_⟩
 ·refine kO hI hks aC aU aR (i:=0) (by simp) (fun cs hcs=>RdT.f0 hcs) ?_
  refine bQ ?_
  have e0:([x,y,z]:List T)[0]=x:=rfl
  rw [e0]
  cases q2:decide (x.kind=2)
  ·repeat (first|refine ab ?_|refine ad (by decide) ?_|refine aa ?_|refine af ?_|refine ag ?_)
   exact ⟨by rw [decide_eq_true (.inl (of_decide_eq_false q2))],hI⟩
  have q2:=of_decide_eq_true q2
  repeat (first|refine ab ?_|refine ad (by decide) ?_|refine aa ?_|refine af ?_|refine ag ?_)
  refine kO hI hks aC aU aR (i:=1) (by simp) (fun cs hcs=>RdT.f0 hcs) ?_
  refine bQ ?_
  have e1:([x,y,z]:List T)[1]=y:=rfl
  rw [e1]
  cases q3:decide (y.kind=3)
  ·repeat (first|refine ab ?_|refine ad (by decide) ?_|refine aa ?_|refine af ?_|refine ag ?_)
   exact ⟨by rw [decide_eq_true (.inr (.inl (of_decide_eq_false q3)))],hI⟩
  have q3:=of_decide_eq_true q3
  repeat (first|refine ab ?_|refine ad (by decide) ?_|refine aa ?_|refine af ?_|refine ag ?_)
  refine aT (i:=1) aC (by simp) ?_
  refine bb aP ?_
  refine fj aO (by rw [hI.cellS hSb]; exact aS hye 3 _ rfl) ?_
  refine a5 hyk aC ?_
  refine bu ?_
  rw [el]
  repeat (first|refine ab ?_|refine ad (by decide) ?_|refine aa ?_|refine af ?_|refine ag ?_)
  refine ⟨?_,hI⟩
  rw [Value.bool.injEq,decide_eq_decide]
  simp [q2,q3]
 intro q _ _ _ _ _ _ _ _ _ _ _ _ _ _ _ _ _ _ _ _ w'
 rintro ⟨rfl,hI⟩
 refine bf (fun k2=>fin 3 (by rw [m8,if_neg k1,if_pos k2]) hB hI (sub1 _)) (fun k2=>?_)
 have hwi:(decide (1<=x.n) && decide (x.n<=(y.kids.length:Int)))=!decide (x.n<1 ∨ (y.kids.length:Int)<x.n):=by
  by_cases h8:x.n<1
  ·simp [h8]; omega
  ·by_cases h9:(y.kids.length:Int)<x.n
   ·simp [h9]
   ·simp [h8,h9]; omega
 refine ⟨fun D qt pN pe p6 pD qB qf oY o6 qC ql pO w_=>(D 0=true->pO=.slice (some ⟨b,o,none⟩) [x,y,z].length cap)/\(D 1=true->ql=.pointer (some ⟨b,o+0 * 4,none⟩))/\(D 2=true->qC=.pointer (some ⟨b,o+0 * 4+1,none⟩))/\(D 3=true->o6=.int .i64 x.n)/\(D 4=true->oY=.slice (some ⟨b,o,none⟩) [x,y,z].length cap)/\(D 5=true->qf=.pointer (some ⟨b,o+1 * 4,none⟩))/\(D 6=true->qB=.pointer (some ⟨b,o+1 * 4+3,none⟩))/\(D 7=true->pD=ky)/\(D 8=true->p6=.int .i64 y.kids.length)/\(D 9=true->pe=.bool (!decide (x.n<1 ∨ (y.kids.length:Int)<x.n)))/\(D 10=true->pN=.bool (decide (x.n<1 ∨ (y.kids.length:Int)<x.n)))/\(D 11=true->qt=.bool (decide (x.n<1 ∨ (y.kids.length:Int)<x.n)))/\Inv w X ([.blk b3 (.cells #[.int .i64 k,.int .i64 n,.string s,.slice (some ⟨b,o,none⟩) [x,y,z].length cap] ac)]++bh sb mb es ck tv tr) S w_,⟨ae,ae,ae,ae,ae,ae,ae,ae,ae,ae,ae,ae,hI.draw⟩,⟨?_,?_,?_,?_,?_,?_,?_,?_,?_,?_,?_,?_,trivial⟩,?_⟩
 ·intro D aY  qt pN pe p6 pD qB qf oY o6 qC ql pO w_
  rintro ⟨av,aw,ao,au,az,aq,aA,aE,aH,aL,ai,aj,hI⟩
  exact ⟨fun _=>rfl,aw,ao,au,az,aq,aA,aE,aH,aL,ai,aj,hI⟩
 ·intro D aY cB qt pN pe p6 pD qB qf oY o6 qC ql pO w_
  rintro ⟨av,aw,ao,au,az,aq,aA,aE,aH,aL,ai,aj,hI⟩
  obtain rfl:=av cB
  refine aT (i:=0) aC (by simp) ?_
  exact ⟨av,fun _=>rfl,ao,au,az,aq,aA,aE,aH,aL,ai,aj,hI⟩
 ·intro D aY c6 qt pN pe p6 pD qB qf oY o6 qC ql pO w_
  rintro ⟨av,aw,ao,au,az,aq,aA,aE,aH,aL,ai,aj,hI⟩
  obtain rfl:=aw c6
  refine bb a9 ?_
  exact ⟨av,aw,fun _=>rfl,au,az,aq,aA,aE,aH,aL,ai,aj,hI⟩
 ·intro D aY cc qt pN pe p6 pD qB qf oY o6 qC ql pO w_
  rintro ⟨av,aw,ao,au,az,aq,aA,aE,aH,aL,ai,aj,hI⟩
  obtain rfl:=ao cc
  refine fj aR (by rw [hI.cellS hSb]; exact aS hxe 1 _ rfl) ?_
  exact ⟨av,aw,ao,fun _=>rfl,az,aq,aA,aE,aH,aL,ai,aj,hI⟩
 ·intro D aY  qt pN pe p6 pD qB qf oY o6 qC ql pO w_
  rintro ⟨av,aw,ao,au,az,aq,aA,aE,aH,aL,ai,aj,hI⟩
  exact ⟨av,aw,ao,au,fun _=>rfl,aq,aA,aE,aH,aL,ai,aj,hI⟩
 ·intro D aY cZ qt pN pe p6 pD qB qf oY o6 qC ql pO w_
  rintro ⟨av,aw,ao,au,az,aq,aA,aE,aH,aL,ai,aj,hI⟩
  obtain rfl:=az cZ
  refine aT (i:=1) aC (by simp) ?_
  exact ⟨av,aw,ao,au,az,fun _=>rfl,aA,aE,aH,aL,ai,aj,hI⟩
 ·intro D aY cY qt pN pe p6 pD qB qf oY o6 qC ql pO w_
  rintro ⟨av,aw,ao,au,az,aq,aA,aE,aH,aL,ai,aj,hI⟩
  obtain rfl:=aq cY
  refine bb aP ?_
  exact ⟨av,aw,ao,au,az,aq,fun _=>rfl,aE,aH,aL,ai,aj,hI⟩
 ·intro D aY ci qt pN pe p6 pD qB qf oY o6 qC ql pO w_
  rintro ⟨av,aw,ao,au,az,aq,aA,aE,aH,aL,ai,aj,hI⟩
  obtain rfl:=aA ci
  refine fj aO (by rw [hI.cellS hSb]; exact aS hye 3 _ rfl) ?_
  exact ⟨av,aw,ao,au,az,aq,aA,fun _=>rfl,aH,aL,ai,aj,hI⟩
 ·intro D aY dT qt pN pe p6 pD qB qf oY o6 qC ql pO w_
  rintro ⟨av,aw,ao,au,az,aq,aA,aE,aH,aL,ai,aj,hI⟩
  obtain rfl:=aE dT
  refine a5 hyk aC ?_
  exact ⟨av,aw,ao,au,az,aq,aA,aE,fun _=>rfl,aL,ai,aj,hI⟩
 ·intro D aY dq AE qt pN pe p6 pD qB qf oY o6 qC ql pO w_
  rintro ⟨av,aw,ao,au,az,aq,aA,aE,aH,aL,ai,aj,hI⟩
  obtain rfl:=au dq
  obtain rfl:=aH AE
  refine Run.callPure fH fL hI (eN _ _ _ S) fun w_ hI=>?_
  rw [hwi]
  exact ⟨av,aw,ao,au,az,aq,aA,aE,aH,fun _=>rfl,ai,aj,hI⟩
 ·intro D aY kV qt pN pe p6 pD qB qf oY o6 qC ql pO w_
  rintro ⟨av,aw,ao,au,az,aq,aA,aE,aH,aL,ai,aj,hI⟩
  obtain rfl:=aL kV
  refine bJ ?_
  rw [Bool.not_not]
  exact ⟨av,aw,ao,au,az,aq,aA,aE,aH,aL,fun _=>rfl,aj,hI⟩
 ·intro D aY eo iJ qt pN pe p6 pD qB qf oY o6 qC ql pO w_
  rintro ⟨av,aw,ao,au,az,aq,aA,aE,aH,aL,ai,aj,hI⟩
  obtain rfl:=ai eo
  exact ⟨av,aw,ao,au,az,aq,aA,aE,aH,aL,ai,fun _=>rfl,hI⟩
 intro D dO d7 hY gh fB fk fi e9 fe eQ eZ e8 qt pN pe p6 pD qB qf oY o6 qC ql pO w_
 rintro ⟨av,aw,ao,au,az,aq,aA,aE,aH,aL,ai,aj,hI⟩
 obtain rfl:=aj dO
 obtain rfl:=ai d7
 obtain rfl:=aL hY
 obtain rfl:=aH gh
 obtain rfl:=aE fB
 obtain rfl:=aA fk
 obtain rfl:=aq fi
 obtain rfl:=az e9
 obtain rfl:=au fe
 obtain rfl:=ao eQ
 obtain rfl:=aw eZ
 obtain rfl:=av e8
 clear av aw ao au az aq aA aE aH aL ai aj
 refine bf (fun k3=>fin 1 (by rw [m8,if_neg k1,if_neg k2,if_pos k3]) hB hI (sub1 _)) (fun k3=>?_)
 obtain ⟨m,hm⟩:∃ m:Nat,x.n=(m:Int)+1:=⟨(x.n - 1).toNat,by omega⟩
 have hml:m<y.kids.length:=by omega
 have hkd:kd y (x.n.toNat - 1)=y.kids[m]:=by
  have e1:x.n.toNat - 1=m:=by omega
  rw [e1,kd,List.getD_eq_getElem?_getD,List.getElem?_eq_getElem hml]
  rfl
 have hja:m8 x y z=.uni z y.kids[m]:=by rw [m8,if_neg k1,if_neg k2,if_neg k3,hkd]
 rw [hja] at hB hbj
 obtain ⟨r,hu,rfl⟩:=hB
 have hjj:okJ N (.one z y.kids[m]):=hbj
 obtain ⟨c2,o2,cap2,a2,E2,fz2,rfl,hS2,hR2⟩:=hyk.at_ hml
 refine ⟨fun D x4 j5 jm jB kg jU jT jP jy j7 jY jS kj jk j8 j0 jN j6 w_=>(D 0=true->j6=.pointer (some ⟨sb,0,none⟩))/\(D 1=true->jN=.slice (some ⟨b,o,none⟩) [x,y,z].length cap)/\(D 2=true->j0=.pointer (some ⟨b,o+2 * 4,none⟩))/\(D 3=true->j8=.agg (ba c (o+2 * 4) 4).toArray)/\(D 4=true->jk=.slice (some ⟨b,o,none⟩) [x,y,z].length cap)/\(D 5=true->kj=.pointer (some ⟨b,o+1 * 4,none⟩))/\(D 6=true->jS=.pointer (some ⟨b,o+1 * 4+3,none⟩))/\(D 7=true->jY=.slice (some ⟨c2,o2,none⟩) y.kids.length cap2)/\(D 8=true->j7=.slice (some ⟨b,o,none⟩) [x,y,z].length cap)/\(D 9=true->jy=.pointer (some ⟨b,o+0 * 4,none⟩))/\(D 10=true->jP=.pointer (some ⟨b,o+0 * 4+1,none⟩))/\(D 11=true->jT=.int .i64 x.n)/\(D 12=true->jU=.int .i64 m)/\(D 13=true->kg=.pointer (some ⟨c2,o2+m * 4,none⟩))/\(D 14=true->jB=.agg (ba a2 (o2+m * 4) 4).toArray)/\(D 15=true->jm=.bool r)/\(D 16=true->j5=.int .i64 (dl r))/\(D 17=true->x4=.int .i64 (dl r))/\(D 15=false->Inv w X ([.blk b3 (.cells #[.int .i64 k,.int .i64 n,.string s,.slice (some ⟨b,o,none⟩) [x,y,z].length cap] ac)]++bh sb mb es ck tv tr) S w_)/\(D 15=true->∃ es1 ck1 tv1 tr1,KnownM S es1 st'/\tr1.length+unb st'<=1000000/\Tr st st' tr tr1/\Inv w X ([.blk b3 (.cells #[.int .i64 k,.int .i64 n,.string s,.slice (some ⟨b,o,none⟩) [x,y,z].length cap] ac)]++bh sb mb es1 ck1 tv1 tr1) S w_)/\∃ es3 ck3 tv3 tr3,Inv w X ([.blk b3 (.cells #[.int .i64 k,.int .i64 n,.string s,.slice (some ⟨b,o,none⟩) [x,y,z].length cap] ac)]++bh sb mb es3 ck3 tv3 tr3) S w_,⟨ae,ae,ae,ae,ae,ae,ae,ae,ae,ae,ae,ae,ae,ae,ae,ae,ae,ae,⟨fun _=>hI.draw,ae,es,ck,tv,tr,hI.draw⟩⟩,⟨?_,?_,?_,?_,?_,?_,?_,?_,?_,?_,?_,?_,?_,?_,?_,?_,?_,?_,trivial⟩,?_⟩
 ·intro D aY  x4 j5 jm jB kg jU jT jP jy j7 jY jS kj jk j8 j0 jN j6 w_
  rintro ⟨av,aw,ao,au,az,aq,aA,aE,aH,aL,ai,aj,am,aF,aB,aJ,aI,aK,⟨hI0,hI1,es3,ck3,tv3,tr3,hI⟩⟩
  exact ⟨fun _=>rfl,aw,ao,au,az,aq,aA,aE,aH,aL,ai,aj,am,aF,aB,aJ,aI,aK,⟨hI0,hI1,es3,ck3,tv3,tr3,hI⟩⟩
 ·intro D aY  x4 j5 jm jB kg jU jT jP jy j7 jY jS kj jk j8 j0 jN j6 w_
  rintro ⟨av,aw,ao,au,az,aq,aA,aE,aH,aL,ai,aj,am,aF,aB,aJ,aI,aK,⟨hI0,hI1,es3,ck3,tv3,tr3,hI⟩⟩
  exact ⟨av,fun _=>rfl,ao,au,az,aq,aA,aE,aH,aL,ai,aj,am,aF,aB,aJ,aI,aK,⟨hI0,hI1,es3,ck3,tv3,tr3,hI⟩⟩
 ·intro D aY c6 x4 j5 jm jB kg jU jT jP jy j7 jY jS kj jk j8 j0 jN j6 w_
  rintro ⟨av,aw,ao,au,az,aq,aA,aE,aH,aL,ai,aj,am,aF,aB,aJ,aI,aK,⟨hI0,hI1,es3,ck3,tv3,tr3,hI⟩⟩
  obtain rfl:=aw c6
  refine aT (i:=2) aC (by simp) ?_
  exact ⟨av,aw,fun _=>rfl,au,az,aq,aA,aE,aH,aL,ai,aj,am,aF,aB,aJ,aI,aK,⟨hI0,hI1,es3,ck3,tv3,tr3,hI⟩⟩
 ·intro D aY cc x4 j5 jm jB kg jU jT jP jy j7 jY jS kj jk j8 j0 jN j6 w_
  rintro ⟨av,aw,ao,au,az,aq,aA,aE,aH,aL,ai,aj,am,aF,aB,aJ,aI,aK,⟨hI0,hI1,es3,ck3,tv3,tr3,hI⟩⟩
  obtain rfl:=ao cc
  refine bw al (RdT.length (hR 2 (by simp))) (fun j v hj=>by rw [hI.cellS hSb]; exact aS rfl j v hj) ?_
  exact ⟨av,aw,ao,fun _=>rfl,az,aq,aA,aE,aH,aL,ai,aj,am,aF,aB,aJ,aI,aK,⟨hI0,hI1,es3,ck3,tv3,tr3,hI⟩⟩
 ·intro D aY  x4 j5 jm jB kg jU jT jP jy j7 jY jS kj jk j8 j0 jN j6 w_
  rintro ⟨av,aw,ao,au,az,aq,aA,aE,aH,aL,ai,aj,am,aF,aB,aJ,aI,aK,⟨hI0,hI1,es3,ck3,tv3,tr3,hI⟩⟩
  exact ⟨av,aw,ao,au,fun _=>rfl,aq,aA,aE,aH,aL,ai,aj,am,aF,aB,aJ,aI,aK,⟨hI0,hI1,es3,ck3,tv3,tr3,hI⟩⟩
 ·intro D aY cZ x4 j5 jm jB kg jU jT jP jy j7 jY jS kj jk j8 j0 jN j6 w_
  rintro ⟨av,aw,ao,au,az,aq,aA,aE,aH,aL,ai,aj,am,aF,aB,aJ,aI,aK,⟨hI0,hI1,es3,ck3,tv3,tr3,hI⟩⟩
  obtain rfl:=az cZ
  refine aT (i:=1) aC (by simp) ?_
  exact ⟨av,aw,ao,au,az,fun _=>rfl,aA,aE,aH,aL,ai,aj,am,aF,aB,aJ,aI,aK,⟨hI0,hI1,es3,ck3,tv3,tr3,hI⟩⟩
 ·intro D aY cY x4 j5 jm jB kg jU jT jP jy j7 jY jS kj jk j8 j0 jN j6 w_
  rintro ⟨av,aw,ao,au,az,aq,aA,aE,aH,aL,ai,aj,am,aF,aB,aJ,aI,aK,⟨hI0,hI1,es3,ck3,tv3,tr3,hI⟩⟩
  obtain rfl:=aq cY
  refine bb aP ?_
  exact ⟨av,aw,ao,au,az,aq,fun _=>rfl,aE,aH,aL,ai,aj,am,aF,aB,aJ,aI,aK,⟨hI0,hI1,es3,ck3,tv3,tr3,hI⟩⟩
 ·intro D aY ci x4 j5 jm jB kg jU jT jP jy j7 jY jS kj jk j8 j0 jN j6 w_
  rintro ⟨av,aw,ao,au,az,aq,aA,aE,aH,aL,ai,aj,am,aF,aB,aJ,aI,aK,⟨hI0,hI1,es3,ck3,tv3,tr3,hI⟩⟩
  obtain rfl:=aA ci
  refine fj aO (by rw [hI.cellS hSb]; exact aS hye 3 _ rfl) ?_
  exact ⟨av,aw,ao,au,az,aq,aA,fun _=>rfl,aH,aL,ai,aj,am,aF,aB,aJ,aI,aK,⟨hI0,hI1,es3,ck3,tv3,tr3,hI⟩⟩
 ·intro D aY  x4 j5 jm jB kg jU jT jP jy j7 jY jS kj jk j8 j0 jN j6 w_
  rintro ⟨av,aw,ao,au,az,aq,aA,aE,aH,aL,ai,aj,am,aF,aB,aJ,aI,aK,⟨hI0,hI1,es3,ck3,tv3,tr3,hI⟩⟩
  exact ⟨av,aw,ao,au,az,aq,aA,aE,fun _=>rfl,aL,ai,aj,am,aF,aB,aJ,aI,aK,⟨hI0,hI1,es3,ck3,tv3,tr3,hI⟩⟩
 ·intro D aY dN x4 j5 jm jB kg jU jT jP jy j7 jY jS kj jk j8 j0 jN j6 w_
  rintro ⟨av,aw,ao,au,az,aq,aA,aE,aH,aL,ai,aj,am,aF,aB,aJ,aI,aK,⟨hI0,hI1,es3,ck3,tv3,tr3,hI⟩⟩
  obtain rfl:=aH dN
  refine aT (i:=0) aC (by simp) ?_
  exact ⟨av,aw,ao,au,az,aq,aA,aE,aH,fun _=>rfl,ai,aj,am,aF,aB,aJ,aI,aK,⟨hI0,hI1,es3,ck3,tv3,tr3,hI⟩⟩
 ·intro D aY kV x4 j5 jm jB kg jU jT jP jy j7 jY jS kj jk j8 j0 jN j6 w_
  rintro ⟨av,aw,ao,au,az,aq,aA,aE,aH,aL,ai,aj,am,aF,aB,aJ,aI,aK,⟨hI0,hI1,es3,ck3,tv3,tr3,hI⟩⟩
  obtain rfl:=aL kV
  refine bb a9 ?_
  exact ⟨av,aw,ao,au,az,aq,aA,aE,aH,aL,fun _=>rfl,aj,am,aF,aB,aJ,aI,aK,⟨hI0,hI1,es3,ck3,tv3,tr3,hI⟩⟩
 ·intro D aY eo x4 j5 jm jB kg jU jT jP jy j7 jY jS kj jk j8 j0 jN j6 w_
  rintro ⟨av,aw,ao,au,az,aq,aA,aE,aH,aL,ai,aj,am,aF,aB,aJ,aI,aK,⟨hI0,hI1,es3,ck3,tv3,tr3,hI⟩⟩
  obtain rfl:=ai eo
  refine fj aR (by rw [hI.cellS hSb]; exact aS hxe 1 _ rfl) ?_
  exact ⟨av,aw,ao,au,az,aq,aA,aE,aH,aL,ai,fun _=>rfl,am,aF,aB,aJ,aI,aK,⟨hI0,hI1,es3,ck3,tv3,tr3,hI⟩⟩
 ·intro D aY e7 x4 j5 jm jB kg jU jT jP jy j7 jY jS kj jk j8 j0 jN j6 w_
  rintro ⟨av,aw,ao,au,az,aq,aA,aE,aH,aL,ai,aj,am,aF,aB,aJ,aI,aK,⟨hI0,hI1,es3,ck3,tv3,tr3,hI⟩⟩
  obtain rfl:=aj e7
  refine jA (by omega) ?_
  rw [show x.n - 1=(m:Int) by omega]
  exact ⟨av,aw,ao,au,az,aq,aA,aE,aH,aL,ai,aj,fun _=>rfl,aF,aB,aJ,aI,aK,⟨hI0,hI1,es3,ck3,tv3,tr3,hI⟩⟩
 ·intro D aY dT uo x4 j5 jm jB kg jU jT jP jy j7 jY jS kj jk j8 j0 jN j6 w_
  rintro ⟨av,aw,ao,au,az,aq,aA,aE,aH,aL,ai,aj,am,aF,aB,aJ,aI,aK,⟨hI0,hI1,es3,ck3,tv3,tr3,hI⟩⟩
  obtain rfl:=aE dT
  obtain rfl:=am uo
  refine aT aC hml ?_
  exact ⟨av,aw,ao,au,az,aq,aA,aE,aH,aL,ai,aj,am,fun _=>rfl,aB,aJ,aI,aK,⟨hI0,hI1,es3,ck3,tv3,tr3,hI⟩⟩
 ·intro D aY fu x4 j5 jm jB kg jU jT jP jy j7 jY jS kj jk j8 j0 jN j6 w_
  rintro ⟨av,aw,ao,au,az,aq,aA,aE,aH,aL,ai,aj,am,aF,aB,aJ,aI,aK,⟨hI0,hI1,es3,ck3,tv3,tr3,hI⟩⟩
  obtain rfl:=aF fu
  refine bw al hR2.length (fun j v hj=>by rw [hI.cellS hS2]; exact aS rfl j v hj) ?_
  exact ⟨av,aw,ao,au,az,aq,aA,aE,aH,aL,ai,aj,am,aF,fun _=>rfl,aJ,aI,aK,⟨hI0,hI1,es3,ck3,tv3,tr3,hI⟩⟩
 ·intro D aY cB jw jL x4 j5 jm jB kg jU jT jP jy j7 jY jS kj jk j8 j0 jN j6 w_
  rintro ⟨av,aw,ao,au,az,aq,aA,aE,aH,aL,ai,aj,am,aF,aB,aJ,aI,aK,⟨hI0,hI1,es3,ck3,tv3,tr3,hI⟩⟩
  obtain rfl:=av cB
  obtain rfl:=au jw
  obtain rfl:=aB jL
  refine Run.callE (A:=[_]) dU dZ (hI0 aY) (gG hN hg hjj hu S _ _ sb mb ck es tv tr hz hR2 hkm htr) fun v' I' S' w_=>?_
  rintro ⟨eS,rfl,es1,ck1,tv1,tr1,rfl,hm1,htr1,hT1⟩ _ hI
  rw [eS] at hI
  have hI0:=fun (h:aD D 15 15=false)=>(Bool.noConfusion h:Inv w X ([.blk b3 (.cells #[.int .i64 k,.int .i64 n,.string s,.slice (some ⟨b,o,none⟩) [x,y,z].length cap] ac)]++bh sb mb es ck tv tr) S w_)
  have hI1:=fun (_:aD D 15 15=true)=>(⟨es1,ck1,tv1,tr1,hm1,htr1,hT1,hI⟩:∃ es1 ck1 tv1 tr1,KnownM S es1 st'/\tr1.length+unb st'<=1000000/\Tr st st' tr tr1/\Inv w X ([.blk b3 (.cells #[.int .i64 k,.int .i64 n,.string s,.slice (some ⟨b,o,none⟩) [x,y,z].length cap] ac)]++bh sb mb es1 ck1 tv1 tr1) S w_)
  obtain ⟨es3,ck3,tv3,tr3,hI⟩:∃ es3 ck3 tv3 tr3,Inv w X ([.blk b3 (.cells #[.int .i64 k,.int .i64 n,.string s,.slice (some ⟨b,o,none⟩) [x,y,z].length cap] ac)]++bh sb mb es3 ck3 tv3 tr3) S w_:=⟨es1,ck1,tv1,tr1,hI⟩
  exact ⟨av,aw,ao,au,az,aq,aA,aE,aH,aL,ai,aj,am,aF,aB,fun _=>rfl,aI,aK,⟨hI0,hI1,es3,ck3,tv3,tr3,hI⟩⟩
 ·intro D aY jl sV x4 j5 jm jB kg jU jT jP jy j7 jY jS kj jk j8 j0 jN j6 w_
  rintro ⟨av,aw,ao,au,az,aq,aA,aE,aH,aL,ai,aj,am,aF,aB,aJ,aI,aK,⟨hI0,hI1,es3,ck3,tv3,tr3,hI⟩⟩
  obtain rfl:=aJ jl
  obtain ⟨es1,ck1,tv1,tr1,hm1,htr1,hT1,hI⟩:=hI1 jl
  refine Run.callPure fn_i_holds nm_i_holds hI (c8 r S) fun w_ hI=>?_
  have hI0:=fun (h:aD D 16 15=false)=>(Bool.noConfusion (h.symm.trans (show aD D 16 15=true from jl)):Inv w X ([.blk b3 (.cells #[.int .i64 k,.int .i64 n,.string s,.slice (some ⟨b,o,none⟩) [x,y,z].length cap] ac)]++bh sb mb es ck tv tr) S w_)
  have hI1:=fun (_:aD D 16 15=true)=>(⟨es1,ck1,tv1,tr1,hm1,htr1,hT1,hI⟩:∃ es1 ck1 tv1 tr1,KnownM S es1 st'/\tr1.length+unb st'<=1000000/\Tr st st' tr tr1/\Inv w X ([.blk b3 (.cells #[.int .i64 k,.int .i64 n,.string s,.slice (some ⟨b,o,none⟩) [x,y,z].length cap] ac)]++bh sb mb es1 ck1 tv1 tr1) S w_)
  obtain ⟨es3,ck3,tv3,tr3,hI⟩:∃ es3 ck3 tv3 tr3,Inv w X ([.blk b3 (.cells #[.int .i64 k,.int .i64 n,.string s,.slice (some ⟨b,o,none⟩) [x,y,z].length cap] ac)]++bh sb mb es3 ck3 tv3 tr3) S w_:=⟨es1,ck1,tv1,tr1,hI⟩
  exact ⟨av,aw,ao,au,az,aq,aA,aE,aH,aL,ai,aj,am,aF,aB,aJ,fun _=>rfl,aK,⟨hI0,hI1,es3,ck3,tv3,tr3,hI⟩⟩
 ·intro D aY mg r3 oB mQ lu oL oo rF rB v9 u3 Ci Bn Eq FA Fu Ga F0 Gb x4 j5 jm jB kg jU jT jP jy j7 jY jS kj jk j8 j0 jN j6 w_
  rintro ⟨av,aw,ao,au,az,aq,aA,aE,aH,aL,ai,aj,am,aF,aB,aJ,aI,aK,⟨hI0,hI1,es3,ck3,tv3,tr3,hI⟩⟩
  obtain rfl:=aI mg
  exact ⟨av,aw,ao,au,az,aq,aA,aE,aH,aL,ai,aj,am,aF,aB,aJ,aI,fun _=>rfl,⟨hI0,hI1,es3,ck3,tv3,tr3,hI⟩⟩
 intro D kU kq jr i5 jq fN dO d7 hY gh fB fk fi e9 fe eQ eZ e8 x4 j5 jm jB kg jU jT jP jy j7 jY jS kj jk j8 j0 jN j6 w_
 rintro ⟨av,aw,ao,au,az,aq,aA,aE,aH,aL,ai,aj,am,aF,aB,aJ,aI,aK,⟨hI0,hI1,es3,ck3,tv3,tr3,hI⟩⟩
 obtain rfl:=aK kU
 obtain rfl:=aI kq
 obtain rfl:=aJ jr
 obtain rfl:=aB i5
 obtain rfl:=aF jq
 obtain rfl:=am fN
 obtain rfl:=aj dO
 obtain rfl:=ai d7
 obtain rfl:=aL hY
 obtain rfl:=aH gh
 obtain rfl:=aE fB
 obtain rfl:=aA fk
 obtain rfl:=aq fi
 obtain rfl:=az e9
 obtain rfl:=au fe
 obtain rfl:=ao eQ
 obtain rfl:=aw eZ
 obtain rfl:=av e8
 clear av aw ao au az aq aA aE aH aL ai aj am aF aB aJ aI aK
 obtain ⟨es1,ck1,tv1,tr1,hm1,htr1,hT1,hI⟩:=hI1 jr
 exact ⟨_,_,S,rfl,hI.sub (List.sublist_append_right [_] _),Ext.refl _ _ _,rfl,rfl,es1,ck1,tv1,tr1,rfl,hm1,htr1,hT1⟩
end
end Go.Proofs.YtfcbhfjomgopbaaGreat

/- impl: resolved terms, if they are small. -/
namespace Go.Proofs.YtfcbhfjomgopbaaGreat
open Go Go.RowKit
theorem KnownM.up {S S':ar} {es:Array MapEntry} {st:a6} (h:KnownM S es st) (hs:Sle S S'):KnownM S' es st:=
 ⟨fun e he=>by
  obtain ⟨n,t,cs,h1,h2,h3,h4⟩:=h.1 e he
  exact ⟨n,t,cs,h1,h2,h3.mono hs,h4⟩,h.2⟩
theorem StS.up {S S':ar} {sb:Nat} {st:a6} (h:StS S S sb st) (hs:Sle S S'):StS S' S' sb st:=by
 obtain ⟨mb,tv,es,ck,E,h1,h2,h3⟩:=h
 exact ⟨mb,tv,es,ck,E,hs _ _ h1,hs _ _ h2,h3.up hs⟩
def okR (u:T) (deep count:Int):Bool:=decide (count+dk u<=120) && Dd u (31 - deep)
def RC (st:a6) (sb:Nat) (t u:T):Prop:=∀ (S:ar) (cs:List Value) (cb:Nat) (deep count:Int),RdT S cs t->StS S S sb st->1<=deep->deep<=1000000->0<=count->count<=1000000->
 Tri Tryz.prog mS [.pointer (some ⟨sb,0,none⟩),.agg cs.toArray,.int .i64 deep,.pointer (some ⟨cb,0,none⟩)] [.blk cb (.cells #[.int .i64 count] ce)] S fun q I' S'=>
  ∃ (cs':List Value) (c':Int),q=.tuple #[.agg cs'.toArray,.bool (okR u deep count)]/\I'=[.blk cb (.cells #[.int .i64 c'] ce)]/\cs'.length=4/\(∀ x∈cs',x.oneCell'=true)/\(okR u deep count=true->c'=count+dk u/\RdT S' cs' u)
section
attribute [local irreducible] Run CondV ak bg
theorem vV {N:Nat} {st:a6} {sb:Nat} {t v:T} {us:List T} (hg:Good N st) (hwv:cK st t v) (hot:okU N t/\wT t<=1048576) (hlu:us.length=v.kids.length)
  (hk:∀ i (h:i<us.length) (h':i<v.kids.length),RC st sb v.kids[i] us[i]):RC st sb t (.mk v.kind v.n v.name us):=by
 intro S cs cb deep count h hst hd0 hd1 hc0 hc1 w hI
 have hlc:=h.length
 have hov:=dp hg hwv hot
 obtain ⟨X,hX⟩:∃ X,X=bv [Item.blk cb (.cells #[.int .i64 count] ce)]:=⟨_,rfl⟩
 rw [<- hX] at hI ⊢
 have hcu:=dH us
 have hokd:okR (.mk v.kind v.n v.name us) deep count=(decide (count+(1+cJ us)<=120) && (if 31 - deep<1 then false else CH us (31 - deep - 1))):=by
  rw [okR,i0,Dd]
 refine js ?_
 unfold gO
 refine bt hI fun b5 w' hI=>?_
 refine bC hI bA fun b8 w' hI=>?_
 have hI:Inv w X ([.blk b5 (.cells cs.toArray ac),.blk b8 (.cells #[.int .i64 0,.int .i64 0,.string ⟨#[]⟩,.slice none 0 0] ac)]++[.blk cb (.cells #[.int .i64 count] ce)]) S w':=hI.perm (List.perm_append_comm (l₁:=[_,_]) (l₂:=[_]))
 refine a8 hI 0 al rfl (by simpa using hlc) ?_
 refine Run.call0 fy fA hI (ie hg hwv hot.1 hst h) fun v' I' S' w'=>?_
 rintro ⟨eS,rfl,cs',rfl,hcs'⟩ _ hI
 rw [eS] at hI
 clear eS
 refine bq hI 0 rfl al (by simpa using hcs'.length) (by simpa using hlc) (by simpa using hcs'.one) fun w' hI=>?_
 obtain ⟨kv,rfl,hi1,hi2,hs,hks⟩:=RdT.iff.1 hcs'
 have hI:Inv w X [.blk b5 (.cells #[.int .i64 v.kind,.int .i64 v.n,.string v.name,kv] ac),.blk b8 (.cells #[.int .i64 0,.int .i64 0,.string ⟨#[]⟩,.slice none 0 0] ac),.blk cb (.cells #[.int .i64 count] ce)] S w':=hI
 have hlen:=hks.le
 have hkl:v.kids.length<=1048576:=by
  have:=hov.2
  cases v
  simp only [wT] at this
  simp only [T.kids]
  omega
 refine bR ?_
 refine bj hI 2 aR rfl rfl ?_
 refine b0 (by omega) ?_
 refine bR ?_
 refine gK hI 2 (n:=1) rfl (by decide +kernel) rfl (by simp) (by simp [Value.cells,Value.oneCell']) fun w' hI=>?_
 have hI:Inv w X [.blk b5 (.cells #[.int .i64 v.kind,.int .i64 v.n,.string v.name,kv] ac),.blk b8 (.cells #[.int .i64 0,.int .i64 0,.string ⟨#[]⟩,.slice none 0 0] ac),.blk cb (.cells #[.int .i64 (count+1)] ce)] S w':=hI
 refine ⟨fun q w'=>q=.bool (decide (120<count+1 ∨ 30<deep))/\Inv w X [.blk b5 (.cells #[.int .i64 v.kind,.int .i64 v.n,.string v.name,kv] ac),.blk b8 (.cells #[.int .i64 0,.int .i64 0,.string ⟨#[]⟩,.slice none 0 0] ac),.blk cb (.cells #[.int .i64 (count+1)] ce)] S w',?_,?_⟩
 ·refine bR ?_
  refine bj hI 2 aR rfl rfl ?_
  refine hG ?_
  by_cases e1:120<count+1
  ·rw [decide_eq_true e1]
   repeat (first|refine ab ?_|refine ad (by decide) ?_|refine aa ?_|refine af ?_|refine ag ?_)
   exact ⟨by rw [decide_eq_true (Or.inl e1)],hI⟩
  ·rw [decide_eq_false e1]
   repeat (first|refine ab ?_|refine ad (by decide) ?_|refine aa ?_|refine af ?_|refine ag ?_)
   refine hG ?_
   repeat (first|refine ab ?_|refine ad (by decide) ?_|refine aa ?_|refine af ?_|refine ag ?_)
   refine ⟨?_,hI⟩
   congr 1
   rw [Bool.eq_iff_iff,decide_eq_true_eq,decide_eq_true_eq]
   omega
 intro q _ _ _ _ _ _ _ w'
 rintro ⟨rfl,hI⟩
 refine bf (fun hbad=>?_) (fun hgood=>?_)
 ·have hno:okR (.mk v.kind v.n v.name us) deep count=false:=by
   rw [hokd]
   rcases hbad with e|e
   ·rw [decide_eq_false (by omega),Bool.false_and]
   ·rw [if_pos (by omega),Bool.and_false]
  refine eW ?_
  refine bq hI 1 rfl al rfl rfl jI fun w' hI=>?_
  refine dJ hI 1 al rfl rfl ?_
  exact ⟨_,_,_,rfl,hI.pick [false,false,true],Ext.refl _ _ _,[.int .i64 0,.int .i64 0,.string ⟨#[]⟩,.slice none 0 0],count+1,by rw [hno],rfl,rfl,jI,fun h=>by rw [hno] at h; cases h⟩
 have hg1:count+1<=120:=by omega
 have hg2:deep<=30:=by omega
 rw [if_neg (by omega)] at hokd
 refine ah hI 0 rfl aU aR rfl ?_
 refine ah hI 0 rfl a9 aR rfl ?_
 refine ah hI 0 rfl bi bk rfl ?_
 refine rW ?_
 refine bC hI bA fun b10 w' hI=>?_
 have hI:Inv w X [.blk b5 (.cells #[.int .i64 v.kind,.int .i64 v.n,.string v.name,kv] ac),.blk b8 (.cells #[.int .i64 0,.int .i64 0,.string ⟨#[]⟩,.slice none 0 0] ac),.blk b10 _,.blk cb (.cells #[.int .i64 (count+1)] ce)] S w':=hI.perm (((List.perm_append_comm (l₁:=[_]) (l₂:=[_])).cons _).cons _)
 refine bq hI 2 rfl al rfl rfl (by simp [Value.oneCell']) fun w' hI=>?_
 have hI:=hI.rowNil ac 4
 have hI:Inv w X [.blk b5 (.cells #[.int .i64 v.kind,.int .i64 v.n,.string v.name,kv] ac),.blk b8 (.cells #[.int .i64 0,.int .i64 0,.string ⟨#[]⟩,.slice none 0 0] ac),.blk b10 (.cells #[.int .i64 v.kind,.int .i64 v.n,.string v.name,.slice none 0 0] ac),dL (.slice none 0 0) ac 4 [],.blk cb (.cells #[.int .i64 (count+1)] ce)] S w':=hI.perm ((((List.perm_append_comm (l₁:=[_]) (l₂:=[_])).cons _).cons _).cons _)
 refine ah hI 0 rfl aP aO rfl ?_
 refine a5 hks aC ?_
 refine ⟨fun i w'=>∃ (j:Nat) (c:Int) (kvc:Value) (css:List (List Value)) (S1:ar),j<=us.length/\i=.int .i64 j/\Ext w.heap.size X S S1/\c=count+1+cJ (us.take j)/\c<=120/\(∀ k (_:k<us.length),k<j->Dd us[k] (31 - deep - 1)=true)/\Rows 4 (RdT S1) css (us.take j)/\
   Inv w X [.blk b5 (.cells #[.int .i64 v.kind,.int .i64 v.n,.string v.name,kv] ac),.blk b8 (.cells #[.int .i64 0,.int .i64 0,.string ⟨#[]⟩,.slice none 0 0] ac),.blk b10 (.cells #[.int .i64 v.kind,.int .i64 v.n,.string v.name,kvc] ac),dL kvc ac 4 css,.blk cb (.cells #[.int .i64 c] ce)] S1 w',
  fun i _=>us.length - (intOf i).toNat,⟨0,count+1,_,[],S,Nat.zero_le _,rfl,Ext.refl _ _ _,by simp [cJ],hg1,fun k _ h=>by omega,Rows.nil _ _,hI⟩,?_⟩
 intro t42 _ _ _ _ _ _ _ _ _ _ _ _ _ _ _ _ _ _ _ _ _ _ _ _ _ _ w'
 rintro ⟨j,c,kvc,css,S1,hj,rfl,hE,hc,hc120,hdep,hR,hI⟩
 have hpos:=dH (us.take j)
 refine bz ?_
 refine bf (fun hji=>?_) (fun hji=>?_)
 ·have hj1:j<us.length:=by omega
  have hj2:j<v.kids.length:=by omega
  have hcl:=hR.hc
  rw [List.length_take] at hcl
  refine cj hI (hks.monoT hE.1) aC al hj2 (fun _ _=>RdT.length) fun cs0 hcs0=>?_
  have hlc0:=hcs0.length
  refine bC hI bA fun b12 w' hI=>?_
  have hI:=hI.perm (M:=.blk b12 _::[.blk b5 (.cells #[.int .i64 v.kind,.int .i64 v.n,.string v.name,kv] ac),.blk b8 (.cells #[.int .i64 0,.int .i64 0,.string ⟨#[]⟩,.slice none 0 0] ac),.blk b10 (.cells #[.int .i64 v.kind,.int .i64 v.n,.string v.name,kvc] ac),dL kvc ac 4 css,.blk cb (.cells #[.int .i64 c] ce)]) (List.perm_append_comm (l₁:=[_]))
  refine bq hI 0 rfl al (by simpa using hlc0) rfl (by simpa using hcs0.one) fun w' hI=>?_
  refine a8 hI 0 al rfl (by simpa using hlc0) ?_
  refine b0 (by omega) ?_
  have hI:Inv w X ([.blk b5 (.cells #[.int .i64 v.kind,.int .i64 v.n,.string v.name,kv] ac),.blk b8 (.cells #[.int .i64 0,.int .i64 0,.string ⟨#[]⟩,.slice none 0 0] ac),.blk b10 (.cells #[.int .i64 v.kind,.int .i64 v.n,.string v.name,kvc] ac),dL kvc ac 4 css]++[.blk cb (.cells #[.int .i64 c] ce)]) S1 w':=hI.pick [false,true,true,true,true,true]
  refine Run.callE gS gP hI (hk j hj1 hj2 S1 cs0 cb (deep+1) c hcs0 (hst.up hE.1) (by omega) (by omega) (by omega) (by omega)) fun v' I' S2 w'=>?_
  rintro ⟨cs2,c2,rfl,rfl,hl4,ho4,hrd⟩ hE2 hI
  refine be rfl ?_
  refine be rfl ?_
  refine bC hI bA fun b13 w' hI=>?_
  have hI:=hI.perm (M:=.blk b13 _::[.blk b5 (.cells #[.int .i64 v.kind,.int .i64 v.n,.string v.name,kv] ac),.blk b8 (.cells #[.int .i64 0,.int .i64 0,.string ⟨#[]⟩,.slice none 0 0] ac),.blk b10 (.cells #[.int .i64 v.kind,.int .i64 v.n,.string v.name,kvc] ac),dL kvc ac 4 css,.blk cb (.cells #[.int .i64 c2] ce)]) (List.perm_append_comm (l₁:=[_]))
  refine bq hI 0 rfl al (by simpa using hl4) rfl (by simpa using ho4) fun w' hI=>?_
  refine bJ ?_
  have hct:=xR us j hj1
  have hcle:=oP us (j+1)
  refine bd (fun hb=>?_) (fun hb=>?_)
  ·have hb':okR us[j] (deep+1) c=false:=by simpa using hb
   have hno:okR (.mk v.kind v.n v.name us) deep count=false:=by
    rw [hokd]
    rw [okR,Bool.and_eq_false_iff] at hb'
    rcases hb' with e|e
    ·have e:=of_decide_eq_false e
     rw [decide_eq_false (by omega),Bool.false_and]
    ·have:CH us (31 - deep - 1)=false:=by
      rw [vH,List.all_eq_false]
      exact ⟨us[j],List.getElem_mem hj1,by rw [show 31 - deep - 1=31 - (deep+1) by omega,e]; decide⟩
     rw [this,Bool.and_false]
   refine eW ?_
   have hI:Inv w X [.blk b13 (.cells cs2.toArray ac),.blk b5 (.cells #[.int .i64 v.kind,.int .i64 v.n,.string v.name,kv] ac),.blk b8 (.cells #[.int .i64 0,.int .i64 0,.string ⟨#[]⟩,.slice none 0 0] ac),.blk b10 (.cells #[.int .i64 v.kind,.int .i64 v.n,.string v.name,kvc] ac),dL kvc ac 4 css,.blk cb (.cells #[.int .i64 c2] ce)] S2 w':=hI
   refine bq hI 2 rfl al rfl rfl jI fun w' hI=>?_
   refine dJ hI 2 al rfl rfl ?_
   exact ⟨_,_,_,rfl,hI.pick [false,false,false,false,false,true],hE.trans hE2,[.int .i64 0,.int .i64 0,.string ⟨#[]⟩,.slice none 0 0],c2,by rw [hno],rfl,rfl,jI,fun h=>by rw [hno] at h; cases h⟩
  ·have hb':okR us[j] (deep+1) c=true:=by simpa using hb
   obtain ⟨hc2,hR2⟩:=hrd hb'
   rw [okR,Bool.and_eq_true,decide_eq_true_eq] at hb'
   refine ah (b:=b10) (c:=#[.int .i64 v.kind,.int .i64 v.n,.string v.name,kvc]) hI 3 rfl aP aO rfl ?_
   refine a8 hI 0 al rfl (by simpa using hl4) ?_
   refine mG hI 4 cs2 gv (by omega) (by omega) rfl hl4 ho4 (by omega) (by omega) fun kvc2 w' hI=>?_
   have hkv2:=kC (hI.its (dL kvc2 ac 4 (css++[cs2])) (by simp))
   refine dF (b:=b10) (c:=#[.int .i64 v.kind,.int .i64 v.n,.string v.name,kvc]) hI 3 rfl aP aO rfl hkv2.1 hkv2.2 fun w' hI=>?_
   have hI:Inv w X [.blk b5 (.cells #[.int .i64 v.kind,.int .i64 v.n,.string v.name,kv] ac),.blk b8 (.cells #[.int .i64 0,.int .i64 0,.string ⟨#[]⟩,.slice none 0 0] ac),.blk b10 (.cells #[.int .i64 v.kind,.int .i64 v.n,.string v.name,kvc2] ac),dL kvc2 ac 4 (css++[cs2]),.blk cb (.cells #[.int .i64 c2] ce)] S2 w':=hI.pick [false,true,true,true,true,true]
   refine b0 (by omega) ?_
   refine ⟨⟨j+1,c2,kvc2,css++[cs2],S2,hj1,rfl,hE.trans hE2,by omega,by omega,fun k hk2 hkj=>?_,?_,hI⟩,by simp [intOf]; omega⟩
   ·by_cases e:k=j
    ·subst e
     rw [show 31 - deep - 1=31 - (deep+1) by omega]
     exact hb'.2
    ·exact hdep k hk2 (by omega)
   ·rw [List.take_succ_eq_append_getElem hj1]
    exact (hR.monoR fun _ _ h=>RdT.mono hE2.1 h).snoc hR2 hl4
 ·have hje:j=us.length:=by omega
  subst hje
  rw [List.take_length] at hR hc
  have hyes:okR (.mk v.kind v.n v.name us) deep count=true:=by
   rw [hokd,decide_eq_true (by omega),Bool.true_and,vH,List.all_eq_true]
   intro x hx
   obtain ⟨k,hk2,rfl⟩:=List.mem_iff_getElem.1 hx
   exact hdep k hk2 hk2
  refine a8 (b:=b10) (c:=#[.int .i64 v.kind,.int .i64 v.n,.string v.name,kvc]) hI 2 al rfl rfl ?_
  have hkv2:=kC (hI.its (dL kvc ac 4 css) (by simp))
  have hone:∀ x∈([.int .i64 v.kind,.int .i64 v.n,.string v.name,kvc]:List Value),x.oneCell'=true:=by
   intro x hx
   simp at hx
   rcases hx with rfl|rfl|rfl|rfl <;> first|rfl|exact hkv2.2
  refine bq hI 1 rfl al rfl rfl hone fun w' hI=>?_
  refine dJ (c:=#[.int .i64 v.kind,.int .i64 v.n,.string v.name,kvc]) hI 1 al rfl rfl ?_
  have hI:Inv w X ([.blk cb (.cells #[.int .i64 c] ce)]++[dL kvc ac 4 css]) S1 w':=(hI.pick [false,false,false,true,true]).perm (List.Perm.swap ..)
  obtain ⟨S3,hE3,hrd,hI⟩:=hI.lendExt
  have hrr:=RowRd.rows (hR.monoR fun _ _ h=>RdT.mono hE3.1 h) hrd
  exact ⟨_,_,_,rfl,hI,hE.trans hE3,[.int .i64 v.kind,.int .i64 v.n,.string v.name,kvc],c,by rw [hyes],rfl,rfl,hone,fun _=>⟨by rw [i0]; omega,RdT.iff.2 ⟨kvc,rfl,hi1,hi2,hs,hrr⟩⟩⟩
theorem tN {N:Nat} {st:a6} (sb:Nat) (hg:Good N st) {j:Fy} (hr:Res st j):match j with
  | .one t u=>(okU N t/\wT t<=1048576)->RC st sb t u
  | .list ts us=>(∀ t∈ts,okU N t/\wT t<=1048576)->us.length=ts.length/\∀ i (h:i<us.length) (h':i<ts.length),RC st sb ts[i] us[i]:=by
 induction hr with
 | one hw _ ih=>
  intro ho
  have h1:=ih (ig (dp hg hw ho))
  exact vV hg hw ho h1.1 h1.2
 | nil=>exact fun _=>⟨rfl,fun i h _=>by simp at h⟩
 | cons _ _ ih1 ih2=>
  intro ho
  obtain ⟨h1,h2⟩:=ih2 fun t ht=>ho t (List.mem_cons_of_mem _ ht)
  refine ⟨by simp [h1],fun i h h'=>?_⟩
  cases i with
  | zero=>exact ih1 (ho _ (List.mem_cons_self ..))
  | succ i=>exact h2 i (by simpa using h) (by simpa using h')
theorem xM {N:Nat} {st:a6} (hg:Good N st) {t u:T} (hr:Res st (.one t u)) (ho:okU N t/\wT t<=1048576) {S:ar} {cs:List Value} {sb:Nat} (h:RdT S cs t) (hst:StS S S sb st) :
  Tri Tryz.prog pw [.pointer (some ⟨sb,0,none⟩),.agg cs.toArray] [] S fun q I' S'=>I'=[]/\∃ cs':List Value,cs'.length=4/\(∀ x∈cs',x.oneCell'=true)/\q=.tuple #[.agg cs'.toArray,.bool (l6 u)]/\(l6 u=true->RdT S' cs' u):=by
 intro w hI
 have hlc:=h.length
 have hI:Inv w [] [] S w:=hI
 have hrc:RC st sb t u:=tN sb hg hr ho
 have e:okR u 1 0=l6 u:=by rw [okR,l6,Int.zero_add]; rfl
 refine lq ?_
 unfold ir
 refine bt hI fun b3 w' hI=>?_
 refine bC hI bA fun b4 w' hI=>?_
 have hz:gm Tryz.prog ce=some (.int .i64 0):=by kernel_rfl
 refine bC hI hz fun b6 w' hI=>?_
 refine gK hI 2 (n:=1) rfl (by decide +kernel) rfl (by simp [Value.cells]) (by simp [Value.cells,Value.oneCell']) fun w' hI=>?_
 have hI:Inv w [] ([.blk b3 (.cells cs.toArray ac),.blk b4 (.cells #[.int .i64 0,.int .i64 0,.string ⟨#[]⟩,.slice none 0 0] ac)]++[.blk b6 (.cells #[.int .i64 0] ce)]) S w':=hI
 refine a8 hI 0 al rfl (by simpa using hlc) ?_
 refine Run.callE gS gP hI (hrc S cs b6 1 0 h hst (by omega) (by omega) (by omega) (by omega)) fun v' I' S2 w'=>?_
 rintro ⟨cs2,c2,rfl,rfl,hl4,ho4,hrd⟩ hE2 hI
 rw [e] at hrd ⊢
 refine be rfl ?_
 refine be rfl ?_
 have hI:Inv w [] [.blk b3 (.cells cs.toArray ac),.blk b4 (.cells #[.int .i64 0,.int .i64 0,.string ⟨#[]⟩,.slice none 0 0] ac),.blk b6 (.cells #[.int .i64 c2] ce)] S2 w':=hI
 refine bq hI 1 rfl al (by simpa using hl4) rfl (by simpa using ho4) fun w' hI=>?_
 refine dJ hI 1 al rfl (by simpa using hl4) ?_
 exact ⟨_,_,_,rfl,hI.nil,hE2,rfl,cs2,hl4,ho4,rfl,fun h=>(hrd h).2⟩
end

end Go.Proofs.YtfcbhfjomgopbaaGreat

/- The standard order of terms: a total order on well-formed terms. -/
namespace Go.Proofs.YtfcbhfjomgopbaaGreat
open Go Go.RowKit

theorem vU:∀ (a b c:List UInt8),Op.bytesLess a b=true->Op.bytesLess b c=true->Op.bytesLess a c=true
 | _,[],_,h,_=>by simp [Op.bytesLess] at h
 | _,_::_,[],_,h=>by simp [Op.bytesLess] at h
 | [],_::_,_::_,_,_=>by simp [Op.bytesLess]
 | x::a,y::b,z::c,h,h'=>by
  simp only [Op.bytesLess,Bool.or_eq_true,decide_eq_true_eq,Bool.and_eq_true,beq_iff_eq] at h h' ⊢
  rcases h with h|⟨rfl,h⟩
  ·rcases h' with h'|⟨rfl,h'⟩
   ·left; exact UInt8.lt_trans h h'
   ·left; exact h
  ·rcases h' with h'|⟨rfl,h'⟩
   ·left; exact h'
   ·right; exact ⟨rfl,vU a b c h h'⟩
theorem xS:∀ a:List UInt8,Op.bytesLess a a=false
 | []=>by simp [Op.bytesLess]
 | x::a=>by
  simp only [Op.bytesLess,xS a,Bool.and_false,Bool.or_false,decide_eq_false_iff_not]
  exact UInt8.lt_irrefl x
theorem AB:∀ a b:List UInt8,a≠b->Op.bytesLess a b=true ∨ Op.bytesLess b a=true
 | [],[],h=>absurd rfl h
 | [],_::_,_=>.inl (by simp [Op.bytesLess])
 | _::_,[],_=>.inr (by simp [Op.bytesLess])
 | x::a,y::b,h=>by
  simp only [Op.bytesLess,Bool.or_eq_true,decide_eq_true_eq,Bool.and_eq_true,beq_iff_eq]
  by_cases e:x=y
  ·subst e
   rcases AB a b (fun e=>h (by rw [e])) with h1|h1
   ·exact .inl (.inr ⟨rfl,h1⟩)
   ·exact .inr (.inr ⟨rfl,h1⟩)
  ·rcases UInt8.lt_or_lt_of_ne e with h1|h1
   ·exact .inl (.inl h1)
   ·exact .inr (.inl h1)
def bls (a b:ByteArray):Bool:=Op.bytesLess a.toList b.toList
def ld (a b:Int):Int:=if a<b then -1 else if b<a then 1 else 0
def eT (a b:ByteArray):Int:=if bls a b=true then -1 else if bls b a=true then 1 else 0
def rkS (t:T):Int:=if t.kind=3/\0<t.kids.length then 4 else t.kind
def tk (a b:Int):Int:=if a≠0 then a else b
/- the head of a term: all but its kids -/
def hdC (t u:T):Int:=tk (ld (rkS t) (rkS u)) (tk (ld t.n u.n) (tk (ld t.kids.length u.kids.length) (eT t.name u.name)))
mutual
def rf:T->T->Int
 | .mk k n s ks,u=>tk (hdC (.mk k n s ks) u) (fU ks u.kids)
def fU:List T->List T->Int
 | [],[]=>0
 | [],_::_=>-1
 | _::_,[]=>1
 | t::ts,u::us=>tk (rf t u) (fU ts us)
end
theorem gR (a b:Int):(a<b/\ld a b=-1) ∨ (b<a/\ld a b=1) ∨ (a=b/\ld a b=0):=by
 unfold ld
 by_cases h:a<b
 ·exact .inl ⟨h,if_pos h⟩
 ·by_cases h':b<a
  ·exact .inr (.inl ⟨h',by rw [if_neg h,if_pos h']⟩)
  ·exact .inr (.inr ⟨by omega,by rw [if_neg h,if_neg h']⟩)
theorem toList_inj {a b:ByteArray} (h:a.toList=b.toList):a=b:=by
 have:=v8 a b
 rw [beq_iff_eq.2 h] at this
 exact of_decide_eq_true this.symm
theorem fq (a b:ByteArray):(bls a b=true/\eT a b=-1) ∨ (bls b a=true/\bls a b=false/\eT a b=1) ∨ (a=b/\eT a b=0):=by
 unfold eT
 cases h:bls a b with
 | true=>exact .inl ⟨rfl,if_pos rfl⟩
 | false=>
  cases h':bls b a with
  | true=>exact .inr (.inl ⟨rfl,rfl,by simp⟩)
  | false=>
   refine .inr (.inr ⟨?_,by simp⟩)
   refine toList_inj (Decidable.byContradiction fun e=>?_)
   rcases AB _ _ e with h1|h1
   ·rw [bls,h1] at h; cases h
   ·rw [bls,h1] at h'; cases h'
theorem Eb {a b:ByteArray} (h:bls a b=true):bls b a=false:=by
 cases h':bls b a with
 | false=>rfl
 | true=>
  have:=vU _ _ _ h h'
  rw [xS] at this
  cases this

/- how three comparisons fit -/
structure TC (a b c:Int):Prop where
 lt:a=-1->b=-1->c=-1
 e1:a=0->c=b
 e2:b=0->c=a
theorem TC.lex {a b c a' b' c':Int} (h:TC a b c) (h':TC a' b' c'):TC (tk a a') (tk b b') (tk c c'):=by
 obtain ⟨h1,h2,h3⟩:=h
 obtain ⟨h4,h5,h6⟩:=h'
 unfold tk
 refine ⟨fun x y=>?_,fun x=>?_,fun x=>?_⟩
 ·by_cases ea:a=0
  ·rw [if_neg (by omega)] at x
   by_cases eb:b=0
   ·rw [if_neg (by omega)] at y
    rw [if_neg (by have:=h2 ea; omega)]
    exact h4 x y
   ·rw [if_pos (by omega)] at y
    have:=h2 ea
    rw [if_pos (by omega)]; omega
  ·rw [if_pos (by omega)] at x
   by_cases eb:b=0
   ·have:=h3 eb
    rw [if_pos (by omega)]; omega
   ·rw [if_pos (by omega)] at y
    have:=h1 x y
    rw [if_pos (by omega)]; omega
 ·by_cases ea:a=0
  ·rw [if_neg (by omega)] at x
   rw [h2 ea,h5 x]
  ·rw [if_pos (by omega)] at x; omega
 ·by_cases eb:b=0
  ·rw [if_neg (by omega)] at x
   rw [h3 eb,h6 x]
  ·rw [if_pos (by omega)] at x; omega
theorem TC.zero:TC 0 0 0:=⟨fun h=>by omega,fun _=>rfl,fun _=>rfl⟩
theorem TC.int (a b c:Int):TC (ld a b) (ld b c) (ld a c):=by
 have h1:=gR a b
 have h2:=gR b c
 have h3:=gR a c
 exact ⟨fun _ _=>by omega,fun _=>by omega,fun _=>by omega⟩
theorem TC.str (a b c:ByteArray):TC (eT a b) (eT b c) (eT a c):=by
 refine ⟨fun x y=>?_,fun x=>?_,fun x=>?_⟩
 ·rcases fq a b with h|h|h
  ·rcases fq b c with h'|h'|h'
   ·have:=vU _ _ _ h.1 h'.1
    unfold eT
    rw [if_pos (show bls a c=true from this)]
   ·omega
   ·omega
  ·omega
  ·omega
 ·rcases fq a b with h|h|h
  ·omega
  ·omega
  ·rw [h.1]
 ·rcases fq b c with h|h|h
  ·omega
  ·omega
  ·rw [h.1]
theorem TC.hd (t u v:T):TC (hdC t u) (hdC u v) (hdC t v):=(TC.int _ _ _).lex ((TC.int _ _ _).lex ((TC.int _ _ _).lex (TC.str _ _ _)))
mutual
theorem TC.term:∀ t u v:T,TC (rf t u) (rf u v) (rf t v)
 | .mk k n s ks,.mk k' n' s' ks',v=>by
  rw [rf,rf,rf]
  exact (TC.hd _ _ _).lex (TC.list ks ks' v.kids)
theorem TC.list:∀ t u v:List T,TC (fU t u) (fU u v) (fU t v)
 | [],[],[]=>by simpa [fU] using TC.zero
 | [],[],_::_=>by rw [fU,fU]; exact ⟨fun h=>by omega,fun _=>rfl,fun h=>by omega⟩
 | [],_::_,[]=>by rw [fU,fU,fU]; exact ⟨fun _ h=>by omega,fun h=>by omega,fun h=>by omega⟩
 | [],_::_,_::_=>by rw [fU,fU]; exact ⟨fun h _=>h,fun h=>by omega,fun h=>rfl⟩
 | _::_,[],[]=>by rw [fU,fU]; exact ⟨fun h _=>h,fun h=>by omega,fun h=>rfl⟩
 | _::_,[],_::_=>by rw [fU,fU]; exact ⟨fun h _=>by omega,fun h=>by omega,fun h=>by omega⟩
 | _::_,_::_,[]=>by rw [fU,fU]; exact ⟨fun _ h=>by omega,fun h=>rfl,fun h=>by omega⟩
 | t::ts,u::us,v::vs=>by
  rw [fU,fU,fU]
  exact (TC.term t u v).lex (TC.list ts us vs)
end
theorem lD (a b:Int):-(tk a b)=tk (-a) (-b):=by
 unfold tk
 by_cases h:a=0
 ·subst h; simp
 ·rw [if_pos h,if_pos (by omega)]
theorem n0 (a b:Int):ld b a=-ld a b:=by
 have:=gR a b
 have:=gR b a
 omega
theorem zk (a b:ByteArray):eT b a=-eT a b:=by
 rcases fq a b with h|h|h
 ·rw [h.2]
  have:=Eb h.1
  unfold eT
  rw [this,if_neg (by decide),if_pos h.1]; rfl
 ·rw [h.2.2]
  unfold eT
  rw [if_pos h.1]
 ·rw [h.2]
  obtain rfl:=h.1
  rw [h.2]; rfl
theorem DA (t u:T):hdC u t=-hdC t u:=by
 rw [hdC,hdC,lD,lD,lD,n0 (rkS t),n0 t.n,n0 t.kids.length,zk t.name]
mutual
theorem xX:∀ t u:T,rf u t=-rf t u
 | .mk k n s ks,.mk k' n' s' ks'=>by
  rw [rf,rf,lD,DA (.mk k n s ks)]
  congr 1
  exact yk ks ks'
theorem yk:∀ t u:List T,fU u t=-fU t u
 | [],[]=>by simp [fU]
 | [],_::_=>by simp [fU]
 | _::_,[]=>by simp [fU]
 | t::ts,u::us=>by rw [fU,fU,lD,xX t u,yk ts us]
end
theorem CP (t:T):rf t t=0:=by
 have:=xX t t
 omega
/- facts in order, each once -/
def Sorted:List T->Prop
 | []=>True
 | x::xs=>(∀ y∈xs,rf x y<0)/\Sorted xs
theorem Sorted.nodup:∀ {l:List T},Sorted l->l.Nodup
 | [],_=>List.nodup_nil
 | x::xs,h=>by
  rw [List.nodup_cons]
  refine ⟨fun hx=>?_,Sorted.nodup h.2⟩
  have:=h.1 x hx
  rw [CP] at this
  omega

end Go.Proofs.YtfcbhfjomgopbaaGreat

/- spec.l1Compare. -/
namespace Go.Proofs.YtfcbhfjomgopbaaGreat
open Go Go.RowKit
section
variable {P:Program} {w:World} {K:Value->World->Prop}
attribute [local irreducible] Run
end
section
attribute [local irreducible] Run CondV ak bg
end

end Go.Proofs.YtfcbhfjomgopbaaGreat

/- spec.l16Put, l16Has. -/
namespace Go.Proofs.YtfcbhfjomgopbaaGreat
open Go Go.RowKit
section
attribute [local irreducible] Run CondV ak bg
end

end Go.Proofs.YtfcbhfjomgopbaaGreat

/- spec.l16Has, l16Match, l16Full. -/
namespace Go.Proofs.YtfcbhfjomgopbaaGreat
open Go Go.RowKit
def Cr:T:=.mk 0 0 ⟨#[]⟩ []
theorem RdT.zero (S:ar):RdT S kS Cr:=RdT.iff.2 ⟨_,rfl,by simp [inI,T.kind,Cr],by simp [inI,T.n,Cr],by rw [Cr,T.name]; decide +kernel,none,0,rfl,Nat.le_refl _,Nat.zero_le _,.inl rfl⟩
/- what is known, as a row of optional terms -/
def KRel (S:ar) (cs:List Value) (o:Option T):Prop:=cs.length=4/\(o=none->cs=kS)/\∀ t,o=some t->RdT S cs t
theorem KRel.one {S:ar} {cs:List Value} {o:Option T} (h:KRel S cs o):∀ u∈cs,u.oneCell'=true:=by
 cases o with
 | none=>rw [h.2.1 rfl]; simp [kS,Value.oneCell']
 | some t=>exact (h.2.2 t rfl).one
theorem KnownC.rd {S:ar} {kb kp:Nat} {kc:Array Value} {st:a6} {E:TypeId} (hS:S kb=some (.cells kc E)) (h:KnownC S kc st) (hst:st.length=26) (hkp:26<=kp) (hkm:kp<=maxLen):RdSl S 4 (KRel S) (kvn kb kp) st:=by
 refine ⟨some ⟨kb,0,none⟩,kp,by rw [hst],by omega,hkm,.inr ⟨kb,0,kc,E,(0,0),rfl,hS,fun i hi=>?_⟩⟩
 obtain ⟨h1,h2⟩:=h.2 i hi
 rw [Nat.zero_add]
 refine ⟨?_,h1,h2⟩
 have:=h.1
 rw [ba,List.length_take,List.length_drop,Array.length_toList]
 omega
section
attribute [local irreducible] Run CondV ak bg
theorem KnownC.mono {S S':ar} {kc:Array Value} {st:a6} (h:KnownC S kc st) (hs:Sle S S'):KnownC S' kc st:=
 ⟨h.1,fun i hi=>⟨(h.2 i hi).1,fun t ht=>((h.2 i hi).2 t ht).mono hs⟩⟩
end

end Go.Proofs.YtfcbhfjomgopbaaGreat

/- impl.mapVars with a function that only reads: the result is published. -/
namespace Go.Proofs.YtfcbhfjomgopbaaGreat
open Go Go.RowKit
/- a function from numbers to terms that only reads -/
def Fun (f:FuncId) (cap:List Value) (S:ar) (φ:Int->T):Prop:=∀ S',Sle S S'->∀ n:Int,0<=n->n<=25->∃ cs,RdT S' cs (φ n)/\Pure Tryz.prog f (.int .i64 n::cap) S' (.agg cs.toArray)
theorem Fun.mono {f:FuncId} {cap:List Value} {S S':ar} {φ:Int->T} (h:Fun f cap S φ) (hs:Sle S S'):Fun f cap S' φ:=fun S2 h2=>h S2 (hs.trans h2)
section
attribute [local irreducible] Run CondV ak bg
end

end Go.Proofs.YtfcbhfjomgopbaaGreat

/- impl.resolvent. -/
namespace Go.Proofs.YtfcbhfjomgopbaaGreat
open Go Go.RowKit
section
attribute [local irreducible] Run CondV ak bg
theorem yX {K:Value->World->Prop} {w:World} {mb:Nat} (hk:K (.agg #[.map (some mb),.slice none 0 0]) w):Run Tryz.prog (dn cI [(0,.map (some mb))]) w K:=by
 refine Run.of (v:=.agg #[.map (some mb),.slice none 0 0]) (w':=w) ?_ hk
 unfold dn
 rw [Sem.run_bind,run_build w cI _ #[.map (some mb),.slice none 0 0] (by kernel_rfl),Result.andThen_ok]
 rfl
theorem u4 (S:ar):Tri Tryz.prog zm [] [] S fun r I' S'=>S'=S/\∃ sb mb,r=.pointer (some ⟨sb,0,none⟩)/\I'=bh sb mb #[] 0 (.slice none 0 0) []:=by
 intro w hI
 have hI:Inv w [] [] S w:=hI
 refine ru ?_
 unfold nQ
 refine rz hI fun mb w' hI=>?_
 refine yX ?_
 refine bt hI fun sb w' hI=>?_
 have hI:=hI.rowNil ce 1
 have hI:Inv w [] (bh sb mb #[] 0 (.slice none 0 0) []) S w':=hI.perm (List.Perm.swap ..)
 exact ⟨_,_,_,rfl,hI,Ext.refl _ _ _,rfl,sb,mb,rfl,rfl⟩
theorem KnownM.none (S:ar) (N:Nat):KnownM S #[] (List.replicate N Option.none):=by
 refine ⟨fun e he=>by simp at he,fun n t h=>?_,by simp⟩
 have:=List.mem_of_getElem? h
 simp at this
end

end Go.Proofs.YtfcbhfjomgopbaaGreat

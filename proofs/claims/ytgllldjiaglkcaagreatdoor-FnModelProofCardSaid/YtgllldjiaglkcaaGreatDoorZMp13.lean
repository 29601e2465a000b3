/- The program's solver of goals that are built in. -/
import Derived.Test.YtgllldjiaglkcaaGreatDoorZMp11
import Derived.Test.YtgllldjiaglkcaaGreatDoorZMp12
import Derived.Test.YtgllldjiaglkcaaGreatDoorZMp5
import Derived.Test.YtgllldjiaglkcaaGreatDoorZMp4
namespace Go.Proofs.YtgllldjiaglkcaaGreatDoor
section
open Go Go.RowKit
theorem Wl {k n:Int} {s:ByteArray} {ks:List T} (h:df s hZ=true):i6 (.mk k n s ks)=.done (Zd s (gG ks)):=by
 have h0:=h
 rw [df,Gw] at h
 obtain ⟨x,hx,hd⟩:=h
 have hd:=of_decide_eq_true hd
 subst hd
 have hne:∀ y∈([oJ,pe,nEq,nNe,vE,nIs,IK]:List ByteArray),s≠y:=by
  intro y hy
  simp only [hZ,bN,jd,je] at hx hy
  rcases hx with rfl|rfl|rfl|rfl|rfl <;> rcases hy with rfl|rfl|rfl|rfl|rfl|rfl|rfl <;> decide +kernel
 have n1:(T.mk k n s ks).name=s:=rfl
 rw [i6,n1,ah (hne _ (by simp)),ah (hne _ (by simp)),ah (hne _ (by simp)),ah (hne _ (by simp)),ah (hne _ (by simp)),ah (hne _ (by simp)),ah (hne _ (by simp)),ai h0]
 rfl
theorem RdT.f0 {S:ae} {cs:List Value} {t:T} (h:RdT S cs t):cs[0]?=some (.int .i64 t.kind):=by
 obtain ⟨_,rfl,_⟩:=RdT.iff.1 h; rfl
theorem RdT.f1 {S:ae} {cs:List Value} {t:T} (h:RdT S cs t):cs[1]?=some (.int .i64 t.n):=by
 obtain ⟨_,rfl,_⟩:=RdT.iff.1 h; rfl
section
variable {w:World} {X:List Nat} {S:ae}
attribute [local irreducible] Run CondV az aO
theorem s5 (n:Int) (S:ae):Pure Tryz.prog QP [.int .i64 n] S (.agg #[.int .i64 2,.int .i64 n,.string ⟨#[]⟩,.slice none 0 0]):=by
 intro w hI
 refine Dz.2 ?_
 dsimp only[Dz,aM]
 refine aT hI aZ fun b w' hI=>?_
 refine ue ?_
 refine aC hI 0 rfl ad rfl rfl (by simp [Value.oneCell']) fun w' hI=>?_
 refine bJ hI 0 ad rfl rfl ?_
 exact done hI rfl
def Xp (sb mb:Nat) (S:ae) (st:al) (tr:List Int) (code:Int) (st':al):Value->List Item->ae->Prop:=fun q I' S'=>S'=S/\q=.int .i64 code/\
 ∃ es' ck' tv' tr',I'=aA sb mb es' ck' tv' tr'/\KnownM S es' st'/\tr'.length+unb st'<=1000000/\Tr st st' tr tr'
set_option maxHeartbeats 1000000 in
theorem y8 {N:Nat} (hN:N<=1000000) {st st':al} {g:T} {code:Int} (hg:Good N st) (ho:okU N g/\wT g<=1048576) (hn:okN g) (hb:cI g=true) (hB:Blt st g code st')
  {S:ae} {cs:List Value} {sb mb ck:Nat} {es:Array MapEntry} {tv:Value} {tr:List Int} (h:RdT S cs g) (hkm:KnownM S es st) (htr:tr.length+unb st<=1000000) :
  Tri Tryz.prog F9 [.pointer (some ⟨sb,0,none⟩),.agg cs.toArray] (aA sb mb es ck tv tr) S (Xp sb mb S st tr code st'):=by
 intro w hI
 have hgl:=h
 obtain ⟨k,n,s,ks⟩:=g
 obtain ⟨kv,rfl,_,_,_,hks⟩:=RdT.iff.1 h
 have hbj:=Nv hb ho
 rw [cI,bu] at hb
 obtain ⟨hk3,hbs⟩:=hb
 rw [okN] at hn
 simp only [T.name,T.kids,T.kind,T.n] at hks hbs hgl hk3 ⊢
 obtain ⟨X,hX⟩:∃ X,X=bE (aA sb mb es ck tv tr):=⟨_,rfl⟩
 rw [<- hX] at hI ⊢
 unfold Blt at hB
 clear h
 refine rL.2 ?_
 dsimp only[rL,aY]
 refine bq hI fun b3 w' hI=>?_
 have hI:Inv w X ([.blk b3 (.cells #[.int .i64 k,.int .i64 n,.string s,kv] ab)]++aA sb mb es ck tv tr) S w':=hI.perm cu
 have fin:∀ {w':World} {L:List Item} {j:BJ} (c:Int),j=.done c->BltJ st j code st'->Inv w X L S w'->List.Sublist (aA sb mb es ck tv tr) L->
   ∃ v' I' S',Ending.returned (.int .i64 c)=.returned v'/\Inv w X I' S' w'/\Ext w.heap.size X S S'/\Xp sb mb S st tr code st' v' I' S':=by
  intro w' L j c hj hB hI hs
  subst hj
  obtain ⟨rfl,rfl⟩:=hB
  exact ⟨_,_,S,rfl,hI.sub hs,Ext.refl _ _ _,rfl,rfl,es,ck,tv,tr,rfl,hkm,htr,Tr.refl _ _⟩
 have sub1:∀ it:Item,List.Sublist (aA sb mb es ck tv tr) ([it]++aA sb mb es ck tv tr):=fun it=>ei [it] _
 refine av hI 0 ad rfl rfl ?_
 refine Run.callPure JJ JD hI (Cu hgl) fun w' hI=>?_
 have hcg:YP (.mk k n s ks)=(decide (ks.length=2) && df s hZ):=by
  unfold YP
  rw [show decide ((T.mk k n s ks).kind=3)=true from hk3]
  rfl
 rw [hcg]
 refine aw (fun hc=>?_) (fun hc=>?_)
 ·rw [bu,bk] at hc
  refine av hI 0 ad rfl rfl ?_
  refine Run.callPure IO Ix hI (BA hgl hc.1 hn.2) fun w' hI=>?_
  exact fin _ (Wl hc.2) hB hI (sub1 _)
 have hcn:df s hZ=false:=by
  cases hx:df s hZ
  ·rfl
  ·have:=ot (Yc hx) hbs
   rw [hx,aI (show ks.length=2 by omega)] at hc
   cases hc
 refine af hI 0 rfl ao aj rfl ?_
 refine af hI 0 rfl bb aU rfl ?_
 refine bS ?_
 refine aL (fun h=>fin 0 (by rw [i6,ai (show (T.mk k n s ks).name=oJ from h)]) hB hI (sub1 _)) (fun h0=>?_)
 refine bS ?_
 refine aL (fun h=>fin 1 (by rw [i6,ah (show ¬ (T.mk k n s ks).name=oJ from h0),ai (show (T.mk k n s ks).name=pe from h)]) hB hI (sub1 _)) (fun h1=>?_)
 refine bS ?_
 refine aL (fun h=>?_) (fun h2=>?_)
 ·obtain ⟨x,y,rfl⟩:=Cn (l:=ks) (by have:=ot (by rw [h]; decide +kernel) hbs; omega)
  have hj:i6 (.mk k n s [x,y])=.uni x y:=by
   rw [i6,ah (show ¬ (T.mk k n s [x,y]).name=oJ from h0),ah (show ¬ (T.mk k n s [x,y]).name=pe from h1),ai (show (T.mk k n s [x,y]).name=nEq from h)]
   rfl
  rw [hj] at hB hbj
  obtain ⟨b,o,cap,c,E,fz,rfl,hSb,hR⟩:=hks.ptr (by simp)
  obtain ⟨r,hu,rfl⟩:=hB
  have hjj:okJ N (.one x y):=hbj
  refine ⟨fun D x4 Km zY lj su jO uk mM gk lK w_=>Fx D 0 [lK=.pointer (some ⟨sb,0,none⟩),gk=.slice (some ⟨b,o,none⟩) [x,y].length cap,mM=.pointer (some ⟨b,o+0 * 4,none⟩),uk=.agg (aX c (o+0 * 4) 4).toArray,jO=.slice (some ⟨b,o,none⟩) [x,y].length cap,su=.pointer (some ⟨b,o+1 * 4,none⟩),lj=.agg (aX c (o+1 * 4) 4).toArray,zY=.bool r,Km=.int .i64 (ji r),x4=.int .i64 (ji r)]/\(D 7=false->Inv w X ([.blk b3 (.cells #[.int .i64 k,.int .i64 n,.string s,.slice (some ⟨b,o,none⟩) [x,y].length cap] ab)]++aA sb mb es ck tv tr) S w_)/\(D 7=true->∃ es1 ck1 tv1 tr1,KnownM S es1 st'/\tr1.length+unb st'<=1000000/\Tr st st' tr tr1/\Inv w X ([.blk b3 (.cells #[.int .i64 k,.int .i64 n,.string s,.slice (some ⟨b,o,none⟩) [x,y].length cap] ab)]++aA sb mb es1 ck1 tv1 tr1) S w_)/\∃ es3 ck3 tv3 tr3,Inv w X ([.blk b3 (.cells #[.int .i64 k,.int .i64 n,.string s,.slice (some ⟨b,o,none⟩) [x,y].length cap] ab)]++aA sb mb es3 ck3 tv3 tr3) S w_,⟨Fx.nil _ _,⟨fun _=>hI.draw,aQ,es,ck,tv,tr,hI.draw⟩⟩,⟨?_,?_,?_,?_,?_,?_,?_,?_,?_,?_,trivial⟩,?_⟩
  all_goals (intro D bF; intros; rename_i x4 Km zY lj su jO uk mM gk lK w_ hA_; have hF_:=hA_.1; obtain ⟨⟨cj,ci,bR,ce,bP,bY,bZ,cH,c5,dI,_⟩,⟨hI0,hI1,es3,ck3,tv3,tr3,hI⟩⟩:=hA_)
  ·exact ⟨hF_.set 0 rfl,⟨hI0,hI1,es3,ck3,tv3,tr3,hI⟩⟩
  ·exact ⟨hF_.set 1 rfl,⟨hI0,hI1,es3,ck3,tv3,tr3,hI⟩⟩
  ·obtain rfl:=ci ‹_›
   refine aE (i:=0) ag (by simp) ?_
   exact ⟨hF_.set 2 rfl,⟨hI0,hI1,es3,ck3,tv3,tr3,hI⟩⟩
  ·obtain rfl:=bR ‹_›
   refine bL ad (RdT.length (hR 0 (by simp))) (fun j v hj=>by rw [hI.cellS hSb]; exact aH rfl j v hj) ?_
   exact ⟨hF_.set 3 rfl,⟨hI0,hI1,es3,ck3,tv3,tr3,hI⟩⟩
  ·exact ⟨hF_.set 4 rfl,⟨hI0,hI1,es3,ck3,tv3,tr3,hI⟩⟩
  ·obtain rfl:=bP ‹_›
   refine aE (i:=1) ag (by simp) ?_
   exact ⟨hF_.set 5 rfl,⟨hI0,hI1,es3,ck3,tv3,tr3,hI⟩⟩
  ·obtain rfl:=bY ‹_›
   refine bL ad (RdT.length (hR 1 (by simp))) (fun j v hj=>by rw [hI.cellS hSb]; exact aH rfl j v hj) ?_
   exact ⟨hF_.set 6 rfl,⟨hI0,hI1,es3,ck3,tv3,tr3,hI⟩⟩
  ·obtain rfl:=cj ‹_›
   obtain rfl:=ce ‹_›
   obtain rfl:=bZ ‹_›
   refine Run.callE (A:=[_]) eW eX (hI0 bF) (iN hN hg hjj hu S _ _ sb mb ck es tv tr (hR 0 (by simp)) (hR 1 (by simp)) hkm htr) fun v' I' S' w_=>?_
   rintro ⟨eS,rfl,es1,ck1,tv1,tr1,rfl,hm1,htr1,hT1⟩ _ hI
   rw [eS] at hI
   have hI0:=fun (h:aD D 7 7=false)=>(Bool.noConfusion h:Inv w X ([.blk b3 (.cells #[.int .i64 k,.int .i64 n,.string s,.slice (some ⟨b,o,none⟩) [x,y].length cap] ab)]++aA sb mb es ck tv tr) S w_)
   have hI1:=fun (_:aD D 7 7=true)=>(⟨es1,ck1,tv1,tr1,hm1,htr1,hT1,hI⟩:∃ es1 ck1 tv1 tr1,KnownM S es1 st'/\tr1.length+unb st'<=1000000/\Tr st st' tr tr1/\Inv w X ([.blk b3 (.cells #[.int .i64 k,.int .i64 n,.string s,.slice (some ⟨b,o,none⟩) [x,y].length cap] ab)]++aA sb mb es1 ck1 tv1 tr1) S w_)
   obtain ⟨es3,ck3,tv3,tr3,hI⟩:∃ es3 ck3 tv3 tr3,Inv w X ([.blk b3 (.cells #[.int .i64 k,.int .i64 n,.string s,.slice (some ⟨b,o,none⟩) [x,y].length cap] ab)]++aA sb mb es3 ck3 tv3 tr3) S w_:=⟨es1,ck1,tv1,tr1,hI⟩
   exact ⟨hF_.set 7 rfl,⟨hI0,hI1,es3,ck3,tv3,tr3,hI⟩⟩
  ·obtain rfl:=cH ‹_›
   obtain ⟨es1,ck1,tv1,tr1,hm1,htr1,hT1,hI⟩:=hI1 ‹D 7=true›
   refine Run.callPure fn_i_holds nm_i_holds hI (dR r S) fun w_ hI=>?_
   have hI0:=fun (h:aD D 8 7=false)=>(Bool.noConfusion (h.symm.trans (show aD D 8 7=true from ‹D 7=true›)):Inv w X ([.blk b3 (.cells #[.int .i64 k,.int .i64 n,.string s,.slice (some ⟨b,o,none⟩) [x,y].length cap] ab)]++aA sb mb es ck tv tr) S w_)
   have hI1:=fun (_:aD D 8 7=true)=>(⟨es1,ck1,tv1,tr1,hm1,htr1,hT1,hI⟩:∃ es1 ck1 tv1 tr1,KnownM S es1 st'/\tr1.length+unb st'<=1000000/\Tr st st' tr tr1/\Inv w X ([.blk b3 (.cells #[.int .i64 k,.int .i64 n,.string s,.slice (some ⟨b,o,none⟩) [x,y].length cap] ab)]++aA sb mb es1 ck1 tv1 tr1) S w_)
   obtain ⟨es3,ck3,tv3,tr3,hI⟩:∃ es3 ck3 tv3 tr3,Inv w X ([.blk b3 (.cells #[.int .i64 k,.int .i64 n,.string s,.slice (some ⟨b,o,none⟩) [x,y].length cap] ab)]++aA sb mb es3 ck3 tv3 tr3) S w_:=⟨es1,ck1,tv1,tr1,hI⟩
   exact ⟨hF_.set 8 rfl,⟨hI0,hI1,es3,ck3,tv3,tr3,hI⟩⟩
  ·obtain rfl:=c5 ‹_›
   exact ⟨hF_.set 9 rfl,⟨hI0,hI1,es3,ck3,tv3,tr3,hI⟩⟩
  obtain ⟨rfl,rfl,rfl,rfl,rfl,rfl,rfl,rfl,rfl,rfl,_⟩:=hF_.all
  have AP:D 7=true:=by assumption
  clear hF_ cj ci bR ce bP bY bZ cH c5 dI
  obtain ⟨es1,ck1,tv1,tr1,hm1,htr1,hT1,hI⟩:=hI1 AP
  exact ⟨_,_,S,rfl,hI.sub (ei [_] _),Ext.refl _ _ _,rfl,rfl,es1,ck1,tv1,tr1,rfl,hm1,htr1,hT1⟩
 refine bS ?_
 refine aL (fun h=>?_) (fun h3=>?_)
 ·obtain ⟨x,y,rfl⟩:=Cn (l:=ks) (by have:=ot (by rw [h]; decide +kernel) hbs; omega)
  have hj:i6 (.mk k n s [x,y])=.not x y:=by
   rw [i6,ah (show ¬ (T.mk k n s [x,y]).name=oJ from h0),ah (show ¬ (T.mk k n s [x,y]).name=pe from h1),ah (show ¬ (T.mk k n s [x,y]).name=nEq from h2),ai (show (T.mk k n s [x,y]).name=nNe from h)]
   rfl
  rw [hj] at hB hbj
  obtain ⟨b,o,cap,c,E,fz,rfl,hSb,hR⟩:=hks.ptr (by simp)
  obtain ⟨rfl,r,st1,hu,rfl⟩:=hB
  have hjj:okJ N (.one x y):=hbj
  refine aB ?_
  refine af hI 1 rfl f4 il rfl ?_
  obtain ⟨ta,tn,tc,htv⟩:=hI.rowSlice 3 rfl
  have htn:tn=tr.length:=by
   have hm:w'.ownsRow 0 bV 1 tv tr.length (ints tr):=hI.its (dz tv tr) (by simp [aA])
   rcases hm.2 with ⟨e1,e2⟩|⟨g1,c1,u1,e1,_⟩
   ·rw [htv] at e1; simp only [Value.slice.injEq] at e1; omega
   ·rw [htv] at e1; simp only [Value.slice.injEq] at e1; omega
  obtain rfl:=htn
  rw [htv]
  refine eV dd ?_
  refine ⟨fun D x7 oK sW vO wB tB mg qB vh w_=>Fx D 0 [vh=.pointer (some ⟨sb,0,none⟩),qB=.slice (some ⟨b,o,none⟩) [x,y].length cap,mg=.pointer (some ⟨b,o+0 * 4,none⟩),tB=.agg (aX c (o+0 * 4) 4).toArray,wB=.slice (some ⟨b,o,none⟩) [x,y].length cap,vO=.pointer (some ⟨b,o+1 * 4,none⟩),sW=.agg (aX c (o+1 * 4) 4).toArray,oK=.bool r,x7=.bool r]/\(D 7=false->Inv w X ([.blk b3 (.cells #[.int .i64 k,.int .i64 n,.string s,.slice (some ⟨b,o,none⟩) [x,y].length cap] ab)]++aA sb mb es ck tv tr) S w_)/\(D 7=true->∃ es1 ck1 tv1 tr1,KnownM S es1 st1/\tr1.length+unb st1<=1000000/\Tr st' st1 tr tr1/\Inv w X ([.blk b3 (.cells #[.int .i64 k,.int .i64 n,.string s,.slice (some ⟨b,o,none⟩) [x,y].length cap] ab)]++aA sb mb es1 ck1 tv1 tr1) S w_)/\∃ es3 ck3 tv3 tr3,Inv w X ([.blk b3 (.cells #[.int .i64 k,.int .i64 n,.string s,.slice (some ⟨b,o,none⟩) [x,y].length cap] ab)]++aA sb mb es3 ck3 tv3 tr3) S w_,⟨Fx.nil _ _,⟨fun _=>hI.draw,aQ,es,ck,tv,tr,hI.draw⟩⟩,⟨?_,?_,?_,?_,?_,?_,?_,?_,?_,trivial⟩,?_⟩
  all_goals (intro D bF; intros; rename_i x7 oK sW vO wB tB mg qB vh w_ hA_; have hF_:=hA_.1; obtain ⟨⟨cj,ci,bR,ce,bP,bY,bZ,cH,c5,_⟩,⟨hI0,hI1,es3,ck3,tv3,tr3,hI⟩⟩:=hA_)
  ·exact ⟨hF_.set 0 rfl,⟨hI0,hI1,es3,ck3,tv3,tr3,hI⟩⟩
  ·exact ⟨hF_.set 1 rfl,⟨hI0,hI1,es3,ck3,tv3,tr3,hI⟩⟩
  ·obtain rfl:=ci ‹_›
   refine aE (i:=0) ag (by simp) ?_
   exact ⟨hF_.set 2 rfl,⟨hI0,hI1,es3,ck3,tv3,tr3,hI⟩⟩
  ·obtain rfl:=bR ‹_›
   refine bL ad (RdT.length (hR 0 (by simp))) (fun j v hj=>by rw [hI.cellS hSb]; exact aH rfl j v hj) ?_
   exact ⟨hF_.set 3 rfl,⟨hI0,hI1,es3,ck3,tv3,tr3,hI⟩⟩
  ·exact ⟨hF_.set 4 rfl,⟨hI0,hI1,es3,ck3,tv3,tr3,hI⟩⟩
  ·obtain rfl:=bP ‹_›
   refine aE (i:=1) ag (by simp) ?_
   exact ⟨hF_.set 5 rfl,⟨hI0,hI1,es3,ck3,tv3,tr3,hI⟩⟩
  ·obtain rfl:=bY ‹_›
   refine bL ad (RdT.length (hR 1 (by simp))) (fun j v hj=>by rw [hI.cellS hSb]; exact aH rfl j v hj) ?_
   exact ⟨hF_.set 6 rfl,⟨hI0,hI1,es3,ck3,tv3,tr3,hI⟩⟩
  ·obtain rfl:=cj ‹_›
   obtain rfl:=ce ‹_›
   obtain rfl:=bZ ‹_›
   refine Run.callE (A:=[_]) eW eX (hI0 bF) (iN hN hg hjj hu S _ _ sb mb ck es tv tr (hR 0 (by simp)) (hR 1 (by simp)) hkm htr) fun v' I' S' w_=>?_
   rintro ⟨eS,rfl,es1,ck1,tv1,tr1,rfl,hm1,htr1,hT1⟩ _ hI
   rw [eS] at hI
   have hI0:=fun (h:aD D 7 7=false)=>(Bool.noConfusion h:Inv w X ([.blk b3 (.cells #[.int .i64 k,.int .i64 n,.string s,.slice (some ⟨b,o,none⟩) [x,y].length cap] ab)]++aA sb mb es ck tv tr) S w_)
   have hI1:=fun (_:aD D 7 7=true)=>(⟨es1,ck1,tv1,tr1,hm1,htr1,hT1,hI⟩:∃ es1 ck1 tv1 tr1,KnownM S es1 st1/\tr1.length+unb st1<=1000000/\Tr st' st1 tr tr1/\Inv w X ([.blk b3 (.cells #[.int .i64 k,.int .i64 n,.string s,.slice (some ⟨b,o,none⟩) [x,y].length cap] ab)]++aA sb mb es1 ck1 tv1 tr1) S w_)
   obtain ⟨es3,ck3,tv3,tr3,hI⟩:∃ es3 ck3 tv3 tr3,Inv w X ([.blk b3 (.cells #[.int .i64 k,.int .i64 n,.string s,.slice (some ⟨b,o,none⟩) [x,y].length cap] ab)]++aA sb mb es3 ck3 tv3 tr3) S w_:=⟨es1,ck1,tv1,tr1,hI⟩
   exact ⟨hF_.set 7 rfl,⟨hI0,hI1,es3,ck3,tv3,tr3,hI⟩⟩
  ·obtain rfl:=cH ‹_›
   exact ⟨hF_.set 8 rfl,⟨hI0,hI1,es3,ck3,tv3,tr3,hI⟩⟩
  obtain ⟨rfl,rfl,rfl,rfl,rfl,rfl,rfl,rfl,rfl,_⟩:=hF_.all
  have AP:D 7=true:=by assumption
  clear hF_ cj ci bR ce bP bY bZ cH c5
  obtain ⟨es1,ck1,tv1,tr1,hm1,htr1,⟨ns,rfl,hun,hns,_⟩,hI⟩:=hI1 AP
  have hd1:(tr++ns).drop tr.length=ns:=by rw [Us]
  have hd2:(tr++ns).take tr.length=tr:=by rw [FB]
  refine Run.callE (A:=[_]) lq lx hI (xh (mark:=tr.length) hm1 (by simp) (by rw [hd1]; intro n hn; obtain ⟨j,rfl,_⟩:=hns n hn; omega) (by omega)) fun v' I' S' w'=>?_
  rintro ⟨eS,rfl,es2,tv2,rfl,hm2⟩ _ hI
  rw [eS] at hI
  rw [hd1,hun] at hm2
  rw [hd2] at hI
  refine bQ ?_
  refine Run.callPure fn_i_holds nm_i_holds hI (dR (!r) S) fun w' hI=>?_
  exact ⟨_,_,S,rfl,hI.sub (ei [_] _),Ext.refl _ _ _,rfl,rfl,es2,ck1,tv2,tr,rfl,hm2,htr,Tr.refl _ _⟩
 refine bS ?_
 refine aL (fun h=>?_) (fun h4=>?_)
 ·obtain ⟨x,y,rfl⟩:=Cn (l:=ks) (by have:=ot (by rw [h]; decide +kernel) hbs; omega)
  have hj:i6 (.mk k n s [x,y])=.done (ji (eqT x y)):=by
   rw [i6,ah (show ¬ (T.mk k n s [x,y]).name=oJ from h0),ah (show ¬ (T.mk k n s [x,y]).name=pe from h1),ah (show ¬ (T.mk k n s [x,y]).name=nEq from h2),ah (show ¬ (T.mk k n s [x,y]).name=nNe from h3),ai (show (T.mk k n s [x,y]).name=vE from h)]
   rfl
  rw [hj] at hB hbj
  obtain ⟨b,o,cap,c,E,fz,rfl,hSb,hR⟩:=hks.ptr (by simp)
  refine ⟨fun D x4 z4 x3 CC Cw Du DE DG CS w_=>Fx D 0 [CS=.slice (some ⟨b,o,none⟩) [x,y].length cap,DG=.pointer (some ⟨b,o+0 * 4,none⟩),DE=.agg (aX c (o+0 * 4) 4).toArray,Du=.slice (some ⟨b,o,none⟩) [x,y].length cap,Cw=.pointer (some ⟨b,o+1 * 4,none⟩),CC=.agg (aX c (o+1 * 4) 4).toArray,x3=.bool (eqT x y),z4=.int .i64 (ji (eqT x y)),x4=.int .i64 (ji (eqT x y))]/\Inv w X ([.blk b3 (.cells #[.int .i64 k,.int .i64 n,.string s,.slice (some ⟨b,o,none⟩) [x,y].length cap] ab)]++aA sb mb es ck tv tr) S w_,⟨Fx.nil _ _,hI.draw⟩,⟨?_,?_,?_,?_,?_,?_,?_,?_,?_,trivial⟩,?_⟩
  all_goals (intro D bF; intros; rename_i x4 z4 x3 CC Cw Du DE DG CS w_ hA_; have hF_:=hA_.1; obtain ⟨⟨cj,ci,bR,ce,bP,bY,bZ,cH,c5,_⟩,hI⟩:=hA_)
  ·exact ⟨hF_.set 0 rfl,hI⟩
  ·obtain rfl:=cj ‹_›
   refine aE (i:=0) ag (by simp) ?_
   exact ⟨hF_.set 1 rfl,hI⟩
  ·obtain rfl:=ci ‹_›
   refine bL ad (RdT.length (hR 0 (by simp))) (fun j v hj=>by rw [hI.cellS hSb]; exact aH rfl j v hj) ?_
   exact ⟨hF_.set 2 rfl,hI⟩
  ·exact ⟨hF_.set 3 rfl,hI⟩
  ·obtain rfl:=ce ‹_›
   refine aE (i:=1) ag (by simp) ?_
   exact ⟨hF_.set 4 rfl,hI⟩
  ·obtain rfl:=bP ‹_›
   refine bL ad (RdT.length (hR 1 (by simp))) (fun j v hj=>by rw [hI.cellS hSb]; exact aH rfl j v hj) ?_
   exact ⟨hF_.set 5 rfl,hI⟩
  ·obtain rfl:=bR ‹_›
   obtain rfl:=bY ‹_›
   refine Run.callPure iH iL hI (ig x y S _ _ (hR 0 (by simp)) (hR 1 (by simp))) fun w_ hI=>?_
   exact ⟨hF_.set 6 rfl,hI⟩
  ·obtain rfl:=bZ ‹_›
   refine Run.callPure fn_i_holds nm_i_holds hI (dR _ S) fun w_ hI=>?_
   exact ⟨hF_.set 7 rfl,hI⟩
  ·obtain rfl:=cH ‹_›
   exact ⟨hF_.set 8 rfl,hI⟩
  obtain ⟨rfl,rfl,rfl,rfl,rfl,rfl,rfl,rfl,rfl,_⟩:=hF_.all
  clear hF_ cj ci bR ce bP bY bZ cH c5
  exact fin _ rfl hB hI (sub1 _)
 refine bS ?_
 refine aL (fun h=>?_) (fun h5=>?_)
 ·obtain ⟨x,y,rfl⟩:=Cn (l:=ks) (by have:=ot (by rw [h]; decide +kernel) hbs; omega)
  have hj:i6 (.mk k n s [x,y])=if (dM y).2≠0 then .done (dM y).2 else .uni x (Pb (dM y).1):=by
   rw [i6,ah (show ¬ (T.mk k n s [x,y]).name=oJ from h0),ah (show ¬ (T.mk k n s [x,y]).name=pe from h1),ah (show ¬ (T.mk k n s [x,y]).name=nEq from h2),ah (show ¬ (T.mk k n s [x,y]).name=nNe from h3),ah (show ¬ (T.mk k n s [x,y]).name=vE from h4),ai (show (T.mk k n s [x,y]).name=nIs from h)]
   rfl
  rw [hj] at hB hbj
  obtain ⟨b,o,cap,c,E,fz,rfl,hSb,hR⟩:=hks.ptr (by simp)
  have ny:=kU hn.2 y (by simp)
  refine cL (i:=1) hI hks ag ad (by simp) (fun _ _=>RdT.length) fun ds hds=>?_
  refine Run.callPure mN mF hI (oW y S ds hds ny) fun w' hI=>?_
  refine ar (v:=.int .i64 _) rfl ?_
  refine ar (v:=.int .i64 _) rfl ?_
  refine ef ?_
  refine aw (fun h6=>?_) (fun h6=>?_)
  ·simp at h6
   exact fin _ (ai h6) hB hI (sub1 _)
  simp at h6
  rw [ah (by simp [h6])] at hB hbj
  obtain ⟨r,hu,rfl⟩:=hB
  have hjj:okJ N (.one x (Pb (dM y).1)):=hbj
  have hsm:=yW y ny
  unfold Sm at hsm
  refine ⟨fun D x4 GX Ks Hl HQ N4 Ph FL TJ w_=>Fx D 0 [TJ=.pointer (some ⟨sb,0,none⟩),FL=.slice (some ⟨b,o,none⟩) [x,y].length cap,Ph=.pointer (some ⟨b,o+0 * 4,none⟩),N4=.agg (aX c (o+0 * 4) 4).toArray,HQ=.int .i64 (dM y).1,Hl=.agg #[.int .i64 2,.int .i64 (dM y).1,.string ⟨#[]⟩,.slice none 0 0],Ks=.bool r,GX=.int .i64 (ji r),x4=.int .i64 (ji r)]/\(D 6=false->Inv w X ([.blk b3 (.cells #[.int .i64 k,.int .i64 n,.string s,.slice (some ⟨b,o,none⟩) [x,y].length cap] ab)]++aA sb mb es ck tv tr) S w_)/\(D 6=true->∃ es1 ck1 tv1 tr1,KnownM S es1 st'/\tr1.length+unb st'<=1000000/\Tr st st' tr tr1/\Inv w X ([.blk b3 (.cells #[.int .i64 k,.int .i64 n,.string s,.slice (some ⟨b,o,none⟩) [x,y].length cap] ab)]++aA sb mb es1 ck1 tv1 tr1) S w_)/\∃ es3 ck3 tv3 tr3,Inv w X ([.blk b3 (.cells #[.int .i64 k,.int .i64 n,.string s,.slice (some ⟨b,o,none⟩) [x,y].length cap] ab)]++aA sb mb es3 ck3 tv3 tr3) S w_,⟨Fx.nil _ _,⟨fun _=>hI.draw,aQ,es,ck,tv,tr,hI.draw⟩⟩,⟨?_,?_,?_,?_,?_,?_,?_,?_,?_,trivial⟩,?_⟩
  all_goals (intro D bF; intros; rename_i x4 GX Ks Hl HQ N4 Ph FL TJ w_ hA_; have hF_:=hA_.1; obtain ⟨⟨cj,ci,bR,ce,bP,bY,bZ,cH,c5,_⟩,⟨hI0,hI1,es3,ck3,tv3,tr3,hI⟩⟩:=hA_)
  ·exact ⟨hF_.set 0 rfl,⟨hI0,hI1,es3,ck3,tv3,tr3,hI⟩⟩
  ·exact ⟨hF_.set 1 rfl,⟨hI0,hI1,es3,ck3,tv3,tr3,hI⟩⟩
  ·obtain rfl:=ci ‹_›
   refine aE (i:=0) ag (by simp) ?_
   exact ⟨hF_.set 2 rfl,⟨hI0,hI1,es3,ck3,tv3,tr3,hI⟩⟩
  ·obtain rfl:=bR ‹_›
   refine bL ad (RdT.length (hR 0 (by simp))) (fun j v hj=>by rw [hI.cellS hSb]; exact aH rfl j v hj) ?_
   exact ⟨hF_.set 3 rfl,⟨hI0,hI1,es3,ck3,tv3,tr3,hI⟩⟩
  ·exact ⟨hF_.set 4 rfl,⟨hI0,hI1,es3,ck3,tv3,tr3,hI⟩⟩
  ·obtain rfl:=bP ‹_›
   have f6:D 6=D 6:=rfl
   cases f6v:D 6
   ·refine Run.callPure Df DK (hI0 f6v) (s5 _ S) fun w_ hI=>?_
    have hI0:=fun (_:aD D 5 6=false)=>hI
    have hI1:=fun (h:aD D 5 6=true)=>(Bool.noConfusion (f6v.symm.trans h):∃ es1 ck1 tv1 tr1,KnownM S es1 st'/\tr1.length+unb st'<=1000000/\Tr st st' tr tr1/\Inv w X ([.blk b3 (.cells #[.int .i64 k,.int .i64 n,.string s,.slice (some ⟨b,o,none⟩) [x,y].length cap] ab)]++aA sb mb es1 ck1 tv1 tr1) S w_)
    obtain ⟨es3,ck3,tv3,tr3,hI⟩:∃ es3 ck3 tv3 tr3,Inv w X ([.blk b3 (.cells #[.int .i64 k,.int .i64 n,.string s,.slice (some ⟨b,o,none⟩) [x,y].length cap] ab)]++aA sb mb es3 ck3 tv3 tr3) S w_:=⟨es,ck,tv,tr,hI⟩
    exact ⟨hF_.set 5 rfl,⟨hI0,hI1,es3,ck3,tv3,tr3,hI⟩⟩
   obtain ⟨es1,ck1,tv1,tr1,hm1,htr1,hT1,hI⟩:=hI1 f6v
   refine Run.callPure Df DK hI (s5 _ S) fun w_ hI=>?_
   have hI0:=fun (h:aD D 5 6=false)=>(Bool.noConfusion (h.symm.trans f6v):Inv w X ([.blk b3 (.cells #[.int .i64 k,.int .i64 n,.string s,.slice (some ⟨b,o,none⟩) [x,y].length cap] ab)]++aA sb mb es ck tv tr) S w_)
   have hI1:=fun (_:aD D 5 6=true)=>(⟨es1,ck1,tv1,tr1,hm1,htr1,hT1,hI⟩:∃ es1 ck1 tv1 tr1,KnownM S es1 st'/\tr1.length+unb st'<=1000000/\Tr st st' tr tr1/\Inv w X ([.blk b3 (.cells #[.int .i64 k,.int .i64 n,.string s,.slice (some ⟨b,o,none⟩) [x,y].length cap] ab)]++aA sb mb es1 ck1 tv1 tr1) S w_)
   obtain ⟨es3,ck3,tv3,tr3,hI⟩:∃ es3 ck3 tv3 tr3,Inv w X ([.blk b3 (.cells #[.int .i64 k,.int .i64 n,.string s,.slice (some ⟨b,o,none⟩) [x,y].length cap] ab)]++aA sb mb es3 ck3 tv3 tr3) S w_:=⟨es1,ck1,tv1,tr1,hI⟩
   exact ⟨hF_.set 5 rfl,⟨hI0,hI1,es3,ck3,tv3,tr3,hI⟩⟩
  ·obtain rfl:=cj ‹_›
   obtain rfl:=ce ‹_›
   obtain rfl:=bY ‹_›
   refine Run.callE (A:=[_]) eW eX (hI0 bF) (iN hN hg hjj hu S _ _ sb mb ck es tv tr (hR 0 (by simp)) (uE (by simp [inI]) (by simp only [inI]; omega)) hkm htr) fun v' I' S' w_=>?_
   rintro ⟨eS,rfl,es1,ck1,tv1,tr1,rfl,hm1,htr1,hT1⟩ _ hI
   rw [eS] at hI
   have hI0:=fun (h:aD D 6 6=false)=>(Bool.noConfusion h:Inv w X ([.blk b3 (.cells #[.int .i64 k,.int .i64 n,.string s,.slice (some ⟨b,o,none⟩) [x,y].length cap] ab)]++aA sb mb es ck tv tr) S w_)
   have hI1:=fun (_:aD D 6 6=true)=>(⟨es1,ck1,tv1,tr1,hm1,htr1,hT1,hI⟩:∃ es1 ck1 tv1 tr1,KnownM S es1 st'/\tr1.length+unb st'<=1000000/\Tr st st' tr tr1/\Inv w X ([.blk b3 (.cells #[.int .i64 k,.int .i64 n,.string s,.slice (some ⟨b,o,none⟩) [x,y].length cap] ab)]++aA sb mb es1 ck1 tv1 tr1) S w_)
   obtain ⟨es3,ck3,tv3,tr3,hI⟩:∃ es3 ck3 tv3 tr3,Inv w X ([.blk b3 (.cells #[.int .i64 k,.int .i64 n,.string s,.slice (some ⟨b,o,none⟩) [x,y].length cap] ab)]++aA sb mb es3 ck3 tv3 tr3) S w_:=⟨es1,ck1,tv1,tr1,hI⟩
   exact ⟨hF_.set 6 rfl,⟨hI0,hI1,es3,ck3,tv3,tr3,hI⟩⟩
  ·obtain rfl:=bZ ‹_›
   obtain ⟨es1,ck1,tv1,tr1,hm1,htr1,hT1,hI⟩:=hI1 ‹D 6=true›
   refine Run.callPure fn_i_holds nm_i_holds hI (dR r S) fun w_ hI=>?_
   have hI0:=fun (h:aD D 7 6=false)=>(Bool.noConfusion (h.symm.trans (show aD D 7 6=true from ‹D 6=true›)):Inv w X ([.blk b3 (.cells #[.int .i64 k,.int .i64 n,.string s,.slice (some ⟨b,o,none⟩) [x,y].length cap] ab)]++aA sb mb es ck tv tr) S w_)
   have hI1:=fun (_:aD D 7 6=true)=>(⟨es1,ck1,tv1,tr1,hm1,htr1,hT1,hI⟩:∃ es1 ck1 tv1 tr1,KnownM S es1 st'/\tr1.length+unb st'<=1000000/\Tr st st' tr tr1/\Inv w X ([.blk b3 (.cells #[.int .i64 k,.int .i64 n,.string s,.slice (some ⟨b,o,none⟩) [x,y].length cap] ab)]++aA sb mb es1 ck1 tv1 tr1) S w_)
   obtain ⟨es3,ck3,tv3,tr3,hI⟩:∃ es3 ck3 tv3 tr3,Inv w X ([.blk b3 (.cells #[.int .i64 k,.int .i64 n,.string s,.slice (some ⟨b,o,none⟩) [x,y].length cap] ab)]++aA sb mb es3 ck3 tv3 tr3) S w_:=⟨es1,ck1,tv1,tr1,hI⟩
   exact ⟨hF_.set 7 rfl,⟨hI0,hI1,es3,ck3,tv3,tr3,hI⟩⟩
  ·obtain rfl:=cH ‹_›
   exact ⟨hF_.set 8 rfl,⟨hI0,hI1,es3,ck3,tv3,tr3,hI⟩⟩
  obtain ⟨rfl,rfl,rfl,rfl,rfl,rfl,rfl,rfl,rfl,_⟩:=hF_.all
  have PC:D 6=true:=by assumption
  clear hF_ cj ci bR ce bP bY bZ cH c5
  obtain ⟨es1,ck1,tv1,tr1,hm1,htr1,hT1,hI⟩:=hI1 PC
  exact ⟨_,_,S,rfl,hI.sub (ei [_] _),Ext.refl _ _ _,rfl,rfl,es1,ck1,tv1,tr1,rfl,hm1,htr1,hT1⟩
 refine bS ?_
 refine aL (fun h=>?_) (fun g1=>?_)
 ·obtain ⟨x,rfl⟩:=LY (l:=ks) (by
    rcases tF hbs h0 h1 h2 h3 h4 h5 hcn with ⟨_,h⟩|⟨h',_⟩
    ·omega
    ·rw [h] at h'; exact absurd h' (by decide +kernel))
  have hj:i6 (.mk k n s [x])=.done (ji (AH s x)):=by
   rw [i6,ah (show ¬ (T.mk k n s [x]).name=oJ from h0),ah (show ¬ (T.mk k n s [x]).name=pe from h1),ah (show ¬ (T.mk k n s [x]).name=nEq from h2),ah (show ¬ (T.mk k n s [x]).name=nNe from h3),ah (show ¬ (T.mk k n s [x]).name=vE from h4),ah (show ¬ (T.mk k n s [x]).name=nIs from h5),ah (show ¬ (T.mk k n s [x]).name=IK from by rw [show (T.mk k n s [x]).name=s from rfl,h]; decide +kernel),show (T.mk k n s [x]).name=s from rfl,hcn,ah (by decide)]
   rfl
  rw [hj] at hB
  have ht:AH s x=decide (x.kind=1):=by rw [h]; rfl
  refine qA hI hks ag aR aG (i:=0) (by simp) (fun cs hcs=>RdT.f0 hcs) ?_
  refine bl ?_
  exact Run.callPure fn_i_holds nm_i_holds hI (dR _ S) fun w' hI=>fin _ (by rw [ht]; rfl) hB hI (sub1 _)
 refine bS ?_
 refine aL (fun h=>?_) (fun g2=>?_)
 ·obtain ⟨x,rfl⟩:=LY (l:=ks) (by
    rcases tF hbs h0 h1 h2 h3 h4 h5 hcn with ⟨_,h⟩|⟨h',_⟩
    ·omega
    ·rw [h] at h'; exact absurd h' (by decide +kernel))
  have hj:i6 (.mk k n s [x])=.done (ji (AH s x)):=by
   rw [i6,ah (show ¬ (T.mk k n s [x]).name=oJ from h0),ah (show ¬ (T.mk k n s [x]).name=pe from h1),ah (show ¬ (T.mk k n s [x]).name=nEq from h2),ah (show ¬ (T.mk k n s [x]).name=nNe from h3),ah (show ¬ (T.mk k n s [x]).name=vE from h4),ah (show ¬ (T.mk k n s [x]).name=nIs from h5),ah (show ¬ (T.mk k n s [x]).name=IK from by rw [show (T.mk k n s [x]).name=s from rfl,h]; decide +kernel),show (T.mk k n s [x]).name=s from rfl,hcn,ah (by decide)]
   rfl
  rw [hj] at hB
  have ht:AH s x=!decide (x.kind=1):=by rw [h]; rfl
  refine qA hI hks ag aR aG (i:=0) (by simp) (fun cs hcs=>RdT.f0 hcs) ?_
  refine ef ?_
  exact Run.callPure fn_i_holds nm_i_holds hI (dR _ S) fun w' hI=>fin _ (by rw [ht]; rfl) hB hI (sub1 _)
 refine bS ?_
 refine aL (fun h=>?_) (fun g3=>?_)
 ·obtain ⟨x,rfl⟩:=LY (l:=ks) (by
    rcases tF hbs h0 h1 h2 h3 h4 h5 hcn with ⟨_,h⟩|⟨h',_⟩
    ·omega
    ·rw [h] at h'; exact absurd h' (by decide +kernel))
  have hj:i6 (.mk k n s [x])=.done (ji (AH s x)):=by
   rw [i6,ah (show ¬ (T.mk k n s [x]).name=oJ from h0),ah (show ¬ (T.mk k n s [x]).name=pe from h1),ah (show ¬ (T.mk k n s [x]).name=nEq from h2),ah (show ¬ (T.mk k n s [x]).name=nNe from h3),ah (show ¬ (T.mk k n s [x]).name=vE from h4),ah (show ¬ (T.mk k n s [x]).name=nIs from h5),ah (show ¬ (T.mk k n s [x]).name=IK from by rw [show (T.mk k n s [x]).name=s from rfl,h]; decide +kernel),show (T.mk k n s [x]).name=s from rfl,hcn,ah (by decide)]
   rfl
  rw [hj] at hB
  have ht:AH s x=(decide (x.kind=3) && decide (x.kids.length=0)):=by rw [h]; rfl
  refine cL (i:=0) hI hks ag ad (by simp) (fun _ _=>RdT.length) fun ds hds=>?_
  refine Run.callPure Dx D1 hI (zM hds) fun w' hI=>?_
  exact Run.callPure fn_i_holds nm_i_holds hI (dR _ S) fun w' hI=>fin _ (by rw [ht]; rfl) hB hI (sub1 _)
 refine bS ?_
 refine aL (fun h=>?_) (fun g4=>?_)
 ·obtain ⟨x,rfl⟩:=LY (l:=ks) (by
    rcases tF hbs h0 h1 h2 h3 h4 h5 hcn with ⟨_,h⟩|⟨h',_⟩
    ·omega
    ·rw [h] at h'; exact absurd h' (by decide +kernel))
  have hj:i6 (.mk k n s [x])=.done (ji (AH s x)):=by
   rw [i6,ah (show ¬ (T.mk k n s [x]).name=oJ from h0),ah (show ¬ (T.mk k n s [x]).name=pe from h1),ah (show ¬ (T.mk k n s [x]).name=nEq from h2),ah (show ¬ (T.mk k n s [x]).name=nNe from h3),ah (show ¬ (T.mk k n s [x]).name=vE from h4),ah (show ¬ (T.mk k n s [x]).name=nIs from h5),ah (show ¬ (T.mk k n s [x]).name=IK from by rw [show (T.mk k n s [x]).name=s from rfl,h]; decide +kernel),show (T.mk k n s [x]).name=s from rfl,hcn,ah (by decide)]
   rfl
  rw [hj] at hB
  have ht:AH s x=decide (x.kind=2):=by rw [h]; rfl
  refine qA hI hks ag aR aG (i:=0) (by simp) (fun cs hcs=>RdT.f0 hcs) ?_
  refine bl ?_
  exact Run.callPure fn_i_holds nm_i_holds hI (dR _ S) fun w' hI=>fin _ (by rw [ht]; rfl) hB hI (sub1 _)
 have hall:s=IK/\ks.length=3:=by
  rcases tF hbs h0 h1 h2 h3 h4 h5 hcn with ⟨ht,_⟩|⟨h,hl⟩
  ·rw [df,Gw] at ht
   obtain ⟨x,hx,hd⟩:=ht
   have hd:=of_decide_eq_true hd
   simp only [wy,bN,jd,je] at hx
   rcases hx with rfl|rfl|rfl|rfl
   ·exact absurd hd g1
   ·exact absurd hd g2
   ·exact absurd hd g3
   ·exact absurd hd g4
  ·exact ⟨h,by omega⟩
 obtain ⟨h,hl⟩:=hall
 obtain ⟨x,y,z,rfl⟩:=VZ hl
 have hj:i6 (.mk k n s [x,y,z])=MN x y z:=by
  rw [i6,ah (show ¬ (T.mk k n s [x,y,z]).name=oJ from h0),ah (show ¬ (T.mk k n s [x,y,z]).name=pe from h1),ah (show ¬ (T.mk k n s [x,y,z]).name=nEq from h2),ah (show ¬ (T.mk k n s [x,y,z]).name=nNe from h3),ah (show ¬ (T.mk k n s [x,y,z]).name=vE from h4),ah (show ¬ (T.mk k n s [x,y,z]).name=nIs from h5),ai (show (T.mk k n s [x,y,z]).name=IK from h)]
  rfl
 rw [hj] at hB hbj
 obtain ⟨b,o,cap,c,E,fz,rfl,hSb,hR⟩:=hks.ptr (by simp)
 have hx:=hR 0 (by simp)
 have hy:=hR 1 (by simp)
 have hz:=hR 2 (by simp)
 obtain ⟨kx,hxe,_,hx2,_,_⟩:=RdT.iff.1 hx
 obtain ⟨ky,hye,_,_,_,hyk⟩:=RdT.iff.1 hy
 have hx:RdT S (aX c (o+0 * 4) 4) x:=hx
 have hy:RdT S (aX c (o+1 * 4) 4) y:=hy
 have hxe:aX c (o+0 * 4) 4=[.int .i64 x.kind,.int .i64 x.n,.string x.name,kx]:=hxe
 have hye:aX c (o+1 * 4) 4=[.int .i64 y.kind,.int .i64 y.n,.string y.name,ky]:=hye
 have hyk:RdSl S 4 (RdT S) ky y.kids:=hyk
 have hx2:inI x.n:=hx2
 have hky1:=hyk.le
 simp only [maxLen] at hky1
 refine ⟨fun q w'=>q=.bool (decide (x.kind=1 ∨ y.kind=1))/\Inv w X ([.blk b3 (.cells #[.int .i64 k,.int .i64 n,.string s,.slice (some ⟨b,o,none⟩) [x,y,z].length cap] ab)]++aA sb mb es ck tv tr) S w',?_,?_⟩
 ·refine qA hI hks ag aR aG (i:=0) (by simp) (fun cs hcs=>RdT.f0 hcs) ?_
  refine bl ?_
  have e0:([x,y,z]:List T)[0]=x:=rfl
  rw [e0]
  cases k1:decide (x.kind=1)
  ·refine rpG ?_
   refine qA hI hks ag aR aG (i:=1) (by simp) (fun cs hcs=>RdT.f0 hcs) ?_
   refine bl ?_
   refine rpG ?_
   have:=of_decide_eq_false k1
   refine ⟨?_,hI⟩
   rw [Value.bool.injEq,fg]
   exact ⟨.inr,fun h=>h.resolve_left this⟩
  ·refine rpG ?_
   exact ⟨by rw [aI (.inl (of_decide_eq_true k1))],hI⟩
 intro q _ _ _ _ _ _ _ _ _ _ _ _ w'
 rintro ⟨rfl,hI⟩
 refine aL (fun k1=>fin 2 (by rw [MN,ai k1]) hB hI (sub1 _)) (fun k1=>?_)
 have el:decide ((y.kids.length:Int)=0)=decide (y.kids.length=0):=by rw [fg]; omega
 refine ⟨fun q w'=>q=.bool (decide (x.kind≠2 ∨ y.kind≠3 ∨ y.kids.length=0))/\Inv w X ([.blk b3 (.cells #[.int .i64 k,.int .i64 n,.string s,.slice (some ⟨b,o,none⟩) [x,y,z].length cap] ab)]++aA sb mb es ck tv tr) S w',?_,?_⟩
 ·refine qA hI hks ag aR aG (i:=0) (by simp) (fun cs hcs=>RdT.f0 hcs) ?_
  refine ef ?_
  have e0:([x,y,z]:List T)[0]=x:=rfl
  rw [e0]
  cases q2:decide (x.kind=2)
  ·refine rpG ?_
   exact ⟨by rw [aI (.inl (of_decide_eq_false q2))],hI⟩
  have q2:=of_decide_eq_true q2
  refine rpG ?_
  refine qA hI hks ag aR aG (i:=1) (by simp) (fun cs hcs=>RdT.f0 hcs) ?_
  refine ef ?_
  have e1:([x,y,z]:List T)[1]=y:=rfl
  rw [e1]
  cases q3:decide (y.kind=3)
  ·refine rpG ?_
   exact ⟨by rw [aI (.inr (.inl (of_decide_eq_false q3)))],hI⟩
  have q3:=of_decide_eq_true q3
  refine rpG ?_
  refine aE (i:=1) ag (by simp) ?_
  refine au ao ?_
  refine ct aj (by rw [hI.cellS hSb]; exact aH hye 3 _ rfl) ?_
  refine aF hyk ag ?_
  refine bl ?_
  rw [el]
  refine rpG ?_
  refine ⟨?_,hI⟩
  rw [Value.bool.injEq,fg]
  simp [q2,q3]
 intro q _ _ _ _ _ _ _ _ _ _ _ _ _ _ _ _ _ _ _ _ w'
 rintro ⟨rfl,hI⟩
 refine aL (fun k2=>fin 3 (by rw [MN,ah k1,ai k2]) hB hI (sub1 _)) (fun k2=>?_)
 have hwi:(decide (1<=x.n) && decide (x.n<=(y.kids.length:Int)))=!decide (x.n<1 ∨ (y.kids.length:Int)<x.n):=by
  by_cases h8:x.n<1
  ·simp [h8]; omega
  ·by_cases h9:(y.kids.length:Int)<x.n
   ·simp [h9]
   ·simp [h8,h9]; omega
 refine ⟨fun D V4 aaI aaE abg aau aaQ aa3 abQ abo abi VR VY w_=>Fx D 0 [VY=.slice (some ⟨b,o,none⟩) [x,y,z].length cap,VR=.pointer (some ⟨b,o+0 * 4,none⟩),abi=.pointer (some ⟨b,o+0 * 4+1,none⟩),abo=.int .i64 x.n,abQ=.slice (some ⟨b,o,none⟩) [x,y,z].length cap,aa3=.pointer (some ⟨b,o+1 * 4,none⟩),aaQ=.pointer (some ⟨b,o+1 * 4+3,none⟩),aau=ky,abg=.int .i64 y.kids.length,aaE=.bool (!decide (x.n<1 ∨ (y.kids.length:Int)<x.n)),aaI=.bool (decide (x.n<1 ∨ (y.kids.length:Int)<x.n)),V4=.bool (decide (x.n<1 ∨ (y.kids.length:Int)<x.n))]/\Inv w X ([.blk b3 (.cells #[.int .i64 k,.int .i64 n,.string s,.slice (some ⟨b,o,none⟩) [x,y,z].length cap] ab)]++aA sb mb es ck tv tr) S w_,⟨Fx.nil _ _,hI.draw⟩,⟨?_,?_,?_,?_,?_,?_,?_,?_,?_,?_,?_,?_,trivial⟩,?_⟩
 all_goals (intro D bF; intros; rename_i V4 aaI aaE abg aau aaQ aa3 abQ abo abi VR VY w_ hA_; have hF_:=hA_.1; obtain ⟨⟨cj,ci,bR,ce,bP,bY,bZ,cH,c5,dI,bX,cr,_⟩,hI⟩:=hA_)
 ·exact ⟨hF_.set 0 rfl,hI⟩
 ·obtain rfl:=cj ‹_›
  refine aE (i:=0) ag (by simp) ?_
  exact ⟨hF_.set 1 rfl,hI⟩
 ·obtain rfl:=ci ‹_›
  refine au bf ?_
  exact ⟨hF_.set 2 rfl,hI⟩
 ·obtain rfl:=bR ‹_›
  refine ct aG (by rw [hI.cellS hSb]; exact aH hxe 1 _ rfl) ?_
  exact ⟨hF_.set 3 rfl,hI⟩
 ·exact ⟨hF_.set 4 rfl,hI⟩
 ·obtain rfl:=bP ‹_›
  refine aE (i:=1) ag (by simp) ?_
  exact ⟨hF_.set 5 rfl,hI⟩
 ·obtain rfl:=bY ‹_›
  refine au ao ?_
  exact ⟨hF_.set 6 rfl,hI⟩
 ·obtain rfl:=bZ ‹_›
  refine ct aj (by rw [hI.cellS hSb]; exact aH hye 3 _ rfl) ?_
  exact ⟨hF_.set 7 rfl,hI⟩
 ·obtain rfl:=cH ‹_›
  refine aF hyk ag ?_
  exact ⟨hF_.set 8 rfl,hI⟩
 ·obtain rfl:=ce ‹_›
  obtain rfl:=c5 ‹_›
  refine Run.callPure fu fD hI (eR _ _ _ S) fun w_ hI=>?_
  rw [hwi]
  exact ⟨hF_.set 9 rfl,hI⟩
 ·obtain rfl:=dI ‹_›
  refine bQ ?_
  rw [Bool.not_not]
  exact ⟨hF_.set 10 rfl,hI⟩
 ·obtain rfl:=bX ‹_›
  exact ⟨hF_.set 11 rfl,hI⟩
 obtain ⟨rfl,rfl,rfl,rfl,rfl,rfl,rfl,rfl,rfl,rfl,rfl,rfl,_⟩:=hF_.all
 clear hF_ cj ci bR ce bP bY bZ cH c5 dI bX cr
 refine aL (fun k3=>fin 1 (by rw [MN,ah k1,ah k2,ai k3]) hB hI (sub1 _)) (fun k3=>?_)
 obtain ⟨m,hm⟩:∃ m:Nat,x.n=(m:Int)+1:=⟨(x.n - 1).toNat,by omega⟩
 have hml:m<y.kids.length:=by omega
 have hkd:kd y (x.n.toNat - 1)=y.kids[m]:=by
  have e1:x.n.toNat - 1=m:=by omega
  rw [e1,kd,Tt,gL hml]
  rfl
 have hja:MN x y z=.uni z y.kids[m]:=by rw [MN,ah k1,ah k2,ah k3,hkd]
 rw [hja] at hB hbj
 obtain ⟨r,hu,rfl⟩:=hB
 have hjj:okJ N (.one z y.kids[m]):=hbj
 obtain ⟨c2,o2,cap2,a2,E2,fz2,rfl,hS2,hR2⟩:=hyk.at_ hml
 refine ⟨fun D x4 abM abe aa4 abk abT abd abp aaU aby abD abR abI aaF aay aaY abn aaw w_=>Fx D 0 [aaw=.pointer (some ⟨sb,0,none⟩),abn=.slice (some ⟨b,o,none⟩) [x,y,z].length cap,aaY=.pointer (some ⟨b,o+2 * 4,none⟩),aay=.agg (aX c (o+2 * 4) 4).toArray,aaF=.slice (some ⟨b,o,none⟩) [x,y,z].length cap,abI=.pointer (some ⟨b,o+1 * 4,none⟩),abR=.pointer (some ⟨b,o+1 * 4+3,none⟩),abD=.slice (some ⟨c2,o2,none⟩) y.kids.length cap2,aby=.slice (some ⟨b,o,none⟩) [x,y,z].length cap,aaU=.pointer (some ⟨b,o+0 * 4,none⟩),abp=.pointer (some ⟨b,o+0 * 4+1,none⟩),abd=.int .i64 x.n,abT=.int .i64 m,abk=.pointer (some ⟨c2,o2+m * 4,none⟩),aa4=.agg (aX a2 (o2+m * 4) 4).toArray,abe=.bool r,abM=.int .i64 (ji r),x4=.int .i64 (ji r)]/\(D 15=false->Inv w X ([.blk b3 (.cells #[.int .i64 k,.int .i64 n,.string s,.slice (some ⟨b,o,none⟩) [x,y,z].length cap] ab)]++aA sb mb es ck tv tr) S w_)/\(D 15=true->∃ es1 ck1 tv1 tr1,KnownM S es1 st'/\tr1.length+unb st'<=1000000/\Tr st st' tr tr1/\Inv w X ([.blk b3 (.cells #[.int .i64 k,.int .i64 n,.string s,.slice (some ⟨b,o,none⟩) [x,y,z].length cap] ab)]++aA sb mb es1 ck1 tv1 tr1) S w_)/\∃ es3 ck3 tv3 tr3,Inv w X ([.blk b3 (.cells #[.int .i64 k,.int .i64 n,.string s,.slice (some ⟨b,o,none⟩) [x,y,z].length cap] ab)]++aA sb mb es3 ck3 tv3 tr3) S w_,⟨Fx.nil _ _,⟨fun _=>hI.draw,aQ,es,ck,tv,tr,hI.draw⟩⟩,⟨?_,?_,?_,?_,?_,?_,?_,?_,?_,?_,?_,?_,?_,?_,?_,?_,?_,?_,trivial⟩,?_⟩
 all_goals (intro D bF; intros; rename_i x4 abM abe aa4 abk abT abd abp aaU aby abD abR abI aaF aay aaY abn aaw w_ hA_; have hF_:=hA_.1; obtain ⟨⟨cj,ci,bR,ce,bP,bY,bZ,cH,c5,dI,bX,cr,cZ,eo,c8,eQ,fW,hO,_⟩,⟨hI0,hI1,es3,ck3,tv3,tr3,hI⟩⟩:=hA_)
 ·exact ⟨hF_.set 0 rfl,⟨hI0,hI1,es3,ck3,tv3,tr3,hI⟩⟩
 ·exact ⟨hF_.set 1 rfl,⟨hI0,hI1,es3,ck3,tv3,tr3,hI⟩⟩
 ·obtain rfl:=ci ‹_›
  refine aE (i:=2) ag (by simp) ?_
  exact ⟨hF_.set 2 rfl,⟨hI0,hI1,es3,ck3,tv3,tr3,hI⟩⟩
 ·obtain rfl:=bR ‹_›
  refine bL ad (RdT.length (hR 2 (by simp))) (fun j v hj=>by rw [hI.cellS hSb]; exact aH rfl j v hj) ?_
  exact ⟨hF_.set 3 rfl,⟨hI0,hI1,es3,ck3,tv3,tr3,hI⟩⟩
 ·exact ⟨hF_.set 4 rfl,⟨hI0,hI1,es3,ck3,tv3,tr3,hI⟩⟩
 ·obtain rfl:=bP ‹_›
  refine aE (i:=1) ag (by simp) ?_
  exact ⟨hF_.set 5 rfl,⟨hI0,hI1,es3,ck3,tv3,tr3,hI⟩⟩
 ·obtain rfl:=bY ‹_›
  refine au ao ?_
  exact ⟨hF_.set 6 rfl,⟨hI0,hI1,es3,ck3,tv3,tr3,hI⟩⟩
 ·obtain rfl:=bZ ‹_›
  refine ct aj (by rw [hI.cellS hSb]; exact aH hye 3 _ rfl) ?_
  exact ⟨hF_.set 7 rfl,⟨hI0,hI1,es3,ck3,tv3,tr3,hI⟩⟩
 ·exact ⟨hF_.set 8 rfl,⟨hI0,hI1,es3,ck3,tv3,tr3,hI⟩⟩
 ·obtain rfl:=c5 ‹_›
  refine aE (i:=0) ag (by simp) ?_
  exact ⟨hF_.set 9 rfl,⟨hI0,hI1,es3,ck3,tv3,tr3,hI⟩⟩
 ·obtain rfl:=dI ‹_›
  refine au bf ?_
  exact ⟨hF_.set 10 rfl,⟨hI0,hI1,es3,ck3,tv3,tr3,hI⟩⟩
 ·obtain rfl:=bX ‹_›
  refine ct aG (by rw [hI.cellS hSb]; exact aH hxe 1 _ rfl) ?_
  exact ⟨hF_.set 11 rfl,⟨hI0,hI1,es3,ck3,tv3,tr3,hI⟩⟩
 ·obtain rfl:=cr ‹_›
  refine mx (by omega) ?_
  rw [show x.n - 1=(m:Int) by omega]
  exact ⟨hF_.set 12 rfl,⟨hI0,hI1,es3,ck3,tv3,tr3,hI⟩⟩
 ·obtain rfl:=cH ‹_›
  obtain rfl:=cZ ‹_›
  refine aE ag hml ?_
  exact ⟨hF_.set 13 rfl,⟨hI0,hI1,es3,ck3,tv3,tr3,hI⟩⟩
 ·obtain rfl:=eo ‹_›
  refine bL ad hR2.length (fun j v hj=>by rw [hI.cellS hS2]; exact aH rfl j v hj) ?_
  exact ⟨hF_.set 14 rfl,⟨hI0,hI1,es3,ck3,tv3,tr3,hI⟩⟩
 ·obtain rfl:=cj ‹_›
  obtain rfl:=ce ‹_›
  obtain rfl:=c8 ‹_›
  refine Run.callE (A:=[_]) eW eX (hI0 bF) (iN hN hg hjj hu S _ _ sb mb ck es tv tr hz hR2 hkm htr) fun v' I' S' w_=>?_
  rintro ⟨eS,rfl,es1,ck1,tv1,tr1,rfl,hm1,htr1,hT1⟩ _ hI
  rw [eS] at hI
  have hI0:=fun (h:aD D 15 15=false)=>(Bool.noConfusion h:Inv w X ([.blk b3 (.cells #[.int .i64 k,.int .i64 n,.string s,.slice (some ⟨b,o,none⟩) [x,y,z].length cap] ab)]++aA sb mb es ck tv tr) S w_)
  have hI1:=fun (_:aD D 15 15=true)=>(⟨es1,ck1,tv1,tr1,hm1,htr1,hT1,hI⟩:∃ es1 ck1 tv1 tr1,KnownM S es1 st'/\tr1.length+unb st'<=1000000/\Tr st st' tr tr1/\Inv w X ([.blk b3 (.cells #[.int .i64 k,.int .i64 n,.string s,.slice (some ⟨b,o,none⟩) [x,y,z].length cap] ab)]++aA sb mb es1 ck1 tv1 tr1) S w_)
  obtain ⟨es3,ck3,tv3,tr3,hI⟩:∃ es3 ck3 tv3 tr3,Inv w X ([.blk b3 (.cells #[.int .i64 k,.int .i64 n,.string s,.slice (some ⟨b,o,none⟩) [x,y,z].length cap] ab)]++aA sb mb es3 ck3 tv3 tr3) S w_:=⟨es1,ck1,tv1,tr1,hI⟩
  exact ⟨hF_.set 15 rfl,⟨hI0,hI1,es3,ck3,tv3,tr3,hI⟩⟩
 ·obtain rfl:=eQ ‹_›
  obtain ⟨es1,ck1,tv1,tr1,hm1,htr1,hT1,hI⟩:=hI1 ‹D 15=true›
  refine Run.callPure fn_i_holds nm_i_holds hI (dR r S) fun w_ hI=>?_
  have hI0:=fun (h:aD D 16 15=false)=>(Bool.noConfusion (h.symm.trans (show aD D 16 15=true from ‹D 15=true›)):Inv w X ([.blk b3 (.cells #[.int .i64 k,.int .i64 n,.string s,.slice (some ⟨b,o,none⟩) [x,y,z].length cap] ab)]++aA sb mb es ck tv tr) S w_)
  have hI1:=fun (_:aD D 16 15=true)=>(⟨es1,ck1,tv1,tr1,hm1,htr1,hT1,hI⟩:∃ es1 ck1 tv1 tr1,KnownM S es1 st'/\tr1.length+unb st'<=1000000/\Tr st st' tr tr1/\Inv w X ([.blk b3 (.cells #[.int .i64 k,.int .i64 n,.string s,.slice (some ⟨b,o,none⟩) [x,y,z].length cap] ab)]++aA sb mb es1 ck1 tv1 tr1) S w_)
  obtain ⟨es3,ck3,tv3,tr3,hI⟩:∃ es3 ck3 tv3 tr3,Inv w X ([.blk b3 (.cells #[.int .i64 k,.int .i64 n,.string s,.slice (some ⟨b,o,none⟩) [x,y,z].length cap] ab)]++aA sb mb es3 ck3 tv3 tr3) S w_:=⟨es1,ck1,tv1,tr1,hI⟩
  exact ⟨hF_.set 16 rfl,⟨hI0,hI1,es3,ck3,tv3,tr3,hI⟩⟩
 ·obtain rfl:=fW ‹_›
  exact ⟨hF_.set 17 rfl,⟨hI0,hI1,es3,ck3,tv3,tr3,hI⟩⟩
 obtain ⟨rfl,rfl,rfl,rfl,rfl,rfl,rfl,rfl,rfl,rfl,rfl,rfl,rfl,rfl,rfl,rfl,rfl,rfl,_⟩:=hF_.all
 have ZE:D 15=true:=by assumption
 clear hF_ cj ci bR ce bP bY bZ cH c5 dI bX cr cZ eo c8 eQ fW hO
 obtain ⟨es1,ck1,tv1,tr1,hm1,htr1,hT1,hI⟩:=hI1 ZE
 exact ⟨_,_,S,rfl,hI.sub (ei [_] _),Ext.refl _ _ _,rfl,rfl,es1,ck1,tv1,tr1,rfl,hm1,htr1,hT1⟩
end
end
section
open Go Go.RowKit
theorem KnownM.up {S S':ae} {es:Array MapEntry} {st:al} (h:KnownM S es st) (hs:Sle S S'):KnownM S' es st:=
 ⟨fun e he=>by
  obtain ⟨n,t,cs,h1,h2,h3,h4⟩:=h.1 e he
  exact ⟨n,t,cs,h1,h2,h3.mono hs,h4⟩,h.2⟩
theorem StS.up {S S':ae} {sb:Nat} {st:al} (h:StS S S sb st) (hs:Sle S S'):StS S' S' sb st:=by
 obtain ⟨mb,tv,es,ck,E,h1,h2,h3⟩:=h
 exact ⟨mb,tv,es,ck,E,hs _ _ h1,hs _ _ h2,h3.up hs⟩
def okR (u:T) (deep count:Int):Bool:=decide (count+ew u<=120) && Pu u (31 - deep)
def RC (st:al) (sb:Nat) (t u:T):Prop:=∀ (S:ae) (cs:List Value) (cb:Nat) (deep count:Int),RdT S cs t->StS S S sb st->1<=deep->deep<=1000000->0<=count->count<=1000000->
 Tri Tryz.prog vx [.pointer (some ⟨sb,0,none⟩),.agg cs.toArray,.int .i64 deep,.pointer (some ⟨cb,0,none⟩)] [.blk cb (.cells #[.int .i64 count] bV)] S fun q I' S'=>
  ∃ (cs':List Value) (c':Int),q=.tuple #[.agg cs'.toArray,.bool (okR u deep count)]/\I'=[.blk cb (.cells #[.int .i64 c'] bV)]/\cs'.length=4/\(∀ x∈cs',x.oneCell'=true)/\(okR u deep count=true->c'=count+ew u/\RdT S' cs' u)
section
attribute [local irreducible] Run CondV az aO
theorem FJ {N:Nat} {st:al} {sb:Nat} {t v:T} {us:List T} (hg:Good N st) (hwv:dF st t v) (hot:okU N t/\wT t<=1048576) (hlu:us.length=v.kids.length)
  (hk:∀ i (h:i<us.length) (h':i<v.kids.length),RC st sb v.kids[i] us[i]):RC st sb t (.mk v.kind v.n v.name us):=by
 intro S cs cb deep count h hst hd0 hd1 hc0 hc1 w hI
 have hlc:=h.length
 have hov:=ik hg hwv hot
 obtain ⟨X,hX⟩:∃ X,X=bE [Item.blk cb (.cells #[.int .i64 count] bV)]:=⟨_,rfl⟩
 rw [<- hX] at hI ⊢
 have hcu:=eL us
 have hokd:okR (.mk v.kind v.n v.name us) deep count=(decide (count+(1+cV us)<=120) && (if 31 - deep<1 then false else LX us (31 - deep - 1))):=by
  rw [okR,yf,Pu]
 refine kN.2 ?_
 dsimp only[kN,lC]
 refine bq hI fun b5 w' hI=>?_
 refine aT hI aZ fun b8 w' hI=>?_
 have hI:Inv w X ([.blk b5 (.cells cs.toArray ab),.blk b8 (.cells #[.int .i64 0,.int .i64 0,.string ⟨#[]⟩,.slice none 0 0] ab)]++[.blk cb (.cells #[.int .i64 count] bV)]) S w':=hI.perm (cu (l₁:=[_,_]) (l₂:=[_]))
 refine av hI 0 ad rfl (by simpa using hlc) ?_
 refine Run.call0 iV iX hI (lV hg hwv hot.1 hst h) fun v' I' S' w'=>?_
 rintro ⟨eS,rfl,cs',rfl,hcs'⟩ _ hI
 rw [eS] at hI
 clear eS
 refine aC hI 0 rfl ad (by simpa using hcs'.length) (by simpa using hlc) (by simpa using hcs'.one) fun w' hI=>?_
 obtain ⟨kv,rfl,hi1,hi2,hs,hks⟩:=RdT.iff.1 hcs'
 have hI:Inv w X [.blk b5 (.cells #[.int .i64 v.kind,.int .i64 v.n,.string v.name,kv] ab),.blk b8 (.cells #[.int .i64 0,.int .i64 0,.string ⟨#[]⟩,.slice none 0 0] ab),.blk cb (.cells #[.int .i64 count] bV)] S w':=hI
 have hlen:=hks.le
 have hkl:v.kids.length<=1048576:=by
  have:=hov.2
  cases v
  simp only [wT] at this
  simp only [T.kids]
  omega
 refine aB ?_
 refine aN hI 2 aG rfl rfl ?_
 refine bp (by omega) ?_
 refine aB ?_
 refine cW hI 2 (n:=1) rfl (by decide +kernel) rfl (by simp) (by simp [Value.cells,Value.oneCell']) fun w' hI=>?_
 have hI:Inv w X [.blk b5 (.cells #[.int .i64 v.kind,.int .i64 v.n,.string v.name,kv] ab),.blk b8 (.cells #[.int .i64 0,.int .i64 0,.string ⟨#[]⟩,.slice none 0 0] ab),.blk cb (.cells #[.int .i64 (count+1)] bV)] S w':=hI
 refine ⟨fun q w'=>q=.bool (decide (120<count+1 ∨ 30<deep))/\Inv w X [.blk b5 (.cells #[.int .i64 v.kind,.int .i64 v.n,.string v.name,kv] ab),.blk b8 (.cells #[.int .i64 0,.int .i64 0,.string ⟨#[]⟩,.slice none 0 0] ab),.blk cb (.cells #[.int .i64 (count+1)] bV)] S w',?_,?_⟩
 ·refine aB ?_
  refine aN hI 2 aG rfl rfl ?_
  refine dA ?_
  by_cases e1:120<count+1
  ·rw [aI e1]
   refine rpG ?_
   exact ⟨by rw [aI (Or.inl e1)],hI⟩
  ·rw [aP e1]
   refine rpG ?_
   refine dA ?_
   refine rpG ?_
   refine ⟨?_,hI⟩
   congr 1
   rw [mf,bk,bk]
   omega
 intro q _ _ _ _ _ _ _ w'
 rintro ⟨rfl,hI⟩
 refine aL (fun hbad=>?_) (fun hgood=>?_)
 ·have hno:okR (.mk v.kind v.n v.name us) deep count=false:=by
   rw [hokd]
   rcases hbad with e|e
   ·rw [aP (by omega),iG]
   ·rw [ai (by omega),kY]
  refine yh ?_
  refine aC hI 1 rfl ad rfl rfl Ac fun w' hI=>?_
  refine bJ hI 1 ad rfl rfl ?_
  exact ⟨_,_,_,rfl,hI.pick [false,false,true],Ext.refl _ _ _,[.int .i64 0,.int .i64 0,.string ⟨#[]⟩,.slice none 0 0],count+1,by rw [hno],rfl,rfl,Ac,fun h=>by rw [hno] at h; cases h⟩
 have hg1:count+1<=120:=by omega
 have hg2:deep<=30:=by omega
 rw [ah (by omega)] at hokd
 refine af hI 0 rfl aR aG rfl ?_
 refine af hI 0 rfl bf aG rfl ?_
 refine af hI 0 rfl bb aU rfl ?_
 refine sB ?_
 refine aT hI aZ fun b10 w' hI=>?_
 have hI:Inv w X [.blk b5 (.cells #[.int .i64 v.kind,.int .i64 v.n,.string v.name,kv] ab),.blk b8 (.cells #[.int .i64 0,.int .i64 0,.string ⟨#[]⟩,.slice none 0 0] ab),.blk b10 _,.blk cb (.cells #[.int .i64 (count+1)] bV)] S w':=hI.perm (((cu (l₁:=[_]) (l₂:=[_])).cons _).cons _)
 refine aC hI 2 rfl ad rfl rfl (by simp [Value.oneCell']) fun w' hI=>?_
 have hI:=hI.rowNil ab 4
 have hI:Inv w X [.blk b5 (.cells #[.int .i64 v.kind,.int .i64 v.n,.string v.name,kv] ab),.blk b8 (.cells #[.int .i64 0,.int .i64 0,.string ⟨#[]⟩,.slice none 0 0] ab),.blk b10 (.cells #[.int .i64 v.kind,.int .i64 v.n,.string v.name,.slice none 0 0] ab),aJ (.slice none 0 0) ab 4 [],.blk cb (.cells #[.int .i64 (count+1)] bV)] S w':=hI.perm ((((cu (l₁:=[_]) (l₂:=[_])).cons _).cons _).cons _)
 refine af hI 0 rfl ao aj rfl ?_
 refine aF hks ag ?_
 refine ⟨fun i w'=>∃ (j:Nat) (c:Int) (kvc:Value) (css:List (List Value)) (S1:ae),j<=us.length/\i=.int .i64 j/\Ext w.heap.size X S S1/\c=count+1+cV (us.take j)/\c<=120/\(∀ k (_:k<us.length),k<j->Pu us[k] (31 - deep - 1)=true)/\Rows 4 (RdT S1) css (us.take j)/\
   Inv w X [.blk b5 (.cells #[.int .i64 v.kind,.int .i64 v.n,.string v.name,kv] ab),.blk b8 (.cells #[.int .i64 0,.int .i64 0,.string ⟨#[]⟩,.slice none 0 0] ab),.blk b10 (.cells #[.int .i64 v.kind,.int .i64 v.n,.string v.name,kvc] ab),aJ kvc ab 4 css,.blk cb (.cells #[.int .i64 c] bV)] S1 w',
  fun i _=>us.length - (intOf i).toNat,⟨0,count+1,_,[],S,be _,rfl,Ext.refl _ _ _,by simp [cV],hg1,fun k _ h=>by omega,Rows.nil _ _,hI⟩,?_⟩
 intro t42 _ _ _ _ _ _ _ _ _ _ _ _ _ _ _ _ _ _ _ _ _ _ _ _ _ _ w'
 rintro ⟨j,c,kvc,css,S1,hj,rfl,hE,hc,hc120,hdep,hR,hI⟩
 have hpos:=eL (us.take j)
 refine bH ?_
 refine aL (fun hji=>?_) (fun hji=>?_)
 ·have hj1:j<us.length:=by omega
  have hj2:j<v.kids.length:=by omega
  have hcl:=hR.hc
  rw [dX] at hcl
  refine cL hI (hks.monoT hE.1) ag ad hj2 (fun _ _=>RdT.length) fun cs0 hcs0=>?_
  have hlc0:=hcs0.length
  refine aT hI aZ fun b12 w' hI=>?_
  have hI:=hI.perm (M:=.blk b12 _::[.blk b5 (.cells #[.int .i64 v.kind,.int .i64 v.n,.string v.name,kv] ab),.blk b8 (.cells #[.int .i64 0,.int .i64 0,.string ⟨#[]⟩,.slice none 0 0] ab),.blk b10 (.cells #[.int .i64 v.kind,.int .i64 v.n,.string v.name,kvc] ab),aJ kvc ab 4 css,.blk cb (.cells #[.int .i64 c] bV)]) (cu (l₁:=[_]))
  refine aC hI 0 rfl ad (by simpa using hlc0) rfl (by simpa using hcs0.one) fun w' hI=>?_
  refine av hI 0 ad rfl (by simpa using hlc0) ?_
  refine bp (by omega) ?_
  have hI:Inv w X ([.blk b5 (.cells #[.int .i64 v.kind,.int .i64 v.n,.string v.name,kv] ab),.blk b8 (.cells #[.int .i64 0,.int .i64 0,.string ⟨#[]⟩,.slice none 0 0] ab),.blk b10 (.cells #[.int .i64 v.kind,.int .i64 v.n,.string v.name,kvc] ab),aJ kvc ab 4 css]++[.blk cb (.cells #[.int .i64 c] bV)]) S1 w':=hI.pick [false,true,true,true,true,true]
  refine Run.callE kL kO hI (hk j hj1 hj2 S1 cs0 cb (deep+1) c hcs0 (hst.up hE.1) (by omega) (by omega) (by omega) (by omega)) fun v' I' S2 w'=>?_
  rintro ⟨cs2,c2,rfl,rfl,hl4,ho4,hrd⟩ hE2 hI
  refine ar rfl ?_
  refine ar rfl ?_
  refine aT hI aZ fun b13 w' hI=>?_
  have hI:=hI.perm (M:=.blk b13 _::[.blk b5 (.cells #[.int .i64 v.kind,.int .i64 v.n,.string v.name,kv] ab),.blk b8 (.cells #[.int .i64 0,.int .i64 0,.string ⟨#[]⟩,.slice none 0 0] ab),.blk b10 (.cells #[.int .i64 v.kind,.int .i64 v.n,.string v.name,kvc] ab),aJ kvc ab 4 css,.blk cb (.cells #[.int .i64 c2] bV)]) (cu (l₁:=[_]))
  refine aC hI 0 rfl ad (by simpa using hl4) rfl (by simpa using ho4) fun w' hI=>?_
  refine bQ ?_
  have hct:=Vg us j hj1
  have hcle:=Mf us (j+1)
  refine aw (fun hb=>?_) (fun hb=>?_)
  ·have hb':okR us[j] (deep+1) c=false:=by simpa using hb
   have hno:okR (.mk v.kind v.n v.name us) deep count=false:=by
    rw [hokd]
    rw [okR,Bool.and_eq_false_iff] at hb'
    rcases hb' with e|e
    ·have e:=of_decide_eq_false e
     rw [aP (by omega),iG]
    ·have:LX us (31 - deep - 1)=false:=by
      rw [Ha,W6]
      exact ⟨us[j],bz hj1,by rw [show 31 - deep - 1=31 - (deep+1) by omega,e]; decide⟩
     rw [this,kY]
   refine yh ?_
   have hI:Inv w X [.blk b13 (.cells cs2.toArray ab),.blk b5 (.cells #[.int .i64 v.kind,.int .i64 v.n,.string v.name,kv] ab),.blk b8 (.cells #[.int .i64 0,.int .i64 0,.string ⟨#[]⟩,.slice none 0 0] ab),.blk b10 (.cells #[.int .i64 v.kind,.int .i64 v.n,.string v.name,kvc] ab),aJ kvc ab 4 css,.blk cb (.cells #[.int .i64 c2] bV)] S2 w':=hI
   refine aC hI 2 rfl ad rfl rfl Ac fun w' hI=>?_
   refine bJ hI 2 ad rfl rfl ?_
   exact ⟨_,_,_,rfl,hI.pick [false,false,false,false,false,true],hE.trans hE2,[.int .i64 0,.int .i64 0,.string ⟨#[]⟩,.slice none 0 0],c2,by rw [hno],rfl,rfl,Ac,fun h=>by rw [hno] at h; cases h⟩
  ·have hb':okR us[j] (deep+1) c=true:=by simpa using hb
   obtain ⟨hc2,hR2⟩:=hrd hb'
   rw [okR,bu,bk] at hb'
   refine af (b:=b10) (c:=#[.int .i64 v.kind,.int .i64 v.n,.string v.name,kvc]) hI 3 rfl ao aj rfl ?_
   refine av hI 0 ad rfl (by simpa using hl4) ?_
   refine d6 hI 4 cs2 bo (by omega) (by omega) rfl hl4 ho4 (by omega) (by omega) fun kvc2 w' hI=>?_
   have hkv2:=xU (hI.its (aJ kvc2 ab 4 (css++[cs2])) (by simp))
   refine du (b:=b10) (c:=#[.int .i64 v.kind,.int .i64 v.n,.string v.name,kvc]) hI 3 rfl ao aj rfl hkv2.1 hkv2.2 fun w' hI=>?_
   have hI:Inv w X [.blk b5 (.cells #[.int .i64 v.kind,.int .i64 v.n,.string v.name,kv] ab),.blk b8 (.cells #[.int .i64 0,.int .i64 0,.string ⟨#[]⟩,.slice none 0 0] ab),.blk b10 (.cells #[.int .i64 v.kind,.int .i64 v.n,.string v.name,kvc2] ab),aJ kvc2 ab 4 (css++[cs2]),.blk cb (.cells #[.int .i64 c2] bV)] S2 w':=hI.pick [false,true,true,true,true,true]
   refine bp (by omega) ?_
   refine ⟨⟨j+1,c2,kvc2,css++[cs2],S2,hj1,rfl,hE.trans hE2,by omega,by omega,fun k hk2 hkj=>?_,?_,hI⟩,by simp [intOf]; omega⟩
   ·by_cases e:k=j
    ·subst e
     rw [show 31 - deep - 1=31 - (deep+1) by omega]
     exact hb'.2
    ·exact hdep k hk2 (by omega)
   ·rw [fl hj1]
    exact (hR.monoR fun _ _ h=>RdT.mono hE2.1 h).snoc hR2 hl4
 ·have hje:j=us.length:=by omega
  subst hje
  rw [fJ] at hR hc
  have hyes:okR (.mk v.kind v.n v.name us) deep count=true:=by
   rw [hokd,aI (by omega),dg,Ha,dE]
   intro x hx
   obtain ⟨k,hk2,rfl⟩:=BW.1 hx
   exact hdep k hk2 hk2
  refine av (b:=b10) (c:=#[.int .i64 v.kind,.int .i64 v.n,.string v.name,kvc]) hI 2 ad rfl rfl ?_
  have hkv2:=xU (hI.its (aJ kvc ab 4 css) (by simp))
  have hone:∀ x∈([.int .i64 v.kind,.int .i64 v.n,.string v.name,kvc]:List Value),x.oneCell'=true:=by
   intro x hx
   simp at hx
   rcases hx with rfl|rfl|rfl|rfl <;> first|rfl|exact hkv2.2
  refine aC hI 1 rfl ad rfl rfl hone fun w' hI=>?_
  refine bJ (c:=#[.int .i64 v.kind,.int .i64 v.n,.string v.name,kvc]) hI 1 ad rfl rfl ?_
  have hI:Inv w X ([.blk cb (.cells #[.int .i64 c] bV)]++[aJ kvc ab 4 css]) S1 w':=(hI.pick [false,false,false,true,true]).perm (List.Perm.swap ..)
  obtain ⟨S3,hE3,hrd,hI⟩:=hI.lendExt
  have hrr:=RowRd.rows (hR.monoR fun _ _ h=>RdT.mono hE3.1 h) hrd
  exact ⟨_,_,_,rfl,hI,hE.trans hE3,[.int .i64 v.kind,.int .i64 v.n,.string v.name,kvc],c,by rw [hyes],rfl,rfl,hone,fun _=>⟨by rw [yf]; omega,RdT.iff.2 ⟨kvc,rfl,hi1,hi2,hs,hrr⟩⟩⟩
theorem EK {N:Nat} {st:al} (sb:Nat) (hg:Good N st) {j:Vm} (hr:Res st j):match j with
  | .one t u=>(okU N t/\wT t<=1048576)->RC st sb t u
  | .list ts us=>(∀ t∈ts,okU N t/\wT t<=1048576)->us.length=ts.length/\∀ i (h:i<us.length) (h':i<ts.length),RC st sb ts[i] us[i]:=by
 induction hr with
 | one hw _ ih=>
  intro ho
  have h1:=ih (nP (ik hg hw ho))
  exact FJ hg hw ho h1.1 h1.2
 | nil=>exact fun _=>⟨rfl,fun i h _=>by simp at h⟩
 | cons _ _ ih1 ih2=>
  intro ho
  obtain ⟨h1,h2⟩:=ih2 fun t ht=>ho t (aV _ ht)
  refine ⟨by simp [h1],fun i h h'=>?_⟩
  cases i with
  | zero=>exact ih1 (ho _ (aS ..))
  | succ i=>exact h2 i (by simpa using h) (by simpa using h')
theorem wd {N:Nat} {st:al} (hg:Good N st) {t u:T} (hr:Res st (.one t u)) (ho:okU N t/\wT t<=1048576) {S:ae} {cs:List Value} {sb:Nat} (h:RdT S cs t) (hst:StS S S sb st) :
  Tri Tryz.prog nO [.pointer (some ⟨sb,0,none⟩),.agg cs.toArray] [] S fun q I' S'=>I'=[]/\∃ cs':List Value,cs'.length=4/\(∀ x∈cs',x.oneCell'=true)/\q=.tuple #[.agg cs'.toArray,.bool (bI u)]/\(bI u=true->RdT S' cs' u):=by
 intro w hI
 have hlc:=h.length
 have hI:Inv w [] [] S w:=hI
 have hrc:RC st sb t u:=EK sb hg hr ho
 have e:okR u 1 0=bI u:=by rw [okR,bI,Int.zero_add]; rfl
 refine mO.2 ?_
 dsimp only[mO,aY]
 refine bq hI fun b3 w' hI=>?_
 refine aT hI aZ fun b4 w' hI=>?_
 have hz:fL Tryz.prog bV=some (.int .i64 0):=by kernel_rfl
 refine aT hI hz fun b6 w' hI=>?_
 refine cW hI 2 (n:=1) rfl (by decide +kernel) rfl (by simp [Value.cells]) (by simp [Value.cells,Value.oneCell']) fun w' hI=>?_
 have hI:Inv w [] ([.blk b3 (.cells cs.toArray ab),.blk b4 (.cells #[.int .i64 0,.int .i64 0,.string ⟨#[]⟩,.slice none 0 0] ab)]++[.blk b6 (.cells #[.int .i64 0] bV)]) S w':=hI
 refine av hI 0 ad rfl (by simpa using hlc) ?_
 refine Run.callE kL kO hI (hrc S cs b6 1 0 h hst (by omega) (by omega) (by omega) (by omega)) fun v' I' S2 w'=>?_
 rintro ⟨cs2,c2,rfl,rfl,hl4,ho4,hrd⟩ hE2 hI
 rw [e] at hrd ⊢
 refine ar rfl ?_
 refine ar rfl ?_
 have hI:Inv w [] [.blk b3 (.cells cs.toArray ab),.blk b4 (.cells #[.int .i64 0,.int .i64 0,.string ⟨#[]⟩,.slice none 0 0] ab),.blk b6 (.cells #[.int .i64 c2] bV)] S2 w':=hI
 refine aC hI 1 rfl ad (by simpa using hl4) rfl (by simpa using ho4) fun w' hI=>?_
 refine bJ hI 1 ad rfl (by simpa using hl4) ?_
 exact ⟨_,_,_,rfl,hI.nil,hE2,rfl,cs2,hl4,ho4,rfl,fun h=>(hrd h).2⟩
end
end
end Go.Proofs.YtgllldjiaglkcaaGreatDoor

/- impl.resolvent. -/
import Derived.Test.YtmnnpgdeecnfpaaGreatZPg9
import Derived.Test.YtmnnpgdeecnfpaaGreatZPg10
import Derived.Test.YtmnnpgdeecnfpaaGreatZPg2
import Derived.Test.YtmnnpgdeecnfpaaGreatZPg3
namespace Go.Proofs.YtmnnpgdeecnfpaaGreat
open Go Go.RowKit
def zT (n:Int):T:=.mk 1 (n+26) ⟨#[]⟩ []
mutual
theorem lW {N:Nat}:∀ t:T,okU N t->vy zT t=dx 26 t
 | .mk k n s ks,h=>by
  rw [okU] at h
  rw [vy,dx]
  by_cases hk:k=1
  ·have h1:=h.2.1 hk
   rw [if_pos hk,if_pos hk,h1.2.2.2,bZ,h1.2.2.1,hk]
   rfl
  ·rw [if_neg hk,if_neg hk,ql ks h.2.2.1]
theorem ql {N:Nat}:∀ ts:List T,bj N ts->pe zT ts=bZ 26 ts
 | [],_=>rfl
 | t::ts,h=>by
  rw [bj] at h
  rw [pe,bZ,lW t h.1,ql ts h.2]
end
mutual
theorem wy:∀ t:T,okU 26 t->okV t
 | .mk k n s ks,h=>by
  rw [okU] at h
  rw [okV]
  exact ⟨fun hk=>by have:=h.2.1 hk; omega,zu ks h.2.2.1⟩
theorem zu:∀ ts:List T,bj 26 ts->Cl ts
 | [],_=>by rw [Cl]; trivial
 | t::ts,h=>by
  rw [bj] at h
  rw [Cl]
  exact ⟨wy t h.1,zu ts h.2⟩
end
def Fi (o:Option (Option C)):Value->List Item->Store->Prop:=fun q I' _=>∃ (cs:List Value) (L:aD),q=.tuple #[.agg cs.toArray,.bool (dX o),.bool (pb o)]/\I'=az L/\TrC L cs (clO o)
section
attribute [local irreducible] Run CondV GuardV LoadV
theorem hZ (S:Store):Fun gT [] S zT:=by
 intro S' _ n hn0 hn25
 refine ⟨[.int .i64 1,.int .i64 (n+26),.string ⟨#[]⟩,.slice none 0 0],RdT.nil (by simp [inI]) (by simp only [inI]; omega) (show 0<=maxLen from Nat.zero_le _) (by simp [maxLen]),fun w hI=>?_⟩
 refine lc ?_
 unfold gj
 refine r_alloc hI aE fun b2 w' hI=>?_
 refine r_add (by omega) ?_
 refine r_add (by omega) ?_
 refine Run.callPure lw ll hI (ki _ S') fun w' hI=>?_
 rw [show n+25+1=n+26 by omega]
 refine ao hI 0 rfl ag rfl rfl (by simp [Value.oneCell']) fun w' hI=>?_
 refine loadV_W hI 0 ag rfl rfl ?_
 exact done hI rfl
theorem xz {K:Value->World->Prop} {w:World} {mb:Nat} (hk:K (.agg #[.map (some mb),.slice none 0 0]) w):Run Tryz.prog (sBuild bk [(0,.map (some mb))]) w K:=by
 refine Run.of (v:=.agg #[.map (some mb),.slice none 0 0]) (w':=w) ?_ hk
 unfold sBuild
 rw [Sem.run_bind,run_build w bk _ #[.map (some mb),.slice none 0 0] (by kernel_rfl),Result.andThen_ok]
 rfl
theorem tM (S:Store):Tri Tryz.prog xy [] [] S fun r I' S'=>S'=S/\∃ sb mb,r=.pointer (some ⟨sb,0,none⟩)/\I'=aR sb mb #[] 0 (.slice none 0 0) []:=by
 intro w hI
 have hI:Inv w [] [] S w:=hI
 refine qa ?_
 unfold lp
 refine wh hI fun mb w' hI=>?_
 refine xz ?_
 refine r_box hI fun sb w' hI=>?_
 have hI:=hI.rowNil aV 1
 have hI:Inv w [] (aR sb mb #[] 0 (.slice none 0 0) []) S w':=hI.perm (List.Perm.swap ..)
 exact ⟨_,_,_,rfl,hI,Ext.refl _ _ _,rfl,sb,mb,rfl,rfl⟩
theorem KnownM.none (S:Store) (N:Nat):KnownM S #[] (List.replicate N Option.none):=by
 refine ⟨fun e he=>by simp at he,fun n t h=>?_⟩
 have:=List.mem_of_getElem? h
 simp at this
set_option maxHeartbeats 2000000 in
theorem oI {c0 d0:C} {o:Option (Option C)} (hc:aH c0=true) (hd:aH d0=true) (hwc:wC c0<=1048576) (hwd:wC d0<=1048576) (hb:c0.body≠[]) (ho:RO c0 d0 o) {S:Store} {cs ds:List Value} (h:RdC S cs c0) (h':RdC S ds d0) :
  Tri Tryz.prog uC [.agg cs.toArray,.agg ds.toArray] [] S (Fi o):=by
 intro w hI
 have hI:Inv w [] [] S w:=hI
 obtain ⟨d1,d2,d3⟩:=cO hd
 have hrl:=vY hc hd
 have hrok:=tq hc hd
 have hj0:=p8 hc hd hwc hwd hb
 obtain ⟨r,st,hu,hcase⟩:=ho
 obtain ⟨hg,_⟩:=hu.good kz hj0
 obtain ⟨hd0,ks,rfl,h1,h2⟩:=h
 have h1':=h1
 obtain ⟨kc0,rfl,g1,g2,g3,g4⟩:=RdT.iff.1 h1
 have hb0:0<c0.body.length:=List.length_pos_iff.2 hb
 obtain ⟨bb,bo,bcap,bc,bE,bfz,rfl,hbS,hbR⟩:=h2.at_ hb0
 have hfirst:c0.body.headD ⟨0,0,⟨#[]⟩,[]⟩=c0.body[0]:=CD _ hb0 _
 rw [hfirst] at hu hj0
 obtain ⟨hdd,dks,rfl,k1,k2⟩:=h'
 have k1':=k1
 obtain ⟨kd0,rfl,_⟩:=RdT.iff.1 k1
 obtain ⟨da,dcap,rfl,_⟩:=id k2
 have hwdh:wT d0.head<=1048576:=by unfold wC at hwd; omega
 refine nC ?_
 unfold jI
 refine r_box hI fun b2 w' hI=>?_
 refine r_box hI fun b3 w' hI=>?_
 refine r_alloc hI bd fun b4 w' hI=>?_
 refine Run.call0 vA uq hI (tM S) fun v' I' S' w'=>?_
 rintro ⟨eS,sb,mb,rfl,rfl⟩ _ hI
 rw [eS] at hI
 clear eS
 have hI:Inv w [] ([.blk b2 (.cells #[.int .i64 c0.head.kind,.int .i64 c0.head.n,.string c0.head.name,kc0,.slice (some ⟨bb,bo,none⟩) c0.body.length bcap] af),.blk b3 (.cells #[.int .i64 d0.head.kind,.int .i64 d0.head.n,.string d0.head.name,kd0,.slice da d0.body.length dcap] af),.blk b4 (.cells #[.int .i64 0,.int .i64 0,.string ⟨#[]⟩,.slice none 0 0,.slice none 0 0] af)]++aR sb mb #[] 0 (.slice none 0 0) []) S w':=hI
 refine ⟨fun D x27 x26 x25 x24 x23 x22 x21 x20 x19 x18 x17 w_=>(D 0=true->x17=.pointer (some ⟨sb,0,none⟩))/\(D 1=true->x18=.pointer (some ⟨b2,4,none⟩))/\(D 2=true->x19=.slice (some ⟨bb,bo,none⟩) c0.body.length bcap)/\(D 3=true->x20=.pointer (some ⟨bb,bo+0 * 4,none⟩))/\(D 4=true->x21=.agg (cellsAt bc (bo+0 * 4) 4).toArray)/\(D 5=true->x22=.pointer (some ⟨b3,0,none⟩))/\(D 6=true->x23=.agg #[.int .i64 d0.head.kind,.int .i64 d0.head.n,.string d0.head.name,kd0])/\(D 7=true->x24=Value.func (.func gT) #[] #[])/\(D 8=true->True)/\(D 9=true->x26=.bool r)/\(D 10=true->x27=.bool (!r))/\∃ SN cs8,Ext w.heap.size [] S SN/\(D 8=true->x25=.agg (List.toArray cs8)/\RdT SN cs8 (dx 26 d0.head))/\(D 9=true->D 8=true)/\(D 9=false->Inv w [] ([.blk b2 (.cells #[.int .i64 c0.head.kind,.int .i64 c0.head.n,.string c0.head.name,kc0,.slice (some ⟨bb,bo,none⟩) c0.body.length bcap] af),.blk b3 (.cells #[.int .i64 d0.head.kind,.int .i64 d0.head.n,.string d0.head.name,kd0,.slice da d0.body.length dcap] af),.blk b4 (.cells #[.int .i64 0,.int .i64 0,.string ⟨#[]⟩,.slice none 0 0,.slice none 0 0] af)]++aR sb mb #[] 0 (.slice none 0 0) []) SN w_)/\(D 9=true->∃ es ck tv tr,KnownM SN es st/\Inv w [] ([.blk b2 (.cells #[.int .i64 c0.head.kind,.int .i64 c0.head.n,.string c0.head.name,kc0,.slice (some ⟨bb,bo,none⟩) c0.body.length bcap] af),.blk b3 (.cells #[.int .i64 d0.head.kind,.int .i64 d0.head.n,.string d0.head.name,kd0,.slice da d0.body.length dcap] af),.blk b4 (.cells #[.int .i64 0,.int .i64 0,.string ⟨#[]⟩,.slice none 0 0,.slice none 0 0] af)]++aR sb mb es ck tv tr) SN w_)/\∃ es3 ck3 tv3 tr3,Inv w [] ([.blk b2 (.cells #[.int .i64 c0.head.kind,.int .i64 c0.head.n,.string c0.head.name,kc0,.slice (some ⟨bb,bo,none⟩) c0.body.length bcap] af),.blk b3 (.cells #[.int .i64 d0.head.kind,.int .i64 d0.head.n,.string d0.head.name,kd0,.slice da d0.body.length dcap] af),.blk b4 (.cells #[.int .i64 0,.int .i64 0,.string ⟨#[]⟩,.slice none 0 0,.slice none 0 0] af)]++aR sb mb es3 ck3 tv3 tr3) SN w_,⟨fun h=>Bool.noConfusion h,fun h=>Bool.noConfusion h,fun h=>Bool.noConfusion h,fun h=>Bool.noConfusion h,fun h=>Bool.noConfusion h,fun h=>Bool.noConfusion h,fun h=>Bool.noConfusion h,fun h=>Bool.noConfusion h,fun h=>Bool.noConfusion h,fun h=>Bool.noConfusion h,fun h=>Bool.noConfusion h,⟨S,[],Ext.refl _ _ _,fun h=>Bool.noConfusion h,fun h=>Bool.noConfusion h,fun _=>hI.draw,fun h=>Bool.noConfusion h,_,_,_,_,hI.draw⟩⟩,⟨?_,?_,?_,?_,?_,?_,?_,?_,?_,?_,?_,trivial⟩,?_⟩
 ·intro D hD_  x27 x26 x25 x24 x23 x22 x21 x20 x19 x18 x17 w_
  rintro ⟨h0_,h1_,h2_,h3_,h4_,h5_,h6_,h7_,h8_,h9_,h10_,⟨SN,cs8,hN,e8,k98,hI0,hI1,es3,ck3,tv3,tr3,hI⟩⟩
  exact ⟨fun _=>rfl,h1_,h2_,h3_,h4_,h5_,h6_,h7_,h8_,h9_,h10_,⟨SN,cs8,hN,e8,k98,hI0,hI1,es3,ck3,tv3,tr3,hI⟩⟩
 ·intro D hD_  x27 x26 x25 x24 x23 x22 x21 x20 x19 x18 x17 w_
  rintro ⟨h0_,h1_,h2_,h3_,h4_,h5_,h6_,h7_,h8_,h9_,h10_,⟨SN,cs8,hN,e8,k98,hI0,hI1,es3,ck3,tv3,tr3,hI⟩⟩
  refine r_field ax ?_
  exact ⟨h0_,fun _=>rfl,h2_,h3_,h4_,h5_,h6_,h7_,h8_,h9_,h10_,⟨SN,cs8,hN,e8,k98,hI0,hI1,es3,ck3,tv3,tr3,hI⟩⟩
 ·intro D hD_ d1_0 x27 x26 x25 x24 x23 x22 x21 x20 x19 x18 x17 w_
  rintro ⟨h0_,h1_,h2_,h3_,h4_,h5_,h6_,h7_,h8_,h9_,h10_,⟨SN,cs8,hN,e8,k98,hI0,hI1,es3,ck3,tv3,tr3,hI⟩⟩
  obtain rfl:=h1_ d1_0
  refine r_loadL hI 0 al rfl rfl ?_
  exact ⟨h0_,h1_,fun _=>rfl,h3_,h4_,h5_,h6_,h7_,h8_,h9_,h10_,⟨SN,cs8,hN,e8,k98,hI0,hI1,es3,ck3,tv3,tr3,hI⟩⟩
 ·intro D hD_ d2_0 x27 x26 x25 x24 x23 x22 x21 x20 x19 x18 x17 w_
  rintro ⟨h0_,h1_,h2_,h3_,h4_,h5_,h6_,h7_,h8_,h9_,h10_,⟨SN,cs8,hN,e8,k98,hI0,hI1,es3,ck3,tv3,tr3,hI⟩⟩
  obtain rfl:=h2_ d2_0
  refine r_indexAddr (i:=0) aj hb0 ?_
  exact ⟨h0_,h1_,h2_,fun _=>rfl,h4_,h5_,h6_,h7_,h8_,h9_,h10_,⟨SN,cs8,hN,e8,k98,hI0,hI1,es3,ck3,tv3,tr3,hI⟩⟩
 ·intro D hD_ d3_0 x27 x26 x25 x24 x23 x22 x21 x20 x19 x18 x17 w_
  rintro ⟨h0_,h1_,h2_,h3_,h4_,h5_,h6_,h7_,h8_,h9_,h10_,⟨SN,cs8,hN,e8,k98,hI0,hI1,es3,ck3,tv3,tr3,hI⟩⟩
  obtain rfl:=h3_ d3_0
  refine r_loadA ag hbR.length (fun j v hj=>by rw [hI.cellS (hN.1 _ _ hbS)]; exact cellsAt_get rfl j v hj) ?_
  exact ⟨h0_,h1_,h2_,h3_,fun _=>rfl,h5_,h6_,h7_,h8_,h9_,h10_,⟨SN,cs8,hN,e8,k98,hI0,hI1,es3,ck3,tv3,tr3,hI⟩⟩
 ·intro D hD_  x27 x26 x25 x24 x23 x22 x21 x20 x19 x18 x17 w_
  rintro ⟨h0_,h1_,h2_,h3_,h4_,h5_,h6_,h7_,h8_,h9_,h10_,⟨SN,cs8,hN,e8,k98,hI0,hI1,es3,ck3,tv3,tr3,hI⟩⟩
  refine r_field aP ?_
  exact ⟨h0_,h1_,h2_,h3_,h4_,fun _=>rfl,h6_,h7_,h8_,h9_,h10_,⟨SN,cs8,hN,e8,k98,hI0,hI1,es3,ck3,tv3,tr3,hI⟩⟩
 ·intro D hD_ d5_0 x27 x26 x25 x24 x23 x22 x21 x20 x19 x18 x17 w_
  rintro ⟨h0_,h1_,h2_,h3_,h4_,h5_,h6_,h7_,h8_,h9_,h10_,⟨SN,cs8,hN,e8,k98,hI0,hI1,es3,ck3,tv3,tr3,hI⟩⟩
  obtain rfl:=h5_ d5_0
  refine r_loadLA hI 1 [.int .i64 d0.head.kind,.int .i64 d0.head.n,.string d0.head.name,kd0] ag rfl rfl yR ?_
  exact ⟨h0_,h1_,h2_,h3_,h4_,h5_,fun _=>rfl,h7_,h8_,h9_,h10_,⟨SN,cs8,hN,e8,k98,hI0,hI1,es3,ck3,tv3,tr3,hI⟩⟩
 ·intro D hD_  x27 x26 x25 x24 x23 x22 x21 x20 x19 x18 x17 w_
  rintro ⟨h0_,h1_,h2_,h3_,h4_,h5_,h6_,h7_,h8_,h9_,h10_,⟨SN,cs8,hN,e8,k98,hI0,hI1,es3,ck3,tv3,tr3,hI⟩⟩
  exact ⟨h0_,h1_,h2_,h3_,h4_,h5_,h6_,fun _=>rfl,h8_,h9_,h10_,⟨SN,cs8,hN,e8,k98,hI0,hI1,es3,ck3,tv3,tr3,hI⟩⟩
 ·intro D hD_ d6_0 d7_1 x27 x26 x25 x24 x23 x22 x21 x20 x19 x18 x17 w_
  rintro ⟨h0_,h1_,h2_,h3_,h4_,h5_,h6_,h7_,h8_,h9_,h10_,⟨SN,cs8,hN,e8,k98,hI0,hI1,es3,ck3,tv3,tr3,hI⟩⟩
  obtain rfl:=h6_ d6_0
  obtain rfl:=h7_ d7_1
  have f9:D 9=false:=Bool.eq_false_iff.2 fun h=>by rw [k98 h] at hD_; cases hD_
  have hI:=hI0 f9
  refine Run.call0E de cU hI (sf [] zT gc gt _ SN _ (k1'.mono hN.1) (wy _ d1) hwdh (hZ SN)) fun v' I' SN w_=>?_
  rintro ⟨rfl,cs8,rfl,hR8⟩ hE8 hI
  rw [lW _ d1] at hR8
  have hN:=hN.trans hE8
  have hI:Inv w [] ([.blk b2 (.cells #[.int .i64 c0.head.kind,.int .i64 c0.head.n,.string c0.head.name,kc0,.slice (some ⟨bb,bo,none⟩) c0.body.length bcap] af),.blk b3 (.cells #[.int .i64 d0.head.kind,.int .i64 d0.head.n,.string d0.head.name,kd0,.slice da d0.body.length dcap] af),.blk b4 (.cells #[.int .i64 0,.int .i64 0,.string ⟨#[]⟩,.slice none 0 0,.slice none 0 0] af)]++aR sb mb #[] 0 (.slice none 0 0) []) SN w_:=by simpa using hI
  have e8:=fun (_:setD D 8 8=true)=>(⟨rfl,hR8⟩:Value.agg (List.toArray cs8)=Value.agg (List.toArray cs8)/\RdT SN cs8 (dx 26 d0.head))
  have k98:=fun (_:setD D 8 9=true)=>(rfl:setD D 8 8=true)
  have hI0:=fun (_:setD D 8 9=false)=>hI
  have hI1:=fun (h:setD D 8 9=true)=>(Bool.noConfusion (f9.symm.trans h):∃ es ck tv tr,KnownM SN es st/\Inv w [] ([.blk b2 (.cells #[.int .i64 c0.head.kind,.int .i64 c0.head.n,.string c0.head.name,kc0,.slice (some ⟨bb,bo,none⟩) c0.body.length bcap] af),.blk b3 (.cells #[.int .i64 d0.head.kind,.int .i64 d0.head.n,.string d0.head.name,kd0,.slice da d0.body.length dcap] af),.blk b4 (.cells #[.int .i64 0,.int .i64 0,.string ⟨#[]⟩,.slice none 0 0,.slice none 0 0] af)]++aR sb mb es ck tv tr) SN w_)
  obtain ⟨es3,ck3,tv3,tr3,hI⟩:∃ es3 ck3 tv3 tr3,Inv w [] ([.blk b2 (.cells #[.int .i64 c0.head.kind,.int .i64 c0.head.n,.string c0.head.name,kc0,.slice (some ⟨bb,bo,none⟩) c0.body.length bcap] af),.blk b3 (.cells #[.int .i64 d0.head.kind,.int .i64 d0.head.n,.string d0.head.name,kd0,.slice da d0.body.length dcap] af),.blk b4 (.cells #[.int .i64 0,.int .i64 0,.string ⟨#[]⟩,.slice none 0 0,.slice none 0 0] af)]++aR sb mb es3 ck3 tv3 tr3) SN w_:=⟨_,_,_,_,hI⟩
  exact ⟨h0_,h1_,h2_,h3_,h4_,h5_,h6_,h7_,fun _=>by first|assumption|trivial,h9_,h10_,⟨SN,cs8,hN,e8,k98,hI0,hI1,es3,ck3,tv3,tr3,hI⟩⟩
 ·intro D hD_ d0_0 d4_1 d8_2 d8_3 x27 x26 x25 x24 x23 x22 x21 x20 x19 x18 x17 w_
  rintro ⟨h0_,h1_,h2_,h3_,h4_,h5_,h6_,h7_,h8_,h9_,h10_,⟨SN,cs8,hN,e8,k98,hI0,hI1,es3,ck3,tv3,tr3,hI⟩⟩
  obtain rfl:=h0_ d0_0
  obtain rfl:=h4_ d4_1
  have g8_:=h8_ d8_2
  obtain ⟨q8,hR8⟩:=e8 d8_2
  subst q8
  have hcall:=vi (by omega) kz hj0 hu SN _ _ sb mb 0 #[] (.slice none 0 0) [] (hbR.mono hN.1) hR8 (KnownM.none SN 52) (by rw [stU,Ee]; simp)
  refine Run.callE (A:=[_,_,_]) gg fK (hI0 hD_) hcall fun v' I' S' w_=>?_
  rintro ⟨eS,rfl,es2,ck2,tv2,tr2,rfl,hm2,_⟩ _ hI
  rw [eS] at hI
  have k98:=fun (_:setD D 9 9=true)=>d8_2
  have hI0:=fun (h:setD D 9 9=false)=>(Bool.noConfusion h:Inv w [] ([.blk b2 (.cells #[.int .i64 c0.head.kind,.int .i64 c0.head.n,.string c0.head.name,kc0,.slice (some ⟨bb,bo,none⟩) c0.body.length bcap] af),.blk b3 (.cells #[.int .i64 d0.head.kind,.int .i64 d0.head.n,.string d0.head.name,kd0,.slice da d0.body.length dcap] af),.blk b4 (.cells #[.int .i64 0,.int .i64 0,.string ⟨#[]⟩,.slice none 0 0,.slice none 0 0] af)]++aR sb mb #[] 0 (.slice none 0 0) []) SN w_)
  have hI1:=fun (_:setD D 9 9=true)=>(⟨es2,ck2,tv2,tr2,hm2,hI⟩:∃ es ck tv tr,KnownM SN es st/\Inv w [] ([.blk b2 (.cells #[.int .i64 c0.head.kind,.int .i64 c0.head.n,.string c0.head.name,kc0,.slice (some ⟨bb,bo,none⟩) c0.body.length bcap] af),.blk b3 (.cells #[.int .i64 d0.head.kind,.int .i64 d0.head.n,.string d0.head.name,kd0,.slice da d0.body.length dcap] af),.blk b4 (.cells #[.int .i64 0,.int .i64 0,.string ⟨#[]⟩,.slice none 0 0,.slice none 0 0] af)]++aR sb mb es ck tv tr) SN w_)
  obtain ⟨es3,ck3,tv3,tr3,hI⟩:∃ es3 ck3 tv3 tr3,Inv w [] ([.blk b2 (.cells #[.int .i64 c0.head.kind,.int .i64 c0.head.n,.string c0.head.name,kc0,.slice (some ⟨bb,bo,none⟩) c0.body.length bcap] af),.blk b3 (.cells #[.int .i64 d0.head.kind,.int .i64 d0.head.n,.string d0.head.name,kd0,.slice da d0.body.length dcap] af),.blk b4 (.cells #[.int .i64 0,.int .i64 0,.string ⟨#[]⟩,.slice none 0 0,.slice none 0 0] af)]++aR sb mb es3 ck3 tv3 tr3) SN w_:=⟨_,_,_,_,hI⟩
  exact ⟨h0_,h1_,h2_,h3_,h4_,h5_,h6_,h7_,h8_,fun _=>rfl,h10_,⟨SN,cs8,hN,e8,k98,hI0,hI1,es3,ck3,tv3,tr3,hI⟩⟩
 ·intro D hD_ d9_0 x27 x26 x25 x24 x23 x22 x21 x20 x19 x18 x17 w_
  rintro ⟨h0_,h1_,h2_,h3_,h4_,h5_,h6_,h7_,h8_,h9_,h10_,⟨SN,cs8,hN,e8,k98,hI0,hI1,es3,ck3,tv3,tr3,hI⟩⟩
  obtain rfl:=h9_ d9_0
  refine r_not ?_
  exact ⟨h0_,h1_,h2_,h3_,h4_,h5_,h6_,h7_,h8_,h9_,fun _=>rfl,⟨SN,cs8,hN,e8,k98,hI0,hI1,es3,ck3,tv3,tr3,hI⟩⟩
 intro D d10_ d9_ d8_ d7_ d6_ d5_ d4_ d3_ d2_ d1_ d0_ x27 x26 x25 x24 x23 x22 x21 x20 x19 x18 x17 w_
 rintro ⟨h0_,h1_,h2_,h3_,h4_,h5_,h6_,h7_,h8_,h9_,h10_,⟨SN,cs8,hN,e8,k98,hI0,hI1,es3,ck3,tv3,tr3,hI⟩⟩
 obtain rfl:=h10_ d10_
 obtain rfl:=h9_ d9_
 have g8_:=h8_ d8_
 obtain rfl:=h7_ d7_
 obtain rfl:=h6_ d6_
 obtain rfl:=h5_ d5_
 obtain rfl:=h4_ d4_
 obtain rfl:=h3_ d3_
 obtain rfl:=h2_ d2_
 obtain rfl:=h1_ d1_
 obtain rfl:=h0_ d0_
 clear h0_ h1_ h2_ h3_ h4_ h5_ h6_ h7_ h8_ h9_ h10_
 obtain ⟨es,ck,tv,tr,hkm,hI⟩:=hI1 d9_
 clear hI0 hI1 e8 k98
 have hzo:∀ x∈([.int .i64 0,.int .i64 0,.string ⟨#[]⟩,.slice none 0 0,.slice none 0 0]:List Value),x.oneCell'=true:=BW
 refine condV (fun hbr=>?_) (fun hbr=>?_)
 ·have hr:r=false:=by simpa using hbr
  have hoN:o=none:=by
   rcases hcase with ⟨_,h⟩|⟨h,_⟩
   ·exact h
   ·rw [hr] at h; cases h
  subst hoN
  refine jS ?_
  refine ao hI 2 rfl av rfl rfl hzo fun w' hI=>?_
  refine loadV_W hI 2 av rfl rfl ?_
  exact ⟨_,_,_,rfl,hI.nil,hN,[.int .i64 0,.int .i64 0,.string ⟨#[]⟩,.slice none 0 0,.slice none 0 0],[],rfl,rfl,TrC.zero⟩
 have hr:r=true:=by simpa using hbr
 obtain ⟨us,hus,hsm⟩:∃ us,Res st (.list (eQ c0 d0) us)/\((us.all cF=false/\o=some none) ∨ (us.all cF=true/\o=some (some (yv (aS (ofL us)) (ofL us))))):=by
  rcases hcase with ⟨h,_⟩|⟨_,h⟩
  ·rw [hr] at h; cases h
  ·exact h
 clear hcase
 have hI:Inv w [] (([.blk b2 (.cells #[.int .i64 c0.head.kind,.int .i64 c0.head.n,.string c0.head.name,kc0,.slice (some ⟨bb,bo,none⟩) c0.body.length bcap] af),.blk b3 (.cells #[.int .i64 d0.head.kind,.int .i64 d0.head.n,.string d0.head.name,kd0,.slice da d0.body.length dcap] af),.blk b4 (.cells #[.int .i64 0,.int .i64 0,.string ⟨#[]⟩,.slice none 0 0,.slice none 0 0] af)]++[bv tv tr])++az [(sb,.cells #[.map (some mb),tv] bk),(mb,.map es ck)]) SN w_:=hI.perm (List.Perm.cons _ (List.Perm.cons _ (List.Perm.cons _ (List.perm_append_comm (l₁:=[bv tv tr]) (l₂:=az [(sb,.cells #[.map (some mb),tv] bk),(mb,.map es ck)])))))
 obtain ⟨S1,hI,hE1,hins1⟩:=Inv.pubExt hI
 have hst1:StS S1 S1 sb st:=⟨mb,tv,es,ck,bk,hins1 _ (List.mem_cons_self ..),hins1 _ (List.mem_cons_of_mem _ (List.mem_cons_self ..)),hkm.up hE1.1⟩
 have hE:=hN.trans hE1
 have hI:Inv w [] [.blk b2 (.cells #[.int .i64 c0.head.kind,.int .i64 c0.head.n,.string c0.head.name,kc0,.slice (some ⟨bb,bo,none⟩) c0.body.length bcap] af),.blk b3 (.cells #[.int .i64 d0.head.kind,.int .i64 d0.head.n,.string d0.head.name,kd0,.slice da d0.body.length dcap] af),.blk b4 (.cells #[.int .i64 0,.int .i64 0,.string ⟨#[]⟩,.slice none 0 0,.slice none 0 0] af)] S1 w_:=hI.pick [true,true,true,false]
 refine r_field aP ?_
 refine r_loadLA hI 0 [.int .i64 c0.head.kind,.int .i64 c0.head.n,.string c0.head.name,kc0] ag rfl rfl yR ?_
 refine r_slice1 hI aJ (by simp [Value.cells]) (by omega) (by omega) fun b31 w' hI=>?_
 have hI:=Inv.closeRow (A:=[_,_,_]) (cap:=1) (k:=4) (n:=1) hI (by omega) (by simp [maxLen]) (by simp [Value.cells])
 have h1S:=h1'.mono hE.1
 have hR0:Rows 4 (RdT S1) [[.int .i64 c0.head.kind,.int .i64 c0.head.n,.string c0.head.name,kc0]] (c0.head::bZ 26 (d0.body.take 0)):=Rows.one h1S h1S.length
 refine r_fieldL hI 1 rfl ax al rfl ?_
 refine r_lenSl (k2.monoT hE.1) aj ?_
 refine ⟨fun i t w'=>∃ (j:Nat) (css:List (List Value)) (S':Store),j<=d0.body.length/\i=.int .i64 j/\Ext w.heap.size [] S1 S'/\Rows 4 (RdT S') css (c0.head::bZ 26 (d0.body.take j))/\Inv w [] [.blk b2 (.cells #[.int .i64 c0.head.kind,.int .i64 c0.head.n,.string c0.head.name,kc0,.slice (some ⟨bb,bo,none⟩) c0.body.length bcap] af),.blk b3 (.cells #[.int .i64 d0.head.kind,.int .i64 d0.head.n,.string d0.head.name,kd0,.slice da d0.body.length dcap] af),.blk b4 (.cells #[.int .i64 0,.int .i64 0,.string ⟨#[]⟩,.slice none 0 0,.slice none 0 0] af),au t ab 4 css] S' w',
  fun i _ _=>d0.body.length - (intOf i).toNat,⟨0,_,S1,Nat.zero_le _,rfl,Ext.refl _ _ _,hR0,hI⟩,?_⟩
 intro t35 _ t9 _ _ _ _ _ _ _ _ _ _ w'
 rintro ⟨j,css,S2,hj,rfl,hE2,hR,hI⟩
 have hclr:=hR.hc
 rw [List.length_cons,cN,List.length_map,List.length_take] at hclr
 refine r_lss ?_
 refine condP (fun hji=>?_) (fun hji=>?_)
 ·have hj':j<d0.body.length:=by omega
  have hm:=List.getElem_mem hj'
  have hwm:=kJ hm
  refine r_elem hI (k2.monoT (hE.1.trans hE2.1)) aj ag hj' (fun _ _=>RdT.length) fun cs1 hcs1=>?_
  have hlc1:=hcs1.length
  refine r_alloc hI aE fun b11 w' hI=>?_
  have hI:=hI.perm (M:=.blk b11 _::[.blk b2 (.cells #[.int .i64 c0.head.kind,.int .i64 c0.head.n,.string c0.head.name,kc0,.slice (some ⟨bb,bo,none⟩) c0.body.length bcap] af),.blk b3 (.cells #[.int .i64 d0.head.kind,.int .i64 d0.head.n,.string d0.head.name,kd0,.slice da d0.body.length dcap] af),.blk b4 (.cells #[.int .i64 0,.int .i64 0,.string ⟨#[]⟩,.slice none 0 0,.slice none 0 0] af),au t9 ab 4 css]) (List.perm_append_comm (l₁:=[_]))
  refine ao hI 0 rfl ag (by simpa using hlc1) rfl (by simpa using hcs1.one) fun w' hI=>?_
  refine r_loadW hI 0 ag rfl (by simpa using hlc1) ?_
  refine Run.call0E de cU hI (sf [] zT gc gt _ S2 _ hcs1 (wy _ (d2 _ hm)) (by unfold wC at hwd; omega) (hZ S2)) fun v' I' S3 w'=>?_
  rintro ⟨rfl,cs2,rfl,hR2⟩ hE3 hI
  rw [lW _ (d2 _ hm)] at hR2
  have hI:Inv w [] (.blk b11 (.cells cs1.toArray ab)::[.blk b2 (.cells #[.int .i64 c0.head.kind,.int .i64 c0.head.n,.string c0.head.name,kc0,.slice (some ⟨bb,bo,none⟩) c0.body.length bcap] af),.blk b3 (.cells #[.int .i64 d0.head.kind,.int .i64 d0.head.n,.string d0.head.name,kd0,.slice da d0.body.length dcap] af),.blk b4 (.cells #[.int .i64 0,.int .i64 0,.string ⟨#[]⟩,.slice none 0 0,.slice none 0 0] af),au t9 ab 4 css]) S3 w':=by simpa using hI
  refine bx hI 4 cs2 aJ (by omega) (by omega) rfl hR2.length hR2.one (by omega) (by omega) fun t44 w' hI=>?_
  have hI:Inv w [] [.blk b2 (.cells #[.int .i64 c0.head.kind,.int .i64 c0.head.n,.string c0.head.name,kc0,.slice (some ⟨bb,bo,none⟩) c0.body.length bcap] af),.blk b3 (.cells #[.int .i64 d0.head.kind,.int .i64 d0.head.n,.string d0.head.name,kd0,.slice da d0.body.length dcap] af),.blk b4 (.cells #[.int .i64 0,.int .i64 0,.string ⟨#[]⟩,.slice none 0 0,.slice none 0 0] af),au t44 ab 4 (css++[cs2])] S3 w':=hI.sub (List.sublist_cons_self _ _)
  refine r_add (by omega) ?_
  refine ⟨⟨j+1,css++[cs2],S3,hj',rfl,hE2.trans hE3,?_,hI⟩,by simp [intOf]; omega⟩
  rw [zx 26 d0.body j hj',<- List.cons_append]
  exact (hR.monoR fun _ _ h=>RdT.mono hE3.1 h).snoc hR2 hR2.length
 have hjd:j=d0.body.length:=by omega
 subst hjd
 rw [List.take_length] at hR
 have hEa:=hE.trans hE2
 refine r_fieldL hI 0 rfl ax al rfl ?_
 refine dF (l:=1) aj (h2.monoT hEa.1) (by omega) fun v49 hv49=>?_
 refine mh hI 3 aJ (by omega) rfl hv49 (fun _ _=>RdT.length) (fun _ _=>RdT.one) (by rw [eQ,List.length_cons,List.length_append,cN,List.length_map] at hrl; omega) (by omega) fun v50 w' css2 hR2 hI=>?_
 have hR:=hR.append hR2
 have hR:Rows 4 (RdT S2) (css++css2) (eQ c0 d0):=hR
 obtain ⟨hlu,hlen⟩:=BA hg hus hrok
 have hlen':us.length=(eQ c0 d0).length:=hlen
 have hne:0<(eQ c0 d0).length:=by rw [eQ]; simp
 have hwxs:∀ x∈eQ c0 d0,wT x<=1048576:=by
  intro x hx
  rw [eQ] at hx
  unfold wC at hwc hwd
  rcases List.mem_cons.1 hx with rfl|hx
  ·omega
  ·rcases List.mem_append.1 hx with hx|hx
   ·have:=kJ hx
    rw [sx] at this
    omega
   ·have:=kJ (List.mem_of_mem_drop hx)
    omega
 generalize eQ c0 d0=xs at hus hrl hrok hR hlen' hne hwxs
 clear hlen
 have hcl:=hR.hc
 have hI:Inv w [] ([.blk b2 (.cells #[.int .i64 c0.head.kind,.int .i64 c0.head.n,.string c0.head.name,kc0,.slice (some ⟨bb,bo,none⟩) c0.body.length bcap] af),.blk b3 (.cells #[.int .i64 d0.head.kind,.int .i64 d0.head.n,.string d0.head.name,kd0,.slice da d0.body.length dcap] af),.blk b4 (.cells #[.int .i64 0,.int .i64 0,.string ⟨#[]⟩,.slice none 0 0,.slice none 0 0] af)]++[au v50 ab 4 (css++css2)]) S2 w':=hI
 obtain ⟨hfl,hopen⟩:=hI.openRow
 rcases hopen with ⟨_,hn0⟩|⟨g,cap,cur,rfl,hncap,hcapm,hcurs,htake,hI⟩
 ·omega
 have hcell:∀ i (h:i<xs.length),RdT S2 (cellsAt cur (i * 4) 4) xs[i]:=by
  intro i hi
  have h1:=ez 4 (css++css2) i hR.hk (by omega)
  have hik:i * 4+4<=(css++css2).length * 4:=by omega
  rw [<- htake,List.drop_take,List.take_take,Nat.min_eq_left (by omega)] at h1
  rw [cellsAt,h1]
  exact hR.hR i hi (by omega)
 rw [hcl] at hncap
 rw [hcl]
 refine r_len aj ?_
 refine ⟨fun i w'=>∃ (j:Nat) (c':Array Value) (S':Store),j<=us.length/\i=.int .i64 j/\Ext w.heap.size [] S2 S'/\c'.size=cap * 4/\(∀ k (_:k<us.length),k<j->cF us[k]=true)/\(∀ k (_:k<us.length),k<j->RdT S' (cellsAt c' (k * 4) 4) us[k])/\(∀ k (_:k<xs.length),j<=k->RdT S' (cellsAt c' (k * 4) 4) xs[k])/\Inv w [] [.blk b2 (.cells #[.int .i64 c0.head.kind,.int .i64 c0.head.n,.string c0.head.name,kc0,.slice (some ⟨bb,bo,none⟩) c0.body.length bcap] af),.blk b3 (.cells #[.int .i64 d0.head.kind,.int .i64 d0.head.n,.string d0.head.name,kd0,.slice da d0.body.length dcap] af),.blk b4 (.cells #[.int .i64 0,.int .i64 0,.string ⟨#[]⟩,.slice none 0 0,.slice none 0 0] af),.blk g (.cells c' ab)] S' w',
  fun i _=>us.length - (intOf i).toNat,⟨0,cur,S2,Nat.zero_le _,rfl,Ext.refl _ _ _,hcurs,fun k _ h=>by omega,fun k _ h=>by omega,fun k hk _=>hcell k hk,hI⟩,?_⟩
 intro t53 _ _ _ _ _ t6 t5 _ _ _ _ _ _ _ _ _ _ _ _ _ _ _ _ _ w'
 rintro ⟨j,c',S3,hj,rfl,hE3,hcs',hdone,hA,hB,hI⟩
 refine r_lss ?_
 refine condP (fun hji=>?_) (fun hji=>?_)
 ·have hj2:j<xs.length:=by omega
  have hj1:j<us.length:=by omega
  have hm2:=List.getElem_mem hj2
  have hRj:=hB j hj2 (Nat.le_refl _)
  refine r_indexAddr aj (by omega) ?_
  rw [Nat.zero_add]
  refine r_loadLA hI 3 (cellsAt c' (j * 4) 4) ag rfl hRj.length (fun i v hi=>cellsAt_get rfl i v hi) ?_
  have hlj:=hRj.length
  refine r_alloc hI aE fun b13 w' hI=>?_
  have hI:=hI.perm (M:=.blk b13 _::[.blk b2 (.cells #[.int .i64 c0.head.kind,.int .i64 c0.head.n,.string c0.head.name,kc0,.slice (some ⟨bb,bo,none⟩) c0.body.length bcap] af),.blk b3 (.cells #[.int .i64 d0.head.kind,.int .i64 d0.head.n,.string d0.head.name,kd0,.slice da d0.body.length dcap] af),.blk b4 (.cells #[.int .i64 0,.int .i64 0,.string ⟨#[]⟩,.slice none 0 0,.slice none 0 0] af),.blk g (.cells c' ab)]) (List.perm_append_comm (l₁:=[_]))
  refine ao hI 0 rfl ag (by simpa using hlj) rfl (by simpa using hRj.one) fun w' hI=>?_
  refine r_loadW hI 0 ag rfl (by simpa using hlj) ?_
  refine Run.call0E lR md hI (uZ hg (Dy hus j hj2 hj1) ⟨jc hrok _ hm2,hwxs _ hm2⟩ hRj ((hst1.up hE2.1).up hE3.1)) fun v' I' S4 w'=>?_
  rintro ⟨rfl,cs4,hl4,ho4,rfl,hrd4⟩ hE4 hI
  refine r_extract rfl ?_
  refine r_extract rfl ?_
  rw [List.append_nil] at hI
  refine r_alloc hI aE fun b14 w' hI=>?_
  have hI:=hI.perm (M:=.blk b14 _::.blk b13 (.cells (cellsAt c' (j * 4) 4).toArray ab)::[.blk b2 (.cells #[.int .i64 c0.head.kind,.int .i64 c0.head.n,.string c0.head.name,kc0,.slice (some ⟨bb,bo,none⟩) c0.body.length bcap] af),.blk b3 (.cells #[.int .i64 d0.head.kind,.int .i64 d0.head.n,.string d0.head.name,kd0,.slice da d0.body.length dcap] af),.blk b4 (.cells #[.int .i64 0,.int .i64 0,.string ⟨#[]⟩,.slice none 0 0,.slice none 0 0] af),.blk g (.cells c' ab)]) (List.perm_append_comm (l₁:=[_]))
  refine ao hI 0 rfl ag (by simpa using hl4) rfl (by simpa using ho4) fun w' hI=>?_
  have hI:Inv w [] (.blk b14 (.cells cs4.toArray ab)::.blk b13 (.cells (cellsAt c' (j * 4) 4).toArray ab)::[.blk b2 (.cells #[.int .i64 c0.head.kind,.int .i64 c0.head.n,.string c0.head.name,kc0,.slice (some ⟨bb,bo,none⟩) c0.body.length bcap] af),.blk b3 (.cells #[.int .i64 d0.head.kind,.int .i64 d0.head.n,.string d0.head.name,kd0,.slice da d0.body.length dcap] af),.blk b4 (.cells #[.int .i64 0,.int .i64 0,.string ⟨#[]⟩,.slice none 0 0,.slice none 0 0] af),.blk g (.cells c' ab)]) S4 w':=hI
  refine r_not ?_
  refine condV (fun hsb=>?_) (fun hsb=>?_)
  ·have hsf:cF us[j]=false:=by simpa using hsb
   have hoS:o=some none:=by
    rcases hsm with ⟨_,h⟩|⟨h,_⟩
    ·exact h
    ·rw [List.all_eq_true] at h
     rw [h _ (List.getElem_mem hj1)] at hsf
     cases hsf
   subst hoS
   refine jS ?_
   refine ao hI 4 rfl av rfl rfl hzo fun w' hI=>?_
   refine loadV_W hI 4 av rfl rfl ?_
   exact ⟨_,_,_,rfl,hI.nil,(hEa.trans hE3).trans hE4,[.int .i64 0,.int .i64 0,.string ⟨#[]⟩,.slice none 0 0,.slice none 0 0],[],rfl,rfl,TrC.zero⟩
  ·have hstt:cF us[j]=true:=by simpa using hsb
   have hR4:=hrd4 hstt
   refine r_loadW hI 0 ag rfl (by simpa using hl4) ?_
   refine r_indexAddr aj (by omega) ?_
   rw [Nat.zero_add]
   refine zj hI 5 rfl ag (by simpa [Value.cells] using hl4) (Nat.ble_eq_true_of_le (by omega)) (by simpa [Value.cells] using ho4) fun w' hI=>?_
   have hI:Inv w [] [.blk b2 (.cells #[.int .i64 c0.head.kind,.int .i64 c0.head.n,.string c0.head.name,kc0,.slice (some ⟨bb,bo,none⟩) c0.body.length bcap] af),.blk b3 (.cells #[.int .i64 d0.head.kind,.int .i64 d0.head.n,.string d0.head.name,kd0,.slice da d0.body.length dcap] af),.blk b4 (.cells #[.int .i64 0,.int .i64 0,.string ⟨#[]⟩,.slice none 0 0,.slice none 0 0] af),.blk g (.cells (putCells c' (j * 4) cs4) ab)] S4 w':=hI.pick [false,false,true,true,true,true]
   refine r_add (by omega) ?_
   refine ⟨⟨j+1,putCells c' (j * 4) cs4,S4,hj1,rfl,hE3.trans hE4,by rw [putCells_size _ _ _ (by omega)]; exact hcs',fun k hk hkj=>?_,fun k hk hkj=>?_,fun k hk hkj=>?_,hI⟩,by simp [intOf]; omega⟩
   ·by_cases e:k=j
    ·subst e; exact hstt
    ·exact hdone k hk (by omega)
   ·by_cases e:k=j
    ·subst e
     have:=cellsAt_put_self (c:=c') (o:=k * 4) (vs:=cs4) (by omega)
     rw [hl4] at this
     rw [this]
     exact hR4
    ·rw [cellsAt_put_ne (by omega) (by omega)]
     exact (hA k hk (by omega)).mono hE4.1
   ·rw [cellsAt_put_ne (by omega) (by omega)]
    exact (hB k hk (by omega)).mono hE4.1
 have hje:j=us.length:=by omega
 subst hje
 have hall:us.all cF=true:=by
  rw [List.all_eq_true]
  intro x hx
  obtain ⟨k,hk,rfl⟩:=List.mem_iff_getElem.1 hx
  exact hdone k hk hk
 have hoY:o=some (some (yv (aS (ofL us)) (ofL us))):=by
  rcases hsm with ⟨h,_⟩|⟨_,h⟩
  ·rw [hall] at h; cases h
  ·exact h
 have hwu:=tx hall hlu
 have hI:Inv w [] ([.blk b2 (.cells #[.int .i64 c0.head.kind,.int .i64 c0.head.n,.string c0.head.name,kc0,.slice (some ⟨bb,bo,none⟩) c0.body.length bcap] af),.blk b3 (.cells #[.int .i64 d0.head.kind,.int .i64 d0.head.n,.string d0.head.name,kd0,.slice da d0.body.length dcap] af),.blk b4 (.cells #[.int .i64 0,.int .i64 0,.string ⟨#[]⟩,.slice none 0 0,.slice none 0 0] af)]++[.blk g (.cells c' ab)]) S3 w':=hI
 obtain ⟨S5,hI,hE5,hgS⟩:=hI.pub1
 have hEb:=(hEa.trans hE3).trans hE5
 have hrn:RdSl S5 4 (RdT S5) (.slice (some ⟨g,0,none⟩) xs.length cap) us:=by
  rw [<- hlen']
  exact ⟨_,cap,rfl,by omega,by simpa only [maxLen] using hcapm,.inr ⟨g,0,c',ab,(0,0),rfl,hgS,fun i hi=>by rw [Nat.zero_add]; exact (hA i hi hi).mono hE5.1⟩⟩
 obtain ⟨u0,us',rfl⟩:∃ u0 us',us=u0::us':=by
  cases us with
  | nil=>simp at hlen'; omega
  | cons u us'=>exact ⟨u,us',rfl⟩
 have hlu2:=hlu
 rw [bj] at hlu2
 have hnum:=Ex (c:=ofL (u0::us')) hlu2.1 hlu2.2
 have hwR0:wC (ofL (u0::us'))<=1048576:=by
  rw [wL] at hwu
  simp only [List.length_cons] at hwu hlen'
  show wC ⟨u0,us'⟩<=1048576
  simp only [wC]
  omega
 have hclo:clO o=yv (aS (ofL (u0::us'))) (ofL (u0::us')):=by rw [hoY]; rfl
 have hfo:dX o=true:=by rw [hoY]; rfl
 have hok:pb o=aH (clO o):=by rw [hoY]; rfl
 have hwR:wC (clO o)<=1048576:=by rw [hclo,Eg]; exact hwR0
 obtain ⟨nb,no,ncap,nc,nE,nfz,hveq,hnS,hnR⟩:=hrn.at_ (i:=0) (by simp)
 rw [List.getElem_cons_zero] at hnR
 obtain ⟨kn,ec,f1,f2,f3,f4⟩:=RdT.iff.1 hnR
 rw [ec] at hnR
 obtain ⟨ka,kn1,kn2,hkn⟩:∃ a n m,kn=.slice a n m:=by
  obtain ⟨a,m,e,_⟩:=f4
  exact ⟨_,_,_,e⟩
 rw [hveq] at hrn ⊢
 refine ⟨fun D x78 x77 x76 x75 x74 x73 x72 w_=>(D 0=true->x72=.slice (some ⟨nb,no,none⟩) (us'.length+1) ncap)/\(D 1=true->x73=.pointer (some ⟨nb,no+0 * 4,none⟩))/\(D 2=true->x74=.agg #[.int .i64 u0.kind,.int .i64 u0.n,.string u0.name,kn])/\(D 3=true->x75=.slice (some ⟨nb,no,none⟩) (us'.length+1) ncap)/\(D 4=true->True)/\(D 5=true->True)/\(D 6=true->True)/\(D 7=true->True)/\∃ SN cs6,Ext w.heap.size [] S5 SN/\(D 4=true->RdSl S5 4 (RdT S5) x76 us')/\(D 5=true->∃ kb,x77=.agg #[.int .i64 u0.kind,.int .i64 u0.n,.string u0.name,kn,kb]/\RdSl S5 4 (RdT S5) kb us')/\(D 6=true->x78=.agg (List.toArray cs6)/\RdC SN cs6 (clO o))/\(D 7=true->D 6=true)/\Inv w [] [.blk b2 (.cells #[.int .i64 c0.head.kind,.int .i64 c0.head.n,.string c0.head.name,kc0,.slice (some ⟨bb,bo,none⟩) c0.body.length bcap] af),.blk b3 (.cells #[.int .i64 d0.head.kind,.int .i64 d0.head.n,.string d0.head.name,kd0,.slice da d0.body.length dcap] af),.blk b4 (.cells (cond (D 7) (List.toArray cs6) #[.int .i64 0,.int .i64 0,.string ⟨#[]⟩,.slice none 0 0,.slice none 0 0]) af)] SN w_,⟨fun h=>Bool.noConfusion h,fun h=>Bool.noConfusion h,fun h=>Bool.noConfusion h,fun h=>Bool.noConfusion h,fun h=>Bool.noConfusion h,fun h=>Bool.noConfusion h,fun h=>Bool.noConfusion h,fun h=>Bool.noConfusion h,⟨S5,[],Ext.refl _ _ _,fun h=>Bool.noConfusion h,fun h=>Bool.noConfusion h,fun h=>Bool.noConfusion h,fun h=>Bool.noConfusion h,hI.draw⟩⟩,⟨?_,?_,?_,?_,?_,?_,?_,?_,trivial⟩,?_⟩
 ·intro D hD_  x78 x77 x76 x75 x74 x73 x72 w_
  rintro ⟨h0_,h1_,h2_,h3_,h4_,h5_,h6_,h7_,⟨SN,cs6,hN,e4,e5,e6,k76,hI⟩⟩
  exact ⟨fun _=>rfl,h1_,h2_,h3_,h4_,h5_,h6_,h7_,⟨SN,cs6,hN,e4,e5,e6,k76,hI⟩⟩
 ·intro D hD_ d0_0 x78 x77 x76 x75 x74 x73 x72 w_
  rintro ⟨h0_,h1_,h2_,h3_,h4_,h5_,h6_,h7_,⟨SN,cs6,hN,e4,e5,e6,k76,hI⟩⟩
  obtain rfl:=h0_ d0_0
  refine r_indexAddr (i:=0) aj (by simp) ?_
  exact ⟨h0_,fun _=>rfl,h2_,h3_,h4_,h5_,h6_,h7_,⟨SN,cs6,hN,e4,e5,e6,k76,hI⟩⟩
 ·intro D hD_ d1_0 x78 x77 x76 x75 x74 x73 x72 w_
  rintro ⟨h0_,h1_,h2_,h3_,h4_,h5_,h6_,h7_,⟨SN,cs6,hN,e4,e5,e6,k76,hI⟩⟩
  obtain rfl:=h1_ d1_0
  refine r_loadA (cs:=[.int .i64 u0.kind,.int .i64 u0.n,.string u0.name,kn]) ag rfl (fun j v hj=>by rw [hI.cellS (hN.1 _ _ hnS)]; exact cellsAt_get ec j v hj) ?_
  exact ⟨h0_,h1_,fun _=>rfl,h3_,h4_,h5_,h6_,h7_,⟨SN,cs6,hN,e4,e5,e6,k76,hI⟩⟩
 ·intro D hD_  x78 x77 x76 x75 x74 x73 x72 w_
  rintro ⟨h0_,h1_,h2_,h3_,h4_,h5_,h6_,h7_,⟨SN,cs6,hN,e4,e5,e6,k76,hI⟩⟩
  exact ⟨h0_,h1_,h2_,fun _=>rfl,h4_,h5_,h6_,h7_,⟨SN,cs6,hN,e4,e5,e6,k76,hI⟩⟩
 ·intro D hD_ d3_0 x78 x77 x76 x75 x74 x73 x72 w_
  rintro ⟨h0_,h1_,h2_,h3_,h4_,h5_,h6_,h7_,⟨SN,cs6,hN,e4,e5,e6,k76,hI⟩⟩
  obtain rfl:=h3_ d3_0
  refine dF (l:=1) aj hrn (by simp) fun kb1 hkb=>?_
  rw [List.drop_succ_cons,List.drop_zero] at hkb
  have e4:=fun (_:setD D 4 4=true)=>hkb
  exact ⟨h0_,h1_,h2_,h3_,fun _=>by first|assumption|trivial,h5_,h6_,h7_,⟨SN,cs6,hN,e4,e5,e6,k76,hI⟩⟩
 ·intro D hD_ d2_0 d4_1 x78 x77 x76 x75 x74 x73 x72 w_
  rintro ⟨h0_,h1_,h2_,h3_,h4_,h5_,h6_,h7_,⟨SN,cs6,hN,e4,e5,e6,k76,hI⟩⟩
  obtain rfl:=h2_ d2_0
  have g4_:=h4_ d4_1
  have hq4:=e4 d4_1
  refine fA ?_ ?_
  ·obtain ⟨a,m,e,_⟩:=hq4
   exact ⟨_,_,_,e⟩
  have e5:=fun (_:setD D 5 5=true)=>(⟨_,rfl,hq4⟩:∃ kb,Value.agg #[.int .i64 u0.kind,.int .i64 u0.n,.string u0.name,kn,x76]=.agg #[.int .i64 u0.kind,.int .i64 u0.n,.string u0.name,kn,kb]/\RdSl S5 4 (RdT S5) kb us')
  exact ⟨h0_,h1_,h2_,h3_,h4_,fun _=>by first|assumption|trivial,h6_,h7_,⟨SN,cs6,hN,e4,e5,e6,k76,hI⟩⟩
 ·intro D hD_ d5_0 x78 x77 x76 x75 x74 x73 x72 w_
  rintro ⟨h0_,h1_,h2_,h3_,h4_,h5_,h6_,h7_,⟨SN,cs6,hN,e4,e5,e6,k76,hI⟩⟩
  have g5_:=h5_ d5_0
  obtain ⟨kb1,q5,hkb⟩:=e5 d5_0
  subst q5
  have f7:D 7=false:=Bool.eq_false_iff.2 fun h=>by rw [k76 h] at hD_; cases hD_
  have hRC:RdC SN [.int .i64 u0.kind,.int .i64 u0.n,.string u0.name,kn,kb1] (ofL (u0::us')):=⟨_,_,rfl,hnR.mono hN.1,hkb.monoT hN.1⟩
  refine Run.call0E uG uy hI (yX hRC hnum hwR0) fun v' I' SN w_=>?_
  rw [<- hclo]
  rintro ⟨rfl,cs6,rfl,hR6⟩ hE6 hI
  have hN:=hN.trans hE6
  have e6:=fun (_:setD D 6 6=true)=>(⟨rfl,hR6⟩:Value.agg (List.toArray cs6)=Value.agg (List.toArray cs6)/\RdC SN cs6 (clO o))
  have k76:=fun (_:setD D 6 7=true)=>(rfl:setD D 6 6=true)
  have hI:Inv w [] [.blk b2 (.cells #[.int .i64 c0.head.kind,.int .i64 c0.head.n,.string c0.head.name,kc0,.slice (some ⟨bb,bo,none⟩) c0.body.length bcap] af),.blk b3 (.cells #[.int .i64 d0.head.kind,.int .i64 d0.head.n,.string d0.head.name,kd0,.slice da d0.body.length dcap] af),.blk b4 (.cells (cond (D 7) (List.toArray cs6) #[.int .i64 0,.int .i64 0,.string ⟨#[]⟩,.slice none 0 0,.slice none 0 0]) af)] SN w_:=by rw [f7] at hI ⊢; simpa using hI
  exact ⟨h0_,h1_,h2_,h3_,h4_,h5_,fun _=>by first|assumption|trivial,h7_,⟨SN,cs6,hN,e4,e5,e6,k76,hI⟩⟩
 ·intro D hD_ d6_0 d6_1 d0_2 d1_3 d2_4 d3_5 d4_6 d5_7 d6_8 x78 x77 x76 x75 x74 x73 x72 w_
  rintro ⟨h0_,h1_,h2_,h3_,h4_,h5_,h6_,h7_,⟨SN,cs6,hN,e4,e5,e6,k76,hI⟩⟩
  have g6_:=h6_ d6_0
  obtain ⟨q6,hR6⟩:=e6 d6_0
  subst q6
  rw [hD_] at hI
  refine ao hI 2 rfl av (by simpa using hR6.length) rfl (by simpa using hR6.one) fun w_ hI=>?_
  have k76:=fun (_:setD D 7 7=true)=>d6_0
  exact ⟨h0_,h1_,h2_,h3_,h4_,h5_,h6_,fun _=>trivial,⟨SN,cs6,hN,e4,e5,e6,k76,hI⟩⟩
 intro D d7_ d6_ d5_ d4_ d3_ d2_ d1_ d0_ x78 x77 x76 x75 x74 x73 x72 w_
 rintro ⟨h0_,h1_,h2_,h3_,h4_,h5_,h6_,h7_,⟨SN,cs6,hN,e4,e5,e6,k76,hI⟩⟩
 have g6_:=h6_ d6_
 have g5_:=h5_ d5_
 have g4_:=h4_ d4_
 obtain rfl:=h3_ d3_
 obtain rfl:=h2_ d2_
 obtain rfl:=h1_ d1_
 obtain rfl:=h0_ d0_
 clear h0_ h1_ h2_ h3_ h4_ h5_ h6_ h7_
 obtain ⟨_,hR6⟩:=e6 d6_
 rw [d7_] at hI
 clear e4 e5 e6 k76
 have hEc:=hEb.trans hN
 have hl6:=hR6.length
 have hI:Inv w [] [.blk b2 (.cells #[.int .i64 c0.head.kind,.int .i64 c0.head.n,.string c0.head.name,kc0,.slice (some ⟨bb,bo,none⟩) c0.body.length bcap] af),.blk b3 (.cells #[.int .i64 d0.head.kind,.int .i64 d0.head.n,.string d0.head.name,kd0,.slice da d0.body.length dcap] af),.blk b4 (.cells (List.toArray cs6) af)] SN w_:=hI
 refine ⟨fun D x6 x5 x82 x81 x80 x79 w_=>(D 0=true->x79=.agg (List.toArray cs6))/\(D 1=true->True)/\(D 2=true->x81=.agg (List.toArray cs6))/\(D 3=true->x82=.bool (aH (clO o)))/\(D 4=true->True)/\(D 5=true->x5=.bool true)/\(D 6=true->x6=.bool (aH (clO o)))/\∃ cs1 M,(D 1=true->x80=.agg (List.toArray cs1)/\TrC M cs1 (clO o))/\(D 4=true->D 1=true/\D 2=true/\D 0=true)/\Inv w [] ([.blk b2 (.cells #[.int .i64 c0.head.kind,.int .i64 c0.head.n,.string c0.head.name,kc0,.slice (some ⟨bb,bo,none⟩) c0.body.length bcap] af),.blk b3 (.cells #[.int .i64 d0.head.kind,.int .i64 d0.head.n,.string d0.head.name,kd0,.slice da d0.body.length dcap] af),.blk b4 (.cells (cond (D 4) (List.toArray cs1) (List.toArray cs6)) af)]++cond (D 1) (az M) []) SN w_,⟨fun h=>Bool.noConfusion h,fun h=>Bool.noConfusion h,fun h=>Bool.noConfusion h,fun h=>Bool.noConfusion h,fun h=>Bool.noConfusion h,fun h=>Bool.noConfusion h,fun h=>Bool.noConfusion h,⟨[],[],fun h=>Bool.noConfusion h,fun h=>Bool.noConfusion h,hI.draw⟩⟩,⟨?_,?_,?_,?_,?_,?_,?_,trivial⟩,?_⟩
 ·intro D hD_  x6 x5 x82 x81 x80 x79 w_
  rintro ⟨h0_,h1_,h2_,h3_,h4_,h5_,h6_,⟨cs1,M,e1,k4,hI⟩⟩
  have f4:D 4=false:=Bool.eq_false_iff.2 fun h=>by rw [(k4 h).2.2] at hD_; cases hD_
  refine r_loadW (c:=List.toArray cs6) hI 2 av (by rw [f4]; rfl) (by simpa using hl6) ?_
  have k4:=fun (h:setD D 0 4=true)=>(⟨(k4 h).1,(k4 h).2.1,rfl⟩:setD D 0 1=true/\setD D 0 2=true/\setD D 0 0=true)
  exact ⟨fun _=>rfl,h1_,h2_,h3_,h4_,h5_,h6_,⟨cs1,M,e1,k4,hI⟩⟩
 ·intro D hD_ d0_0 x6 x5 x82 x81 x80 x79 w_
  rintro ⟨h0_,h1_,h2_,h3_,h4_,h5_,h6_,⟨cs1,M,e1,k4,hI⟩⟩
  obtain rfl:=h0_ d0_0
  have f4:D 4=false:=Bool.eq_false_iff.2 fun h=>by rw [(k4 h).1] at hD_; cases hD_
  rw [hD_] at hI
  refine Run.call0 jv iV hI (ii hR6 hwR) fun v' I' S' w_=>?_
  rintro ⟨eS,cs1,M,rfl,rfl,hT⟩ _ hI
  rw [eS] at hI
  have e1:=fun (_:setD D 1 1=true)=>(⟨rfl,hT⟩:Value.agg (List.toArray cs1)=Value.agg (List.toArray cs1)/\TrC M cs1 (clO o))
  have k4:=fun (h:setD D 1 4=true)=>(⟨rfl,(k4 h).2.1,(k4 h).2.2⟩:setD D 1 1=true/\setD D 1 2=true/\setD D 1 0=true)
  have hI:Inv w [] ([.blk b2 (.cells #[.int .i64 c0.head.kind,.int .i64 c0.head.n,.string c0.head.name,kc0,.slice (some ⟨bb,bo,none⟩) c0.body.length bcap] af),.blk b3 (.cells #[.int .i64 d0.head.kind,.int .i64 d0.head.n,.string d0.head.name,kd0,.slice da d0.body.length dcap] af),.blk b4 (.cells (cond (D 4) (List.toArray cs1) (List.toArray cs6)) af)]++cond true (az M) []) SN w_:=by rw [f4] at hI ⊢; simpa using hI
  exact ⟨h0_,fun _=>by first|assumption|trivial,h2_,h3_,h4_,h5_,h6_,⟨cs1,M,e1,k4,hI⟩⟩
 ·intro D hD_  x6 x5 x82 x81 x80 x79 w_
  rintro ⟨h0_,h1_,h2_,h3_,h4_,h5_,h6_,⟨cs1,M,e1,k4,hI⟩⟩
  have f4:D 4=false:=Bool.eq_false_iff.2 fun h=>by rw [(k4 h).2.1] at hD_; cases hD_
  refine r_loadW (c:=List.toArray cs6) hI 2 av (by rw [f4]; rfl) (by simpa using hl6) ?_
  have k4:=fun (h:setD D 2 4=true)=>(⟨(k4 h).1,rfl,(k4 h).2.2⟩:setD D 2 1=true/\setD D 2 2=true/\setD D 2 0=true)
  exact ⟨h0_,h1_,fun _=>rfl,h3_,h4_,h5_,h6_,⟨cs1,M,e1,k4,hI⟩⟩
 ·intro D hD_ d2_0 d1_1 x6 x5 x82 x81 x80 x79 w_
  rintro ⟨h0_,h1_,h2_,h3_,h4_,h5_,h6_,⟨cs1,M,e1,k4,hI⟩⟩
  obtain rfl:=h2_ d2_0
  refine Run.callPure gd fY hI (eT hR6) fun w_ hI=>?_
  exact ⟨h0_,h1_,h2_,fun _=>rfl,h4_,h5_,h6_,⟨cs1,M,e1,k4,hI⟩⟩
 ·intro D hD_ d1_0 d3_1 d0_2 d1_3 d2_4 x6 x5 x82 x81 x80 x79 w_
  rintro ⟨h0_,h1_,h2_,h3_,h4_,h5_,h6_,⟨cs1,M,e1,k4,hI⟩⟩
  have g1_:=h1_ d1_0
  obtain ⟨q1,hT⟩:=e1 d1_0
  subst q1
  rw [hD_] at hI
  refine ao hI 2 rfl av (by simpa using hT.length) (by simpa using hl6) (by simpa using hT.one) fun w_ hI=>?_
  have k4:=fun (_:setD D 4 4=true)=>(⟨d1_0,d2_4,d0_2⟩:setD D 4 1=true/\setD D 4 2=true/\setD D 4 0=true)
  exact ⟨h0_,h1_,h2_,h3_,fun _=>trivial,h5_,h6_,⟨cs1,M,e1,k4,hI⟩⟩
 ·intro D hD_ d4_0 d0_1 d1_2 d2_3 d4_4 x6 x5 x82 x81 x80 x79 w_
  rintro ⟨h0_,h1_,h2_,h3_,h4_,h5_,h6_,⟨cs1,M,e1,k4,hI⟩⟩
  exact ⟨h0_,h1_,h2_,h3_,h4_,fun _=>rfl,h6_,⟨cs1,M,e1,k4,hI⟩⟩
 ·intro D hD_ d3_0 d5_1 d0_2 d1_3 d2_4 d3_5 d4_6 d5_7 x6 x5 x82 x81 x80 x79 w_
  rintro ⟨h0_,h1_,h2_,h3_,h4_,h5_,h6_,⟨cs1,M,e1,k4,hI⟩⟩
  obtain rfl:=h3_ d3_0
  exact ⟨h0_,h1_,h2_,h3_,h4_,h5_,fun _=>rfl,⟨cs1,M,e1,k4,hI⟩⟩
 intro D d6_ d5_ d4_ d3_ d2_ d1_ d0_ x6 x5 x82 x81 x80 x79 w_
 rintro ⟨h0_,h1_,h2_,h3_,h4_,h5_,h6_,⟨cs1,M,e1,k4,hI⟩⟩
 obtain rfl:=h6_ d6_
 obtain rfl:=h5_ d5_
 obtain rfl:=h3_ d3_
 obtain rfl:=h2_ d2_
 have g1_:=h1_ d1_
 obtain rfl:=h0_ d0_
 clear h0_ h1_ h2_ h3_ h4_ h5_ h6_
 obtain ⟨_,hT⟩:=e1 d1_
 rw [d4_,d1_] at hI
 refine loadV_W (c:=List.toArray cs1) hI 2 av rfl (by simpa using hT.length) ?_
 have hI:Inv w [] ([.blk b2 (.cells #[.int .i64 c0.head.kind,.int .i64 c0.head.n,.string c0.head.name,kc0,.slice (some ⟨bb,bo,none⟩) c0.body.length bcap] af),.blk b3 (.cells #[.int .i64 d0.head.kind,.int .i64 d0.head.n,.string d0.head.name,kd0,.slice da d0.body.length dcap] af),.blk b4 (.cells (List.toArray cs1) af)]++az M) SN w_:=hI
 exact ⟨_,_,_,rfl,hI.sub (List.sublist_append_right _ _),hEc,cs1,M,by rw [hfo,hok],rfl,hT⟩
end

end Go.Proofs.YtmnnpgdeecnfpaaGreat

/- Which clauses can be unfolded: both sides. -/
namespace Go.Proofs.YtmnnpgdeecnfpaaGreat
open Go Go.RowKit
attribute [local irreducible] Run CondV GuardV LoadV

def ci (c:C):Bool:=match c.body with
 | []=>false
 | g::_=>cj g
def ic (c:C):Bool:=c.body.any rQ
def eP (p:List C) (n:Int):Bool:=match p[n.toNat]? with
 | some c=>ic c
 | none=>false
def dh (p:List C) (g:T):List Int:=cH (fun c=>kY (bA c.head) (bA g)) p 0
def yd (p:List C) (i:Int) (c:C):Bool:=match c.body with
 | []=>false
 | g::_=>cj g && (decide (0<(dh p g).length) && (!ic c && (dh p g).all fun n=>!(eP p n || decide (n=i))))
def dy (p:List C) (i:Int):Bool:=cR p && (decide (0<=i) && match p[i.toNat]? with
 | none=>false
 | some c=>yd p i c)
theorem dt {c:C} (h:ci c=true):∃ g gs,c.body=g::gs/\cj g=true:=by
 unfold ci at h
 split at h
 ·cases h
 ·exact ⟨_,_,‹_›,h⟩
theorem mc {p:List C} {i:Int} {c:C} (h:ci c=false):yd p i c=false:=by
 unfold ci at h
 unfold yd
 split at h
 ·rfl
 ·simp [h]

theorem pv {c:C} {S:Store} {cs:List Value} (h:RdC S cs c):Pure Tryz.prog xd [.agg cs.toArray] S (.bool (ci c)):=by
 intro w hI
 obtain ⟨hd,ks,rfl,h1,h2⟩:=h
 obtain ⟨kv,rfl,_⟩:=RdT.iff.1 h1
 refine px ?_
 unfold lI
 refine r_box hI fun b1 w' hI=>?_
 refine r_fieldL hI 0 rfl ax al rfl ?_
 refine r_lenSl h2 aj ?_
 refine r_gtr ?_
 cases hb:c.body with
 | nil=>
  rw [show decide ((0:Int)<(([]:List T).length:Int))=false from rfl]
  repeat (first|refine ac ?_|refine ae (by decide) ?_|refine ad ?_|refine ai ?_|refine ah ?_)
  exact done hI (by rw [ci,hb])
 | cons g gs=>
  have hlt:0<c.body.length:=by rw [hb]; simp
  rw [show decide ((0:Int)<((g::gs).length:Int))=true from decide_eq_true (by simp)]
  repeat (first|refine ac ?_|refine ae (by decide) ?_|refine ad ?_|refine ai ?_|refine ah ?_)
  refine r_fieldL hI 0 rfl ax al rfl ?_
  refine r_elem (i:=0) hI h2 aj ag hlt (fun _ _=>RdT.length) fun cs' hcs'=>?_
  refine Run.callPure gM gy hI (fF hcs') fun w' hI=>?_
  repeat (first|refine ac ?_|refine ae (by decide) ?_|refine ad ?_|refine ai ?_|refine ah ?_)
  refine done hI ?_
  rw [ci]
  simp [hb]
theorem mA {c:C} {S:Store} {cs:List Value} (h:RdC S cs c):Pure Tryz.prog tV [.agg cs.toArray] S (.bool (ci c)):=by
 intro w hI
 obtain ⟨hd,ks,rfl,h1,h2⟩:=h
 obtain ⟨kv,rfl,_⟩:=RdT.iff.1 h1
 refine ms ?_
 unfold gQ
 refine r_box hI fun b1 w' hI=>?_
 refine r_fieldL hI 0 rfl ax al rfl ?_
 refine r_lenSl h2 aj ?_
 refine r_gtr ?_
 cases hb:c.body with
 | nil=>
  rw [show decide ((0:Int)<(([]:List T).length:Int))=false from rfl]
  repeat (first|refine ac ?_|refine ae (by decide) ?_|refine ad ?_|refine ai ?_|refine ah ?_)
  exact done hI (by rw [ci,hb])
 | cons g gs=>
  have hlt:0<c.body.length:=by rw [hb]; simp
  rw [show decide ((0:Int)<((g::gs).length:Int))=true from decide_eq_true (by simp)]
  repeat (first|refine ac ?_|refine ae (by decide) ?_|refine ad ?_|refine ai ?_|refine ah ?_)
  refine r_fieldL hI 0 rfl ax al rfl ?_
  refine r_elem (i:=0) hI h2 aj ag hlt (fun _ _=>RdT.length) fun cs' hcs'=>?_
  refine Run.callPure eh ek hI (dB hcs') fun w' hI=>?_
  repeat (first|refine ac ?_|refine ae (by decide) ?_|refine ad ?_|refine ai ?_|refine ah ?_)
  refine done hI ?_
  rw [ci]
  simp [hb]

theorem ln {c:C} {S:Store} {cs:List Value} (h:RdC S cs c):Pure Tryz.prog yu [.agg cs.toArray] S (.bool (ic c)):=by
 intro w hI
 obtain ⟨hd,ks,rfl,h1,h2⟩:=h
 obtain ⟨kv,rfl,_⟩:=RdT.iff.1 h1
 have hlen:=h2.le
 simp only [maxLen] at hlen
 refine rZ ?_
 unfold nQ
 refine r_box hI fun b1 w' hI=>?_
 refine ⟨fun i w'=>∃ j:Nat,j<=c.body.length/\i=.int .i64 j/\(c.body.drop j).any rQ=ic c/\Inv w [] [.blk b1 (.cells #[.int .i64 c.head.kind,.int .i64 c.head.n,.string c.head.name,kv,ks] af)] S w',
  fun i _=>c.body.length - (intOf i).toNat,⟨0,Nat.zero_le _,rfl,rfl,hI⟩,?_⟩
 intro t3 _ _ _ _ _ _ _ _ _ _ _ _ _ _ w'
 rintro ⟨j,hj,rfl,hrel,hI⟩
 refine r_fieldL hI 0 rfl ax al rfl ?_
 refine r_lenSl h2 aj ?_
 refine r_lss ?_
 refine condP (fun hji=>?_) (fun hji=>?_)
 ·have hj':j<c.body.length:=by omega
  have hstep:=uk rQ c.body j hj'
  refine r_fieldL hI 0 rfl ax al rfl ?_
  refine r_elem hI h2 aj ag hj' (fun _ _=>RdT.length) fun cs' hcs'=>?_
  refine Run.callPure tL sr hI (qy hcs') fun w' hI=>?_
  refine condV (fun hb=>done hI ?_) (fun hb=>?_)
  ·rw [<- hrel,hstep,hb]; rfl
  ·refine r_add (by omega) ?_
   exact ⟨⟨j+1,hj',rfl,by rw [<- hrel,hstep,hb]; rfl,hI⟩,by simp [intOf]; omega⟩
 ·have:j=c.body.length:=by omega
  subst this
  exact done hI (by rw [<- hrel,List.drop_length]; rfl)
theorem oz {c:C} {S:Store} {cs:List Value} (h:RdC S cs c):Pure Tryz.prog AH [.agg cs.toArray] S (.bool (ic c)):=by
 intro w hI
 obtain ⟨hd,ks,rfl,h1,h2⟩:=h
 obtain ⟨kv,rfl,_⟩:=RdT.iff.1 h1
 refine tz ?_
 unfold qC
 refine r_box hI fun b1 w' hI=>?_
 refine r_fieldL hI 0 rfl ax al rfl ?_
 have hcb:Cb Tryz.prog vU _ [] S (fun _:Unit=>[]) (fun _=>True) (fun _ x=>(rQ x,())) (fun v x=>∃ cs,v=.agg cs.toArray/\RdT S cs x) c.body:=
  Cb.pure [] uh sF fun x v _=>by
   rintro ⟨cs,rfl,hcs⟩ w1 hI
   exact (qq hcs w1 hI).mono fun e w' ⟨he,hI⟩=>⟨_,_,_,he,hI,Ext.refl _ _ _,rfl,rfl,rfl⟩
 refine Run.call0 bq bt hI (ch hcb h2 (st:=()) trivial) fun v' I' S' w'=>?_
 rintro ⟨rfl,rfl,rfl⟩ _ hI
 refine done hI ?_
 rw [du rQ c.body]; rfl

theorem fO {p:List C} {S:Store} {v:Value} (i:Int) (h:RdSl S 5 (RdC S) v p) (hw:p.length+wP p<=1048576):Pure Tryz.prog vl [v,.int .i64 i] S (.bool (dy p i)):=by
 intro w hI
 refine nv ?_
 unfold jT
 refine ⟨fun t w'=>∃ q,t=.bool q/\(q=true->dy p i=false)/\(q=false->cR p=true/\∃ (k:Nat) (hk:k<p.length),i=k/\ci p[k]=true)/\Inv w [] [] S w',?_,?_⟩
 ·refine Run.callPure pi mL hI (jP h (by omega)) fun w' hI=>?_
  refine r_not ?_
  cases hv:cR p
  ·repeat (first|refine ac ?_|refine ae (by decide) ?_|refine ad ?_|refine ai ?_|refine ah ?_)
   exact ⟨true,rfl,fun _=>by rw [dy,hv]; rfl,fun h=>Bool.noConfusion h,hI⟩
  ·repeat (first|refine ac ?_|refine ae (by decide) ?_|refine ad ?_|refine ai ?_|refine ah ?_)
   refine r_lss ?_
   by_cases h0:i<0
   ·rw [decide_eq_true h0]
    repeat (first|refine ac ?_|refine ae (by decide) ?_|refine ad ?_|refine ai ?_|refine ah ?_)
    exact ⟨true,rfl,fun _=>by rw [dy,hv,decide_eq_false (show ¬ 0<=i by omega)]; rfl,fun h=>Bool.noConfusion h,hI⟩
   ·rw [decide_eq_false h0]
    repeat (first|refine ac ?_|refine ae (by decide) ?_|refine ad ?_|refine ai ?_|refine ah ?_)
    refine r_lenSl h aB ?_
    refine r_geq ?_
    by_cases h1:(p.length:Int)<=i
    ·rw [decide_eq_true h1]
     repeat (first|refine ac ?_|refine ae (by decide) ?_|refine ad ?_|refine ai ?_|refine ah ?_)
     refine ⟨true,rfl,fun _=>?_,fun h=>Bool.noConfusion h,hI⟩
     rw [dy,hv,List.getElem?_eq_none (by omega)]; simp
    ·rw [decide_eq_false h1]
     repeat (first|refine ac ?_|refine ae (by decide) ?_|refine ad ?_|refine ai ?_|refine ah ?_)
     obtain ⟨k,rfl⟩:∃ k:Nat,i=k:=⟨i.toNat,by omega⟩
     have hk:k<p.length:=by omega
     refine r_elem hI h aB av hk (fun _ _=>RdC.length) fun cs' hcs'=>?_
     refine Run.callPure uz uN hI (pv hcs') fun w' hI=>?_
     refine r_not ?_
     repeat (first|refine ac ?_|refine ae (by decide) ?_|refine ad ?_|refine ai ?_|refine ah ?_)
     refine ⟨_,rfl,fun hq=>?_,fun hq=>⟨rfl,k,hk,rfl,by simpa using hq⟩,hI⟩
     have hq':ci p[k]=false:=by simpa using hq
     rw [dy,hv,Int.toNat_natCast,List.getElem?_eq_getElem hk]
     simp [mc hq']
 intro t _ _ _ _ _ _ _ _ _ _ _ _ _ _ _ _ _ _ _ _ w'
 rintro ⟨q,rfl,hq1,hq2,hI⟩
 refine condV (fun hb=>done hI (by rw [hq1 hb])) (fun hb=>?_)
 obtain ⟨hpv,k,hk,rfl,hfst⟩:=hq2 hb
 obtain ⟨g,gs,hbd,hpl⟩:=dt hfst
 have hbl:0<p[k].body.length:=by rw [hbd]; simp
 have hg0:p[k].body[0]=g:=by simp [hbd]
 have hu:dy p k=(decide (0<(dh p g).length) && (!ic p[k] && (dh p g).all fun n=>!(eP p n || decide (n=(k:Int))))):=by
  rw [dy,hpv,Int.toNat_natCast,List.getElem?_eq_getElem hk]
  simp only [yd,hbd,hpl]
  rw [decide_eq_true (show (0:Int)<=k by omega)]
  simp
 refine BS hI h aB ax al hk fun cs' hcs'=>?_
 obtain ⟨hd,ks,rfl,h1,h2⟩:=hcs'
 obtain ⟨kv,rfl,_⟩:=RdT.iff.1 h1
 refine ⟨ks,rfl,?_⟩
 refine r_elem (i:=0) hI h2 aj ag hbl (fun _ _=>RdT.length) fun cs' hcs'=>?_
 rw [hg0] at hcs'
 refine Run.call0 Az Ba hI (zd h hcs' (by omega)) fun v1 I' S w'=>?_
 rintro ⟨rfl,rfl⟩ _ hI
 have hI:Inv w [] ([]++[bv v1 (dh p g)]) S w':=hI
 obtain ⟨S1,hle,hrd,hI,_⟩:=hI.lend
 have hr:=hrd.ints
 have h':=h.monoC hle
 have hmem:∀ n∈dh p g,∃ (j:Nat) (hj:j<p.length),n=j:=by
  intro n hn
  obtain ⟨j,_,h2,h3,_⟩:=mN _ p 0 n hn
  exact ⟨j,h3,by omega⟩
 have hll:(dh p g).length<=p.length:=kK _ p 0
 generalize dh p g=l at hr hu hmem hll
 refine ⟨fun i w'=>∃ j:Nat,j<=l.length/\i=.int .i64 j/\(l.drop j).all (fun n=>!(eP p n || decide (n=(k:Int))))=l.all (fun n=>!(eP p n || decide (n=(k:Int))))/\Inv w [] [] S1 w',
  fun i _=>l.length - (intOf i).toNat,⟨0,Nat.zero_le _,rfl,rfl,hI⟩,?_⟩
 intro t6 _ _ _ _ _ _ _ _ _ _ _ _ _ _ _ _ _ _ _ _ _ _ _ w'
 rintro ⟨j,hj,rfl,hall,hI⟩
 refine r_lenSl hr bI ?_
 refine r_lss ?_
 refine condP (fun hji=>?_) (fun hji=>?_)
 ·have hj':j<l.length:=by omega
  have hstep:=sW (fun n=>!(eP p n || decide (n=(k:Int)))) l j hj'
  obtain ⟨m,hm,hlm⟩:=hmem _ (List.getElem_mem hj')
  have hcm:eP p l[j]=ic p[m]:=by
   rw [eP,hlm,Int.toNat_natCast,List.getElem?_eq_getElem hm]
  refine ⟨fun t w'=>t=.bool (ic p[m] || decide ((m:Int)=k))/\Inv w [] [] S1 w',?_,?_⟩
  ·refine dg hI hr bI aC hj' (fun cs hcs=>hcs) ?_
   rw [hlm]
   refine r_elem hI h' aB av hm (fun _ _=>RdC.length) fun cs' hcs'=>?_
   refine Run.callPure oj oc hI (ln hcs') fun w' hI=>?_
   cases hc:ic p[m]
   ·repeat (first|refine ac ?_|refine ae (by decide) ?_|refine ad ?_|refine ai ?_|refine ah ?_)
    refine dg hI hr bI aC hj' (fun cs hcs=>hcs) ?_
    rw [hlm]
    refine r_eql ?_
    repeat (first|refine ac ?_|refine ae (by decide) ?_|refine ad ?_|refine ai ?_|refine ah ?_)
    exact ⟨rfl,hI⟩
   ·repeat (first|refine ac ?_|refine ae (by decide) ?_|refine ad ?_|refine ai ?_|refine ah ?_)
    exact ⟨rfl,hI⟩
  intro t _ _ _ _ _ _ _ _ _ _ _ _ _ _ _ w'
  rintro ⟨rfl,hI⟩
  refine condV (fun hb=>ff hI hle ?_) (fun hb=>?_)
  ·have:l.all (fun n=>!(eP p n || decide (n=(k:Int))))=false:=by
    rw [<- hall,hstep,hcm,hlm,hb]; rfl
   rw [hu,this]; simp
  ·refine r_add (by omega) ?_
   exact ⟨⟨j+1,hj',rfl,by rw [<- hall,hstep,hcm,hlm,hb]; rfl,hI⟩,by simp [intOf]; omega⟩
 ·have:j=l.length:=by omega
  subst this
  have hall':l.all (fun n=>!(eP p n || decide (n=(k:Int))))=true:=by rw [<- hall,List.drop_length]; rfl
  refine r_lenSl hr bI ?_
  refine r_gtr ?_
  rw [hu,hall']
  by_cases hl0:0<l.length
  ·rw [decide_eq_true hl0,decide_eq_true (show (0:Int)<l.length by omega)]
   repeat (first|refine ac ?_|refine ae (by decide) ?_|refine ad ?_|refine ai ?_|refine ah ?_)
   refine r_elem hI h' aB av hk (fun _ _=>RdC.length) fun cs' hcs'=>?_
   refine Run.callPure oj oc hI (ln hcs') fun w' hI=>?_
   refine r_not ?_
   repeat (first|refine ac ?_|refine ae (by decide) ?_|refine ad ?_|refine ai ?_|refine ah ?_)
   exact ff hI hle (by simp)
  ·rw [decide_eq_false hl0,decide_eq_false (show ¬ (0:Int)<l.length by omega)]
   repeat (first|refine ac ?_|refine ae (by decide) ?_|refine ad ?_|refine ai ?_|refine ah ?_)
   exact ff hI hle rfl

end Go.Proofs.YtmnnpgdeecnfpaaGreat

/- Resolvent on both sides. -/
namespace Go.Proofs.YtmnnpgdeecnfpaaGreat
open Go Go.RowKit
def DA (c d:C):Bool:=aH c && (aH d && ci c)
theorem BM {c d:C} (h:DA c d=true):aH c=true/\aH d=true/\c.body≠[]:=by
 rw [DA,Bool.and_eq_true,Bool.and_eq_true] at h
 obtain ⟨g,gs,e,_⟩:=dt h.2.2
 exact ⟨h.1,h.2.1,by rw [e]; simp⟩
def RB (c d r:C) (b:Bool):Prop:=(DA c d=false/\r=BF/\b=false) ∨ (DA c d=true/\∃ o,RO c d o/\((pb o=true/\r=clO o/\b=true) ∨ (pb o=false/\r=BF/\b=false)))
theorem RB.ex {c d:C} (hw:wC c<=1048576) (hw2:wC d<=1048576):∃ r b,RB c d r b:=by
 cases hg:DA c d with
 | false=>exact ⟨_,_,.inl ⟨hg,rfl,rfl⟩⟩
 | true=>
  obtain ⟨h1,h2,h3⟩:=BM hg
  obtain ⟨o,ho⟩:=RO.ex h1 h2 hw hw2 h3
  cases hk:pb o with
  | false=>exact ⟨_,_,.inr ⟨hg,o,ho,.inr ⟨hk,rfl,rfl⟩⟩⟩
  | true=>exact ⟨_,_,.inr ⟨hg,o,ho,.inl ⟨hk,rfl,rfl⟩⟩⟩
theorem oF:wC BF<=20000:=by decide +kernel
theorem EP {c d:C} (h1:aH c=true) (h2:aH d=true) (hw:wC c<=1048576) (hw2:wC d<=1048576) (h3:c.body≠[]) {o:Option (Option C)} (ho:RO c d o):wC (clO o)<=20000:=by
 obtain ⟨r,st,hu,hcase⟩:=ho
 rcases hcase with ⟨_,rfl⟩|⟨_,us,hus,⟨_,rfl⟩|⟨hs,rfl⟩⟩
 ·exact oF
 ·exact oF
 ·have hg:=(hu.good kz (p8 h1 h2 hw hw2 h3)).1
  obtain ⟨e1,e2⟩:=BA hg hus (tq h1 h2)
  have hl:=vY h1 h2
  have hs2:=tx hs e1
  show wC (yv (aS (ofL us)) (ofL us))<=20000
  rw [Eg]
  match us,hs2,e2 with
  | [],_,_=>exact oF
  | u::us,hs2,e2=>
   rw [wL] at hs2
   rw [List.length_cons] at hs2 e2
   simp only [wC,ofL]
   omega
theorem RB.w {c d r:C} {b:Bool} (h:RB c d r b) (hw:wC c<=1048576) (hw2:wC d<=1048576):wC r<=20000:=by
 rcases h with ⟨_,rfl,_⟩|⟨hg,o,ho,⟨_,rfl,_⟩|⟨_,rfl,_⟩⟩
 ·exact oF
 ·obtain ⟨h1,h2,h3⟩:=BM hg
  exact EP h1 h2 hw hw2 h3 ho
 ·exact oF
section
attribute [local irreducible] Run CondV GuardV LoadV
end

end Go.Proofs.YtmnnpgdeecnfpaaGreat

/- Which clauses can be unfolded: the program's side. -/
namespace Go.Proofs.YtmnnpgdeecnfpaaGreat
open Go Go.RowKit
attribute [local irreducible] Run CondV GuardV LoadV

theorem BP (a:Int->Bool) (k:Int):∀ l:List Int,(l.all fun n=>!(a n || decide (n=k)))=(!kr l k && l.all fun n=>!a n)
 | []=>rfl
 | x::xs=>by
  have:=BP a k xs
  simp only [kr,List.all_cons,List.any_cons] at this ⊢
  rw [this]
  by_cases h:x=k
  ·subst h; simp
  ·rw [decide_eq_false h,decide_eq_false (fun e=>h e.symm)]
   cases a x <;> simp
theorem mx {p:List C} {S:Store} {v:Value} {b:Nat} {m:Nat} (h:RdSl S 5 (RdC S) v p) (hm:m<p.length) :
  Tri Tryz.prog gY [.int .i64 m,.pointer (some ⟨b,0,none⟩)] [.blk b (.cells #[v] bT)] S fun r I' S'=>r=.bool (ic p[m])/\I'=[.blk b (.cells #[v] bT)]/\S'=S:=by
 intro w hI
 refine kP ?_
 unfold fQ
 refine r_loadL hI 0 cd rfl rfl ?_
 refine r_elem hI h aB av hm (fun _ _=>RdC.length) fun cs' hcs'=>?_
 refine Run.callPure qx qr hI (oz hcs') fun w' hI=>?_
 exact ⟨_,_,_,rfl,hI,Ext.refl _ _ _,rfl,rfl,rfl⟩

theorem gh {p:List C} {S:Store} {v:Value} (i:Int) (h:RdSl S 5 (RdC S) v p) (hw:p.length+wP p<=1048576):Pure Tryz.prog vj [v,.int .i64 i] S (.bool (dy p i)):=by
 intro w hI
 have h0:=h
 obtain ⟨a,cap,rfl,_⟩:=h0
 refine og ?_
 unfold iM
 refine r_box hI fun b2 w' hI=>?_
 have hI:Inv w [] [.blk b2 (.cells #[.slice a p.length cap] bT)] S w':=hI
 refine ⟨fun t w'=>∃ q,t=.bool q/\(q=true->dy p i=false)/\(q=false->cR p=true/\∃ (k:Nat) (hk:k<p.length),i=k/\ci p[k]=true/\ic p[k]=false)/\Inv w [] [.blk b2 (.cells #[.slice a p.length cap] bT)] S w',?_,?_⟩
 ·refine r_loadL hI 0 cd rfl rfl ?_
  refine Run.callPure cV dc hI (cE h) fun w' hI=>?_
  refine r_not ?_
  cases hv:cR p
  ·repeat (first|refine ac ?_|refine ae (by decide) ?_|refine ad ?_|refine ai ?_|refine ah ?_)
   exact ⟨true,rfl,fun _=>by rw [dy,hv]; rfl,fun h=>Bool.noConfusion h,hI⟩
  ·repeat (first|refine ac ?_|refine ae (by decide) ?_|refine ad ?_|refine ai ?_|refine ah ?_)
   refine r_loadL hI 0 cd rfl rfl ?_
   refine r_lenSl h aB ?_
   refine r_sub (by omega) ?_
   refine Run.callPure fg fw hI (dY _ _ _ S) fun w' hI=>?_
   refine r_not ?_
   cases hq:(decide (0<=i) && decide (i<=(p.length:Int) - 1))
   ·repeat (first|refine ac ?_|refine ae (by decide) ?_|refine ad ?_|refine ai ?_|refine ah ?_)
    refine ⟨true,rfl,fun _=>?_,fun h=>Bool.noConfusion h,hI⟩
    rw [dy,hv]
    by_cases h1:0<=i
    ·rw [decide_eq_true h1,Bool.true_and] at hq
     have:=of_decide_eq_false hq
     rw [List.getElem?_eq_none (by omega)]; simp
    ·rw [decide_eq_false h1]; rfl
   ·repeat (first|refine ac ?_|refine ae (by decide) ?_|refine ad ?_|refine ai ?_|refine ah ?_)
    simp only [Bool.and_eq_true,decide_eq_true_eq] at hq
    obtain ⟨k,rfl⟩:∃ k:Nat,i=k:=⟨i.toNat,by omega⟩
    have hk:k<p.length:=by omega
    have hu:dy p k=yd p k p[k]:=by
     rw [dy,hv,Int.toNat_natCast,List.getElem?_eq_getElem hk,decide_eq_true (show (0:Int)<=k by omega)]; rfl
    refine r_loadL hI 0 cd rfl rfl ?_
    refine r_elem hI h aB av hk (fun _ _=>RdC.length) fun cs' hcs'=>?_
    refine Run.callPure rc ru hI (mA hcs') fun w' hI=>?_
    refine r_not ?_
    cases hf:ci p[k]
    ·repeat (first|refine ac ?_|refine ae (by decide) ?_|refine ad ?_|refine ai ?_|refine ah ?_)
     exact ⟨true,rfl,fun _=>by rw [hu,mc hf],fun h=>Bool.noConfusion h,hI⟩
    ·repeat (first|refine ac ?_|refine ae (by decide) ?_|refine ad ?_|refine ai ?_|refine ah ?_)
     refine r_loadL hI 0 cd rfl rfl ?_
     refine r_elem hI h aB av hk (fun _ _=>RdC.length) fun cs' hcs'=>?_
     refine Run.callPure qx qr hI (oz hcs') fun w' hI=>?_
     repeat (first|refine ac ?_|refine ae (by decide) ?_|refine ad ?_|refine ai ?_|refine ah ?_)
     refine ⟨_,rfl,fun hc=>?_,fun hc=>⟨rfl,k,hk,rfl,hf,hc⟩,hI⟩
     obtain ⟨g,gs,hbd,hpl⟩:=dt hf
     rw [hu,yd,hbd]
     simp [hc]
 intro t _ _ _ _ _ _ _ _ _ _ _ _ _ _ _ _ _ _ _ _ _ _ _ _ _ w'
 rintro ⟨q,rfl,hq1,hq2,hI⟩
 refine condV (fun hb=>done hI (by rw [hq1 hb])) (fun hb=>?_)
 obtain ⟨hpv,k,hk,rfl,hfst,hncut⟩:=hq2 hb
 obtain ⟨g,gs,hbd,hpl⟩:=dt hfst
 have hbl:0<p[k].body.length:=by rw [hbd]; simp
 have hg0:p[k].body[0]=g:=by simp [hbd]
 have hu:dy p k=(decide (0<(dh p g).length) && (!kr (dh p g) k && (dh p g).all fun n=>!eP p n)):=by
  rw [dy,hpv,Int.toNat_natCast,List.getElem?_eq_getElem hk]
  simp only [yd,hbd,hpl,hncut]
  rw [decide_eq_true (show (0:Int)<=k by omega),BP]
  simp
 obtain ⟨b,o,cap',c,E,fz,hav,hS,hR⟩:=h.at_ hk
 obtain ⟨hd,ks,hcs,h1,h2⟩:=hR
 obtain ⟨kv,rfl,_⟩:=RdT.iff.1 h1
 obtain ⟨bb,bo,bcap,bc,bE,bfz,rfl,hbS,hbR⟩:=h2.at_ hbl
 rw [hg0] at hbR
 simp only [Value.slice.injEq,true_and] at hav
 obtain ⟨rfl,rfl⟩:=hav
 refine ⟨fun D x5 x41 x40 x39 x38 x37 x36 x35 x34 x33 x32 w_=>(D 0=true->x32=.slice (some ⟨b,o,none⟩) p.length cap)/\(D 1=true->x33=.slice (some ⟨b,o,none⟩) p.length cap)/\(D 2=true->x34=.int .i64 k)/\(D 3=true->x35=.pointer (some ⟨b,o+k * 5,none⟩))/\(D 4=true->x36=.pointer (some ⟨b,o+k * 5+4,none⟩))/\(D 5=true->x37=.slice (some ⟨bb,bo,none⟩) p[k].body.length bcap)/\(D 6=true->x38=.pointer (some ⟨bb,bo,none⟩))/\(D 7=true->x39=.agg (cellsAt bc bo 4).toArray)/\(D 8=true->x40=.agg (bA g).cells.toArray)/\(D 9=true->True)/\(D 10=true->True)/\∃ S1,Sle S S1/\(D 9=true->RdSl S1 1 gr x41 (dh p g))/\(D 10=true->RdSl S1 1 gr x5 (dh p g))/\Inv w [] [.blk b2 (.cells #[.slice (some ⟨b,o,none⟩) p.length cap] bT)] S1 w_,⟨fun h=>Bool.noConfusion h,fun h=>Bool.noConfusion h,fun h=>Bool.noConfusion h,fun h=>Bool.noConfusion h,fun h=>Bool.noConfusion h,fun h=>Bool.noConfusion h,fun h=>Bool.noConfusion h,fun h=>Bool.noConfusion h,fun h=>Bool.noConfusion h,fun h=>Bool.noConfusion h,fun h=>Bool.noConfusion h,⟨S,Sle.refl S,fun h=>Bool.noConfusion h,fun h=>Bool.noConfusion h,hI.draw⟩⟩,⟨?_,?_,?_,?_,?_,?_,?_,?_,?_,?_,?_,trivial⟩,?_⟩
 ·intro D hD_  x5 x41 x40 x39 x38 x37 x36 x35 x34 x33 x32 w_
  rintro ⟨h0_,h1_,h2_,h3_,h4_,h5_,h6_,h7_,h8_,h9_,h10_,⟨S1,hle,hl1,hl2,hI⟩⟩
  refine r_loadL hI 0 cd rfl rfl ?_
  exact ⟨fun _=>rfl,h1_,h2_,h3_,h4_,h5_,h6_,h7_,h8_,h9_,h10_,⟨S1,hle,hl1,hl2,hI⟩⟩
 ·intro D hD_  x5 x41 x40 x39 x38 x37 x36 x35 x34 x33 x32 w_
  rintro ⟨h0_,h1_,h2_,h3_,h4_,h5_,h6_,h7_,h8_,h9_,h10_,⟨S1,hle,hl1,hl2,hI⟩⟩
  refine r_loadL hI 0 cd rfl rfl ?_
  exact ⟨h0_,fun _=>rfl,h2_,h3_,h4_,h5_,h6_,h7_,h8_,h9_,h10_,⟨S1,hle,hl1,hl2,hI⟩⟩
 ·intro D hD_  x5 x41 x40 x39 x38 x37 x36 x35 x34 x33 x32 w_
  rintro ⟨h0_,h1_,h2_,h3_,h4_,h5_,h6_,h7_,h8_,h9_,h10_,⟨S1,hle,hl1,hl2,hI⟩⟩
  exact ⟨h0_,h1_,fun _=>rfl,h3_,h4_,h5_,h6_,h7_,h8_,h9_,h10_,⟨S1,hle,hl1,hl2,hI⟩⟩
 ·intro D hD_ d1_0 d2_1 x5 x41 x40 x39 x38 x37 x36 x35 x34 x33 x32 w_
  rintro ⟨h0_,h1_,h2_,h3_,h4_,h5_,h6_,h7_,h8_,h9_,h10_,⟨S1,hle,hl1,hl2,hI⟩⟩
  obtain rfl:=h1_ d1_0
  obtain rfl:=h2_ d2_1
  refine r_indexAddr aB hk ?_
  exact ⟨h0_,h1_,h2_,fun _=>rfl,h4_,h5_,h6_,h7_,h8_,h9_,h10_,⟨S1,hle,hl1,hl2,hI⟩⟩
 ·intro D hD_ d3_0 x5 x41 x40 x39 x38 x37 x36 x35 x34 x33 x32 w_
  rintro ⟨h0_,h1_,h2_,h3_,h4_,h5_,h6_,h7_,h8_,h9_,h10_,⟨S1,hle,hl1,hl2,hI⟩⟩
  obtain rfl:=h3_ d3_0
  refine r_field ax ?_
  exact ⟨h0_,h1_,h2_,h3_,fun _=>rfl,h5_,h6_,h7_,h8_,h9_,h10_,⟨S1,hle,hl1,hl2,hI⟩⟩
 ·intro D hD_ d4_0 x5 x41 x40 x39 x38 x37 x36 x35 x34 x33 x32 w_
  rintro ⟨h0_,h1_,h2_,h3_,h4_,h5_,h6_,h7_,h8_,h9_,h10_,⟨S1,hle,hl1,hl2,hI⟩⟩
  obtain rfl:=h4_ d4_0
  refine r_load al (by rw [hI.cellS (hle _ _ hS)]; exact cellsAt_get hcs 4 _ rfl) ?_
  exact ⟨h0_,h1_,h2_,h3_,h4_,fun _=>rfl,h6_,h7_,h8_,h9_,h10_,⟨S1,hle,hl1,hl2,hI⟩⟩
 ·intro D hD_ d5_0 x5 x41 x40 x39 x38 x37 x36 x35 x34 x33 x32 w_
  rintro ⟨h0_,h1_,h2_,h3_,h4_,h5_,h6_,h7_,h8_,h9_,h10_,⟨S1,hle,hl1,hl2,hI⟩⟩
  obtain rfl:=h5_ d5_0
  refine r_indexAddr (i:=0) aj hbl ?_
  exact ⟨h0_,h1_,h2_,h3_,h4_,h5_,fun _=>rfl,h7_,h8_,h9_,h10_,⟨S1,hle,hl1,hl2,hI⟩⟩
 ·intro D hD_ d6_0 x5 x41 x40 x39 x38 x37 x36 x35 x34 x33 x32 w_
  rintro ⟨h0_,h1_,h2_,h3_,h4_,h5_,h6_,h7_,h8_,h9_,h10_,⟨S1,hle,hl1,hl2,hI⟩⟩
  obtain rfl:=h6_ d6_0
  refine r_loadA ag (by simpa using hbR.length) (fun j v hj=>by rw [hI.cellS (hle _ _ hbS)]; exact cellsAt_get rfl j v hj) ?_
  exact ⟨h0_,h1_,h2_,h3_,h4_,h5_,h6_,fun _=>rfl,h8_,h9_,h10_,⟨S1,hle,hl1,hl2,hI⟩⟩
 ·intro D hD_ d7_0 x5 x41 x40 x39 x38 x37 x36 x35 x34 x33 x32 w_
  rintro ⟨h0_,h1_,h2_,h3_,h4_,h5_,h6_,h7_,h8_,h9_,h10_,⟨S1,hle,hl1,hl2,hI⟩⟩
  obtain rfl:=h7_ d7_0
  refine Run.callPure kI kD hI (ei (by simpa using hbR.mono hle)) fun w_ hI=>?_
  exact ⟨h0_,h1_,h2_,h3_,h4_,h5_,h6_,h7_,fun _=>rfl,h9_,h10_,⟨S1,hle,hl1,hl2,hI⟩⟩
 ·intro D hD_ d0_0 d8_1 d8_2 x5 x41 x40 x39 x38 x37 x36 x35 x34 x33 x32 w_
  rintro ⟨h0_,h1_,h2_,h3_,h4_,h5_,h6_,h7_,h8_,h9_,h10_,⟨S1,hle,hl1,hl2,hI⟩⟩
  obtain rfl:=h0_ d0_0
  obtain rfl:=h8_ d8_1
  refine Run.call0 dN dR hI (dr (bA g) (h.monoC hle) (by omega)) fun v1 I' S2 w_=>?_
  rintro ⟨rfl,rfl⟩ _ hI
  have hI:Inv w [] ([.blk b2 (.cells #[.slice (some ⟨b,o,none⟩) p.length cap] bT)]++[bv v1 (dh p g)]) S2 w_:=hI
  obtain ⟨S1,hle3,hrd,hI,_⟩:=hI.lend
  have hle:=hle.trans hle3
  have hl1:=fun (_:setD D 9 9=true)=>hrd.ints
  have hl2:=fun (h:setD D 9 10=true)=>(hl2 h).mono hle3 fun _ _ h=>h
  exact ⟨h0_,h1_,h2_,h3_,h4_,h5_,h6_,h7_,h8_,fun _=>by first|assumption|trivial,h10_,⟨S1,hle,hl1,hl2,hI⟩⟩
 ·intro D hD_ d9_0 d9_1 d0_2 d1_3 d2_4 d3_5 d4_6 d5_7 d6_8 d7_9 d8_10 d9_11 x5 x41 x40 x39 x38 x37 x36 x35 x34 x33 x32 w_
  rintro ⟨h0_,h1_,h2_,h3_,h4_,h5_,h6_,h7_,h8_,h9_,h10_,⟨S1,hle,hl1,hl2,hI⟩⟩
  have g9_:=h9_ d9_0
  have hl2:=fun (_:setD D 10 10=true)=>hl1 d9_0
  exact ⟨h0_,h1_,h2_,h3_,h4_,h5_,h6_,h7_,h8_,h9_,fun _=>by first|assumption|trivial,⟨S1,hle,hl1,hl2,hI⟩⟩
 intro D d10_ d9_ d8_ d7_ d6_ d5_ d4_ d3_ d2_ d1_ d0_ x5 x41 x40 x39 x38 x37 x36 x35 x34 x33 x32 w_
 rintro ⟨h0_,h1_,h2_,h3_,h4_,h5_,h6_,h7_,h8_,h9_,h10_,⟨S1,hle,hl1,hl2,hI⟩⟩
 have g10_:=h10_ d10_
 have g9_:=h9_ d9_
 obtain rfl:=h8_ d8_
 obtain rfl:=h7_ d7_
 obtain rfl:=h6_ d6_
 obtain rfl:=h5_ d5_
 obtain rfl:=h4_ d4_
 obtain rfl:=h3_ d3_
 obtain rfl:=h2_ d2_
 obtain rfl:=h1_ d1_
 obtain rfl:=h0_ d0_
 clear h0_ h1_ h2_ h3_ h4_ h5_ h6_ h7_ h8_ h9_ h10_
 have hr:=hl2 d10_
 have h':=h.monoC hle
 have hmem:∀ n∈dh p g,∃ (j:Nat) (hj:j<p.length),n=j:=by
  intro n hn
  obtain ⟨j,_,h2,h3,_⟩:=mN _ p 0 n hn
  exact ⟨j,h3,by omega⟩
 generalize dh p g=l at hr hu hmem
 refine r_lenSl hr bI ?_
 refine r_gtr ?_
 rw [hu]
 by_cases hl0:0<l.length
 ·rw [decide_eq_true hl0,decide_eq_true (show (0:Int)<l.length by omega)]
  repeat (first|refine ac ?_|refine ae (by decide) ?_|refine ad ?_|refine ai ?_|refine ah ?_)
  refine Run.callPure fk fe hI (eD k hr) fun w' hI=>?_
  refine r_not ?_
  cases hh:kr l k
  ·repeat (first|refine ac ?_|refine ae (by decide) ?_|refine ad ?_|refine ai ?_|refine ah ?_)
   refine r_makeFunc ?_
   have hcb2:Cb Tryz.prog gY _ [.pointer (some ⟨b2,0,none⟩)] S1 (fun _:Unit=>[.blk b2 (.cells #[.slice (some ⟨b,o,none⟩) p.length cap] bT)]) (fun _=>True) (fun _ x=>(eP p x,())) (fun v x=>v=.int .i64 x) l:=
    Cb.pure [.blk b2 (.cells #[.slice (some ⟨b,o,none⟩) p.length cap] bT)] pG pr fun x v hx=>by
     rintro rfl
     obtain ⟨m,hm,rfl⟩:=hmem x hx
     have hcm:eP p m=ic p[m]:=by rw [eP,Int.toNat_natCast,List.getElem?_eq_getElem hm]
     rw [hcm]
     exact mx h' hm
   refine Run.call (A:=[]) iy iC hI (lb hcb2 hr (st:=()) trivial) fun v' I' S' w'=>?_
   rintro ⟨rfl,rfl,rfl⟩ _ hI
   refine r_not ?_
   repeat (first|refine ac ?_|refine ae (by decide) ?_|refine ad ?_|refine ai ?_|refine ah ?_)
   refine ff hI hle ?_
   rw [du (fun x=>eP p x) l]
   have:=r7 (fun n=>!eP p n) l
   simp only [Bool.not_not] at this
   rw [this]; simp
  ·repeat (first|refine ac ?_|refine ae (by decide) ?_|refine ad ?_|refine ai ?_|refine ah ?_)
   exact ff hI hle rfl
 ·rw [decide_eq_false hl0,decide_eq_false (show ¬ (0:Int)<l.length by omega)]
  repeat (first|refine ac ?_|refine ae (by decide) ?_|refine ad ?_|refine ai ?_|refine ah ?_)
  exact ff hI hle rfl

end Go.Proofs.YtmnnpgdeecnfpaaGreat

/- UnfoldClause: the plain form. -/
namespace Go.Proofs.YtmnnpgdeecnfpaaGreat
open Go Go.RowKit
def clK:Option (Option C)->List C
 | some (some r)=>[r]
 | _=>[]
theorem DH {o:Option (Option C)} (hf:dX o=true) (hk:mE o=true):clK o=[clO o]:=by
 match o with
 | none=>cases hf
 | some none=>cases hk
 | some (some r)=>rfl
theorem Dc {o:Option (Option C)} (hf:dX o=false):clK o=[]:=by
 match o with
 | none=>rfl
 | some none=>cases hf
 | some (some r)=>cases hf
theorem CA (o:Option (Option C)):(dX o && !pb o)=!mE o:=by
 match o with
 | none=>rfl
 | some none=>rfl
 | some (some r)=>show (true && !aH r)=!aH r; simp
def gH:List (Option (Option C))->List C
 | []=>[]
 | o::os=>clK o++gH os
theorem wc:∀ (os:List (Option (Option C))) (o:Option (Option C)),gH (os++[o])=gH os++clK o
 | [],o=>by simp [gH]
 | x::os,o=>by rw [List.cons_append,gH,gH,wc os o,List.append_assoc]
theorem CC {os:List (Option (Option C))} {m:Nat} (h:m<os.length):gH (os.take (m+1))=gH (os.take m)++clK os[m]:=by
 rw [List.take_succ_eq_append_getElem h,wc]
theorem CW {α:Type} {f:α->Bool} {l:List α} {m:Nat} (h:m<l.length) (h1:(l.take m).all f=true) (h2:f l[m]=true):(l.take (m+1)).all f=true:=by
 rw [List.take_succ_eq_append_getElem h,List.all_append,h1]
 simp [h2]
def RK (p:List C) (j:Nat) (k:Int) (o:Option (Option C)):Prop:=∃ (hj:j<p.length) (hk:k.toNat<p.length),RO p[j] p[k.toNat] o
def UO (p:List C) (j:Nat) (ks:List Int) (os:List (Option (Option C))):Prop:=os.length=ks.length/\∀ m (h:m<ks.length) (h':m<os.length),RK p j ks[m] os[m]
theorem UO.ex {p:List C} {j:Nat} (hj:j<p.length) (hb:p[j].body≠[]) (hall:∀ c∈p,aH c=true/\wC c<=1048576):∀ ks:List Int,(∀ k∈ks,k.toNat<p.length)->∃ os,UO p j ks os
 | [],_=>⟨[],rfl,fun m h=>by simp at h⟩
 | k::ks,hk=>by
  obtain ⟨os,hl,hos⟩:=UO.ex hj hb hall ks fun x hx=>hk x (List.mem_cons_of_mem _ hx)
  have hk0:=hk k (List.mem_cons_self ..)
  have h1:=hall _ (List.getElem_mem hj)
  have h2:=hall _ (List.getElem_mem hk0)
  obtain ⟨o,ho⟩:=RO.ex h1.1 h2.1 h1.2 h2.2 hb
  refine ⟨o::os,by simp [hl],fun m h h'=>?_⟩
  match m with
  | 0=>exact ⟨hj,hk0,ho⟩
  | m+1=>exact hos m (by simpa using h) (by simpa using h')
theorem DQ {t:T} (h:bz t=true):wT t<=840:=by
 have h1:=Ap t (pC h)
 rw [bz,Bool.and_eq_true,decide_eq_true_eq] at h
 omega
theorem BK:∀ {ts:List T},(∀ t∈ts,bz t=true)->wL ts<=ts.length * 840
 | [],_=>by simp [wL]
 | t::ts,h=>by
  have h1:=DQ (h t (List.mem_cons_self ..))
  have h2:=BK (ts:=ts) fun x hx=>h x (List.mem_cons_of_mem _ hx)
  rw [wL,List.length_cons,Nat.succ_mul]
  omega
theorem CM {c:C} (h:aH c=true):wC c<=6000:=by
 rw [aH] at h
 simp only [Bool.and_eq_true,List.all_eq_true,decide_eq_true_eq] at h
 have h1:=DQ h.2.2.1
 have h2:=BK (ts:=c.body) fun t ht=>by
  have:=h.2.1 t ht
  rw [cw,Bool.and_eq_true] at this
  exact this.1
 have h3:=h.1
 have h4:c.body.length * 840<=6 * 840:=Nat.mul_le_mul_right _ h3
 unfold wC
 omega
theorem Bz {b:Nat}:∀ {p:List C},(∀ c∈p,wC c<=b)->wP p<=p.length * b
 | [],_=>by simp [wP]
 | c::p,h=>by
  have h1:=h c (List.mem_cons_self ..)
  have h2:=Bz (p:=p) fun x hx=>h x (List.mem_cons_of_mem _ hx)
  rw [wP,List.length_cons,Nat.succ_mul]
  omega
theorem oQ {p:List C} (h:cR p=true):p.length<=20/\∀ c∈p,aH c=true/\wC c<=6000:=by
 rw [cR,Bool.and_eq_true,decide_eq_true_eq,List.all_eq_true] at h
 exact ⟨h.1,fun c hc=>⟨h.2 c hc,CM (h.2 c hc)⟩⟩
theorem AW:∀ {os:List (Option (Option C))},(∀ o∈os,wC (clO o)<=20000)->(gH os).length<=os.length/\∀ c∈gH os,wC c<=20000
 | [],_=>by simp [gH]
 | o::os,h=>by
  have h1:=h o (List.mem_cons_self ..)
  obtain ⟨h2,h3⟩:=AW (os:=os) fun x hx=>h x (List.mem_cons_of_mem _ hx)
  rw [gH]
  match o,h1 with
  | none,_=>exact ⟨by simp only [clK,List.nil_append,List.length_cons]; omega,by simpa only [clK,List.nil_append] using h3⟩
  | some none,_=>exact ⟨by simp only [clK,List.nil_append,List.length_cons]; omega,by simpa only [clK,List.nil_append] using h3⟩
  | some (some r),h1=>
   refine ⟨by simp only [clK,List.cons_append,List.nil_append,List.length_cons]; omega,fun c hc=>?_⟩
   simp only [clK,List.cons_append,List.nil_append] at hc
   rcases List.mem_cons.1 hc with rfl|hc
   ·exact h1
   ·exact h3 c hc
def DV (p:List C) (i:Int):List Int:=match p[i.toNat]? with
 | some c=>dh p (c.body.headD ⟨0,0,⟨#[]⟩,[]⟩)
 | none=>[]
def p7 (p:List C) (i:Int) (os:List (Option (Option C))):List C:=(p.take i.toNat++gH os)++p.drop (i.toNat+1)
def UB (p:List C) (i:Int) (r:List C) (b:Bool):Prop:=(dy p i=false/\r=[]/\b=false) ∨ (dy p i=true/\∃ os,UO p i.toNat (DV p i) os/\
 ((os.all mE=false/\r=[]/\b=false) ∨ (os.all mE=true/\((cR (p7 p i os)=true/\r=p7 p i os/\b=true) ∨ (cR (p7 p i os)=false/\r=[]/\b=false)))))
theorem tO {p:List C} {i:Int} (h:dy p i=true):cR p=true/\∃ (j:Nat) (hj:j<p.length),i=j/\ci p[j]=true:=by
 rw [dy,Bool.and_eq_true,Bool.and_eq_true,decide_eq_true_eq] at h
 obtain ⟨h1,h2,h3⟩:=h
 refine ⟨h1,i.toNat,?_⟩
 cases he:p[i.toNat]? with
 | none=>rw [he] at h3; cases h3
 | some c=>
  rw [he] at h3
  obtain ⟨hlt,e⟩:=List.getElem?_eq_some_iff.1 he
  refine ⟨hlt,by omega,?_⟩
  rw [e]
  cases hf:ci c with
  | true=>rfl
  | false=>
   simp only [mc hf] at h3
   cases h3
theorem zp {p:List C} {g:T} {k:Int} (h:k∈dh p g):∃ n:Nat,k=n/\n<p.length:=by
 obtain ⟨n,_,h2,h3,_⟩:=mN _ p 0 k h
 exact ⟨n,by omega,h3⟩
theorem wW {p:List C} {j:Nat} (hj:j<p.length) {g:T} {gs:List T} (hb:p[j].body=g::gs):DV p j=dh p g:=by
 rw [DV,Int.toNat_natCast,List.getElem?_eq_getElem hj]
 simp [hb]
theorem UB.ex (p:List C) (i:Int):∃ r b,UB p i r b:=by
 cases hu:dy p i with
 | false=>exact ⟨_,_,.inl ⟨hu,rfl,rfl⟩⟩
 | true=>
  obtain ⟨hv,j,hj,rfl,hf⟩:=tO hu
  obtain ⟨g,gs,hb,_⟩:=dt hf
  obtain ⟨hl,hall⟩:=oQ hv
  obtain ⟨os,hos⟩:=UO.ex hj (by rw [hb]; simp) (fun c hc=>⟨(hall c hc).1,by have:=(hall c hc).2; omega⟩) (DV p j) (fun k hk=>by
   rw [wW hj hb] at hk
   obtain ⟨n,rfl,hn⟩:=zp hk
   simpa using hn)
  cases ha:os.all mE with
  | false=>exact ⟨_,_,.inr ⟨hu,os,hos,.inl ⟨ha,rfl,rfl⟩⟩⟩
  | true=>
   cases hp:cR (p7 p j os) with
   | true=>exact ⟨_,_,.inr ⟨hu,os,hos,.inr ⟨ha,.inl ⟨hp,rfl,rfl⟩⟩⟩⟩
   | false=>exact ⟨_,_,.inr ⟨hu,os,hos,.inr ⟨ha,.inr ⟨hp,rfl,rfl⟩⟩⟩⟩
/- weights of what comes out -/
theorem UO.w {p:List C} {j:Nat} {ks:List Int} {os:List (Option (Option C))} (h:UO p j ks os) (hb:∀ hj:j<p.length,p[j].body≠[]) (hv:cR p=true):∀ o∈os,wC (clO o)<=20000:=by
 obtain ⟨hl,hall⟩:=oQ hv
 intro o ho
 obtain ⟨m,hm,rfl⟩:=List.mem_iff_getElem.1 ho
 obtain ⟨hj,hk,hr⟩:=h.2 m (by rw [<- h.1]; exact hm) hm
 have h1:=hall _ (List.getElem_mem hj)
 have h2:=hall _ (List.getElem_mem hk)
 exact EP h1.1 h2.1 (by omega) (by omega) (hb hj) hr
theorem DS {p:List C} {i:Int} (hu:dy p i=true) {os:List (Option (Option C))} (h:UO p i.toNat (DV p i) os) :
  (∀ o∈os,wC (clO o)<=20000)/\os.length<=20/\(p7 p i os).length+wP (p7 p i os)<=1048576:=by
 obtain ⟨hv,j,hj,rfl,hf⟩:=tO hu
 obtain ⟨g,gs,hb,_⟩:=dt hf
 obtain ⟨hl,hall⟩:=oQ hv
 have hw:=h.w (fun hj'=>by
  have:p[(j:Int).toNat]=p[j]:=by simp
  rw [this,hb]; simp) hv
 have hol:os.length<=20:=by
  rw [h.1,wW hj hb]
  have:=kK (fun c=>kY (bA c.head) (bA g)) p 0
  rw [dh]
  omega
 refine ⟨hw,hol,?_⟩
 obtain ⟨h1,h2⟩:=AW hw
 have hlen:(p7 p j os).length<=40:=by
  rw [p7]
  simp only [List.length_append,List.length_take,List.length_drop]
  omega
 have hwp:=Bz (b:=20000) (p:=p7 p j os) fun c hc=>by
  rw [p7] at hc
  rcases List.mem_append.1 hc with hc|hc
  ·rcases List.mem_append.1 hc with hc|hc
   ·have:=(hall c (List.mem_of_mem_take hc)).2; omega
   ·exact h2 c hc
  ·have:=(hall c (List.mem_of_mem_drop hc)).2; omega
 have:(p7 p j os).length * 20000<=40 * 20000:=Nat.mul_le_mul_right _ hlen
 omega
theorem UB.w {p r:List C} {i:Int} {b:Bool} (h:UB p i r b):r.length+wP r<=1048576:=by
 rcases h with ⟨_,rfl,_⟩|⟨hu,os,hos,⟨_,rfl,_⟩|⟨_,⟨_,rfl,_⟩|⟨_,rfl,_⟩⟩⟩
 ·simp [wP]
 ·simp [wP]
 ·exact (DS hu hos).2.2
 ·simp [wP]
abbrev Fp (ys:List C) (b:Bool):Value->List Item->Store->Prop:=fun q I' _=>∃ (u:Value) (L:aD),q=.tuple #[u,.bool b]/\I'=az L/\TrSl 5 TrC L u ys
theorem Inv.lendExtR {w0 w:World} {X:List Nat} {A:List Item} {S:Store} {v:Value} {e:TypeId} {k n:Nat} {xs:List Value} (h:Inv w0 X (A++[.row v e k n xs]) S w) :
  ∃ S',Ext w0.heap.size X S S'/\RowRd S' v e k n xs/\Inv w0 X A S' w:=by
 obtain ⟨hl,ho⟩:=h.openRow
 rcases ho with ⟨rfl,h0⟩|⟨g,cap,cur,rfl,hnc,hcm,hcs,ht,hI⟩
 ·exact ⟨S,Ext.refl _ _ _,⟨hl,.inl ⟨rfl,h0⟩⟩,h.sub (List.sublist_append_left _ _)⟩
 ·obtain ⟨S',h1,h2,h3⟩:=Inv.pub1 (A:=A) hI
  exact ⟨S',h2,⟨hl,.inr ⟨g,cap,cur,rfl,h3,hnc,hcm,hcs,ht⟩⟩,h1⟩
def IsC (S:Store) (c:C) (v:Value):Prop:=∃ cs:List Value,v=.agg cs.toArray/\RdC S cs c
def IsTO (S:Store) (o:Option (Option C)) (v:Value):Prop:=∃ es:List Value,v=.tuple #[.agg es.toArray,.bool (dX o),.bool (mE o)]/\RdC S es (clO o)
theorem IsC.mono {S S':Store} {c:C} {v:Value} (h:IsC S c v) (hle:Sle S S'):IsC S' c v:=by
 obtain ⟨cs,e,h⟩:=h
 exact ⟨cs,e,h.mono hle⟩
theorem IsTO.mono {S S':Store} {o:Option (Option C)} {v:Value} (h:IsTO S o v) (hle:Sle S S'):IsTO S' o v:=by
 obtain ⟨cs,e,h⟩:=h
 exact ⟨cs,e,h.mono hle⟩
/- an element of a published row, as a place and its cells -/
theorem RdSl.clauseAt {S:Store} {b o len cap:Nat} {p:List C} (h:RdSl S 5 (RdC S) (.slice (some ⟨b,o,none⟩) len cap) p) {i:Nat} (hi:i<p.length) :
  ∃ c E fz cs,S b=some (.cells c E fz)/\cellsAt c (o+i * 5) 5=cs/\RdC S cs p[i]:=by
 obtain ⟨b',o',cap',c,E,fz,e,hS,hR⟩:=h.at_ hi
 cases e
 exact ⟨c,E,fz,_,hS,rfl,hR⟩
theorem RdSl.some {α:Type} {S:Store} {k:Nat} {R:List Value->α->Prop} {v:Value} {xs:List α} (h:RdSl S k R v xs) (h0:0<xs.length):∃ b o cap,v=.slice (some ⟨b,o,none⟩) xs.length cap:=by
 obtain ⟨b,o,cap,c,E,fz,e,_,_⟩:=h.at_ h0
 exact ⟨b,o,cap,e⟩

end Go.Proofs.YtmnnpgdeecnfpaaGreat

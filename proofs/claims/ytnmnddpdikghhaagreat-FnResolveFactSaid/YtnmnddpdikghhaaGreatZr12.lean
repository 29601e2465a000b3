/- impl.resolvent. -/
import Derived.Test.YtnmnddpdikghhaaGreatZr10
import Derived.Test.YtnmnddpdikghhaaGreatZr11
import Derived.Test.YtnmnddpdikghhaaGreatZr1
import Derived.Test.YtnmnddpdikghhaaGreatZr2
import Derived.Test.YtnmnddpdikghhaaGreatZr9
import Derived.Test.YtnmnddpdikghhaaGreatZr8
namespace Go.Proofs.YtnmnddpdikghhaaGreat
open Go Go.RowKit
def Fs (n:Int):T:=.mk 1 (n+26) ⟨#[]⟩ []
mutual
theorem qP {N:Nat}:∀ t:T,okU N t->Au Fs t=dR 26 t
 | .mk k n s ks,h=>by
  rw [okU] at h
  rw [Au,dR]
  by_cases hk:k=1
  ·have h1:=h.2.1 hk
   rw [if_pos hk,if_pos hk,h1.2.2.2,ed,h1.2.2.1,hk]
   rfl
  ·rw [if_neg hk,if_neg hk,vu ks h.2.2.1]
theorem vu {N:Nat}:∀ ts:List T,dA N ts->tj Fs ts=ed 26 ts
 | [],_=>rfl
 | t::ts,h=>by
  rw [dA] at h
  rw [tj,ed,qP t h.1,vu ts h.2]
end
mutual
theorem Cz:∀ t:T,okU 26 t->okV t
 | .mk k n s ks,h=>by
  rw [okU] at h
  rw [okV]
  exact ⟨fun hk=>by have:=h.2.1 hk; omega,Ee ks h.2.2.1⟩
theorem Ee:∀ ts:List T,dA 26 ts->li ts
 | [],_=>by rw [li]; trivial
 | t::ts,h=>by
  rw [dA] at h
  rw [li]
  exact ⟨Cz t h.1,Ee ts h.2⟩
end
def Li (o:Option (Option C)):Value->List Item->ay->Prop:=fun q I' _=>∃ (cs:List Value) (L:bI),q=.tuple #[.agg cs.toArray,.bool (Bz o),.bool (HD o)]/\I'=bw L/\TrC L cs (clO o)
section
attribute [local irreducible] Run CondV ai a4
theorem ms (S:ay):Fun mK [] S Fs:=by
 intro S' _ n hn0 hn25
 refine ⟨[.int .i64 1,.int .i64 (n+26),.string ⟨#[]⟩,.slice none 0 0],RdT.nil (by simp [inI]) (by simp only [inI]; omega) (show 0<=maxLen from Nat.zero_le _) (by simp [maxLen]),fun w hI=>?_⟩
 refine o9 ?_
 unfold k0
 refine a9 hI bt fun b2 w' hI=>?_
 refine bR (by omega) ?_
 refine bR (by omega) ?_
 refine Run.callPure px pG hI (nf _ S') fun w' hI=>?_
 rw [show n+25+1=n+26 by omega]
 refine aM hI 0 rfl ag rfl rfl (by simp [Value.oneCell']) fun w' hI=>?_
 refine bA hI 0 ag rfl rfl ?_
 exact done hI rfl
theorem B0 {K:Value->World->Prop} {w:World} {mb:Nat} (hk:K (.agg #[.map (some mb),.slice none 0 0]) w):Run Tryz.prog (bP dU [(0,.map (some mb))]) w K:=by
 refine Run.of (v:=.agg #[.map (some mb),.slice none 0 0]) (w':=w) ?_ hk
 unfold bP
 rw [Sem.run_bind,run_build w dU _ #[.map (some mb),.slice none 0 0] (by kernel_rfl),Result.andThen_ok]
 rfl
theorem xD (S:ay):Tri Tryz.prog C5 [] [] S fun r I' S'=>S'=S/\∃ sb mb,r=.pointer (some ⟨sb,0,none⟩)/\I'=cL sb mb #[] 0 (.slice none 0 0) []:=by
 intro w hI
 have hI:Inv w [] [] S w:=hI
 refine ue ?_
 unfold pp
 refine ub hI fun mb w' hI=>?_
 refine B0 ?_
 refine bN hI fun sb w' hI=>?_
 have hI:=hI.rowNil dw 1
 have hI:Inv w [] (cL sb mb #[] 0 (.slice none 0 0) []) S w':=hI.perm (List.Perm.swap ..)
 exact ⟨_,_,_,rfl,hI,Ext.refl _ _ _,rfl,sb,mb,rfl,rfl⟩
theorem KnownM.none (S:ay) (N:Nat):KnownM S #[] (List.replicate N Option.none):=by
 refine ⟨fun e he=>by simp at he,fun n t h=>?_⟩
 have:=List.mem_of_getElem? h
 simp at this
set_option maxHeartbeats 2000000 in
theorem sE {c0 d0:C} {o:Option (Option C)} (hc:bG c0=true) (hd:bG d0=true) (hwc:wC c0<=1048576) (hwd:wC d0<=1048576) (hb:c0.body≠[]) (ho:RO c0 d0 o) {S:ay} {cs ds:List Value} (h:RdC S cs c0) (h':RdC S ds d0) :
  Tri Tryz.prog Aa [.agg cs.toArray,.agg ds.toArray] [] S (Li o):=by
 intro w hI
 have hI:Inv w [] [] S w:=hI
 obtain ⟨d1,d2,d3⟩:=gr hd
 have hrl:=tW hc hd
 have hrok:=nT hc hd
 have hj0:=lB hc hd hwc hwd hb
 obtain ⟨r,st,hu,hcase⟩:=ho
 obtain ⟨hg,_⟩:=hu.good iZ hj0
 obtain ⟨hd0,ks,rfl,h1,h2⟩:=h
 have h1':=h1
 obtain ⟨kc0,rfl,g1,g2,g3,g4⟩:=RdT.iff.1 h1
 have hb0:0<c0.body.length:=List.length_pos_iff.2 hb
 obtain ⟨bb,bo,bcap,bc,bE,bfz,rfl,hbS,hbR⟩:=h2.at_ hb0
 have hfirst:c0.body.headD ⟨0,0,⟨#[]⟩,[]⟩=c0.body[0]:=A7 _ hb0 _
 rw [hfirst] at hu hj0
 obtain ⟨hdd,dks,rfl,k1,k2⟩:=h'
 have k1':=k1
 obtain ⟨kd0,rfl,_⟩:=RdT.iff.1 k1
 obtain ⟨da,dcap,rfl,_⟩:=id k2
 have hwdh:wT d0.head<=1048576:=by unfold wC at hwd; omega
 refine sC ?_
 unfold mY
 refine bN hI fun b2 w' hI=>?_
 refine bN hI fun b3 w' hI=>?_
 refine a9 hI bM fun b4 w' hI=>?_
 refine Run.call0 AB At hI (xD S) fun v' I' S' w'=>?_
 rintro ⟨eS,sb,mb,rfl,rfl⟩ _ hI
 rw [eS] at hI
 clear eS
 have hI:Inv w [] ([.blk b2 (.cells #[.int .i64 c0.head.kind,.int .i64 c0.head.n,.string c0.head.name,kc0,.slice (some ⟨bb,bo,none⟩) c0.body.length bcap] ac),.blk b3 (.cells #[.int .i64 d0.head.kind,.int .i64 d0.head.n,.string d0.head.name,kd0,.slice da d0.body.length dcap] ac),.blk b4 (.cells #[.int .i64 0,.int .i64 0,.string ⟨#[]⟩,.slice none 0 0,.slice none 0 0] ac)]++cL sb mb #[] 0 (.slice none 0 0) []) S w':=hI
 refine ⟨fun D c7 cB bV cJ dz dg df cC cz ef dD w_=>(D 0=true->dD=.pointer (some ⟨sb,0,none⟩))/\(D 1=true->ef=.pointer (some ⟨b2,4,none⟩))/\(D 2=true->cz=.slice (some ⟨bb,bo,none⟩) c0.body.length bcap)/\(D 3=true->cC=.pointer (some ⟨bb,bo+0 * 4,none⟩))/\(D 4=true->df=.agg (bJ bc (bo+0 * 4) 4).toArray)/\(D 5=true->dg=.pointer (some ⟨b3,0,none⟩))/\(D 6=true->dz=.agg #[.int .i64 d0.head.kind,.int .i64 d0.head.n,.string d0.head.name,kd0])/\(D 7=true->cJ=Value.func (.func mK) #[] #[])/\(D 8=true->True)/\(D 9=true->cB=.bool r)/\(D 10=true->c7=.bool (!r))/\∃ SN cs8,Ext w.heap.size [] S SN/\(D 8=true->bV=.agg (List.toArray cs8)/\RdT SN cs8 (dR 26 d0.head))/\(D 9=true->D 8=true)/\(D 9=false->Inv w [] ([.blk b2 (.cells #[.int .i64 c0.head.kind,.int .i64 c0.head.n,.string c0.head.name,kc0,.slice (some ⟨bb,bo,none⟩) c0.body.length bcap] ac),.blk b3 (.cells #[.int .i64 d0.head.kind,.int .i64 d0.head.n,.string d0.head.name,kd0,.slice da d0.body.length dcap] ac),.blk b4 (.cells #[.int .i64 0,.int .i64 0,.string ⟨#[]⟩,.slice none 0 0,.slice none 0 0] ac)]++cL sb mb #[] 0 (.slice none 0 0) []) SN w_)/\(D 9=true->∃ es ck tv tr,KnownM SN es st/\Inv w [] ([.blk b2 (.cells #[.int .i64 c0.head.kind,.int .i64 c0.head.n,.string c0.head.name,kc0,.slice (some ⟨bb,bo,none⟩) c0.body.length bcap] ac),.blk b3 (.cells #[.int .i64 d0.head.kind,.int .i64 d0.head.n,.string d0.head.name,kd0,.slice da d0.body.length dcap] ac),.blk b4 (.cells #[.int .i64 0,.int .i64 0,.string ⟨#[]⟩,.slice none 0 0,.slice none 0 0] ac)]++cL sb mb es ck tv tr) SN w_)/\∃ es3 ck3 tv3 tr3,Inv w [] ([.blk b2 (.cells #[.int .i64 c0.head.kind,.int .i64 c0.head.n,.string c0.head.name,kc0,.slice (some ⟨bb,bo,none⟩) c0.body.length bcap] ac),.blk b3 (.cells #[.int .i64 d0.head.kind,.int .i64 d0.head.n,.string d0.head.name,kd0,.slice da d0.body.length dcap] ac),.blk b4 (.cells #[.int .i64 0,.int .i64 0,.string ⟨#[]⟩,.slice none 0 0,.slice none 0 0] ac)]++cL sb mb es3 ck3 tv3 tr3) SN w_,⟨af,af,af,af,af,af,af,af,af,af,af,⟨S,[],Ext.refl _ _ _,af,af,fun _=>hI.draw,af,_,_,_,_,hI.draw⟩⟩,⟨?_,?_,?_,?_,?_,?_,?_,?_,?_,?_,?_,trivial⟩,?_⟩
 ·intro D aS  c7 cB bV cJ dz dg df cC cz ef dD w_
  rintro ⟨aA,az,aB,ax,aD,aC,aw,aJ,aN,aR,aq,⟨SN,cs8,hN,e8,k98,hI0,hI1,es3,ck3,tv3,tr3,hI⟩⟩
  exact ⟨fun _=>rfl,az,aB,ax,aD,aC,aw,aJ,aN,aR,aq,⟨SN,cs8,hN,e8,k98,hI0,hI1,es3,ck3,tv3,tr3,hI⟩⟩
 ·intro D aS  c7 cB bV cJ dz dg df cC cz ef dD w_
  rintro ⟨aA,az,aB,ax,aD,aC,aw,aJ,aN,aR,aq,⟨SN,cs8,hN,e8,k98,hI0,hI1,es3,ck3,tv3,tr3,hI⟩⟩
  refine bj bl ?_
  exact ⟨aA,fun _=>rfl,aB,ax,aD,aC,aw,aJ,aN,aR,aq,⟨SN,cs8,hN,e8,k98,hI0,hI1,es3,ck3,tv3,tr3,hI⟩⟩
 ·intro D aS dB c7 cB bV cJ dz dg df cC cz ef dD w_
  rintro ⟨aA,az,aB,ax,aD,aC,aw,aJ,aN,aR,aq,⟨SN,cs8,hN,e8,k98,hI0,hI1,es3,ck3,tv3,tr3,hI⟩⟩
  obtain rfl:=az dB
  refine bB hI 0 aL rfl rfl ?_
  exact ⟨aA,az,fun _=>rfl,ax,aD,aC,aw,aJ,aN,aR,aq,⟨SN,cs8,hN,e8,k98,hI0,hI1,es3,ck3,tv3,tr3,hI⟩⟩
 ·intro D aS cM c7 cB bV cJ dz dg df cC cz ef dD w_
  rintro ⟨aA,az,aB,ax,aD,aC,aw,aJ,aN,aR,aq,⟨SN,cs8,hN,e8,k98,hI0,hI1,es3,ck3,tv3,tr3,hI⟩⟩
  obtain rfl:=aB cM
  refine bq (i:=0) aG hb0 ?_
  exact ⟨aA,az,aB,fun _=>rfl,aD,aC,aw,aJ,aN,aR,aq,⟨SN,cs8,hN,e8,k98,hI0,hI1,es3,ck3,tv3,tr3,hI⟩⟩
 ·intro D aS dh c7 cB bV cJ dz dg df cC cz ef dD w_
  rintro ⟨aA,az,aB,ax,aD,aC,aw,aJ,aN,aR,aq,⟨SN,cs8,hN,e8,k98,hI0,hI1,es3,ck3,tv3,tr3,hI⟩⟩
  obtain rfl:=ax dh
  refine dF ag hbR.length (fun j v hj=>by rw [hI.cellS (hN.1 _ _ hbS)]; exact bx rfl j v hj) ?_
  exact ⟨aA,az,aB,ax,fun _=>rfl,aC,aw,aJ,aN,aR,aq,⟨SN,cs8,hN,e8,k98,hI0,hI1,es3,ck3,tv3,tr3,hI⟩⟩
 ·intro D aS  c7 cB bV cJ dz dg df cC cz ef dD w_
  rintro ⟨aA,az,aB,ax,aD,aC,aw,aJ,aN,aR,aq,⟨SN,cs8,hN,e8,k98,hI0,hI1,es3,ck3,tv3,tr3,hI⟩⟩
  refine bj bQ ?_
  exact ⟨aA,az,aB,ax,aD,fun _=>rfl,aw,aJ,aN,aR,aq,⟨SN,cs8,hN,e8,k98,hI0,hI1,es3,ck3,tv3,tr3,hI⟩⟩
 ·intro D aS dT c7 cB bV cJ dz dg df cC cz ef dD w_
  rintro ⟨aA,az,aB,ax,aD,aC,aw,aJ,aN,aR,aq,⟨SN,cs8,hN,e8,k98,hI0,hI1,es3,ck3,tv3,tr3,hI⟩⟩
  obtain rfl:=aC dT
  refine cY hI 1 [.int .i64 d0.head.kind,.int .i64 d0.head.n,.string d0.head.name,kd0] ag rfl rfl n3 ?_
  exact ⟨aA,az,aB,ax,aD,aC,fun _=>rfl,aJ,aN,aR,aq,⟨SN,cs8,hN,e8,k98,hI0,hI1,es3,ck3,tv3,tr3,hI⟩⟩
 ·intro D aS  c7 cB bV cJ dz dg df cC cz ef dD w_
  rintro ⟨aA,az,aB,ax,aD,aC,aw,aJ,aN,aR,aq,⟨SN,cs8,hN,e8,k98,hI0,hI1,es3,ck3,tv3,tr3,hI⟩⟩
  exact ⟨aA,az,aB,ax,aD,aC,aw,fun _=>rfl,aN,aR,aq,⟨SN,cs8,hN,e8,k98,hI0,hI1,es3,ck3,tv3,tr3,hI⟩⟩
 ·intro D aS bW lP c7 cB bV cJ dz dg df cC cz ef dD w_
  rintro ⟨aA,az,aB,ax,aD,aC,aw,aJ,aN,aR,aq,⟨SN,cs8,hN,e8,k98,hI0,hI1,es3,ck3,tv3,tr3,hI⟩⟩
  obtain rfl:=aw bW
  obtain rfl:=aJ lP
  have f9:D 9=false:=Bool.eq_false_iff.2 fun h=>by rw [k98 h] at aS; cases aS
  have hI:=hI0 f9
  refine Run.call0E il h8 hI (xE [] Fs lj kY _ SN _ (k1'.mono hN.1) (Cz _ d1) hwdh (ms SN)) fun v' I' SN w_=>?_
  rintro ⟨rfl,cs8,rfl,hR8⟩ hE8 hI
  rw [qP _ d1] at hR8
  have hN:=hN.trans hE8
  have hI:Inv w [] ([.blk b2 (.cells #[.int .i64 c0.head.kind,.int .i64 c0.head.n,.string c0.head.name,kc0,.slice (some ⟨bb,bo,none⟩) c0.body.length bcap] ac),.blk b3 (.cells #[.int .i64 d0.head.kind,.int .i64 d0.head.n,.string d0.head.name,kd0,.slice da d0.body.length dcap] ac),.blk b4 (.cells #[.int .i64 0,.int .i64 0,.string ⟨#[]⟩,.slice none 0 0,.slice none 0 0] ac)]++cL sb mb #[] 0 (.slice none 0 0) []) SN w_:=by simpa using hI
  have e8:=fun (_:ao D 8 8=true)=>(⟨rfl,hR8⟩:Value.agg (List.toArray cs8)=Value.agg (List.toArray cs8)/\RdT SN cs8 (dR 26 d0.head))
  have k98:=fun (_:ao D 8 9=true)=>(rfl:ao D 8 8=true)
  have hI0:=fun (_:ao D 8 9=false)=>hI
  have hI1:=fun (h:ao D 8 9=true)=>(Bool.noConfusion (f9.symm.trans h):∃ es ck tv tr,KnownM SN es st/\Inv w [] ([.blk b2 (.cells #[.int .i64 c0.head.kind,.int .i64 c0.head.n,.string c0.head.name,kc0,.slice (some ⟨bb,bo,none⟩) c0.body.length bcap] ac),.blk b3 (.cells #[.int .i64 d0.head.kind,.int .i64 d0.head.n,.string d0.head.name,kd0,.slice da d0.body.length dcap] ac),.blk b4 (.cells #[.int .i64 0,.int .i64 0,.string ⟨#[]⟩,.slice none 0 0,.slice none 0 0] ac)]++cL sb mb es ck tv tr) SN w_)
  obtain ⟨es3,ck3,tv3,tr3,hI⟩:∃ es3 ck3 tv3 tr3,Inv w [] ([.blk b2 (.cells #[.int .i64 c0.head.kind,.int .i64 c0.head.n,.string c0.head.name,kc0,.slice (some ⟨bb,bo,none⟩) c0.body.length bcap] ac),.blk b3 (.cells #[.int .i64 d0.head.kind,.int .i64 d0.head.n,.string d0.head.name,kd0,.slice da d0.body.length dcap] ac),.blk b4 (.cells #[.int .i64 0,.int .i64 0,.string ⟨#[]⟩,.slice none 0 0,.slice none 0 0] ac)]++cL sb mb es3 ck3 tv3 tr3) SN w_:=⟨_,_,_,_,hI⟩
  exact ⟨aA,az,aB,ax,aD,aC,aw,aJ,fun _=>by first|assumption|trivial,aR,aq,⟨SN,cs8,hN,e8,k98,hI0,hI1,es3,ck3,tv3,tr3,hI⟩⟩
 ·intro D aS cA eD o6 NE c7 cB bV cJ dz dg df cC cz ef dD w_
  rintro ⟨aA,az,aB,ax,aD,aC,aw,aJ,aN,aR,aq,⟨SN,cs8,hN,e8,k98,hI0,hI1,es3,ck3,tv3,tr3,hI⟩⟩
  obtain rfl:=aA cA
  obtain rfl:=aD eD
  have E3:=aN o6
  obtain ⟨q8,hR8⟩:=e8 o6
  subst q8
  have hcall:=AN (by omega) iZ hj0 hu SN _ _ sb mb 0 #[] (.slice none 0 0) [] (hbR.mono hN.1) hR8 (KnownM.none SN 52) (by rw [stU,Kw]; simp)
  refine Run.callE (A:=[_,_,_]) lk kV (hI0 aS) hcall fun v' I' S' w_=>?_
  rintro ⟨eS,rfl,es2,ck2,tv2,tr2,rfl,hm2,_⟩ _ hI
  rw [eS] at hI
  have k98:=fun (_:ao D 9 9=true)=>o6
  have hI0:=fun (h:ao D 9 9=false)=>(Bool.noConfusion h:Inv w [] ([.blk b2 (.cells #[.int .i64 c0.head.kind,.int .i64 c0.head.n,.string c0.head.name,kc0,.slice (some ⟨bb,bo,none⟩) c0.body.length bcap] ac),.blk b3 (.cells #[.int .i64 d0.head.kind,.int .i64 d0.head.n,.string d0.head.name,kd0,.slice da d0.body.length dcap] ac),.blk b4 (.cells #[.int .i64 0,.int .i64 0,.string ⟨#[]⟩,.slice none 0 0,.slice none 0 0] ac)]++cL sb mb #[] 0 (.slice none 0 0) []) SN w_)
  have hI1:=fun (_:ao D 9 9=true)=>(⟨es2,ck2,tv2,tr2,hm2,hI⟩:∃ es ck tv tr,KnownM SN es st/\Inv w [] ([.blk b2 (.cells #[.int .i64 c0.head.kind,.int .i64 c0.head.n,.string c0.head.name,kc0,.slice (some ⟨bb,bo,none⟩) c0.body.length bcap] ac),.blk b3 (.cells #[.int .i64 d0.head.kind,.int .i64 d0.head.n,.string d0.head.name,kd0,.slice da d0.body.length dcap] ac),.blk b4 (.cells #[.int .i64 0,.int .i64 0,.string ⟨#[]⟩,.slice none 0 0,.slice none 0 0] ac)]++cL sb mb es ck tv tr) SN w_)
  obtain ⟨es3,ck3,tv3,tr3,hI⟩:∃ es3 ck3 tv3 tr3,Inv w [] ([.blk b2 (.cells #[.int .i64 c0.head.kind,.int .i64 c0.head.n,.string c0.head.name,kc0,.slice (some ⟨bb,bo,none⟩) c0.body.length bcap] ac),.blk b3 (.cells #[.int .i64 d0.head.kind,.int .i64 d0.head.n,.string d0.head.name,kd0,.slice da d0.body.length dcap] ac),.blk b4 (.cells #[.int .i64 0,.int .i64 0,.string ⟨#[]⟩,.slice none 0 0,.slice none 0 0] ac)]++cL sb mb es3 ck3 tv3 tr3) SN w_:=⟨_,_,_,_,hI⟩
  exact ⟨aA,az,aB,ax,aD,aC,aw,aJ,aN,fun _=>rfl,aq,⟨SN,cs8,hN,e8,k98,hI0,hI1,es3,ck3,tv3,tr3,hI⟩⟩
 ·intro D aS o3 c7 cB bV cJ dz dg df cC cz ef dD w_
  rintro ⟨aA,az,aB,ax,aD,aC,aw,aJ,aN,aR,aq,⟨SN,cs8,hN,e8,k98,hI0,hI1,es3,ck3,tv3,tr3,hI⟩⟩
  obtain rfl:=aR o3
  refine cN ?_
  exact ⟨aA,az,aB,ax,aD,aC,aw,aJ,aN,aR,fun _=>rfl,⟨SN,cs8,hN,e8,k98,hI0,hI1,es3,ck3,tv3,tr3,hI⟩⟩
 intro D fg jA g7 gc fj ft fL fX fM fP fY c7 cB bV cJ dz dg df cC cz ef dD w_
 rintro ⟨aA,az,aB,ax,aD,aC,aw,aJ,aN,aR,aq,⟨SN,cs8,hN,e8,k98,hI0,hI1,es3,ck3,tv3,tr3,hI⟩⟩
 obtain rfl:=aq fg
 obtain rfl:=aR jA
 have E3:=aN g7
 obtain rfl:=aJ gc
 obtain rfl:=aw fj
 obtain rfl:=aC ft
 obtain rfl:=aD fL
 obtain rfl:=ax fX
 obtain rfl:=aB fM
 obtain rfl:=az fP
 obtain rfl:=aA fY
 clear aA az aB ax aD aC aw aJ aN aR aq
 obtain ⟨es,ck,tv,tr,hkm,hI⟩:=hI1 jA
 clear hI0 hI1 e8 k98
 have hzo:∀ x∈([.int .i64 0,.int .i64 0,.string ⟨#[]⟩,.slice none 0 0,.slice none 0 0]:List Value),x.oneCell'=true:=tE
 refine a7 (fun hbr=>?_) (fun hbr=>?_)
 ·have hr:r=false:=by simpa using hbr
  have hoN:o=none:=by
   rcases hcase with ⟨_,h⟩|⟨h,_⟩
   ·exact h
   ·rw [hr] at h; cases h
  subst hoN
  refine dL ?_
  refine aM hI 2 rfl aI rfl rfl hzo fun w' hI=>?_
  refine bA hI 2 aI rfl rfl ?_
  exact ⟨_,_,_,rfl,hI.nil,hN,[.int .i64 0,.int .i64 0,.string ⟨#[]⟩,.slice none 0 0,.slice none 0 0],[],rfl,rfl,TrC.zero⟩
 have hr:r=true:=by simpa using hbr
 obtain ⟨us,hus,hsm⟩:∃ us,Res st (.list (iC c0 d0) us)/\((us.all dO=false/\o=some none) ∨ (us.all dO=true/\o=some (some (ir (bD (ofL us)) (ofL us))))):=by
  rcases hcase with ⟨h,_⟩|⟨_,h⟩
  ·rw [hr] at h; cases h
  ·exact h
 clear hcase
 have hI:Inv w [] (([.blk b2 (.cells #[.int .i64 c0.head.kind,.int .i64 c0.head.n,.string c0.head.name,kc0,.slice (some ⟨bb,bo,none⟩) c0.body.length bcap] ac),.blk b3 (.cells #[.int .i64 d0.head.kind,.int .i64 d0.head.n,.string d0.head.name,kd0,.slice da d0.body.length dcap] ac),.blk b4 (.cells #[.int .i64 0,.int .i64 0,.string ⟨#[]⟩,.slice none 0 0,.slice none 0 0] ac)]++[el tv tr])++bw [(sb,.cells #[.map (some mb),tv] dU),(mb,.map es ck)]) SN w_:=hI.perm (List.Perm.cons _ (List.Perm.cons _ (List.Perm.cons _ (List.perm_append_comm (l₁:=[el tv tr]) (l₂:=bw [(sb,.cells #[.map (some mb),tv] dU),(mb,.map es ck)])))))
 obtain ⟨S1,hI,hE1,hins1⟩:=Inv.pubExt hI
 have hst1:StS S1 S1 sb st:=⟨mb,tv,es,ck,dU,hins1 _ (List.mem_cons_self ..),hins1 _ (List.mem_cons_of_mem _ (List.mem_cons_self ..)),hkm.up hE1.1⟩
 have hE:=hN.trans hE1
 have hI:Inv w [] [.blk b2 (.cells #[.int .i64 c0.head.kind,.int .i64 c0.head.n,.string c0.head.name,kc0,.slice (some ⟨bb,bo,none⟩) c0.body.length bcap] ac),.blk b3 (.cells #[.int .i64 d0.head.kind,.int .i64 d0.head.n,.string d0.head.name,kd0,.slice da d0.body.length dcap] ac),.blk b4 (.cells #[.int .i64 0,.int .i64 0,.string ⟨#[]⟩,.slice none 0 0,.slice none 0 0] ac)] S1 w_:=hI.pick [true,true,true,false]
 refine bj bQ ?_
 refine cY hI 0 [.int .i64 c0.head.kind,.int .i64 c0.head.n,.string c0.head.name,kc0] ag rfl rfl n3 ?_
 refine dJ hI bC (by simp [Value.cells]) (by omega) (by omega) fun b31 w' hI=>?_
 have hI:=Inv.closeRow (A:=[_,_,_]) (cap:=1) (k:=4) (n:=1) hI (by omega) (by simp [maxLen]) (by simp [Value.cells])
 have h1S:=h1'.mono hE.1
 have hR0:Rows 4 (RdT S1) [[.int .i64 c0.head.kind,.int .i64 c0.head.n,.string c0.head.name,kc0]] (c0.head::ed 26 (d0.body.take 0)):=Rows.one h1S h1S.length
 refine ar hI 1 rfl bl aL rfl ?_
 refine bm (k2.monoT hE.1) aG ?_
 refine ⟨fun i t w'=>∃ (j:Nat) (css:List (List Value)) (S':ay),j<=d0.body.length/\i=.int .i64 j/\Ext w.heap.size [] S1 S'/\Rows 4 (RdT S') css (c0.head::ed 26 (d0.body.take j))/\Inv w [] [.blk b2 (.cells #[.int .i64 c0.head.kind,.int .i64 c0.head.n,.string c0.head.name,kc0,.slice (some ⟨bb,bo,none⟩) c0.body.length bcap] ac),.blk b3 (.cells #[.int .i64 d0.head.kind,.int .i64 d0.head.n,.string d0.head.name,kd0,.slice da d0.body.length dcap] ac),.blk b4 (.cells #[.int .i64 0,.int .i64 0,.string ⟨#[]⟩,.slice none 0 0,.slice none 0 0] ac),a5 t ab 4 css] S' w',
  fun i _ _=>d0.body.length - (intOf i).toNat,⟨0,_,S1,Nat.zero_le _,rfl,Ext.refl _ _ _,hR0,hI⟩,?_⟩
 intro t35 _ t9 _ _ _ _ _ _ _ _ _ _ w'
 rintro ⟨j,css,S2,hj,rfl,hE2,hR,hI⟩
 have hclr:=hR.hc
 rw [List.length_cons,eV,List.length_map,List.length_take] at hclr
 refine cF ?_
 refine bF (fun hji=>?_) (fun hji=>?_)
 ·have hj':j<d0.body.length:=by omega
  have hm:=List.getElem_mem hj'
  have hwm:=kf hm
  refine dN hI (k2.monoT (hE.1.trans hE2.1)) aG ag hj' (fun _ _=>RdT.length) fun cs1 hcs1=>?_
  have hlc1:=hcs1.length
  refine a9 hI bt fun b11 w' hI=>?_
  have hI:=hI.perm (M:=.blk b11 _::[.blk b2 (.cells #[.int .i64 c0.head.kind,.int .i64 c0.head.n,.string c0.head.name,kc0,.slice (some ⟨bb,bo,none⟩) c0.body.length bcap] ac),.blk b3 (.cells #[.int .i64 d0.head.kind,.int .i64 d0.head.n,.string d0.head.name,kd0,.slice da d0.body.length dcap] ac),.blk b4 (.cells #[.int .i64 0,.int .i64 0,.string ⟨#[]⟩,.slice none 0 0,.slice none 0 0] ac),a5 t9 ab 4 css]) (List.perm_append_comm (l₁:=[_]))
  refine aM hI 0 rfl ag (by simpa using hlc1) rfl (by simpa using hcs1.one) fun w' hI=>?_
  refine aO hI 0 ag rfl (by simpa using hlc1) ?_
  refine Run.call0E il h8 hI (xE [] Fs lj kY _ S2 _ hcs1 (Cz _ (d2 _ hm)) (by unfold wC at hwd; omega) (ms S2)) fun v' I' S3 w'=>?_
  rintro ⟨rfl,cs2,rfl,hR2⟩ hE3 hI
  rw [qP _ (d2 _ hm)] at hR2
  have hI:Inv w [] (.blk b11 (.cells cs1.toArray ab)::[.blk b2 (.cells #[.int .i64 c0.head.kind,.int .i64 c0.head.n,.string c0.head.name,kc0,.slice (some ⟨bb,bo,none⟩) c0.body.length bcap] ac),.blk b3 (.cells #[.int .i64 d0.head.kind,.int .i64 d0.head.n,.string d0.head.name,kd0,.slice da d0.body.length dcap] ac),.blk b4 (.cells #[.int .i64 0,.int .i64 0,.string ⟨#[]⟩,.slice none 0 0,.slice none 0 0] ac),a5 t9 ab 4 css]) S3 w':=by simpa using hI
  refine eL hI 4 cs2 bC (by omega) (by omega) rfl hR2.length hR2.one (by omega) (by omega) fun t44 w' hI=>?_
  have hI:Inv w [] [.blk b2 (.cells #[.int .i64 c0.head.kind,.int .i64 c0.head.n,.string c0.head.name,kc0,.slice (some ⟨bb,bo,none⟩) c0.body.length bcap] ac),.blk b3 (.cells #[.int .i64 d0.head.kind,.int .i64 d0.head.n,.string d0.head.name,kd0,.slice da d0.body.length dcap] ac),.blk b4 (.cells #[.int .i64 0,.int .i64 0,.string ⟨#[]⟩,.slice none 0 0,.slice none 0 0] ac),a5 t44 ab 4 (css++[cs2])] S3 w':=hI.sub (List.sublist_cons_self _ _)
  refine bR (by omega) ?_
  refine ⟨⟨j+1,css++[cs2],S3,hj',rfl,hE2.trans hE3,?_,hI⟩,by simp [intOf]; omega⟩
  rw [oH 26 d0.body j hj',<- List.cons_append]
  exact (hR.monoR fun _ _ h=>RdT.mono hE3.1 h).snoc hR2 hR2.length
 have hjd:j=d0.body.length:=by omega
 subst hjd
 rw [List.take_length] at hR
 have hEa:=hE.trans hE2
 refine ar hI 0 rfl bl aL rfl ?_
 refine je (l:=1) aG (h2.monoT hEa.1) (by omega) fun v49 hv49=>?_
 refine j3 hI 3 bC (by omega) rfl hv49 (fun _ _=>RdT.length) (fun _ _=>RdT.one) (by rw [iC,List.length_cons,List.length_append,eV,List.length_map] at hrl; omega) (by omega) fun v50 w' css2 hR2 hI=>?_
 have hR:=hR.append hR2
 have hR:Rows 4 (RdT S2) (css++css2) (iC c0 d0):=hR
 obtain ⟨hlu,hlen⟩:=xq hg hus hrok
 have hlen':us.length=(iC c0 d0).length:=hlen
 have hne:0<(iC c0 d0).length:=by rw [iC]; simp
 have hwxs:∀ x∈iC c0 d0,wT x<=1048576:=by
  intro x hx
  rw [iC] at hx
  unfold wC at hwc hwd
  rcases List.mem_cons.1 hx with rfl|hx
  ·omega
  ·rcases List.mem_append.1 hx with hx|hx
   ·have:=kf hx
    rw [rS] at this
    omega
   ·have:=kf (List.mem_of_mem_drop hx)
    omega
 generalize iC c0 d0=xs at hus hrl hrok hR hlen' hne hwxs
 clear hlen
 have hcl:=hR.hc
 have hI:Inv w [] ([.blk b2 (.cells #[.int .i64 c0.head.kind,.int .i64 c0.head.n,.string c0.head.name,kc0,.slice (some ⟨bb,bo,none⟩) c0.body.length bcap] ac),.blk b3 (.cells #[.int .i64 d0.head.kind,.int .i64 d0.head.n,.string d0.head.name,kd0,.slice da d0.body.length dcap] ac),.blk b4 (.cells #[.int .i64 0,.int .i64 0,.string ⟨#[]⟩,.slice none 0 0,.slice none 0 0] ac)]++[a5 v50 ab 4 (css++css2)]) S2 w':=hI
 obtain ⟨hfl,hopen⟩:=hI.openRow
 rcases hopen with ⟨_,hn0⟩|⟨g,cap,cur,rfl,hncap,hcapm,hcurs,htake,hI⟩
 ·omega
 have hcell:∀ i (h:i<xs.length),RdT S2 (bJ cur (i * 4) 4) xs[i]:=by
  intro i hi
  have h1:=jX 4 (css++css2) i hR.hk (by omega)
  have hik:i * 4+4<=(css++css2).length * 4:=by omega
  rw [<- htake,List.drop_take,List.take_take,Nat.min_eq_left (by omega)] at h1
  rw [bJ,h1]
  exact hR.hR i hi (by omega)
 rw [hcl] at hncap
 rw [hcl]
 refine iE aG ?_
 refine ⟨fun i w'=>∃ (j:Nat) (c':Array Value) (S':ay),j<=us.length/\i=.int .i64 j/\Ext w.heap.size [] S2 S'/\c'.size=cap * 4/\(∀ k (_:k<us.length),k<j->dO us[k]=true)/\(∀ k (_:k<us.length),k<j->RdT S' (bJ c' (k * 4) 4) us[k])/\(∀ k (_:k<xs.length),j<=k->RdT S' (bJ c' (k * 4) 4) xs[k])/\Inv w [] [.blk b2 (.cells #[.int .i64 c0.head.kind,.int .i64 c0.head.n,.string c0.head.name,kc0,.slice (some ⟨bb,bo,none⟩) c0.body.length bcap] ac),.blk b3 (.cells #[.int .i64 d0.head.kind,.int .i64 d0.head.n,.string d0.head.name,kd0,.slice da d0.body.length dcap] ac),.blk b4 (.cells #[.int .i64 0,.int .i64 0,.string ⟨#[]⟩,.slice none 0 0,.slice none 0 0] ac),.blk g (.cells c' ab)] S' w',
  fun i _=>us.length - (intOf i).toNat,⟨0,cur,S2,Nat.zero_le _,rfl,Ext.refl _ _ _,hcurs,fun k _ h=>by omega,fun k _ h=>by omega,fun k hk _=>hcell k hk,hI⟩,?_⟩
 intro t53 _ _ _ _ _ t6 t5 _ _ _ _ _ _ _ _ _ _ _ _ _ _ _ _ _ w'
 rintro ⟨j,c',S3,hj,rfl,hE3,hcs',hdone,hA,hB,hI⟩
 refine cF ?_
 refine bF (fun hji=>?_) (fun hji=>?_)
 ·have hj2:j<xs.length:=by omega
  have hj1:j<us.length:=by omega
  have hm2:=List.getElem_mem hj2
  have hRj:=hB j hj2 (Nat.le_refl _)
  refine bq aG (by omega) ?_
  rw [Nat.zero_add]
  refine cY hI 3 (bJ c' (j * 4) 4) ag rfl hRj.length (fun i v hi=>bx rfl i v hi) ?_
  have hlj:=hRj.length
  refine a9 hI bt fun b13 w' hI=>?_
  have hI:=hI.perm (M:=.blk b13 _::[.blk b2 (.cells #[.int .i64 c0.head.kind,.int .i64 c0.head.n,.string c0.head.name,kc0,.slice (some ⟨bb,bo,none⟩) c0.body.length bcap] ac),.blk b3 (.cells #[.int .i64 d0.head.kind,.int .i64 d0.head.n,.string d0.head.name,kd0,.slice da d0.body.length dcap] ac),.blk b4 (.cells #[.int .i64 0,.int .i64 0,.string ⟨#[]⟩,.slice none 0 0,.slice none 0 0] ac),.blk g (.cells c' ab)]) (List.perm_append_comm (l₁:=[_]))
  refine aM hI 0 rfl ag (by simpa using hlj) rfl (by simpa using hRj.one) fun w' hI=>?_
  refine aO hI 0 ag rfl (by simpa using hlj) ?_
  refine Run.call0E p6 pV hI (Ae hg (GS hus j hj2 hj1) ⟨jL hrok _ hm2,hwxs _ hm2⟩ hRj ((hst1.up hE2.1).up hE3.1)) fun v' I' S4 w'=>?_
  rintro ⟨rfl,cs4,hl4,ho4,rfl,hrd4⟩ hE4 hI
  refine aT rfl ?_
  refine aT rfl ?_
  rw [List.append_nil] at hI
  refine a9 hI bt fun b14 w' hI=>?_
  have hI:=hI.perm (M:=.blk b14 _::.blk b13 (.cells (bJ c' (j * 4) 4).toArray ab)::[.blk b2 (.cells #[.int .i64 c0.head.kind,.int .i64 c0.head.n,.string c0.head.name,kc0,.slice (some ⟨bb,bo,none⟩) c0.body.length bcap] ac),.blk b3 (.cells #[.int .i64 d0.head.kind,.int .i64 d0.head.n,.string d0.head.name,kd0,.slice da d0.body.length dcap] ac),.blk b4 (.cells #[.int .i64 0,.int .i64 0,.string ⟨#[]⟩,.slice none 0 0,.slice none 0 0] ac),.blk g (.cells c' ab)]) (List.perm_append_comm (l₁:=[_]))
  refine aM hI 0 rfl ag (by simpa using hl4) rfl (by simpa using ho4) fun w' hI=>?_
  have hI:Inv w [] (.blk b14 (.cells cs4.toArray ab)::.blk b13 (.cells (bJ c' (j * 4) 4).toArray ab)::[.blk b2 (.cells #[.int .i64 c0.head.kind,.int .i64 c0.head.n,.string c0.head.name,kc0,.slice (some ⟨bb,bo,none⟩) c0.body.length bcap] ac),.blk b3 (.cells #[.int .i64 d0.head.kind,.int .i64 d0.head.n,.string d0.head.name,kd0,.slice da d0.body.length dcap] ac),.blk b4 (.cells #[.int .i64 0,.int .i64 0,.string ⟨#[]⟩,.slice none 0 0,.slice none 0 0] ac),.blk g (.cells c' ab)]) S4 w':=hI
  refine cN ?_
  refine a7 (fun hsb=>?_) (fun hsb=>?_)
  ·have hsf:dO us[j]=false:=by simpa using hsb
   have hoS:o=some none:=by
    rcases hsm with ⟨_,h⟩|⟨h,_⟩
    ·exact h
    ·rw [List.all_eq_true] at h
     rw [h _ (List.getElem_mem hj1)] at hsf
     cases hsf
   subst hoS
   refine dL ?_
   refine aM hI 4 rfl aI rfl rfl hzo fun w' hI=>?_
   refine bA hI 4 aI rfl rfl ?_
   exact ⟨_,_,_,rfl,hI.nil,(hEa.trans hE3).trans hE4,[.int .i64 0,.int .i64 0,.string ⟨#[]⟩,.slice none 0 0,.slice none 0 0],[],rfl,rfl,TrC.zero⟩
  ·have hstt:dO us[j]=true:=by simpa using hsb
   have hR4:=hrd4 hstt
   refine aO hI 0 ag rfl (by simpa using hl4) ?_
   refine bq aG (by omega) ?_
   rw [Nat.zero_add]
   refine yC hI 5 rfl ag (by simpa [Value.cells] using hl4) (Nat.ble_eq_true_of_le (by omega)) (by simpa [Value.cells] using ho4) fun w' hI=>?_
   have hI:Inv w [] [.blk b2 (.cells #[.int .i64 c0.head.kind,.int .i64 c0.head.n,.string c0.head.name,kc0,.slice (some ⟨bb,bo,none⟩) c0.body.length bcap] ac),.blk b3 (.cells #[.int .i64 d0.head.kind,.int .i64 d0.head.n,.string d0.head.name,kd0,.slice da d0.body.length dcap] ac),.blk b4 (.cells #[.int .i64 0,.int .i64 0,.string ⟨#[]⟩,.slice none 0 0,.slice none 0 0] ac),.blk g (.cells (cD c' (j * 4) cs4) ab)] S4 w':=hI.pick [false,false,true,true,true,true]
   refine bR (by omega) ?_
   refine ⟨⟨j+1,cD c' (j * 4) cs4,S4,hj1,rfl,hE3.trans hE4,by rw [kL _ _ _ (by omega)]; exact hcs',fun k hk hkj=>?_,fun k hk hkj=>?_,fun k hk hkj=>?_,hI⟩,by simp [intOf]; omega⟩
   ·by_cases e:k=j
    ·subst e; exact hstt
    ·exact hdone k hk (by omega)
   ·by_cases e:k=j
    ·subst e
     have:=gu (c:=c') (o:=k * 4) (vs:=cs4) (by omega)
     rw [hl4] at this
     rw [this]
     exact hR4
    ·rw [gg (by omega) (by omega)]
     exact (hA k hk (by omega)).mono hE4.1
   ·rw [gg (by omega) (by omega)]
    exact (hB k hk (by omega)).mono hE4.1
 have hje:j=us.length:=by omega
 subst hje
 have hall:us.all dO=true:=by
  rw [List.all_eq_true]
  intro x hx
  obtain ⟨k,hk,rfl⟩:=List.mem_iff_getElem.1 hx
  exact hdone k hk hk
 have hoY:o=some (some (ir (bD (ofL us)) (ofL us))):=by
  rcases hsm with ⟨h,_⟩|⟨_,h⟩
  ·rw [hall] at h; cases h
  ·exact h
 have hwu:=r3 hall hlu
 have hI:Inv w [] ([.blk b2 (.cells #[.int .i64 c0.head.kind,.int .i64 c0.head.n,.string c0.head.name,kc0,.slice (some ⟨bb,bo,none⟩) c0.body.length bcap] ac),.blk b3 (.cells #[.int .i64 d0.head.kind,.int .i64 d0.head.n,.string d0.head.name,kd0,.slice da d0.body.length dcap] ac),.blk b4 (.cells #[.int .i64 0,.int .i64 0,.string ⟨#[]⟩,.slice none 0 0,.slice none 0 0] ac)]++[.blk g (.cells c' ab)]) S3 w':=hI
 obtain ⟨S5,hI,hE5,hgS⟩:=hI.pub1
 have hEb:=(hEa.trans hE3).trans hE5
 have hrn:RdSl S5 4 (RdT S5) (.slice (some ⟨g,0,none⟩) xs.length cap) us:=by
  rw [<- hlen']
  exact ⟨_,cap,rfl,by omega,by simpa only [maxLen] using hcapm,.inr ⟨g,0,c',ab,(0,0),rfl,hgS,fun i hi=>by rw [Nat.zero_add]; exact (hA i hi hi).mono hE5.1⟩⟩
 obtain ⟨u0,us',rfl⟩:∃ u0 us',us=u0::us':=by
  cases us with
  | nil=>simp at hlen'; omega
  | cons u us'=>exact ⟨u,us',rfl⟩
 have hlu2:=hlu
 rw [dA] at hlu2
 have hnum:=HY (c:=ofL (u0::us')) hlu2.1 hlu2.2
 have hwR0:wC (ofL (u0::us'))<=1048576:=by
  rw [wL] at hwu
  simp only [List.length_cons] at hwu hlen'
  show wC ⟨u0,us'⟩<=1048576
  simp only [wC]
  omega
 have hclo:clO o=ir (bD (ofL (u0::us'))) (ofL (u0::us')):=by rw [hoY]; rfl
 have hfo:Bz o=true:=by rw [hoY]; rfl
 have hok:HD o=bG (clO o):=by rw [hoY]; rfl
 have hwR:wC (clO o)<=1048576:=by rw [hclo,Hb]; exact hwR0
 obtain ⟨nb,no,ncap,nc,nE,nfz,hveq,hnS,hnR⟩:=hrn.at_ (i:=0) (by simp)
 rw [List.getElem_cons_zero] at hnR
 obtain ⟨kn,ec,f1,f2,f3,f4⟩:=RdT.iff.1 hnR
 rw [ec] at hnR
 obtain ⟨ka,kn1,kn2,hkn⟩:∃ a n m,kn=.slice a n m:=by
  obtain ⟨a,m,e,_⟩:=f4
  exact ⟨_,_,_,e⟩
 rw [hveq] at hrn ⊢
 refine ⟨fun D ip iu hK eZ eY fa eX w_=>(D 0=true->eX=.slice (some ⟨nb,no,none⟩) (us'.length+1) ncap)/\(D 1=true->fa=.pointer (some ⟨nb,no+0 * 4,none⟩))/\(D 2=true->eY=.agg #[.int .i64 u0.kind,.int .i64 u0.n,.string u0.name,kn])/\(D 3=true->eZ=.slice (some ⟨nb,no,none⟩) (us'.length+1) ncap)/\(D 4=true->True)/\(D 5=true->True)/\(D 6=true->True)/\(D 7=true->True)/\∃ SN cs6,Ext w.heap.size [] S5 SN/\(D 4=true->RdSl S5 4 (RdT S5) hK us')/\(D 5=true->∃ kb,iu=.agg #[.int .i64 u0.kind,.int .i64 u0.n,.string u0.name,kn,kb]/\RdSl S5 4 (RdT S5) kb us')/\(D 6=true->ip=.agg (List.toArray cs6)/\RdC SN cs6 (clO o))/\(D 7=true->D 6=true)/\Inv w [] [.blk b2 (.cells #[.int .i64 c0.head.kind,.int .i64 c0.head.n,.string c0.head.name,kc0,.slice (some ⟨bb,bo,none⟩) c0.body.length bcap] ac),.blk b3 (.cells #[.int .i64 d0.head.kind,.int .i64 d0.head.n,.string d0.head.name,kd0,.slice da d0.body.length dcap] ac),.blk b4 (.cells (cond (D 7) (List.toArray cs6) #[.int .i64 0,.int .i64 0,.string ⟨#[]⟩,.slice none 0 0,.slice none 0 0]) ac)] SN w_,⟨af,af,af,af,af,af,af,af,⟨S5,[],Ext.refl _ _ _,af,af,af,af,hI.draw⟩⟩,⟨?_,?_,?_,?_,?_,?_,?_,?_,trivial⟩,?_⟩
 ·intro D aS  ip iu hK eZ eY fa eX w_
  rintro ⟨aA,az,aB,ax,aD,aC,aw,aJ,⟨SN,cs6,hN,e4,e5,e6,k76,hI⟩⟩
  exact ⟨fun _=>rfl,az,aB,ax,aD,aC,aw,aJ,⟨SN,cs6,hN,e4,e5,e6,k76,hI⟩⟩
 ·intro D aS cA ip iu hK eZ eY fa eX w_
  rintro ⟨aA,az,aB,ax,aD,aC,aw,aJ,⟨SN,cs6,hN,e4,e5,e6,k76,hI⟩⟩
  obtain rfl:=aA cA
  refine bq (i:=0) aG (by simp) ?_
  exact ⟨aA,fun _=>rfl,aB,ax,aD,aC,aw,aJ,⟨SN,cs6,hN,e4,e5,e6,k76,hI⟩⟩
 ·intro D aS dB ip iu hK eZ eY fa eX w_
  rintro ⟨aA,az,aB,ax,aD,aC,aw,aJ,⟨SN,cs6,hN,e4,e5,e6,k76,hI⟩⟩
  obtain rfl:=az dB
  refine dF (cs:=[.int .i64 u0.kind,.int .i64 u0.n,.string u0.name,kn]) ag rfl (fun j v hj=>by rw [hI.cellS (hN.1 _ _ hnS)]; exact bx ec j v hj) ?_
  exact ⟨aA,az,fun _=>rfl,ax,aD,aC,aw,aJ,⟨SN,cs6,hN,e4,e5,e6,k76,hI⟩⟩
 ·intro D aS  ip iu hK eZ eY fa eX w_
  rintro ⟨aA,az,aB,ax,aD,aC,aw,aJ,⟨SN,cs6,hN,e4,e5,e6,k76,hI⟩⟩
  exact ⟨aA,az,aB,fun _=>rfl,aD,aC,aw,aJ,⟨SN,cs6,hN,e4,e5,e6,k76,hI⟩⟩
 ·intro D aS dh ip iu hK eZ eY fa eX w_
  rintro ⟨aA,az,aB,ax,aD,aC,aw,aJ,⟨SN,cs6,hN,e4,e5,e6,k76,hI⟩⟩
  obtain rfl:=ax dh
  refine je (l:=1) aG hrn (by simp) fun kb1 hkb=>?_
  rw [List.drop_succ_cons,List.drop_zero] at hkb
  have e4:=fun (_:ao D 4 4=true)=>hkb
  exact ⟨aA,az,aB,ax,fun _=>by first|assumption|trivial,aC,aw,aJ,⟨SN,cs6,hN,e4,e5,e6,k76,hI⟩⟩
 ·intro D aS cM eD ip iu hK eZ eY fa eX w_
  rintro ⟨aA,az,aB,ax,aD,aC,aw,aJ,⟨SN,cs6,hN,e4,e5,e6,k76,hI⟩⟩
  obtain rfl:=aB cM
  have Dl:=aD eD
  have hq4:=e4 eD
  refine iV ?_ ?_
  ·obtain ⟨a,m,e,_⟩:=hq4
   exact ⟨_,_,_,e⟩
  have e5:=fun (_:ao D 5 5=true)=>(⟨_,rfl,hq4⟩:∃ kb,Value.agg #[.int .i64 u0.kind,.int .i64 u0.n,.string u0.name,kn,hK]=.agg #[.int .i64 u0.kind,.int .i64 u0.n,.string u0.name,kn,kb]/\RdSl S5 4 (RdT S5) kb us')
  exact ⟨aA,az,aB,ax,aD,fun _=>by first|assumption|trivial,aw,aJ,⟨SN,cs6,hN,e4,e5,e6,k76,hI⟩⟩
 ·intro D aS dT ip iu hK eZ eY fa eX w_
  rintro ⟨aA,az,aB,ax,aD,aC,aw,aJ,⟨SN,cs6,hN,e4,e5,e6,k76,hI⟩⟩
  have zK:=aC dT
  obtain ⟨kb1,q5,hkb⟩:=e5 dT
  subst q5
  have f7:D 7=false:=Bool.eq_false_iff.2 fun h=>by rw [k76 h] at aS; cases aS
  have hRC:RdC SN [.int .i64 u0.kind,.int .i64 u0.n,.string u0.name,kn,kb1] (ofL (u0::us')):=⟨_,_,rfl,hnR.mono hN.1,hkb.monoT hN.1⟩
  refine Run.call0E pf pj hI (vm hRC hnum hwR0) fun v' I' SN w_=>?_
  rw [<- hclo]
  rintro ⟨rfl,cs6,rfl,hR6⟩ hE6 hI
  have hN:=hN.trans hE6
  have e6:=fun (_:ao D 6 6=true)=>(⟨rfl,hR6⟩:Value.agg (List.toArray cs6)=Value.agg (List.toArray cs6)/\RdC SN cs6 (clO o))
  have k76:=fun (_:ao D 6 7=true)=>(rfl:ao D 6 6=true)
  have hI:Inv w [] [.blk b2 (.cells #[.int .i64 c0.head.kind,.int .i64 c0.head.n,.string c0.head.name,kc0,.slice (some ⟨bb,bo,none⟩) c0.body.length bcap] ac),.blk b3 (.cells #[.int .i64 d0.head.kind,.int .i64 d0.head.n,.string d0.head.name,kd0,.slice da d0.body.length dcap] ac),.blk b4 (.cells (cond (D 7) (List.toArray cs6) #[.int .i64 0,.int .i64 0,.string ⟨#[]⟩,.slice none 0 0,.slice none 0 0]) ac)] SN w_:=by rw [f7] at hI ⊢; simpa using hI
  exact ⟨aA,az,aB,ax,aD,aC,fun _=>by first|assumption|trivial,aJ,⟨SN,cs6,hN,e4,e5,e6,k76,hI⟩⟩
 ·intro D aS bW iL kS mL kN qx oV th ug ip iu hK eZ eY fa eX w_
  rintro ⟨aA,az,aB,ax,aD,aC,aw,aJ,⟨SN,cs6,hN,e4,e5,e6,k76,hI⟩⟩
  have Fw:=aw bW
  obtain ⟨q6,hR6⟩:=e6 bW
  subst q6
  rw [aS] at hI
  refine aM hI 2 rfl aI (by simpa using hR6.length) rfl (by simpa using hR6.one) fun w_ hI=>?_
  have k76:=fun (_:ao D 7 7=true)=>bW
  exact ⟨aA,az,aB,ax,aD,aC,aw,fun _=>trivial,⟨SN,cs6,hN,e4,e5,e6,k76,hI⟩⟩
 intro D gc fj ft fL fX fM fP fY ip iu hK eZ eY fa eX w_
 rintro ⟨aA,az,aB,ax,aD,aC,aw,aJ,⟨SN,cs6,hN,e4,e5,e6,k76,hI⟩⟩
 have Fw:=aw fj
 have zK:=aC ft
 have Dl:=aD fL
 obtain rfl:=ax fX
 obtain rfl:=aB fM
 obtain rfl:=az fP
 obtain rfl:=aA fY
 clear aA az aB ax aD aC aw aJ
 obtain ⟨_,hR6⟩:=e6 fj
 rw [gc] at hI
 clear e4 e5 e6 k76
 have hEc:=hEb.trans hN
 have hl6:=hR6.length
 have hI:Inv w [] [.blk b2 (.cells #[.int .i64 c0.head.kind,.int .i64 c0.head.n,.string c0.head.name,kc0,.slice (some ⟨bb,bo,none⟩) c0.body.length bcap] ac),.blk b3 (.cells #[.int .i64 d0.head.kind,.int .i64 d0.head.n,.string d0.head.name,kd0,.slice da d0.body.length dcap] ac),.blk b4 (.cells (List.toArray cs6) ac)] SN w_:=hI
 refine ⟨fun D x6 x5 iv iy iw ix w_=>(D 0=true->ix=.agg (List.toArray cs6))/\(D 1=true->True)/\(D 2=true->iy=.agg (List.toArray cs6))/\(D 3=true->iv=.bool (bG (clO o)))/\(D 4=true->True)/\(D 5=true->x5=.bool true)/\(D 6=true->x6=.bool (bG (clO o)))/\∃ cs1 M,(D 1=true->iw=.agg (List.toArray cs1)/\TrC M cs1 (clO o))/\(D 4=true->D 1=true/\D 2=true/\D 0=true)/\Inv w [] ([.blk b2 (.cells #[.int .i64 c0.head.kind,.int .i64 c0.head.n,.string c0.head.name,kc0,.slice (some ⟨bb,bo,none⟩) c0.body.length bcap] ac),.blk b3 (.cells #[.int .i64 d0.head.kind,.int .i64 d0.head.n,.string d0.head.name,kd0,.slice da d0.body.length dcap] ac),.blk b4 (.cells (cond (D 4) (List.toArray cs1) (List.toArray cs6)) ac)]++cond (D 1) (bw M) []) SN w_,⟨af,af,af,af,af,af,af,⟨[],[],af,af,hI.draw⟩⟩,⟨?_,?_,?_,?_,?_,?_,?_,trivial⟩,?_⟩
 ·intro D aS  x6 x5 iv iy iw ix w_
  rintro ⟨aA,az,aB,ax,aD,aC,aw,⟨cs1,M,e1,k4,hI⟩⟩
  have f4:D 4=false:=Bool.eq_false_iff.2 fun h=>by rw [(k4 h).2.2] at aS; cases aS
  refine aO (c:=List.toArray cs6) hI 2 aI (by rw [f4]; rfl) (by simpa using hl6) ?_
  have k4:=fun (h:ao D 0 4=true)=>(⟨(k4 h).1,(k4 h).2.1,rfl⟩:ao D 0 1=true/\ao D 0 2=true/\ao D 0 0=true)
  exact ⟨fun _=>rfl,az,aB,ax,aD,aC,aw,⟨cs1,M,e1,k4,hI⟩⟩
 ·intro D aS cA x6 x5 iv iy iw ix w_
  rintro ⟨aA,az,aB,ax,aD,aC,aw,⟨cs1,M,e1,k4,hI⟩⟩
  obtain rfl:=aA cA
  have f4:D 4=false:=Bool.eq_false_iff.2 fun h=>by rw [(k4 h).1] at aS; cases aS
  rw [aS] at hI
  refine Run.call0 nJ na hI (mx hR6 hwR) fun v' I' S' w_=>?_
  rintro ⟨eS,cs1,M,rfl,rfl,hT⟩ _ hI
  rw [eS] at hI
  have e1:=fun (_:ao D 1 1=true)=>(⟨rfl,hT⟩:Value.agg (List.toArray cs1)=Value.agg (List.toArray cs1)/\TrC M cs1 (clO o))
  have k4:=fun (h:ao D 1 4=true)=>(⟨rfl,(k4 h).2.1,(k4 h).2.2⟩:ao D 1 1=true/\ao D 1 2=true/\ao D 1 0=true)
  have hI:Inv w [] ([.blk b2 (.cells #[.int .i64 c0.head.kind,.int .i64 c0.head.n,.string c0.head.name,kc0,.slice (some ⟨bb,bo,none⟩) c0.body.length bcap] ac),.blk b3 (.cells #[.int .i64 d0.head.kind,.int .i64 d0.head.n,.string d0.head.name,kd0,.slice da d0.body.length dcap] ac),.blk b4 (.cells (cond (D 4) (List.toArray cs1) (List.toArray cs6)) ac)]++cond true (bw M) []) SN w_:=by rw [f4] at hI ⊢; simpa using hI
  exact ⟨aA,fun _=>by first|assumption|trivial,aB,ax,aD,aC,aw,⟨cs1,M,e1,k4,hI⟩⟩
 ·intro D aS  x6 x5 iv iy iw ix w_
  rintro ⟨aA,az,aB,ax,aD,aC,aw,⟨cs1,M,e1,k4,hI⟩⟩
  have f4:D 4=false:=Bool.eq_false_iff.2 fun h=>by rw [(k4 h).2.1] at aS; cases aS
  refine aO (c:=List.toArray cs6) hI 2 aI (by rw [f4]; rfl) (by simpa using hl6) ?_
  have k4:=fun (h:ao D 2 4=true)=>(⟨(k4 h).1,rfl,(k4 h).2.2⟩:ao D 2 1=true/\ao D 2 2=true/\ao D 2 0=true)
  exact ⟨aA,az,fun _=>rfl,ax,aD,aC,aw,⟨cs1,M,e1,k4,hI⟩⟩
 ·intro D aS cM iz x6 x5 iv iy iw ix w_
  rintro ⟨aA,az,aB,ax,aD,aC,aw,⟨cs1,M,e1,k4,hI⟩⟩
  obtain rfl:=aB cM
  refine Run.callPure fe fb hI (eI hR6) fun w_ hI=>?_
  exact ⟨aA,az,aB,fun _=>rfl,aD,aC,aw,⟨cs1,M,e1,k4,hI⟩⟩
 ·intro D aS dB o0 kS mL kN x6 x5 iv iy iw ix w_
  rintro ⟨aA,az,aB,ax,aD,aC,aw,⟨cs1,M,e1,k4,hI⟩⟩
  have ND:=az dB
  obtain ⟨q1,hT⟩:=e1 dB
  subst q1
  rw [aS] at hI
  refine aM hI 2 rfl aI (by simpa using hT.length) (by simpa using hl6) (by simpa using hT.one) fun w_ hI=>?_
  have k4:=fun (_:ao D 4 4=true)=>(⟨dB,kN,kS⟩:ao D 4 1=true/\ao D 4 2=true/\ao D 4 0=true)
  exact ⟨aA,az,aB,ax,fun _=>trivial,aC,aw,⟨cs1,M,e1,k4,hI⟩⟩
 ·intro D aS fO Mn Ni Nq uq x6 x5 iv iy iw ix w_
  rintro ⟨aA,az,aB,ax,aD,aC,aw,⟨cs1,M,e1,k4,hI⟩⟩
  exact ⟨aA,az,aB,ax,aD,fun _=>rfl,aw,⟨cs1,M,e1,k4,hI⟩⟩
 ·intro D aS dh eF kS mL kN qx oV th x6 x5 iv iy iw ix w_
  rintro ⟨aA,az,aB,ax,aD,aC,aw,⟨cs1,M,e1,k4,hI⟩⟩
  obtain rfl:=ax dh
  exact ⟨aA,az,aB,ax,aD,aC,fun _=>rfl,⟨cs1,M,e1,k4,hI⟩⟩
 intro D fj ft fL fX fM fP fY x6 x5 iv iy iw ix w_
 rintro ⟨aA,az,aB,ax,aD,aC,aw,⟨cs1,M,e1,k4,hI⟩⟩
 obtain rfl:=aw fj
 obtain rfl:=aC ft
 obtain rfl:=ax fX
 obtain rfl:=aB fM
 have ND:=az fP
 obtain rfl:=aA fY
 clear aA az aB ax aD aC aw
 obtain ⟨_,hT⟩:=e1 fP
 rw [fL,fP] at hI
 refine bA (c:=List.toArray cs1) hI 2 aI rfl (by simpa using hT.length) ?_
 have hI:Inv w [] ([.blk b2 (.cells #[.int .i64 c0.head.kind,.int .i64 c0.head.n,.string c0.head.name,kc0,.slice (some ⟨bb,bo,none⟩) c0.body.length bcap] ac),.blk b3 (.cells #[.int .i64 d0.head.kind,.int .i64 d0.head.n,.string d0.head.name,kd0,.slice da d0.body.length dcap] ac),.blk b4 (.cells (List.toArray cs1) ac)]++bw M) SN w_:=hI
 exact ⟨_,_,_,rfl,hI.sub (List.sublist_append_right _ _),hEc,cs1,M,by rw [hfo,hok],rfl,hT⟩
end

end Go.Proofs.YtnmnddpdikghhaaGreat

/- Which clauses can be unfolded: both sides. -/
namespace Go.Proofs.YtnmnddpdikghhaaGreat
open Go Go.RowKit
attribute [local irreducible] Run CondV ai a4

def l4 (c:C):Bool:=match c.body with
 | []=>false
 | g::_=>im g
theorem Iw {c:C} (h:l4 c=true):∃ g gs,c.body=g::gs/\im g=true:=by
 unfold l4 at h
 split at h
 ·cases h
 ·exact ⟨_,_,‹_›,h⟩
theorem uM {c:C} {S:ay} {cs:List Value} (h:RdC S cs c):Pure Tryz.prog B7 [.agg cs.toArray] S (.bool (l4 c)):=by
 intro w hI
 obtain ⟨hd,ks,rfl,h1,h2⟩:=h
 obtain ⟨kv,rfl,_⟩:=RdT.iff.1 h1
 refine ux ?_
 unfold pi
 refine bN hI fun b1 w' hI=>?_
 refine ar hI 0 rfl bl aL rfl ?_
 refine bm h2 aG ?_
 refine ff ?_
 cases hb:c.body with
 | nil=>
  rw [show decide ((0:Int)<(([]:List T).length:Int))=false from rfl]
  repeat (first|refine ae ?_|refine ah (by decide) ?_|refine ad ?_|refine al ?_|refine aj ?_)
  exact done hI (by rw [l4,hb])
 | cons g gs=>
  have hlt:0<c.body.length:=by rw [hb]; simp
  rw [show decide ((0:Int)<((g::gs).length:Int))=true from decide_eq_true (by simp)]
  repeat (first|refine ae ?_|refine ah (by decide) ?_|refine ad ?_|refine al ?_|refine aj ?_)
  refine ar hI 0 rfl bl aL rfl ?_
  refine dN (i:=0) hI h2 aG ag hlt (fun _ _=>RdT.length) fun cs' hcs'=>?_
  refine Run.callPure lS l3 hI (kO hcs') fun w' hI=>?_
  repeat (first|refine ae ?_|refine ah (by decide) ?_|refine ad ?_|refine al ?_|refine aj ?_)
  refine done hI ?_
  rw [l4]
  simp [hb]
theorem qE {c:C} {S:ay} {cs:List Value} (h:RdC S cs c):Pure Tryz.prog yh [.agg cs.toArray] S (.bool (l4 c)):=by
 intro w hI
 obtain ⟨hd,ks,rfl,h1,h2⟩:=h
 obtain ⟨kv,rfl,_⟩:=RdT.iff.1 h1
 refine ql ?_
 unfold mw
 refine bN hI fun b1 w' hI=>?_
 refine ar hI 0 rfl bl aL rfl ?_
 refine bm h2 aG ?_
 refine ff ?_
 cases hb:c.body with
 | nil=>
  rw [show decide ((0:Int)<(([]:List T).length:Int))=false from rfl]
  repeat (first|refine ae ?_|refine ah (by decide) ?_|refine ad ?_|refine al ?_|refine aj ?_)
  exact done hI (by rw [l4,hb])
 | cons g gs=>
  have hlt:0<c.body.length:=by rw [hb]; simp
  rw [show decide ((0:Int)<((g::gs).length:Int))=true from decide_eq_true (by simp)]
  repeat (first|refine ae ?_|refine ah (by decide) ?_|refine ad ?_|refine al ?_|refine aj ?_)
  refine ar hI 0 rfl bl aL rfl ?_
  refine dN (i:=0) hI h2 aG ag hlt (fun _ _=>RdT.length) fun cs' hcs'=>?_
  refine Run.callPure lV mc hI (kJ hcs') fun w' hI=>?_
  repeat (first|refine ae ?_|refine ah (by decide) ?_|refine ad ?_|refine al ?_|refine aj ?_)
  refine done hI ?_
  rw [l4]
  simp [hb]

end Go.Proofs.YtnmnddpdikghhaaGreat

/- Resolvent on both sides. -/
namespace Go.Proofs.YtnmnddpdikghhaaGreat
open Go Go.RowKit
def uF (c d:C):Bool:=bG c && (bG d && l4 c)
theorem rH {c d:C} (h:uF c d=true):bG c=true/\bG d=true/\c.body≠[]:=by
 rw [uF,Bool.and_eq_true,Bool.and_eq_true] at h
 obtain ⟨g,gs,e,_⟩:=Iw h.2.2
 exact ⟨h.1,h.2.1,by rw [e]; simp⟩
def RB (c d r:C) (b:Bool):Prop:=(uF c d=false/\r=Ih/\b=false) ∨ (uF c d=true/\∃ o,RO c d o/\((HD o=true/\r=clO o/\b=true) ∨ (HD o=false/\r=Ih/\b=false)))
theorem RB.ex {c d:C} (hw:wC c<=1048576) (hw2:wC d<=1048576):∃ r b,RB c d r b:=by
 cases hg:uF c d with
 | false=>exact ⟨_,_,.inl ⟨hg,rfl,rfl⟩⟩
 | true=>
  obtain ⟨h1,h2,h3⟩:=rH hg
  obtain ⟨o,ho⟩:=RO.ex h1 h2 hw hw2 h3
  cases hk:HD o with
  | false=>exact ⟨_,_,.inr ⟨hg,o,ho,.inr ⟨hk,rfl,rfl⟩⟩⟩
  | true=>exact ⟨_,_,.inr ⟨hg,o,ho,.inl ⟨hk,rfl,rfl⟩⟩⟩
theorem K2 (o:Option (Option C)):HD o=(Bz o && Lg o):=by
 match o with
 | none=>rfl
 | some none=>rfl
 | some (some r)=>show bG r=(true && bG r); simp
theorem s0:wC Ih<=20000:=by decide +kernel
theorem Le {c d:C} (h1:bG c=true) (h2:bG d=true) (hw:wC c<=1048576) (hw2:wC d<=1048576) (h3:c.body≠[]) {o:Option (Option C)} (ho:RO c d o):wC (clO o)<=20000:=by
 obtain ⟨r,st,hu,hcase⟩:=ho
 rcases hcase with ⟨_,rfl⟩|⟨_,us,hus,⟨_,rfl⟩|⟨hs,rfl⟩⟩
 ·exact s0
 ·exact s0
 ·have hg:=(hu.good iZ (lB h1 h2 hw hw2 h3)).1
  obtain ⟨e1,e2⟩:=xq hg hus (nT h1 h2)
  have hl:=tW h1 h2
  have hs2:=r3 hs e1
  show wC (ir (bD (ofL us)) (ofL us))<=20000
  rw [Hb]
  match us,hs2,e2 with
  | [],_,_=>exact s0
  | u::us,hs2,e2=>
   rw [wL] at hs2
   rw [List.length_cons] at hs2 e2
   simp only [wC,ofL]
   omega
theorem RB.w {c d r:C} {b:Bool} (h:RB c d r b) (hw:wC c<=1048576) (hw2:wC d<=1048576):wC r<=20000:=by
 rcases h with ⟨_,rfl,_⟩|⟨hg,o,ho,⟨_,rfl,_⟩|⟨_,rfl,_⟩⟩
 ·exact s0
 ·obtain ⟨h1,h2,h3⟩:=rH hg
  exact Le h1 h2 hw hw2 h3 ho
 ·exact s0
section
attribute [local irreducible] Run CondV ai a4
theorem kz {c d r:C} {b:Bool} (hr:RB c d r b) {S:ay} {cs ds:List Value} (h:RdC S cs c) (g:RdC S ds d) (hw:wC c<=1048576) (hw2:wC d<=1048576):Tri Tryz.prog Af [.agg cs.toArray,.agg ds.toArray] [] S (BW r b):=by
 intro w hI
 have h0:=h
 have g0:=g
 have hlc:=h.length
 have hld:=g.length
 refine sJ ?_
 unfold mZ;dsimp only
 refine bN hI fun b2 w' hI=>?_
 refine bN hI fun b3 w' hI=>?_
 refine a9 hI bM fun b4 w' hI=>?_
 have hI:Inv w [] [.blk b2 (.cells cs.toArray ac),.blk b3 (.cells ds.toArray ac),.blk b4 (.cells #[.int .i64 0,.int .i64 0,.string ⟨#[]⟩,.slice none 0 0,.slice none 0 0] ac)] S w':=hI
 refine ⟨fun q w'=>q=.bool (!uF c d)/\Inv w [] [.blk b2 (.cells cs.toArray ac),.blk b3 (.cells ds.toArray ac),.blk b4 (.cells #[.int .i64 0,.int .i64 0,.string ⟨#[]⟩,.slice none 0 0,.slice none 0 0] ac)] S w',?_,?_⟩
 ·refine aO hI 0 aI rfl (by simpa using hlc) ?_
  refine Run.callPure gz gx hI (fH h0 hw) fun w' hI=>?_
  refine cN ?_
  cases hv1:bG c
  ·repeat (first|refine ae ?_|refine ah (by decide) ?_|refine ad ?_|refine al ?_|refine aj ?_)
   exact ⟨by rw [uF,hv1]; rfl,hI⟩
  repeat (first|refine ae ?_|refine ah (by decide) ?_|refine ad ?_|refine al ?_|refine aj ?_)
  refine aO hI 1 aI rfl (by simpa using hld) ?_
  refine Run.callPure gz gx hI (fH g0 hw2) fun w' hI=>?_
  refine cN ?_
  cases hv2:bG d
  ·repeat (first|refine ae ?_|refine ah (by decide) ?_|refine ad ?_|refine al ?_|refine aj ?_)
   exact ⟨by rw [uF,hv1,hv2]; rfl,hI⟩
  repeat (first|refine ae ?_|refine ah (by decide) ?_|refine ad ?_|refine al ?_|refine aj ?_)
  refine aO hI 0 aI rfl (by simpa using hlc) ?_
  refine Run.callPure Ay AO hI (uM h0) fun w' hI=>?_
  refine cN ?_
  repeat (first|refine ae ?_|refine ah (by decide) ?_|refine ad ?_|refine al ?_|refine aj ?_)
  exact ⟨by rw [uF,hv1,hv2]; rfl,hI⟩
 intro q _ _ _ _ _ _ _ _ _ _ _ _ w'
 rintro ⟨rfl,hI⟩
 rcases hr with ⟨hg,rfl,rfl⟩|⟨hg,o,ho,hcase⟩
 ·rw [hg]
  refine a7 (fun _=>?_) (fun hb=>by cases hb)
  refine dL ?_
  refine aM hI 2 rfl aI rfl rfl (by simp [Value.oneCell']) fun w' hI=>?_
  refine bA hI 2 aI rfl rfl ?_
  exact ⟨_,_,_,rfl,hI.pick [false,false,false],Ext.refl _ _ _,_,[],rfl,rfl,TrC.zero⟩
 rw [hg]
 refine a7 (fun hb=>by cases hb) (fun _=>?_)
 obtain ⟨hv1,hv2,hbne⟩:=rH hg
 refine aO hI 0 aI rfl (by simpa using hlc) ?_
 refine aO hI 1 aI rfl (by simpa using hld) ?_
 have hcw:=Le hv1 hv2 hw hw2 hbne ho
 refine Run.call0E rK rr hI (qy hv1 hv2 hw hw2 hbne ho h0 g0) fun v' I' S2 w'=>?_
 rintro ⟨rfl,es,rfl,hes⟩ hE hI
 refine aT rfl ?_
 refine aT rfl ?_
 refine aT rfl ?_
 refine a9 hI bM fun b6 w' hI=>?_
 refine aM hI 3 rfl aI (by simpa using hes.length) rfl (by simpa using hes.one) fun w' hI=>?_
 have hI:Inv w [] [.blk b2 (.cells cs.toArray ac),.blk b3 (.cells ds.toArray ac),.blk b4 (.cells #[.int .i64 0,.int .i64 0,.string ⟨#[]⟩,.slice none 0 0,.slice none 0 0] ac),.blk b6 (.cells es.toArray ac)] S2 w':=hI
 refine ⟨fun q w'=>q=.bool (!HD o)/\Inv w [] [.blk b2 (.cells cs.toArray ac),.blk b3 (.cells ds.toArray ac),.blk b4 (.cells #[.int .i64 0,.int .i64 0,.string ⟨#[]⟩,.slice none 0 0,.slice none 0 0] ac),.blk b6 (.cells es.toArray ac)] S2 w',?_,?_⟩
 ·rw [K2]
  refine cN ?_
  cases hf:Bz o
  ·repeat (first|refine ae ?_|refine ah (by decide) ?_|refine ad ?_|refine al ?_|refine aj ?_)
   exact ⟨rfl,hI⟩
  repeat (first|refine ae ?_|refine ah (by decide) ?_|refine ad ?_|refine al ?_|refine aj ?_)
  refine cN ?_
  repeat (first|refine ae ?_|refine ah (by decide) ?_|refine ad ?_|refine al ?_|refine aj ?_)
  exact ⟨rfl,hI⟩
 intro q _ _ _ _ _ w'
 rintro ⟨rfl,hI⟩
 rcases hcase with ⟨hk,rfl,rfl⟩|⟨hk,rfl,rfl⟩
 ·rw [hk]
  refine a7 (fun hb=>by cases hb) (fun _=>?_)
  refine aO hI 3 aI rfl (by simpa using hes.length) ?_
  refine Run.call0 oA n9 hI (sg hes (by omega)) fun v' I' S3 w'=>?_
  rintro ⟨rfl,cs2,L,rfl,rfl,hT⟩ _ hI
  refine aM hI 2 rfl aI (by simpa using hT.length) rfl (by simpa using hT.one) fun w' hI=>?_
  refine bA hI 2 aI rfl (by simpa using hT.length) ?_
  have hI:Inv w [] (bw L) S3 w':=hI.sub (List.sublist_append_right [_,_,_,_] _)
  exact ⟨_,_,_,rfl,hI,hE,cs2,L,rfl,rfl,hT⟩
 ·rw [hk]
  refine a7 (fun _=>?_) (fun hb=>by cases hb)
  refine dL ?_
  refine aM hI 2 rfl aI rfl rfl (by simp [Value.oneCell']) fun w' hI=>?_
  refine bA hI 2 aI rfl rfl ?_
  exact ⟨_,_,_,rfl,hI.pick [false,false,false,false],hE,_,[],rfl,rfl,TrC.zero⟩
theorem kq {c d r:C} {b:Bool} (hr:RB c d r b) {S:ay} {cs ds:List Value} (h:RdC S cs c) (g:RdC S ds d) (hw:wC c<=1048576) (hw2:wC d<=1048576):Tri Tryz.prog AR [.agg cs.toArray,.agg ds.toArray] [] S (BW r b):=by
 intro w hI
 have h0:=h
 have g0:=g
 have hlc:=h.length
 have hld:=g.length
 refine tn ?_
 unfold nl;dsimp only
 refine bN hI fun b2 w' hI=>?_
 refine bN hI fun b3 w' hI=>?_
 refine a9 hI bM fun b4 w' hI=>?_
 have hI:Inv w [] [.blk b2 (.cells cs.toArray ac),.blk b3 (.cells ds.toArray ac),.blk b4 (.cells #[.int .i64 0,.int .i64 0,.string ⟨#[]⟩,.slice none 0 0,.slice none 0 0] ac)] S w':=hI
 refine ⟨fun q w'=>q=.bool (!uF c d)/\Inv w [] [.blk b2 (.cells cs.toArray ac),.blk b3 (.cells ds.toArray ac),.blk b4 (.cells #[.int .i64 0,.int .i64 0,.string ⟨#[]⟩,.slice none 0 0,.slice none 0 0] ac)] S w',?_,?_⟩
 ·refine aO hI 0 aI rfl (by simpa using hlc) ?_
  refine Run.callPure fe fb hI (eI h0) fun w' hI=>?_
  refine cN ?_
  cases hv1:bG c
  ·repeat (first|refine ae ?_|refine ah (by decide) ?_|refine ad ?_|refine al ?_|refine aj ?_)
   exact ⟨by rw [uF,hv1]; rfl,hI⟩
  repeat (first|refine ae ?_|refine ah (by decide) ?_|refine ad ?_|refine al ?_|refine aj ?_)
  refine aO hI 1 aI rfl (by simpa using hld) ?_
  refine Run.callPure fe fb hI (eI g0) fun w' hI=>?_
  refine cN ?_
  cases hv2:bG d
  ·repeat (first|refine ae ?_|refine ah (by decide) ?_|refine ad ?_|refine al ?_|refine aj ?_)
   exact ⟨by rw [uF,hv1,hv2]; rfl,hI⟩
  repeat (first|refine ae ?_|refine ah (by decide) ?_|refine ad ?_|refine al ?_|refine aj ?_)
  refine aO hI 0 aI rfl (by simpa using hlc) ?_
  refine Run.callPure wR wu hI (qE h0) fun w' hI=>?_
  refine cN ?_
  repeat (first|refine ae ?_|refine ah (by decide) ?_|refine ad ?_|refine al ?_|refine aj ?_)
  exact ⟨by rw [uF,hv1,hv2]; rfl,hI⟩
 intro q _ _ _ _ _ _ _ _ _ _ _ _ w'
 rintro ⟨rfl,hI⟩
 rcases hr with ⟨hg,rfl,rfl⟩|⟨hg,o,ho,hcase⟩
 ·rw [hg]
  refine a7 (fun _=>?_) (fun hb=>by cases hb)
  refine dL ?_
  refine aM hI 2 rfl aI rfl rfl (by simp [Value.oneCell']) fun w' hI=>?_
  refine bA hI 2 aI rfl rfl ?_
  exact ⟨_,_,_,rfl,hI.pick [false,false,false],Ext.refl _ _ _,_,[],rfl,rfl,TrC.zero⟩
 rw [hg]
 refine a7 (fun hb=>by cases hb) (fun _=>?_)
 obtain ⟨hv1,hv2,hbne⟩:=rH hg
 refine aO hI 0 aI rfl (by simpa using hlc) ?_
 refine aO hI 1 aI rfl (by simpa using hld) ?_
 refine Run.call0E zg yo hI (sE hv1 hv2 hw hw2 hbne ho h0 g0) fun v' I' S2 w'=>?_
 rintro ⟨es,G,rfl,rfl,hG⟩ hE hI
 refine aT rfl ?_
 refine aT rfl ?_
 refine aT rfl ?_
 refine a9 hI bM fun b6 w' hI=>?_
 have hI:=hI.perm (M:=[.blk b2 (.cells cs.toArray ac),.blk b3 (.cells ds.toArray ac),.blk b4 (.cells #[.int .i64 0,.int .i64 0,.string ⟨#[]⟩,.slice none 0 0,.slice none 0 0] ac),.blk b6 (.cells #[.int .i64 0,.int .i64 0,.string ⟨#[]⟩,.slice none 0 0,.slice none 0 0] ac)]++bw G) (by
  rw [List.append_assoc]
  exact (((List.perm_append_comm (l₁:=[_]) (l₂:=bw G)).cons _).cons _).cons _)
 refine aM hI 3 rfl aI (by simpa using hG.length) rfl (by simpa using hG.one) fun w' hI=>?_
 have hI:Inv w [] ([.blk b2 (.cells cs.toArray ac),.blk b3 (.cells ds.toArray ac),.blk b4 (.cells #[.int .i64 0,.int .i64 0,.string ⟨#[]⟩,.slice none 0 0,.slice none 0 0] ac),.blk b6 (.cells es.toArray ac)]++bw G) S2 w':=hI
 refine cN ?_
 rcases hcase with ⟨hk,rfl,rfl⟩|⟨hk,rfl,rfl⟩
 ·rw [hk]
  refine a7 (fun hb=>by cases hb) (fun _=>?_)
  refine aO hI 3 aI rfl (by simpa using hG.length) ?_
  refine aM hI 2 rfl aI (by simpa using hG.length) rfl (by simpa using hG.one) fun w' hI=>?_
  refine bA hI 2 aI rfl (by simpa using hG.length) ?_
  have hI:Inv w [] (bw G) S2 w':=hI.sub (List.sublist_append_right [_,_,_,_] _)
  exact ⟨_,_,_,rfl,hI,hE,es,G,rfl,rfl,hG⟩
 ·rw [hk]
  refine a7 (fun _=>?_) (fun hb=>by cases hb)
  refine dL ?_
  refine aM hI 2 rfl aI rfl rfl (by simp [Value.oneCell']) fun w' hI=>?_
  refine bA hI 2 aI rfl rfl ?_
  exact ⟨_,_,_,rfl,hI.sub (List.nil_sublist _),hE,_,[],rfl,rfl,TrC.zero⟩
end

end Go.Proofs.YtnmnddpdikghhaaGreat

/- What a resolvent is: a clause, numbered, with the goals of both clauses but one; its head is an instance of that of the first clause. -/
namespace Go.Proofs.YtnmnddpdikghhaaGreat
open Go Go.RowKit
theorem D2 {st:bu} {t v:T} (h:dy st t v):∀ v',dy st t v'->v'=v:=by
 induction h with
 | stop hl=>
  intro v' h'
  cases h' with
  | stop _=>rfl
  | step hl' _=>rw [hl] at hl'; cases hl'
 | step hl _ ih=>
  intro v' h'
  cases h' with
  | stop hl'=>rw [hl] at hl'; cases hl'
  | step hl' h2=>rw [hl] at hl'; cases hl'; exact ih _ h2
theorem K7 {st:bu} {j:Jg} (h:Res st j):match j with
  | .one t u=>∀ u',Res st (.one t u')->u'=u
  | .list ts us=>∀ us',Res st (.list ts us')->us'=us:=by
 induction h with
 | one hw _ ih=>
  intro u' h'
  cases h' with
  | one hw' hl'=>
   obtain rfl:=D2 hw _ hw'
   rw [ih _ hl']
 | nil=>
  intro us' h'
  cases h'
  rfl
 | cons _ _ ih1 ih2=>
  intro us' h'
  cases h' with
  | cons h1 h2=>rw [ih1 _ h1,ih2 _ h2]
open Classical in
noncomputable def sgR (st:bu) (n:Int):T:=if h:∃ u,Res st (.one (idS n) u) then h.choose else idS n
theorem Lr {st:bu} {n:Int} {u:T} (h:Res st (.one (idS n) u)):sgR st n=u:=by
 have he:∃ u,Res st (.one (idS n) u):=⟨u,h⟩
 rw [sgR,dif_pos he]
 exact K7 h _ he.choose_spec
theorem LK {N:Nat} {st:bu} {j:Jg} (hr:Res st j):match j with
  | .one t u=>okU N t->u=sbT (sgR st) t
  | .list ts us=>dA N ts->us=sbL (sgR st) ts:=by
 induction hr with
 | one hw hl ih=>
  rename_i t v us
  intro ho
  by_cases hk:t.kind=1
  ·obtain ⟨_,_,h3,h4⟩:=ho.var hk
   obtain ⟨k,n,s,ks⟩:=t
   simp only [T.kind,T.name,T.kids] at hk h3 h4
   subst hk; subst h3; subst h4
   rw [sbT,if_pos rfl]
   exact (Lr (.one hw hl)).symm
  ·have hv:v=t:=D2 (.stop (uz.2 fun e=>absurd e hk)) _ hw
   subst hv
   have h2:=ih ho.kids
   obtain ⟨k,n,s,ks⟩:=v
   simp only [T.kind] at hk
   rw [sbT,if_neg hk]
   simp only [T.kids] at h2
   rw [h2]
   rfl
 | nil=>exact fun _=>rfl
 | cons _ _ ih1 ih2=>
  intro ho
  rw [dA] at ho
  rw [sbL,ih1 ho.1,ih2 ho.2]
mutual
theorem Jn (f:Int->Int) (σ:Int->T):∀ t:T,mvT f (sbT σ t)=sbT (fun n=>mvT f (σ n)) t
 | .mk k n s ks=>by
  rw [sbT,sbT]
  split
  ·rfl
  ·rename_i hk
   rw [mvT,if_neg hk,Ka f σ ks]
theorem Ka (f:Int->Int) (σ:Int->T):∀ ts:List T,mvL f (sbL σ ts)=sbL (fun n=>mvT f (σ n)) ts
 | []=>rfl
 | t::ts=>by rw [sbL,mvL,sbL,Jn f σ t,Ka f σ ts]
end
theorem H6 {N:Nat} {c:C} (hh:okU N c.head) (hb:dA N c.body):ir (bD c) c=⟨mvT (jg (bD c)) c.head,mvL (jg (bD c)) c.body⟩/\inT (bD c) c.head/\inL (bD c) c.body/\dE (c.head::c.body) []=bD c:=by
 obtain ⟨hv,_,_⟩:=HY hh hb
 have hin:=lz (c.head::c.body) []
 rw [hv,inL] at hin
 have hd:(bD c).Nodup:=by rw [<- hv]; exact g5 _ _ List.nodup_nil
 refine ⟨?_,hin.1,hin.2,hv⟩
 have hl:∀ n∈bD c,iF (bD c) n n 0=jg (bD c) n:=fun n hn=>lf _ n n 0 hn hd
 rw [ir,yr,rV,xp hl _ hin.1,te hl _ hin.2]
theorem GF {N:Nat} {c:C} (hh:okU N c.head) (hb:dA N c.body) (hv:bG (ir (bD c) c)=true):ir (bD (ir (bD c) c)) (ir (bD c) c)=ir (bD c) c:=by
 obtain ⟨e,h1,h2,hv1⟩:=H6 hh hb
 obtain ⟨e',_,_,_⟩:=Lm hv
 obtain ⟨hv2,_,_⟩:=HA hv
 have hvars:bD (ir (bD c) c)=(bD c).map (jg (bD c)):=by
  rw [<- hv2,e]
  have:=(sV (f:=jg (bD c)) (ws:=bD c) Eh (c.head::c.body) [] (by simp) (by rw [inL]; exact ⟨h1,h2⟩)).1
  rw [mvL,List.map_nil,hv1] at this
  exact this
 rw [e',hvars,e]
 simp only [El,zl]
 have hx:∀ n∈bD c,jg ((bD c).map (jg (bD c))) (jg (bD c) n)=jg (bD c) n:=fun n hn=>JI fun m hm e=>Eh m hm n hn e
 rw [xp hx _ h1,te hx _ h2]
theorem Eq {c d r:C} (hw:wC c<=1048576) (hw2:wC d<=1048576) (hr:RB c d r true):bG r=true/\r.body.length+1=c.body.length+d.body.length/\ER r.head c.head=true/\JH r=r:=by
 rcases hr with ⟨_,_,h⟩|⟨hg,o,ho,⟨hk,rfl,_⟩|⟨_,_,h⟩⟩
 ·cases h
 ·obtain ⟨h1,h2,h3⟩:=rH hg
  obtain ⟨r,st,hu,hcase⟩:=ho
  rcases hcase with ⟨_,rfl⟩|⟨_,us,hus,⟨_,rfl⟩|⟨hs,rfl⟩⟩
  ·cases hk
  ·cases hk
  ·have hgd:=(hu.good iZ (lB h1 h2 hw hw2 h3)).1
   have hok:=nT h1 h2
   obtain ⟨e1,e2⟩:=xq hgd hus hok
   have e3:=LK (N:=52) hus hok
   rw [iC,sbL] at e3
   subst e3
   clear e2
   have hcl:bG (clO (some (some (ir (bD (ofL (sbT (sgR st) c.head::sbL (sgR st) (ed 26 d.body++c.body.drop 1)))) (ofL (sbT (sgR st) c.head::sbL (sgR st) (ed 26 d.body++c.body.drop 1)))))))=true:=hk
   obtain ⟨x,hx⟩:∃ x,x=ofL (sbT (sgR st) c.head::sbL (sgR st) (ed 26 d.body++c.body.drop 1)):=⟨_,rfl⟩
   have hxh:x.head=sbT (sgR st) c.head:=by rw [hx]; rfl
   have hxb:x.body=sbL (sgR st) (ed 26 d.body++c.body.drop 1):=by rw [hx]; rfl
   rw [<- hx] at hcl ⊢
   rw [dA] at e1
   have o1:okU 52 x.head:=by rw [hxh]; exact e1.1
   have o2:dA 52 x.body:=by rw [hxb]; exact e1.2
   obtain ⟨m1,_,_,_⟩:=H6 o1 o2
   have hcl:bG (ir (bD x) x)=true:=hcl
   refine ⟨hcl,?_,?_,?_⟩
   ·show (ir (bD x) x).body.length+1=_
    rw [m1]
    show (mvL (jg (bD x)) x.body).length+1=_
    rw [HS,hxb,xn,List.length_append,eV,List.length_map,List.length_drop]
    have:c.body.length≠0:=fun e=>h3 (List.eq_nil_of_length_eq_zero e)
    omega
   ·show ER (ir (bD x) x).head c.head=true
    have hvc:=uP h1
    have hm:(dH c.head (ir (bD x) x).head st0).1=true:=by
     rw [Iu (Jq h1).1]
     rw [m1]
     show ∃ σ,sbT σ c.head=mvT (jg (bD x)) x.head
     rw [hxh]
     exact ⟨_,(Jn _ _ _).symm⟩
    rw [ER,uP hcl,hvc,hm]
    rfl
   ·show JH (ir (bD x) x)=ir (bD x) x
    rw [JH,if_pos hcl,GF o1 o2 hcl]
 ·cases h
end Go.Proofs.YtnmnddpdikghhaaGreat

/- FnSubsumedFact and FnSubsumedClause return true, whatever bytes come in: the walks. -/
namespace Go.Proofs.YtnmnddpdikghhaaGreat
open Go Go.RowKit
section
variable {S:ay} {ys zs:List Nat} {v u:Value}
attribute [local irreducible] Run CondV ai a4
theorem RdC.cells {S:ay} {cs:List Value} {c:C} (h:RdC S cs c):∃ kv kb,cs=[.int .i64 c.head.kind,.int .i64 c.head.n,.string c.head.name,kv,kb]/\RdT S [.int .i64 c.head.kind,.int .i64 c.head.n,.string c.head.name,kv] c.head/\RdSl S 4 (RdT S) kb c.body:=by
 obtain ⟨hd,kb,rfl,h1,h2⟩:=h
 have h1':=h1
 obtain ⟨kv,rfl,_⟩:=RdT.iff.1 h1
 exact ⟨kv,kb,rfl,h1',h2⟩
end
end Go.Proofs.YtnmnddpdikghhaaGreat

/- spec.DrawRenumberClause. -/
namespace Go.Proofs.YtnmnddpdikghhaaGreat
open Go Go.RowKit
section
variable {S:ay} {ys:List Nat} {v:Value}
attribute [local irreducible] Run CondV ai a4
end
end Go.Proofs.YtnmnddpdikghhaaGreat

/- impl.VariantTerms; FnRenumberClause returns true, whatever bytes come in: the walk. -/
namespace Go.Proofs.YtnmnddpdikghhaaGreat
open Go Go.RowKit
def IsEl (S:ay) (p:Value) (y:T):Prop:=∃ b o c E fz,p=.pointer (some ⟨b,o,none⟩)/\S b=some (.cells c E fz)/\RdT S (bJ c o 4) y
def IsAg (S:ay) (v:Value) (y:T):Prop:=∃ cs:List Value,v=.agg cs.toArray/\RdT S cs y
theorem IsEl.mono {S S':ay} {p:Value} {y:T} (h:IsEl S p y) (hle:Sle S S'):IsEl S' p y:=by
 obtain ⟨b,o,c,E,fz,e,hS,hR⟩:=h
 exact ⟨b,o,c,E,fz,e,hle _ _ hS,hR.mono hle⟩
theorem IsAg.mono {S S':ay} {v:Value} {y:T} (h:IsAg S v y) (hle:Sle S S'):IsAg S' v y:=by
 obtain ⟨cs,e,hR⟩:=h
 exact ⟨cs,e,hR.mono hle⟩
section
variable {S:ay} {ys:List Nat} {v:Value}
variable {w w0:World} {X:List Nat} {L:List Item} {K:Value->World->Prop}
attribute [local irreducible] Run CondV ai a4
theorem Run.pubOB {f:FuncId} {fn:Func} {args:List Value} {c:C} {b:Bool} (hf:Tryz.prog.funcs[f]?=some fn) (hn:(fn.name == "runtime.NumGoroutine" || fn.body.isNone)=false) (hI:Inv w0 X L S w)
  (hc:Tri Tryz.prog f args [] S (BW c b)) (hk:∀ cs S' w',Sle S S'->RdC S' cs c->Inv w0 X L S' w'->K (.tuple #[.agg cs.toArray,.bool b]) w'):Run Tryz.prog (aF (.func (.func f) #[] #[]) args) w K:=by
 refine Run.call0 hf hn hI hc fun v' I' S' w'=>?_
 rintro ⟨cs,M,rfl,rfl,hT⟩ hle hI
 obtain ⟨S1,hle1,hins,hI,_⟩:=Inv.lendAll M hI
 exact hk _ _ _ (hle.trans hle1) (hT.rd hins) hI
end
end Go.Proofs.YtnmnddpdikghhaaGreat

/- FnResolveFact and FnResolvent return true, whatever bytes come in: the walks. -/
namespace Go.Proofs.YtnmnddpdikghhaaGreat
open Go Go.RowKit
theorem RdSl.nilT (S:ay):RdSl S 4 (RdT S) (.slice none 0 0) []:=⟨none,0,rfl,Nat.le_refl _,Nat.zero_le _,.inl rfl⟩
section
variable {S:ay} {ys:List Nat} {v:Value}
attribute [local irreducible] Run CondV ai a4
theorem wc (h:RdSl S 1 kR v ys):Pure Tryz.prog dc [v] S (.bool true):=by
 intro w hI
 refine mN ?_
 unfold jJ;dsimp only
 refine bm h dX ?_
 refine ff ?_
 refine bF (fun _=>done hI rfl) (fun _=>?_)
 refine Run.call0E jT jK hI (jr h) fun v1 I' S1 w'=>?_
 rintro ⟨rfl,cs,c,ds,d,rfl,hc,hd,hwc,hwd⟩ hE1 hI
 have hI:Inv w [] [] S1 w':=hI
 obtain ⟨kv,kb,rfl,hh,hb⟩:=hc.cells
 obtain ⟨kv',kb',rfl,hh',hb'⟩:=hd.cells
 refine aT (v:=.agg [.int .i64 c.head.kind,.int .i64 c.head.n,.string c.head.name,kv,kb].toArray) rfl ?_
 refine aT (v:=.agg [.int .i64 d.head.kind,.int .i64 d.head.n,.string d.head.name,kv',kb'].toArray) rfl ?_
 refine a9 hI bM fun b3 w' hI=>?_
 refine a9 hI bM fun b4 w' hI=>?_
 have hI:Inv w [] [.blk b3 (.cells zCl ac),.blk b4 (.cells zCl ac)] S1 w':=hI
 refine aM hI 0 rfl aI rfl rfl (by simpa using hc.one) fun w' hI=>?_
 refine aM hI 1 rfl aI rfl rfl (by simpa using hd.one) fun w' hI=>?_
 have hI:Inv w [] [.blk b3 (.cells #[.int .i64 c.head.kind,.int .i64 c.head.n,.string c.head.name,kv,kb] ac),.blk b4 (.cells #[.int .i64 d.head.kind,.int .i64 d.head.n,.string d.head.name,kv',kb'] ac)] S1 w':=hI
 refine bj bQ ?_
 refine cY hI 1 [.int .i64 d.head.kind,.int .i64 d.head.n,.string d.head.name,kv'] ag rfl rfl n3 ?_
 refine i3 ?_
 refine a9 hI bM fun b5 w' hI=>?_
 obtain ⟨f,hf⟩:∃ f:C,f=⟨d.head,[]⟩:=⟨_,rfl⟩
 have hfc:RdC S1 [.int .i64 d.head.kind,.int .i64 d.head.n,.string d.head.name,kv',.slice none 0 0] f:=by
  subst hf
  exact ⟨_,_,rfl,hh',RdSl.nilT S1⟩
 have hwf:wC f<=2000:=by
  subst hf
  unfold wC at hwd ⊢
  simp only [wL,List.length_nil]
  omega
 refine aM hI 2 rfl aI rfl rfl (by simpa using hfc.one) fun w' hI=>?_
 have hI:Inv w [] [.blk b3 (.cells #[.int .i64 c.head.kind,.int .i64 c.head.n,.string c.head.name,kv,kb] ac),.blk b4 (.cells #[.int .i64 d.head.kind,.int .i64 d.head.n,.string d.head.name,kv',kb'] ac),.blk b5 (.cells #[.int .i64 d.head.kind,.int .i64 d.head.n,.string d.head.name,kv',.slice none 0 0] ac)] S1 w':=hI
 obtain ⟨r,b,hrb⟩:=RB.ex (c:=c) (d:=f) (by omega) (by omega)
 refine aO hI 0 aI rfl rfl ?_
 refine aO hI 2 aI rfl rfl ?_
 refine Run.pubOB nH m9 hI (kq hrb hc hfc (by omega) (by omega)) fun xs S2 w' hle2 hx hI=>?_
 have hlx:=hx.length
 have hc:=hc.mono hle2
 have hfc:=hfc.mono hle2
 refine aT (v:=.agg xs.toArray) rfl ?_
 refine aT (v:=.bool b) rfl ?_
 refine a9 hI bM fun b6 w' hI=>?_
 refine aM hI 3 rfl aI (by simpa using hlx) rfl (by simpa using hx.one) fun w' hI=>?_
 refine aO hI 0 aI rfl rfl ?_
 refine aO hI 2 aI rfl rfl ?_
 refine Run.pubOB nW nF hI (kz hrb hc hfc (by omega) (by omega)) fun zs S3 w' hle3 hz hI=>?_
 have hlz:=hz.length
 have hc:=hc.mono hle3
 have hfc:=hfc.mono hle3
 have hx:=hx.mono hle3
 refine aT (v:=.agg zs.toArray) rfl ?_
 refine aT (v:=.bool b) rfl ?_
 refine a9 hI bM fun b8 w' hI=>?_
 refine aM hI 4 rfl aI (by simpa using hlz) rfl (by simpa using hz.one) fun w' hI=>?_
 have hle:=hE1.1.trans (hle2.trans hle3)
 obtain ⟨kx,kbx,rfl,hxh,hxb⟩:=hx.cells
 have hI:Inv w [] [.blk b3 (.cells #[.int .i64 c.head.kind,.int .i64 c.head.n,.string c.head.name,kv,kb] ac),.blk b4 (.cells #[.int .i64 d.head.kind,.int .i64 d.head.n,.string d.head.name,kv',kb'] ac),.blk b5 (.cells #[.int .i64 d.head.kind,.int .i64 d.head.n,.string d.head.name,kv',.slice none 0 0] ac),.blk b6 (.cells #[.int .i64 r.head.kind,.int .i64 r.head.n,.string r.head.name,kx,kbx] ac),.blk b8 (.cells zs.toArray ac)] S3 w':=hI
 refine ⟨fun t w'=>t=.bool (!b)/\Inv w [] [.blk b3 (.cells #[.int .i64 c.head.kind,.int .i64 c.head.n,.string c.head.name,kv,kb] ac),.blk b4 (.cells #[.int .i64 d.head.kind,.int .i64 d.head.n,.string d.head.name,kv',kb'] ac),.blk b5 (.cells #[.int .i64 d.head.kind,.int .i64 d.head.n,.string d.head.name,kv',.slice none 0 0] ac),.blk b6 (.cells #[.int .i64 r.head.kind,.int .i64 r.head.n,.string r.head.name,kx,kbx] ac),.blk b8 (.cells zs.toArray ac)] S3 w',?_,?_⟩
 ·refine FD oN ?_
  rw [beq_self_eq_true]
  repeat (first|refine ae ?_|refine ah (by decide) ?_|refine ad ?_|refine al ?_|refine aj ?_)
  refine aO hI 3 aI rfl rfl ?_
  refine aO hI 4 aI rfl (by simpa using hlz) ?_
  refine Run.callPure fQ fR hI (fN hx hz) fun w' hI=>?_
  refine cN ?_
  repeat (first|refine ae ?_|refine ah (by decide) ?_|refine ad ?_|refine al ?_|refine aj ?_)
  refine cN ?_
  repeat (first|refine ae ?_|refine ah (by decide) ?_|refine ad ?_|refine al ?_|refine aj ?_)
  exact ⟨rfl,hI⟩
 intro t45 _ _ _ _ _ _ _ _ _ _ _ _ w'
 rintro ⟨rfl,hI⟩
 refine a7 (fun _=>?_) (fun hbt=>?_)
 ·refine JN oN ?_
  rw [beq_self_eq_true]
  repeat (first|refine ae ?_|refine ah (by decide) ?_|refine ad ?_|refine al ?_|refine aj ?_)
  refine aO hI 3 aI rfl rfl ?_
  refine aO hI 4 aI rfl (by simpa using hlz) ?_
  refine Run.callPure fQ fR hI (fN hx hz) fun w' hI=>?_
  repeat (first|refine ae ?_|refine ah (by decide) ?_|refine ad ?_|refine al ?_|refine aj ?_)
  exact ph hI hle rfl
 rw [Bool.not_eq_false'] at hbt
 subst hbt
 obtain ⟨q1,q2,q3,q4⟩:=Eq (by omega) (by omega) hrb
 have q2:r.body.length+1=c.body.length:=by rw [q2,hf]; rfl
 refine ar hI 3 rfl bl aL rfl ?_
 refine bm hxb aG ?_
 refine ar hI 0 rfl bl aL rfl ?_
 have hbl:=hb.le
 simp only [maxLen] at hbl
 refine bm (hb.monoT (hle2.trans hle3)) aG ?_
 refine lq (by omega) ?_
 refine bO ?_
 rw [decide_eq_true (show (r.body.length:Int)=(c.body.length:Int) - 1 by omega)]
 repeat (first|refine ae ?_|refine ah (by decide) ?_|refine ad ?_|refine al ?_|refine aj ?_)
 refine bj bQ ?_
 refine cY hI 3 [.int .i64 r.head.kind,.int .i64 r.head.n,.string r.head.name,kx] ag rfl rfl n3 ?_
 refine bj bQ ?_
 refine cY hI 0 [.int .i64 c.head.kind,.int .i64 c.head.n,.string c.head.name,kv] ag rfl rfl n3 ?_
 refine Run.callPure mG mE hI (j4 hxh (hh.mono (hle2.trans hle3))) fun w' hI=>?_
 rw [q3]
 repeat (first|refine ae ?_|refine ah (by decide) ?_|refine ad ?_|refine al ?_|refine aj ?_)
 exact ph hI hle rfl
theorem xe (h:RdSl S 1 kR v ys):Pure Tryz.prog dG [v] S (.bool true):=by
 intro w hI
 refine o7 ?_
 unfold lA;dsimp only
 refine bm h dX ?_
 refine ff ?_
 refine bF (fun _=>done hI rfl) (fun _=>?_)
 refine Run.call0E jT jK hI (jr h) fun v1 I' S1 w'=>?_
 rintro ⟨rfl,cs,c,ds,d,rfl,hc,hd,hwc,hwd⟩ hE1 hI
 have hI:Inv w [] [] S1 w':=hI
 obtain ⟨kv,kb,rfl,hh,hb⟩:=hc.cells
 obtain ⟨kv',kb',rfl,hh',hb'⟩:=hd.cells
 refine aT (v:=.agg [.int .i64 c.head.kind,.int .i64 c.head.n,.string c.head.name,kv,kb].toArray) rfl ?_
 refine aT (v:=.agg [.int .i64 d.head.kind,.int .i64 d.head.n,.string d.head.name,kv',kb'].toArray) rfl ?_
 refine a9 hI bM fun b3 w' hI=>?_
 refine a9 hI bM fun b4 w' hI=>?_
 have hI:Inv w [] [.blk b3 (.cells zCl ac),.blk b4 (.cells zCl ac)] S1 w':=hI
 refine aM hI 0 rfl aI rfl rfl (by simpa using hc.one) fun w' hI=>?_
 refine aM hI 1 rfl aI rfl rfl (by simpa using hd.one) fun w' hI=>?_
 have hI:Inv w [] [.blk b3 (.cells #[.int .i64 c.head.kind,.int .i64 c.head.n,.string c.head.name,kv,kb] ac),.blk b4 (.cells #[.int .i64 d.head.kind,.int .i64 d.head.n,.string d.head.name,kv',kb'] ac)] S1 w':=hI
 obtain ⟨r,b,hrb⟩:=RB.ex (c:=c) (d:=d) (by omega) (by omega)
 refine aO hI 0 aI rfl rfl ?_
 refine aO hI 1 aI rfl rfl ?_
 refine Run.pubOB nH m9 hI (kq hrb hc hd (by omega) (by omega)) fun xs S2 w' hle2 hx hI=>?_
 have hlx:=hx.length
 have hc:=hc.mono hle2
 have hd:=hd.mono hle2
 refine aT (v:=.agg xs.toArray) rfl ?_
 refine aT (v:=.bool b) rfl ?_
 refine a9 hI bM fun b6 w' hI=>?_
 refine aM hI 2 rfl aI (by simpa using hlx) rfl (by simpa using hx.one) fun w' hI=>?_
 refine aO hI 0 aI rfl rfl ?_
 refine aO hI 1 aI rfl rfl ?_
 refine Run.pubOB nW nF hI (kz hrb hc hd (by omega) (by omega)) fun zs S3 w' hle3 hz hI=>?_
 have hlz:=hz.length
 have hc:=hc.mono hle3
 have hd:=hd.mono hle3
 have hx:=hx.mono hle3
 refine aT (v:=.agg zs.toArray) rfl ?_
 refine aT (v:=.bool b) rfl ?_
 refine a9 hI bM fun b8 w' hI=>?_
 refine aM hI 3 rfl aI (by simpa using hlz) rfl (by simpa using hz.one) fun w' hI=>?_
 have hle:=hE1.1.trans (hle2.trans hle3)
 obtain ⟨kx,kbx,rfl,hxh,hxb⟩:=hx.cells
 have hI:Inv w [] [.blk b3 (.cells #[.int .i64 c.head.kind,.int .i64 c.head.n,.string c.head.name,kv,kb] ac),.blk b4 (.cells #[.int .i64 d.head.kind,.int .i64 d.head.n,.string d.head.name,kv',kb'] ac),.blk b6 (.cells #[.int .i64 r.head.kind,.int .i64 r.head.n,.string r.head.name,kx,kbx] ac),.blk b8 (.cells zs.toArray ac)] S3 w':=hI
 refine ⟨fun t w'=>t=.bool (!b)/\Inv w [] [.blk b3 (.cells #[.int .i64 c.head.kind,.int .i64 c.head.n,.string c.head.name,kv,kb] ac),.blk b4 (.cells #[.int .i64 d.head.kind,.int .i64 d.head.n,.string d.head.name,kv',kb'] ac),.blk b6 (.cells #[.int .i64 r.head.kind,.int .i64 r.head.n,.string r.head.name,kx,kbx] ac),.blk b8 (.cells zs.toArray ac)] S3 w',?_,?_⟩
 ·refine FD oN ?_
  rw [beq_self_eq_true]
  repeat (first|refine ae ?_|refine ah (by decide) ?_|refine ad ?_|refine al ?_|refine aj ?_)
  refine aO hI 2 aI rfl rfl ?_
  refine aO hI 3 aI rfl (by simpa using hlz) ?_
  refine Run.callPure fQ fR hI (fN hx hz) fun w' hI=>?_
  refine cN ?_
  repeat (first|refine ae ?_|refine ah (by decide) ?_|refine ad ?_|refine al ?_|refine aj ?_)
  refine cN ?_
  repeat (first|refine ae ?_|refine ah (by decide) ?_|refine ad ?_|refine al ?_|refine aj ?_)
  exact ⟨rfl,hI⟩
 intro t45 _ _ _ _ _ _ _ _ _ _ _ _ w'
 rintro ⟨rfl,hI⟩
 refine a7 (fun _=>?_) (fun hbt=>?_)
 ·refine JN oN ?_
  rw [beq_self_eq_true]
  repeat (first|refine ae ?_|refine ah (by decide) ?_|refine ad ?_|refine al ?_|refine aj ?_)
  refine aO hI 2 aI rfl rfl ?_
  refine aO hI 3 aI rfl (by simpa using hlz) ?_
  refine Run.callPure fQ fR hI (fN hx hz) fun w' hI=>?_
  repeat (first|refine ae ?_|refine ah (by decide) ?_|refine ad ?_|refine al ?_|refine aj ?_)
  exact ph hI hle rfl
 rw [Bool.not_eq_false'] at hbt
 subst hbt
 obtain ⟨q1,q2,q3,q4⟩:=Eq (by omega) (by omega) hrb
 have hwr:=hrb.w (by omega) (by omega)
 refine aO hI 2 aI rfl rfl ?_
 refine Run.pubOB oW o8 hI (mg hx (by omega)) fun qs S4 w' hle4 hq hI=>?_
 rw [q4] at hq
 have hx:=hx.mono hle4
 have hxh:=hxh.mono hle4
 have hxb:=hxb.monoT hle4
 have hlq:=hq.length
 have hle:=hle.trans hle4
 refine aT (v:=.agg qs.toArray) rfl ?_
 refine aT (v:=.bool (bG r)) rfl ?_
 rw [q1]
 refine a9 hI bM fun b9 w' hI=>?_
 refine aM hI 4 rfl aI (by simpa using hlq) rfl (by simpa using hq.one) fun w' hI=>?_
 have hI:Inv w [] [.blk b3 (.cells #[.int .i64 c.head.kind,.int .i64 c.head.n,.string c.head.name,kv,kb] ac),.blk b4 (.cells #[.int .i64 d.head.kind,.int .i64 d.head.n,.string d.head.name,kv',kb'] ac),.blk b6 (.cells #[.int .i64 r.head.kind,.int .i64 r.head.n,.string r.head.name,kx,kbx] ac),.blk b8 (.cells zs.toArray ac),.blk b9 (.cells qs.toArray ac)] S4 w':=hI
 refine aO hI 2 aI rfl rfl ?_
 refine Run.callPure fe fb hI (eI hx) fun w' hI=>?_
 rw [q1]
 repeat (first|refine ae ?_|refine ah (by decide) ?_|refine ad ?_|refine al ?_|refine aj ?_)
 refine ar hI 2 rfl bl aL rfl ?_
 refine bm hxb aG ?_
 refine ar hI 0 rfl bl aL rfl ?_
 have hbl:=hb.le
 have hbl':=hb'.le
 simp only [maxLen] at hbl hbl'
 refine bm (hb.monoT (hle2.trans (hle3.trans hle4))) aG ?_
 refine ar hI 1 rfl bl aL rfl ?_
 refine bm (hb'.monoT (hle2.trans (hle3.trans hle4))) aG ?_
 unfold wC at hwc hwd
 refine bR (by omega) ?_
 refine lq (by omega) ?_
 refine bO ?_
 rw [decide_eq_true (show (r.body.length:Int)=(c.body.length:Int)+(d.body.length:Int) - 1 by omega)]
 repeat (first|refine ae ?_|refine ah (by decide) ?_|refine ad ?_|refine al ?_|refine aj ?_)
 refine bj bQ ?_
 refine cY hI 2 [.int .i64 r.head.kind,.int .i64 r.head.n,.string r.head.name,kx] ag rfl rfl n3 ?_
 refine bj bQ ?_
 refine cY hI 0 [.int .i64 c.head.kind,.int .i64 c.head.n,.string c.head.name,kv] ag rfl rfl n3 ?_
 refine Run.callPure mG mE hI (j4 hxh (hh.mono (hle2.trans (hle3.trans hle4)))) fun w' hI=>?_
 rw [q3]
 repeat (first|refine ae ?_|refine ah (by decide) ?_|refine ad ?_|refine al ?_|refine aj ?_)
 refine aO hI 4 aI rfl (by simpa using hlq) ?_
 refine aO hI 2 aI rfl rfl ?_
 refine Run.callPure fQ fR hI (fN hq hx) fun w' hI=>?_
 repeat (first|refine ae ?_|refine ah (by decide) ?_|refine ad ?_|refine al ?_|refine aj ?_)
 exact ph hI hle rfl
end
end Go.Proofs.YtnmnddpdikghhaaGreat

/- What every row of this seat owes beside its walk: the arguments read again as they did, and nothing that was there has turned. -/
namespace Go.Proofs.YtnmnddpdikghhaaGreat
open Go Go.ChangeShapes Go.WideShapes Go.ChangeAt Go.RowKit

theorem Tryz.own:ownKnob Tryz.prog.godebug=none:=by kernel_rfl
theorem Tryz.kids:Kids Tryz.prog (·<Tryz.prog.types.size):=kids_rows (by kernel_rfl) (by kernel_rfl)
theorem Tryz.full:∀ t e,t<Tryz.prog.types.size->Tryz.prog.underlying t=some (.slice e)->0<Tryz.prog.cellsOf e:=slices_full_of Tryz.prog (by kernel_rfl)
section
variable {H:Type} {enc:TypeId × Value->H} {W W':World}
theorem D1 {P:Program}:∀ {ts:List TypeId} {vs:List Value} {ds:List (DataW H)} {ps:List MemPlace},DataW.TrodAll enc P W 0 (fun _=>true) true ts vs ds ps->(∀ p∈ps,W.sameAt W' p)->
  DataW.TrodAll enc P W' 0 (fun _=>true) true ts vs ds ps
 | [],[],[],_,h,_=>h
 | _::_,_::_,_::_,_,⟨p,q,⟨n,h1⟩,h2,e⟩,hs=>
  ⟨p,q,⟨n,DataW.trod_carry n _ _ _ h1 fun x hx=>hs x (by rw [e]; exact List.mem_append_left _ hx)⟩,D1 h2 fun x hx=>hs x (by rw [e]; exact List.mem_append_right _ hx),e⟩
theorem KK {p:MemPlace} (h:∀ b,b<W.heap.size->W'.heap[b]?=W.heap[b]?) (hp:p.block<W.heap.size):W.sameAt W' p:=by
 cases p with
 | cell b off=>simp only [World.sameAt,World.cell?]; rw [h b hp]
 | map b=>exact h b hp
/- a function of the program whose walk ends with 'true' and with all that was there as it was: the row's 'post' -/
theorem Bx {f:Func} {s:ChangeSpec} {args:Array Value} {ds gs:List (DataW H)} {before p q:List MemPlace}
  (hW:DataW.Whole enc Tryz.prog f.params.toList s.vars false W args.toList ds gs before) (hA:DataW.TrodAll enc Tryz.prog W 0 (fun _=>true) true f.params.toList args.toList ds p)
  (hV:DataW.TrodVars enc Tryz.prog W (fun _=>true) s.vars gs q) (hb:before=p++q) (hv:s.vars=[]) (hts:∀ t∈f.params.toList,t<Tryz.prog.types.size) (hr:f.resultTypes=#[Ga])
  (hs:(s.fn H (ds++gs)).results=[.lit (.bool true)]) (ha:(s.fn H (ds++gs)).args=ds) (hsv:(s.fn H (ds++gs)).vars=[]) (hI:Inv W [] [] (Ig W) W') :
  s.post enc Tryz.prog f false true false false W args (.bool true) W':=by
 have hsame:∀ b,b<W.heap.size->W'.heap[b]?=W.heap[b]?:=fun b hb=>hI.same b hb
 have hlt:=hW.lt
 rw [hv] at hV
 obtain ⟨hg,hq⟩:=trodVars_none hV
 subst hq
 rw [List.append_nil] at hb
 subst hb
 have hA':=D1 (W':=W') hA fun x hx=>KK hsame (hlt x hx)
 refine ⟨ds,gs,before,[],before,[],hW,?_,?_,?_,I7 hI.os hI.output hsame,fun h=>by cases h⟩
 ·rw [hs,hr]
  exact trodAll_mk1 (shut_bool oN true)
 ·rw [ha]
  exact DataW.TrodAll.respare Tryz.kids Tryz.full hts hA' fun x hx=>by simpa using hlt x hx
 ·rw [hv,hsv]
  rfl
end

end Go.Proofs.YtnmnddpdikghhaaGreat

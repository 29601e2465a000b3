/- impl.resolvent. -/
import Derived.Test.YtgllldjiaglkcaaGreatDoorZUf17
import Derived.Test.YtgllldjiaglkcaaGreatDoorZUf16
namespace Go.Proofs.YtgllldjiaglkcaaGreatDoor
section
open Go Go.RowKit
def Of (n:Int):T:=.mk 1 (n+26) ⟨#[]⟩ []
mutual
theorem xm {N:Nat}:∀ t:T,okU N t->Ds Of t=bp 26 t
 | .mk k n s ks,h=>by
  rw [okU] at h;rw [Ds,bp];by_cases hk:k=1
  ·have a:=h.2.1 hk;rw [ai hk,ai hk,a.2.2.2,dM,a.2.2.1,hk];rfl
  ·rw [ag hk,ag hk,C1 ks h.2.2.1]
theorem C1 {N:Nat}:∀ ts:List T,bL N ts->ti Of ts=dM 26 ts
 | [],_=>rfl
 | t::ts,h=>by
  rw [bL] at h;rw [ti,dM,xm t h.1,C1 ts h.2]
end
mutual
theorem za:∀ t:T,okU 26 t->okV t
 | .mk k n s ks,h=>by
  rw [okU] at h;rw [okV];exact ⟨fun hk=>by have:=h.2.1 hk; omega,Nx ks h.2.2.1⟩
theorem Nx:∀ ts:List T,bL 26 ts->AC ts
 | [],_=>by rw [AC]; trivial
 | t::ts,h=>by
  rw [bL] at h;rw [AC];exact ⟨za t h.1,Nx ts h.2⟩
end
def Yg (o:Option (Option C)):Value->List Item->ae->Prop:=fun q I' _=>∃ (cs:List Value) (L:bh),q=.tuple #[.agg cs.toArray,.bool (iB o),.bool (xI o)]/\I'=aV L/\TrC L cs (clO o)
section
attribute [local irreducible] Run CondV aq aK
theorem rE (S:ae):Fun rO [] S Of:=by
 intro S' _ n g f;refine ⟨[.int .i64 1,.int .i64 (n+26),.string ⟨#[]⟩,.slice none 0 0],RdT.nil (by simp [inI]) (by simp only [inI]; omega) (show 0<=maxLen from bk _) (by simp [maxLen]),fun w a=>?_⟩;refine o8.2 ?_;dsimp only[o8,aO];refine aQ a bj fun h w' a=>?_;refine bC (by omega) ?_;refine bC (by omega) ?_;refine Run.callPure kI kM a (jm _ S') fun w' a=>?_;rw [show n+25+1=n+26 by omega];refine au a 0 rfl ad rfl rfl (by simp [Value.oneCell']) fun w' a=>?_;refine bB a 0 ad rfl rfl ?_;exact done a rfl
theorem Lq {K:Value->World->Prop} {w:World} {mb:Nat} (hk:K (.agg #[.map (some mb),.slice none 0 0]) w):Run Tryz.prog (cR c5 [(0,.map (some mb))]) w K:=by
 refine Run.of (v:=.agg #[.map (some mb),.slice none 0 0]) (w':=w) ?_ hk;unfold cR;rw [Sem.run_bind,run_build w c5 _ #[.map (some mb),.slice none 0 0] (by kernel_rfl),Result.andThen_ok];rfl
theorem ux (S:ae):Tri Tryz.prog LW [] [] S fun r I' S'=>S'=S/\∃ sb mb,r=.pointer (some ⟨sb,0,none⟩)/\I'=aB sb mb #[] 0 (.slice none 0 0) []:=by
 intro w a;have a:Inv w [] [] S w:=a;refine wy.2 ?_;dsimp only[wy,nV];refine JN a fun mb w' a=>?_;refine Lq ?_;refine bJ a fun sb w' a=>?_;have a:=a.rowNil cO 1;have a:Inv w [] (aB sb mb #[] 0 (.slice none 0 0) []) S w':=a.perm (List.Perm.swap ..);exact ⟨_,_,_,rfl,a,Ext.refl _ _ _,rfl,sb,mb,rfl,rfl⟩
theorem KnownM.none (S:ae) (N:Nat):KnownM S #[] (List.replicate N Option.none):=by
 refine ⟨fun e a=>by simp at a,fun n t h=>?_,by simp⟩;have:=cz h;simp at this
set_option maxHeartbeats 2000000 in
theorem yk {B q:C} {o:Option (Option C)} (hc:bt B=true) (hd:bt q=true) (j4:wC B<=1048576) (c6:wC q<=1048576) (hb:B.body≠[]) (ho:RO B q o) {S:ae} {cs ds:List Value} (h:RdC S cs B) (h':RdC S ds q) :
  Tri Tryz.prog Hu [.agg cs.toArray,.agg ds.toArray] [] S (Yg o):=by
 intro w f;have f:Inv w [] [] S w:=f;obtain ⟨d1,d2,d3⟩:=dU hd;have l2:=Bn hc hd;have c3:=sD hc hd;have h7:=pe hc hd j4 c6 hb;obtain ⟨r,st,hu,b7⟩:=ho;obtain ⟨hg,_⟩:=hu.good js h7;obtain ⟨p8,ks,rfl,h1,h2⟩:=h;have n9:=h1;obtain ⟨O,rfl,g1,g2,g3,g4⟩:=RdT.iff.1 h1;have h8:0<B.body.length:=UM.2 hb;obtain ⟨bb,bo,G,bc,bE,p9,rfl,n4,k6⟩:=h2.at_ h8;have e3:B.body.headD ⟨0,0,⟨#[]⟩,[]⟩=B.body[0]:=Jl _ h8 _;rw [e3] at hu h7;obtain ⟨q0,q2,rfl,k1,k2⟩:=h';have o0:=k1;obtain ⟨U,rfl,_⟩:=RdT.iff.1 k1;obtain ⟨da,J,rfl,_⟩:=id k2;have l3:wT q.head<=1048576:=by unfold wC at c6; omega
 refine ub.2 ?_;dsimp only[ub,bm];refine bJ f fun b2 w' f=>?_;refine bJ f fun b3 w' f=>?_;refine aQ f cX fun b4 w' f=>?_;refine Run.call0 we vU f (ux S) fun v' I' S' w'=>?_;rintro ⟨eS,sb,mb,rfl,rfl⟩ _ f;rw [eS] at f;clear eS;have f:Inv w [] ([.blk b2 (.cells #[.int .i64 B.head.kind,.int .i64 B.head.n,.string B.head.name,O,.slice (some ⟨bb,bo,none⟩) B.body.length G] ac),.blk b3 (.cells #[.int .i64 q.head.kind,.int .i64 q.head.n,.string q.head.name,U,.slice da q.body.length J] ac),.blk b4 (.cells #[.int .i64 0,.int .i64 0,.string ⟨#[]⟩,.slice none 0 0,.slice none 0 0] ac)]++aB sb mb #[] 0 (.slice none 0 0) []) S w':=f;refine ⟨fun D pn kV fN lP r4 pR oK jG kZ rF jX w_=>Fx D 0 [jX=.pointer (some ⟨sb,0,none⟩),rF=.pointer (some ⟨b2,4,none⟩),kZ=.slice (some ⟨bb,bo,none⟩) B.body.length G,jG=.pointer (some ⟨bb,bo+0 * 4,none⟩),oK=.agg (aX bc (bo+0 * 4) 4).toArray,pR=.pointer (some ⟨b3,0,none⟩),r4=.agg #[.int .i64 q.head.kind,.int .i64 q.head.n,.string q.head.name,U],lP=Value.func (.func rO) #[] #[],True,kV=.bool r,pn=.bool (!r)]/\∃ SN a3,Ext w.heap.size [] S SN/\(D 8=true->fN=.agg (List.toArray a3)/\RdT SN a3 (bp 26 q.head))/\(D 9=true->D 8=true)/\(D 9=false->Inv w [] ([.blk b2 (.cells #[.int .i64 B.head.kind,.int .i64 B.head.n,.string B.head.name,O,.slice (some ⟨bb,bo,none⟩) B.body.length G] ac),.blk b3 (.cells #[.int .i64 q.head.kind,.int .i64 q.head.n,.string q.head.name,U,.slice da q.body.length J] ac),.blk b4 (.cells #[.int .i64 0,.int .i64 0,.string ⟨#[]⟩,.slice none 0 0,.slice none 0 0] ac)]++aB sb mb #[] 0 (.slice none 0 0) []) SN w_)/\(D 9=true->∃ es ck tv tr,KnownM SN es st/\Inv w [] ([.blk b2 (.cells #[.int .i64 B.head.kind,.int .i64 B.head.n,.string B.head.name,O,.slice (some ⟨bb,bo,none⟩) B.body.length G] ac),.blk b3 (.cells #[.int .i64 q.head.kind,.int .i64 q.head.n,.string q.head.name,U,.slice da q.body.length J] ac),.blk b4 (.cells #[.int .i64 0,.int .i64 0,.string ⟨#[]⟩,.slice none 0 0,.slice none 0 0] ac)]++aB sb mb es ck tv tr) SN w_)/\∃ Z a0 a1 a2,Inv w [] ([.blk b2 (.cells #[.int .i64 B.head.kind,.int .i64 B.head.n,.string B.head.name,O,.slice (some ⟨bb,bo,none⟩) B.body.length G] ac),.blk b3 (.cells #[.int .i64 q.head.kind,.int .i64 q.head.n,.string q.head.name,U,.slice da q.body.length J] ac),.blk b4 (.cells #[.int .i64 0,.int .i64 0,.string ⟨#[]⟩,.slice none 0 0,.slice none 0 0] ac)]++aB sb mb Z a0 a1 a2) SN w_,⟨Fx.nil _ _,⟨S,[],Ext.refl _ _ _,aI,aI,fun _=>f.draw,aI,_,_,_,_,f.draw⟩⟩,⟨?_,?_,?_,?_,?_,?_,?_,?_,?_,?_,?_,trivial⟩,?_⟩;all_goals (intro D bH; intros; rename_i pn kV fN lP r4 pR oK jG kZ rF jX w_ b0; have N:=b0.1; obtain ⟨⟨cI,cJ,cH,cD,cL,cN,cq,dg,dG,dL,cT,_⟩,⟨SN,a3,hN,e8,a5,a4,a6,Z,a0,a1,a2,f⟩⟩:=b0)
 ·exact ⟨N.set 0 rfl,⟨SN,a3,hN,e8,a5,a4,a6,Z,a0,a1,a2,f⟩⟩
 ·refine aw aU ?_;exact ⟨N.set 1 rfl,⟨SN,a3,hN,e8,a5,a4,a6,Z,a0,a1,a2,f⟩⟩
 ·obtain rfl:=cJ ‹_›;refine aT f 0 al rfl rfl ?_;exact ⟨N.set 2 rfl,⟨SN,a3,hN,e8,a5,a4,a6,Z,a0,a1,a2,f⟩⟩
 ·obtain rfl:=cH ‹_›;refine az (i:=0) ah h8 ?_;exact ⟨N.set 3 rfl,⟨SN,a3,hN,e8,a5,a4,a6,Z,a0,a1,a2,f⟩⟩
 ·obtain rfl:=cD ‹_›;refine ci ad k6.length (fun j v hj=>by rw [f.cellS (hN.1 _ _ n4)]; exact aF rfl j v hj) ?_;exact ⟨N.set 4 rfl,⟨SN,a3,hN,e8,a5,a4,a6,Z,a0,a1,a2,f⟩⟩
 ·refine aw bO ?_;exact ⟨N.set 5 rfl,⟨SN,a3,hN,e8,a5,a4,a6,Z,a0,a1,a2,f⟩⟩
 ·obtain rfl:=cN ‹_›;refine dC f 1 [.int .i64 q.head.kind,.int .i64 q.head.n,.string q.head.name,U] ad rfl rfl Ax ?_;exact ⟨N.set 6 rfl,⟨SN,a3,hN,e8,a5,a4,a6,Z,a0,a1,a2,f⟩⟩
 ·exact ⟨N.set 7 rfl,⟨SN,a3,hN,e8,a5,a4,a6,Z,a0,a1,a2,f⟩⟩
 ·obtain rfl:=cq ‹_›;obtain rfl:=dg ‹_›;have f9:D 9=false:=bx.2 fun h=>by rw [a5 h] at bH; cases bH
  have f:=a4 f9;refine Run.call0E gq gh f (qK [] Of pJ oQ _ SN _ (o0.mono hN.1) (za _ d1) l3 (rE SN)) fun v' I' SN w_=>?_;rintro ⟨rfl,a3,rfl,c7⟩ m6 f;rw [xm _ d1] at c7;have hN:=hN.trans m6;have f:Inv w [] ([.blk b2 (.cells #[.int .i64 B.head.kind,.int .i64 B.head.n,.string B.head.name,O,.slice (some ⟨bb,bo,none⟩) B.body.length G] ac),.blk b3 (.cells #[.int .i64 q.head.kind,.int .i64 q.head.n,.string q.head.name,U,.slice da q.body.length J] ac),.blk b4 (.cells #[.int .i64 0,.int .i64 0,.string ⟨#[]⟩,.slice none 0 0,.slice none 0 0] ac)]++aB sb mb #[] 0 (.slice none 0 0) []) SN w_:=by simpa using f
  have e8:=fun (_:ao D 8 8=true)=>(⟨rfl,c7⟩:Value.agg (List.toArray a3)=Value.agg (List.toArray a3)/\RdT SN a3 (bp 26 q.head))
  have a5:=fun (_:ao D 8 9=true)=>(rfl:ao D 8 8=true)
  have a4:=fun (_:ao D 8 9=false)=>f;have a6:=fun (h:ao D 8 9=true)=>(Bool.noConfusion (f9.symm.trans h):∃ es ck tv tr,KnownM SN es st/\Inv w [] ([.blk b2 (.cells #[.int .i64 B.head.kind,.int .i64 B.head.n,.string B.head.name,O,.slice (some ⟨bb,bo,none⟩) B.body.length G] ac),.blk b3 (.cells #[.int .i64 q.head.kind,.int .i64 q.head.n,.string q.head.name,U,.slice da q.body.length J] ac),.blk b4 (.cells #[.int .i64 0,.int .i64 0,.string ⟨#[]⟩,.slice none 0 0,.slice none 0 0] ac)]++aB sb mb es ck tv tr) SN w_)
  obtain ⟨Z,a0,a1,a2,f⟩:∃ Z a0 a1 a2,Inv w [] ([.blk b2 (.cells #[.int .i64 B.head.kind,.int .i64 B.head.n,.string B.head.name,O,.slice (some ⟨bb,bo,none⟩) B.body.length G] ac),.blk b3 (.cells #[.int .i64 q.head.kind,.int .i64 q.head.n,.string q.head.name,U,.slice da q.body.length J] ac),.blk b4 (.cells #[.int .i64 0,.int .i64 0,.string ⟨#[]⟩,.slice none 0 0,.slice none 0 0] ac)]++aB sb mb Z a0 a1 a2) SN w_:=⟨_,_,_,_,f⟩
  exact ⟨N.set 8 (by first|assumption|trivial),⟨SN,a3,hN,e8,a5,a4,a6,Z,a0,a1,a2,f⟩⟩
 ·obtain rfl:=cI ‹_›;obtain rfl:=cL ‹_›;have DH:=dG ‹_›;obtain ⟨q8,c7⟩:=e8 ‹D 8=true›;subst q8;have h9:=gJ (by omega) js h7 hu SN _ _ sb mb 0 #[] (.slice none 0 0) [] (k6.mono hN.1) c7 (KnownM.none SN 52) (by rw [stU,Uf]; simp);refine Run.callE (A:=[_,_,_]) eq eo (a4 bH) h9 fun v' I' S' w_=>?_;rintro ⟨eS,rfl,m7,m8,m9,n0,rfl,c8,_⟩ _ f;rw [eS] at f;have a5:=fun (_:ao D 9 9=true)=>‹D 8=true›;have a4:=fun (h:ao D 9 9=false)=>(Bool.noConfusion h:Inv w [] ([.blk b2 (.cells #[.int .i64 B.head.kind,.int .i64 B.head.n,.string B.head.name,O,.slice (some ⟨bb,bo,none⟩) B.body.length G] ac),.blk b3 (.cells #[.int .i64 q.head.kind,.int .i64 q.head.n,.string q.head.name,U,.slice da q.body.length J] ac),.blk b4 (.cells #[.int .i64 0,.int .i64 0,.string ⟨#[]⟩,.slice none 0 0,.slice none 0 0] ac)]++aB sb mb #[] 0 (.slice none 0 0) []) SN w_)
  have a6:=fun (_:ao D 9 9=true)=>(⟨m7,m8,m9,n0,c8,f⟩:∃ es ck tv tr,KnownM SN es st/\Inv w [] ([.blk b2 (.cells #[.int .i64 B.head.kind,.int .i64 B.head.n,.string B.head.name,O,.slice (some ⟨bb,bo,none⟩) B.body.length G] ac),.blk b3 (.cells #[.int .i64 q.head.kind,.int .i64 q.head.n,.string q.head.name,U,.slice da q.body.length J] ac),.blk b4 (.cells #[.int .i64 0,.int .i64 0,.string ⟨#[]⟩,.slice none 0 0,.slice none 0 0] ac)]++aB sb mb es ck tv tr) SN w_)
  obtain ⟨Z,a0,a1,a2,f⟩:∃ Z a0 a1 a2,Inv w [] ([.blk b2 (.cells #[.int .i64 B.head.kind,.int .i64 B.head.n,.string B.head.name,O,.slice (some ⟨bb,bo,none⟩) B.body.length G] ac),.blk b3 (.cells #[.int .i64 q.head.kind,.int .i64 q.head.n,.string q.head.name,U,.slice da q.body.length J] ac),.blk b4 (.cells #[.int .i64 0,.int .i64 0,.string ⟨#[]⟩,.slice none 0 0,.slice none 0 0] ac)]++aB sb mb Z a0 a1 a2) SN w_:=⟨_,_,_,_,f⟩
  exact ⟨N.set 9 rfl,⟨SN,a3,hN,e8,a5,a4,a6,Z,a0,a1,a2,f⟩⟩
 ·obtain rfl:=dL ‹_›;refine cw ?_;exact ⟨N.set 10 rfl,⟨SN,a3,hN,e8,a5,a4,a6,Z,a0,a1,a2,f⟩⟩
 obtain ⟨rfl,rfl,rfl,rfl,rfl,rfl,rfl,rfl,DH,rfl,rfl,_⟩:=N.all;have OK:D 9=true:=by assumption
 clear N cI cJ cH cD cL cN cq dg dG dL cT;obtain ⟨es,ck,tv,tr,n5,f⟩:=a6 OK;clear a4 a6 e8 a5;have l4:∀ x∈([.int .i64 0,.int .i64 0,.string ⟨#[]⟩,.slice none 0 0,.slice none 0 0]:List Value),x.oneCell'=true:=Ay;refine aD (fun g9=>?_) (fun g9=>?_)
 ·have hr:r=false:=by simpa using g9
  have o1:o=none:=by
   rcases b7 with ⟨_,h⟩|⟨h,_⟩
   ·exact h
   ·rw [hr] at h; cases h
  subst o1;refine jx ?_;refine au f 2 rfl aH rfl rfl l4 fun w' f=>?_;refine bB f 2 aH rfl rfl ?_;exact ⟨_,_,_,rfl,f.nil,hN,[.int .i64 0,.int .i64 0,.string ⟨#[]⟩,.slice none 0 0,.slice none 0 0],[],rfl,rfl,TrC.zero⟩
 have hr:r=true:=by simpa using g9
 obtain ⟨us,h5,k7⟩:∃ us,Res st (.list (iN B q) us)/\((us.all bv=false/\o=some none) ∨ (us.all bv=true/\o=some (some (vd (bX (ofL us)) (ofL us))))):=by
  rcases b7 with ⟨h,_⟩|⟨_,h⟩
  ·rw [hr] at h; cases h
  ·exact h
 clear b7;have f:Inv w [] (([.blk b2 (.cells #[.int .i64 B.head.kind,.int .i64 B.head.n,.string B.head.name,O,.slice (some ⟨bb,bo,none⟩) B.body.length G] ac),.blk b3 (.cells #[.int .i64 q.head.kind,.int .i64 q.head.n,.string q.head.name,U,.slice da q.body.length J] ac),.blk b4 (.cells #[.int .i64 0,.int .i64 0,.string ⟨#[]⟩,.slice none 0 0,.slice none 0 0] ac)]++[dk tv tr])++aV [(sb,.cells #[.map (some mb),tv] c5),(mb,.map es ck)]) SN w_:=f.perm (List.Perm.cons _ (List.Perm.cons _ (List.Perm.cons _ (cj (l₁:=[dk tv tr]) (l₂:=aV [(sb,.cells #[.map (some mb),tv] c5),(mb,.map es ck)])))));obtain ⟨S1,f,k8,c2⟩:=Inv.pubExt f;have l5:StS S1 S1 sb st:=⟨mb,tv,es,ck,c5,c2 _ (aM ..),c2 _ (aR _ (aM ..)),n5.up k8.1⟩
 have hE:=hN.trans k8;have f:Inv w [] [.blk b2 (.cells #[.int .i64 B.head.kind,.int .i64 B.head.n,.string B.head.name,O,.slice (some ⟨bb,bo,none⟩) B.body.length G] ac),.blk b3 (.cells #[.int .i64 q.head.kind,.int .i64 q.head.n,.string q.head.name,U,.slice da q.body.length J] ac),.blk b4 (.cells #[.int .i64 0,.int .i64 0,.string ⟨#[]⟩,.slice none 0 0,.slice none 0 0] ac)] S1 w_:=f.pick [true,true,true,false];refine aw bO ?_;refine dC f 0 [.int .i64 B.head.kind,.int .i64 B.head.n,.string B.head.name,O] ad rfl rfl Ax ?_;refine dB f bn (by simp [Value.cells]) (by omega) (by omega) fun p6 w' f=>?_;have f:=Inv.closeRow (A:=[_,_,_]) (cap:=1) (k:=4) (n:=1) f (by omega) (by simp [maxLen]) (by simp [Value.cells]);have l6:=n9.mono hE.1;have o2:Rows 4 (RdT S1) [[.int .i64 B.head.kind,.int .i64 B.head.n,.string B.head.name,O]] (B.head::dM 26 (q.body.take 0)):=Rows.one l6 l6.length;refine af f 1 rfl aU al rfl ?_;refine aJ (k2.monoT hE.1) ah ?_;refine ⟨fun i t w'=>∃ (j:Nat) (css:List (List Value)) (S':ae),j<=q.body.length/\i=.int .i64 j/\Ext w.heap.size [] S1 S'/\Rows 4 (RdT S') css (B.head::dM 26 (q.body.take j))/\Inv w [] [.blk b2 (.cells #[.int .i64 B.head.kind,.int .i64 B.head.n,.string B.head.name,O,.slice (some ⟨bb,bo,none⟩) B.body.length G] ac),.blk b3 (.cells #[.int .i64 q.head.kind,.int .i64 q.head.n,.string q.head.name,U,.slice da q.body.length J] ac),.blk b4 (.cells #[.int .i64 0,.int .i64 0,.string ⟨#[]⟩,.slice none 0 0,.slice none 0 0] ac),aA t ab 4 css] S' w',
  fun i _ _=>q.body.length - (intOf i).toNat,⟨0,_,S1,bk _,rfl,Ext.refl _ _ _,o2,f⟩,?_⟩
 intro p4 _ t9 _ _ _ _ _ _ _ _ _ _ w';rintro ⟨j,css,S2,hj,rfl,c9,hR,f⟩;have l7:=hR.hc;rw [bq,eU,jO,cM] at l7;refine bS ?_;refine aL (fun h0=>?_) (fun h0=>?_)
 ·have e7:j<q.body.length:=by omega
  have hm:=bG e7;have r1:=nY hm;refine co f (k2.monoT (hE.1.trans c9.1)) ah ad e7 (fun _ _=>RdT.length) fun Y c1=>?_;have f6:=c1.length;refine aQ f bj fun j8 w' f=>?_;have f:=f.perm (M:=.blk j8 _::[.blk b2 (.cells #[.int .i64 B.head.kind,.int .i64 B.head.n,.string B.head.name,O,.slice (some ⟨bb,bo,none⟩) B.body.length G] ac),.blk b3 (.cells #[.int .i64 q.head.kind,.int .i64 q.head.n,.string q.head.name,U,.slice da q.body.length J] ac),.blk b4 (.cells #[.int .i64 0,.int .i64 0,.string ⟨#[]⟩,.slice none 0 0,.slice none 0 0] ac),aA t9 ab 4 css]) (cj (l₁:=[_]));refine au f 0 rfl ad (by simpa using f6) rfl (by simpa using c1.one) fun w' f=>?_;refine aC f 0 ad rfl (by simpa using f6) ?_;refine Run.call0E gq gh f (qK [] Of pJ oQ _ S2 _ c1 (za _ (d2 _ hm)) (by unfold wC at c6; omega) (rE S2)) fun v' I' S3 w'=>?_;rintro ⟨rfl,g8,rfl,b5⟩ b6 f;rw [xm _ (d2 _ hm)] at b5;have f:Inv w [] (.blk j8 (.cells Y.toArray ab)::[.blk b2 (.cells #[.int .i64 B.head.kind,.int .i64 B.head.n,.string B.head.name,O,.slice (some ⟨bb,bo,none⟩) B.body.length G] ac),.blk b3 (.cells #[.int .i64 q.head.kind,.int .i64 q.head.n,.string q.head.name,U,.slice da q.body.length J] ac),.blk b4 (.cells #[.int .i64 0,.int .i64 0,.string ⟨#[]⟩,.slice none 0 0,.slice none 0 0] ac),aA t9 ab 4 css]) S3 w':=by simpa using f
  refine de f 4 g8 bn (by omega) (by omega) rfl b5.length b5.one (by omega) (by omega) fun n2 w' f=>?_;have f:Inv w [] [.blk b2 (.cells #[.int .i64 B.head.kind,.int .i64 B.head.n,.string B.head.name,O,.slice (some ⟨bb,bo,none⟩) B.body.length G] ac),.blk b3 (.cells #[.int .i64 q.head.kind,.int .i64 q.head.n,.string q.head.name,U,.slice da q.body.length J] ac),.blk b4 (.cells #[.int .i64 0,.int .i64 0,.string ⟨#[]⟩,.slice none 0 0,.slice none 0 0] ac),aA n2 ab 4 (css++[g8])] S3 w':=f.sub (fH _ _);refine bC (by omega) ?_;refine ⟨⟨j+1,css++[g8],S3,e7,rfl,c9.trans b6,?_,f⟩,by simp [intOf]; omega⟩;rw [ur 26 q.body j e7,<- dS];exact (hR.monoR fun _ _ h=>RdT.mono b6.1 h).snoc b5 b5.length
 have o3:j=q.body.length:=by omega
 subst o3;rw [d4] at hR;have i1:=hE.trans c9;refine af f 0 rfl aU al rfl ?_;refine fk (l:=1) ah (h2.monoT i1.1) (by omega) fun p7 j9=>?_;refine i5 f 3 bn (by omega) rfl j9 (fun _ _=>RdT.length) (fun _ _=>RdT.one) (by rw [iN,bq,bA,eU,jO] at l2; omega) (by omega) fun n3 w' b8 b5 f=>?_;have hR:=hR.append b5;have hR:Rows 4 (RdT S2) (css++b8) (iN B q):=hR;obtain ⟨k9,f0⟩:=fj hg h5 c3;have a9:us.length=(iN B q).length:=f0;have o4:0<(iN B q).length:=by rw [iN]; simp
 have f8:∀ x∈iN B q,wT x<=1048576:=by
  intro x hx;rw [iN] at hx;unfold wC at j4 c6;rcases bY.1 hx with rfl|hx
  ·omega
  ·rcases bF.1 hx with hx|hx
   ·have:=nY hx;rw [zr] at this;omega
   ·have:=nY (xz hx);omega
 generalize iN B q=xs at h5 l2 c3 hR a9 o4 f8;clear f0;have l8:=hR.hc;have f:Inv w [] ([.blk b2 (.cells #[.int .i64 B.head.kind,.int .i64 B.head.n,.string B.head.name,O,.slice (some ⟨bb,bo,none⟩) B.body.length G] ac),.blk b3 (.cells #[.int .i64 q.head.kind,.int .i64 q.head.n,.string q.head.name,U,.slice da q.body.length J] ac),.blk b4 (.cells #[.int .i64 0,.int .i64 0,.string ⟨#[]⟩,.slice none 0 0,.slice none 0 0] ac)]++[aA n3 ab 4 (css++b8)]) S2 w':=f;obtain ⟨q3,h6⟩:=f.openRow;rcases h6 with ⟨_,r3⟩|⟨g,cap,m5,rfl,j0,j1,j2,j3,f⟩
 ·omega
 have i2:∀ i (h:i<xs.length),RdT S2 (aX m5 (i * 4) 4) xs[i]:=by
  intro i hi;have h1:=i8 4 (css++b8) i hR.hk (by omega);have r2:i * 4+4<=(css++b8).length * 4:=by omega
  rw [<- j3,GU,lD,lw (by omega)] at h1;rw [aX,h1];exact hR.hR i hi (by omega)
 rw [l8] at j0;rw [l8];refine iA ah ?_;refine ⟨fun i w'=>∃ (j:Nat) (c':Array Value) (S':ae),j<=us.length/\i=.int .i64 j/\Ext w.heap.size [] S2 S'/\c'.size=cap * 4/\(∀ k (_:k<us.length),k<j->bv us[k]=true)/\(∀ k (_:k<us.length),k<j->RdT S' (aX c' (k * 4) 4) us[k])/\(∀ k (_:k<xs.length),j<=k->RdT S' (aX c' (k * 4) 4) xs[k])/\Inv w [] [.blk b2 (.cells #[.int .i64 B.head.kind,.int .i64 B.head.n,.string B.head.name,O,.slice (some ⟨bb,bo,none⟩) B.body.length G] ac),.blk b3 (.cells #[.int .i64 q.head.kind,.int .i64 q.head.n,.string q.head.name,U,.slice da q.body.length J] ac),.blk b4 (.cells #[.int .i64 0,.int .i64 0,.string ⟨#[]⟩,.slice none 0 0,.slice none 0 0] ac),.blk g (.cells c' ab)] S' w',
  fun i _=>us.length - (intOf i).toNat,⟨0,m5,S2,bk _,rfl,Ext.refl _ _ _,j2,fun k _ h=>by omega,fun k _ h=>by omega,fun k hk _=>i2 k hk,f⟩,?_⟩
 intro p5 _ _ _ _ _ t6 t5 _ _ _ _ _ _ _ _ _ _ _ _ _ _ _ _ _ w';rintro ⟨j,c',S3,hj,rfl,b6,j5,b9,hA,hB,f⟩;refine bS ?_;refine aL (fun h0=>?_) (fun h0=>?_)
 ·have i3:j<xs.length:=by omega
  have i4:j<us.length:=by omega
  have c8:=bG i3;have e9:=hB j i3 (aS _);refine az ah (by omega) ?_;rw [cP];refine dC f 3 (aX c' (j * 4) 4) ad rfl e9.length (fun i v hi=>aF rfl i v hi) ?_;have l9:=e9.length;refine aQ f bj fun h3 w' f=>?_;have f:=f.perm (M:=.blk h3 _::[.blk b2 (.cells #[.int .i64 B.head.kind,.int .i64 B.head.n,.string B.head.name,O,.slice (some ⟨bb,bo,none⟩) B.body.length G] ac),.blk b3 (.cells #[.int .i64 q.head.kind,.int .i64 q.head.n,.string q.head.name,U,.slice da q.body.length J] ac),.blk b4 (.cells #[.int .i64 0,.int .i64 0,.string ⟨#[]⟩,.slice none 0 0,.slice none 0 0] ac),.blk g (.cells c' ab)]) (cj (l₁:=[_]));refine au f 0 rfl ad (by simpa using l9) rfl (by simpa using e9.one) fun w' f=>?_;refine aC f 0 ad rfl (by simpa using l9) ?_;refine Run.call0E iZ i0 f (wb hg (BH h5 j i3 i4) ⟨fM c3 _ c8,f8 _ c8⟩ e9 ((l5.up c9.1).up b6.1)) fun v' I' S4 w'=>?_;rintro ⟨rfl,d6,d7,j6,rfl,j7⟩ d9 f;refine av rfl ?_;refine av rfl ?_;rw [bV] at f;refine aQ f bj fun k0 w' f=>?_;have f:=f.perm (M:=.blk k0 _::.blk h3 (.cells (aX c' (j * 4) 4).toArray ab)::[.blk b2 (.cells #[.int .i64 B.head.kind,.int .i64 B.head.n,.string B.head.name,O,.slice (some ⟨bb,bo,none⟩) B.body.length G] ac),.blk b3 (.cells #[.int .i64 q.head.kind,.int .i64 q.head.n,.string q.head.name,U,.slice da q.body.length J] ac),.blk b4 (.cells #[.int .i64 0,.int .i64 0,.string ⟨#[]⟩,.slice none 0 0,.slice none 0 0] ac),.blk g (.cells c' ab)]) (cj (l₁:=[_]));refine au f 0 rfl ad (by simpa using d7) rfl (by simpa using j6) fun w' f=>?_;have f:Inv w [] (.blk k0 (.cells d6.toArray ab)::.blk h3 (.cells (aX c' (j * 4) 4).toArray ab)::[.blk b2 (.cells #[.int .i64 B.head.kind,.int .i64 B.head.n,.string B.head.name,O,.slice (some ⟨bb,bo,none⟩) B.body.length G] ac),.blk b3 (.cells #[.int .i64 q.head.kind,.int .i64 q.head.n,.string q.head.name,U,.slice da q.body.length J] ac),.blk b4 (.cells #[.int .i64 0,.int .i64 0,.string ⟨#[]⟩,.slice none 0 0,.slice none 0 0] ac),.blk g (.cells c' ab)]) S4 w':=f;refine cw ?_;refine aD (fun h4=>?_) (fun h4=>?_)
  ·have m0:bv us[j]=false:=by simpa using h4
   have o5:o=some none:=by
    rcases k7 with ⟨_,h⟩|⟨h,_⟩
    ·exact h
    ·rw [dD] at h;rw [h _ (bG i4)] at m0;cases m0
   subst o5;refine jx ?_;refine au f 4 rfl aH rfl rfl l4 fun w' f=>?_;refine bB f 4 aH rfl rfl ?_;exact ⟨_,_,_,rfl,f.nil,(i1.trans b6).trans d9,[.int .i64 0,.int .i64 0,.string ⟨#[]⟩,.slice none 0 0,.slice none 0 0],[],rfl,rfl,TrC.zero⟩
  ·have g0:bv us[j]=true:=by simpa using h4
   have o6:=j7 g0;refine aC f 0 ad rfl (by simpa using d7) ?_;refine az ah (by omega) ?_;rw [cP];refine EL f 5 rfl ad (by simpa [Value.cells] using d7) (Nat.ble_eq_true_of_le (by omega)) (by simpa [Value.cells] using j6) fun w' f=>?_;have f:Inv w [] [.blk b2 (.cells #[.int .i64 B.head.kind,.int .i64 B.head.n,.string B.head.name,O,.slice (some ⟨bb,bo,none⟩) B.body.length G] ac),.blk b3 (.cells #[.int .i64 q.head.kind,.int .i64 q.head.n,.string q.head.name,U,.slice da q.body.length J] ac),.blk b4 (.cells #[.int .i64 0,.int .i64 0,.string ⟨#[]⟩,.slice none 0 0,.slice none 0 0] ac),.blk g (.cells (cB c' (j * 4) d6) ab)] S4 w':=f.pick [false,false,true,true,true,true];refine bC (by omega) ?_;refine ⟨⟨j+1,cB c' (j * 4) d6,S4,i4,rfl,b6.trans d9,by rw [kK _ _ _ (by omega)]; exact j5,fun k hk k3=>?_,fun k hk k3=>?_,fun k hk k3=>?_,f⟩,by simp [intOf]; omega⟩
   ·by_cases e:k=j
    ·subst e; exact g0
    ·exact b9 k hk (by omega)
   ·by_cases e:k=j
    ·subst e;have:=iu (c:=c') (o:=k * 4) (vs:=d6) (by omega);rw [d7] at this;rw [this];exact o6
    ·rw [hY (by omega) (by omega)];exact (hA k hk (by omega)).mono d9.1
   ·rw [hY (by omega) (by omega)];exact (hB k hk (by omega)).mono d9.1
 have o7:j=us.length:=by omega
 subst o7;have g5:us.all bv=true:=by
  rw [dD];intro x hx;obtain ⟨k,hk,rfl⟩:=mT.1 hx;exact b9 k hk hk
 have i6:o=some (some (vd (bX (ofL us)) (ofL us))):=by
  rcases k7 with ⟨h,_⟩|⟨_,h⟩
  ·rw [g5] at h; cases h
  ·exact h
 have m1:=yW g5 k9;have f:Inv w [] ([.blk b2 (.cells #[.int .i64 B.head.kind,.int .i64 B.head.n,.string B.head.name,O,.slice (some ⟨bb,bo,none⟩) B.body.length G] ac),.blk b3 (.cells #[.int .i64 q.head.kind,.int .i64 q.head.n,.string q.head.name,U,.slice da q.body.length J] ac),.blk b4 (.cells #[.int .i64 0,.int .i64 0,.string ⟨#[]⟩,.slice none 0 0,.slice none 0 0] ac)]++[.blk g (.cells c' ab)]) S3 w':=f;obtain ⟨S5,f,l0,n6⟩:=f.pub1;have o8:=(i1.trans b6).trans l0;have i7:RdSl S5 4 (RdT S5) (.slice (some ⟨g,0,none⟩) xs.length cap) us:=by
  rw [<- a9];exact ⟨_,cap,rfl,by omega,by simpa only [maxLen] using j1,.inr ⟨g,0,c',ab,(0,0),rfl,n6,fun i hi=>by rw [cP]; exact (hA i hi hi).mono l0.1⟩⟩
 obtain ⟨u0,a7,rfl⟩:∃ u0 a7,us=u0::a7:=by
  cases us with
  | nil=>simp at a9; omega
  | cons u a7=>exact ⟨u,a7,rfl⟩
 have c4:=k9;rw [bL] at c4;have m2:=Sc (c:=ofL (u0::a7)) c4.1 c4.2;have g6:wC (ofL (u0::a7))<=1048576:=by
  rw [wL] at m1;simp only [bq] at m1 a9;show wC ⟨u0,a7⟩<=1048576;simp only [wC];omega
 have g7:clO o=vd (bX (ofL (u0::a7))) (ofL (u0::a7)):=by rw [i6]; rfl
 have o9:iB o=true:=by rw [i6]; rfl
 have p0:xI o=bt (clO o):=by rw [i6]; rfl
 have p1:wC (clO o)<=1048576:=by rw [g7,Wp]; exact g6
 obtain ⟨nb,no,f5,nc,nE,q4,l1,n7,e2⟩:=i7.at_ (i:=0) (by simp);rw [lc] at e2;obtain ⟨kn,ec,f1,f2,f3,f4⟩:=RdT.iff.1 e2;rw [ec] at e2;obtain ⟨ka,q7,q9,r0⟩:∃ a n m,kn=.slice a n m:=by
  obtain ⟨a,m,e,_⟩:=f4;exact ⟨_,_,_,e⟩
 rw [l1] at i7 ⊢;refine ⟨fun D VB UU TO Ud Wu Ws V5 w_=>Fx D 0 [V5=.slice (some ⟨nb,no,none⟩) (a7.length+1) f5,Ws=.pointer (some ⟨nb,no+0 * 4,none⟩),Wu=.agg #[.int .i64 u0.kind,.int .i64 u0.n,.string u0.name,kn],Ud=.slice (some ⟨nb,no,none⟩) (a7.length+1) f5,True,True,True,True]/\∃ SN V,Ext w.heap.size [] S5 SN/\(D 4=true->RdSl S5 4 (RdT S5) TO a7)/\(D 5=true->∃ kb,UU=.agg #[.int .i64 u0.kind,.int .i64 u0.n,.string u0.name,kn,kb]/\RdSl S5 4 (RdT S5) kb a7)/\(D 6=true->VB=.agg (List.toArray V)/\RdC SN V (clO o))/\(D 7=true->D 6=true)/\Inv w [] [.blk b2 (.cells #[.int .i64 B.head.kind,.int .i64 B.head.n,.string B.head.name,O,.slice (some ⟨bb,bo,none⟩) B.body.length G] ac),.blk b3 (.cells #[.int .i64 q.head.kind,.int .i64 q.head.n,.string q.head.name,U,.slice da q.body.length J] ac),.blk b4 (.cells (cond (D 7) (List.toArray V) #[.int .i64 0,.int .i64 0,.string ⟨#[]⟩,.slice none 0 0,.slice none 0 0]) ac)] SN w_,⟨Fx.nil _ _,⟨S5,[],Ext.refl _ _ _,aI,aI,aI,aI,f.draw⟩⟩,⟨?_,?_,?_,?_,?_,?_,?_,?_,trivial⟩,?_⟩;all_goals (intro D bH; intros; rename_i VB UU TO Ud Wu Ws V5 w_ b0; have N:=b0.1; obtain ⟨⟨cI,cJ,cH,cD,cL,cN,cq,dg,_⟩,⟨SN,V,hN,e4,e5,e6,a8,f⟩⟩:=b0)
 ·exact ⟨N.set 0 rfl,⟨SN,V,hN,e4,e5,e6,a8,f⟩⟩
 ·obtain rfl:=cI ‹_›;refine az (i:=0) ah (by simp) ?_;exact ⟨N.set 1 rfl,⟨SN,V,hN,e4,e5,e6,a8,f⟩⟩
 ·obtain rfl:=cJ ‹_›;refine ci (cs:=[.int .i64 u0.kind,.int .i64 u0.n,.string u0.name,kn]) ad rfl (fun j v hj=>by rw [f.cellS (hN.1 _ _ n7)]; exact aF ec j v hj) ?_;exact ⟨N.set 2 rfl,⟨SN,V,hN,e4,e5,e6,a8,f⟩⟩
 ·exact ⟨N.set 3 rfl,⟨SN,V,hN,e4,e5,e6,a8,f⟩⟩
 ·obtain rfl:=cD ‹_›;refine fk (l:=1) ah i7 (by simp) fun k5 e0=>?_;rw [Um,ym] at e0;have e4:=fun (_:ao D 4 4=true)=>e0;exact ⟨N.set 4 (by first|assumption|trivial),⟨SN,V,hN,e4,e5,e6,a8,f⟩⟩
 ·obtain rfl:=cH ‹_›;have D1:=cL ‹_›;have m3:=e4 ‹D 4=true›;refine kJ ?_ ?_
  ·obtain ⟨a,m,e,_⟩:=m3;exact ⟨_,_,_,e⟩
  have e5:=fun (_:ao D 5 5=true)=>(⟨_,rfl,m3⟩:∃ kb,Value.agg #[.int .i64 u0.kind,.int .i64 u0.n,.string u0.name,kn,TO]=.agg #[.int .i64 u0.kind,.int .i64 u0.n,.string u0.name,kn,kb]/\RdSl S5 4 (RdT S5) kb a7)
  exact ⟨N.set 5 (by first|assumption|trivial),⟨SN,V,hN,e4,e5,e6,a8,f⟩⟩
 ·have Hj:=cN ‹_›;obtain ⟨k5,q5,e0⟩:=e5 ‹D 5=true›;subst q5;have f7:D 7=false:=bx.2 fun h=>by rw [a8 h] at bH; cases bH
  have p2:RdC SN [.int .i64 u0.kind,.int .i64 u0.n,.string u0.name,kn,k5] (ofL (u0::a7)):=⟨_,_,rfl,e2.mono hN.1,e0.monoT hN.1⟩
  refine Run.call0E Ir H0 f (Ny p2 m2 g6) fun v' I' SN w_=>?_;rw [<- g7];rintro ⟨rfl,V,rfl,b1⟩ n1 f;have hN:=hN.trans n1;have e6:=fun (_:ao D 6 6=true)=>(⟨rfl,b1⟩:Value.agg (List.toArray V)=Value.agg (List.toArray V)/\RdC SN V (clO o))
  have a8:=fun (_:ao D 6 7=true)=>(rfl:ao D 6 6=true)
  have f:Inv w [] [.blk b2 (.cells #[.int .i64 B.head.kind,.int .i64 B.head.n,.string B.head.name,O,.slice (some ⟨bb,bo,none⟩) B.body.length G] ac),.blk b3 (.cells #[.int .i64 q.head.kind,.int .i64 q.head.n,.string q.head.name,U,.slice da q.body.length J] ac),.blk b4 (.cells (cond (D 7) (List.toArray V) #[.int .i64 0,.int .i64 0,.string ⟨#[]⟩,.slice none 0 0,.slice none 0 0]) ac)] SN w_:=by rw [f7] at f ⊢; simpa using f
  exact ⟨N.set 6 (by first|assumption|trivial),⟨SN,V,hN,e4,e5,e6,a8,f⟩⟩
 ·have Me:=cq ‹_›;obtain ⟨q6,b1⟩:=e6 ‹D 6=true›;subst q6;rw [bH] at f;refine au f 2 rfl aH (by simpa using b1.length) rfl (by simpa using b1.one) fun w_ f=>?_;have a8:=fun (_:ao D 7 7=true)=>‹D 6=true›;exact ⟨N.set 7 trivial,⟨SN,V,hN,e4,e5,e6,a8,f⟩⟩
 obtain ⟨rfl,rfl,rfl,rfl,D1,Hj,Me,_,_⟩:=N.all;have OQ:D 6=true:=by assumption
 have vm:D 7=true:=by assumption
 clear N cI cJ cH cD cL cN cq dg;obtain ⟨_,b1⟩:=e6 OQ;rw [vm] at f;clear e4 e5 e6 a8;have p3:=o8.trans hN;have i9:=b1.length;have f:Inv w [] [.blk b2 (.cells #[.int .i64 B.head.kind,.int .i64 B.head.n,.string B.head.name,O,.slice (some ⟨bb,bo,none⟩) B.body.length G] ac),.blk b3 (.cells #[.int .i64 q.head.kind,.int .i64 q.head.n,.string q.head.name,U,.slice da q.body.length J] ac),.blk b4 (.cells (List.toArray V) ac)] SN w_:=f;refine ⟨fun D x6 x5 Uu RZ RG T0 w_=>Fx D 0 [T0=.agg (List.toArray V),True,RZ=.agg (List.toArray V),Uu=.bool (bt (clO o)),True,x5=.bool true,x6=.bool (bt (clO o))]/\∃ Y M,(D 1=true->RG=.agg (List.toArray Y)/\TrC M Y (clO o))/\(D 4=true->D 1=true/\D 2=true/\D 0=true)/\Inv w [] ([.blk b2 (.cells #[.int .i64 B.head.kind,.int .i64 B.head.n,.string B.head.name,O,.slice (some ⟨bb,bo,none⟩) B.body.length G] ac),.blk b3 (.cells #[.int .i64 q.head.kind,.int .i64 q.head.n,.string q.head.name,U,.slice da q.body.length J] ac),.blk b4 (.cells (cond (D 4) (List.toArray Y) (List.toArray V)) ac)]++cond (D 1) (aV M) []) SN w_,⟨Fx.nil _ _,⟨[],[],aI,aI,f.draw⟩⟩,⟨?_,?_,?_,?_,?_,?_,?_,trivial⟩,?_⟩;all_goals (intro D bH; intros; rename_i x6 x5 Uu RZ RG T0 w_ b0; have N:=b0.1; obtain ⟨⟨cI,cJ,cH,cD,cL,cN,cq,_⟩,⟨Y,M,e1,k4,f⟩⟩:=b0)
 ·have f4:D 4=false:=bx.2 fun h=>by rw [(k4 h).2.2] at bH; cases bH
  refine aC (c:=List.toArray V) f 2 aH (by rw [f4]; rfl) (by simpa using i9) ?_;have k4:=fun (h:ao D 0 4=true)=>(⟨(k4 h).1,(k4 h).2.1,rfl⟩:ao D 0 1=true/\ao D 0 2=true/\ao D 0 0=true)
  exact ⟨N.set 0 rfl,⟨Y,M,e1,k4,f⟩⟩
 ·obtain rfl:=cI ‹_›;have f4:D 4=false:=bx.2 fun h=>by rw [(k4 h).1] at bH; cases bH
  rw [bH] at f;refine Run.call0 s0 sC f (sd b1 p1) fun v' I' S' w_=>?_;rintro ⟨eS,Y,M,rfl,rfl,hT⟩ _ f;rw [eS] at f;have e1:=fun (_:ao D 1 1=true)=>(⟨rfl,hT⟩:Value.agg (List.toArray Y)=Value.agg (List.toArray Y)/\TrC M Y (clO o))
  have k4:=fun (h:ao D 1 4=true)=>(⟨rfl,(k4 h).2.1,(k4 h).2.2⟩:ao D 1 1=true/\ao D 1 2=true/\ao D 1 0=true)
  have f:Inv w [] ([.blk b2 (.cells #[.int .i64 B.head.kind,.int .i64 B.head.n,.string B.head.name,O,.slice (some ⟨bb,bo,none⟩) B.body.length G] ac),.blk b3 (.cells #[.int .i64 q.head.kind,.int .i64 q.head.n,.string q.head.name,U,.slice da q.body.length J] ac),.blk b4 (.cells (cond (D 4) (List.toArray Y) (List.toArray V)) ac)]++cond true (aV M) []) SN w_:=by rw [f4] at f ⊢; simpa using f
  exact ⟨N.set 1 (by first|assumption|trivial),⟨Y,M,e1,k4,f⟩⟩
 ·have f4:D 4=false:=bx.2 fun h=>by rw [(k4 h).2.1] at bH; cases bH
  refine aC (c:=List.toArray V) f 2 aH (by rw [f4]; rfl) (by simpa using i9) ?_;have k4:=fun (h:ao D 2 4=true)=>(⟨(k4 h).1,rfl,(k4 h).2.2⟩:ao D 2 1=true/\ao D 2 2=true/\ao D 2 0=true)
  exact ⟨N.set 2 rfl,⟨Y,M,e1,k4,f⟩⟩
 ·obtain rfl:=cH ‹_›;refine Run.callPure pl oX f (mF b1) fun w_ f=>?_;exact ⟨N.set 3 rfl,⟨Y,M,e1,k4,f⟩⟩
 ·have n8:=cJ ‹_›;obtain ⟨q1,hT⟩:=e1 ‹D 1=true›;subst q1;rw [bH] at f;refine au f 2 rfl aH (by simpa using hT.length) (by simpa using i9) (by simpa using hT.one) fun w_ f=>?_;have k4:=fun (_:ao D 4 4=true)=>(⟨‹D 1=true›,‹D 2=true›,‹D 0=true›⟩:ao D 4 1=true/\ao D 4 2=true/\ao D 4 0=true)
  exact ⟨N.set 4 trivial,⟨Y,M,e1,k4,f⟩⟩
 ·exact ⟨N.set 5 rfl,⟨Y,M,e1,k4,f⟩⟩
 ·obtain rfl:=cD ‹_›;exact ⟨N.set 6 rfl,⟨Y,M,e1,k4,f⟩⟩
 obtain ⟨rfl,n8,rfl,rfl,_,rfl,rfl,_⟩:=N.all;have m4:D 1=true:=by assumption
 have Zg:D 4=true:=by assumption
 clear N cI cJ cH cD cL cN cq;obtain ⟨_,hT⟩:=e1 m4;rw [Zg,m4] at f;refine bB (c:=List.toArray Y) f 2 aH rfl (by simpa using hT.length) ?_;have f:Inv w [] ([.blk b2 (.cells #[.int .i64 B.head.kind,.int .i64 B.head.n,.string B.head.name,O,.slice (some ⟨bb,bo,none⟩) B.body.length G] ac),.blk b3 (.cells #[.int .i64 q.head.kind,.int .i64 q.head.n,.string q.head.name,U,.slice da q.body.length J] ac),.blk b4 (.cells (List.toArray Y) ac)]++aV M) SN w_:=f;exact ⟨_,_,_,rfl,f.sub (dH _ _),p3,Y,M,by rw [o9,p0],rfl,hT⟩
end
end
section
open Go Go.RowKit
def aa6:aj:=List.replicate 26 none
theorem Ev:∀ n:Nat,unb (List.replicate n none)=n
 | 0=>rfl
 | n+1=>by rw [List.replicate_succ,unb,Ev n]
theorem Jp (N:Nat):Good N (List.replicate N none):=⟨by simp,fun t a=>by simp at a,fun t a=>by simp at a,fun n=>n,fun n u f=>by
 have:=cz f;simp at this⟩
theorem KnU.zero (z:Array Value) (f:z=#[.int .i64 0,.int .i64 0,.string ⟨#[]⟩,.slice none 0 0]) (S:ae) (N:Nat):KnU S ((Array.range (N * 4)).map (z[· % z.size]!)) (List.replicate N none):=by
 subst f;refine ⟨by simp,fun i g=>⟨fun _=>?_,fun t a=>?_⟩⟩
 ·simp only [Ju] at g;apply vO;intro j;rw [aX,wh]
  match j with
  | 0|1|2|3=>
   rw [ai (by omega),z6,YO,Array.getElem?_map,Array.getElem?_range,ai (by omega)];simp only [wV,List.size_toArray,bq,bW];first
    | rw [show (i * 4+0) % 4=0 by omega]; rfl
    | rw [show (i * 4+1) % 4=1 by omega]; rfl
    | rw [show (i * 4+2) % 4=2 by omega]; rfl
    | rw [show (i * 4+3) % 4=3 by omega]; rfl
  | j+4=>
   rw [ag (by omega)];rfl
 ·have e:(List.replicate N (none:Option T))[i]=none:=by simp
  rw [e] at a;cases a
def aaV (code:Int) (st:aj):Bool:=decide (code=0) && st.all Option.isNone
section
variable {w:World} {K:Value->World->Prop}
attribute [local irreducible] Run CondV aq aK
end
end
section
open Go Go.RowKit
structure Ch where
 goal:T
 rest:List (T × Int)
 left:List Int
 binds:aj
structure St6 where
 goals:List (T × Int)
 binds:aj
 chs:List Ch
def RdCh (S:ae) (cs:List Value) (c:Ch):Prop:=∃ hd g l b,cs=hd++[g,l,b]/\RdT S hd c.goal/\RdSl S 5 (RdG S) g c.rest/\RdSl S 1 jD l c.left/\RdSl S 4 (RdO S) b c.binds
theorem RdSl.sl {α:Type} {S:ae} {k:Nat} {R:List Value->α->Prop} {v:Value} {xs:List α} (h:RdSl S k R v xs):v.oneCell'=true:=by
 obtain ⟨a,m,rfl,_⟩:=h; rfl
theorem RdSl.monoO {S S':ae} {v:Value} {st:aj} (a:Sle S S') (h:RdSl S 4 (RdO S) v st):RdSl S' 4 (RdO S') v st:=h.mono a fun _ _=>RdO.mono a
theorem RdCh.length {S:ae} {cs:List Value} {c:Ch} (h:RdCh S cs c):cs.length=7:=by
 obtain ⟨hd,g,l,b,rfl,h,_⟩:=h; simp [h.length]
theorem RdCh.one {S:ae} {cs:List Value} {c:Ch} (h:RdCh S cs c):∀ u∈cs,u.oneCell'=true:=by
 obtain ⟨hd,g,l,b,rfl,h,f,i,m⟩:=h;intro u a;rcases bF.1 a with a|a
 ·exact h.one u a
 ·simp only [bY,i6,i9] at a;rcases a with rfl|rfl|rfl
  ·exact f.sl
  ·exact i.sl
  ·exact m.sl
theorem RdCh.mono {S S':ae} {cs:List Value} {c:Ch} (a:Sle S S') (h:RdCh S cs c):RdCh S' cs c:=by
 obtain ⟨hd,g,l,b,rfl,h,f,i,m⟩:=h;exact ⟨hd,g,l,b,rfl,h.mono a,f.monoG a,i.mono a fun _ _ h=>h,m.monoO a⟩
theorem RdSl.monoCh {S S':ae} {v:Value} {cs:List Ch} (a:Sle S S') (h:RdSl S 7 (RdCh S) v cs):RdSl S' 7 (RdCh S') v cs:=h.mono a fun _ _=>RdCh.mono a
def RdS6 (S:ae) (cs:List Value) (s:St6):Prop:=∃ g b c,cs=[g,b,c]/\RdSl S 5 (RdG S) g s.goals/\RdSl S 4 (RdO S) b s.binds/\RdSl S 7 (RdCh S) c s.chs
theorem RdS6.length {S:ae} {cs:List Value} {s:St6} (h:RdS6 S cs s):cs.length=3:=by
 obtain ⟨g,b,c,rfl,_⟩:=h; rfl
theorem RdS6.one {S:ae} {cs:List Value} {s:St6} (h:RdS6 S cs s):∀ u∈cs,u.oneCell'=true:=by
 obtain ⟨g,b,c,rfl,f,i,l⟩:=h;intro u a;simp only [bY,i6,i9] at a;rcases a with rfl|rfl|rfl
 ·exact f.sl
 ·exact i.sl
 ·exact l.sl
theorem RdS6.mono {S S':ae} {cs:List Value} {s:St6} (a:Sle S S') (h:RdS6 S cs s):RdS6 S' cs s:=by
 obtain ⟨g,b,c,rfl,f,i,l⟩:=h;exact ⟨g,b,c,rfl,f.monoG a,i.monoO a,l.monoCh a⟩
section
variable {w:World} {K:Value->World->Prop}
attribute [local irreducible] Run
end
section
attribute [local irreducible] Run CondV aq aK
end
end
section
open Go Go.RowKit
theorem Good.grow {N:Nat} {st:aj} (h:Good N st) (k:Nat):Good (N+k) (st++List.replicate k none):=by
 have g:∀ t,some t∈st++List.replicate k none->some t∈st:=fun t a=>by
  rcases bF.1 a with a|a
  ·exact a
  ·have:=Sb a;cases this
 obtain ⟨r,i⟩:=h.rk;refine ⟨by simp [h.len],fun t a=>gN (sK ..) t (h.ok t (g t a)),fun t a=>h.w t (g t a),r,fun n u f=>?_⟩;refine i n u ?_;rw [Wh] at f;split at f
 ·exact f
 ·have:=Sb (cz f);cases this
def Va (b:aj) (cl:C):aj:=b++List.replicate (tY cl).toNat none
def yh (cl:C):Prop:=(okU (tY cl).toNat cl.head/\wT cl.head<=1048576)/\∀ t∈cl.body,okU (tY cl).toNat t/\wT t<=1048576
def rS (chs:List Ch) (c:Ch) (cl:C) (l:List Int) (st:aj):St6:=
 ⟨cl.body.map (fun t=>(bp c.binds.length t,(chs.length:Int)))++c.rest,st,chs++(if l=[] then [] else [⟨c.goal,c.rest,l,c.binds⟩])⟩
inductive TryL (p:List C) (chs:List Ch) (c:Ch):List Int->Option St6->Prop
 | nil:TryL p chs c [] none
 | hit {i:Nat} {l:List Int} {cl:C} {st:aj}:p[i]?=some cl->Uni (Va c.binds cl) (.one c.goal (bp c.binds.length cl.head)) true st->TryL p chs c ((i:Int)::l) (some (rS chs c cl l st))
 | miss {i:Nat} {l:List Int} {cl:C} {st:aj} {o:Option St6}:p[i]?=some cl->Uni (Va c.binds cl) (.one c.goal (bp c.binds.length cl.head)) false st->TryL p chs c l o->TryL p chs c ((i:Int)::l) o
theorem TryL.inv {p:List C} {chs:List Ch} {c:Ch} {x:Int} {l:List Int} {o:Option St6} (h:TryL p chs c (x::l) o) :
  ∃ (i:Nat) (cl:C) (r:Bool) (st:aj),x=i/\p[i]?=some cl/\Uni (Va c.binds cl) (.one c.goal (bp c.binds.length cl.head)) r st/\((r=true/\o=some (rS chs c cl l st)) ∨ (r=false/\TryL p chs c l o)):=by
 cases h with
 | hit a f=>exact ⟨_,_,_,_,rfl,a,f,.inl ⟨rfl,rfl⟩⟩
 | miss a f g=>exact ⟨_,_,_,_,rfl,a,f,.inr ⟨rfl,g⟩⟩
structure sv (c:Ch):Prop where
 good:Good c.binds.length c.binds
 goal:okU c.binds.length c.goal/\wT c.goal<=1048576
 rest:∀ g∈c.rest,okU c.binds.length g.1/\wT g.1<=1048576
structure Ys (s:St6):Prop where
 good:Good s.binds.length s.binds
 goals:∀ g∈s.goals,okU s.binds.length g.1/\wT g.1<=1048576
 chs:∀ c∈s.chs,sv c
theorem A4 {c:Ch} (hc:sv c) (cl:C):Good (c.binds.length+(tY cl).toNat) (Va c.binds cl):=hc.good.grow _
theorem Mg {c:Ch} {cl:C} (hc:sv c) (a:yh cl):okJ (c.binds.length+(tY cl).toNat) (.one c.goal (bp c.binds.length cl.head)):=by
 refine ⟨⟨gN (sK ..) _ hc.goal.1,hc.goal.2⟩,?_,?_⟩
 ·have:=mh c.binds.length cl.head a.1.1;rw [sG] at this;exact this
 ·rw [pO]; exact a.1.2
theorem TryL.ex {p:List C} (f:∀ cl∈p,yh cl) (chs:List Ch) {c:Ch} (hc:sv c):∀ l:List Int,(∀ i∈l,0<=i/\i<p.length)->∃ o,TryL p chs c l o
 | [],_=>⟨none,.nil⟩
 | i::l,hl=>by
  obtain ⟨t,B⟩:=hl i (aM ..);obtain ⟨n,rfl⟩:∃ n:Nat,i=n:=⟨i.toNat,by omega⟩
  have hn:n<p.length:=by omega
  have h:p[n]?=some p[n]:=ew hn;have a:=f _ (bG hn);obtain ⟨r,st,g⟩:=FI _ _ (A4 hc p[n]) (aS _) _ (Mg hc a);cases r with
  | true=>exact ⟨_,.hit h g⟩
  | false=>
   obtain ⟨o,q⟩:=TryL.ex f chs hc l fun i m=>hl i (aR _ m);exact ⟨o,.miss h g q⟩
theorem TryL.ok {p:List C} (B:∀ cl∈p,yh cl) {chs:List Ch} (D:∀ c∈chs,sv c) {c:Ch} (hc:sv c) {l:List Int} {o:Option St6} (h:TryL p chs c l o):∀ s,o=some s->Ys s:=by
 induction h with
 | nil=>intro s h; cases h
 | miss _ _ _ N=>exact N
 | @hit i l cl st O U=>
  intro s q;simp only [aY] at q;subst q;have m:=B _ (cz O);obtain ⟨r,_⟩:=U.good (A4 hc cl) (Mg hc m);have f:=r.len;refine ⟨by rw [rS,f]; exact r,fun g a=>?_,fun d hd=>?_⟩
  ·rw [rS] at a ⊢;simp only at a ⊢;rw [f];rcases bF.1 a with a|a
   ·obtain ⟨t,G,rfl⟩:=dp.1 a;obtain ⟨J,M⟩:=m.2 t G;have:=mh c.binds.length t J;rw [sG] at this;exact ⟨this,by rw [pO]; exact M⟩
   ·exact ⟨gN (sK ..) _ (hc.rest g a).1,(hc.rest g a).2⟩
  ·rw [rS] at hd;rcases bF.1 hd with hd|hd
   ·exact D d hd
   ·split at hd
    ·cases hd
    ·rw [bK] at hd;subst hd;exact ⟨hc.good,hc.goal,hc.rest⟩
end
section
open Go Go.RowKit
structure Sp where
 goal:T
 clause:Int
 body:Int
structure Se where
 st:St6
 steps:List Sp
 saved:List (List Sp)
inductive FirstL (p:List C) (chs:List Ch) (c:Ch):List Int->Option (St6 × Int × List Int)->Prop
 | nil:FirstL p chs c [] none
 | hit {i:Int} {l:List Int} {s:St6}:TryL p chs c [i] (some s)->FirstL p chs c (i::l) (some (s,i,l))
 | miss {i:Int} {l:List Int} {o:Option (St6 × Int × List Int)}:TryL p chs c [i] none->FirstL p chs c l o->FirstL p chs c (i::l) o
theorem FirstL.ex {p:List C} (f:∀ cl∈p,yh cl) (chs:List Ch) {c:Ch} (hc:sv c):∀ l:List Int,(∀ i∈l,0<=i/\i<p.length)->∃ o,FirstL p chs c l o
 | [],_=>⟨none,.nil⟩
 | i::l,hl=>by
  obtain ⟨o,g⟩:=TryL.ex f chs hc [i] fun j a=>by
   rw [bK] at a;subst a;exact hl j (aM ..)
  cases o with
  | some s=>exact ⟨_,.hit g⟩
  | none=>
   obtain ⟨o,h⟩:=FirstL.ex f chs hc l fun j a=>hl j (aR _ a);exact ⟨o,.miss g h⟩
theorem FirstL.ok {p:List C} (f:∀ cl∈p,yh cl) {chs:List Ch} (g:∀ c∈chs,sv c) {c:Ch} (hc:sv c) {l:List Int} {o:Option (St6 × Int × List Int)} (h:FirstL p chs c l o) :
  ∀ s i r,o=some (s,i,r)->Ys s/\i∈l/\(∀ j∈r,j∈l):=by
 induction h with
 | nil=>intro s i r h; cases h
 | miss _ _ B=>
  intro s i r h;obtain ⟨m,q,t⟩:=B s i r h;exact ⟨m,aR _ q,fun j a=>aR _ (t j a)⟩
 | hit D=>
  intro s i r h;simp only [aY,cE] at h;obtain ⟨rfl,rfl,rfl⟩:=h;exact ⟨D.ok f g hc _ rfl,aM ..,fun j a=>aR _ a⟩
def mV (p:List C) (s:Se) (c:Ch) (u:St6) (i:Int) (l:List Int):Se:=
 ⟨⟨u.goals,u.binds,s.st.chs++(if l=[] then [] else [⟨c.goal,c.rest,l,c.binds⟩])⟩,s.steps++[⟨c.goal,i,((p[i.toNat]?).elim 0 fun cl=>(cl.body.length:Int))⟩],s.saved++(if l=[] then [] else [s.steps])⟩
inductive TakeR (p:List C) (s:Se) (c:Ch):Option Se->Prop
 | no:FirstL p s.st.chs c c.left none->TakeR p s c none
 | yes {u:St6} {i:Int} {l:List Int}:FirstL p s.st.chs c c.left (some (u,i,l))->TakeR p s c (some (mV p s c u i l))
structure tk (n:Nat) (s:Se):Prop where
 st:Ys s.st
 left:∀ c∈s.st.chs,∀ i∈c.left,0<=i/\i<n
 len:s.saved.length=s.st.chs.length
theorem TakeR.ex {p:List C} (f:∀ cl∈p,yh cl) (s:Se) {c:Ch} (hc:sv c) (hl:∀ i∈c.left,0<=i/\i<p.length):∃ o,TakeR p s c o:=by
 obtain ⟨o,a⟩:=FirstL.ex f s.st.chs hc c.left hl;cases o with
 | none=>exact ⟨_,.no a⟩
 | some x=>exact ⟨_,.yes (u:=x.1) (i:=x.2.1) (l:=x.2.2) a⟩
theorem TakeR.ok {p:List C} (r:∀ cl∈p,yh cl) {s:Se} (g:∀ c∈s.st.chs,sv c) (hf:∀ c∈s.st.chs,∀ i∈c.left,0<=i/\i<p.length) (hn:s.saved.length=s.st.chs.length) {c:Ch} (hc:sv c)
  (hl:∀ i∈c.left,0<=i/\i<p.length) {o:Option Se} (h:TakeR p s c o):∀ a,o=some a->tk p.length a:=by
 intro a f;cases h with
 | no _=>cases f
 | @yes u i l B=>
  simp only [aY] at f;subst f;obtain ⟨q,D,t⟩:=B.ok r g hc u i l rfl;refine ⟨⟨q.good,q.goals,fun d hd=>?_⟩,fun d hd j m=>?_,?_⟩
  ·rcases bF.1 hd with hd|hd
   ·exact g d hd
   ·split at hd
    ·cases hd
    ·rw [bK] at hd;subst hd;exact ⟨hc.good,hc.goal,hc.rest⟩
  ·rcases bF.1 hd with hd|hd
   ·exact hf d hd j m
   ·split at hd
    ·cases hd
    ·rw [bK] at hd;subst hd;exact hl j (t j m)
  ·simp only [mV,bA];split <;> simp [hn]
inductive BackR (p:List C):List Ch->List (List Sp)->Option Se->Prop
 | nil {ss:List (List Sp)}:BackR p [] ss none
 | hit {cs:List Ch} {ss:List (List Sp)} {c:Ch} {t:List Sp} {s:Se}:TakeR p ⟨⟨[],[],cs⟩,t,ss⟩ c (some s)->BackR p (cs++[c]) (ss++[t]) (some s)
 | miss {cs:List Ch} {ss:List (List Sp)} {c:Ch} {t:List Sp} {o:Option Se}:TakeR p ⟨⟨[],[],cs⟩,t,ss⟩ c none->BackR p cs ss o->BackR p (cs++[c]) (ss++[t]) o
theorem BackR.ex {p:List C} (B:∀ cl∈p,yh cl):∀ (n:Nat) (cs:List Ch) (a:List (List Sp)),cs.length=n->a.length=n->(∀ c∈cs,sv c)->(∀ c∈cs,∀ i∈c.left,0<=i/\i<p.length)->
  ∃ o,BackR p cs a o/\∀ s,o=some s->tk p.length s:=by
 intro n;induction n with
 | zero=>
  intro cs a h _ _ _;have:=gF h;subst this;exact ⟨none,.nil,fun s h=>by cases h⟩
 | succ n M=>
  intro cs a l m q hf;obtain ⟨cs,c,rfl⟩:=Wy cs |>.resolve_left fun e=>by rw [e] at l; cases l
  obtain ⟨a,t,rfl⟩:=Wy a |>.resolve_left fun e=>by rw [e] at m; cases m
  simp only [List.concat_eq_append,bA,lu,xy] at l m q hf ⊢;have hc:=q c (by simp);have hl:=hf c (by simp);have f:∀ c∈cs,sv c:=fun d hd=>q d (cZ _ hd);have g:∀ c∈cs,∀ i∈c.left,0<=i/\i<p.length:=fun d hd=>hf d (cZ _ hd);obtain ⟨o,r⟩:=TakeR.ex B ⟨⟨[],[],cs⟩,t,a⟩ hc hl;cases o with
  | some s=>exact ⟨_,.hit r,fun D e=>r.ok B f g (by simp only; omega) hc hl D e⟩
  | none=>
   obtain ⟨o,G,J⟩:=M cs a l m f g;exact ⟨o,.miss r G,J⟩
end
section
open Go Go.RowKit
def eY (p:List C) (g:T):List Int:=dT (fun c=>gQ (bN c.head) (bN g)) p 0
theorem lT (p:List C) (g:T):∀ i∈eY p g,0<=i/\i<p.length:=by
 intro i a;obtain ⟨j,f,rfl,h,_⟩:=mM _ p 0 i a;omega
inductive OneR (p:List C) (s:Se):Se->Int->Prop
 | big {g:T × Int} {rest:List (T × Int)} {u:T}:s.st.goals=g::rest->Res s.st.binds (.one g.1 u)->(bv u=false ∨ ez u=true)->OneR p s s 0
 | took {g:T × Int} {rest:List (T × Int)} {u:T} {s':Se}:s.st.goals=g::rest->Res s.st.binds (.one g.1 u)->bv u=true->ez u=false->bU u=false->
   TakeR p s ⟨u,rest,eY p u,s.st.binds⟩ (some s')->OneR p s s' (-1)
 | stuck {g:T × Int} {rest:List (T × Int)} {u:T}:s.st.goals=g::rest->Res s.st.binds (.one g.1 u)->bv u=true->ez u=false->bU u=false->
   TakeR p s ⟨u,rest,eY p u,s.st.binds⟩ none->OneR p s s (-2)
 | fail {g:T × Int} {rest:List (T × Int)} {u:T} {st:aj}:s.st.goals=g::rest->Res s.st.binds (.one g.1 u)->bv u=true->ez u=false->bU u=true->
   Blt s.st.binds u 1 st->OneR p s s (-2)
 | err {g:T × Int} {rest:List (T × Int)} {u:T} {st:aj} {c:Int}:s.st.goals=g::rest->Res s.st.binds (.one g.1 u)->bv u=true->ez u=false->bU u=true->
   Blt s.st.binds u c st->c≠0->c≠1->OneR p s s 0
 | solved {g:T × Int} {rest:List (T × Int)} {u:T} {st:aj}:s.st.goals=g::rest->Res s.st.binds (.one g.1 u)->bv u=true->ez u=false->bU u=true->
   Blt s.st.binds u 0 st->OneR p s ⟨⟨rest,st,s.st.chs⟩,s.steps++[⟨u,-1,0⟩],s.saved⟩ (-1)
theorem OneR.ex {p:List C} (U:∀ cl∈p,yh cl) {s:Se} (a:tk p.length s) (Z:s.st.goals≠[]):∃ O k,OneR p s O k/\tk p.length O:=by
 obtain ⟨g,rest,f⟩:∃ g rest,s.st.goals=g::rest:=by
  cases h:s.st.goals with
  | nil=>exact absurd h Z
  | cons g rest=>exact ⟨g,rest,rfl⟩
 have l:=a.st.goals;rw [f] at l;have t:=l g (aM ..);obtain ⟨us,M⟩:=yX a.st.good [g.1] (by simp only [bL]; exact ⟨t.1,trivial⟩);obtain ⟨u,q⟩:∃ u,Res s.st.binds (.one g.1 u):=by
  cases M with
  | cons h _=>exact ⟨_,h⟩
 have m:okU s.st.binds.length u:=fj a.st.good q t.1;cases i:bv u with
 | false=>exact ⟨_,_,.big f q (.inl i),a⟩
 | true=>
  have hw:=fF i m;cases hc:ez u with
  | true=>exact ⟨_,_,.big f q (.inr hc),a⟩
  | false=>
   cases r:bU u with
   | false=>
    have B:sv ⟨u,rest,eY p u,s.st.binds⟩:=⟨a.st.good,⟨m,by simp only; omega⟩,fun x J=>l x (aR _ J)⟩
    obtain ⟨o,N⟩:=TakeR.ex U s B (lT p u);cases o with
    | none=>exact ⟨_,_,.stuck f q i hc r N,a⟩
    | some O=>exact ⟨_,_,.took f q i hc r N,N.ok U a.st.chs a.left a.len B (lT p u) _ rfl⟩
   | true=>
    obtain ⟨c,st,G⟩:=Blt.ex a.st.good r ⟨m,by omega⟩;by_cases V:c=1
    ·subst V;exact ⟨_,_,.fail f q i hc r G,a⟩
    by_cases Y:c=0
    ·subst Y;refine ⟨_,_,.solved f q i hc r G,?_⟩;have D:=G.good a.st.good r ⟨m,by omega⟩;have hl:=D.len;exact ⟨⟨by simp only [hl]; exact D,fun x J=>by simp only [hl]; exact l x (aR _ J),a.st.chs⟩,a.left,a.len⟩
    ·exact ⟨_,_,.err f q i hc r G Y V,a⟩
end
section
open Go Go.RowKit
inductive Srch (p:List C):Nat->Se->Option Se->Prop
 | done {n:Nat} {s:Se}:s.st.goals=[]->Srch p n s (some s)
 | out {s:Se}:s.st.goals≠[]->Srch p 0 s none
 | halt {n:Nat} {s s':Se}:s.st.goals≠[]->OneR p s s' 0->Srch p (n+1) s none
 | step {n:Nat} {s s':Se} {o:Option Se}:s.st.goals≠[]->OneR p s s' (-1)->Srch p n s' o->Srch p (n+1) s o
 | stop {n:Nat} {s s':Se}:s.st.goals≠[]->OneR p s s' (-2)->BackR p s'.st.chs s'.saved none->Srch p (n+1) s none
 | back {n:Nat} {s s' t:Se} {o:Option Se}:s.st.goals≠[]->OneR p s s' (-2)->BackR p s'.st.chs s'.saved (some t)->Srch p n t o->Srch p (n+1) s o
theorem OneR.code {p:List C} {s a:Se} {k:Int} (h:OneR p s a k):k=0 ∨ k=-1 ∨ k=-2:=by
 cases h <;> simp
theorem Srch.ex {p:List C} (r:∀ cl∈p,yh cl):∀ (n:Nat) (s:Se),tk p.length s->∃ o,Srch p n s o/\∀ t,o=some t->tk p.length t:=by
 intro n;induction n with
 | zero=>
  intro s g;by_cases a:s.st.goals=[]
  ·exact ⟨_,.done a,fun t h=>by rw [aY] at h; subst h; exact g⟩
  ·exact ⟨_,.out a,fun t h=>by cases h⟩
 | succ n B=>
  intro s g;by_cases a:s.st.goals=[]
  ·exact ⟨_,.done a,fun t h=>by rw [aY] at h; subst h; exact g⟩
  obtain ⟨m,k,f,i⟩:=OneR.ex r g a;rcases f.code with rfl|rfl|rfl
  ·exact ⟨_,.halt a f,fun t h=>by cases h⟩
  ·obtain ⟨o,l,q⟩:=B m i;exact ⟨o,.step a f l,q⟩
  ·obtain ⟨o,l,q⟩:=BackR.ex r _ m.st.chs m.saved rfl i.len i.st.chs i.left;cases o with
   | none=>exact ⟨_,.stop a f l,fun t h=>by cases h⟩
   | some t=>
    obtain ⟨o,D,G⟩:=B t (q t rfl);exact ⟨o,.back a f l D,G⟩
end
section
open Go Go.RowKit
def pend:List Sp->Int
 | []=>1
 | x::xs=>x.body - 1+pend xs
theorem CA:∀ (a b:List Sp),pend (a++b)=pend a+pend b - 1
 | [],b=>by rw [fZ,pend]; omega
 | x::a,b=>by rw [dS,pend,pend,CA a b]; omega
theorem AQ (a:List Sp) (x:Sp):pend (a++[x])=pend a+x.body - 1:=by
 rw [CA];simp only [pend];omega
def openP (l:List Sp):Prop:=∀ a b,l=a++b->b≠[]->0<pend a
theorem openP.nil:openP []:=by
 intro a b h f;have:=congrArg List.length h;cases b with
 | nil=>exact absurd rfl f
 | cons y b=>simp at this
theorem openP.snoc {l:List Sp} (h:openP l) (g:0<pend l) (x:Sp):openP (l++[x]):=by
 intro a b e i;obtain ⟨f,y,rfl⟩:=(Wy b).resolve_left i;rw [List.concat_eq_append,<- dx] at e;have e2:=List.append_inj_left' e (by simp);subst e2;cases f with
 | nil=>rw [bV] at g; exact g
 | cons z f=>exact h a (z::f) rfl (by simp)
structure okP (s:Se):Prop where
 goals:(s.st.goals.length:Int)=pend s.steps
 openP:openP s.steps
 saved:∀ i (h:i<s.st.chs.length) (h':i<s.saved.length),(s.st.chs[i].rest.length:Int)+1=pend s.saved[i]/\Go.Proofs.YtgllldjiaglkcaaGreatDoor.openP s.saved[i]
def Rw (p:List C) (i:Int):Int:=(p[i.toNat]?).elim 0 fun cl=>(cl.body.length:Int)
theorem TryL.goals {p:List C} {chs:List Ch} {c:Ch} {i:Int} {s:St6} (h:TryL p chs c [i] (some s)):(s.goals.length:Int)=Rw p i+c.rest.length:=by
 cases h with
 | hit a _=>simp [rS,Rw,a]
 | miss _ _ h=>cases h
theorem FirstL.goals {p:List C} {chs:List Ch} {c:Ch} {l:List Int} {o:Option (St6 × Int × List Int)} (h:FirstL p chs c l o):∀ s i r,o=some (s,i,r)->(s.goals.length:Int)=Rw p i+c.rest.length:=by
 induction h with
 | nil=>intro s i r h; cases h
 | miss _ _ a=>exact a
 | hit f=>
  intro s i r h;simp only [aY,cE] at h;obtain ⟨rfl,rfl,rfl⟩:=h;exact f.goals
theorem TakeR.okP {p:List C} {s m:Se} {c:Ch} (h:TakeR p s c (some m)) (hn:s.saved.length=s.st.chs.length) (r:(c.rest.length:Int)+1=pend s.steps) (o:openP s.steps)
  (q:∀ i (h:i<s.st.chs.length) (D:i<s.saved.length),(s.st.chs[i].rest.length:Int)+1=pend s.saved[i]/\Go.Proofs.YtgllldjiaglkcaaGreatDoor.openP s.saved[i]):okP m:=by
 cases h with
 | @yes u i l B=>
  have t:=B.goals u i l rfl;refine ⟨?_,?_,?_⟩
  ·simp only [mV,AQ];rw [t,Rw];omega
  ·exact o.snoc (by omega) _
  ·intro k a f;simp only [mV] at a f ⊢;by_cases hl:l=[]
   ·subst hl;simp only [ai,bV] at a f ⊢;exact q k a f
   ·simp only [ag hl,bA,lu] at a f ⊢;by_cases hk:k<s.st.chs.length
    ·rw [fA hk,fA (by omega)];exact q k hk (by omega)
    ·have g:k=s.st.chs.length:=by omega
     subst g;rw [eZ (aS _),eZ (by omega)];simp only [hn,ey,lc];exact ⟨r,o⟩
end
end Go.Proofs.YtgllldjiaglkcaaGreatDoor

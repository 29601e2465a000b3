/- FnFlatProgram, FnStageModel and FnLeastModel return true, whatever bytes come in: the walks. -/
import Derived.Test.YtemmhhdnlbmicaaGreatZMa7
import Derived.Test.YtemmhhdnlbmicaaGreatZMa11
import Derived.Test.YtemmhhdnlbmicaaGreatZMa1
namespace Go.Proofs.YtemmhhdnlbmicaaGreat
open Go Go.RowKit
theorem Light.fit {q:List C} (h:Light 30 900 q):wP q<=1048576:=by
 have:=h.le; omega
theorem Sorted.lt:∀ {l:List T} {i j:Nat} (_:Sorted l) (_:i<j) (hj:j<l.length),dQ (l[i]'(by omega)) l[j]<0
 | [],i,j,_,_,hj=>by simp at hj
 | x::l,0,j+1,h,_,hj=>h.1 _ (List.getElem_mem _)
 | x::l,i+1,j+1,h,hij,hj=>by
  have:=Sorted.lt h.2 (show i<j by omega) (by simpa using hj)
  exact this
section
variable {S:aF} {ys:List Nat} {v:Value}
attribute [local irreducible] Run CondV ag be
theorem Ba (h:RdSl S 1 iU v ys):Pure Tryz.prog dB [v] S (.bool true):=by
 intro w hI
 refine nY ?_
 unfold kB;dsimp only
 refine a9 h dU ?_
 refine dX ?_
 refine bk (fun _=>done hI rfl) (fun _=>?_)
 refine Run.call0E vf uY hI (rJ h) fun u I' S1 w'=>?_
 rintro ⟨rfl,q,hq,hl⟩ hE1 hI
 have hw:=hl.fit
 have hI:Inv w [] [] S1 w':=hI
 refine Run.callPure iD iz hI (g6 hq hw) fun w' hI=>?_
 refine Run.call0E qZ rg hI (mn hq hw) fun v' I' S2 w'=>?_
 rintro ⟨rfl,rfl⟩ hE2 hI
 have hq:=hq.monoC hE2.1
 refine Run.call0E nu nJ hI (kC hq hw) fun v' I' S3 w'=>?_
 rintro ⟨u2,M,rfl,rfl,_⟩ hE3 hI
 have hI:Inv w [] [] S3 w':=hI.nil
 have hq:=hq.monoC hE3.1
 refine a7 (v:=u2) rfl ?_
 refine a7 (v:=.bool (bt q 61).2) rfl ?_
 refine Run.callPure iK iH hI (g5 hq hw) fun w' hI=>?_
 refine AM jK ?_
 rw [beq_self_eq_true]
 repeat (first|refine ad ?_|refine af (by decide) ?_|refine ab ?_|refine ai ?_|refine ah ?_)
 refine Run.call0E BT Cm hI (ww hq hw) fun v' I' S4 w'=>?_
 rintro ⟨rfl,rfl⟩ hE4 hI
 have hq:=hq.monoC hE4.1
 refine bR ?_
 rw [decide_eq_true rfl]
 repeat (first|refine ad ?_|refine af (by decide) ?_|refine ab ?_|refine ai ?_|refine ah ?_)
 refine cc ?_
 obtain ⟨hR1,hR2⟩:=Fx (p:=q)
 have hgo:∀ b,(decide (0<=er q) == (bt q 61).2)=b->b=true:=by
  rintro b rfl
  cases hb:(bt q 61).2
  ·rw [decide_eq_false fun h=>by rw [hR1.1 h] at hb; cases hb]; rfl
  ·rw [decide_eq_true (hR1.2 hb)]; rfl
 have hgo:=hgo _ rfl
 have hle:=hE1.1.trans (hE2.1.trans (hE3.1.trans hE4.1))
 cases hf:ei q with
 | true=>
  repeat (first|refine ad ?_|refine af (by decide) ?_|refine ab ?_|refine ai ?_|refine ah ?_)
  refine Run.callPure ws wz hI (uS hq hf) fun w' hI=>?_
  repeat (first|refine ad ?_|refine af (by decide) ?_|refine ab ?_|refine ai ?_|refine ah ?_)
  refine lP ?_
  refine AM jK ?_
  rw [hgo]
  repeat (first|refine ad ?_|refine af (by decide) ?_|refine ab ?_|refine ai ?_|refine ah ?_)
  exact gQ hI hle rfl
 | false=>
  have hb:(bt q 61).2=false:=by
   cases hb:(bt q 61).2
   ·rfl
   ·rw [hR2 hb] at hf; cases hf
  repeat (first|refine ad ?_|refine af (by decide) ?_|refine ab ?_|refine ai ?_|refine ah ?_)
  refine lP ?_
  refine AM jK ?_
  rw [hgo]
  repeat (first|refine ad ?_|refine af (by decide) ?_|refine ab ?_|refine ai ?_|refine ah ?_)
  rw [hb]
  refine cc ?_
  repeat (first|refine ad ?_|refine af (by decide) ?_|refine ab ?_|refine ai ?_|refine ah ?_)
  exact gQ hI hle rfl
theorem y9 (h:RdSl S 1 iU v ys):Pure Tryz.prog dK [v] S (.bool true):=by
 intro w hI
 refine pr ?_
 unfold ln;dsimp only
 refine a9 h dU ?_
 refine dX ?_
 refine bk (fun _=>done hI rfl) (fun _=>?_)
 refine Run.call0E qj qr hI (oN h) fun u I' S1 w'=>?_
 rintro ⟨rfl,u,q,i,rfl,hi,hq,hl⟩ hE1 hI
 have hw:=hl.fit
 have hI:Inv w [] [] S1 w':=hI
 refine a7 (v:=u) rfl ?_
 refine a7 (v:=.int .i64 i) rfl ?_
 refine Run.pubTreeB gY gW hI (fZ hq hw i hi.2) fun a S2 w' hle2 ha hI=>?_
 have hq:=hq.monoC hle2
 refine a7 (v:=a) rfl ?_
 refine a7 (v:=.bool (bt q i).2) rfl ?_
 refine Run.pubTreeB nO nt hI (j9 hq hw i) fun b S3 w' hle3 hb hI=>?_
 have hq:=hq.monoC hle3
 have ha:=ha.monoT hle3
 refine a7 (v:=b) rfl ?_
 refine a7 (v:=.bool (bt q i).2) rfl ?_
 have hle:=hE1.1.trans (hle2.trans hle3)
 have hln:=ha.le
 simp only [maxLen] at hln
 refine ⟨fun t w'=>t=.bool (!(bt q i).2 || decide (1000<i))/\Inv w [] [] S3 w',?_,?_⟩
 ·refine Km jK ?_
  rw [beq_self_eq_true]
  repeat (first|refine ad ?_|refine af (by decide) ?_|refine ab ?_|refine ai ?_|refine ah ?_)
  refine Run.callPure h8 ic hI (gS ha hb) fun w' hI=>?_
  refine cc ?_
  repeat (first|refine ad ?_|refine af (by decide) ?_|refine ab ?_|refine ai ?_|refine ah ?_)
  refine cc ?_
  cases hok:(bt q i).2 with
  | false=>
   repeat (first|refine ad ?_|refine af (by decide) ?_|refine ab ?_|refine ai ?_|refine ah ?_)
   exact ⟨rfl,hI⟩
  | true=>
   repeat (first|refine ad ?_|refine af (by decide) ?_|refine ab ?_|refine ai ?_|refine ah ?_)
   refine dX ?_
   repeat (first|refine ad ?_|refine af (by decide) ?_|refine ab ?_|refine ai ?_|refine ah ?_)
   exact ⟨rfl,hI⟩
 intro t48 _ _ _ _ _ _ _ _ _ _ _ _ _ _ _ _ w'
 rintro ⟨rfl,hI⟩
 refine ba (fun _=>?_) (fun hbb=>?_)
 ·refine AM jK ?_
  rw [beq_self_eq_true]
  repeat (first|refine ad ?_|refine af (by decide) ?_|refine ab ?_|refine ai ?_|refine ah ?_)
  refine Run.callPure h8 ic hI (gS ha hb) fun w' hI=>?_
  repeat (first|refine ad ?_|refine af (by decide) ?_|refine ab ?_|refine ai ?_|refine ah ?_)
  exact gQ hI hle rfl
 rw [Bool.or_eq_false_iff,Bool.not_eq_false'] at hbb
 obtain ⟨hok,hi2⟩:=hbb
 have hi2:¬ 1000<i:=by simpa using hi2
 refine bP (by omega) ?_
 refine Run.pubTreeB gY gW hI (fZ hq hw (i+1) (by omega)) fun b2 S4 w' hle4 hb2 hI=>?_
 have hq:=hq.monoC hle4
 have ha:=ha.monoT hle4
 have hle:=hle.trans hle4
 refine a7 (v:=b2) rfl ?_
 refine a7 (v:=.bool (bt q (i+1)).2) rfl ?_
 refine ⟨fun t w'=>∃ k:Nat,k<=(bt q i).1.length/\t=.int .i64 k/\Inv w [] [] S4 w',fun t _=>(bt q i).1.length - (intOf t).toNat,⟨0,Nat.zero_le _,rfl,hI⟩,?_⟩
 intro t11 _ _ _ _ _ _ _ _ _ _ _ _ _ _ _ _ _ w'
 rintro ⟨k,hk,rfl,hI⟩
 refine ⟨fun t w'=>t=.bool (decide (k<(bt q i).1.length) && (bt q (i+1)).2)/\Inv w [] [] S4 w',?_,?_⟩
 ·refine a9 ha av ?_
  refine bU ?_
  by_cases hk':k<(bt q i).1.length
  ·rw [decide_eq_true (show (k:Int)<((bt q i).1.length:Int) by omega),decide_eq_true hk']
   repeat (first|refine ad ?_|refine af (by decide) ?_|refine ab ?_|refine ai ?_|refine ah ?_)
   exact ⟨rfl,hI⟩
  ·rw [decide_eq_false (show ¬ (k:Int)<((bt q i).1.length:Int) by omega),decide_eq_false hk']
   repeat (first|refine ad ?_|refine af (by decide) ?_|refine ab ?_|refine ai ?_|refine ah ?_)
   exact ⟨rfl,hI⟩
 intro t70 _ _ _ _ _ _ w'
 rintro ⟨rfl,hI⟩
 refine ba (fun hc=>?_) (fun _=>?_)
 ·rw [Bool.and_eq_true,decide_eq_true_eq] at hc
  obtain ⟨hk',hok2⟩:=hc
  refine ec hI ha av al hk' (fun _ _=>RdT.length) fun cs hcs=>?_
  have hm:=(KS hok hok2).1 _ (List.getElem_mem hk')
  refine Run.callPure H1 HP hI (EH hb2 hcs hm) fun w' hI=>?_
  refine cc ?_
  refine ba (fun hb=>by cases hb) (fun _=>?_)
  refine bP (by omega) ?_
  exact ⟨⟨k+1,hk',rfl,hI⟩,by simp [intOf]; omega⟩
 ·refine dX ?_
  by_cases h0:0<i
  ·rw [decide_eq_true h0]
   repeat (first|refine ad ?_|refine af (by decide) ?_|refine ab ?_|refine ai ?_|refine ah ?_)
   exact gQ hI hle rfl
  ·rw [decide_eq_false h0]
   have hz:=(mA hok).2.1
   have:i=0:=by omega
   subst this
   have hz:=Iw hok
   repeat (first|refine ad ?_|refine af (by decide) ?_|refine ab ?_|refine ai ?_|refine ah ?_)
   refine a9 ha av ?_
   refine bR ?_
   rw [hz,decide_eq_true (show ((0:Nat):Int)=0 from rfl)]
   repeat (first|refine ad ?_|refine af (by decide) ?_|refine ab ?_|refine ai ?_|refine ah ?_)
   exact gQ hI hle rfl
theorem zg (h:RdSl S 1 iU v ys):Pure Tryz.prog dL [v] S (.bool true):=by
 intro w hI
 refine pC ?_
 unfold lq;dsimp only
 refine a9 h dU ?_
 refine dX ?_
 refine bk (fun _=>done hI rfl) (fun _=>?_)
 refine Run.call0E qH qy hI (o9 h) fun u I' S1 w'=>?_
 rintro ⟨rfl,q,hq,hl⟩ hE1 hI
 have hw:=hl.fit
 have hI:Inv w [] [] S1 w':=hI
 refine Run.pubTreeB nu nJ hI (kC hq hw) fun a S2 w' hle2 ha hI=>?_
 have hq:=hq.monoC hle2
 refine a7 (v:=a) rfl ?_
 refine a7 (v:=.bool (bt q 61).2) rfl ?_
 refine Run.pubTreeB yN zl hI (rB hq hw) fun b S3 w' hle3 hb hI=>?_
 have hq:=hq.monoC hle3
 have ha:=ha.monoT hle3
 refine a7 (v:=b) rfl ?_
 refine a7 (v:=.bool (bt q 61).2) rfl ?_
 have hle:=hE1.1.trans (hle2.trans hle3)
 have hln:=ha.le
 simp only [maxLen] at hln
 refine ⟨fun t w'=>t=.bool (!(bt q 61).2)/\Inv w [] [] S3 w',?_,?_⟩
 ·refine Km jK ?_
  rw [beq_self_eq_true]
  repeat (first|refine ad ?_|refine af (by decide) ?_|refine ab ?_|refine ai ?_|refine ah ?_)
  refine Run.callPure h8 ic hI (gS ha hb) fun w' hI=>?_
  refine cc ?_
  repeat (first|refine ad ?_|refine af (by decide) ?_|refine ab ?_|refine ai ?_|refine ah ?_)
  refine cc ?_
  repeat (first|refine ad ?_|refine af (by decide) ?_|refine ab ?_|refine ai ?_|refine ah ?_)
  exact ⟨rfl,hI⟩
 intro t39 _ _ _ _ _ _ _ _ _ _ _ _ w'
 rintro ⟨rfl,hI⟩
 refine ba (fun _=>?_) (fun hbb=>?_)
 ·refine AM jK ?_
  rw [beq_self_eq_true]
  repeat (first|refine ad ?_|refine af (by decide) ?_|refine ab ?_|refine ai ?_|refine ah ?_)
  refine Run.callPure h8 ic hI (gS ha hb) fun w' hI=>?_
  repeat (first|refine ad ?_|refine af (by decide) ?_|refine ab ?_|refine ai ?_|refine ah ?_)
  exact gQ hI hle rfl
 rw [Bool.not_eq_false'] at hbb
 obtain ⟨hF,hM,hr0,hr1,hs1,hs2,h60⟩:=KT hbb
 have hwl:=(Ia (fun h=>mj h) (p:=q) 61).2
 refine ⟨fun t w'=>∃ k:Nat,1<=k/\(k<=(bt q 61).1.length ∨ k=1)/\t=.int .i64 k/\Inv w [] [] S3 w',fun t _=>(bt q 61).1.length - (intOf t).toNat,⟨1,Nat.le_refl _,.inr rfl,rfl,hI⟩,?_⟩
 intro t8 _ _ _ t64 t63 t62 t61 t60 t59 t58 t57 t56 t55 t54 _ _ _ _ w'
 rintro ⟨k,hk1,hk,rfl,hI⟩
 refine a9 ha av ?_
 refine bU ?_
 refine bk (fun hki=>?_) (fun hki=>?_)
 ·have hk':k<(bt q 61).1.length:=by omega
  obtain ⟨j,rfl⟩:∃ j,k=j+1:=⟨k - 1,by omega⟩
  obtain ⟨b1,o,cap,c,E,fz,rfl,hS,hR⟩:=ha.at_ hk'
  obtain ⟨b2,o2,cap2,c2,E2,fz2,he2,hS2,hR2⟩:=ha.at_ (show j<(bt q 61).1.length by omega)
  have hcmp:=hF.sorted.lt (show j<j+1 by omega) hk'
  have hv1:=(hF.fct _ (List.getElem_mem hk')).valid
  have hv2:=(hF.fct _ (List.getElem_mem (show j<(bt q 61).1.length by omega))).valid
  obtain ⟨rfl,rfl⟩:b1=b2/\o=o2:=by
   injection he2 with e
   simp only [Option.some.injEq,Addr.mk.injEq] at e
   exact ⟨e.1,e.2.1⟩
  refine ⟨fun D cL ch cM cP cR cN cS cQ cO dj cZ w_=>(D 0=true->cZ=.slice (some ⟨b1,o,none⟩) (bt q 61).1.length cap)/\(D 1=true->dj=.int .i64 ((j+1:Nat):Int))/\(D 2=true->cO=.int .i64 (j:Int))/\(D 3=true->cQ=.pointer (some ⟨b1,o+j * 4,none⟩))/\(D 4=true->cS=.agg (bv c2 (o+j * 4) 4).toArray)/\(D 5=true->cN=.slice (some ⟨b1,o,none⟩) (bt q 61).1.length cap)/\(D 6=true->cR=.int .i64 ((j+1:Nat):Int))/\(D 7=true->cP=.pointer (some ⟨b1,o+(j+1) * 4,none⟩))/\(D 8=true->cM=.agg (bv c (o+(j+1) * 4) 4).toArray)/\(D 9=true->ch=.int .i64 (dQ (bt q 61).1[j] (bt q 61).1[j+1]))/\(D 10=true->cL=.bool false)/\Inv w [] [] S3 w_,⟨ae,ae,ae,ae,ae,ae,ae,ae,ae,ae,ae,hI.draw⟩,⟨?_,?_,?_,?_,?_,?_,?_,?_,?_,?_,?_,trivial⟩,?_⟩
  ·intro D aY  cL ch cM cP cR cN cS cQ cO dj cZ w_
   rintro ⟨az,ay,aA,aB,aw,aD,aE,aI,aL,aP,aj,hI⟩
   exact ⟨fun _=>rfl,ay,aA,aB,aw,aD,aE,aI,aL,aP,aj,hI⟩
  ·intro D aY  cL ch cM cP cR cN cS cQ cO dj cZ w_
   rintro ⟨az,ay,aA,aB,aw,aD,aE,aI,aL,aP,aj,hI⟩
   exact ⟨az,fun _=>rfl,aA,aB,aw,aD,aE,aI,aL,aP,aj,hI⟩
  ·intro D aY dI cL ch cM cP cR cN cS cQ cO dj cZ w_
   rintro ⟨az,ay,aA,aB,aw,aD,aE,aI,aL,aP,aj,hI⟩
   obtain rfl:=ay dI
   refine om (by omega) ?_
   rw [show ((j+1:Nat):Int) - 1=(j:Int) by omega]
   exact ⟨az,ay,fun _=>rfl,aB,aw,aD,aE,aI,aL,aP,aj,hI⟩
  ·intro D aY ce gJ cL ch cM cP cR cN cS cQ cO dj cZ w_
   rintro ⟨az,ay,aA,aB,aw,aD,aE,aI,aL,aP,aj,hI⟩
   obtain rfl:=az ce
   obtain rfl:=aA gJ
   refine bh av (show j<(bt q 61).1.length by omega) ?_
   exact ⟨az,ay,aA,fun _=>rfl,aw,aD,aE,aI,aL,aP,aj,hI⟩
  ·intro D aY dF cL ch cM cP cR cN cS cQ cO dj cZ w_
   rintro ⟨az,ay,aA,aB,aw,aD,aE,aI,aL,aP,aj,hI⟩
   obtain rfl:=aB dF
   refine cJ al hR2.length (fun j v hj=>by rw [hI.cellS hS2]; exact bl rfl j v hj) ?_
   exact ⟨az,ay,aA,aB,fun _=>rfl,aD,aE,aI,aL,aP,aj,hI⟩
  ·intro D aY  cL ch cM cP cR cN cS cQ cO dj cZ w_
   rintro ⟨az,ay,aA,aB,aw,aD,aE,aI,aL,aP,aj,hI⟩
   exact ⟨az,ay,aA,aB,aw,fun _=>rfl,aE,aI,aL,aP,aj,hI⟩
  ·intro D aY  cL ch cM cP cR cN cS cQ cO dj cZ w_
   rintro ⟨az,ay,aA,aB,aw,aD,aE,aI,aL,aP,aj,hI⟩
   exact ⟨az,ay,aA,aB,aw,aD,fun _=>rfl,aI,aL,aP,aj,hI⟩
  ·intro D aY dV gg cL ch cM cP cR cN cS cQ cO dj cZ w_
   rintro ⟨az,ay,aA,aB,aw,aD,aE,aI,aL,aP,aj,hI⟩
   obtain rfl:=aD dV
   obtain rfl:=aE gg
   refine bh av hk' ?_
   exact ⟨az,ay,aA,aB,aw,aD,aE,fun _=>rfl,aL,aP,aj,hI⟩
  ·intro D aY el cL ch cM cP cR cN cS cQ cO dj cZ w_
   rintro ⟨az,ay,aA,aB,aw,aD,aE,aI,aL,aP,aj,hI⟩
   obtain rfl:=aI el
   refine cJ al hR.length (fun j v hj=>by rw [hI.cellS hS]; exact bl rfl j v hj) ?_
   exact ⟨az,ay,aA,aB,aw,aD,aE,aI,fun _=>rfl,aP,aj,hI⟩
  ·intro D aY cK gh cL ch cM cP cR cN cS cQ cO dj cZ w_
   rintro ⟨az,ay,aA,aB,aw,aD,aE,aI,aL,aP,aj,hI⟩
   obtain rfl:=aw cK
   obtain rfl:=aL gh
   refine Run.callPure sH uL hI (r6 hR2 hR hv2 hv1) fun w_ hI=>?_
   exact ⟨az,ay,aA,aB,aw,aD,aE,aI,aL,fun _=>rfl,aj,hI⟩
  ·intro D aY FA cL ch cM cP cR cN cS cQ cO dj cZ w_
   rintro ⟨az,ay,aA,aB,aw,aD,aE,aI,aL,aP,aj,hI⟩
   obtain rfl:=aP FA
   refine rH (by omega) ?_
   exact ⟨az,ay,aA,aB,aw,aD,aE,aI,aL,aP,fun _=>rfl,hI⟩
  intro D fm iW gN f0 f1 fM fF fI fK fL fN cL ch cM cP cR cN cS cQ cO dj cZ w_
  rintro ⟨az,ay,aA,aB,aw,aD,aE,aI,aL,aP,aj,hI⟩
  obtain rfl:=aj fm
  obtain rfl:=aP iW
  obtain rfl:=aL gN
  obtain rfl:=aI f0
  obtain rfl:=aE f1
  obtain rfl:=aD fM
  obtain rfl:=aw fF
  obtain rfl:=aB fI
  obtain rfl:=aA fK
  obtain rfl:=ay fL
  obtain rfl:=az fN
  clear az ay aA aB aw aD aE aI aL aP aj
  refine ba (fun hb=>by cases hb) (fun _=>?_)
  refine bP (by omega) ?_
  exact ⟨⟨j+1+1,by omega,.inl hk',rfl,hI⟩,by simp [intOf]; omega⟩
 refine Run.call0E qZ rg hI (mn hq hw) fun v' I' S4 w'=>?_
 rintro ⟨rfl,rfl⟩ hE4 hI
 have hI:Inv w [] [] S4 w':=hI
 have hq:=hq.monoC hE4.1
 have ha:=ha.monoT hE4.1
 refine Run.pubTreeB gY gW hI (fZ hq hw (er q) (by omega)) fun b2 S5 w' hle5 hb2 hI=>?_
 have hq:=hq.monoC hle5
 have ha:=ha.monoT hle5
 have hle:=hle.trans (hE4.1.trans hle5)
 refine a7 (v:=b2) rfl ?_
 refine a7 (v:=.bool (bt q (er q)).2) rfl ?_
 refine Run.callPure vL wa hI (qm hq ha hw (by omega)) fun w' hI=>?_
 rw [hM,hs1]
 rw [hs2] at hb2
 repeat (first|refine ad ?_|refine af (by decide) ?_|refine ab ?_|refine ai ?_|refine ah ?_)
 refine l4 hr0 ?_
 repeat (first|refine ad ?_|refine af (by decide) ?_|refine ab ?_|refine ai ?_|refine ah ?_)
 refine a9 ha av ?_
 refine Bc hr1 ?_
 repeat (first|refine ad ?_|refine af (by decide) ?_|refine ab ?_|refine ai ?_|refine ah ?_)
 refine Run.callPure h8 ic hI (gS hb2 ha) fun w' hI=>?_
 repeat (first|refine ad ?_|refine af (by decide) ?_|refine ab ?_|refine ai ?_|refine ah ?_)
 exact gQ hI hle rfl
end
end Go.Proofs.YtemmhhdnlbmicaaGreat

/- What every row of this seat owes beside its walk: the arguments read again as they did, and nothing that was there has turned. -/
namespace Go.Proofs.YtemmhhdnlbmicaaGreat
open Go Go.ChangeShapes Go.WideShapes Go.ChangeAt Go.RowKit

theorem Tryz.own:ownKnob Tryz.prog.godebug=none:=by kernel_rfl
theorem Tryz.kids:Kids Tryz.prog (·<Tryz.prog.types.size):=kids_rows (by kernel_rfl) (by kernel_rfl)
theorem Tryz.full:∀ t e,t<Tryz.prog.types.size->Tryz.prog.underlying t=some (.slice e)->0<Tryz.prog.cellsOf e:=slices_full_of Tryz.prog (by kernel_rfl)
section
variable {H:Type} {enc:TypeId × Value->H} {W W':World}
theorem HJ {P:Program}:∀ {ts:List TypeId} {vs:List Value} {ds:List (DataW H)} {ps:List MemPlace},DataW.TrodAll enc P W 0 (fun _=>true) true ts vs ds ps->(∀ p∈ps,W.sameAt W' p)->
  DataW.TrodAll enc P W' 0 (fun _=>true) true ts vs ds ps
 | [],[],[],_,h,_=>h
 | _::_,_::_,_::_,_,⟨p,q,⟨n,h1⟩,h2,e⟩,hs=>
  ⟨p,q,⟨n,DataW.trod_carry n _ _ _ h1 fun x hx=>hs x (by rw [e]; exact List.mem_append_left _ hx)⟩,HJ h2 fun x hx=>hs x (by rw [e]; exact List.mem_append_right _ hx),e⟩
theorem OR {p:MemPlace} (h:∀ b,b<W.heap.size->W'.heap[b]?=W.heap[b]?) (hp:p.block<W.heap.size):W.sameAt W' p:=by
 cases p with
 | cell b off=>simp only [World.sameAt,World.cell?]; rw [h b hp]
 | map b=>exact h b hp
/- a function of the program whose walk ends with 'true' and with all that was there as it was: the row's 'post' -/
theorem vG {f:Func} {s:ChangeSpec} {args:Array Value} {ds gs:List (DataW H)} {before p q:List MemPlace}
  (hW:DataW.Whole enc Tryz.prog f.params.toList s.vars false W args.toList ds gs before) (hA:DataW.TrodAll enc Tryz.prog W 0 (fun _=>true) true f.params.toList args.toList ds p)
  (hV:DataW.TrodVars enc Tryz.prog W (fun _=>true) s.vars gs q) (hb:before=p++q) (hv:s.vars=[]) (hts:∀ t∈f.params.toList,t<Tryz.prog.types.size) (hr:f.resultTypes=#[l0])
  (hs:(s.fn H (ds++gs)).results=[.lit (.bool true)]) (ha:(s.fn H (ds++gs)).args=ds) (hsv:(s.fn H (ds++gs)).vars=[]) (hI:Inv W [] [] (Ll W) W') :
  s.post enc Tryz.prog f false true false false W args (.bool true) W':=by
 have hsame:∀ b,b<W.heap.size->W'.heap[b]?=W.heap[b]?:=fun b hb=>hI.same b hb
 have hlt:=hW.lt
 rw [hv] at hV
 obtain ⟨hg,hq⟩:=trodVars_none hV
 subst hq
 rw [List.append_nil] at hb
 subst hb
 have hA':=HJ (W':=W') hA fun x hx=>OR hsame (hlt x hx)
 refine ⟨ds,gs,before,[],before,[],hW,?_,?_,?_,MF hI.os hI.output hsame,fun h=>by cases h⟩
 ·rw [hs,hr]
  exact trodAll_mk1 (shut_bool jK true)
 ·rw [ha]
  exact DataW.TrodAll.respare Tryz.kids Tryz.full hts hA' fun x hx=>by simpa using hlt x hx
 ·rw [hv,hsv]
  rfl
end

end Go.Proofs.YtemmhhdnlbmicaaGreat

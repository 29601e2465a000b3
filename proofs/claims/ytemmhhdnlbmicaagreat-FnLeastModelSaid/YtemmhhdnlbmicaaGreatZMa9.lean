/- spec.l16Put, l16Has. -/
import Derived.Test.YtemmhhdnlbmicaaGreatZMa8
import Derived.Test.YtemmhhdnlbmicaaGreatZMa3
namespace Go.Proofs.YtemmhhdnlbmicaaGreat
open Go Go.RowKit
abbrev M5 (ys:List T):Value->List Item->aF->Prop:=fun r I' S'=>I'=[]/\RdSl S' 4 (RdT S') r ys
theorem Ax (l:List T) (t:T) (j:Nat) (h:j<l.length) (hc:dQ l[j] t<0):eP (l.drop j) t=l[j]::eP (l.drop (j+1)) t:=by
 rw [List.drop_eq_getElem_cons h,eP,if_pos hc]
theorem wu (l:List T) (t:T) (j:Nat) (h:j<l.length) (hc:¬ dQ l[j] t<0):eP (l.drop j) t=if eqT l[j] t=true then l.drop j else t::l.drop j:=by
 rw [List.drop_eq_getElem_cons h,eP,if_neg hc]
section
attribute [local irreducible] Run CondV ag be
theorem GT {l:List T} {t:T} {S:aF} {v:Value} {cs:List Value} {w w0:World} {b3:Nat} {K:Value->World->Prop} (j:Nat) (hI:Inv w0 [] [.blk b3 (.cells cs.toArray ac)] S w) (h:RdSl S 4 (RdT S) v l) (hcs:RdT S cs t) (hj:j<=l.length) (hn:l.length<=1000000)
  (hk:∀ r S' w',Ext w0.heap.size [] S S'->RdSl S' 4 (RdT S') r (l.take j++t::l.drop j)->Inv w0 [] [] S' w'->K r w') :
  Run Tryz.prog (aT cg 0 []) w fun t35 w52=>
  Run Tryz.prog (sOp (.slice cg (.const v) none (some (.const (.int .i64 j))) none) cg) w52 fun t38 w53=>
  Run Tryz.prog (ar .append #[cg,cg] cg [false,false] [t35,t38]) w53 fun t39 w54=>
  Run Tryz.prog (sOp (.load ac (.const (.pointer (some ⟨b3,0,none⟩)))) ac) w54 fun t41 w55=>
  Run Tryz.prog (aT cg 1 [(0,t41)]) w55 fun t42 w56=>
  Run Tryz.prog (ar .append #[cg,cg] cg [false,false] [t39,t42]) w56 fun t43 w57=>
  Run Tryz.prog (sOp (.slice cg (.const v) (some (.const (.int .i64 j))) none none) cg) w57 fun t47 w58=>
  Run Tryz.prog (ar .append #[cg,cg] cg [false,false] [t43,t47]) w58 fun t48 w59=>
  K t48 w59:=by
 have hlc:=hcs.length
 refine fk hI bM fun v0 w hI=>?_
 refine MK av h hj fun v1 h1=>?_
 refine kr hI 1 (css:=[]) bM (by omega) rfl h1 (fun _ _=>RdT.length) (fun _ _=>RdT.one) (by simp; omega) (by omega) fun v2 w c1 hR1 hI=>?_
 have hI:Inv w0 [] [.blk b3 (.cells cs.toArray ac),bj v2 ac 4 c1] S w:=by simpa using hI
 have hc1:=hR1.hc
 simp only [List.length_take] at hc1
 refine bb hI 0 al rfl (by simpa using hlc) ?_
 refine gG hI 1 cs bM (by omega) (by omega) rfl hlc hcs.one (by omega) (by omega) fun v3 w hI=>?_
 have hR2:=hR1.snoc hcs hlc
 refine xh av h hj fun v4 h4=>?_
 refine kr hI 1 (css:=c1++[cs]) bM (by omega) rfl h4 (fun _ _=>RdT.length) (fun _ _=>RdT.one) (by simp; omega) (by omega) fun v5 w c2 hR3 hI=>?_
 have hR:=hR2.append hR3
 have hI:Inv w0 [] ([.blk b3 (.cells cs.toArray ac)]++[bj v5 ac 4 ((c1++[cs])++c2)]) S w:=hI
 obtain ⟨S',hE,hrd,hI⟩:=hI.lendExt
 have hr:RdSl S' 4 (RdT S') v5 ((l.take j++[t])++l.drop j):=(RowRd.rows hR hrd).mono (Sle.refl _) fun _ _ h=>h.mono hE.1
 rw [List.append_assoc] at hr
 exact hk _ _ _ hE hr (hI.pick [false])
theorem EI {l:List T} {t:T} {S:aF} {v:Value} {cs:List Value} (h:RdSl S 4 (RdT S) v l) (hcs:RdT S cs t) (hl:∀ x∈l,okO x) (ht:okO t) (hn:l.length<=1000000) :
  Tri Tryz.prog Im [v,.agg cs.toArray] [] S (M5 (eP l t)):=by
 intro w hI
 have hlc:=hcs.length
 refine Ap ?_
 unfold xg
 refine bO hI fun b3 w' hI=>?_
 have hI:Inv w [] [.blk b3 (.cells cs.toArray ac)] S w':=hI
 refine ⟨fun i w'=>∃ j:Nat,j<=l.length/\i=.int .i64 j/\l.take j++eP (l.drop j) t=eP l t/\Inv w [] [.blk b3 (.cells cs.toArray ac)] S w',
  fun i _=>l.length - (intOf i).toNat,⟨0,Nat.zero_le _,rfl,rfl,hI⟩,?_⟩
 intro t5 _ _ _ _ _ _ _ _ _ _ _ _ _ _ _ w'
 rintro ⟨j,hj,rfl,hrel,hI⟩
 by_cases hj':j<l.length
 ·obtain ⟨b,o,cap,c,E,fz,rfl,hS,hR⟩:=h.at_ hj'
  have hox:=hl _ (List.getElem_mem hj')
  refine ⟨fun D bZ dz dr dC ey eU eE eD gn gl x9 x8 x7 w_=>(D 0=true->x7=.int .i64 j)/\(D 1=true->x8=.slice (some ⟨b,o,none⟩) l.length cap)/\(D 2=true->x9=.int .i64 l.length)/\(D 3=true->gl=.bool true)/\(D 4=true->gn=.bool true)/\(D 5=true->eD=.slice (some ⟨b,o,none⟩) l.length cap)/\(D 6=true->eE=.int .i64 j)/\(D 7=true->eU=.pointer (some ⟨b,o+j * 4,none⟩))/\(D 8=true->ey=.agg (bv c (o+j * 4) 4).toArray)/\(D 9=true->dC=.agg cs.toArray)/\(D 10=true->dr=.int .i64 (dQ l[j] t))/\(D 11=true->dz=.bool (decide (dQ l[j] t<0)))/\(D 12=true->bZ=.bool (decide (dQ l[j] t<0)))/\Inv w [] [.blk b3 (.cells cs.toArray ac)] S w_,⟨ae,ae,ae,ae,ae,ae,ae,ae,ae,ae,ae,ae,ae,hI.draw⟩,⟨?_,?_,?_,?_,?_,?_,?_,?_,?_,?_,?_,?_,?_,trivial⟩,?_⟩
  ·intro D aY  bZ dz dr dC ey eU eE eD gn gl x9 x8 x7 w_
   rintro ⟨az,ay,aA,aB,aw,aD,aE,aI,aL,aP,aj,ao,aH,hI⟩
   exact ⟨fun _=>rfl,ay,aA,aB,aw,aD,aE,aI,aL,aP,aj,ao,aH,hI⟩
  ·intro D aY  bZ dz dr dC ey eU eE eD gn gl x9 x8 x7 w_
   rintro ⟨az,ay,aA,aB,aw,aD,aE,aI,aL,aP,aj,ao,aH,hI⟩
   exact ⟨az,fun _=>rfl,aA,aB,aw,aD,aE,aI,aL,aP,aj,ao,aH,hI⟩
  ·intro D aY dI bZ dz dr dC ey eU eE eD gn gl x9 x8 x7 w_
   rintro ⟨az,ay,aA,aB,aw,aD,aE,aI,aL,aP,aj,ao,aH,hI⟩
   obtain rfl:=ay dI
   refine gD av ?_
   exact ⟨az,ay,fun _=>rfl,aB,aw,aD,aE,aI,aL,aP,aj,ao,aH,hI⟩
  ·intro D aY ce gJ bZ dz dr dC ey eU eE eD gn gl x9 x8 x7 w_
   rintro ⟨az,ay,aA,aB,aw,aD,aE,aI,aL,aP,aj,ao,aH,hI⟩
   obtain rfl:=az ce
   obtain rfl:=aA gJ
   refine bU ?_; rw [decide_eq_true (show (j:Int)<(l.length:Int) by omega)]
   exact ⟨az,ay,aA,fun _=>rfl,aw,aD,aE,aI,aL,aP,aj,ao,aH,hI⟩
  ·intro D aY dF bZ dz dr dC ey eU eE eD gn gl x9 x8 x7 w_
   rintro ⟨az,ay,aA,aB,aw,aD,aE,aI,aL,aP,aj,ao,aH,hI⟩
   obtain rfl:=aB dF
   exact ⟨az,ay,aA,aB,fun _=>rfl,aD,aE,aI,aL,aP,aj,ao,aH,hI⟩
  ·intro D aY cK bZ dz dr dC ey eU eE eD gn gl x9 x8 x7 w_
   rintro ⟨az,ay,aA,aB,aw,aD,aE,aI,aL,aP,aj,ao,aH,hI⟩
   obtain rfl:=aw cK
   repeat (first|refine ad ?_|refine af (by decide) ?_|refine ab ?_|refine ai ?_|refine ah ?_)
   exact ⟨az,ay,aA,aB,aw,fun _=>rfl,aE,aI,aL,aP,aj,ao,aH,hI⟩
  ·intro D aY cK bZ dz dr dC ey eU eE eD gn gl x9 x8 x7 w_
   rintro ⟨az,ay,aA,aB,aw,aD,aE,aI,aL,aP,aj,ao,aH,hI⟩
   obtain rfl:=aw cK
   repeat (first|refine ad ?_|refine af (by decide) ?_|refine ab ?_|refine ai ?_|refine ah ?_)
   exact ⟨az,ay,aA,aB,aw,aD,fun _=>rfl,aI,aL,aP,aj,ao,aH,hI⟩
  ·intro D aY dV gg jo bZ dz dr dC ey eU eE eD gn gl x9 x8 x7 w_
   rintro ⟨az,ay,aA,aB,aw,aD,aE,aI,aL,aP,aj,ao,aH,hI⟩
   obtain rfl:=aD dV
   obtain rfl:=aE gg
   obtain rfl:=aw jo
   repeat (first|refine ad ?_|refine af (by decide) ?_|refine ab ?_|refine ai ?_|refine ah ?_)
   refine bh av hj' ?_
   exact ⟨az,ay,aA,aB,aw,aD,aE,fun _=>rfl,aL,aP,aj,ao,aH,hI⟩
  ·intro D aY el dS bZ dz dr dC ey eU eE eD gn gl x9 x8 x7 w_
   rintro ⟨az,ay,aA,aB,aw,aD,aE,aI,aL,aP,aj,ao,aH,hI⟩
   obtain rfl:=aI el
   obtain rfl:=aw dS
   repeat (first|refine ad ?_|refine af (by decide) ?_|refine ab ?_|refine ai ?_|refine ah ?_)
   refine cJ al hR.length (fun j v hj=>by rw [hI.cellS hS]; exact bl rfl j v hj) ?_
   exact ⟨az,ay,aA,aB,aw,aD,aE,aI,fun _=>rfl,aP,aj,ao,aH,hI⟩
  ·intro D aY cK bZ dz dr dC ey eU eE eD gn gl x9 x8 x7 w_
   rintro ⟨az,ay,aA,aB,aw,aD,aE,aI,aL,aP,aj,ao,aH,hI⟩
   obtain rfl:=aw cK
   repeat (first|refine ad ?_|refine af (by decide) ?_|refine ab ?_|refine ai ?_|refine ah ?_)
   refine bb hI 0 al rfl (by simpa using hlc) ?_
   exact ⟨az,ay,aA,aB,aw,aD,aE,aI,aL,fun _=>rfl,aj,ao,aH,hI⟩
  ·intro D aY iM fw jo Kc bZ dz dr dC ey eU eE eD gn gl x9 x8 x7 w_
   rintro ⟨az,ay,aA,aB,aw,aD,aE,aI,aL,aP,aj,ao,aH,hI⟩
   obtain rfl:=aL iM
   obtain rfl:=aP fw
   obtain rfl:=aw jo
   repeat (first|refine ad ?_|refine af (by decide) ?_|refine ab ?_|refine ai ?_|refine ah ?_)
   refine Run.callPure pe pi hI (yS _ _ S _ _ hR hcs hox ht) fun w_ hI=>?_
   exact ⟨az,ay,aA,aB,aw,aD,aE,aI,aL,aP,fun _=>rfl,ao,aH,hI⟩
  ·intro D aY gH dS bZ dz dr dC ey eU eE eD gn gl x9 x8 x7 w_
   rintro ⟨az,ay,aA,aB,aw,aD,aE,aI,aL,aP,aj,ao,aH,hI⟩
   obtain rfl:=aj gH
   obtain rfl:=aw dS
   repeat (first|refine ad ?_|refine af (by decide) ?_|refine ab ?_|refine ai ?_|refine ah ?_)
   refine bU ?_
   exact ⟨az,ay,aA,aB,aw,aD,aE,aI,aL,aP,aj,fun _=>rfl,aH,hI⟩
  ·intro D aY cK GC bZ dz dr dC ey eU eE eD gn gl x9 x8 x7 w_
   rintro ⟨az,ay,aA,aB,aw,aD,aE,aI,aL,aP,aj,ao,aH,hI⟩
   obtain rfl:=aw cK
   obtain rfl:=ao GC
   repeat (first|refine ad ?_|refine af (by decide) ?_|refine ab ?_|refine ai ?_|refine ah ?_)
   exact ⟨az,ay,aA,aB,aw,aD,aE,aI,aL,aP,aj,ao,fun _=>rfl,hI⟩
  intro D jh ft fm iW gN f0 f1 fM fF fI fK fL fN bZ dz dr dC ey eU eE eD gn gl x9 x8 x7 w_
  rintro ⟨az,ay,aA,aB,aw,aD,aE,aI,aL,aP,aj,ao,aH,hI⟩
  obtain rfl:=aH jh
  obtain rfl:=ao ft
  obtain rfl:=aj fm
  obtain rfl:=aP iW
  obtain rfl:=aL gN
  obtain rfl:=aI f0
  obtain rfl:=aE f1
  obtain rfl:=aD fM
  obtain rfl:=aw fF
  obtain rfl:=aB fI
  obtain rfl:=aA fK
  obtain rfl:=ay fL
  obtain rfl:=az fN
  clear az ay aA aB aw aD aE aI aL aP aj ao aH
  refine bk (fun hc=>?_) (fun hc=>?_)
  ·refine bP (by omega) ?_
   refine ⟨⟨j+1,hj',rfl,?_,hI⟩,by simp [intOf]; omega⟩
   rw [<- hrel,Ax l t j hj' hc,List.take_succ_eq_append_getElem hj',List.append_assoc]
   rfl
  rw [wu l t j hj' hc] at hrel
  refine ⟨fun D ex eR ed dP dA cT dg b0 bT bX ci cf w_=>(D 0=true->cf=.int .i64 j)/\(D 1=true->ci=.slice (some ⟨b,o,none⟩) l.length cap)/\(D 2=true->bX=.int .i64 l.length)/\(D 3=true->bT=.bool true)/\(D 4=true->b0=.bool true)/\(D 5=true->dg=.slice (some ⟨b,o,none⟩) l.length cap)/\(D 6=true->cT=.int .i64 j)/\(D 7=true->dA=.pointer (some ⟨b,o+j * 4,none⟩))/\(D 8=true->dP=.agg (bv c (o+j * 4) 4).toArray)/\(D 9=true->ed=.agg cs.toArray)/\(D 10=true->eR=.bool (eqT l[j] t))/\(D 11=true->ex=.bool (eqT l[j] t))/\Inv w [] [.blk b3 (.cells cs.toArray ac)] S w_,⟨ae,ae,ae,ae,ae,ae,ae,ae,ae,ae,ae,ae,hI.draw⟩,⟨?_,?_,?_,?_,?_,?_,?_,?_,?_,?_,?_,?_,trivial⟩,?_⟩
  ·intro D aY  ex eR ed dP dA cT dg b0 bT bX ci cf w_
   rintro ⟨az,ay,aA,aB,aw,aD,aE,aI,aL,aP,aj,ao,hI⟩
   exact ⟨fun _=>rfl,ay,aA,aB,aw,aD,aE,aI,aL,aP,aj,ao,hI⟩
  ·intro D aY  ex eR ed dP dA cT dg b0 bT bX ci cf w_
   rintro ⟨az,ay,aA,aB,aw,aD,aE,aI,aL,aP,aj,ao,hI⟩
   exact ⟨az,fun _=>rfl,aA,aB,aw,aD,aE,aI,aL,aP,aj,ao,hI⟩
  ·intro D aY dI ex eR ed dP dA cT dg b0 bT bX ci cf w_
   rintro ⟨az,ay,aA,aB,aw,aD,aE,aI,aL,aP,aj,ao,hI⟩
   obtain rfl:=ay dI
   refine gD av ?_
   exact ⟨az,ay,fun _=>rfl,aB,aw,aD,aE,aI,aL,aP,aj,ao,hI⟩
  ·intro D aY ce gJ ex eR ed dP dA cT dg b0 bT bX ci cf w_
   rintro ⟨az,ay,aA,aB,aw,aD,aE,aI,aL,aP,aj,ao,hI⟩
   obtain rfl:=az ce
   obtain rfl:=aA gJ
   refine bU ?_; rw [decide_eq_true (show (j:Int)<(l.length:Int) by omega)]
   exact ⟨az,ay,aA,fun _=>rfl,aw,aD,aE,aI,aL,aP,aj,ao,hI⟩
  ·intro D aY dF ex eR ed dP dA cT dg b0 bT bX ci cf w_
   rintro ⟨az,ay,aA,aB,aw,aD,aE,aI,aL,aP,aj,ao,hI⟩
   obtain rfl:=aB dF
   exact ⟨az,ay,aA,aB,fun _=>rfl,aD,aE,aI,aL,aP,aj,ao,hI⟩
  ·intro D aY cK ex eR ed dP dA cT dg b0 bT bX ci cf w_
   rintro ⟨az,ay,aA,aB,aw,aD,aE,aI,aL,aP,aj,ao,hI⟩
   obtain rfl:=aw cK
   repeat (first|refine ad ?_|refine af (by decide) ?_|refine ab ?_|refine ai ?_|refine ah ?_)
   exact ⟨az,ay,aA,aB,aw,fun _=>rfl,aE,aI,aL,aP,aj,ao,hI⟩
  ·intro D aY cK ex eR ed dP dA cT dg b0 bT bX ci cf w_
   rintro ⟨az,ay,aA,aB,aw,aD,aE,aI,aL,aP,aj,ao,hI⟩
   obtain rfl:=aw cK
   repeat (first|refine ad ?_|refine af (by decide) ?_|refine ab ?_|refine ai ?_|refine ah ?_)
   exact ⟨az,ay,aA,aB,aw,aD,fun _=>rfl,aI,aL,aP,aj,ao,hI⟩
  ·intro D aY dV gg jo ex eR ed dP dA cT dg b0 bT bX ci cf w_
   rintro ⟨az,ay,aA,aB,aw,aD,aE,aI,aL,aP,aj,ao,hI⟩
   obtain rfl:=aD dV
   obtain rfl:=aE gg
   obtain rfl:=aw jo
   repeat (first|refine ad ?_|refine af (by decide) ?_|refine ab ?_|refine ai ?_|refine ah ?_)
   refine bh av hj' ?_
   exact ⟨az,ay,aA,aB,aw,aD,aE,fun _=>rfl,aL,aP,aj,ao,hI⟩
  ·intro D aY el dS ex eR ed dP dA cT dg b0 bT bX ci cf w_
   rintro ⟨az,ay,aA,aB,aw,aD,aE,aI,aL,aP,aj,ao,hI⟩
   obtain rfl:=aI el
   obtain rfl:=aw dS
   repeat (first|refine ad ?_|refine af (by decide) ?_|refine ab ?_|refine ai ?_|refine ah ?_)
   refine cJ al hR.length (fun j v hj=>by rw [hI.cellS hS]; exact bl rfl j v hj) ?_
   exact ⟨az,ay,aA,aB,aw,aD,aE,aI,fun _=>rfl,aP,aj,ao,hI⟩
  ·intro D aY cK ex eR ed dP dA cT dg b0 bT bX ci cf w_
   rintro ⟨az,ay,aA,aB,aw,aD,aE,aI,aL,aP,aj,ao,hI⟩
   obtain rfl:=aw cK
   repeat (first|refine ad ?_|refine af (by decide) ?_|refine ab ?_|refine ai ?_|refine ah ?_)
   refine bb hI 0 al rfl (by simpa using hlc) ?_
   exact ⟨az,ay,aA,aB,aw,aD,aE,aI,aL,fun _=>rfl,aj,ao,hI⟩
  ·intro D aY iM fw jo Kc ex eR ed dP dA cT dg b0 bT bX ci cf w_
   rintro ⟨az,ay,aA,aB,aw,aD,aE,aI,aL,aP,aj,ao,hI⟩
   obtain rfl:=aL iM
   obtain rfl:=aP fw
   obtain rfl:=aw jo
   repeat (first|refine ad ?_|refine af (by decide) ?_|refine ab ?_|refine ai ?_|refine ah ?_)
   refine Run.callPure lW lV hI (mc _ _ S _ _ hR hcs) fun w_ hI=>?_
   exact ⟨az,ay,aA,aB,aw,aD,aE,aI,aL,aP,fun _=>rfl,ao,hI⟩
  ·intro D aY cK mQ ex eR ed dP dA cT dg b0 bT bX ci cf w_
   rintro ⟨az,ay,aA,aB,aw,aD,aE,aI,aL,aP,aj,ao,hI⟩
   obtain rfl:=aw cK
   obtain rfl:=aj mQ
   repeat (first|refine ad ?_|refine af (by decide) ?_|refine ab ?_|refine ai ?_|refine ah ?_)
   exact ⟨az,ay,aA,aB,aw,aD,aE,aI,aL,aP,aj,fun _=>rfl,hI⟩
  intro D ft fm iW gN f0 f1 fM fF fI fK fL fN ex eR ed dP dA cT dg b0 bT bX ci cf w_
  rintro ⟨az,ay,aA,aB,aw,aD,aE,aI,aL,aP,aj,ao,hI⟩
  obtain rfl:=ao ft
  obtain rfl:=aj fm
  obtain rfl:=aP iW
  obtain rfl:=aL gN
  obtain rfl:=aI f0
  obtain rfl:=aE f1
  obtain rfl:=aD fM
  obtain rfl:=aw fF
  obtain rfl:=aB fI
  obtain rfl:=aA fK
  obtain rfl:=ay fL
  obtain rfl:=az fN
  clear az ay aA aB aw aD aE aI aL aP aj ao
  refine ba (fun he=>?_) (fun he=>?_)
  ·rw [if_pos he,List.take_append_drop] at hrel
   rw [<- hrel]
   exact ⟨_,_,_,rfl,hI.pick [false],Ext.refl _ _ _,rfl,h⟩
  ·rw [if_neg (by rw [he]; decide)] at hrel
   rw [<- hrel]
   exact GT j hI h hcs hj hn fun r S' w' hE hr hI=>⟨_,_,_,rfl,hI,hE,rfl,hr⟩
 ·have hje:j=l.length:=by omega
  have hv:∃ a m,v=.slice a l.length m:=by
   obtain ⟨a,m,e,_⟩:=h
   exact ⟨a,m,e⟩
  obtain ⟨a,m,rfl⟩:=hv
  rw [List.drop_eq_nil_of_le (by omega),eP] at hrel
  refine ⟨fun D bZ dz dr dC ey eU eE eD gn gl x9 x8 x7 w_=>(D 0=true->x7=.int .i64 j)/\(D 1=true->x8=.slice a l.length m)/\(D 2=true->x9=.int .i64 l.length)/\(D 3=true->gl=.bool false)/\(D 4=true->gn=.bool false)/\(D 5=true->eD=undef)/\(D 6=true->eE=undef)/\(D 7=true->eU=undef)/\(D 8=true->ey=undef)/\(D 9=true->dC=undef)/\(D 10=true->dr=undef)/\(D 11=true->dz=undef)/\(D 12=true->bZ=.bool false)/\Inv w [] [.blk b3 (.cells cs.toArray ac)] S w_,⟨ae,ae,ae,ae,ae,ae,ae,ae,ae,ae,ae,ae,ae,hI.draw⟩,⟨?_,?_,?_,?_,?_,?_,?_,?_,?_,?_,?_,?_,?_,trivial⟩,?_⟩
  ·intro D aY  bZ dz dr dC ey eU eE eD gn gl x9 x8 x7 w_
   rintro ⟨az,ay,aA,aB,aw,aD,aE,aI,aL,aP,aj,ao,aH,hI⟩
   exact ⟨fun _=>rfl,ay,aA,aB,aw,aD,aE,aI,aL,aP,aj,ao,aH,hI⟩
  ·intro D aY  bZ dz dr dC ey eU eE eD gn gl x9 x8 x7 w_
   rintro ⟨az,ay,aA,aB,aw,aD,aE,aI,aL,aP,aj,ao,aH,hI⟩
   exact ⟨az,fun _=>rfl,aA,aB,aw,aD,aE,aI,aL,aP,aj,ao,aH,hI⟩
  ·intro D aY dI bZ dz dr dC ey eU eE eD gn gl x9 x8 x7 w_
   rintro ⟨az,ay,aA,aB,aw,aD,aE,aI,aL,aP,aj,ao,aH,hI⟩
   obtain rfl:=ay dI
   refine gD av ?_
   exact ⟨az,ay,fun _=>rfl,aB,aw,aD,aE,aI,aL,aP,aj,ao,aH,hI⟩
  ·intro D aY ce gJ bZ dz dr dC ey eU eE eD gn gl x9 x8 x7 w_
   rintro ⟨az,ay,aA,aB,aw,aD,aE,aI,aL,aP,aj,ao,aH,hI⟩
   obtain rfl:=az ce
   obtain rfl:=aA gJ
   refine bU ?_; rw [decide_eq_false (show ¬ (j:Int)<(l.length:Int) by omega)]
   exact ⟨az,ay,aA,fun _=>rfl,aw,aD,aE,aI,aL,aP,aj,ao,aH,hI⟩
  ·intro D aY dF bZ dz dr dC ey eU eE eD gn gl x9 x8 x7 w_
   rintro ⟨az,ay,aA,aB,aw,aD,aE,aI,aL,aP,aj,ao,aH,hI⟩
   obtain rfl:=aB dF
   exact ⟨az,ay,aA,aB,fun _=>rfl,aD,aE,aI,aL,aP,aj,ao,aH,hI⟩
  ·intro D aY cK bZ dz dr dC ey eU eE eD gn gl x9 x8 x7 w_
   rintro ⟨az,ay,aA,aB,aw,aD,aE,aI,aL,aP,aj,ao,aH,hI⟩
   obtain rfl:=aw cK
   repeat (first|refine ad ?_|refine af (by decide) ?_|refine ab ?_|refine ai ?_|refine ah ?_)
   exact ⟨az,ay,aA,aB,aw,fun _=>rfl,aE,aI,aL,aP,aj,ao,aH,hI⟩
  ·intro D aY cK bZ dz dr dC ey eU eE eD gn gl x9 x8 x7 w_
   rintro ⟨az,ay,aA,aB,aw,aD,aE,aI,aL,aP,aj,ao,aH,hI⟩
   obtain rfl:=aw cK
   repeat (first|refine ad ?_|refine af (by decide) ?_|refine ab ?_|refine ai ?_|refine ah ?_)
   exact ⟨az,ay,aA,aB,aw,aD,fun _=>rfl,aI,aL,aP,aj,ao,aH,hI⟩
  ·intro D aY dV gg jo bZ dz dr dC ey eU eE eD gn gl x9 x8 x7 w_
   rintro ⟨az,ay,aA,aB,aw,aD,aE,aI,aL,aP,aj,ao,aH,hI⟩
   obtain rfl:=aD dV
   obtain rfl:=aE gg
   obtain rfl:=aw jo
   repeat (first|refine ad ?_|refine af (by decide) ?_|refine ab ?_|refine ai ?_|refine ah ?_)
   exact ⟨az,ay,aA,aB,aw,aD,aE,fun _=>rfl,aL,aP,aj,ao,aH,hI⟩
  ·intro D aY el dS bZ dz dr dC ey eU eE eD gn gl x9 x8 x7 w_
   rintro ⟨az,ay,aA,aB,aw,aD,aE,aI,aL,aP,aj,ao,aH,hI⟩
   obtain rfl:=aI el
   obtain rfl:=aw dS
   repeat (first|refine ad ?_|refine af (by decide) ?_|refine ab ?_|refine ai ?_|refine ah ?_)
   exact ⟨az,ay,aA,aB,aw,aD,aE,aI,fun _=>rfl,aP,aj,ao,aH,hI⟩
  ·intro D aY cK bZ dz dr dC ey eU eE eD gn gl x9 x8 x7 w_
   rintro ⟨az,ay,aA,aB,aw,aD,aE,aI,aL,aP,aj,ao,aH,hI⟩
   obtain rfl:=aw cK
   repeat (first|refine ad ?_|refine af (by decide) ?_|refine ab ?_|refine ai ?_|refine ah ?_)
   exact ⟨az,ay,aA,aB,aw,aD,aE,aI,aL,fun _=>rfl,aj,ao,aH,hI⟩
  ·intro D aY iM fw jo Kc bZ dz dr dC ey eU eE eD gn gl x9 x8 x7 w_
   rintro ⟨az,ay,aA,aB,aw,aD,aE,aI,aL,aP,aj,ao,aH,hI⟩
   obtain rfl:=aL iM
   obtain rfl:=aP fw
   obtain rfl:=aw jo
   repeat (first|refine ad ?_|refine af (by decide) ?_|refine ab ?_|refine ai ?_|refine ah ?_)
   exact ⟨az,ay,aA,aB,aw,aD,aE,aI,aL,aP,fun _=>rfl,ao,aH,hI⟩
  ·intro D aY gH dS bZ dz dr dC ey eU eE eD gn gl x9 x8 x7 w_
   rintro ⟨az,ay,aA,aB,aw,aD,aE,aI,aL,aP,aj,ao,aH,hI⟩
   obtain rfl:=aj gH
   obtain rfl:=aw dS
   repeat (first|refine ad ?_|refine af (by decide) ?_|refine ab ?_|refine ai ?_|refine ah ?_)
   exact ⟨az,ay,aA,aB,aw,aD,aE,aI,aL,aP,aj,fun _=>rfl,aH,hI⟩
  ·intro D aY cK GC bZ dz dr dC ey eU eE eD gn gl x9 x8 x7 w_
   rintro ⟨az,ay,aA,aB,aw,aD,aE,aI,aL,aP,aj,ao,aH,hI⟩
   obtain rfl:=aw cK
   obtain rfl:=ao GC
   repeat (first|refine ad ?_|refine af (by decide) ?_|refine ab ?_|refine ai ?_|refine ah ?_)
   exact ⟨az,ay,aA,aB,aw,aD,aE,aI,aL,aP,aj,ao,fun _=>rfl,hI⟩
  intro D jh ft fm iW gN f0 f1 fM fF fI fK fL fN bZ dz dr dC ey eU eE eD gn gl x9 x8 x7 w_
  rintro ⟨az,ay,aA,aB,aw,aD,aE,aI,aL,aP,aj,ao,aH,hI⟩
  obtain rfl:=aH jh
  obtain rfl:=ao ft
  obtain rfl:=aj fm
  obtain rfl:=aP iW
  obtain rfl:=aL gN
  obtain rfl:=aI f0
  obtain rfl:=aE f1
  obtain rfl:=aD fM
  obtain rfl:=aw fF
  obtain rfl:=aB fI
  obtain rfl:=aA fK
  obtain rfl:=ay fL
  obtain rfl:=az fN
  clear az ay aA aB aw aD aE aI aL aP aj ao aH
  refine ba (fun hb=>by cases hb) (fun _=>?_)
  refine ⟨fun D ex eR ed dP dA cT dg b0 bT bX ci cf w_=>(D 0=true->cf=.int .i64 j)/\(D 1=true->ci=.slice a l.length m)/\(D 2=true->bX=.int .i64 l.length)/\(D 3=true->bT=.bool false)/\(D 4=true->b0=.bool false)/\(D 5=true->dg=undef)/\(D 6=true->cT=undef)/\(D 7=true->dA=undef)/\(D 8=true->dP=undef)/\(D 9=true->ed=undef)/\(D 10=true->eR=undef)/\(D 11=true->ex=.bool false)/\Inv w [] [.blk b3 (.cells cs.toArray ac)] S w_,⟨ae,ae,ae,ae,ae,ae,ae,ae,ae,ae,ae,ae,hI.draw⟩,⟨?_,?_,?_,?_,?_,?_,?_,?_,?_,?_,?_,?_,trivial⟩,?_⟩
  ·intro D aY  ex eR ed dP dA cT dg b0 bT bX ci cf w_
   rintro ⟨az,ay,aA,aB,aw,aD,aE,aI,aL,aP,aj,ao,hI⟩
   exact ⟨fun _=>rfl,ay,aA,aB,aw,aD,aE,aI,aL,aP,aj,ao,hI⟩
  ·intro D aY  ex eR ed dP dA cT dg b0 bT bX ci cf w_
   rintro ⟨az,ay,aA,aB,aw,aD,aE,aI,aL,aP,aj,ao,hI⟩
   exact ⟨az,fun _=>rfl,aA,aB,aw,aD,aE,aI,aL,aP,aj,ao,hI⟩
  ·intro D aY dI ex eR ed dP dA cT dg b0 bT bX ci cf w_
   rintro ⟨az,ay,aA,aB,aw,aD,aE,aI,aL,aP,aj,ao,hI⟩
   obtain rfl:=ay dI
   refine gD av ?_
   exact ⟨az,ay,fun _=>rfl,aB,aw,aD,aE,aI,aL,aP,aj,ao,hI⟩
  ·intro D aY ce gJ ex eR ed dP dA cT dg b0 bT bX ci cf w_
   rintro ⟨az,ay,aA,aB,aw,aD,aE,aI,aL,aP,aj,ao,hI⟩
   obtain rfl:=az ce
   obtain rfl:=aA gJ
   refine bU ?_; rw [decide_eq_false (show ¬ (j:Int)<(l.length:Int) by omega)]
   exact ⟨az,ay,aA,fun _=>rfl,aw,aD,aE,aI,aL,aP,aj,ao,hI⟩
  ·intro D aY dF ex eR ed dP dA cT dg b0 bT bX ci cf w_
   rintro ⟨az,ay,aA,aB,aw,aD,aE,aI,aL,aP,aj,ao,hI⟩
   obtain rfl:=aB dF
   exact ⟨az,ay,aA,aB,fun _=>rfl,aD,aE,aI,aL,aP,aj,ao,hI⟩
  ·intro D aY cK ex eR ed dP dA cT dg b0 bT bX ci cf w_
   rintro ⟨az,ay,aA,aB,aw,aD,aE,aI,aL,aP,aj,ao,hI⟩
   obtain rfl:=aw cK
   repeat (first|refine ad ?_|refine af (by decide) ?_|refine ab ?_|refine ai ?_|refine ah ?_)
   exact ⟨az,ay,aA,aB,aw,fun _=>rfl,aE,aI,aL,aP,aj,ao,hI⟩
  ·intro D aY cK ex eR ed dP dA cT dg b0 bT bX ci cf w_
   rintro ⟨az,ay,aA,aB,aw,aD,aE,aI,aL,aP,aj,ao,hI⟩
   obtain rfl:=aw cK
   repeat (first|refine ad ?_|refine af (by decide) ?_|refine ab ?_|refine ai ?_|refine ah ?_)
   exact ⟨az,ay,aA,aB,aw,aD,fun _=>rfl,aI,aL,aP,aj,ao,hI⟩
  ·intro D aY dV gg jo ex eR ed dP dA cT dg b0 bT bX ci cf w_
   rintro ⟨az,ay,aA,aB,aw,aD,aE,aI,aL,aP,aj,ao,hI⟩
   obtain rfl:=aD dV
   obtain rfl:=aE gg
   obtain rfl:=aw jo
   repeat (first|refine ad ?_|refine af (by decide) ?_|refine ab ?_|refine ai ?_|refine ah ?_)
   exact ⟨az,ay,aA,aB,aw,aD,aE,fun _=>rfl,aL,aP,aj,ao,hI⟩
  ·intro D aY el dS ex eR ed dP dA cT dg b0 bT bX ci cf w_
   rintro ⟨az,ay,aA,aB,aw,aD,aE,aI,aL,aP,aj,ao,hI⟩
   obtain rfl:=aI el
   obtain rfl:=aw dS
   repeat (first|refine ad ?_|refine af (by decide) ?_|refine ab ?_|refine ai ?_|refine ah ?_)
   exact ⟨az,ay,aA,aB,aw,aD,aE,aI,fun _=>rfl,aP,aj,ao,hI⟩
  ·intro D aY cK ex eR ed dP dA cT dg b0 bT bX ci cf w_
   rintro ⟨az,ay,aA,aB,aw,aD,aE,aI,aL,aP,aj,ao,hI⟩
   obtain rfl:=aw cK
   repeat (first|refine ad ?_|refine af (by decide) ?_|refine ab ?_|refine ai ?_|refine ah ?_)
   exact ⟨az,ay,aA,aB,aw,aD,aE,aI,aL,fun _=>rfl,aj,ao,hI⟩
  ·intro D aY iM fw jo Kc ex eR ed dP dA cT dg b0 bT bX ci cf w_
   rintro ⟨az,ay,aA,aB,aw,aD,aE,aI,aL,aP,aj,ao,hI⟩
   obtain rfl:=aL iM
   obtain rfl:=aP fw
   obtain rfl:=aw jo
   repeat (first|refine ad ?_|refine af (by decide) ?_|refine ab ?_|refine ai ?_|refine ah ?_)
   exact ⟨az,ay,aA,aB,aw,aD,aE,aI,aL,aP,fun _=>rfl,ao,hI⟩
  ·intro D aY cK mQ ex eR ed dP dA cT dg b0 bT bX ci cf w_
   rintro ⟨az,ay,aA,aB,aw,aD,aE,aI,aL,aP,aj,ao,hI⟩
   obtain rfl:=aw cK
   obtain rfl:=aj mQ
   repeat (first|refine ad ?_|refine af (by decide) ?_|refine ab ?_|refine ai ?_|refine ah ?_)
   exact ⟨az,ay,aA,aB,aw,aD,aE,aI,aL,aP,aj,fun _=>rfl,hI⟩
  intro D ft fm iW gN f0 f1 fM fF fI fK fL fN ex eR ed dP dA cT dg b0 bT bX ci cf w_
  rintro ⟨az,ay,aA,aB,aw,aD,aE,aI,aL,aP,aj,ao,hI⟩
  obtain rfl:=ao ft
  obtain rfl:=aj fm
  obtain rfl:=aP iW
  obtain rfl:=aL gN
  obtain rfl:=aI f0
  obtain rfl:=aE f1
  obtain rfl:=aD fM
  obtain rfl:=aw fF
  obtain rfl:=aB fI
  obtain rfl:=aA fK
  obtain rfl:=ay fL
  obtain rfl:=az fN
  clear az ay aA aB aw aD aE aI aL aP aj ao
  refine ba (fun hb=>by cases hb) (fun _=>?_)
  rw [<- hrel]
  refine GT j hI h hcs hj hn fun r S' w' hE hr hI=>⟨_,_,_,rfl,hI,hE,rfl,?_⟩
  rw [List.drop_eq_nil_of_le (by omega)] at hr
  exact hr
end

end Go.Proofs.YtemmhhdnlbmicaaGreat

/- slices.BinarySearchFunc in facts that stand in order. -/
namespace Go.Proofs.YtemmhhdnlbmicaaGreat
open Go Go.RowKit
section
variable {P:Program} {w:World} {K:Value->World->Prop}
attribute [local irreducible] Run
theorem Ph {T:TypeId} {cx cy:Bool} {a:Int} (hk:K (.int .u64 (a / 2)) w):Run P (aq .shr T cx cy (.int .u64 a) (.int .u64 1)) w K:=by
 refine Run.of ?_ hk
 have h1:Op.shift .shr .u64 a .u64 1=pure (.int .u64 (a / 2)):=by
  have e:min (1:Int).toNat IntKind.u64.bits=1:=by decide
  simp only [Op.shift,e]
  rw [if_neg (by decide),Int.fdiv_eq_ediv_of_nonneg _ (by decide)]
  rfl
 simp [aq,binOp,eqGuard,h1]
end
/- where a fact belongs -/
def Bb (l:List T) (t:T) (i:Nat):Prop:=i<=l.length/\(∀ j (h:j<l.length),j<i->dQ l[j] t<0)/\(∀ j (h:j<l.length),i<=j->¬ dQ l[j] t<0)
theorem D5 {l:List T} (h:Sorted l):∀ (a b:Nat) (ha:a<l.length) (hb:b<l.length),a<b->dQ l[a] l[b]<0:=by
 induction l with
 | nil=>intro a b ha; simp at ha
 | cons x xs ih=>
  intro a b ha hb hab
  rw [Sorted] at h
  match a,b with
  | 0,b+1=>
   simp only [List.getElem_cons_zero,List.getElem_cons_succ]
   exact h.1 _ (List.getElem_mem _)
  | a+1,b+1=>
   simp only [List.getElem_cons_succ]
   exact ih h.2 a b (by simpa using ha) (by simpa using hb) (by omega)
  | _,0=>omega
theorem Lp {l:List T} {t:T} {i:Nat} (h:Bb l t i):eP l t=l.take i++eP (l.drop i) t:=by
 obtain ⟨h1,h2,_⟩:=h
 have:∀ k,k<=i->l.take k++eP (l.drop k) t=eP l t:=by
  intro k
  induction k with
  | zero=>intro _; rfl
  | succ k ih=>
   intro hk
   have hkl:k<l.length:=by omega
   rw [<- ih (by omega),Ax l t k hkl (h2 k hkl (by omega)),List.take_succ_eq_append_getElem hkl,List.append_assoc]
   rfl
 exact (this i (Nat.le_refl _)).symm
theorem Oo {l:List T} {t:T} {i:Nat} (h:Bb l t i) (hn:∀ hi:i<l.length,eqT l[i] t=false):eP l t=l.take i++t::l.drop i:=by
 rw [Lp h]
 by_cases hi:i<l.length
 ·rw [wu l t i hi (h.2.2 i hi (Nat.le_refl _)),if_neg (by rw [hn hi]; decide)]
 ·rw [List.drop_eq_nil_of_le (by omega),eP]
theorem NQ {l:List T} {t:T} {i:Nat} (h:Bb l t i) (hi:i<l.length) (he:eqT l[i] t=true):eP l t=l:=by
 rw [Lp h,wu l t i hi (h.2.2 i hi (Nat.le_refl _)),if_pos he,List.take_append_drop]
theorem Nr {a b:T} (ha:okO a) (hb:okO b):decide (dQ a b=0)=eqT a b:=by
 rw [Bool.eq_iff_iff,decide_eq_true_eq,jJ]
 exact ⟨Ea a b ha hb,fun h=>by rw [h]; exact DO b⟩
def r5 (l:List T) (t:T) (i:Nat):Bool:=if h:i<l.length then eqT l[i] t else false
section
attribute [local irreducible] Run CondV ag be
theorem se {l:List T} {t:T} {S:aF} {v:Value} {cs:List Value} (h:RdSl S 4 (RdT S) v l) (hcs:RdT S cs t) (hl:∀ x∈l,okO x) (ht:okO t) (hs:Sorted l) (hn:l.length<=100000000) :
  ∃ i,Bb l t i/\Pure Tryz.prog kS [v,.agg cs.toArray,fv g8 []] S (.tuple #[.int .i64 i,.bool (r5 l t i)]):=by
 obtain ⟨i0,hi0⟩:∃ i,Bb l t i:=by
  have:∀ l:List T,Sorted l->(∀ x∈l,okO x)->∃ i,Bb l t i:=by
   intro l
   induction l with
   | nil=>intro _ _; exact ⟨0,Nat.le_refl _,fun j h=>by simp at h,fun j h=>by simp at h⟩
   | cons x xs ih=>
    intro hs hl
    rw [Sorted] at hs
    by_cases hc:dQ x t<0
    ·obtain ⟨i,h1,h2,h3⟩:=ih hs.2 fun y hy=>hl y (List.mem_cons_of_mem _ hy)
     refine ⟨i+1,by simpa using h1,fun j hj hji=>?_,fun j hj hji=>?_⟩
     ·match j with
      | 0=>exact hc
      | j+1=>simpa using h2 j (by simpa using hj) (by omega)
     ·match j with
      | 0=>omega
      | j+1=>simpa using h3 j (by simpa using hj) (by omega)
    ·refine ⟨0,Nat.zero_le _,fun j _ hji=>by omega,fun j hj _=>?_⟩
     match j with
     | 0=>exact hc
     | j+1=>
      intro hlt
      simp only [List.getElem_cons_succ] at hlt
      exact hc (zp (hs.1 _ (List.getElem_mem _)) hlt)
  exact this l hs hl
 have huniq:∀ i,Bb l t i->i=i0:=by
  intro i hi
  rcases Nat.lt_trichotomy i i0 with h1|h1|h1
  ·exact absurd (hi0.2.1 i (by have:=hi0.1; omega) h1) (hi.2.2 i (by have:=hi0.1; omega) (Nat.le_refl _))
  ·exact h1
  ·exact absurd (hi.2.1 i0 (by have:=hi.1; omega) h1) (hi0.2.2 i0 (by have:=hi.1; omega) (Nat.le_refl _))
 refine ⟨i0,hi0,fun w hI=>?_⟩
 have hlc:=hcs.length
 have hun:Tryz.prog.underlying fx=some (.int .i64):=by kernel_rfl
 refine i5 ?_
 unfold gy
 refine bO hI fun b4 w' hI=>?_
 have hI:Inv w [] [.blk b4 (.cells cs.toArray ac)] S w':=hI
 refine a9 h av ?_
 refine ⟨fun jv iv w'=>∃ i j:Nat,i<=j/\j<=l.length/\jv=.int .i64 j/\iv=.int .i64 i/\(∀ k (h:k<l.length),k<i->dQ l[k] t<0)/\(∀ k (h:k<l.length),j<=k->¬ dQ l[k] t<0)/\Inv w [] [.blk b4 (.cells cs.toArray ac)] S w',
  fun jv iv _=>(intOf jv).toNat - (intOf iv).toNat,⟨0,l.length,Nat.zero_le _,Nat.le_refl _,rfl,rfl,fun k _ hk=>by omega,fun k hk hk2=>by omega,hI⟩,?_⟩
 intro t10 _ t9 _ _ _ _ _ _ _ _ _ _ _ _ _ _ _ _ _ _ _ _ w'
 rintro ⟨i,j,hij,hjl,rfl,rfl,hlo,hhi,hI⟩
 refine bU ?_
 refine bk (fun hlt=>?_) (fun hlt=>?_)
 ·obtain ⟨m,hm⟩:∃ m:Nat,(((i:Int)+(j:Int)) / 2)=(m:Int):=⟨(i+j) / 2,by omega⟩
  have hm1:i<=m/\m<j:=by omega
  have hml:m<l.length:=by omega
  refine bP (by omega) ?_
  refine Lf (k:=.u64) (k':=.i64) (by kernel_rfl) (by kernel_rfl) ?_
  rw [IntWalk.u64_in _ (by omega)]
  refine Ph ?_
  rw [hm]
  refine Lf (k:=.i64) (k':=.u64) (by kernel_rfl) (by kernel_rfl) ?_
  rw [IntWalk.i64_in _ (by omega)]
  obtain ⟨b,o,cap,c,E,fz,rfl,hS,hR⟩:=h.at_ hml
  have hox:=hl _ (List.getElem_mem hml)
  refine ⟨fun D ed dP dA cT dg b0 bT bX w_=>(D 0=true->bX=fv g8 [])/\(D 1=true->bT=.slice (some ⟨b,o,none⟩) l.length cap)/\(D 2=true->b0=.int .i64 m)/\(D 3=true->dg=.pointer (some ⟨b,o+m * 4,none⟩))/\(D 4=true->cT=.agg (bv c (o+m * 4) 4).toArray)/\(D 5=true->dA=.agg cs.toArray)/\(D 6=true->dP=.int .i64 (dQ l[m] t))/\(D 7=true->ed=.bool (decide (dQ l[m] t<0)))/\Inv w [] [.blk b4 (.cells cs.toArray ac)] S w_,⟨ae,ae,ae,ae,ae,ae,ae,ae,hI.draw⟩,⟨?_,?_,?_,?_,?_,?_,?_,?_,trivial⟩,?_⟩
  ·intro D aY  ed dP dA cT dg b0 bT bX w_
   rintro ⟨az,ay,aA,aB,aw,aD,aE,aI,hI⟩
   exact ⟨fun _=>rfl,ay,aA,aB,aw,aD,aE,aI,hI⟩
  ·intro D aY  ed dP dA cT dg b0 bT bX w_
   rintro ⟨az,ay,aA,aB,aw,aD,aE,aI,hI⟩
   exact ⟨az,fun _=>rfl,aA,aB,aw,aD,aE,aI,hI⟩
  ·intro D aY  ed dP dA cT dg b0 bT bX w_
   rintro ⟨az,ay,aA,aB,aw,aD,aE,aI,hI⟩
   exact ⟨az,ay,fun _=>rfl,aB,aw,aD,aE,aI,hI⟩
  ·intro D aY dI gJ ed dP dA cT dg b0 bT bX w_
   rintro ⟨az,ay,aA,aB,aw,aD,aE,aI,hI⟩
   obtain rfl:=ay dI
   obtain rfl:=aA gJ
   refine bh av hml ?_
   exact ⟨az,ay,aA,fun _=>rfl,aw,aD,aE,aI,hI⟩
  ·intro D aY dF ed dP dA cT dg b0 bT bX w_
   rintro ⟨az,ay,aA,aB,aw,aD,aE,aI,hI⟩
   obtain rfl:=aB dF
   refine cJ al hR.length (fun j v hj=>by rw [hI.cellS hS]; exact bl rfl j v hj) ?_
   exact ⟨az,ay,aA,aB,fun _=>rfl,aD,aE,aI,hI⟩
  ·intro D aY  ed dP dA cT dg b0 bT bX w_
   rintro ⟨az,ay,aA,aB,aw,aD,aE,aI,hI⟩
   refine bb hI 0 al rfl (by simpa using hlc) ?_
   exact ⟨az,ay,aA,aB,aw,fun _=>rfl,aE,aI,hI⟩
  ·intro D aY ce dS MG ed dP dA cT dg b0 bT bX w_
   rintro ⟨az,ay,aA,aB,aw,aD,aE,aI,hI⟩
   obtain rfl:=az ce
   obtain rfl:=aw dS
   obtain rfl:=aD MG
   refine Run.callVPure (cap:=[]) jP jE hI (lT _ _ S _ _ hR hcs hox ht) fun w_ hI=>?_
   exact ⟨az,ay,aA,aB,aw,aD,fun _=>rfl,aI,hI⟩
  ·intro D aY c9 ed dP dA cT dg b0 bT bX w_
   rintro ⟨az,ay,aA,aB,aw,aD,aE,aI,hI⟩
   obtain rfl:=aE c9
   refine bU ?_
   exact ⟨az,ay,aA,aB,aw,aD,aE,fun _=>rfl,hI⟩
  intro D f0 f1 fM fF fI fK fL fN ed dP dA cT dg b0 bT bX w_
  rintro ⟨az,ay,aA,aB,aw,aD,aE,aI,hI⟩
  obtain rfl:=aI f0
  obtain rfl:=aE f1
  obtain rfl:=aD fM
  obtain rfl:=aw fF
  obtain rfl:=aB fI
  obtain rfl:=aA fK
  obtain rfl:=ay fL
  obtain rfl:=az fN
  clear az ay aA aB aw aD aE aI
  refine bk (fun hc=>?_) (fun hc=>?_)
  ·refine bP (by omega) ?_
   refine ⟨⟨m+1,j,by omega,hjl,rfl,rfl,fun k hk hk2=>?_,hhi,hI⟩,by simp [intOf]; omega⟩
   by_cases e:k=m
   ·subst e; exact hc
   ·exact zp (D5 hs k m hk hml (by omega)) hc
  ·refine ⟨⟨i,m,hm1.1,by omega,rfl,rfl,hlo,fun k hk hk2 hc2=>?_,hI⟩,by simp [intOf]; omega⟩
   by_cases e:k=m
   ·subst e; exact hc hc2
   ·exact hc (zp (D5 hs m k hml hk (by omega)) hc2)
 ·have e:j=i:=by omega
  subst e
  have e:j=i0:=huniq j ⟨hjl,hlo,hhi⟩
  subst e
  clear huniq hi0 hlo hhi
  by_cases hi:j<l.length
  ·obtain ⟨b,o,cap,c,E,fz,rfl,hS,hR⟩:=h.at_ hi
   have hox:=hl _ (List.getElem_mem hi)
   have hfb:r5 l t j=eqT l[j] t:=dif_pos hi
   rw [hfb]
   refine ⟨fun D x7 x6 bV bW db du dv dw dx dy gM eI eo eJ dZ d4 w_=>(D 0=true->d4=.int .i64 j)/\(D 1=true->dZ=.int .i64 j)/\(D 2=true->eJ=.int .i64 l.length)/\(D 3=true->eo=.bool true)/\(D 4=true->eI=.bool true)/\(D 5=true->gM=fv g8 [])/\(D 6=true->dy=.slice (some ⟨b,o,none⟩) l.length cap)/\(D 7=true->dx=.int .i64 j)/\(D 8=true->dw=.pointer (some ⟨b,o+j * 4,none⟩))/\(D 9=true->dv=.agg (bv c (o+j * 4) 4).toArray)/\(D 10=true->du=.agg cs.toArray)/\(D 11=true->db=.int .i64 (dQ l[j] t))/\(D 12=true->bW=.bool (eqT l[j] t))/\(D 13=true->bV=.bool (eqT l[j] t))/\(D 14=true->x6=.int .i64 j)/\(D 15=true->x7=.bool (eqT l[j] t))/\Inv w [] [.blk b4 (.cells cs.toArray ac)] S w_,⟨ae,ae,ae,ae,ae,ae,ae,ae,ae,ae,ae,ae,ae,ae,ae,ae,hI.draw⟩,⟨?_,?_,?_,?_,?_,?_,?_,?_,?_,?_,?_,?_,?_,?_,?_,?_,trivial⟩,?_⟩
   ·intro D aY  x7 x6 bV bW db du dv dw dx dy gM eI eo eJ dZ d4 w_
    rintro ⟨az,ay,aA,aB,aw,aD,aE,aI,aL,aP,aj,ao,aH,aM,aO,aN,hI⟩
    exact ⟨fun _=>rfl,ay,aA,aB,aw,aD,aE,aI,aL,aP,aj,ao,aH,aM,aO,aN,hI⟩
   ·intro D aY  x7 x6 bV bW db du dv dw dx dy gM eI eo eJ dZ d4 w_
    rintro ⟨az,ay,aA,aB,aw,aD,aE,aI,aL,aP,aj,ao,aH,aM,aO,aN,hI⟩
    exact ⟨az,fun _=>rfl,aA,aB,aw,aD,aE,aI,aL,aP,aj,ao,aH,aM,aO,aN,hI⟩
   ·intro D aY  x7 x6 bV bW db du dv dw dx dy gM eI eo eJ dZ d4 w_
    rintro ⟨az,ay,aA,aB,aw,aD,aE,aI,aL,aP,aj,ao,aH,aM,aO,aN,hI⟩
    exact ⟨az,ay,fun _=>rfl,aB,aw,aD,aE,aI,aL,aP,aj,ao,aH,aM,aO,aN,hI⟩
   ·intro D aY dI gJ x7 x6 bV bW db du dv dw dx dy gM eI eo eJ dZ d4 w_
    rintro ⟨az,ay,aA,aB,aw,aD,aE,aI,aL,aP,aj,ao,aH,aM,aO,aN,hI⟩
    obtain rfl:=ay dI
    obtain rfl:=aA gJ
    refine bU ?_; rw [decide_eq_true (show (j:Int)<(l.length:Int) by omega)]
    exact ⟨az,ay,aA,fun _=>rfl,aw,aD,aE,aI,aL,aP,aj,ao,aH,aM,aO,aN,hI⟩
   ·intro D aY dF x7 x6 bV bW db du dv dw dx dy gM eI eo eJ dZ d4 w_
    rintro ⟨az,ay,aA,aB,aw,aD,aE,aI,aL,aP,aj,ao,aH,aM,aO,aN,hI⟩
    obtain rfl:=aB dF
    exact ⟨az,ay,aA,aB,fun _=>rfl,aD,aE,aI,aL,aP,aj,ao,aH,aM,aO,aN,hI⟩
   ·intro D aY cK x7 x6 bV bW db du dv dw dx dy gM eI eo eJ dZ d4 w_
    rintro ⟨az,ay,aA,aB,aw,aD,aE,aI,aL,aP,aj,ao,aH,aM,aO,aN,hI⟩
    obtain rfl:=aw cK
    repeat (first|refine ad ?_|refine af (by decide) ?_|refine ab ?_|refine ai ?_|refine ah ?_)
    exact ⟨az,ay,aA,aB,aw,fun _=>rfl,aE,aI,aL,aP,aj,ao,aH,aM,aO,aN,hI⟩
   ·intro D aY cK x7 x6 bV bW db du dv dw dx dy gM eI eo eJ dZ d4 w_
    rintro ⟨az,ay,aA,aB,aw,aD,aE,aI,aL,aP,aj,ao,aH,aM,aO,aN,hI⟩
    obtain rfl:=aw cK
    repeat (first|refine ad ?_|refine af (by decide) ?_|refine ab ?_|refine ai ?_|refine ah ?_)
    exact ⟨az,ay,aA,aB,aw,aD,fun _=>rfl,aI,aL,aP,aj,ao,aH,aM,aO,aN,hI⟩
   ·intro D aY cK x7 x6 bV bW db du dv dw dx dy gM eI eo eJ dZ d4 w_
    rintro ⟨az,ay,aA,aB,aw,aD,aE,aI,aL,aP,aj,ao,aH,aM,aO,aN,hI⟩
    obtain rfl:=aw cK
    repeat (first|refine ad ?_|refine af (by decide) ?_|refine ab ?_|refine ai ?_|refine ah ?_)
    exact ⟨az,ay,aA,aB,aw,aD,aE,fun _=>rfl,aL,aP,aj,ao,aH,aM,aO,aN,hI⟩
   ·intro D aY c9 jL jo x7 x6 bV bW db du dv dw dx dy gM eI eo eJ dZ d4 w_
    rintro ⟨az,ay,aA,aB,aw,aD,aE,aI,aL,aP,aj,ao,aH,aM,aO,aN,hI⟩
    obtain rfl:=aE c9
    obtain rfl:=aI jL
    obtain rfl:=aw jo
    repeat (first|refine ad ?_|refine af (by decide) ?_|refine ab ?_|refine ai ?_|refine ah ?_)
    refine bh av hi ?_
    exact ⟨az,ay,aA,aB,aw,aD,aE,aI,fun _=>rfl,aP,aj,ao,aH,aM,aO,aN,hI⟩
   ·intro D aY iM dS x7 x6 bV bW db du dv dw dx dy gM eI eo eJ dZ d4 w_
    rintro ⟨az,ay,aA,aB,aw,aD,aE,aI,aL,aP,aj,ao,aH,aM,aO,aN,hI⟩
    obtain rfl:=aL iM
    obtain rfl:=aw dS
    repeat (first|refine ad ?_|refine af (by decide) ?_|refine ab ?_|refine ai ?_|refine ah ?_)
    refine cJ al hR.length (fun j v hj=>by rw [hI.cellS hS]; exact bl rfl j v hj) ?_
    exact ⟨az,ay,aA,aB,aw,aD,aE,aI,aL,fun _=>rfl,aj,ao,aH,aM,aO,aN,hI⟩
   ·intro D aY cK x7 x6 bV bW db du dv dw dx dy gM eI eo eJ dZ d4 w_
    rintro ⟨az,ay,aA,aB,aw,aD,aE,aI,aL,aP,aj,ao,aH,aM,aO,aN,hI⟩
    obtain rfl:=aw cK
    repeat (first|refine ad ?_|refine af (by decide) ?_|refine ab ?_|refine ai ?_|refine ah ?_)
    refine bb hI 0 al rfl (by simpa using hlc) ?_
    exact ⟨az,ay,aA,aB,aw,aD,aE,aI,aL,aP,fun _=>rfl,ao,aH,aM,aO,aN,hI⟩
   ·intro D aY dV fw Ac Kc Am x7 x6 bV bW db du dv dw dx dy gM eI eo eJ dZ d4 w_
    rintro ⟨az,ay,aA,aB,aw,aD,aE,aI,aL,aP,aj,ao,aH,aM,aO,aN,hI⟩
    obtain rfl:=aD dV
    obtain rfl:=aP fw
    obtain rfl:=aj Ac
    obtain rfl:=aw Kc
    repeat (first|refine ad ?_|refine af (by decide) ?_|refine ab ?_|refine ai ?_|refine ah ?_)
    refine Run.callVPure (cap:=[]) jP jE hI (lT _ _ S _ _ hR hcs hox ht) fun w_ hI=>?_
    exact ⟨az,ay,aA,aB,aw,aD,aE,aI,aL,aP,aj,fun _=>rfl,aH,aM,aO,aN,hI⟩
   ·intro D aY hZ dS x7 x6 bV bW db du dv dw dx dy gM eI eo eJ dZ d4 w_
    rintro ⟨az,ay,aA,aB,aw,aD,aE,aI,aL,aP,aj,ao,aH,aM,aO,aN,hI⟩
    obtain rfl:=ao hZ
    obtain rfl:=aw dS
    repeat (first|refine ad ?_|refine af (by decide) ?_|refine ab ?_|refine ai ?_|refine ah ?_)
    refine bR ?_
    rw [Nr hox ht]
    exact ⟨az,ay,aA,aB,aw,aD,aE,aI,aL,aP,aj,ao,fun _=>rfl,aM,aO,aN,hI⟩
   ·intro D aY cK Nd x7 x6 bV bW db du dv dw dx dy gM eI eo eJ dZ d4 w_
    rintro ⟨az,ay,aA,aB,aw,aD,aE,aI,aL,aP,aj,ao,aH,aM,aO,aN,hI⟩
    obtain rfl:=aw cK
    obtain rfl:=aH Nd
    repeat (first|refine ad ?_|refine af (by decide) ?_|refine ab ?_|refine ai ?_|refine ah ?_)
    exact ⟨az,ay,aA,aB,aw,aD,aE,aI,aL,aP,aj,ao,aH,fun _=>rfl,aO,aN,hI⟩
   ·intro D aY ce GC qK x7 x6 bV bW db du dv dw dx dy gM eI eo eJ dZ d4 w_
    rintro ⟨az,ay,aA,aB,aw,aD,aE,aI,aL,aP,aj,ao,aH,aM,aO,aN,hI⟩
    obtain rfl:=az ce
    exact ⟨az,ay,aA,aB,aw,aD,aE,aI,aL,aP,aj,ao,aH,aM,fun _=>rfl,aN,hI⟩
   ·intro D aY iq xC qK wn wF wJ vh Bl AA FC Dd Dm vQ z2 zZ D9 EP x7 x6 bV bW db du dv dw dx dy gM eI eo eJ dZ d4 w_
    rintro ⟨az,ay,aA,aB,aw,aD,aE,aI,aL,aP,aj,ao,aH,aM,aO,aN,hI⟩
    obtain rfl:=aM iq
    exact ⟨az,ay,aA,aB,aw,aD,aE,aI,aL,aP,aj,ao,aH,aM,aO,fun _=>rfl,hI⟩
   intro D nZ n4 oG jh ft fm iW gN f0 f1 fM fF fI fK fL fN x7 x6 bV bW db du dv dw dx dy gM eI eo eJ dZ d4 w_
   rintro ⟨az,ay,aA,aB,aw,aD,aE,aI,aL,aP,aj,ao,aH,aM,aO,aN,hI⟩
   obtain rfl:=aN nZ
   obtain rfl:=aO n4
   obtain rfl:=aM oG
   obtain rfl:=aH jh
   obtain rfl:=ao ft
   obtain rfl:=aj fm
   obtain rfl:=aP iW
   obtain rfl:=aL gN
   obtain rfl:=aI f0
   obtain rfl:=aE f1
   obtain rfl:=aD fM
   obtain rfl:=aw fF
   obtain rfl:=aB fI
   obtain rfl:=aA fK
   obtain rfl:=ay fL
   obtain rfl:=az fN
   clear az ay aA aB aw aD aE aI aL aP aj ao aH aM aO aN
   exact done hI rfl
  ·have hfb:r5 l t j=false:=dif_neg hi
   rw [hfb]
   refine ⟨fun D x7 x6 bV bW db du dv dw dx dy gM eI eo eJ dZ d4 w_=>(D 0=true->d4=.int .i64 j)/\(D 1=true->dZ=.int .i64 j)/\(D 2=true->eJ=.int .i64 l.length)/\(D 3=true->eo=.bool false)/\(D 4=true->eI=.bool false)/\(D 5=true->gM=undef)/\(D 6=true->dy=undef)/\(D 7=true->dx=undef)/\(D 8=true->dw=undef)/\(D 9=true->dv=undef)/\(D 10=true->du=undef)/\(D 11=true->db=undef)/\(D 12=true->bW=undef)/\(D 13=true->bV=.bool false)/\(D 14=true->x6=.int .i64 j)/\(D 15=true->x7=.bool false)/\Inv w [] [.blk b4 (.cells cs.toArray ac)] S w_,⟨ae,ae,ae,ae,ae,ae,ae,ae,ae,ae,ae,ae,ae,ae,ae,ae,hI.draw⟩,⟨?_,?_,?_,?_,?_,?_,?_,?_,?_,?_,?_,?_,?_,?_,?_,?_,trivial⟩,?_⟩
   ·intro D aY  x7 x6 bV bW db du dv dw dx dy gM eI eo eJ dZ d4 w_
    rintro ⟨az,ay,aA,aB,aw,aD,aE,aI,aL,aP,aj,ao,aH,aM,aO,aN,hI⟩
    exact ⟨fun _=>rfl,ay,aA,aB,aw,aD,aE,aI,aL,aP,aj,ao,aH,aM,aO,aN,hI⟩
   ·intro D aY  x7 x6 bV bW db du dv dw dx dy gM eI eo eJ dZ d4 w_
    rintro ⟨az,ay,aA,aB,aw,aD,aE,aI,aL,aP,aj,ao,aH,aM,aO,aN,hI⟩
    exact ⟨az,fun _=>rfl,aA,aB,aw,aD,aE,aI,aL,aP,aj,ao,aH,aM,aO,aN,hI⟩
   ·intro D aY  x7 x6 bV bW db du dv dw dx dy gM eI eo eJ dZ d4 w_
    rintro ⟨az,ay,aA,aB,aw,aD,aE,aI,aL,aP,aj,ao,aH,aM,aO,aN,hI⟩
    exact ⟨az,ay,fun _=>rfl,aB,aw,aD,aE,aI,aL,aP,aj,ao,aH,aM,aO,aN,hI⟩
   ·intro D aY dI gJ x7 x6 bV bW db du dv dw dx dy gM eI eo eJ dZ d4 w_
    rintro ⟨az,ay,aA,aB,aw,aD,aE,aI,aL,aP,aj,ao,aH,aM,aO,aN,hI⟩
    obtain rfl:=ay dI
    obtain rfl:=aA gJ
    refine bU ?_; rw [decide_eq_false (show ¬ (j:Int)<(l.length:Int) by omega)]
    exact ⟨az,ay,aA,fun _=>rfl,aw,aD,aE,aI,aL,aP,aj,ao,aH,aM,aO,aN,hI⟩
   ·intro D aY dF x7 x6 bV bW db du dv dw dx dy gM eI eo eJ dZ d4 w_
    rintro ⟨az,ay,aA,aB,aw,aD,aE,aI,aL,aP,aj,ao,aH,aM,aO,aN,hI⟩
    obtain rfl:=aB dF
    exact ⟨az,ay,aA,aB,fun _=>rfl,aD,aE,aI,aL,aP,aj,ao,aH,aM,aO,aN,hI⟩
   ·intro D aY cK x7 x6 bV bW db du dv dw dx dy gM eI eo eJ dZ d4 w_
    rintro ⟨az,ay,aA,aB,aw,aD,aE,aI,aL,aP,aj,ao,aH,aM,aO,aN,hI⟩
    obtain rfl:=aw cK
    repeat (first|refine ad ?_|refine af (by decide) ?_|refine ab ?_|refine ai ?_|refine ah ?_)
    exact ⟨az,ay,aA,aB,aw,fun _=>rfl,aE,aI,aL,aP,aj,ao,aH,aM,aO,aN,hI⟩
   ·intro D aY cK x7 x6 bV bW db du dv dw dx dy gM eI eo eJ dZ d4 w_
    rintro ⟨az,ay,aA,aB,aw,aD,aE,aI,aL,aP,aj,ao,aH,aM,aO,aN,hI⟩
    obtain rfl:=aw cK
    repeat (first|refine ad ?_|refine af (by decide) ?_|refine ab ?_|refine ai ?_|refine ah ?_)
    exact ⟨az,ay,aA,aB,aw,aD,fun _=>rfl,aI,aL,aP,aj,ao,aH,aM,aO,aN,hI⟩
   ·intro D aY cK x7 x6 bV bW db du dv dw dx dy gM eI eo eJ dZ d4 w_
    rintro ⟨az,ay,aA,aB,aw,aD,aE,aI,aL,aP,aj,ao,aH,aM,aO,aN,hI⟩
    obtain rfl:=aw cK
    repeat (first|refine ad ?_|refine af (by decide) ?_|refine ab ?_|refine ai ?_|refine ah ?_)
    exact ⟨az,ay,aA,aB,aw,aD,aE,fun _=>rfl,aL,aP,aj,ao,aH,aM,aO,aN,hI⟩
   ·intro D aY c9 jL jo x7 x6 bV bW db du dv dw dx dy gM eI eo eJ dZ d4 w_
    rintro ⟨az,ay,aA,aB,aw,aD,aE,aI,aL,aP,aj,ao,aH,aM,aO,aN,hI⟩
    obtain rfl:=aE c9
    obtain rfl:=aI jL
    obtain rfl:=aw jo
    repeat (first|refine ad ?_|refine af (by decide) ?_|refine ab ?_|refine ai ?_|refine ah ?_)
    exact ⟨az,ay,aA,aB,aw,aD,aE,aI,fun _=>rfl,aP,aj,ao,aH,aM,aO,aN,hI⟩
   ·intro D aY iM dS x7 x6 bV bW db du dv dw dx dy gM eI eo eJ dZ d4 w_
    rintro ⟨az,ay,aA,aB,aw,aD,aE,aI,aL,aP,aj,ao,aH,aM,aO,aN,hI⟩
    obtain rfl:=aL iM
    obtain rfl:=aw dS
    repeat (first|refine ad ?_|refine af (by decide) ?_|refine ab ?_|refine ai ?_|refine ah ?_)
    exact ⟨az,ay,aA,aB,aw,aD,aE,aI,aL,fun _=>rfl,aj,ao,aH,aM,aO,aN,hI⟩
   ·intro D aY cK x7 x6 bV bW db du dv dw dx dy gM eI eo eJ dZ d4 w_
    rintro ⟨az,ay,aA,aB,aw,aD,aE,aI,aL,aP,aj,ao,aH,aM,aO,aN,hI⟩
    obtain rfl:=aw cK
    repeat (first|refine ad ?_|refine af (by decide) ?_|refine ab ?_|refine ai ?_|refine ah ?_)
    exact ⟨az,ay,aA,aB,aw,aD,aE,aI,aL,aP,fun _=>rfl,ao,aH,aM,aO,aN,hI⟩
   ·intro D aY dV fw Ac Kc Am x7 x6 bV bW db du dv dw dx dy gM eI eo eJ dZ d4 w_
    rintro ⟨az,ay,aA,aB,aw,aD,aE,aI,aL,aP,aj,ao,aH,aM,aO,aN,hI⟩
    obtain rfl:=aD dV
    obtain rfl:=aP fw
    obtain rfl:=aj Ac
    obtain rfl:=aw Kc
    repeat (first|refine ad ?_|refine af (by decide) ?_|refine ab ?_|refine ai ?_|refine ah ?_)
    exact ⟨az,ay,aA,aB,aw,aD,aE,aI,aL,aP,aj,fun _=>rfl,aH,aM,aO,aN,hI⟩
   ·intro D aY hZ dS x7 x6 bV bW db du dv dw dx dy gM eI eo eJ dZ d4 w_
    rintro ⟨az,ay,aA,aB,aw,aD,aE,aI,aL,aP,aj,ao,aH,aM,aO,aN,hI⟩
    obtain rfl:=ao hZ
    obtain rfl:=aw dS
    repeat (first|refine ad ?_|refine af (by decide) ?_|refine ab ?_|refine ai ?_|refine ah ?_)
    exact ⟨az,ay,aA,aB,aw,aD,aE,aI,aL,aP,aj,ao,fun _=>rfl,aM,aO,aN,hI⟩
   ·intro D aY cK Nd x7 x6 bV bW db du dv dw dx dy gM eI eo eJ dZ d4 w_
    rintro ⟨az,ay,aA,aB,aw,aD,aE,aI,aL,aP,aj,ao,aH,aM,aO,aN,hI⟩
    obtain rfl:=aw cK
    obtain rfl:=aH Nd
    repeat (first|refine ad ?_|refine af (by decide) ?_|refine ab ?_|refine ai ?_|refine ah ?_)
    exact ⟨az,ay,aA,aB,aw,aD,aE,aI,aL,aP,aj,ao,aH,fun _=>rfl,aO,aN,hI⟩
   ·intro D aY ce GC qK x7 x6 bV bW db du dv dw dx dy gM eI eo eJ dZ d4 w_
    rintro ⟨az,ay,aA,aB,aw,aD,aE,aI,aL,aP,aj,ao,aH,aM,aO,aN,hI⟩
    obtain rfl:=az ce
    exact ⟨az,ay,aA,aB,aw,aD,aE,aI,aL,aP,aj,ao,aH,aM,fun _=>rfl,aN,hI⟩
   ·intro D aY iq xC qK wn wF wJ vh Bl AA FC Dd Dm vQ z2 zZ D9 EP x7 x6 bV bW db du dv dw dx dy gM eI eo eJ dZ d4 w_
    rintro ⟨az,ay,aA,aB,aw,aD,aE,aI,aL,aP,aj,ao,aH,aM,aO,aN,hI⟩
    obtain rfl:=aM iq
    exact ⟨az,ay,aA,aB,aw,aD,aE,aI,aL,aP,aj,ao,aH,aM,aO,fun _=>rfl,hI⟩
   intro D nZ n4 oG jh ft fm iW gN f0 f1 fM fF fI fK fL fN x7 x6 bV bW db du dv dw dx dy gM eI eo eJ dZ d4 w_
   rintro ⟨az,ay,aA,aB,aw,aD,aE,aI,aL,aP,aj,ao,aH,aM,aO,aN,hI⟩
   obtain rfl:=aN nZ
   obtain rfl:=aO n4
   obtain rfl:=aM oG
   obtain rfl:=aH jh
   obtain rfl:=ao ft
   obtain rfl:=aj fm
   obtain rfl:=aP iW
   obtain rfl:=aL gN
   obtain rfl:=aI f0
   obtain rfl:=aE f1
   obtain rfl:=aD fM
   obtain rfl:=aw fF
   obtain rfl:=aB fI
   obtain rfl:=aA fK
   obtain rfl:=ay fL
   obtain rfl:=az fN
   clear az ay aA aB aw aD aE aI aL aP aj ao aH aM aO aN
   exact done hI rfl
end

end Go.Proofs.YtemmhhdnlbmicaaGreat

/- spec.l16Has, l16Match, l16Full. -/
namespace Go.Proofs.YtemmhhdnlbmicaaGreat
open Go Go.RowKit
def HD (l:List T) (t:T):Bool:=l.any fun x=>eqT x t
def uG:T:=.mk 0 0 ⟨#[]⟩ []
def sw (st:bq) (n:Int):T:=match st[n.toNat]? with
 | some (some t)=>t
 | _=>uG
def iV (st:bq) (x:T):T:=if x.kind=1 then sw st x.n else x
def qM (g:T) (st:bq):T:=.mk g.kind 0 g.name (g.kids.map (iV st))
def stW (st:bq):Prop:=∀ t,some t∈st->wT t<=1048576
theorem NF (st:bq) (n:Int):sw st n=uG ∨ some (sw st n)∈st:=by
 rw [sw]
 split
 ·rename_i t h
  exact .inr (List.mem_of_getElem? h)
 ·exact .inl rfl
theorem OL:wT uG<=1048576:=by
 have:wT uG=0:=rfl
 omega
theorem NT {st:bq} (h:stW st) {ks:List T} {j:Nat} (hj:j<ks.length) (hw:wL ks<=1048576):wT (iV st ks[j])<=1048576:=by
 rw [iV]
 split
 ·rcases NF st ks[j].n with e|e
  ·rw [e]; exact OL
  ·exact h _ e
 ·have:=jn (List.getElem_mem hj)
  omega
theorem IH (st:bq) (ks:List T) (j:Nat) (h:j<ks.length):(ks.take (j+1)).map (iV st)=(ks.take j).map (iV st)++[iV st ks[j]]:=by
 rw [List.take_succ_eq_append_getElem h,List.map_append]; rfl
theorem RdT.zero (S:aF):RdT S qb uG:=RdT.iff.2 ⟨_,rfl,by simp [inI,T.kind,uG],by simp [inI,T.n,uG],by rw [uG,T.name]; decide +kernel,none,0,rfl,Nat.le_refl _,Nat.zero_le _,.inl rfl⟩
theorem KnownC.get {S:aF} {kc:Array Value} {st:bq} (h:KnownC S kc st) (hst:st.length=26) {j:Nat} (hj:j<26):RdT S (bv kc (j * 4) 4) (sw st j):=by
 obtain ⟨h1,h2⟩:=h.2 j (by omega)
 rw [sw,Int.toNat_natCast,List.getElem?_eq_getElem (show j<st.length by omega)]
 cases e:st[j] with
 | none=>
  rw [h1 e]
  exact RdT.zero S
 | some t=>exact h2 t e
/- what is known, as a row of optional terms -/
def KRel (S:aF) (cs:List Value) (o:Option T):Prop:=cs.length=4/\(o=none->cs=qb)/\∀ t,o=some t->RdT S cs t
theorem KRel.one {S:aF} {cs:List Value} {o:Option T} (h:KRel S cs o):∀ u∈cs,u.oneCell'=true:=by
 cases o with
 | none=>rw [h.2.1 rfl]; simp [qb,Value.oneCell']
 | some t=>exact (h.2.2 t rfl).one
theorem KnownC.rd {S:aF} {kb kp:Nat} {kc:Array Value} {st:bq} {E:TypeId} (hS:S kb=some (.cells kc E)) (h:KnownC S kc st) (hst:st.length=26) (hkp:26<=kp) (hkm:kp<=maxLen):RdSl S 4 (KRel S) (kvn kb kp) st:=by
 refine ⟨some ⟨kb,0,none⟩,kp,by rw [hst],by omega,hkm,.inr ⟨kb,0,kc,E,(0,0),rfl,hS,fun i hi=>?_⟩⟩
 obtain ⟨h1,h2⟩:=h.2 i hi
 rw [Nat.zero_add]
 refine ⟨?_,h1,h2⟩
 have:=h.1
 rw [bv,List.length_take,List.length_drop,Array.length_toList]
 omega
theorem KnownC.of_rows {S:aF} {cur:Array Value} {css:List (List Value)} {st:bq} (h:Rows 4 (KRel S) css st) (hst:st.length=26) {cap:Nat} (hcap:26<=cap) (hs:cur.size=cap * 4) (ht:cur.toList.take (css.length * 4)=css.flatten):KnownC S cur st:=by
 have hc:=h.hc
 refine ⟨by omega,fun i hi=>?_⟩
 have hi':i<css.length:=by omega
 have hfl:=kl 4 css i h.hk hi'
 have e:bv cur (i * 4) 4=css[i]:=by
  rw [<- hfl,<- ht,List.drop_take,List.take_take,Nat.min_eq_left (by omega)]
  rfl
 have hr:=h.hR i hi hi'
 rw [<- e] at hr
 exact ⟨hr.2.1,hr.2.2⟩
section
attribute [local irreducible] Run CondV ag be
abbrev PM (r:Bool × bq):Value->List Item->aF->Prop:=fun v I' S'=>I'=[]/\∃ kb kp kc,v=.tuple #[kvn kb kp,.bool r.1]/\26<=kp/\kp<=maxLen/\S' kb=some (.cells kc ac)/\KnownC S' kc r.2
theorem KnownC.mono {S S':aF} {kc:Array Value} {st:bq} (h:KnownC S kc st) (hs:Sle S S'):KnownC S' kc st:=
 ⟨h.1,fun i hi=>⟨(h.2 i hi).1,fun t ht=>((h.2 i hi).2 t ht).mono hs⟩⟩
theorem AB {g f:T} {S:aF} {cs ds:List Value} {kb kp:Nat} {kc:Array Value} {st:bq} (hg:RdT S cs g) (hf:RdT S ds f) (hv:okV g) (hk:okK f) (hst:vR st) (hkp:26<=kp) (hkm:kp<=maxLen)
  (hS:S kb=some (.cells kc ac)) (hkc:KnownC S kc st):Tri Tryz.prog FF [.agg cs.toArray,.agg ds.toArray,kvn kb kp] [] S (PM (bK g f st)):=by
 intro w hI
 have hlg:=hg.length
 have hlf:=hf.length
 refine wO ?_
 unfold ro
 refine bO hI fun b3 w' hI=>?_
 refine bO hI fun b4 w' hI=>?_
 refine fk hI bM fun v0 w' hI=>?_
 have hI:Inv w [] [.blk b3 (.cells cs.toArray ac),.blk b4 (.cells ds.toArray ac),bj v0 ac 4 []] S w':=hI
 have hrd:=hkc.rd hS hst.1 hkp hkm
 refine kr hI 2 (css:=[]) bM (by omega) rfl hrd (fun _ _ h=>h.1) (fun _ _=>KRel.one) (by simp [hst.1]) (by omega) fun v1 w' css hR hI=>?_
 have hI:Inv w [] ([.blk b3 (.cells cs.toArray ac),.blk b4 (.cells ds.toArray ac)]++[bj v1 ac 4 css]) S w':=by simpa using hI
 have hcl:css.length=26:=by rw [hR.hc]; exact hst.1
 obtain ⟨_,ho⟩:=hI.openRow
 rcases ho with ⟨_,h0⟩|⟨nb,cap,cur,rfl,hnc,hcm,hcs,ht,hI⟩
 ·omega
 rw [hcl] at hnc
 have hkc':=KnownC.of_rows hR hst.1 hnc hcs ht
 rw [hcl]
 refine bb hI 0 al rfl (by simpa using hlg) ?_
 refine bb hI 1 al rfl (by simpa using hlf) ?_
 refine Run.call (A:=[_,_]) sZ u7 hI (Cg cap _ _ S _ _ nb cur st hg hf hv hk hst hkc') fun v' I' S' w'=>?_
 rintro ⟨rfl,rfl,kc2,rfl,hk2⟩ _ hI
 obtain ⟨S',hI,hE,hins⟩:=Inv.pubExt (A:=[.blk b3 (.cells cs.toArray ac),.blk b4 (.cells ds.toArray ac)]) (L:=[(nb,.cells kc2 ac)]) hI
 exact ⟨_,_,_,rfl,hI.pick [false,false],hE,rfl,nb,cap,kc2,rfl,hnc,hcm,hins _ (List.mem_singleton.2 rfl),hk2.mono hE.1⟩
theorem B7 {g:T} {S:aF} {cs:List Value} {kb kp:Nat} {kc:Array Value} {st:bq} (hg:RdT S cs g) (hv:okV g) (hw:wT g<=1048576) (hst:vR st) (hsw:stW st)
  (hS:S kb=some (.cells kc ac)) (hkc:KnownC S kc st):Tri Tryz.prog Ij [.agg cs.toArray,kvn kb kp] [] S (GA S (qM g st)):=by
 intro w hI
 obtain ⟨kv,rfl,h1,h2,hs,hks⟩:=RdT.iff.1 hg
 obtain ⟨k,n,s,ks⟩:=g
 simp only [T.name,T.kids,T.kind,T.n] at h1 h2 hs hks ⊢
 simp only [wT] at hw
 rw [okV] at hv
 have hvk:=hv.2
 refine yK ?_
 unfold uE
 refine bO hI fun b2 w' hI=>?_
 obtain ⟨hI,hle⟩:=Inv.publishLast (L:=[]) hI
 have hb2:mP S b2 (.cells (Value.agg #[.int .i64 k,.int .i64 n,.string s,kv]).cells ac) b2=some (.cells #[.int .i64 k,.int .i64 n,.string s,kv] ac):=by simp [mP,Value.cells]
 generalize mP S b2 (.cells (Value.agg #[.int .i64 k,.int .i64 n,.string s,kv]).cells ac)=S1 at hI hle hb2
 have hks1:=hks.monoT hle
 have hS1:=hle _ _ hS
 have hkc1:=hkc.mono hle
 refine bH hI bN fun b4 w' hI=>?_
 refine bg bD ?_
 refine dM bn (by rw [hI.cellS hb2]; rfl) ?_
 refine bg bo ?_
 refine dM bm (by rw [hI.cellS hb2]; rfl) ?_
 have hb:∀ {K:Value->World->Prop} {w':World},K (.agg #[.int .i64 k,.int .i64 0,.string s,.slice none 0 0]) w'->Run Tryz.prog (dN ac [(0,.int .i64 k),(2,.string s)]) w' K:=by
  intro K w' hk
  refine Run.of (v:=.agg #[.int .i64 k,.int .i64 0,.string s,.slice none 0 0]) (w':=w') ?_ hk
  unfold dN
  rw [Sem.run_bind,run_build w' ac _ #[.int .i64 k,.int .i64 0,.string s,.slice none 0 0] (by kernel_rfl),Result.andThen_ok]
  rfl
 refine hb ?_
 refine bH hI bN fun b5 w' hI=>?_
 refine bf hI 1 rfl al rfl rfl (by simp [Value.oneCell']) fun w' hI=>?_
 have hI:=hI.rowNil ac 4
 refine ⟨fun i w'=>∃ (j:Nat) (kvc:Value) (Ls:List bG) (css:List (List Value)),j<=ks.length/\i=.int .i64 j/\Grown 4 TrT Ls css ((ks.take j).map (iV st))/\
   Inv w [] (.blk b4 (.cells #[.int .i64 0,.int .i64 0,.string ⟨#[]⟩,.slice none 0 0] ac)::.blk b5 (.cells #[.int .i64 k,.int .i64 0,.string s,kvc] ac)::bj kvc ac 4 css::bS Ls.flatten) S1 w',
  fun i _=>ks.length - (intOf i).toNat,⟨0,_,[],[],Nat.zero_le _,rfl,Grown.nil _ _,hI⟩,?_⟩
 intro t6 _ _ _ _ _ _ _ _ _ _ _ _ _ _ _ _ _ _ _ _ _ _ _ _ _ _ _ _ w'
 rintro ⟨j,kvc,Ls,css,hj,rfl,hg',hI⟩
 refine bg aS ?_
 refine dM aQ (by rw [hI.cellS hb2]; rfl) ?_
 refine a9 hks1 av ?_
 refine bU ?_
 refine bk (fun hji=>?_) (fun hji=>?_)
 ·have hj':j<ks.length:=by omega
  have hjl:(ks.take j).length=j:=by simp; omega
  have hcl:=hg'.hc
  rw [List.length_map] at hcl
  have hm:=List.getElem_mem hj'
  have hwm:=jn hm
  have hvj:=og hvk _ hm
  refine bg aS ?_
  refine dM aQ (by rw [hI.cellS hb2]; rfl) ?_
  refine ec hI hks1 av al hj' (fun _ _=>RdT.length) fun cs0 hcs0=>?_
  refine bH hI bN fun b7 w' hI=>?_
  have hI:=hI.perm (M:=.blk b7 _::(.blk b4 (.cells #[.int .i64 0,.int .i64 0,.string ⟨#[]⟩,.slice none 0 0] ac)::.blk b5 (.cells #[.int .i64 k,.int .i64 0,.string s,kvc] ac)::bj kvc ac 4 css::bS Ls.flatten)) (List.perm_append_comm (l₁:=[_]))
  refine bf hI 0 rfl al (by simpa using hcs0.length) rfl (by simpa using hcs0.one) fun w' hI=>?_
  refine ⟨fun w'=>∃ c7,RdT S1 c7 (iV st ks[j])/\Inv w [] (.blk b7 (.cells c7.toArray ac)::.blk b4 (.cells #[.int .i64 0,.int .i64 0,.string ⟨#[]⟩,.slice none 0 0] ac)::.blk b5 (.cells #[.int .i64 k,.int .i64 0,.string s,kvc] ac)::bj kvc ac 4 css::bS Ls.flatten) S1 w',?_,?_⟩
  ·obtain ⟨x0,hc0,_⟩:=RdT.iff.1 hcs0
   refine aJ hI 0 (u:=.int .i64 ks[j].kind) rfl bD bn (by rw [hc0]; rfl) ?_
   refine bR ?_
   refine bk (fun hk1=>?_) (fun hk1=>?_)
   ·have hvn:0<=ks[j].n/\ks[j].n<=25:=by
     have hx:=hvj
     generalize ks[j]=x at hx hk1
     cases x
     rw [okV] at hx
     exact hx.1 hk1
    obtain ⟨m,hm'⟩:∃ m:Nat,ks[j].n=m:=⟨ks[j].n.toNat,by omega⟩
    have hm26:m<26:=by omega
    have hget:=hkc1.get hst.1 hm26
    rw [iV,if_pos hk1,hm']
    refine aJ hI 0 (u:=.int .i64 ks[j].n) rfl bI bn (by rw [hc0]; rfl) ?_
    rw [hm']
    refine bh av hm26 ?_
    refine cJ (cs:=bv kc (m * 4) 4) al hget.length (fun i v hi=>by rw [hI.cellS hS1,Nat.zero_add]; exact bl rfl i v hi) ?_
    refine bf hI 0 rfl al (by simpa using hget.length) (by simpa using hcs0.length) (by simpa using hget.one) fun w' hI=>?_
    exact ⟨_,hget,hI⟩
   ·rw [iV,if_neg hk1]
    exact ⟨_,hcs0,hI⟩
  intro _ _ _ _ _ _ _ _ w'
  rintro ⟨c7,hc7,hI⟩
  refine ⟨fun D eI eo eJ dZ d4 ii ex w_=>(D 0=true->ex=.pointer (some ⟨b5,3,none⟩))/\(D 1=true->ii=kvc)/\(D 2=true->d4=.agg c7.toArray)/\(D 3=true->True)/\(D 4=true->True)/\(D 5=true->True)/\(D 6=true->eI=.pointer (some ⟨b5,3,none⟩))/\(D 7=true->True)/\∃ M cs7 b8,(D 3=true->dZ=.agg cs7.toArray/\TrT M cs7 (iV st ks[j]))/\(D 4=true->eJ=.slice (some ⟨b8,0,none⟩) 1 1)/\(D 4=true->D 3=true)/\(D 5=true->D 4=true)/\(D 7=true->D 5=true)/\(D 7=true->D 1=true)/\Inv w [] (bu (.blk b7 (.cells c7.toArray ac)) (.blk b4 (.cells #[.int .i64 0,.int .i64 0,.string ⟨#[]⟩,.slice none 0 0] ac)) (.blk b5 (.cells #[.int .i64 k,.int .i64 0,.string s,kvc] ac)) (.blk b5 (.cells #[.int .i64 k,.int .i64 0,.string s,eo] ac)) (bj kvc ac 4 css) (bj eo ac 4 (css++[cs7])) (bS Ls.flatten) M (.blk b8 (.cells cs7.toArray ac)) (D 3) (D 4) (D 5) (D 7)) S1 w_,⟨ae,ae,ae,ae,ae,ae,ae,ae,⟨[],[],0,ae,ae,ae,ae,ae,ae,by simpa [bu,bS] using hI.draw⟩⟩,⟨?_,?_,?_,?_,?_,?_,?_,?_,trivial⟩,?_⟩
  ·intro D aY  eI eo eJ dZ d4 ii ex w_
   rintro ⟨az,ay,aA,aB,aw,aD,aE,aI,⟨M,cs7,b8,e7,e8,k8,k9,k11,k1,hI⟩⟩
   refine bg aS ?_
   exact ⟨fun _=>rfl,ay,aA,aB,aw,aD,aE,aI,⟨M,cs7,b8,e7,e8,k8,k9,k11,k1,hI⟩⟩
  ·intro D aY ce eI eo eJ dZ d4 ii ex w_
   rintro ⟨az,ay,aA,aB,aw,aD,aE,aI,⟨M,cs7,b8,e7,e8,k8,k9,k11,k1,hI⟩⟩
   obtain rfl:=az ce
   have f11:D 7=false:=Bool.eq_false_iff.2 fun h=>by rw [k1 h] at aY; cases aY
   refine bE (b:=b5) hI 2 (c:=(#[.int .i64 k,.int .i64 0,.string s,kvc])) aQ (by rw [f11]; rfl) rfl ?_
   have k1:=fun (_:aC D 1 7=true)=>(rfl:aC D 1 1=true)
   exact ⟨az,fun _=>rfl,aA,aB,aw,aD,aE,aI,⟨M,cs7,b8,e7,e8,k8,k9,k11,k1,hI⟩⟩
  ·intro D aY  eI eo eJ dZ d4 ii ex w_
   rintro ⟨az,ay,aA,aB,aw,aD,aE,aI,⟨M,cs7,b8,e7,e8,k8,k9,k11,k1,hI⟩⟩
   refine bb hI 0 al rfl (by simpa using hc7.length) ?_
   exact ⟨az,ay,fun _=>rfl,aB,aw,aD,aE,aI,⟨M,cs7,b8,e7,e8,k8,k9,k11,k1,hI⟩⟩
  ·intro D aY ev eI eo eJ dZ d4 ii ex w_
   rintro ⟨az,ay,aA,aB,aw,aD,aE,aI,⟨M,cs7,b8,e7,e8,k8,k9,k11,k1,hI⟩⟩
   obtain rfl:=aA ev
   have f8:D 4=false:=Bool.eq_false_iff.2 fun h=>by rw [k8 h] at aY; cases aY
   have f9:D 5=false:=Bool.eq_false_iff.2 fun h=>by rw [k9 h] at f8; cases f8
   have f11:D 7=false:=Bool.eq_false_iff.2 fun h=>by rw [k11 h] at f9; cases f9
   rw [aY,f8,f9,f11] at hI
   refine Run.call0 fi fj hI (fT _ S1 _ hc7 (NT hsw hj' (by omega))) fun v' I' S1 w_=>?_
   rintro ⟨rfl,cs7,M,rfl,rfl,hT⟩ _ hI
   have e7:aC D 3 3=true->Value.agg cs7.toArray=Value.agg cs7.toArray/\TrT M cs7 (iV st ks[j]):=fun _=>⟨rfl,hT⟩
   have k8:=fun (_:aC D 3 4=true)=>(rfl:aC D 3 3=true)
   have hI:Inv w [] (bu (.blk b7 (.cells c7.toArray ac)) (.blk b4 (.cells #[.int .i64 0,.int .i64 0,.string ⟨#[]⟩,.slice none 0 0] ac)) (.blk b5 (.cells #[.int .i64 k,.int .i64 0,.string s,kvc] ac)) (.blk b5 (.cells #[.int .i64 k,.int .i64 0,.string s,eo] ac)) (bj kvc ac 4 css) (bj eo ac 4 (css++[cs7])) (bS Ls.flatten) M (.blk b8 (.cells cs7.toArray ac)) true (D 4) (D 5) (D 7)) S1 w_:=by
    rw [f8,f9,f11]
    simpa [bu] using hI
   exact ⟨az,ay,aA,fun _=>by first|assumption|trivial,aw,aD,aE,aI,⟨M,cs7,b8,e7,e8,k8,k9,k11,k1,hI⟩⟩
  ·intro D aY dF eI eo eJ dZ d4 ii ex w_
   rintro ⟨az,ay,aA,aB,aw,aD,aE,aI,⟨M,cs7,b8,e7,e8,k8,k9,k11,k1,hI⟩⟩
   have Rp:=aB dF
   have f9:D 5=false:=Bool.eq_false_iff.2 fun h=>by rw [k9 h] at aY; cases aY
   have f11:D 7=false:=Bool.eq_false_iff.2 fun h=>by rw [k11 h] at f9; cases f9
   obtain ⟨q7,hT⟩:=e7 dF
   subst q7
   rw [dF,aY,f9,f11] at hI
   refine fl hI bM (by simp [Value.cells,hT.length]) (by omega) (by omega) fun b8 w_ hI=>?_
   have e7:aC D 4 3=true->Value.agg cs7.toArray=Value.agg cs7.toArray/\TrT M cs7 (iV st ks[j]):=fun _=>⟨rfl,hT⟩
   have e8:=fun (_:aC D 4 4=true)=>(rfl:Value.slice (some ⟨b8,0,none⟩) 1 1=_)
   have k8:=fun (_:aC D 4 4=true)=>dF
   have k9:=fun (_:aC D 4 5=true)=>(rfl:aC D 4 4=true)
   have hI:Inv w [] (bu (.blk b7 (.cells c7.toArray ac)) (.blk b4 (.cells #[.int .i64 0,.int .i64 0,.string ⟨#[]⟩,.slice none 0 0] ac)) (.blk b5 (.cells #[.int .i64 k,.int .i64 0,.string s,kvc] ac)) (.blk b5 (.cells #[.int .i64 k,.int .i64 0,.string s,eo] ac)) (bj kvc ac 4 css) (bj eo ac 4 (css++[cs7])) (bS Ls.flatten) M (.blk b8 (.cells cs7.toArray ac)) (D 3) true (D 5) (D 7)) S1 w_:=by
    rw [dF,f9,f11]
    simpa [bu,Value.cells] using hI
   exact ⟨az,ay,aA,aB,fun _=>by first|assumption|trivial,aD,aE,aI,⟨M,cs7,b8,e7,e8,k8,k9,k11,k1,hI⟩⟩
  ·intro D aY dI dS Oc eI eo eJ dZ d4 ii ex w_
   rintro ⟨az,ay,aA,aB,aw,aD,aE,aI,⟨M,cs7,b8,e7,e8,k8,k9,k11,k1,hI⟩⟩
   obtain rfl:=ay dI
   have PF:=aw dS
   have f11:D 7=false:=Bool.eq_false_iff.2 fun h=>by rw [k11 h] at aY; cases aY
   have q8:=e8 dS
   subst q8
   obtain ⟨_,hT⟩:=e7 Oc
   rw [Oc,dS,aY,f11] at hI
   have hblk:((bu (.blk b7 (.cells c7.toArray ac)) (.blk b4 (.cells #[.int .i64 0,.int .i64 0,.string ⟨#[]⟩,.slice none 0 0] ac)) (.blk b5 (.cells #[.int .i64 k,.int .i64 0,.string s,ii] ac)) (.blk b5 (.cells #[.int .i64 k,.int .i64 0,.string s,eo] ac)) (bj ii ac 4 css) (bj eo ac 4 (css++[cs7])) (bS Ls.flatten) M (.blk b8 (.cells cs7.toArray ac)) true true false false))[4+(bS Ls.flatten).length+(bS M).length]?=some (.blk b8 (.cells cs7.toArray ac)):=by
    have e4:4+(bS Ls.flatten).length+(bS M).length=((bS Ls.flatten).length+(bS M).length)+1+1+1+1:=by omega
    rw [e4]
    simp only [bu,List.getElem?_cons_succ]
    rw [List.getElem?_append_right (by omega),Nat.add_sub_cancel_left,List.getElem?_append_right (Nat.le_refl _),Nat.sub_self]; rfl
   refine fE hI 3 cs7 bM (by omega) rfl (by rw [hT.length]) (m:=1) (o:=0) ?_ hT.one (by omega) (by omega) fun v' w_ hI=>?_
   ·intro i u hi
    rw [hI.cellL hblk,Nat.zero_add]
    simpa using hi
   rw [ge] at hI
   have k9:=fun (_:aC D 5 5=true)=>dS
   have k11:=fun (_:aC D 5 7=true)=>(rfl:aC D 5 5=true)
   have hI:Inv w [] (bu (.blk b7 (.cells c7.toArray ac)) (.blk b4 (.cells #[.int .i64 0,.int .i64 0,.string ⟨#[]⟩,.slice none 0 0] ac)) (.blk b5 (.cells #[.int .i64 k,.int .i64 0,.string s,ii] ac)) (.blk b5 (.cells #[.int .i64 k,.int .i64 0,.string s,v'] ac)) (bj ii ac 4 css) (bj v' ac 4 (css++[cs7])) (bS Ls.flatten) M (.blk b8 (.cells cs7.toArray ac)) (D 3) (D 4) true (D 7)) S1 w_:=by
    rw [Oc,dS,f11]
    exact hI
   exact ⟨az,ay,aA,aB,aw,fun _=>by first|assumption|trivial,aE,aI,⟨M,cs7,b8,e7,e8,k8,k9,k11,k1,hI⟩⟩
  ·intro D aY ce iL A8 EL Am Jm eI eo eJ dZ d4 ii ex w_
   rintro ⟨az,ay,aA,aB,aw,aD,aE,aI,⟨M,cs7,b8,e7,e8,k8,k9,k11,k1,hI⟩⟩
   refine bg aS ?_
   exact ⟨az,ay,aA,aB,aw,aD,fun _=>rfl,aI,⟨M,cs7,b8,e7,e8,k8,k9,k11,k1,hI⟩⟩
  ·intro D aY c9 jk MG FI m0 Ei zB Bi EW eI eo eJ dZ d4 ii ex w_
   rintro ⟨az,ay,aA,aB,aw,aD,aE,aI,⟨M,cs7,b8,e7,e8,k8,k9,k11,k1,hI⟩⟩
   obtain rfl:=aE c9
   have PE:=aD jk
   rw [zB,Bi,jk,aY] at hI
   obtain ⟨va,vn,vc,hv9⟩:=Inv.rowSlice hI 3 rfl
   refine eq hI 2 (n:=1) (by rw [hv9]; rfl) (by decide +kernel) rfl (by simp) (by rw [hv9]; simp [Value.cells,Value.oneCell']) fun w_ hI=>?_
   have hcl9:Value.cells eo=#[eo]:=by rw [hv9]; rfl
   rw [hcl9] at hI
   have k1:=fun (_:aC D 7 7=true)=>m0
   have k11:=fun (_:aC D 7 7=true)=>jk
   have hI:Inv w [] (bu (.blk b7 (.cells c7.toArray ac)) (.blk b4 (.cells #[.int .i64 0,.int .i64 0,.string ⟨#[]⟩,.slice none 0 0] ac)) (.blk b5 (.cells #[.int .i64 k,.int .i64 0,.string s,kvc] ac)) (.blk b5 (.cells #[.int .i64 k,.int .i64 0,.string s,eo] ac)) (bj kvc ac 4 css) (bj eo ac 4 (css++[cs7])) (bS Ls.flatten) M (.blk b8 (.cells cs7.toArray ac)) (D 3) (D 4) (D 5) true) S1 w_:=by
    rw [zB,Bi,jk]
    exact hI
   exact ⟨az,ay,aA,aB,aw,aD,aE,fun _=>trivial,⟨M,cs7,b8,e7,e8,k8,k9,k11,k1,hI⟩⟩
  intro D f0 f1 fM fF fI fK fL fN eI eo eJ dZ d4 ii ex w_
  rintro ⟨az,ay,aA,aB,aw,aD,aE,aI,⟨M,cs7,b8,e7,e8,k8,k9,k11,k1,hI⟩⟩
  obtain rfl:=aE f1
  have PE:=aD fM
  have PF:=aw fF
  have Rp:=aB fI
  obtain rfl:=aA fK
  obtain rfl:=ay fL
  obtain rfl:=az fN
  clear az ay aA aB aw aD aE aI
  obtain ⟨_,hT⟩:=e7 fI
  rw [fI,fF,fM,f0] at hI
  refine bP (by omega) ?_
  refine ⟨⟨j+1,eo,Ls++[M],css++[cs7],hj',rfl,?_,?_⟩,by simp [intOf]; omega⟩
  ·rw [IH st ks j hj']
   exact hg'.snoc hT hT.length
  ·simp only [List.flatten_append,List.flatten_cons,List.flatten_nil,List.append_nil,ff]
   refine hI.sub ?_
   simp only [bu]
   rw [<- List.append_assoc]
   exact ((((List.sublist_append_left _ _).cons_cons _).cons_cons _).cons_cons _).cons _
 ·have:j=ks.length:=by omega
  subst this
  rw [List.take_length] at hg'
  obtain ⟨va,vn,vc,hvk'⟩:=hI.rowSlice 2 rfl
  have hv1:kvc.oneCell'=true:=by rw [hvk']; rfl
  refine bb hI 1 al rfl rfl ?_
  refine bf hI 0 rfl al rfl rfl ?_ fun w' hI=>?_
  ·intro u hu
   have hu':u∈([.int .i64 k,.int .i64 0,.string s,kvc]:List Value):=hu
   simp at hu'
   rcases hu' with rfl|rfl|rfl|rfl <;> first|rfl|exact hv1
  refine cH hI 0 al rfl rfl ?_
  have hI:Inv w [] ([]++(bj kvc ac 4 css::bS Ls.flatten)) S1 w':=hI.sub (List.sublist_append_right [_,_] _)
  obtain ⟨L,hT,hI⟩:=Inv.rowTree hI hg'
  exact ⟨_,_,_,rfl,hI.less hle,Ext.refl _ _ _,rfl,_,L,rfl,rfl,TrT.iff.2 ⟨kvc,rfl,h1,by simp [inI,qM,T.n],hs,hT⟩⟩
end

end Go.Proofs.YtemmhhdnlbmicaaGreat

/- impl.mapVars with a function that only reads: the result is published. -/
namespace Go.Proofs.YtemmhhdnlbmicaaGreat
open Go Go.RowKit
mutual
def Bu (φ:Int->T):T->T
 | .mk k n s ks=>if k=1 then φ n else .mk k n s (wY φ ks)
def wY (φ:Int->T):List T->List T
 | []=>[]
 | t::ts=>Bu φ t::wY φ ts
end
theorem l7 (φ:Int->T):∀ ts:List T,wY φ ts=ts.map (Bu φ)
 | []=>rfl
 | t::ts=>by rw [wY,l7 φ ts]; rfl
theorem K0 (φ:Int->T) (ks:List T) (j:Nat) (h:j<ks.length):wY φ (ks.take (j+1))=wY φ (ks.take j)++[Bu φ ks[j]]:=by
 rw [l7,l7,List.take_succ_eq_append_getElem h,List.map_append]; rfl
/- a function from numbers to terms that only reads -/
def Fun (f:FuncId) (cap:List Value) (S:aF) (φ:Int->T):Prop:=∀ S',Sle S S'->∀ n:Int,0<=n->n<=25->∃ cs,RdT S' cs (φ n)/\Pure Tryz.prog f (.int .i64 n::cap) S' (.agg cs.toArray)
theorem Fun.mono {f:FuncId} {cap:List Value} {S S':aF} {φ:Int->T} (h:Fun f cap S φ) (hs:Sle S S'):Fun f cap S' φ:=fun S2 h2=>h S2 (hs.trans h2)
abbrev P5 (t:T):Value->List Item->aF->Prop:=fun v I' S'=>I'=[]/\∃ cs,v=.agg cs.toArray/\RdT S' cs t
section
attribute [local irreducible] Run CondV ag be
theorem Js {f:FuncId} {fn:Func} (cap:List Value) (φ:Int->T) (hf:Tryz.prog.funcs[f]?=some fn) (hn:(fn.name == "runtime.NumGoroutine" || fn.body.isNone)=false) :
  ∀ (t:T) (S:aF) (cs:List Value),RdT S cs t->okV t->wT t<=1048576->Fun f cap S φ->Tri Tryz.prog GL [.agg cs.toArray,fv f cap] [] S (P5 (Bu φ t)):=by
 refine T.ind fun k n s ks ih S cs h hv hw hφ=>?_
 intro w hI
 obtain ⟨kv,rfl,h1,h2,hs,hks⟩:=RdT.iff.1 h
 simp only [T.name,T.kids,T.kind,T.n] at h1 h2 hs hks ⊢
 simp only [wT] at hw
 rw [okV] at hv
 have hvk:=hv.2
 refine y3 ?_
 unfold tN
 refine bO hI fun b2 w' hI=>?_
 refine bH hI bN fun b4 w' hI=>?_
 refine aJ hI 0 rfl bD bn rfl ?_
 refine bR ?_
 rw [Bu]
 refine bk (fun hk1=>?_) (fun hk1=>?_)
 ·rw [if_pos hk1]
  obtain ⟨hn0,hn25⟩:=hv.1 hk1
  refine aJ hI 0 rfl bI bn rfl ?_
  obtain ⟨ds,hds,hp⟩:=hφ S (Sle.refl S) n hn0 hn25
  refine Run.callVPure hf hn hI hp fun w' hI=>?_
  refine bf hI 1 rfl al (by simpa using hds.length) rfl (by simpa using hds.one) fun w' hI=>?_
  refine cH hI 1 al rfl (by simpa using hds.length) ?_
  exact ⟨_,_,_,rfl,hI.pick [false,false],Ext.refl _ _ _,rfl,ds,rfl,hds⟩
 rw [if_neg hk1]
 refine aJ hI 0 rfl aS aQ rfl ?_
 refine j0 hI 0 rfl aS aQ rfl rfl rfl fun w' hI=>?_
 refine a9 hks av ?_
 have hI:Inv w [] [.blk b4 (.cells #[.int .i64 0,.int .i64 0,.string ⟨#[]⟩,.slice none 0 0] ac),.blk b2 (.cells #[.int .i64 k,.int .i64 n,.string s,.slice none 0 0] ac)] S w':=hI.perm (List.Perm.swap _ _ _)
 have hI:=hI.rowNil ac 4
 refine ⟨fun i w'=>∃ (j:Nat) (kvc:Value) (css:List (List Value)) (S1:aF),j<=ks.length/\i=.int .i64 j/\Ext w.heap.size [] S S1/\Rows 4 (RdT S1) css (wY φ (ks.take j))/\
   Inv w [] [.blk b4 (.cells #[.int .i64 0,.int .i64 0,.string ⟨#[]⟩,.slice none 0 0] ac),.blk b2 (.cells #[.int .i64 k,.int .i64 n,.string s,kvc] ac),bj kvc ac 4 css] S1 w',
  fun i _=>ks.length - (intOf i).toNat,⟨0,_,[],S,Nat.zero_le _,rfl,Ext.refl _ _ _,Rows.nil _ _,hI⟩,?_⟩
 intro t20 _ _ _ _ _ _ _ _ _ _ _ _ _ w'
 rintro ⟨j,kvc,css,S1,hj,rfl,hE,hg,hI⟩
 refine bU ?_
 refine bk (fun hji=>?_) (fun hji=>?_)
 ·have hj':j<ks.length:=by omega
  have hjl:(ks.take j).length=j:=by simp; omega
  have hcl:=hg.hc
  rw [l7,List.length_map] at hcl
  have hm:=List.getElem_mem hj'
  have hwm:=jn hm
  refine ec hI (hks.monoT hE.1) av al hj' (fun _ _=>RdT.length) fun cs0 hcs0=>?_
  refine bH hI bN fun b7 w' hI=>?_
  have hI:=hI.perm (M:=.blk b7 _::[.blk b4 (.cells #[.int .i64 0,.int .i64 0,.string ⟨#[]⟩,.slice none 0 0] ac),.blk b2 (.cells #[.int .i64 k,.int .i64 n,.string s,kvc] ac),bj kvc ac 4 css]) (List.perm_append_comm (l₁:=[_]))
  refine bf hI 0 rfl al (by simpa using hcs0.length) rfl (by simpa using hcs0.one) fun w' hI=>?_
  refine ⟨fun D ed dP dA cT dg b0 bT bX w_=>(D 0=true->bX=.pointer (some ⟨b2,3,none⟩))/\(D 1=true->bT=kvc)/\(D 2=true->b0=.agg cs0.toArray)/\(D 3=true->dg=fv f cap)/\(D 4=true->True)/\(D 5=true->True)/\(D 6=true->True)/\(D 7=true->ed=.pointer (some ⟨b2,3,none⟩))/\(D 8=true->True)/\∃ SN cs7 b8,Ext w.heap.size [] S1 SN/\(D 4=true->cT=.agg cs7.toArray/\RdT SN cs7 (Bu φ ks[j]))/\(D 5=true->dA=.slice (some ⟨b8,0,none⟩) 1 1)/\(D 5=true->D 4=true)/\(D 6=true->D 5=true)/\(D 8=true->D 6=true)/\(D 8=true->D 1=true)/\Inv w [] (bu (.blk b7 (.cells cs0.toArray ac)) (.blk b4 (.cells #[.int .i64 0,.int .i64 0,.string ⟨#[]⟩,.slice none 0 0] ac)) (.blk b2 (.cells #[.int .i64 k,.int .i64 n,.string s,kvc] ac)) (.blk b2 (.cells #[.int .i64 k,.int .i64 n,.string s,dP] ac)) (bj kvc ac 4 css) (bj dP ac 4 (css++[cs7])) [] [] (.blk b8 (.cells cs7.toArray ac)) false (D 5) (D 6) (D 8)) SN w_,⟨ae,ae,ae,ae,ae,ae,ae,ae,ae,⟨S1,[],0,Ext.refl _ _ _,ae,ae,ae,ae,ae,ae,by simpa [bu] using hI.draw⟩⟩,⟨?_,?_,?_,?_,?_,?_,?_,?_,?_,trivial⟩,?_⟩
  ·intro D aY  ed dP dA cT dg b0 bT bX w_
   rintro ⟨az,ay,aA,aB,aw,aD,aE,aI,aL,⟨SN,cs7,b8,hN,e7,e8,k8,k9,k11,k1,hI⟩⟩
   refine bg aS ?_
   exact ⟨fun _=>rfl,ay,aA,aB,aw,aD,aE,aI,aL,⟨SN,cs7,b8,hN,e7,e8,k8,k9,k11,k1,hI⟩⟩
  ·intro D aY ce ed dP dA cT dg b0 bT bX w_
   rintro ⟨az,ay,aA,aB,aw,aD,aE,aI,aL,⟨SN,cs7,b8,hN,e7,e8,k8,k9,k11,k1,hI⟩⟩
   obtain rfl:=az ce
   have f11:D 8=false:=Bool.eq_false_iff.2 fun h=>by rw [k1 h] at aY; cases aY
   refine bE (b:=b2) hI 2 (c:=(#[.int .i64 k,.int .i64 n,.string s,kvc])) aQ (by rw [f11]; rfl) rfl ?_
   have k1:=fun (_:aC D 1 8=true)=>(rfl:aC D 1 1=true)
   exact ⟨az,fun _=>rfl,aA,aB,aw,aD,aE,aI,aL,⟨SN,cs7,b8,hN,e7,e8,k8,k9,k11,k1,hI⟩⟩
  ·intro D aY  ed dP dA cT dg b0 bT bX w_
   rintro ⟨az,ay,aA,aB,aw,aD,aE,aI,aL,⟨SN,cs7,b8,hN,e7,e8,k8,k9,k11,k1,hI⟩⟩
   refine bb hI 0 al rfl (by simpa using hcs0.length) ?_
   exact ⟨az,ay,fun _=>rfl,aB,aw,aD,aE,aI,aL,⟨SN,cs7,b8,hN,e7,e8,k8,k9,k11,k1,hI⟩⟩
  ·intro D aY  ed dP dA cT dg b0 bT bX w_
   rintro ⟨az,ay,aA,aB,aw,aD,aE,aI,aL,⟨SN,cs7,b8,hN,e7,e8,k8,k9,k11,k1,hI⟩⟩
   exact ⟨az,ay,aA,fun _=>rfl,aw,aD,aE,aI,aL,⟨SN,cs7,b8,hN,e7,e8,k8,k9,k11,k1,hI⟩⟩
  ·intro D aY ev nl ed dP dA cT dg b0 bT bX w_
   rintro ⟨az,ay,aA,aB,aw,aD,aE,aI,aL,⟨SN,cs7,b8,hN,e7,e8,k8,k9,k11,k1,hI⟩⟩
   obtain rfl:=aA ev
   obtain rfl:=aB nl
   have f8:D 5=false:=Bool.eq_false_iff.2 fun h=>by rw [k8 h] at aY; cases aY
   have f9:D 6=false:=Bool.eq_false_iff.2 fun h=>by rw [k9 h] at f8; cases f8
   have f11:D 8=false:=Bool.eq_false_iff.2 fun h=>by rw [k11 h] at f9; cases f9
   rw [f8,f9,f11] at hI
   refine Run.callE (I:=[]) tD ta (by simpa using hI) (ih _ (List.getElem_mem hj') SN cs0 (hcs0.mono hN.1) (og hvk _ (List.getElem_mem hj')) (by omega) ((hφ.mono hE.1).mono hN.1)) fun v' I' SN w_=>?_
   rintro ⟨rfl,cs7,rfl,hT⟩ hE2 hI
   have hN:=hN.trans hE2
   have e7:aC D 4 4=true->Value.agg cs7.toArray=Value.agg cs7.toArray/\RdT SN cs7 (Bu φ ks[j]):=fun _=>⟨rfl,hT⟩
   have k8:=fun (_:aC D 4 5=true)=>(rfl:aC D 4 4=true)
   have hI:Inv w [] (bu (.blk b7 (.cells cs0.toArray ac)) (.blk b4 (.cells #[.int .i64 0,.int .i64 0,.string ⟨#[]⟩,.slice none 0 0] ac)) (.blk b2 (.cells #[.int .i64 k,.int .i64 n,.string s,kvc] ac)) (.blk b2 (.cells #[.int .i64 k,.int .i64 n,.string s,dP] ac)) (bj kvc ac 4 css) (bj dP ac 4 (css++[cs7])) [] [] (.blk b8 (.cells cs7.toArray ac)) false (D 5) (D 6) (D 8)) SN w_:=by
    rw [f8,f9,f11]
    simpa [bu] using hI
   exact ⟨az,ay,aA,aB,fun _=>by first|assumption|trivial,aD,aE,aI,aL,⟨SN,cs7,b8,hN,e7,e8,k8,k9,k11,k1,hI⟩⟩
  ·intro D aY cK ed dP dA cT dg b0 bT bX w_
   rintro ⟨az,ay,aA,aB,aw,aD,aE,aI,aL,⟨SN,cs7,b8,hN,e7,e8,k8,k9,k11,k1,hI⟩⟩
   have PF:=aw cK
   have f9:D 6=false:=Bool.eq_false_iff.2 fun h=>by rw [k9 h] at aY; cases aY
   have f11:D 8=false:=Bool.eq_false_iff.2 fun h=>by rw [k11 h] at f9; cases f9
   obtain ⟨q7,hT⟩:=e7 cK
   subst q7
   rw [aY,f9,f11] at hI
   refine fl hI bM (by simp [Value.cells,hT.length]) (by omega) (by omega) fun b8 w_ hI=>?_
   have e7:aC D 5 4=true->Value.agg cs7.toArray=Value.agg cs7.toArray/\RdT SN cs7 (Bu φ ks[j]):=fun _=>⟨rfl,hT⟩
   have e8:=fun (_:aC D 5 5=true)=>(rfl:Value.slice (some ⟨b8,0,none⟩) 1 1=_)
   have k8:=fun (_:aC D 5 5=true)=>cK
   have k9:=fun (_:aC D 5 6=true)=>(rfl:aC D 5 5=true)
   have hI:Inv w [] (bu (.blk b7 (.cells cs0.toArray ac)) (.blk b4 (.cells #[.int .i64 0,.int .i64 0,.string ⟨#[]⟩,.slice none 0 0] ac)) (.blk b2 (.cells #[.int .i64 k,.int .i64 n,.string s,kvc] ac)) (.blk b2 (.cells #[.int .i64 k,.int .i64 n,.string s,dP] ac)) (bj kvc ac 4 css) (bj dP ac 4 (css++[cs7])) [] [] (.blk b8 (.cells cs7.toArray ac)) false true (D 6) (D 8)) SN w_:=by
    rw [f9,f11]
    simpa [bu,Value.cells] using hI
   exact ⟨az,ay,aA,aB,aw,fun _=>by first|assumption|trivial,aE,aI,aL,⟨SN,cs7,b8,hN,e7,e8,k8,k9,k11,k1,hI⟩⟩
  ·intro D aY dI jk jo ed dP dA cT dg b0 bT bX w_
   rintro ⟨az,ay,aA,aB,aw,aD,aE,aI,aL,⟨SN,cs7,b8,hN,e7,e8,k8,k9,k11,k1,hI⟩⟩
   obtain rfl:=ay dI
   have PE:=aD jk
   have f11:D 8=false:=Bool.eq_false_iff.2 fun h=>by rw [k11 h] at aY; cases aY
   have q8:=e8 jk
   subst q8
   obtain ⟨_,hT⟩:=e7 jo
   rw [jk,aY,f11] at hI
   have hblk:((bu (.blk b7 (.cells cs0.toArray ac)) (.blk b4 (.cells #[.int .i64 0,.int .i64 0,.string ⟨#[]⟩,.slice none 0 0] ac)) (.blk b2 (.cells #[.int .i64 k,.int .i64 n,.string s,bT] ac)) (.blk b2 (.cells #[.int .i64 k,.int .i64 n,.string s,dP] ac)) (bj bT ac 4 css) (bj dP ac 4 (css++[cs7])) [] [] (.blk b8 (.cells cs7.toArray ac)) false true false false))[4]?=some (.blk b8 (.cells cs7.toArray ac)):=rfl
   refine fE hI 3 cs7 bM (by omega) rfl (by rw [hT.length]) (m:=1) (o:=0) ?_ hT.one (by omega) (by omega) fun v' w_ hI=>?_
   ·intro i u hi
    rw [hI.cellL hblk,Nat.zero_add]
    simpa using hi
   rw [ge] at hI
   have k9:=fun (_:aC D 6 6=true)=>jk
   have k11:=fun (_:aC D 6 8=true)=>(rfl:aC D 6 6=true)
   have hI:Inv w [] (bu (.blk b7 (.cells cs0.toArray ac)) (.blk b4 (.cells #[.int .i64 0,.int .i64 0,.string ⟨#[]⟩,.slice none 0 0] ac)) (.blk b2 (.cells #[.int .i64 k,.int .i64 n,.string s,bT] ac)) (.blk b2 (.cells #[.int .i64 k,.int .i64 n,.string s,v'] ac)) (bj bT ac 4 css) (bj v' ac 4 (css++[cs7])) [] [] (.blk b8 (.cells cs7.toArray ac)) false (D 5) true (D 8)) SN w_:=by
    rw [jk,f11]
    exact hI
   exact ⟨az,ay,aA,aB,aw,aD,fun _=>by first|assumption|trivial,aI,aL,⟨SN,cs7,b8,hN,e7,e8,k8,k9,k11,k1,hI⟩⟩
  ·intro D aY ce iL A8 EL Am Jm LM ed dP dA cT dg b0 bT bX w_
   rintro ⟨az,ay,aA,aB,aw,aD,aE,aI,aL,⟨SN,cs7,b8,hN,e7,e8,k8,k9,k11,k1,hI⟩⟩
   refine bg aS ?_
   exact ⟨az,ay,aA,aB,aw,aD,aE,fun _=>rfl,aL,⟨SN,cs7,b8,hN,e7,e8,k8,k9,k11,k1,hI⟩⟩
  ·intro D aY el gg mt FI m0 Ei zB Bi EW Mi ed dP dA cT dg b0 bT bX w_
   rintro ⟨az,ay,aA,aB,aw,aD,aE,aI,aL,⟨SN,cs7,b8,hN,e7,e8,k8,k9,k11,k1,hI⟩⟩
   obtain rfl:=aI el
   have O8:=aE gg
   rw [EW,gg,aY] at hI
   obtain ⟨va,vn,vc,hv9⟩:=Inv.rowSlice hI 3 rfl
   refine eq hI 2 (n:=1) (by rw [hv9]; rfl) (by decide +kernel) rfl (by simp) (by rw [hv9]; simp [Value.cells,Value.oneCell']) fun w_ hI=>?_
   have hcl9:Value.cells dP=#[dP]:=by rw [hv9]; rfl
   rw [hcl9] at hI
   have k1:=fun (_:aC D 8 8=true)=>m0
   have k11:=fun (_:aC D 8 8=true)=>gg
   have hI:Inv w [] (bu (.blk b7 (.cells cs0.toArray ac)) (.blk b4 (.cells #[.int .i64 0,.int .i64 0,.string ⟨#[]⟩,.slice none 0 0] ac)) (.blk b2 (.cells #[.int .i64 k,.int .i64 n,.string s,kvc] ac)) (.blk b2 (.cells #[.int .i64 k,.int .i64 n,.string s,dP] ac)) (bj kvc ac 4 css) (bj dP ac 4 (css++[cs7])) [] [] (.blk b8 (.cells cs7.toArray ac)) false (D 5) (D 6) true) SN w_:=by
    rw [EW,gg]
    exact hI
   exact ⟨az,ay,aA,aB,aw,aD,aE,aI,fun _=>trivial,⟨SN,cs7,b8,hN,e7,e8,k8,k9,k11,k1,hI⟩⟩
  intro D gN f0 f1 fM fF fI fK fL fN ed dP dA cT dg b0 bT bX w_
  rintro ⟨az,ay,aA,aB,aw,aD,aE,aI,aL,⟨SN,cs7,b8,hN,e7,e8,k8,k9,k11,k1,hI⟩⟩
  obtain rfl:=aI f0
  have O8:=aE f1
  have PE:=aD fM
  have PF:=aw fF
  obtain rfl:=aB fI
  obtain rfl:=aA fK
  obtain rfl:=ay fL
  obtain rfl:=az fN
  clear az ay aA aB aw aD aE aI aL
  obtain ⟨_,hT⟩:=e7 fF
  rw [fM,f1,gN] at hI
  refine bP (by omega) ?_
  refine ⟨⟨j+1,dP,css++[cs7],SN,hj',rfl,hE.trans hN,?_,?_⟩,by simp [intOf]; omega⟩
  ·rw [K0 φ ks j hj']
   exact (Rows.monoR hg fun _ _ h=>h.mono hN.1).snoc hT hT.length
  ·refine hI.sub ?_
   simp only [bu]
   exact ((((List.nil_sublist _).cons_cons _).cons_cons _).cons_cons _).cons _
 ·have:j=ks.length:=by omega
  subst this
  rw [List.take_length] at hg
  obtain ⟨va,vn,vc,hvk'⟩:=hI.rowSlice 2 rfl
  have hv1:kvc.oneCell'=true:=by rw [hvk']; rfl
  refine bb hI 1 al rfl rfl ?_
  refine bf hI 0 rfl al rfl rfl ?_ fun w' hI=>?_
  ·intro u hu
   have hu':u∈([.int .i64 k,.int .i64 n,.string s,kvc]:List Value):=hu
   simp at hu'
   rcases hu' with rfl|rfl|rfl|rfl <;> first|rfl|exact hv1
  refine cH hI 0 al rfl rfl ?_
  have hI:Inv w [] ([]++[bj kvc ac 4 css]) S1 w':=hI.sub (List.sublist_append_right [_,_] _)
  obtain ⟨S2,hE2,hrd,hI⟩:=hI.lendExt
  exact ⟨_,_,_,rfl,hI,hE.trans hE2,rfl,_,rfl,RdT.iff.2 ⟨kvc,rfl,h1,h2,hs,(RowRd.rows hg hrd).mono (Sle.refl _) fun _ _ h=>h.mono hE2.1⟩⟩
end

end Go.Proofs.YtemmhhdnlbmicaaGreat

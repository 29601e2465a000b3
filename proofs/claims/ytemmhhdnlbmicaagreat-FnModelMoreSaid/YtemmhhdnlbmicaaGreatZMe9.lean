/- spec.l16Put, l16Has. -/
import Derived.Test.YtemmhhdnlbmicaaGreatZMe8
import Derived.Test.YtemmhhdnlbmicaaGreatZMe3
namespace Go.Proofs.YtemmhhdnlbmicaaGreat
open Go Go.RowKit
abbrev Kr (ys:List T):Value->List Item->aF->Prop:=fun r I' S'=>I'=[]/\RdSl S' 4 (RdT S') r ys
theorem xP (l:List T) (t:T) (j:Nat) (h:j<l.length) (hc:dL l[j] t<0):eP (l.drop j) t=l[j]::eP (l.drop (j+1)) t:=by
 rw [List.drop_eq_getElem_cons h,eP,if_pos hc]
theorem ur (l:List T) (t:T) (j:Nat) (h:j<l.length) (hc:¬ dL l[j] t<0):eP (l.drop j) t=if eqT l[j] t=true then l.drop j else t::l.drop j:=by
 rw [List.drop_eq_getElem_cons h,eP,if_neg hc]
section
attribute [local irreducible] Run CondV ah be
theorem Fz {l:List T} {t:T} {S:aF} {v:Value} {cs:List Value} {w w0:World} {b3:Nat} {K:Value->World->Prop} (j:Nat) (hI:Inv w0 [] [.blk b3 (.cells cs.toArray ab)] S w) (h:RdSl S 4 (RdT S) v l) (hcs:RdT S cs t) (hj:j<=l.length) (hn:l.length<=1000000)
  (hk:∀ r S' w',Ext w0.heap.size [] S S'->RdSl S' 4 (RdT S') r (l.take j++t::l.drop j)->Inv w0 [] [] S' w'->K r w') :
  Run Tryz.prog (aS ce 0 []) w fun t35 w52=>
  Run Tryz.prog (sOp (.slice ce (.const v) none (some (.const (.int .i64 j))) none) ce) w52 fun t38 w53=>
  Run Tryz.prog (aq .append #[ce,ce] ce [false,false] [t35,t38]) w53 fun t39 w54=>
  Run Tryz.prog (sOp (.load ab (.const (.pointer (some ⟨b3,0,none⟩)))) ab) w54 fun t41 w55=>
  Run Tryz.prog (aS ce 1 [(0,t41)]) w55 fun t42 w56=>
  Run Tryz.prog (aq .append #[ce,ce] ce [false,false] [t39,t42]) w56 fun t43 w57=>
  Run Tryz.prog (sOp (.slice ce (.const v) (some (.const (.int .i64 j))) none none) ce) w57 fun t47 w58=>
  Run Tryz.prog (aq .append #[ce,ce] ce [false,false] [t43,t47]) w58 fun t48 w59=>
  K t48 w59:=by
 have hlc:=hcs.length
 refine eO hI bK fun v0 w hI=>?_
 refine JF ay h hj fun v1 h1=>?_
 refine gL hI 1 (css:=[]) bK (by omega) rfl h1 (fun _ _=>RdT.length) (fun _ _=>RdT.one) (by simp; omega) (by omega) fun v2 w c1 hR1 hI=>?_
 have hI:Inv w0 [] [.blk b3 (.cells cs.toArray ab),bh v2 ab 4 c1] S w:=by simpa using hI
 have hc1:=hR1.hc
 simp only [List.length_take] at hc1
 refine bb hI 0 ao rfl (by simpa using hlc) ?_
 refine gt hI 1 cs bK (by omega) (by omega) rfl hlc hcs.one (by omega) (by omega) fun v3 w hI=>?_
 have hR2:=hR1.snoc hcs hlc
 refine vf ay h hj fun v4 h4=>?_
 refine gL hI 1 (css:=c1++[cs]) bK (by omega) rfl h4 (fun _ _=>RdT.length) (fun _ _=>RdT.one) (by simp; omega) (by omega) fun v5 w c2 hR3 hI=>?_
 have hR:=hR2.append hR3
 have hI:Inv w0 [] ([.blk b3 (.cells cs.toArray ab)]++[bh v5 ab 4 ((c1++[cs])++c2)]) S w:=hI
 obtain ⟨S',hE,hrd,hI⟩:=hI.lendExt
 have hr:RdSl S' 4 (RdT S') v5 ((l.take j++[t])++l.drop j):=(RowRd.rows hR hrd).mono (Sle.refl _) fun _ _ h=>h.mono hE.1
 rw [List.append_assoc] at hr
 exact hk _ _ _ hE hr (hI.pick [false])
theorem Db {l:List T} {t:T} {S:aF} {v:Value} {cs:List Value} (h:RdSl S 4 (RdT S) v l) (hcs:RdT S cs t) (hl:∀ x∈l,okO x) (ht:okO t) (hn:l.length<=1000000) :
  Tri Tryz.prog GA [v,.agg cs.toArray] [] S (Kr (eP l t)):=by
 intro w hI
 have hlc:=hcs.length
 refine zZ ?_
 unfold vM
 refine bQ hI fun b3 w' hI=>?_
 have hI:Inv w [] [.blk b3 (.cells cs.toArray ab)] S w':=hI
 refine ⟨fun i w'=>∃ j:Nat,j<=l.length/\i=.int .i64 j/\l.take j++eP (l.drop j) t=eP l t/\Inv w [] [.blk b3 (.cells cs.toArray ab)] S w',
  fun i _=>l.length - (intOf i).toNat,⟨0,Nat.zero_le _,rfl,rfl,hI⟩,?_⟩
 intro t5 _ _ _ _ _ _ _ _ _ _ _ _ _ _ _ w'
 rintro ⟨j,hj,rfl,hrel,hI⟩
 by_cases hj':j<l.length
 ·obtain ⟨b,o,cap,c,E,fz,rfl,hS,hR⟩:=h.at_ hj'
  have hox:=hl _ (List.getElem_mem hj')
  refine ⟨fun D bY du dw dF eH fp eV eT fo f1 x9 x8 x7 w_=>(D 0=true->x7=.int .i64 j)/\(D 1=true->x8=.slice (some ⟨b,o,none⟩) l.length cap)/\(D 2=true->x9=.int .i64 l.length)/\(D 3=true->f1=.bool true)/\(D 4=true->fo=.bool true)/\(D 5=true->eT=.slice (some ⟨b,o,none⟩) l.length cap)/\(D 6=true->eV=.int .i64 j)/\(D 7=true->fp=.pointer (some ⟨b,o+j * 4,none⟩))/\(D 8=true->eH=.agg (bw c (o+j * 4) 4).toArray)/\(D 9=true->dF=.agg cs.toArray)/\(D 10=true->dw=.int .i64 (dL l[j] t))/\(D 11=true->du=.bool (decide (dL l[j] t<0)))/\(D 12=true->bY=.bool (decide (dL l[j] t<0)))/\Inv w [] [.blk b3 (.cells cs.toArray ab)] S w_,⟨ae,ae,ae,ae,ae,ae,ae,ae,ae,ae,ae,ae,ae,hI.draw⟩,⟨?_,?_,?_,?_,?_,?_,?_,?_,?_,?_,?_,?_,?_,trivial⟩,?_⟩
  ·intro D aY  bY du dw dF eH fp eV eT fo f1 x9 x8 x7 w_
   rintro ⟨aA,aB,aC,az,av,aE,aD,aH,aK,aP,ag,ai,aG,hI⟩
   exact ⟨fun _=>rfl,aB,aC,az,av,aE,aD,aH,aK,aP,ag,ai,aG,hI⟩
  ·intro D aY  bY du dw dF eH fp eV eT fo f1 x9 x8 x7 w_
   rintro ⟨aA,aB,aC,az,av,aE,aD,aH,aK,aP,ag,ai,aG,hI⟩
   exact ⟨aA,fun _=>rfl,aC,az,av,aE,aD,aH,aK,aP,ag,ai,aG,hI⟩
  ·intro D aY dE bY du dw dF eH fp eV eT fo f1 x9 x8 x7 w_
   rintro ⟨aA,aB,aC,az,av,aE,aD,aH,aK,aP,ag,ai,aG,hI⟩
   obtain rfl:=aB dE
   refine ge ay ?_
   exact ⟨aA,aB,fun _=>rfl,az,av,aE,aD,aH,aK,aP,ag,ai,aG,hI⟩
  ·intro D aY b0 gK bY du dw dF eH fp eV eT fo f1 x9 x8 x7 w_
   rintro ⟨aA,aB,aC,az,av,aE,aD,aH,aK,aP,ag,ai,aG,hI⟩
   obtain rfl:=aA b0
   obtain rfl:=aC gK
   refine bW ?_; rw [decide_eq_true (show (j:Int)<(l.length:Int) by omega)]
   exact ⟨aA,aB,aC,fun _=>rfl,av,aE,aD,aH,aK,aP,ag,ai,aG,hI⟩
  ·intro D aY dB bY du dw dF eH fp eV eT fo f1 x9 x8 x7 w_
   rintro ⟨aA,aB,aC,az,av,aE,aD,aH,aK,aP,ag,ai,aG,hI⟩
   obtain rfl:=az dB
   exact ⟨aA,aB,aC,az,fun _=>rfl,aE,aD,aH,aK,aP,ag,ai,aG,hI⟩
  ·intro D aY cF bY du dw dF eH fp eV eT fo f1 x9 x8 x7 w_
   rintro ⟨aA,aB,aC,az,av,aE,aD,aH,aK,aP,ag,ai,aG,hI⟩
   obtain rfl:=av cF
   repeat (first|refine ad ?_|refine af (by decide) ?_|refine ac ?_|refine al ?_|refine aj ?_)
   exact ⟨aA,aB,aC,az,av,fun _=>rfl,aD,aH,aK,aP,ag,ai,aG,hI⟩
  ·intro D aY cF bY du dw dF eH fp eV eT fo f1 x9 x8 x7 w_
   rintro ⟨aA,aB,aC,az,av,aE,aD,aH,aK,aP,ag,ai,aG,hI⟩
   obtain rfl:=av cF
   repeat (first|refine ad ?_|refine af (by decide) ?_|refine ac ?_|refine al ?_|refine aj ?_)
   exact ⟨aA,aB,aC,az,av,aE,fun _=>rfl,aH,aK,aP,ag,ai,aG,hI⟩
  ·intro D aY dT f0 iP bY du dw dF eH fp eV eT fo f1 x9 x8 x7 w_
   rintro ⟨aA,aB,aC,az,av,aE,aD,aH,aK,aP,ag,ai,aG,hI⟩
   obtain rfl:=aE dT
   obtain rfl:=aD f0
   obtain rfl:=av iP
   repeat (first|refine ad ?_|refine af (by decide) ?_|refine ac ?_|refine al ?_|refine aj ?_)
   refine bk ay hj' ?_
   exact ⟨aA,aB,aC,az,av,aE,aD,fun _=>rfl,aK,aP,ag,ai,aG,hI⟩
  ·intro D aY d6 dM bY du dw dF eH fp eV eT fo f1 x9 x8 x7 w_
   rintro ⟨aA,aB,aC,az,av,aE,aD,aH,aK,aP,ag,ai,aG,hI⟩
   obtain rfl:=aH d6
   obtain rfl:=av dM
   repeat (first|refine ad ?_|refine af (by decide) ?_|refine ac ?_|refine al ?_|refine aj ?_)
   refine cU ao hR.length (fun j v hj=>by rw [hI.cellS hS]; exact bn rfl j v hj) ?_
   exact ⟨aA,aB,aC,az,av,aE,aD,aH,fun _=>rfl,aP,ag,ai,aG,hI⟩
  ·intro D aY cF bY du dw dF eH fp eV eT fo f1 x9 x8 x7 w_
   rintro ⟨aA,aB,aC,az,av,aE,aD,aH,aK,aP,ag,ai,aG,hI⟩
   obtain rfl:=av cF
   repeat (first|refine ad ?_|refine af (by decide) ?_|refine ac ?_|refine al ?_|refine aj ?_)
   refine bb hI 0 ao rfl (by simpa using hlc) ?_
   exact ⟨aA,aB,aC,az,av,aE,aD,aH,aK,fun _=>rfl,ag,ai,aG,hI⟩
  ·intro D aY hY fl iP GU bY du dw dF eH fp eV eT fo f1 x9 x8 x7 w_
   rintro ⟨aA,aB,aC,az,av,aE,aD,aH,aK,aP,ag,ai,aG,hI⟩
   obtain rfl:=aK hY
   obtain rfl:=aP fl
   obtain rfl:=av iP
   repeat (first|refine ad ?_|refine af (by decide) ?_|refine ac ?_|refine al ?_|refine aj ?_)
   refine Run.callPure nS oC hI (xe _ _ S _ _ hR hcs hox ht) fun w_ hI=>?_
   exact ⟨aA,aB,aC,az,av,aE,aD,aH,aK,aP,fun _=>rfl,ai,aG,hI⟩
  ·intro D aY gv dM bY du dw dF eH fp eV eT fo f1 x9 x8 x7 w_
   rintro ⟨aA,aB,aC,az,av,aE,aD,aH,aK,aP,ag,ai,aG,hI⟩
   obtain rfl:=ag gv
   obtain rfl:=av dM
   repeat (first|refine ad ?_|refine af (by decide) ?_|refine ac ?_|refine al ?_|refine aj ?_)
   refine bW ?_
   exact ⟨aA,aB,aC,az,av,aE,aD,aH,aK,aP,ag,fun _=>rfl,aG,hI⟩
  ·intro D aY cF EQ bY du dw dF eH fp eV eT fo f1 x9 x8 x7 w_
   rintro ⟨aA,aB,aC,az,av,aE,aD,aH,aK,aP,ag,ai,aG,hI⟩
   obtain rfl:=av cF
   obtain rfl:=ai EQ
   repeat (first|refine ad ?_|refine af (by decide) ?_|refine ac ?_|refine al ?_|refine aj ?_)
   exact ⟨aA,aB,aC,az,av,aE,aD,aH,aK,aP,ag,ai,fun _=>rfl,hI⟩
  intro D iO fk fw iK gI fK fL fH fC fB fE fM fJ bY du dw dF eH fp eV eT fo f1 x9 x8 x7 w_
  rintro ⟨aA,aB,aC,az,av,aE,aD,aH,aK,aP,ag,ai,aG,hI⟩
  obtain rfl:=aG iO
  obtain rfl:=ai fk
  obtain rfl:=ag fw
  obtain rfl:=aP iK
  obtain rfl:=aK gI
  obtain rfl:=aH fK
  obtain rfl:=aD fL
  obtain rfl:=aE fH
  obtain rfl:=av fC
  obtain rfl:=az fB
  obtain rfl:=aC fE
  obtain rfl:=aB fM
  obtain rfl:=aA fJ
  clear aA aB aC az av aE aD aH aK aP ag ai aG
  refine bl (fun hc=>?_) (fun hc=>?_)
  ·refine bN (by omega) ?_
   refine ⟨⟨j+1,hj',rfl,?_,hI⟩,by simp [intOf]; omega⟩
   rw [<- hrel,xP l t j hj' hc,List.take_succ_eq_append_getElem hj',List.append_assoc]
   rfl
  rw [ur l t j hj' hc] at hrel
  refine ⟨fun D ek eK dU dH dv cI cX bZ bS bV cf cd w_=>(D 0=true->cd=.int .i64 j)/\(D 1=true->cf=.slice (some ⟨b,o,none⟩) l.length cap)/\(D 2=true->bV=.int .i64 l.length)/\(D 3=true->bS=.bool true)/\(D 4=true->bZ=.bool true)/\(D 5=true->cX=.slice (some ⟨b,o,none⟩) l.length cap)/\(D 6=true->cI=.int .i64 j)/\(D 7=true->dv=.pointer (some ⟨b,o+j * 4,none⟩))/\(D 8=true->dH=.agg (bw c (o+j * 4) 4).toArray)/\(D 9=true->dU=.agg cs.toArray)/\(D 10=true->eK=.bool (eqT l[j] t))/\(D 11=true->ek=.bool (eqT l[j] t))/\Inv w [] [.blk b3 (.cells cs.toArray ab)] S w_,⟨ae,ae,ae,ae,ae,ae,ae,ae,ae,ae,ae,ae,hI.draw⟩,⟨?_,?_,?_,?_,?_,?_,?_,?_,?_,?_,?_,?_,trivial⟩,?_⟩
  ·intro D aY  ek eK dU dH dv cI cX bZ bS bV cf cd w_
   rintro ⟨aA,aB,aC,az,av,aE,aD,aH,aK,aP,ag,ai,hI⟩
   exact ⟨fun _=>rfl,aB,aC,az,av,aE,aD,aH,aK,aP,ag,ai,hI⟩
  ·intro D aY  ek eK dU dH dv cI cX bZ bS bV cf cd w_
   rintro ⟨aA,aB,aC,az,av,aE,aD,aH,aK,aP,ag,ai,hI⟩
   exact ⟨aA,fun _=>rfl,aC,az,av,aE,aD,aH,aK,aP,ag,ai,hI⟩
  ·intro D aY dE ek eK dU dH dv cI cX bZ bS bV cf cd w_
   rintro ⟨aA,aB,aC,az,av,aE,aD,aH,aK,aP,ag,ai,hI⟩
   obtain rfl:=aB dE
   refine ge ay ?_
   exact ⟨aA,aB,fun _=>rfl,az,av,aE,aD,aH,aK,aP,ag,ai,hI⟩
  ·intro D aY b0 gK ek eK dU dH dv cI cX bZ bS bV cf cd w_
   rintro ⟨aA,aB,aC,az,av,aE,aD,aH,aK,aP,ag,ai,hI⟩
   obtain rfl:=aA b0
   obtain rfl:=aC gK
   refine bW ?_; rw [decide_eq_true (show (j:Int)<(l.length:Int) by omega)]
   exact ⟨aA,aB,aC,fun _=>rfl,av,aE,aD,aH,aK,aP,ag,ai,hI⟩
  ·intro D aY dB ek eK dU dH dv cI cX bZ bS bV cf cd w_
   rintro ⟨aA,aB,aC,az,av,aE,aD,aH,aK,aP,ag,ai,hI⟩
   obtain rfl:=az dB
   exact ⟨aA,aB,aC,az,fun _=>rfl,aE,aD,aH,aK,aP,ag,ai,hI⟩
  ·intro D aY cF ek eK dU dH dv cI cX bZ bS bV cf cd w_
   rintro ⟨aA,aB,aC,az,av,aE,aD,aH,aK,aP,ag,ai,hI⟩
   obtain rfl:=av cF
   repeat (first|refine ad ?_|refine af (by decide) ?_|refine ac ?_|refine al ?_|refine aj ?_)
   exact ⟨aA,aB,aC,az,av,fun _=>rfl,aD,aH,aK,aP,ag,ai,hI⟩
  ·intro D aY cF ek eK dU dH dv cI cX bZ bS bV cf cd w_
   rintro ⟨aA,aB,aC,az,av,aE,aD,aH,aK,aP,ag,ai,hI⟩
   obtain rfl:=av cF
   repeat (first|refine ad ?_|refine af (by decide) ?_|refine ac ?_|refine al ?_|refine aj ?_)
   exact ⟨aA,aB,aC,az,av,aE,fun _=>rfl,aH,aK,aP,ag,ai,hI⟩
  ·intro D aY dT f0 iP ek eK dU dH dv cI cX bZ bS bV cf cd w_
   rintro ⟨aA,aB,aC,az,av,aE,aD,aH,aK,aP,ag,ai,hI⟩
   obtain rfl:=aE dT
   obtain rfl:=aD f0
   obtain rfl:=av iP
   repeat (first|refine ad ?_|refine af (by decide) ?_|refine ac ?_|refine al ?_|refine aj ?_)
   refine bk ay hj' ?_
   exact ⟨aA,aB,aC,az,av,aE,aD,fun _=>rfl,aK,aP,ag,ai,hI⟩
  ·intro D aY d6 dM ek eK dU dH dv cI cX bZ bS bV cf cd w_
   rintro ⟨aA,aB,aC,az,av,aE,aD,aH,aK,aP,ag,ai,hI⟩
   obtain rfl:=aH d6
   obtain rfl:=av dM
   repeat (first|refine ad ?_|refine af (by decide) ?_|refine ac ?_|refine al ?_|refine aj ?_)
   refine cU ao hR.length (fun j v hj=>by rw [hI.cellS hS]; exact bn rfl j v hj) ?_
   exact ⟨aA,aB,aC,az,av,aE,aD,aH,fun _=>rfl,aP,ag,ai,hI⟩
  ·intro D aY cF ek eK dU dH dv cI cX bZ bS bV cf cd w_
   rintro ⟨aA,aB,aC,az,av,aE,aD,aH,aK,aP,ag,ai,hI⟩
   obtain rfl:=av cF
   repeat (first|refine ad ?_|refine af (by decide) ?_|refine ac ?_|refine al ?_|refine aj ?_)
   refine bb hI 0 ao rfl (by simpa using hlc) ?_
   exact ⟨aA,aB,aC,az,av,aE,aD,aH,aK,fun _=>rfl,ag,ai,hI⟩
  ·intro D aY hY fl iP GU ek eK dU dH dv cI cX bZ bS bV cf cd w_
   rintro ⟨aA,aB,aC,az,av,aE,aD,aH,aK,aP,ag,ai,hI⟩
   obtain rfl:=aK hY
   obtain rfl:=aP fl
   obtain rfl:=av iP
   repeat (first|refine ad ?_|refine af (by decide) ?_|refine ac ?_|refine al ?_|refine aj ?_)
   refine Run.callPure kJ kP hI (lQ _ _ S _ _ hR hcs) fun w_ hI=>?_
   exact ⟨aA,aB,aC,az,av,aE,aD,aH,aK,aP,fun _=>rfl,ai,hI⟩
  ·intro D aY cF lz ek eK dU dH dv cI cX bZ bS bV cf cd w_
   rintro ⟨aA,aB,aC,az,av,aE,aD,aH,aK,aP,ag,ai,hI⟩
   obtain rfl:=av cF
   obtain rfl:=ag lz
   repeat (first|refine ad ?_|refine af (by decide) ?_|refine ac ?_|refine al ?_|refine aj ?_)
   exact ⟨aA,aB,aC,az,av,aE,aD,aH,aK,aP,ag,fun _=>rfl,hI⟩
  intro D fk fw iK gI fK fL fH fC fB fE fM fJ ek eK dU dH dv cI cX bZ bS bV cf cd w_
  rintro ⟨aA,aB,aC,az,av,aE,aD,aH,aK,aP,ag,ai,hI⟩
  obtain rfl:=ai fk
  obtain rfl:=ag fw
  obtain rfl:=aP iK
  obtain rfl:=aK gI
  obtain rfl:=aH fK
  obtain rfl:=aD fL
  obtain rfl:=aE fH
  obtain rfl:=av fC
  obtain rfl:=az fB
  obtain rfl:=aC fE
  obtain rfl:=aB fM
  obtain rfl:=aA fJ
  clear aA aB aC az av aE aD aH aK aP ag ai
  refine ba (fun he=>?_) (fun he=>?_)
  ·rw [if_pos he,List.take_append_drop] at hrel
   rw [<- hrel]
   exact ⟨_,_,_,rfl,hI.pick [false],Ext.refl _ _ _,rfl,h⟩
  ·rw [if_neg (by rw [he]; decide)] at hrel
   rw [<- hrel]
   exact Fz j hI h hcs hj hn fun r S' w' hE hr hI=>⟨_,_,_,rfl,hI,hE,rfl,hr⟩
 ·have hje:j=l.length:=by omega
  have hv:∃ a m,v=.slice a l.length m:=by
   obtain ⟨a,m,e,_⟩:=h
   exact ⟨a,m,e⟩
  obtain ⟨a,m,rfl⟩:=hv
  rw [List.drop_eq_nil_of_le (by omega),eP] at hrel
  refine ⟨fun D bY du dw dF eH fp eV eT fo f1 x9 x8 x7 w_=>(D 0=true->x7=.int .i64 j)/\(D 1=true->x8=.slice a l.length m)/\(D 2=true->x9=.int .i64 l.length)/\(D 3=true->f1=.bool false)/\(D 4=true->fo=.bool false)/\(D 5=true->eT=undef)/\(D 6=true->eV=undef)/\(D 7=true->fp=undef)/\(D 8=true->eH=undef)/\(D 9=true->dF=undef)/\(D 10=true->dw=undef)/\(D 11=true->du=undef)/\(D 12=true->bY=.bool false)/\Inv w [] [.blk b3 (.cells cs.toArray ab)] S w_,⟨ae,ae,ae,ae,ae,ae,ae,ae,ae,ae,ae,ae,ae,hI.draw⟩,⟨?_,?_,?_,?_,?_,?_,?_,?_,?_,?_,?_,?_,?_,trivial⟩,?_⟩
  ·intro D aY  bY du dw dF eH fp eV eT fo f1 x9 x8 x7 w_
   rintro ⟨aA,aB,aC,az,av,aE,aD,aH,aK,aP,ag,ai,aG,hI⟩
   exact ⟨fun _=>rfl,aB,aC,az,av,aE,aD,aH,aK,aP,ag,ai,aG,hI⟩
  ·intro D aY  bY du dw dF eH fp eV eT fo f1 x9 x8 x7 w_
   rintro ⟨aA,aB,aC,az,av,aE,aD,aH,aK,aP,ag,ai,aG,hI⟩
   exact ⟨aA,fun _=>rfl,aC,az,av,aE,aD,aH,aK,aP,ag,ai,aG,hI⟩
  ·intro D aY dE bY du dw dF eH fp eV eT fo f1 x9 x8 x7 w_
   rintro ⟨aA,aB,aC,az,av,aE,aD,aH,aK,aP,ag,ai,aG,hI⟩
   obtain rfl:=aB dE
   refine ge ay ?_
   exact ⟨aA,aB,fun _=>rfl,az,av,aE,aD,aH,aK,aP,ag,ai,aG,hI⟩
  ·intro D aY b0 gK bY du dw dF eH fp eV eT fo f1 x9 x8 x7 w_
   rintro ⟨aA,aB,aC,az,av,aE,aD,aH,aK,aP,ag,ai,aG,hI⟩
   obtain rfl:=aA b0
   obtain rfl:=aC gK
   refine bW ?_; rw [decide_eq_false (show ¬ (j:Int)<(l.length:Int) by omega)]
   exact ⟨aA,aB,aC,fun _=>rfl,av,aE,aD,aH,aK,aP,ag,ai,aG,hI⟩
  ·intro D aY dB bY du dw dF eH fp eV eT fo f1 x9 x8 x7 w_
   rintro ⟨aA,aB,aC,az,av,aE,aD,aH,aK,aP,ag,ai,aG,hI⟩
   obtain rfl:=az dB
   exact ⟨aA,aB,aC,az,fun _=>rfl,aE,aD,aH,aK,aP,ag,ai,aG,hI⟩
  ·intro D aY cF bY du dw dF eH fp eV eT fo f1 x9 x8 x7 w_
   rintro ⟨aA,aB,aC,az,av,aE,aD,aH,aK,aP,ag,ai,aG,hI⟩
   obtain rfl:=av cF
   repeat (first|refine ad ?_|refine af (by decide) ?_|refine ac ?_|refine al ?_|refine aj ?_)
   exact ⟨aA,aB,aC,az,av,fun _=>rfl,aD,aH,aK,aP,ag,ai,aG,hI⟩
  ·intro D aY cF bY du dw dF eH fp eV eT fo f1 x9 x8 x7 w_
   rintro ⟨aA,aB,aC,az,av,aE,aD,aH,aK,aP,ag,ai,aG,hI⟩
   obtain rfl:=av cF
   repeat (first|refine ad ?_|refine af (by decide) ?_|refine ac ?_|refine al ?_|refine aj ?_)
   exact ⟨aA,aB,aC,az,av,aE,fun _=>rfl,aH,aK,aP,ag,ai,aG,hI⟩
  ·intro D aY dT f0 iP bY du dw dF eH fp eV eT fo f1 x9 x8 x7 w_
   rintro ⟨aA,aB,aC,az,av,aE,aD,aH,aK,aP,ag,ai,aG,hI⟩
   obtain rfl:=aE dT
   obtain rfl:=aD f0
   obtain rfl:=av iP
   repeat (first|refine ad ?_|refine af (by decide) ?_|refine ac ?_|refine al ?_|refine aj ?_)
   exact ⟨aA,aB,aC,az,av,aE,aD,fun _=>rfl,aK,aP,ag,ai,aG,hI⟩
  ·intro D aY d6 dM bY du dw dF eH fp eV eT fo f1 x9 x8 x7 w_
   rintro ⟨aA,aB,aC,az,av,aE,aD,aH,aK,aP,ag,ai,aG,hI⟩
   obtain rfl:=aH d6
   obtain rfl:=av dM
   repeat (first|refine ad ?_|refine af (by decide) ?_|refine ac ?_|refine al ?_|refine aj ?_)
   exact ⟨aA,aB,aC,az,av,aE,aD,aH,fun _=>rfl,aP,ag,ai,aG,hI⟩
  ·intro D aY cF bY du dw dF eH fp eV eT fo f1 x9 x8 x7 w_
   rintro ⟨aA,aB,aC,az,av,aE,aD,aH,aK,aP,ag,ai,aG,hI⟩
   obtain rfl:=av cF
   repeat (first|refine ad ?_|refine af (by decide) ?_|refine ac ?_|refine al ?_|refine aj ?_)
   exact ⟨aA,aB,aC,az,av,aE,aD,aH,aK,fun _=>rfl,ag,ai,aG,hI⟩
  ·intro D aY hY fl iP GU bY du dw dF eH fp eV eT fo f1 x9 x8 x7 w_
   rintro ⟨aA,aB,aC,az,av,aE,aD,aH,aK,aP,ag,ai,aG,hI⟩
   obtain rfl:=aK hY
   obtain rfl:=aP fl
   obtain rfl:=av iP
   repeat (first|refine ad ?_|refine af (by decide) ?_|refine ac ?_|refine al ?_|refine aj ?_)
   exact ⟨aA,aB,aC,az,av,aE,aD,aH,aK,aP,fun _=>rfl,ai,aG,hI⟩
  ·intro D aY gv dM bY du dw dF eH fp eV eT fo f1 x9 x8 x7 w_
   rintro ⟨aA,aB,aC,az,av,aE,aD,aH,aK,aP,ag,ai,aG,hI⟩
   obtain rfl:=ag gv
   obtain rfl:=av dM
   repeat (first|refine ad ?_|refine af (by decide) ?_|refine ac ?_|refine al ?_|refine aj ?_)
   exact ⟨aA,aB,aC,az,av,aE,aD,aH,aK,aP,ag,fun _=>rfl,aG,hI⟩
  ·intro D aY cF EQ bY du dw dF eH fp eV eT fo f1 x9 x8 x7 w_
   rintro ⟨aA,aB,aC,az,av,aE,aD,aH,aK,aP,ag,ai,aG,hI⟩
   obtain rfl:=av cF
   obtain rfl:=ai EQ
   repeat (first|refine ad ?_|refine af (by decide) ?_|refine ac ?_|refine al ?_|refine aj ?_)
   exact ⟨aA,aB,aC,az,av,aE,aD,aH,aK,aP,ag,ai,fun _=>rfl,hI⟩
  intro D iO fk fw iK gI fK fL fH fC fB fE fM fJ bY du dw dF eH fp eV eT fo f1 x9 x8 x7 w_
  rintro ⟨aA,aB,aC,az,av,aE,aD,aH,aK,aP,ag,ai,aG,hI⟩
  obtain rfl:=aG iO
  obtain rfl:=ai fk
  obtain rfl:=ag fw
  obtain rfl:=aP iK
  obtain rfl:=aK gI
  obtain rfl:=aH fK
  obtain rfl:=aD fL
  obtain rfl:=aE fH
  obtain rfl:=av fC
  obtain rfl:=az fB
  obtain rfl:=aC fE
  obtain rfl:=aB fM
  obtain rfl:=aA fJ
  clear aA aB aC az av aE aD aH aK aP ag ai aG
  refine ba (fun hb=>by cases hb) (fun _=>?_)
  refine ⟨fun D ek eK dU dH dv cI cX bZ bS bV cf cd w_=>(D 0=true->cd=.int .i64 j)/\(D 1=true->cf=.slice a l.length m)/\(D 2=true->bV=.int .i64 l.length)/\(D 3=true->bS=.bool false)/\(D 4=true->bZ=.bool false)/\(D 5=true->cX=undef)/\(D 6=true->cI=undef)/\(D 7=true->dv=undef)/\(D 8=true->dH=undef)/\(D 9=true->dU=undef)/\(D 10=true->eK=undef)/\(D 11=true->ek=.bool false)/\Inv w [] [.blk b3 (.cells cs.toArray ab)] S w_,⟨ae,ae,ae,ae,ae,ae,ae,ae,ae,ae,ae,ae,hI.draw⟩,⟨?_,?_,?_,?_,?_,?_,?_,?_,?_,?_,?_,?_,trivial⟩,?_⟩
  ·intro D aY  ek eK dU dH dv cI cX bZ bS bV cf cd w_
   rintro ⟨aA,aB,aC,az,av,aE,aD,aH,aK,aP,ag,ai,hI⟩
   exact ⟨fun _=>rfl,aB,aC,az,av,aE,aD,aH,aK,aP,ag,ai,hI⟩
  ·intro D aY  ek eK dU dH dv cI cX bZ bS bV cf cd w_
   rintro ⟨aA,aB,aC,az,av,aE,aD,aH,aK,aP,ag,ai,hI⟩
   exact ⟨aA,fun _=>rfl,aC,az,av,aE,aD,aH,aK,aP,ag,ai,hI⟩
  ·intro D aY dE ek eK dU dH dv cI cX bZ bS bV cf cd w_
   rintro ⟨aA,aB,aC,az,av,aE,aD,aH,aK,aP,ag,ai,hI⟩
   obtain rfl:=aB dE
   refine ge ay ?_
   exact ⟨aA,aB,fun _=>rfl,az,av,aE,aD,aH,aK,aP,ag,ai,hI⟩
  ·intro D aY b0 gK ek eK dU dH dv cI cX bZ bS bV cf cd w_
   rintro ⟨aA,aB,aC,az,av,aE,aD,aH,aK,aP,ag,ai,hI⟩
   obtain rfl:=aA b0
   obtain rfl:=aC gK
   refine bW ?_; rw [decide_eq_false (show ¬ (j:Int)<(l.length:Int) by omega)]
   exact ⟨aA,aB,aC,fun _=>rfl,av,aE,aD,aH,aK,aP,ag,ai,hI⟩
  ·intro D aY dB ek eK dU dH dv cI cX bZ bS bV cf cd w_
   rintro ⟨aA,aB,aC,az,av,aE,aD,aH,aK,aP,ag,ai,hI⟩
   obtain rfl:=az dB
   exact ⟨aA,aB,aC,az,fun _=>rfl,aE,aD,aH,aK,aP,ag,ai,hI⟩
  ·intro D aY cF ek eK dU dH dv cI cX bZ bS bV cf cd w_
   rintro ⟨aA,aB,aC,az,av,aE,aD,aH,aK,aP,ag,ai,hI⟩
   obtain rfl:=av cF
   repeat (first|refine ad ?_|refine af (by decide) ?_|refine ac ?_|refine al ?_|refine aj ?_)
   exact ⟨aA,aB,aC,az,av,fun _=>rfl,aD,aH,aK,aP,ag,ai,hI⟩
  ·intro D aY cF ek eK dU dH dv cI cX bZ bS bV cf cd w_
   rintro ⟨aA,aB,aC,az,av,aE,aD,aH,aK,aP,ag,ai,hI⟩
   obtain rfl:=av cF
   repeat (first|refine ad ?_|refine af (by decide) ?_|refine ac ?_|refine al ?_|refine aj ?_)
   exact ⟨aA,aB,aC,az,av,aE,fun _=>rfl,aH,aK,aP,ag,ai,hI⟩
  ·intro D aY dT f0 iP ek eK dU dH dv cI cX bZ bS bV cf cd w_
   rintro ⟨aA,aB,aC,az,av,aE,aD,aH,aK,aP,ag,ai,hI⟩
   obtain rfl:=aE dT
   obtain rfl:=aD f0
   obtain rfl:=av iP
   repeat (first|refine ad ?_|refine af (by decide) ?_|refine ac ?_|refine al ?_|refine aj ?_)
   exact ⟨aA,aB,aC,az,av,aE,aD,fun _=>rfl,aK,aP,ag,ai,hI⟩
  ·intro D aY d6 dM ek eK dU dH dv cI cX bZ bS bV cf cd w_
   rintro ⟨aA,aB,aC,az,av,aE,aD,aH,aK,aP,ag,ai,hI⟩
   obtain rfl:=aH d6
   obtain rfl:=av dM
   repeat (first|refine ad ?_|refine af (by decide) ?_|refine ac ?_|refine al ?_|refine aj ?_)
   exact ⟨aA,aB,aC,az,av,aE,aD,aH,fun _=>rfl,aP,ag,ai,hI⟩
  ·intro D aY cF ek eK dU dH dv cI cX bZ bS bV cf cd w_
   rintro ⟨aA,aB,aC,az,av,aE,aD,aH,aK,aP,ag,ai,hI⟩
   obtain rfl:=av cF
   repeat (first|refine ad ?_|refine af (by decide) ?_|refine ac ?_|refine al ?_|refine aj ?_)
   exact ⟨aA,aB,aC,az,av,aE,aD,aH,aK,fun _=>rfl,ag,ai,hI⟩
  ·intro D aY hY fl iP GU ek eK dU dH dv cI cX bZ bS bV cf cd w_
   rintro ⟨aA,aB,aC,az,av,aE,aD,aH,aK,aP,ag,ai,hI⟩
   obtain rfl:=aK hY
   obtain rfl:=aP fl
   obtain rfl:=av iP
   repeat (first|refine ad ?_|refine af (by decide) ?_|refine ac ?_|refine al ?_|refine aj ?_)
   exact ⟨aA,aB,aC,az,av,aE,aD,aH,aK,aP,fun _=>rfl,ai,hI⟩
  ·intro D aY cF lz ek eK dU dH dv cI cX bZ bS bV cf cd w_
   rintro ⟨aA,aB,aC,az,av,aE,aD,aH,aK,aP,ag,ai,hI⟩
   obtain rfl:=av cF
   obtain rfl:=ag lz
   repeat (first|refine ad ?_|refine af (by decide) ?_|refine ac ?_|refine al ?_|refine aj ?_)
   exact ⟨aA,aB,aC,az,av,aE,aD,aH,aK,aP,ag,fun _=>rfl,hI⟩
  intro D fk fw iK gI fK fL fH fC fB fE fM fJ ek eK dU dH dv cI cX bZ bS bV cf cd w_
  rintro ⟨aA,aB,aC,az,av,aE,aD,aH,aK,aP,ag,ai,hI⟩
  obtain rfl:=ai fk
  obtain rfl:=ag fw
  obtain rfl:=aP iK
  obtain rfl:=aK gI
  obtain rfl:=aH fK
  obtain rfl:=aD fL
  obtain rfl:=aE fH
  obtain rfl:=av fC
  obtain rfl:=az fB
  obtain rfl:=aC fE
  obtain rfl:=aB fM
  obtain rfl:=aA fJ
  clear aA aB aC az av aE aD aH aK aP ag ai
  refine ba (fun hb=>by cases hb) (fun _=>?_)
  rw [<- hrel]
  refine Fz j hI h hcs hj hn fun r S' w' hE hr hI=>⟨_,_,_,rfl,hI,hE,rfl,?_⟩
  rw [List.drop_eq_nil_of_le (by omega)] at hr
  exact hr
end

end Go.Proofs.YtemmhhdnlbmicaaGreat

/- slices.BinarySearchFunc in facts that stand in order. -/
namespace Go.Proofs.YtemmhhdnlbmicaaGreat
open Go Go.RowKit
section
variable {P:Program} {w:World} {K:Value->World->Prop}
attribute [local irreducible] Run
theorem MC {T:TypeId} {cx cy:Bool} {a:Int} (hk:K (.int .u64 (a / 2)) w):Run P (ar .shr T cx cy (.int .u64 a) (.int .u64 1)) w K:=by
 refine Run.of ?_ hk
 have h1:Op.shift .shr .u64 a .u64 1=pure (.int .u64 (a / 2)):=by
  have e:min (1:Int).toNat IntKind.u64.bits=1:=by decide
  simp only [Op.shift,e]
  rw [if_neg (by decide),Int.fdiv_eq_ediv_of_nonneg _ (by decide)]
  rfl
 simp [ar,binOp,eqGuard,h1]
end
/- where a fact belongs -/
def z2 (l:List T) (t:T) (i:Nat):Prop:=i<=l.length/\(∀ j (h:j<l.length),j<i->dL l[j] t<0)/\(∀ j (h:j<l.length),i<=j->¬ dL l[j] t<0)
theorem BV {l:List T} (h:Sorted l):∀ (a b:Nat) (ha:a<l.length) (hb:b<l.length),a<b->dL l[a] l[b]<0:=by
 induction l with
 | nil=>intro a b ha; simp at ha
 | cons x xs ih=>
  intro a b ha hb hab
  rw [Sorted] at h
  match a,b with
  | 0,b+1=>
   simp only [List.getElem_cons_zero,List.getElem_cons_succ]
   exact h.1 _ (List.getElem_mem _)
  | a+1,b+1=>
   simp only [List.getElem_cons_succ]
   exact ih h.2 a b (by simpa using ha) (by simpa using hb) (by omega)
  | _,0=>omega
theorem II {l:List T} {t:T} {i:Nat} (h:z2 l t i):eP l t=l.take i++eP (l.drop i) t:=by
 obtain ⟨h1,h2,_⟩:=h
 have:∀ k,k<=i->l.take k++eP (l.drop k) t=eP l t:=by
  intro k
  induction k with
  | zero=>intro _; rfl
  | succ k ih=>
   intro hk
   have hkl:k<l.length:=by omega
   rw [<- ih (by omega),xP l t k hkl (h2 k hkl (by omega)),List.take_succ_eq_append_getElem hkl,List.append_assoc]
   rfl
 exact (this i (Nat.le_refl _)).symm
theorem LB {l:List T} {t:T} {i:Nat} (h:z2 l t i) (hn:∀ hi:i<l.length,eqT l[i] t=false):eP l t=l.take i++t::l.drop i:=by
 rw [II h]
 by_cases hi:i<l.length
 ·rw [ur l t i hi (h.2.2 i hi (Nat.le_refl _)),if_neg (by rw [hn hi]; decide)]
 ·rw [List.drop_eq_nil_of_le (by omega),eP]
theorem KT {l:List T} {t:T} {i:Nat} (h:z2 l t i) (hi:i<l.length) (he:eqT l[i] t=true):eP l t=l:=by
 rw [II h,ur l t i hi (h.2.2 i hi (Nat.le_refl _)),if_pos he,List.take_append_drop]
theorem K6 {a b:T} (ha:okO a) (hb:okO b):decide (dL a b=0)=eqT a b:=by
 rw [Bool.eq_iff_iff,decide_eq_true_eq,iZ]
 exact ⟨CF a b ha hb,fun h=>by rw [h]; exact lB b⟩
def qe (l:List T) (t:T) (i:Nat):Bool:=if h:i<l.length then eqT l[i] t else false
section
attribute [local irreducible] Run CondV ah be
theorem qR {l:List T} {t:T} {S:aF} {v:Value} {cs:List Value} (h:RdSl S 4 (RdT S) v l) (hcs:RdT S cs t) (hl:∀ x∈l,okO x) (ht:okO t) (hs:Sorted l) (hn:l.length<=100000000) :
  ∃ i,z2 l t i/\Pure Tryz.prog jV [v,.agg cs.toArray,fv gM []] S (.tuple #[.int .i64 i,.bool (qe l t i)]):=by
 obtain ⟨i0,hi0⟩:∃ i,z2 l t i:=by
  have:∀ l:List T,Sorted l->(∀ x∈l,okO x)->∃ i,z2 l t i:=by
   intro l
   induction l with
   | nil=>intro _ _; exact ⟨0,Nat.le_refl _,fun j h=>by simp at h,fun j h=>by simp at h⟩
   | cons x xs ih=>
    intro hs hl
    rw [Sorted] at hs
    by_cases hc:dL x t<0
    ·obtain ⟨i,h1,h2,h3⟩:=ih hs.2 fun y hy=>hl y (List.mem_cons_of_mem _ hy)
     refine ⟨i+1,by simpa using h1,fun j hj hji=>?_,fun j hj hji=>?_⟩
     ·match j with
      | 0=>exact hc
      | j+1=>simpa using h2 j (by simpa using hj) (by omega)
     ·match j with
      | 0=>omega
      | j+1=>simpa using h3 j (by simpa using hj) (by omega)
    ·refine ⟨0,Nat.zero_le _,fun j _ hji=>by omega,fun j hj _=>?_⟩
     match j with
     | 0=>exact hc
     | j+1=>
      intro hlt
      simp only [List.getElem_cons_succ] at hlt
      exact hc (sJ (hs.1 _ (List.getElem_mem _)) hlt)
  exact this l hs hl
 have huniq:∀ i,z2 l t i->i=i0:=by
  intro i hi
  rcases Nat.lt_trichotomy i i0 with h1|h1|h1
  ·exact absurd (hi0.2.1 i (by have:=hi0.1; omega) h1) (hi.2.2 i (by have:=hi0.1; omega) (Nat.le_refl _))
  ·exact h1
  ·exact absurd (hi.2.1 i0 (by have:=hi.1; omega) h1) (hi0.2.2 i0 (by have:=hi.1; omega) (Nat.le_refl _))
 refine ⟨i0,hi0,fun w hI=>?_⟩
 have hlc:=hcs.length
 have hun:Tryz.prog.underlying fu=some (.int .i64):=by kernel_rfl
 refine iB ?_
 unfold gj
 refine bQ hI fun b4 w' hI=>?_
 have hI:Inv w [] [.blk b4 (.cells cs.toArray ab)] S w':=hI
 refine a9 h ay ?_
 refine ⟨fun jv iv w'=>∃ i j:Nat,i<=j/\j<=l.length/\jv=.int .i64 j/\iv=.int .i64 i/\(∀ k (h:k<l.length),k<i->dL l[k] t<0)/\(∀ k (h:k<l.length),j<=k->¬ dL l[k] t<0)/\Inv w [] [.blk b4 (.cells cs.toArray ab)] S w',
  fun jv iv _=>(intOf jv).toNat - (intOf iv).toNat,⟨0,l.length,Nat.zero_le _,Nat.le_refl _,rfl,rfl,fun k _ hk=>by omega,fun k hk hk2=>by omega,hI⟩,?_⟩
 intro t10 _ t9 _ _ _ _ _ _ _ _ _ _ _ _ _ _ _ _ _ _ _ _ w'
 rintro ⟨i,j,hij,hjl,rfl,rfl,hlo,hhi,hI⟩
 refine bW ?_
 refine bl (fun hlt=>?_) (fun hlt=>?_)
 ·obtain ⟨m,hm⟩:∃ m:Nat,(((i:Int)+(j:Int)) / 2)=(m:Int):=⟨(i+j) / 2,by omega⟩
  have hm1:i<=m/\m<j:=by omega
  have hml:m<l.length:=by omega
  refine bN (by omega) ?_
  refine Iz (k:=.u64) (k':=.i64) (by kernel_rfl) (by kernel_rfl) ?_
  rw [IntWalk.u64_in _ (by omega)]
  refine MC ?_
  rw [hm]
  refine Iz (k:=.i64) (k':=.u64) (by kernel_rfl) (by kernel_rfl) ?_
  rw [IntWalk.i64_in _ (by omega)]
  obtain ⟨b,o,cap,c,E,fz,rfl,hS,hR⟩:=h.at_ hml
  have hox:=hl _ (List.getElem_mem hml)
  refine ⟨fun D dU dH dv cI cX bZ bS bV w_=>(D 0=true->bV=fv gM [])/\(D 1=true->bS=.slice (some ⟨b,o,none⟩) l.length cap)/\(D 2=true->bZ=.int .i64 m)/\(D 3=true->cX=.pointer (some ⟨b,o+m * 4,none⟩))/\(D 4=true->cI=.agg (bw c (o+m * 4) 4).toArray)/\(D 5=true->dv=.agg cs.toArray)/\(D 6=true->dH=.int .i64 (dL l[m] t))/\(D 7=true->dU=.bool (decide (dL l[m] t<0)))/\Inv w [] [.blk b4 (.cells cs.toArray ab)] S w_,⟨ae,ae,ae,ae,ae,ae,ae,ae,hI.draw⟩,⟨?_,?_,?_,?_,?_,?_,?_,?_,trivial⟩,?_⟩
  ·intro D aY  dU dH dv cI cX bZ bS bV w_
   rintro ⟨aA,aB,aC,az,av,aE,aD,aH,hI⟩
   exact ⟨fun _=>rfl,aB,aC,az,av,aE,aD,aH,hI⟩
  ·intro D aY  dU dH dv cI cX bZ bS bV w_
   rintro ⟨aA,aB,aC,az,av,aE,aD,aH,hI⟩
   exact ⟨aA,fun _=>rfl,aC,az,av,aE,aD,aH,hI⟩
  ·intro D aY  dU dH dv cI cX bZ bS bV w_
   rintro ⟨aA,aB,aC,az,av,aE,aD,aH,hI⟩
   exact ⟨aA,aB,fun _=>rfl,az,av,aE,aD,aH,hI⟩
  ·intro D aY dE gK dU dH dv cI cX bZ bS bV w_
   rintro ⟨aA,aB,aC,az,av,aE,aD,aH,hI⟩
   obtain rfl:=aB dE
   obtain rfl:=aC gK
   refine bk ay hml ?_
   exact ⟨aA,aB,aC,fun _=>rfl,av,aE,aD,aH,hI⟩
  ·intro D aY dB dU dH dv cI cX bZ bS bV w_
   rintro ⟨aA,aB,aC,az,av,aE,aD,aH,hI⟩
   obtain rfl:=az dB
   refine cU ao hR.length (fun j v hj=>by rw [hI.cellS hS]; exact bn rfl j v hj) ?_
   exact ⟨aA,aB,aC,az,fun _=>rfl,aE,aD,aH,hI⟩
  ·intro D aY  dU dH dv cI cX bZ bS bV w_
   rintro ⟨aA,aB,aC,az,av,aE,aD,aH,hI⟩
   refine bb hI 0 ao rfl (by simpa using hlc) ?_
   exact ⟨aA,aB,aC,az,av,fun _=>rfl,aD,aH,hI⟩
  ·intro D aY b0 dM JH dU dH dv cI cX bZ bS bV w_
   rintro ⟨aA,aB,aC,az,av,aE,aD,aH,hI⟩
   obtain rfl:=aA b0
   obtain rfl:=av dM
   obtain rfl:=aE JH
   refine Run.callVPure (cap:=[]) lV l6 hI (py _ _ S _ _ hR hcs hox ht) fun w_ hI=>?_
   exact ⟨aA,aB,aC,az,av,aE,fun _=>rfl,aH,hI⟩
  ·intro D aY cJ dU dH dv cI cX bZ bS bV w_
   rintro ⟨aA,aB,aC,az,av,aE,aD,aH,hI⟩
   obtain rfl:=aD cJ
   refine bW ?_
   exact ⟨aA,aB,aC,az,av,aE,aD,fun _=>rfl,hI⟩
  intro D fK fL fH fC fB fE fM fJ dU dH dv cI cX bZ bS bV w_
  rintro ⟨aA,aB,aC,az,av,aE,aD,aH,hI⟩
  obtain rfl:=aH fK
  obtain rfl:=aD fL
  obtain rfl:=aE fH
  obtain rfl:=av fC
  obtain rfl:=az fB
  obtain rfl:=aC fE
  obtain rfl:=aB fM
  obtain rfl:=aA fJ
  clear aA aB aC az av aE aD aH
  refine bl (fun hc=>?_) (fun hc=>?_)
  ·refine bN (by omega) ?_
   refine ⟨⟨m+1,j,by omega,hjl,rfl,rfl,fun k hk hk2=>?_,hhi,hI⟩,by simp [intOf]; omega⟩
   by_cases e:k=m
   ·subst e; exact hc
   ·exact sJ (BV hs k m hk hml (by omega)) hc
  ·refine ⟨⟨i,m,hm1.1,by omega,rfl,rfl,hlo,fun k hk hk2 hc2=>?_,hI⟩,by simp [intOf]; omega⟩
   by_cases e:k=m
   ·subst e; exact hc hc2
   ·exact hc (sJ (BV hs m k hml hk (by omega)) hc2)
 ·have e:j=i:=by omega
  subst e
  have e:j=i0:=huniq j ⟨hjl,hlo,hhi⟩
  subst e
  clear huniq hi0 hlo hhi
  by_cases hi:j<l.length
  ·obtain ⟨b,o,cap,c,E,fz,rfl,hS,hR⟩:=h.at_ hi
   have hox:=hl _ (List.getElem_mem hi)
   have hfb:qe l t j=eqT l[j] t:=dif_pos hi
   rw [hfb]
   refine ⟨fun D x7 x6 bT bU cS dq dk dp dr dn gz eG d5 eF dQ dO w_=>(D 0=true->dO=.int .i64 j)/\(D 1=true->dQ=.int .i64 j)/\(D 2=true->eF=.int .i64 l.length)/\(D 3=true->d5=.bool true)/\(D 4=true->eG=.bool true)/\(D 5=true->gz=fv gM [])/\(D 6=true->dn=.slice (some ⟨b,o,none⟩) l.length cap)/\(D 7=true->dr=.int .i64 j)/\(D 8=true->dp=.pointer (some ⟨b,o+j * 4,none⟩))/\(D 9=true->dk=.agg (bw c (o+j * 4) 4).toArray)/\(D 10=true->dq=.agg cs.toArray)/\(D 11=true->cS=.int .i64 (dL l[j] t))/\(D 12=true->bU=.bool (eqT l[j] t))/\(D 13=true->bT=.bool (eqT l[j] t))/\(D 14=true->x6=.int .i64 j)/\(D 15=true->x7=.bool (eqT l[j] t))/\Inv w [] [.blk b4 (.cells cs.toArray ab)] S w_,⟨ae,ae,ae,ae,ae,ae,ae,ae,ae,ae,ae,ae,ae,ae,ae,ae,hI.draw⟩,⟨?_,?_,?_,?_,?_,?_,?_,?_,?_,?_,?_,?_,?_,?_,?_,?_,trivial⟩,?_⟩
   ·intro D aY  x7 x6 bT bU cS dq dk dp dr dn gz eG d5 eF dQ dO w_
    rintro ⟨aA,aB,aC,az,av,aE,aD,aH,aK,aP,ag,ai,aG,aM,aO,aN,hI⟩
    exact ⟨fun _=>rfl,aB,aC,az,av,aE,aD,aH,aK,aP,ag,ai,aG,aM,aO,aN,hI⟩
   ·intro D aY  x7 x6 bT bU cS dq dk dp dr dn gz eG d5 eF dQ dO w_
    rintro ⟨aA,aB,aC,az,av,aE,aD,aH,aK,aP,ag,ai,aG,aM,aO,aN,hI⟩
    exact ⟨aA,fun _=>rfl,aC,az,av,aE,aD,aH,aK,aP,ag,ai,aG,aM,aO,aN,hI⟩
   ·intro D aY  x7 x6 bT bU cS dq dk dp dr dn gz eG d5 eF dQ dO w_
    rintro ⟨aA,aB,aC,az,av,aE,aD,aH,aK,aP,ag,ai,aG,aM,aO,aN,hI⟩
    exact ⟨aA,aB,fun _=>rfl,az,av,aE,aD,aH,aK,aP,ag,ai,aG,aM,aO,aN,hI⟩
   ·intro D aY dE gK x7 x6 bT bU cS dq dk dp dr dn gz eG d5 eF dQ dO w_
    rintro ⟨aA,aB,aC,az,av,aE,aD,aH,aK,aP,ag,ai,aG,aM,aO,aN,hI⟩
    obtain rfl:=aB dE
    obtain rfl:=aC gK
    refine bW ?_; rw [decide_eq_true (show (j:Int)<(l.length:Int) by omega)]
    exact ⟨aA,aB,aC,fun _=>rfl,av,aE,aD,aH,aK,aP,ag,ai,aG,aM,aO,aN,hI⟩
   ·intro D aY dB x7 x6 bT bU cS dq dk dp dr dn gz eG d5 eF dQ dO w_
    rintro ⟨aA,aB,aC,az,av,aE,aD,aH,aK,aP,ag,ai,aG,aM,aO,aN,hI⟩
    obtain rfl:=az dB
    exact ⟨aA,aB,aC,az,fun _=>rfl,aE,aD,aH,aK,aP,ag,ai,aG,aM,aO,aN,hI⟩
   ·intro D aY cF x7 x6 bT bU cS dq dk dp dr dn gz eG d5 eF dQ dO w_
    rintro ⟨aA,aB,aC,az,av,aE,aD,aH,aK,aP,ag,ai,aG,aM,aO,aN,hI⟩
    obtain rfl:=av cF
    repeat (first|refine ad ?_|refine af (by decide) ?_|refine ac ?_|refine al ?_|refine aj ?_)
    exact ⟨aA,aB,aC,az,av,fun _=>rfl,aD,aH,aK,aP,ag,ai,aG,aM,aO,aN,hI⟩
   ·intro D aY cF x7 x6 bT bU cS dq dk dp dr dn gz eG d5 eF dQ dO w_
    rintro ⟨aA,aB,aC,az,av,aE,aD,aH,aK,aP,ag,ai,aG,aM,aO,aN,hI⟩
    obtain rfl:=av cF
    repeat (first|refine ad ?_|refine af (by decide) ?_|refine ac ?_|refine al ?_|refine aj ?_)
    exact ⟨aA,aB,aC,az,av,aE,fun _=>rfl,aH,aK,aP,ag,ai,aG,aM,aO,aN,hI⟩
   ·intro D aY cF x7 x6 bT bU cS dq dk dp dr dn gz eG d5 eF dQ dO w_
    rintro ⟨aA,aB,aC,az,av,aE,aD,aH,aK,aP,ag,ai,aG,aM,aO,aN,hI⟩
    obtain rfl:=av cF
    repeat (first|refine ad ?_|refine af (by decide) ?_|refine ac ?_|refine al ?_|refine aj ?_)
    exact ⟨aA,aB,aC,az,av,aE,aD,fun _=>rfl,aK,aP,ag,ai,aG,aM,aO,aN,hI⟩
   ·intro D aY cJ i7 iP x7 x6 bT bU cS dq dk dp dr dn gz eG d5 eF dQ dO w_
    rintro ⟨aA,aB,aC,az,av,aE,aD,aH,aK,aP,ag,ai,aG,aM,aO,aN,hI⟩
    obtain rfl:=aD cJ
    obtain rfl:=aH i7
    obtain rfl:=av iP
    repeat (first|refine ad ?_|refine af (by decide) ?_|refine ac ?_|refine al ?_|refine aj ?_)
    refine bk ay hi ?_
    exact ⟨aA,aB,aC,az,av,aE,aD,aH,fun _=>rfl,aP,ag,ai,aG,aM,aO,aN,hI⟩
   ·intro D aY hY dM x7 x6 bT bU cS dq dk dp dr dn gz eG d5 eF dQ dO w_
    rintro ⟨aA,aB,aC,az,av,aE,aD,aH,aK,aP,ag,ai,aG,aM,aO,aN,hI⟩
    obtain rfl:=aK hY
    obtain rfl:=av dM
    repeat (first|refine ad ?_|refine af (by decide) ?_|refine ac ?_|refine al ?_|refine aj ?_)
    refine cU ao hR.length (fun j v hj=>by rw [hI.cellS hS]; exact bn rfl j v hj) ?_
    exact ⟨aA,aB,aC,az,av,aE,aD,aH,aK,fun _=>rfl,ag,ai,aG,aM,aO,aN,hI⟩
   ·intro D aY cF x7 x6 bT bU cS dq dk dp dr dn gz eG d5 eF dQ dO w_
    rintro ⟨aA,aB,aC,az,av,aE,aD,aH,aK,aP,ag,ai,aG,aM,aO,aN,hI⟩
    obtain rfl:=av cF
    repeat (first|refine ad ?_|refine af (by decide) ?_|refine ac ?_|refine al ?_|refine aj ?_)
    refine bb hI 0 ao rfl (by simpa using hlc) ?_
    exact ⟨aA,aB,aC,az,av,aE,aD,aH,aK,aP,fun _=>rfl,ai,aG,aM,aO,aN,hI⟩
   ·intro D aY dT fl yk GU yE x7 x6 bT bU cS dq dk dp dr dn gz eG d5 eF dQ dO w_
    rintro ⟨aA,aB,aC,az,av,aE,aD,aH,aK,aP,ag,ai,aG,aM,aO,aN,hI⟩
    obtain rfl:=aE dT
    obtain rfl:=aP fl
    obtain rfl:=ag yk
    obtain rfl:=av GU
    repeat (first|refine ad ?_|refine af (by decide) ?_|refine ac ?_|refine al ?_|refine aj ?_)
    refine Run.callVPure (cap:=[]) lV l6 hI (py _ _ S _ _ hR hcs hox ht) fun w_ hI=>?_
    exact ⟨aA,aB,aC,az,av,aE,aD,aH,aK,aP,ag,fun _=>rfl,aG,aM,aO,aN,hI⟩
   ·intro D aY gZ dM x7 x6 bT bU cS dq dk dp dr dn gz eG d5 eF dQ dO w_
    rintro ⟨aA,aB,aC,az,av,aE,aD,aH,aK,aP,ag,ai,aG,aM,aO,aN,hI⟩
    obtain rfl:=ai gZ
    obtain rfl:=av dM
    repeat (first|refine ad ?_|refine af (by decide) ?_|refine ac ?_|refine al ?_|refine aj ?_)
    refine bR ?_
    rw [K6 hox ht]
    exact ⟨aA,aB,aC,az,av,aE,aD,aH,aK,aP,ag,ai,fun _=>rfl,aM,aO,aN,hI⟩
   ·intro D aY cF Kk x7 x6 bT bU cS dq dk dp dr dn gz eG d5 eF dQ dO w_
    rintro ⟨aA,aB,aC,az,av,aE,aD,aH,aK,aP,ag,ai,aG,aM,aO,aN,hI⟩
    obtain rfl:=av cF
    obtain rfl:=aG Kk
    repeat (first|refine ad ?_|refine af (by decide) ?_|refine ac ?_|refine al ?_|refine aj ?_)
    exact ⟨aA,aB,aC,az,av,aE,aD,aH,aK,aP,ag,ai,aG,fun _=>rfl,aO,aN,hI⟩
   ·intro D aY b0 EQ nY x7 x6 bT bU cS dq dk dp dr dn gz eG d5 eF dQ dO w_
    rintro ⟨aA,aB,aC,az,av,aE,aD,aH,aK,aP,ag,ai,aG,aM,aO,aN,hI⟩
    obtain rfl:=aA b0
    exact ⟨aA,aB,aC,az,av,aE,aD,aH,aK,aP,ag,ai,aG,aM,fun _=>rfl,aN,hI⟩
   ·intro D aY g9 u3 nY tb s0 qY s5 xu wt Ei BD Bz uE zr yc CY CE x7 x6 bT bU cS dq dk dp dr dn gz eG d5 eF dQ dO w_
    rintro ⟨aA,aB,aC,az,av,aE,aD,aH,aK,aP,ag,ai,aG,aM,aO,aN,hI⟩
    obtain rfl:=aM g9
    exact ⟨aA,aB,aC,az,av,aE,aD,aH,aK,aP,ag,ai,aG,aM,aO,fun _=>rfl,hI⟩
   intro D mQ m0 nh iO fk fw iK gI fK fL fH fC fB fE fM fJ x7 x6 bT bU cS dq dk dp dr dn gz eG d5 eF dQ dO w_
   rintro ⟨aA,aB,aC,az,av,aE,aD,aH,aK,aP,ag,ai,aG,aM,aO,aN,hI⟩
   obtain rfl:=aN mQ
   obtain rfl:=aO m0
   obtain rfl:=aM nh
   obtain rfl:=aG iO
   obtain rfl:=ai fk
   obtain rfl:=ag fw
   obtain rfl:=aP iK
   obtain rfl:=aK gI
   obtain rfl:=aH fK
   obtain rfl:=aD fL
   obtain rfl:=aE fH
   obtain rfl:=av fC
   obtain rfl:=az fB
   obtain rfl:=aC fE
   obtain rfl:=aB fM
   obtain rfl:=aA fJ
   clear aA aB aC az av aE aD aH aK aP ag ai aG aM aO aN
   exact done hI rfl
  ·have hfb:qe l t j=false:=dif_neg hi
   rw [hfb]
   refine ⟨fun D x7 x6 bT bU cS dq dk dp dr dn gz eG d5 eF dQ dO w_=>(D 0=true->dO=.int .i64 j)/\(D 1=true->dQ=.int .i64 j)/\(D 2=true->eF=.int .i64 l.length)/\(D 3=true->d5=.bool false)/\(D 4=true->eG=.bool false)/\(D 5=true->gz=undef)/\(D 6=true->dn=undef)/\(D 7=true->dr=undef)/\(D 8=true->dp=undef)/\(D 9=true->dk=undef)/\(D 10=true->dq=undef)/\(D 11=true->cS=undef)/\(D 12=true->bU=undef)/\(D 13=true->bT=.bool false)/\(D 14=true->x6=.int .i64 j)/\(D 15=true->x7=.bool false)/\Inv w [] [.blk b4 (.cells cs.toArray ab)] S w_,⟨ae,ae,ae,ae,ae,ae,ae,ae,ae,ae,ae,ae,ae,ae,ae,ae,hI.draw⟩,⟨?_,?_,?_,?_,?_,?_,?_,?_,?_,?_,?_,?_,?_,?_,?_,?_,trivial⟩,?_⟩
   ·intro D aY  x7 x6 bT bU cS dq dk dp dr dn gz eG d5 eF dQ dO w_
    rintro ⟨aA,aB,aC,az,av,aE,aD,aH,aK,aP,ag,ai,aG,aM,aO,aN,hI⟩
    exact ⟨fun _=>rfl,aB,aC,az,av,aE,aD,aH,aK,aP,ag,ai,aG,aM,aO,aN,hI⟩
   ·intro D aY  x7 x6 bT bU cS dq dk dp dr dn gz eG d5 eF dQ dO w_
    rintro ⟨aA,aB,aC,az,av,aE,aD,aH,aK,aP,ag,ai,aG,aM,aO,aN,hI⟩
    exact ⟨aA,fun _=>rfl,aC,az,av,aE,aD,aH,aK,aP,ag,ai,aG,aM,aO,aN,hI⟩
   ·intro D aY  x7 x6 bT bU cS dq dk dp dr dn gz eG d5 eF dQ dO w_
    rintro ⟨aA,aB,aC,az,av,aE,aD,aH,aK,aP,ag,ai,aG,aM,aO,aN,hI⟩
    exact ⟨aA,aB,fun _=>rfl,az,av,aE,aD,aH,aK,aP,ag,ai,aG,aM,aO,aN,hI⟩
   ·intro D aY dE gK x7 x6 bT bU cS dq dk dp dr dn gz eG d5 eF dQ dO w_
    rintro ⟨aA,aB,aC,az,av,aE,aD,aH,aK,aP,ag,ai,aG,aM,aO,aN,hI⟩
    obtain rfl:=aB dE
    obtain rfl:=aC gK
    refine bW ?_; rw [decide_eq_false (show ¬ (j:Int)<(l.length:Int) by omega)]
    exact ⟨aA,aB,aC,fun _=>rfl,av,aE,aD,aH,aK,aP,ag,ai,aG,aM,aO,aN,hI⟩
   ·intro D aY dB x7 x6 bT bU cS dq dk dp dr dn gz eG d5 eF dQ dO w_
    rintro ⟨aA,aB,aC,az,av,aE,aD,aH,aK,aP,ag,ai,aG,aM,aO,aN,hI⟩
    obtain rfl:=az dB
    exact ⟨aA,aB,aC,az,fun _=>rfl,aE,aD,aH,aK,aP,ag,ai,aG,aM,aO,aN,hI⟩
   ·intro D aY cF x7 x6 bT bU cS dq dk dp dr dn gz eG d5 eF dQ dO w_
    rintro ⟨aA,aB,aC,az,av,aE,aD,aH,aK,aP,ag,ai,aG,aM,aO,aN,hI⟩
    obtain rfl:=av cF
    repeat (first|refine ad ?_|refine af (by decide) ?_|refine ac ?_|refine al ?_|refine aj ?_)
    exact ⟨aA,aB,aC,az,av,fun _=>rfl,aD,aH,aK,aP,ag,ai,aG,aM,aO,aN,hI⟩
   ·intro D aY cF x7 x6 bT bU cS dq dk dp dr dn gz eG d5 eF dQ dO w_
    rintro ⟨aA,aB,aC,az,av,aE,aD,aH,aK,aP,ag,ai,aG,aM,aO,aN,hI⟩
    obtain rfl:=av cF
    repeat (first|refine ad ?_|refine af (by decide) ?_|refine ac ?_|refine al ?_|refine aj ?_)
    exact ⟨aA,aB,aC,az,av,aE,fun _=>rfl,aH,aK,aP,ag,ai,aG,aM,aO,aN,hI⟩
   ·intro D aY cF x7 x6 bT bU cS dq dk dp dr dn gz eG d5 eF dQ dO w_
    rintro ⟨aA,aB,aC,az,av,aE,aD,aH,aK,aP,ag,ai,aG,aM,aO,aN,hI⟩
    obtain rfl:=av cF
    repeat (first|refine ad ?_|refine af (by decide) ?_|refine ac ?_|refine al ?_|refine aj ?_)
    exact ⟨aA,aB,aC,az,av,aE,aD,fun _=>rfl,aK,aP,ag,ai,aG,aM,aO,aN,hI⟩
   ·intro D aY cJ i7 iP x7 x6 bT bU cS dq dk dp dr dn gz eG d5 eF dQ dO w_
    rintro ⟨aA,aB,aC,az,av,aE,aD,aH,aK,aP,ag,ai,aG,aM,aO,aN,hI⟩
    obtain rfl:=aD cJ
    obtain rfl:=aH i7
    obtain rfl:=av iP
    repeat (first|refine ad ?_|refine af (by decide) ?_|refine ac ?_|refine al ?_|refine aj ?_)
    exact ⟨aA,aB,aC,az,av,aE,aD,aH,fun _=>rfl,aP,ag,ai,aG,aM,aO,aN,hI⟩
   ·intro D aY hY dM x7 x6 bT bU cS dq dk dp dr dn gz eG d5 eF dQ dO w_
    rintro ⟨aA,aB,aC,az,av,aE,aD,aH,aK,aP,ag,ai,aG,aM,aO,aN,hI⟩
    obtain rfl:=aK hY
    obtain rfl:=av dM
    repeat (first|refine ad ?_|refine af (by decide) ?_|refine ac ?_|refine al ?_|refine aj ?_)
    exact ⟨aA,aB,aC,az,av,aE,aD,aH,aK,fun _=>rfl,ag,ai,aG,aM,aO,aN,hI⟩
   ·intro D aY cF x7 x6 bT bU cS dq dk dp dr dn gz eG d5 eF dQ dO w_
    rintro ⟨aA,aB,aC,az,av,aE,aD,aH,aK,aP,ag,ai,aG,aM,aO,aN,hI⟩
    obtain rfl:=av cF
    repeat (first|refine ad ?_|refine af (by decide) ?_|refine ac ?_|refine al ?_|refine aj ?_)
    exact ⟨aA,aB,aC,az,av,aE,aD,aH,aK,aP,fun _=>rfl,ai,aG,aM,aO,aN,hI⟩
   ·intro D aY dT fl yk GU yE x7 x6 bT bU cS dq dk dp dr dn gz eG d5 eF dQ dO w_
    rintro ⟨aA,aB,aC,az,av,aE,aD,aH,aK,aP,ag,ai,aG,aM,aO,aN,hI⟩
    obtain rfl:=aE dT
    obtain rfl:=aP fl
    obtain rfl:=ag yk
    obtain rfl:=av GU
    repeat (first|refine ad ?_|refine af (by decide) ?_|refine ac ?_|refine al ?_|refine aj ?_)
    exact ⟨aA,aB,aC,az,av,aE,aD,aH,aK,aP,ag,fun _=>rfl,aG,aM,aO,aN,hI⟩
   ·intro D aY gZ dM x7 x6 bT bU cS dq dk dp dr dn gz eG d5 eF dQ dO w_
    rintro ⟨aA,aB,aC,az,av,aE,aD,aH,aK,aP,ag,ai,aG,aM,aO,aN,hI⟩
    obtain rfl:=ai gZ
    obtain rfl:=av dM
    repeat (first|refine ad ?_|refine af (by decide) ?_|refine ac ?_|refine al ?_|refine aj ?_)
    exact ⟨aA,aB,aC,az,av,aE,aD,aH,aK,aP,ag,ai,fun _=>rfl,aM,aO,aN,hI⟩
   ·intro D aY cF Kk x7 x6 bT bU cS dq dk dp dr dn gz eG d5 eF dQ dO w_
    rintro ⟨aA,aB,aC,az,av,aE,aD,aH,aK,aP,ag,ai,aG,aM,aO,aN,hI⟩
    obtain rfl:=av cF
    obtain rfl:=aG Kk
    repeat (first|refine ad ?_|refine af (by decide) ?_|refine ac ?_|refine al ?_|refine aj ?_)
    exact ⟨aA,aB,aC,az,av,aE,aD,aH,aK,aP,ag,ai,aG,fun _=>rfl,aO,aN,hI⟩
   ·intro D aY b0 EQ nY x7 x6 bT bU cS dq dk dp dr dn gz eG d5 eF dQ dO w_
    rintro ⟨aA,aB,aC,az,av,aE,aD,aH,aK,aP,ag,ai,aG,aM,aO,aN,hI⟩
    obtain rfl:=aA b0
    exact ⟨aA,aB,aC,az,av,aE,aD,aH,aK,aP,ag,ai,aG,aM,fun _=>rfl,aN,hI⟩
   ·intro D aY g9 u3 nY tb s0 qY s5 xu wt Ei BD Bz uE zr yc CY CE x7 x6 bT bU cS dq dk dp dr dn gz eG d5 eF dQ dO w_
    rintro ⟨aA,aB,aC,az,av,aE,aD,aH,aK,aP,ag,ai,aG,aM,aO,aN,hI⟩
    obtain rfl:=aM g9
    exact ⟨aA,aB,aC,az,av,aE,aD,aH,aK,aP,ag,ai,aG,aM,aO,fun _=>rfl,hI⟩
   intro D mQ m0 nh iO fk fw iK gI fK fL fH fC fB fE fM fJ x7 x6 bT bU cS dq dk dp dr dn gz eG d5 eF dQ dO w_
   rintro ⟨aA,aB,aC,az,av,aE,aD,aH,aK,aP,ag,ai,aG,aM,aO,aN,hI⟩
   obtain rfl:=aN mQ
   obtain rfl:=aO m0
   obtain rfl:=aM nh
   obtain rfl:=aG iO
   obtain rfl:=ai fk
   obtain rfl:=ag fw
   obtain rfl:=aP iK
   obtain rfl:=aK gI
   obtain rfl:=aH fK
   obtain rfl:=aD fL
   obtain rfl:=aE fH
   obtain rfl:=av fC
   obtain rfl:=az fB
   obtain rfl:=aC fE
   obtain rfl:=aB fM
   obtain rfl:=aA fJ
   clear aA aB aC az av aE aD aH aK aP ag ai aG aM aO aN
   exact done hI rfl
end

end Go.Proofs.YtemmhhdnlbmicaaGreat

/- spec.l16Has, l16Match, l16Full. -/
namespace Go.Proofs.YtemmhhdnlbmicaaGreat
open Go Go.RowKit
def MG (l:List T) (t:T):Bool:=l.any fun x=>eqT x t
def sY:T:=.mk 0 0 ⟨#[]⟩ []
def qS (st:bt) (n:Int):T:=match st[n.toNat]? with
 | some (some t)=>t
 | _=>sY
def gN (st:bt) (x:T):T:=if x.kind=1 then qS st x.n else x
def lq (g:T) (st:bt):T:=.mk g.kind 0 g.name (g.kids.map (gN st))
def stW (st:bt):Prop:=∀ t,some t∈st->wT t<=1048576
theorem KK (st:bt) (n:Int):qS st n=sY ∨ some (qS st n)∈st:=by
 rw [qS]
 split
 ·rename_i t h
  exact .inr (List.mem_of_getElem? h)
 ·exact .inl rfl
theorem LV:wT sY<=1048576:=by
 have:wT sY=0:=rfl
 omega
theorem KQ {st:bt} (h:stW st) {ks:List T} {j:Nat} (hj:j<ks.length) (hw:wL ks<=1048576):wT (gN st ks[j])<=1048576:=by
 rw [gN]
 split
 ·rcases KK st ks[j].n with e|e
  ·rw [e]; exact LV
  ·exact h _ e
 ·have:=jS (List.getElem_mem hj)
  omega
theorem HP (st:bt) (ks:List T) (j:Nat) (h:j<ks.length):(ks.take (j+1)).map (gN st)=(ks.take j).map (gN st)++[gN st ks[j]]:=by
 rw [List.take_succ_eq_append_getElem h,List.map_append]; rfl
theorem RdT.zero (S:aF):RdT S o3 sY:=RdT.iff.2 ⟨_,rfl,by simp [inI,T.kind,sY],by simp [inI,T.n,sY],by rw [sY,T.name]; decide +kernel,none,0,rfl,Nat.le_refl _,Nat.zero_le _,.inl rfl⟩
theorem KnownC.get {S:aF} {kc:Array Value} {st:bt} (h:KnownC S kc st) (hst:st.length=26) {j:Nat} (hj:j<26):RdT S (bw kc (j * 4) 4) (qS st j):=by
 obtain ⟨h1,h2⟩:=h.2 j (by omega)
 rw [qS,Int.toNat_natCast,List.getElem?_eq_getElem (show j<st.length by omega)]
 cases e:st[j] with
 | none=>
  rw [h1 e]
  exact RdT.zero S
 | some t=>exact h2 t e
/- what is known, as a row of optional terms -/
def KRel (S:aF) (cs:List Value) (o:Option T):Prop:=cs.length=4/\(o=none->cs=o3)/\∀ t,o=some t->RdT S cs t
theorem KRel.one {S:aF} {cs:List Value} {o:Option T} (h:KRel S cs o):∀ u∈cs,u.oneCell'=true:=by
 cases o with
 | none=>rw [h.2.1 rfl]; simp [o3,Value.oneCell']
 | some t=>exact (h.2.2 t rfl).one
theorem KnownC.rd {S:aF} {kb kp:Nat} {kc:Array Value} {st:bt} {E:TypeId} (hS:S kb=some (.cells kc E)) (h:KnownC S kc st) (hst:st.length=26) (hkp:26<=kp) (hkm:kp<=maxLen):RdSl S 4 (KRel S) (kvn kb kp) st:=by
 refine ⟨some ⟨kb,0,none⟩,kp,by rw [hst],by omega,hkm,.inr ⟨kb,0,kc,E,(0,0),rfl,hS,fun i hi=>?_⟩⟩
 obtain ⟨h1,h2⟩:=h.2 i hi
 rw [Nat.zero_add]
 refine ⟨?_,h1,h2⟩
 have:=h.1
 rw [bw,List.length_take,List.length_drop,Array.length_toList]
 omega
theorem KnownC.of_rows {S:aF} {cur:Array Value} {css:List (List Value)} {st:bt} (h:Rows 4 (KRel S) css st) (hst:st.length=26) {cap:Nat} (hcap:26<=cap) (hs:cur.size=cap * 4) (ht:cur.toList.take (css.length * 4)=css.flatten):KnownC S cur st:=by
 have hc:=h.hc
 refine ⟨by omega,fun i hi=>?_⟩
 have hi':i<css.length:=by omega
 have hfl:=jB 4 css i h.hk hi'
 have e:bw cur (i * 4) 4=css[i]:=by
  rw [<- hfl,<- ht,List.drop_take,List.take_take,Nat.min_eq_left (by omega)]
  rfl
 have hr:=h.hR i hi hi'
 rw [<- e] at hr
 exact ⟨hr.2.1,hr.2.2⟩
section
attribute [local irreducible] Run CondV ah be
abbrev MX (r:Bool × bt):Value->List Item->aF->Prop:=fun v I' S'=>I'=[]/\∃ kb kp kc,v=.tuple #[kvn kb kp,.bool r.1]/\26<=kp/\kp<=maxLen/\S' kb=some (.cells kc ab)/\KnownC S' kc r.2
theorem KnownC.mono {S S':aF} {kc:Array Value} {st:bt} (h:KnownC S kc st) (hs:Sle S S'):KnownC S' kc st:=
 ⟨h.1,fun i hi=>⟨(h.2 i hi).1,fun t ht=>((h.2 i hi).2 t ht).mono hs⟩⟩
theorem zO {g f:T} {S:aF} {cs ds:List Value} {kb kp:Nat} {kc:Array Value} {st:bt} (hg:RdT S cs g) (hf:RdT S ds f) (hv:okV g) (hk:okK f) (hst:uH st) (hkp:26<=kp) (hkm:kp<=maxLen)
  (hS:S kb=some (.cells kc ab)) (hkc:KnownC S kc st):Tri Tryz.prog C4 [.agg cs.toArray,.agg ds.toArray,kvn kb kp] [] S (MX (bI g f st)):=by
 intro w hI
 have hlg:=hg.length
 have hlf:=hf.length
 refine uh ?_
 unfold pN
 refine bQ hI fun b3 w' hI=>?_
 refine bQ hI fun b4 w' hI=>?_
 refine eO hI bK fun v0 w' hI=>?_
 have hI:Inv w [] [.blk b3 (.cells cs.toArray ab),.blk b4 (.cells ds.toArray ab),bh v0 ab 4 []] S w':=hI
 have hrd:=hkc.rd hS hst.1 hkp hkm
 refine gL hI 2 (css:=[]) bK (by omega) rfl hrd (fun _ _ h=>h.1) (fun _ _=>KRel.one) (by simp [hst.1]) (by omega) fun v1 w' css hR hI=>?_
 have hI:Inv w [] ([.blk b3 (.cells cs.toArray ab),.blk b4 (.cells ds.toArray ab)]++[bh v1 ab 4 css]) S w':=by simpa using hI
 have hcl:css.length=26:=by rw [hR.hc]; exact hst.1
 obtain ⟨_,ho⟩:=hI.openRow
 rcases ho with ⟨_,h0⟩|⟨nb,cap,cur,rfl,hnc,hcm,hcs,ht,hI⟩
 ·omega
 rw [hcl] at hnc
 have hkc':=KnownC.of_rows hR hst.1 hnc hcs ht
 rw [hcl]
 refine bb hI 0 ao rfl (by simpa using hlg) ?_
 refine bb hI 1 ao rfl (by simpa using hlf) ?_
 refine Run.call (A:=[_,_]) rS rh hI (As cap _ _ S _ _ nb cur st hg hf hv hk hst hkc') fun v' I' S' w'=>?_
 rintro ⟨rfl,rfl,kc2,rfl,hk2⟩ _ hI
 obtain ⟨S',hI,hE,hins⟩:=Inv.pubExt (A:=[.blk b3 (.cells cs.toArray ab),.blk b4 (.cells ds.toArray ab)]) (L:=[(nb,.cells kc2 ab)]) hI
 exact ⟨_,_,_,rfl,hI.pick [false,false],hE,rfl,nb,cap,kc2,rfl,hnc,hcm,hins _ (List.mem_singleton.2 rfl),hk2.mono hE.1⟩
theorem Bc {g:T} {S:aF} {cs:List Value} {kb kp:Nat} {kc:Array Value} {st:bt} (hg:RdT S cs g) (hv:okV g) (hw:wT g<=1048576) (hst:uH st) (hsw:stW st)
  (hS:S kb=some (.cells kc ab)) (hkc:KnownC S kc st):Tri Tryz.prog Gp [.agg cs.toArray,kvn kb kp] [] S (FV S (lq g st)):=by
 intro w hI
 obtain ⟨kv,rfl,h1,h2,hs,hks⟩:=RdT.iff.1 hg
 obtain ⟨k,n,s,ks⟩:=g
 simp only [T.name,T.kids,T.kind,T.n] at h1 h2 hs hks ⊢
 simp only [wT] at hw
 rw [okV] at hv
 have hvk:=hv.2
 refine wA ?_
 unfold rJ
 refine bQ hI fun b2 w' hI=>?_
 obtain ⟨hI,hle⟩:=Inv.publishLast (L:=[]) hI
 have hb2:lA S b2 (.cells (Value.agg #[.int .i64 k,.int .i64 n,.string s,kv]).cells ab) b2=some (.cells #[.int .i64 k,.int .i64 n,.string s,kv] ab):=by simp [lA,Value.cells]
 generalize lA S b2 (.cells (Value.agg #[.int .i64 k,.int .i64 n,.string s,kv]).cells ab)=S1 at hI hle hb2
 have hks1:=hks.monoT hle
 have hS1:=hle _ _ hS
 have hkc1:=hkc.mono hle
 refine bH hI bL fun b4 w' hI=>?_
 refine bi bD ?_
 refine dY bo (by rw [hI.cellS hb2]; rfl) ?_
 refine bi bp ?_
 refine dY bm (by rw [hI.cellS hb2]; rfl) ?_
 have hb:∀ {K:Value->World->Prop} {w':World},K (.agg #[.int .i64 k,.int .i64 0,.string s,.slice none 0 0]) w'->Run Tryz.prog (dD ab [(0,.int .i64 k),(2,.string s)]) w' K:=by
  intro K w' hk
  refine Run.of (v:=.agg #[.int .i64 k,.int .i64 0,.string s,.slice none 0 0]) (w':=w') ?_ hk
  unfold dD
  rw [Sem.run_bind,run_build w' ab _ #[.int .i64 k,.int .i64 0,.string s,.slice none 0 0] (by kernel_rfl),Result.andThen_ok]
  rfl
 refine hb ?_
 refine bH hI bL fun b5 w' hI=>?_
 refine bg hI 1 rfl ao rfl rfl (by simp [Value.oneCell']) fun w' hI=>?_
 have hI:=hI.rowNil ab 4
 refine ⟨fun i w'=>∃ (j:Nat) (kvc:Value) (Ls:List bE) (css:List (List Value)),j<=ks.length/\i=.int .i64 j/\Grown 4 TrT Ls css ((ks.take j).map (gN st))/\
   Inv w [] (.blk b4 (.cells #[.int .i64 0,.int .i64 0,.string ⟨#[]⟩,.slice none 0 0] ab)::.blk b5 (.cells #[.int .i64 k,.int .i64 0,.string s,kvc] ab)::bh kvc ab 4 css::bO Ls.flatten) S1 w',
  fun i _=>ks.length - (intOf i).toNat,⟨0,_,[],[],Nat.zero_le _,rfl,Grown.nil _ _,hI⟩,?_⟩
 intro t6 _ _ _ _ _ _ _ _ _ _ _ _ _ _ _ _ _ _ _ _ _ _ _ _ _ _ _ _ w'
 rintro ⟨j,kvc,Ls,css,hj,rfl,hg',hI⟩
 refine bi aT ?_
 refine dY aR (by rw [hI.cellS hb2]; rfl) ?_
 refine a9 hks1 ay ?_
 refine bW ?_
 refine bl (fun hji=>?_) (fun hji=>?_)
 ·have hj':j<ks.length:=by omega
  have hjl:(ks.take j).length=j:=by simp; omega
  have hcl:=hg'.hc
  rw [List.length_map] at hcl
  have hm:=List.getElem_mem hj'
  have hwm:=jS hm
  have hvj:=nH hvk _ hm
  refine bi aT ?_
  refine dY aR (by rw [hI.cellS hb2]; rfl) ?_
  refine dZ hI hks1 ay ao hj' (fun _ _=>RdT.length) fun cs0 hcs0=>?_
  refine bH hI bL fun b7 w' hI=>?_
  have hI:=hI.perm (M:=.blk b7 _::(.blk b4 (.cells #[.int .i64 0,.int .i64 0,.string ⟨#[]⟩,.slice none 0 0] ab)::.blk b5 (.cells #[.int .i64 k,.int .i64 0,.string s,kvc] ab)::bh kvc ab 4 css::bO Ls.flatten)) (List.perm_append_comm (l₁:=[_]))
  refine bg hI 0 rfl ao (by simpa using hcs0.length) rfl (by simpa using hcs0.one) fun w' hI=>?_
  refine ⟨fun w'=>∃ c7,RdT S1 c7 (gN st ks[j])/\Inv w [] (.blk b7 (.cells c7.toArray ab)::.blk b4 (.cells #[.int .i64 0,.int .i64 0,.string ⟨#[]⟩,.slice none 0 0] ab)::.blk b5 (.cells #[.int .i64 k,.int .i64 0,.string s,kvc] ab)::bh kvc ab 4 css::bO Ls.flatten) S1 w',?_,?_⟩
  ·obtain ⟨x0,hc0,_⟩:=RdT.iff.1 hcs0
   refine aI hI 0 (u:=.int .i64 ks[j].kind) rfl bD bo (by rw [hc0]; rfl) ?_
   refine bR ?_
   refine bl (fun hk1=>?_) (fun hk1=>?_)
   ·have hvn:0<=ks[j].n/\ks[j].n<=25:=by
     have hx:=hvj
     generalize ks[j]=x at hx hk1
     cases x
     rw [okV] at hx
     exact hx.1 hk1
    obtain ⟨m,hm'⟩:∃ m:Nat,ks[j].n=m:=⟨ks[j].n.toNat,by omega⟩
    have hm26:m<26:=by omega
    have hget:=hkc1.get hst.1 hm26
    rw [gN,if_pos hk1,hm']
    refine aI hI 0 (u:=.int .i64 ks[j].n) rfl bF bo (by rw [hc0]; rfl) ?_
    rw [hm']
    refine bk ay hm26 ?_
    refine cU (cs:=bw kc (m * 4) 4) ao hget.length (fun i v hi=>by rw [hI.cellS hS1,Nat.zero_add]; exact bn rfl i v hi) ?_
    refine bg hI 0 rfl ao (by simpa using hget.length) (by simpa using hcs0.length) (by simpa using hget.one) fun w' hI=>?_
    exact ⟨_,hget,hI⟩
   ·rw [gN,if_neg hk1]
    exact ⟨_,hcs0,hI⟩
  intro _ _ _ _ _ _ _ _ w'
  rintro ⟨c7,hc7,hI⟩
  refine ⟨fun D eG d5 eF dQ dO g6 ek w_=>(D 0=true->ek=.pointer (some ⟨b5,3,none⟩))/\(D 1=true->g6=kvc)/\(D 2=true->dO=.agg c7.toArray)/\(D 3=true->True)/\(D 4=true->True)/\(D 5=true->True)/\(D 6=true->eG=.pointer (some ⟨b5,3,none⟩))/\(D 7=true->True)/\∃ M cs7 b8,(D 3=true->dQ=.agg cs7.toArray/\TrT M cs7 (gN st ks[j]))/\(D 4=true->eF=.slice (some ⟨b8,0,none⟩) 1 1)/\(D 4=true->D 3=true)/\(D 5=true->D 4=true)/\(D 7=true->D 5=true)/\(D 7=true->D 1=true)/\Inv w [] (bv (.blk b7 (.cells c7.toArray ab)) (.blk b4 (.cells #[.int .i64 0,.int .i64 0,.string ⟨#[]⟩,.slice none 0 0] ab)) (.blk b5 (.cells #[.int .i64 k,.int .i64 0,.string s,kvc] ab)) (.blk b5 (.cells #[.int .i64 k,.int .i64 0,.string s,d5] ab)) (bh kvc ab 4 css) (bh d5 ab 4 (css++[cs7])) (bO Ls.flatten) M (.blk b8 (.cells cs7.toArray ab)) (D 3) (D 4) (D 5) (D 7)) S1 w_,⟨ae,ae,ae,ae,ae,ae,ae,ae,⟨[],[],0,ae,ae,ae,ae,ae,ae,by simpa [bv,bO] using hI.draw⟩⟩,⟨?_,?_,?_,?_,?_,?_,?_,?_,trivial⟩,?_⟩
  ·intro D aY  eG d5 eF dQ dO g6 ek w_
   rintro ⟨aA,aB,aC,az,av,aE,aD,aH,⟨M,cs7,b8,e7,e8,k8,k9,k11,k1,hI⟩⟩
   refine bi aT ?_
   exact ⟨fun _=>rfl,aB,aC,az,av,aE,aD,aH,⟨M,cs7,b8,e7,e8,k8,k9,k11,k1,hI⟩⟩
  ·intro D aY b0 eG d5 eF dQ dO g6 ek w_
   rintro ⟨aA,aB,aC,az,av,aE,aD,aH,⟨M,cs7,b8,e7,e8,k8,k9,k11,k1,hI⟩⟩
   obtain rfl:=aA b0
   have f11:D 7=false:=Bool.eq_false_iff.2 fun h=>by rw [k1 h] at aY; cases aY
   refine bG (b:=b5) hI 2 (c:=(#[.int .i64 k,.int .i64 0,.string s,kvc])) aR (by rw [f11]; rfl) rfl ?_
   have k1:=fun (_:aw D 1 7=true)=>(rfl:aw D 1 1=true)
   exact ⟨aA,fun _=>rfl,aC,az,av,aE,aD,aH,⟨M,cs7,b8,e7,e8,k8,k9,k11,k1,hI⟩⟩
  ·intro D aY  eG d5 eF dQ dO g6 ek w_
   rintro ⟨aA,aB,aC,az,av,aE,aD,aH,⟨M,cs7,b8,e7,e8,k8,k9,k11,k1,hI⟩⟩
   refine bb hI 0 ao rfl (by simpa using hc7.length) ?_
   exact ⟨aA,aB,fun _=>rfl,az,av,aE,aD,aH,⟨M,cs7,b8,e7,e8,k8,k9,k11,k1,hI⟩⟩
  ·intro D aY ec eG d5 eF dQ dO g6 ek w_
   rintro ⟨aA,aB,aC,az,av,aE,aD,aH,⟨M,cs7,b8,e7,e8,k8,k9,k11,k1,hI⟩⟩
   obtain rfl:=aC ec
   have f8:D 4=false:=Bool.eq_false_iff.2 fun h=>by rw [k8 h] at aY; cases aY
   have f9:D 5=false:=Bool.eq_false_iff.2 fun h=>by rw [k9 h] at f8; cases f8
   have f11:D 7=false:=Bool.eq_false_iff.2 fun h=>by rw [k11 h] at f9; cases f9
   rw [aY,f8,f9,f11] at hI
   refine Run.call0 eZ fc hI (fN _ S1 _ hc7 (KQ hsw hj' (by omega))) fun v' I' S1 w_=>?_
   rintro ⟨rfl,cs7,M,rfl,rfl,hT⟩ _ hI
   have e7:aw D 3 3=true->Value.agg cs7.toArray=Value.agg cs7.toArray/\TrT M cs7 (gN st ks[j]):=fun _=>⟨rfl,hT⟩
   have k8:=fun (_:aw D 3 4=true)=>(rfl:aw D 3 3=true)
   have hI:Inv w [] (bv (.blk b7 (.cells c7.toArray ab)) (.blk b4 (.cells #[.int .i64 0,.int .i64 0,.string ⟨#[]⟩,.slice none 0 0] ab)) (.blk b5 (.cells #[.int .i64 k,.int .i64 0,.string s,kvc] ab)) (.blk b5 (.cells #[.int .i64 k,.int .i64 0,.string s,d5] ab)) (bh kvc ab 4 css) (bh d5 ab 4 (css++[cs7])) (bO Ls.flatten) M (.blk b8 (.cells cs7.toArray ab)) true (D 4) (D 5) (D 7)) S1 w_:=by
    rw [f8,f9,f11]
    simpa [bv] using hI
   exact ⟨aA,aB,aC,fun _=>by first|assumption|trivial,av,aE,aD,aH,⟨M,cs7,b8,e7,e8,k8,k9,k11,k1,hI⟩⟩
  ·intro D aY dB eG d5 eF dQ dO g6 ek w_
   rintro ⟨aA,aB,aC,az,av,aE,aD,aH,⟨M,cs7,b8,e7,e8,k8,k9,k11,k1,hI⟩⟩
   have N0:=az dB
   have f9:D 5=false:=Bool.eq_false_iff.2 fun h=>by rw [k9 h] at aY; cases aY
   have f11:D 7=false:=Bool.eq_false_iff.2 fun h=>by rw [k11 h] at f9; cases f9
   obtain ⟨q7,hT⟩:=e7 dB
   subst q7
   rw [dB,aY,f9,f11] at hI
   refine eN hI bK (by simp [Value.cells,hT.length]) (by omega) (by omega) fun b8 w_ hI=>?_
   have e7:aw D 4 3=true->Value.agg cs7.toArray=Value.agg cs7.toArray/\TrT M cs7 (gN st ks[j]):=fun _=>⟨rfl,hT⟩
   have e8:=fun (_:aw D 4 4=true)=>(rfl:Value.slice (some ⟨b8,0,none⟩) 1 1=_)
   have k8:=fun (_:aw D 4 4=true)=>dB
   have k9:=fun (_:aw D 4 5=true)=>(rfl:aw D 4 4=true)
   have hI:Inv w [] (bv (.blk b7 (.cells c7.toArray ab)) (.blk b4 (.cells #[.int .i64 0,.int .i64 0,.string ⟨#[]⟩,.slice none 0 0] ab)) (.blk b5 (.cells #[.int .i64 k,.int .i64 0,.string s,kvc] ab)) (.blk b5 (.cells #[.int .i64 k,.int .i64 0,.string s,d5] ab)) (bh kvc ab 4 css) (bh d5 ab 4 (css++[cs7])) (bO Ls.flatten) M (.blk b8 (.cells cs7.toArray ab)) (D 3) true (D 5) (D 7)) S1 w_:=by
    rw [dB,f9,f11]
    simpa [bv,Value.cells] using hI
   exact ⟨aA,aB,aC,az,fun _=>by first|assumption|trivial,aE,aD,aH,⟨M,cs7,b8,e7,e8,k8,k9,k11,k1,hI⟩⟩
  ·intro D aY dE dM KO eG d5 eF dQ dO g6 ek w_
   rintro ⟨aA,aB,aC,az,av,aE,aD,aH,⟨M,cs7,b8,e7,e8,k8,k9,k11,k1,hI⟩⟩
   obtain rfl:=aB dE
   have MQ:=av dM
   have f11:D 7=false:=Bool.eq_false_iff.2 fun h=>by rw [k11 h] at aY; cases aY
   have q8:=e8 dM
   subst q8
   obtain ⟨_,hT⟩:=e7 KO
   rw [KO,dM,aY,f11] at hI
   have hblk:((bv (.blk b7 (.cells c7.toArray ab)) (.blk b4 (.cells #[.int .i64 0,.int .i64 0,.string ⟨#[]⟩,.slice none 0 0] ab)) (.blk b5 (.cells #[.int .i64 k,.int .i64 0,.string s,g6] ab)) (.blk b5 (.cells #[.int .i64 k,.int .i64 0,.string s,d5] ab)) (bh g6 ab 4 css) (bh d5 ab 4 (css++[cs7])) (bO Ls.flatten) M (.blk b8 (.cells cs7.toArray ab)) true true false false))[4+(bO Ls.flatten).length+(bO M).length]?=some (.blk b8 (.cells cs7.toArray ab)):=by
    have e4:4+(bO Ls.flatten).length+(bO M).length=((bO Ls.flatten).length+(bO M).length)+1+1+1+1:=by omega
    rw [e4]
    simp only [bv,List.getElem?_cons_succ]
    rw [List.getElem?_append_right (by omega),Nat.add_sub_cancel_left,List.getElem?_append_right (Nat.le_refl _),Nat.sub_self]; rfl
   refine fy hI 3 cs7 bK (by omega) rfl (by rw [hT.length]) (m:=1) (o:=0) ?_ hT.one (by omega) (by omega) fun v' w_ hI=>?_
   ·intro i u hi
    rw [hI.cellL hblk,Nat.zero_add]
    simpa using hi
   rw [fS] at hI
   have k9:=fun (_:aw D 5 5=true)=>dM
   have k11:=fun (_:aw D 5 7=true)=>(rfl:aw D 5 5=true)
   have hI:Inv w [] (bv (.blk b7 (.cells c7.toArray ab)) (.blk b4 (.cells #[.int .i64 0,.int .i64 0,.string ⟨#[]⟩,.slice none 0 0] ab)) (.blk b5 (.cells #[.int .i64 k,.int .i64 0,.string s,g6] ab)) (.blk b5 (.cells #[.int .i64 k,.int .i64 0,.string s,v'] ab)) (bh g6 ab 4 css) (bh v' ab 4 (css++[cs7])) (bO Ls.flatten) M (.blk b8 (.cells cs7.toArray ab)) (D 3) (D 4) true (D 7)) S1 w_:=by
    rw [KO,dM,f11]
    exact hI
   exact ⟨aA,aB,aC,az,av,fun _=>by first|assumption|trivial,aD,aH,⟨M,cs7,b8,e7,e8,k8,k9,k11,k1,hI⟩⟩
  ·intro D aY b0 il wv DJ yE HN eG d5 eF dQ dO g6 ek w_
   rintro ⟨aA,aB,aC,az,av,aE,aD,aH,⟨M,cs7,b8,e7,e8,k8,k9,k11,k1,hI⟩⟩
   refine bi aT ?_
   exact ⟨aA,aB,aC,az,av,aE,fun _=>rfl,aH,⟨M,cs7,b8,e7,e8,k8,k9,k11,k1,hI⟩⟩
  ·intro D aY cJ g0 JH DW mj Ee yD zv D9 eG d5 eF dQ dO g6 ek w_
   rintro ⟨aA,aB,aC,az,av,aE,aD,aH,⟨M,cs7,b8,e7,e8,k8,k9,k11,k1,hI⟩⟩
   obtain rfl:=aD cJ
   have LM:=aE g0
   rw [yD,zv,g0,aY] at hI
   obtain ⟨va,vn,vc,hv9⟩:=Inv.rowSlice hI 3 rfl
   refine fg hI 2 (n:=1) (by rw [hv9]; rfl) (by decide +kernel) rfl (by simp) (by rw [hv9]; simp [Value.cells,Value.oneCell']) fun w_ hI=>?_
   have hcl9:Value.cells d5=#[d5]:=by rw [hv9]; rfl
   rw [hcl9] at hI
   have k1:=fun (_:aw D 7 7=true)=>mj
   have k11:=fun (_:aw D 7 7=true)=>g0
   have hI:Inv w [] (bv (.blk b7 (.cells c7.toArray ab)) (.blk b4 (.cells #[.int .i64 0,.int .i64 0,.string ⟨#[]⟩,.slice none 0 0] ab)) (.blk b5 (.cells #[.int .i64 k,.int .i64 0,.string s,kvc] ab)) (.blk b5 (.cells #[.int .i64 k,.int .i64 0,.string s,d5] ab)) (bh kvc ab 4 css) (bh d5 ab 4 (css++[cs7])) (bO Ls.flatten) M (.blk b8 (.cells cs7.toArray ab)) (D 3) (D 4) (D 5) true) S1 w_:=by
    rw [yD,zv,g0]
    exact hI
   exact ⟨aA,aB,aC,az,av,aE,aD,fun _=>trivial,⟨M,cs7,b8,e7,e8,k8,k9,k11,k1,hI⟩⟩
  intro D fK fL fH fC fB fE fM fJ eG d5 eF dQ dO g6 ek w_
  rintro ⟨aA,aB,aC,az,av,aE,aD,aH,⟨M,cs7,b8,e7,e8,k8,k9,k11,k1,hI⟩⟩
  obtain rfl:=aD fL
  have LM:=aE fH
  have MQ:=av fC
  have N0:=az fB
  obtain rfl:=aC fE
  obtain rfl:=aB fM
  obtain rfl:=aA fJ
  clear aA aB aC az av aE aD aH
  obtain ⟨_,hT⟩:=e7 fB
  rw [fB,fC,fH,fK] at hI
  refine bN (by omega) ?_
  refine ⟨⟨j+1,d5,Ls++[M],css++[cs7],hj',rfl,?_,?_⟩,by simp [intOf]; omega⟩
  ·rw [HP st ks j hj']
   exact hg'.snoc hT hT.length
  ·simp only [List.flatten_append,List.flatten_cons,List.flatten_nil,List.append_nil,e9]
   refine hI.sub ?_
   simp only [bv]
   rw [<- List.append_assoc]
   exact ((((List.sublist_append_left _ _).cons_cons _).cons_cons _).cons_cons _).cons _
 ·have:j=ks.length:=by omega
  subst this
  rw [List.take_length] at hg'
  obtain ⟨va,vn,vc,hvk'⟩:=hI.rowSlice 2 rfl
  have hv1:kvc.oneCell'=true:=by rw [hvk']; rfl
  refine bb hI 1 ao rfl rfl ?_
  refine bg hI 0 rfl ao rfl rfl ?_ fun w' hI=>?_
  ·intro u hu
   have hu':u∈([.int .i64 k,.int .i64 0,.string s,kvc]:List Value):=hu
   simp at hu'
   rcases hu' with rfl|rfl|rfl|rfl <;> first|rfl|exact hv1
  refine cG hI 0 ao rfl rfl ?_
  have hI:Inv w [] ([]++(bh kvc ab 4 css::bO Ls.flatten)) S1 w':=hI.sub (List.sublist_append_right [_,_] _)
  obtain ⟨L,hT,hI⟩:=Inv.rowTree hI hg'
  exact ⟨_,_,_,rfl,hI.less hle,Ext.refl _ _ _,rfl,_,L,rfl,rfl,TrT.iff.2 ⟨kvc,rfl,h1,by simp [inI,lq,T.n],hs,hT⟩⟩
end

end Go.Proofs.YtemmhhdnlbmicaaGreat

/- impl.mapVars with a function that only reads: the result is published. -/
namespace Go.Proofs.YtemmhhdnlbmicaaGreat
open Go Go.RowKit
mutual
def yY (φ:Int->T):T->T
 | .mk k n s ks=>if k=1 then φ n else .mk k n s (wl φ ks)
def wl (φ:Int->T):List T->List T
 | []=>[]
 | t::ts=>yY φ t::wl φ ts
end
theorem lH (φ:Int->T):∀ ts:List T,wl φ ts=ts.map (yY φ)
 | []=>rfl
 | t::ts=>by rw [wl,lH φ ts]; rfl
theorem Hw (φ:Int->T) (ks:List T) (j:Nat) (h:j<ks.length):wl φ (ks.take (j+1))=wl φ (ks.take j)++[yY φ ks[j]]:=by
 rw [lH,lH,List.take_succ_eq_append_getElem h,List.map_append]; rfl
/- a function from numbers to terms that only reads -/
def Fun (f:FuncId) (cap:List Value) (S:aF) (φ:Int->T):Prop:=∀ S',Sle S S'->∀ n:Int,0<=n->n<=25->∃ cs,RdT S' cs (φ n)/\Pure Tryz.prog f (.int .i64 n::cap) S' (.agg cs.toArray)
theorem Fun.mono {f:FuncId} {cap:List Value} {S S':aF} {φ:Int->T} (h:Fun f cap S φ) (hs:Sle S S'):Fun f cap S' φ:=fun S2 h2=>h S2 (hs.trans h2)
abbrev Nj (t:T):Value->List Item->aF->Prop:=fun v I' S'=>I'=[]/\∃ cs,v=.agg cs.toArray/\RdT S' cs t
section
attribute [local irreducible] Run CondV ah be
theorem H5 {f:FuncId} {fn:Func} (cap:List Value) (φ:Int->T) (hf:Tryz.prog.funcs[f]?=some fn) (hn:(fn.name == "runtime.NumGoroutine" || fn.body.isNone)=false) :
  ∀ (t:T) (S:aF) (cs:List Value),RdT S cs t->okV t->wT t<=1048576->Fun f cap S φ->Tri Tryz.prog Ft [.agg cs.toArray,fv f cap] [] S (Nj (yY φ t)):=by
 refine T.ind fun k n s ks ih S cs h hv hw hφ=>?_
 intro w hI
 obtain ⟨kv,rfl,h1,h2,hs,hks⟩:=RdT.iff.1 h
 simp only [T.name,T.kids,T.kind,T.n] at h1 h2 hs hks ⊢
 simp only [wT] at hw
 rw [okV] at hv
 have hvk:=hv.2
 refine xH ?_
 unfold sv
 refine bQ hI fun b2 w' hI=>?_
 refine bH hI bL fun b4 w' hI=>?_
 refine aI hI 0 rfl bD bo rfl ?_
 refine bR ?_
 rw [yY]
 refine bl (fun hk1=>?_) (fun hk1=>?_)
 ·rw [if_pos hk1]
  obtain ⟨hn0,hn25⟩:=hv.1 hk1
  refine aI hI 0 rfl bF bo rfl ?_
  obtain ⟨ds,hds,hp⟩:=hφ S (Sle.refl S) n hn0 hn25
  refine Run.callVPure hf hn hI hp fun w' hI=>?_
  refine bg hI 1 rfl ao (by simpa using hds.length) rfl (by simpa using hds.one) fun w' hI=>?_
  refine cG hI 1 ao rfl (by simpa using hds.length) ?_
  exact ⟨_,_,_,rfl,hI.pick [false,false],Ext.refl _ _ _,rfl,ds,rfl,hds⟩
 rw [if_neg hk1]
 refine aI hI 0 rfl aT aR rfl ?_
 refine ji hI 0 rfl aT aR rfl rfl rfl fun w' hI=>?_
 refine a9 hks ay ?_
 have hI:Inv w [] [.blk b4 (.cells #[.int .i64 0,.int .i64 0,.string ⟨#[]⟩,.slice none 0 0] ab),.blk b2 (.cells #[.int .i64 k,.int .i64 n,.string s,.slice none 0 0] ab)] S w':=hI.perm (List.Perm.swap _ _ _)
 have hI:=hI.rowNil ab 4
 refine ⟨fun i w'=>∃ (j:Nat) (kvc:Value) (css:List (List Value)) (S1:aF),j<=ks.length/\i=.int .i64 j/\Ext w.heap.size [] S S1/\Rows 4 (RdT S1) css (wl φ (ks.take j))/\
   Inv w [] [.blk b4 (.cells #[.int .i64 0,.int .i64 0,.string ⟨#[]⟩,.slice none 0 0] ab),.blk b2 (.cells #[.int .i64 k,.int .i64 n,.string s,kvc] ab),bh kvc ab 4 css] S1 w',
  fun i _=>ks.length - (intOf i).toNat,⟨0,_,[],S,Nat.zero_le _,rfl,Ext.refl _ _ _,Rows.nil _ _,hI⟩,?_⟩
 intro t20 _ _ _ _ _ _ _ _ _ _ _ _ _ w'
 rintro ⟨j,kvc,css,S1,hj,rfl,hE,hg,hI⟩
 refine bW ?_
 refine bl (fun hji=>?_) (fun hji=>?_)
 ·have hj':j<ks.length:=by omega
  have hjl:(ks.take j).length=j:=by simp; omega
  have hcl:=hg.hc
  rw [lH,List.length_map] at hcl
  have hm:=List.getElem_mem hj'
  have hwm:=jS hm
  refine dZ hI (hks.monoT hE.1) ay ao hj' (fun _ _=>RdT.length) fun cs0 hcs0=>?_
  refine bH hI bL fun b7 w' hI=>?_
  have hI:=hI.perm (M:=.blk b7 _::[.blk b4 (.cells #[.int .i64 0,.int .i64 0,.string ⟨#[]⟩,.slice none 0 0] ab),.blk b2 (.cells #[.int .i64 k,.int .i64 n,.string s,kvc] ab),bh kvc ab 4 css]) (List.perm_append_comm (l₁:=[_]))
  refine bg hI 0 rfl ao (by simpa using hcs0.length) rfl (by simpa using hcs0.one) fun w' hI=>?_
  refine ⟨fun D dU dH dv cI cX bZ bS bV w_=>(D 0=true->bV=.pointer (some ⟨b2,3,none⟩))/\(D 1=true->bS=kvc)/\(D 2=true->bZ=.agg cs0.toArray)/\(D 3=true->cX=fv f cap)/\(D 4=true->True)/\(D 5=true->True)/\(D 6=true->True)/\(D 7=true->dU=.pointer (some ⟨b2,3,none⟩))/\(D 8=true->True)/\∃ SN cs7 b8,Ext w.heap.size [] S1 SN/\(D 4=true->cI=.agg cs7.toArray/\RdT SN cs7 (yY φ ks[j]))/\(D 5=true->dv=.slice (some ⟨b8,0,none⟩) 1 1)/\(D 5=true->D 4=true)/\(D 6=true->D 5=true)/\(D 8=true->D 6=true)/\(D 8=true->D 1=true)/\Inv w [] (bv (.blk b7 (.cells cs0.toArray ab)) (.blk b4 (.cells #[.int .i64 0,.int .i64 0,.string ⟨#[]⟩,.slice none 0 0] ab)) (.blk b2 (.cells #[.int .i64 k,.int .i64 n,.string s,kvc] ab)) (.blk b2 (.cells #[.int .i64 k,.int .i64 n,.string s,dH] ab)) (bh kvc ab 4 css) (bh dH ab 4 (css++[cs7])) [] [] (.blk b8 (.cells cs7.toArray ab)) false (D 5) (D 6) (D 8)) SN w_,⟨ae,ae,ae,ae,ae,ae,ae,ae,ae,⟨S1,[],0,Ext.refl _ _ _,ae,ae,ae,ae,ae,ae,by simpa [bv] using hI.draw⟩⟩,⟨?_,?_,?_,?_,?_,?_,?_,?_,?_,trivial⟩,?_⟩
  ·intro D aY  dU dH dv cI cX bZ bS bV w_
   rintro ⟨aA,aB,aC,az,av,aE,aD,aH,aK,⟨SN,cs7,b8,hN,e7,e8,k8,k9,k11,k1,hI⟩⟩
   refine bi aT ?_
   exact ⟨fun _=>rfl,aB,aC,az,av,aE,aD,aH,aK,⟨SN,cs7,b8,hN,e7,e8,k8,k9,k11,k1,hI⟩⟩
  ·intro D aY b0 dU dH dv cI cX bZ bS bV w_
   rintro ⟨aA,aB,aC,az,av,aE,aD,aH,aK,⟨SN,cs7,b8,hN,e7,e8,k8,k9,k11,k1,hI⟩⟩
   obtain rfl:=aA b0
   have f11:D 8=false:=Bool.eq_false_iff.2 fun h=>by rw [k1 h] at aY; cases aY
   refine bG (b:=b2) hI 2 (c:=(#[.int .i64 k,.int .i64 n,.string s,kvc])) aR (by rw [f11]; rfl) rfl ?_
   have k1:=fun (_:aw D 1 8=true)=>(rfl:aw D 1 1=true)
   exact ⟨aA,fun _=>rfl,aC,az,av,aE,aD,aH,aK,⟨SN,cs7,b8,hN,e7,e8,k8,k9,k11,k1,hI⟩⟩
  ·intro D aY  dU dH dv cI cX bZ bS bV w_
   rintro ⟨aA,aB,aC,az,av,aE,aD,aH,aK,⟨SN,cs7,b8,hN,e7,e8,k8,k9,k11,k1,hI⟩⟩
   refine bb hI 0 ao rfl (by simpa using hcs0.length) ?_
   exact ⟨aA,aB,fun _=>rfl,az,av,aE,aD,aH,aK,⟨SN,cs7,b8,hN,e7,e8,k8,k9,k11,k1,hI⟩⟩
  ·intro D aY  dU dH dv cI cX bZ bS bV w_
   rintro ⟨aA,aB,aC,az,av,aE,aD,aH,aK,⟨SN,cs7,b8,hN,e7,e8,k8,k9,k11,k1,hI⟩⟩
   exact ⟨aA,aB,aC,fun _=>rfl,av,aE,aD,aH,aK,⟨SN,cs7,b8,hN,e7,e8,k8,k9,k11,k1,hI⟩⟩
  ·intro D aY ec mi dU dH dv cI cX bZ bS bV w_
   rintro ⟨aA,aB,aC,az,av,aE,aD,aH,aK,⟨SN,cs7,b8,hN,e7,e8,k8,k9,k11,k1,hI⟩⟩
   obtain rfl:=aC ec
   obtain rfl:=az mi
   have f8:D 5=false:=Bool.eq_false_iff.2 fun h=>by rw [k8 h] at aY; cases aY
   have f9:D 6=false:=Bool.eq_false_iff.2 fun h=>by rw [k9 h] at f8; cases f8
   have f11:D 8=false:=Bool.eq_false_iff.2 fun h=>by rw [k11 h] at f9; cases f9
   rw [f8,f9,f11] at hI
   refine Run.callE (I:=[]) tk tw (by simpa using hI) (ih _ (List.getElem_mem hj') SN cs0 (hcs0.mono hN.1) (nH hvk _ (List.getElem_mem hj')) (by omega) ((hφ.mono hE.1).mono hN.1)) fun v' I' SN w_=>?_
   rintro ⟨rfl,cs7,rfl,hT⟩ hE2 hI
   have hN:=hN.trans hE2
   have e7:aw D 4 4=true->Value.agg cs7.toArray=Value.agg cs7.toArray/\RdT SN cs7 (yY φ ks[j]):=fun _=>⟨rfl,hT⟩
   have k8:=fun (_:aw D 4 5=true)=>(rfl:aw D 4 4=true)
   have hI:Inv w [] (bv (.blk b7 (.cells cs0.toArray ab)) (.blk b4 (.cells #[.int .i64 0,.int .i64 0,.string ⟨#[]⟩,.slice none 0 0] ab)) (.blk b2 (.cells #[.int .i64 k,.int .i64 n,.string s,kvc] ab)) (.blk b2 (.cells #[.int .i64 k,.int .i64 n,.string s,dH] ab)) (bh kvc ab 4 css) (bh dH ab 4 (css++[cs7])) [] [] (.blk b8 (.cells cs7.toArray ab)) false (D 5) (D 6) (D 8)) SN w_:=by
    rw [f8,f9,f11]
    simpa [bv] using hI
   exact ⟨aA,aB,aC,az,fun _=>by first|assumption|trivial,aE,aD,aH,aK,⟨SN,cs7,b8,hN,e7,e8,k8,k9,k11,k1,hI⟩⟩
  ·intro D aY cF dU dH dv cI cX bZ bS bV w_
   rintro ⟨aA,aB,aC,az,av,aE,aD,aH,aK,⟨SN,cs7,b8,hN,e7,e8,k8,k9,k11,k1,hI⟩⟩
   have MQ:=av cF
   have f9:D 6=false:=Bool.eq_false_iff.2 fun h=>by rw [k9 h] at aY; cases aY
   have f11:D 8=false:=Bool.eq_false_iff.2 fun h=>by rw [k11 h] at f9; cases f9
   obtain ⟨q7,hT⟩:=e7 cF
   subst q7
   rw [aY,f9,f11] at hI
   refine eN hI bK (by simp [Value.cells,hT.length]) (by omega) (by omega) fun b8 w_ hI=>?_
   have e7:aw D 5 4=true->Value.agg cs7.toArray=Value.agg cs7.toArray/\RdT SN cs7 (yY φ ks[j]):=fun _=>⟨rfl,hT⟩
   have e8:=fun (_:aw D 5 5=true)=>(rfl:Value.slice (some ⟨b8,0,none⟩) 1 1=_)
   have k8:=fun (_:aw D 5 5=true)=>cF
   have k9:=fun (_:aw D 5 6=true)=>(rfl:aw D 5 5=true)
   have hI:Inv w [] (bv (.blk b7 (.cells cs0.toArray ab)) (.blk b4 (.cells #[.int .i64 0,.int .i64 0,.string ⟨#[]⟩,.slice none 0 0] ab)) (.blk b2 (.cells #[.int .i64 k,.int .i64 n,.string s,kvc] ab)) (.blk b2 (.cells #[.int .i64 k,.int .i64 n,.string s,dH] ab)) (bh kvc ab 4 css) (bh dH ab 4 (css++[cs7])) [] [] (.blk b8 (.cells cs7.toArray ab)) false true (D 6) (D 8)) SN w_:=by
    rw [f9,f11]
    simpa [bv,Value.cells] using hI
   exact ⟨aA,aB,aC,az,av,fun _=>by first|assumption|trivial,aD,aH,aK,⟨SN,cs7,b8,hN,e7,e8,k8,k9,k11,k1,hI⟩⟩
  ·intro D aY dE g0 iP dU dH dv cI cX bZ bS bV w_
   rintro ⟨aA,aB,aC,az,av,aE,aD,aH,aK,⟨SN,cs7,b8,hN,e7,e8,k8,k9,k11,k1,hI⟩⟩
   obtain rfl:=aB dE
   have LM:=aE g0
   have f11:D 8=false:=Bool.eq_false_iff.2 fun h=>by rw [k11 h] at aY; cases aY
   have q8:=e8 g0
   subst q8
   obtain ⟨_,hT⟩:=e7 iP
   rw [g0,aY,f11] at hI
   have hblk:((bv (.blk b7 (.cells cs0.toArray ab)) (.blk b4 (.cells #[.int .i64 0,.int .i64 0,.string ⟨#[]⟩,.slice none 0 0] ab)) (.blk b2 (.cells #[.int .i64 k,.int .i64 n,.string s,bS] ab)) (.blk b2 (.cells #[.int .i64 k,.int .i64 n,.string s,dH] ab)) (bh bS ab 4 css) (bh dH ab 4 (css++[cs7])) [] [] (.blk b8 (.cells cs7.toArray ab)) false true false false))[4]?=some (.blk b8 (.cells cs7.toArray ab)):=rfl
   refine fy hI 3 cs7 bK (by omega) rfl (by rw [hT.length]) (m:=1) (o:=0) ?_ hT.one (by omega) (by omega) fun v' w_ hI=>?_
   ·intro i u hi
    rw [hI.cellL hblk,Nat.zero_add]
    simpa using hi
   rw [fS] at hI
   have k9:=fun (_:aw D 6 6=true)=>g0
   have k11:=fun (_:aw D 6 8=true)=>(rfl:aw D 6 6=true)
   have hI:Inv w [] (bv (.blk b7 (.cells cs0.toArray ab)) (.blk b4 (.cells #[.int .i64 0,.int .i64 0,.string ⟨#[]⟩,.slice none 0 0] ab)) (.blk b2 (.cells #[.int .i64 k,.int .i64 n,.string s,bS] ab)) (.blk b2 (.cells #[.int .i64 k,.int .i64 n,.string s,v'] ab)) (bh bS ab 4 css) (bh v' ab 4 (css++[cs7])) [] [] (.blk b8 (.cells cs7.toArray ab)) false (D 5) true (D 8)) SN w_:=by
    rw [g0,f11]
    exact hI
   exact ⟨aA,aB,aC,az,av,aE,fun _=>by first|assumption|trivial,aH,aK,⟨SN,cs7,b8,hN,e7,e8,k8,k9,k11,k1,hI⟩⟩
  ·intro D aY b0 il wv DJ yE HN Jw dU dH dv cI cX bZ bS bV w_
   rintro ⟨aA,aB,aC,az,av,aE,aD,aH,aK,⟨SN,cs7,b8,hN,e7,e8,k8,k9,k11,k1,hI⟩⟩
   refine bi aT ?_
   exact ⟨aA,aB,aC,az,av,aE,aD,fun _=>rfl,aK,⟨SN,cs7,b8,hN,e7,e8,k8,k9,k11,k1,hI⟩⟩
  ·intro D aY d6 f0 lF DW mj Ee yD zv D9 JS dU dH dv cI cX bZ bS bV w_
   rintro ⟨aA,aB,aC,az,av,aE,aD,aH,aK,⟨SN,cs7,b8,hN,e7,e8,k8,k9,k11,k1,hI⟩⟩
   obtain rfl:=aH d6
   have L4:=aD f0
   rw [D9,f0,aY] at hI
   obtain ⟨va,vn,vc,hv9⟩:=Inv.rowSlice hI 3 rfl
   refine fg hI 2 (n:=1) (by rw [hv9]; rfl) (by decide +kernel) rfl (by simp) (by rw [hv9]; simp [Value.cells,Value.oneCell']) fun w_ hI=>?_
   have hcl9:Value.cells dH=#[dH]:=by rw [hv9]; rfl
   rw [hcl9] at hI
   have k1:=fun (_:aw D 8 8=true)=>mj
   have k11:=fun (_:aw D 8 8=true)=>f0
   have hI:Inv w [] (bv (.blk b7 (.cells cs0.toArray ab)) (.blk b4 (.cells #[.int .i64 0,.int .i64 0,.string ⟨#[]⟩,.slice none 0 0] ab)) (.blk b2 (.cells #[.int .i64 k,.int .i64 n,.string s,kvc] ab)) (.blk b2 (.cells #[.int .i64 k,.int .i64 n,.string s,dH] ab)) (bh kvc ab 4 css) (bh dH ab 4 (css++[cs7])) [] [] (.blk b8 (.cells cs7.toArray ab)) false (D 5) (D 6) true) SN w_:=by
    rw [D9,f0]
    exact hI
   exact ⟨aA,aB,aC,az,av,aE,aD,aH,fun _=>trivial,⟨SN,cs7,b8,hN,e7,e8,k8,k9,k11,k1,hI⟩⟩
  intro D gI fK fL fH fC fB fE fM fJ dU dH dv cI cX bZ bS bV w_
  rintro ⟨aA,aB,aC,az,av,aE,aD,aH,aK,⟨SN,cs7,b8,hN,e7,e8,k8,k9,k11,k1,hI⟩⟩
  obtain rfl:=aH fK
  have L4:=aD fL
  have LM:=aE fH
  have MQ:=av fC
  obtain rfl:=az fB
  obtain rfl:=aC fE
  obtain rfl:=aB fM
  obtain rfl:=aA fJ
  clear aA aB aC az av aE aD aH aK
  obtain ⟨_,hT⟩:=e7 fC
  rw [fH,fL,gI] at hI
  refine bN (by omega) ?_
  refine ⟨⟨j+1,dH,css++[cs7],SN,hj',rfl,hE.trans hN,?_,?_⟩,by simp [intOf]; omega⟩
  ·rw [Hw φ ks j hj']
   exact (Rows.monoR hg fun _ _ h=>h.mono hN.1).snoc hT hT.length
  ·refine hI.sub ?_
   simp only [bv]
   exact ((((List.nil_sublist _).cons_cons _).cons_cons _).cons_cons _).cons _
 ·have:j=ks.length:=by omega
  subst this
  rw [List.take_length] at hg
  obtain ⟨va,vn,vc,hvk'⟩:=hI.rowSlice 2 rfl
  have hv1:kvc.oneCell'=true:=by rw [hvk']; rfl
  refine bb hI 1 ao rfl rfl ?_
  refine bg hI 0 rfl ao rfl rfl ?_ fun w' hI=>?_
  ·intro u hu
   have hu':u∈([.int .i64 k,.int .i64 n,.string s,kvc]:List Value):=hu
   simp at hu'
   rcases hu' with rfl|rfl|rfl|rfl <;> first|rfl|exact hv1
  refine cG hI 0 ao rfl rfl ?_
  have hI:Inv w [] ([]++[bh kvc ab 4 css]) S1 w':=hI.sub (List.sublist_append_right [_,_] _)
  obtain ⟨S2,hE2,hrd,hI⟩:=hI.lendExt
  exact ⟨_,_,_,rfl,hI,hE.trans hE2,rfl,_,rfl,RdT.iff.2 ⟨kvc,rfl,h1,h2,hs,(RowRd.rows hg hrd).mono (Sle.refl _) fun _ _ h=>h.mono hE2.1⟩⟩
end

end Go.Proofs.YtemmhhdnlbmicaaGreat

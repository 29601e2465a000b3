/- spec.l1Draw, l1Some: a drawn term is readable and light. -/
import Derived.Test.YtmnnpgdeecnfpaaGreatZPe6
import Derived.Test.YtmnnpgdeecnfpaaGreatZPe1
import Derived.Test.YtmnnpgdeecnfpaaGreatZPe2
import Derived.Test.YtmnnpgdeecnfpaaGreatZPe3
namespace Go.Proofs.YtmnnpgdeecnfpaaGreat
open Go Go.RowKit
theorem kD {l:List Int} {n a b:Int} (hm:n∈l) (h:(l.all fun n=>decide (a<=n) && decide (n<=b))=true):a<=n/\n<=b:=by
 rw [List.all_eq_true] at h
 have:=h n hm
 rw [Bool.and_eq_true,decide_eq_true_eq,decide_eq_true_eq] at this
 exact this
theorem gp {l:List ByteArray} {s:ByteArray} {m:Nat} (hm:s∈l) (h:(l.all fun s=>decide (s.size<=m))=true):s.size<=m:=by
 rw [List.all_eq_true] at h
 have:=h s hm
 rwa [decide_eq_true_eq] at this
theorem sS {Q B:Prop} {R:Nat->Prop} (h1:Q->B) (h2:∀ n,n<3->R n->B):∀ {n:Nat},dk Q R n->n<4->B
 | 0,h,_=>h1 h
 | n+1,h,hn=>h2 n (by omega) h
theorem dq:∀ l m:List T,wL (l++m)=wL l+wL m
 | [],m=>by simp [wL]
 | t::l,m=>by simp only [List.cons_append,wL,dq l m]; omega
theorem xH {n:Int} (h:0<=n/\n<26):okU 26 (.mk 1 n emptyB []):=by
 simp only [okU,bY]
 exact ⟨by decide,fun _=>⟨h.1,h.2,trivial,trivial⟩,trivial,by decide⟩
theorem xw {n:Int}:okU 26 (.mk 2 n emptyB []):=by
 simp only [okU,bY]
 exact ⟨by decide,(fun h=>by cases h),trivial,by decide⟩
theorem iK {s:ByteArray} {ts:List T} (hs:s.size<=6) (h:bY 26 ts):okU 26 (.mk 3 0 s ts):=by
 simp only [okU]
 exact ⟨by decide,(fun h=>by cases h),h,hs⟩
theorem nR {N:Nat}:∀ {l m:List T},bY N l->bY N m->bY N (l++m)
 | [],_,_,h=>h
 | _::_,_,h,h'=>by
  rw [bY] at h
  rw [List.cons_append,bY]
  exact ⟨h.1,nR h.2 h'⟩
theorem kB {S:Store} {k n:Int} (hk:inI k) (hn:inI n):RdT S [.int .i64 k,.int .i64 n,.string ⟨#[]⟩,.slice none 0 0] (.mk k n emptyB []):=
 RdT.iff.2 ⟨_,rfl,hk,hn,Nat.zero_le _,eI S⟩
section
variable {w0 w:World} {X:List Nat} {L:List Item} {S:Store} {K:Value->World->Prop} {P:Program}
attribute [local irreducible] Run CondV GuardV LoadV
theorem Run.callL {f:FuncId} {fn:Func} {args:List Value} {I:List Item} {Post:Value->List Item->Store->Prop}
  (hf:P.funcs[f]?=some fn) (hn:(fn.name == "runtime.NumGoroutine" || fn.body.isNone)=false) (h:Inv w0 X L S w) (hc:Tri P f args I S Post) (hL:L=L.dropLast++I)
  (hk:∀ v I' S' w',Post v I' S'->Ext w0.heap.size X S S'->Inv w0 X (L.dropLast++I') S' w'->K v w'):Run P (sCall (.func (.func f) #[] #[]) args) w K:=
 Run.callE (A:=L.dropLast) hf hn (hL ▸ h) hc hk
theorem ob {T:TypeId} {cx cy:Bool} {d:Nat} (hd:d<=1000000) (hk:K (.int .i64 (d:Int)) w):Run P (sBin .sub T cx cy (.int .i64 ((d+1:Nat):Int)) (.int .i64 1)) w K:=by
 refine r_sub (by omega) ?_
 rw [show ((d+1:Nat):Int) - 1=d by omega]
 exact hk
theorem oo {B:Prop} {b d:Nat} {c:Array Value} {E:TypeId} {kv xs xa:Value} {css:List (List Value)} {F:Nat->List Item} {Q:List Value->Nat->Store->Prop} {p1:Nat} {S1:Store} {cs:List Value} {t:T}
  (hQ:Q cs p1 S1) (hr:RdT S1 cs t) (hI:Inv w0 X (.blk b (.cells c E)::ax kv ad 4 css::F p1) S1 w):dk B (lo w0 X b c d E kv css F Q (.agg cs.toArray) xs xa w) 1:=
 ⟨p1,S1,cs,hQ,⟨hr.length,hr.one⟩,rfl,hI⟩
end
section
variable {br:Nat} {sl:Value} {ys:List Nat}
attribute [local irreducible] Run CondV GuardV LoadV
abbrev sW (br:Nat) (sl:Value) (ys:List Nat) (d:Nat):Prop:=∀ (p:Nat) (S:Store),RdSl S 1 dD sl ys->p+3 * dW d<=1000000000->Tri Tryz.prog tT [rdP br,.int .i64 (d:Int)] [rdI br sl p] S (yb br sl p d)
theorem pV {d:Nat} (hd4:d<=4) (ih:∀ d',d'+1=d->sW br sl ys d'):sW br sl ys d:=by
 intro p S hrd hp w hI
 have hW:=xn d
 refine nF ?_
 unfold lN
 refine r_alloc hI aK fun b4 w' hI=>?_
 have hI:Inv w [br] [.blk b4 (.cells #[.int .i64 0,.int .i64 0,.string ⟨#[]⟩,.slice none 0 0] ad),rdI br sl p] S w':=hI.last 0 rfl
 refine ⟨fun v w'=>∃ (c:Bool) (p1:Nat),v=.bool c/\p1<=p+1/\(c=false->2<=d)/\Inv w [br] [.blk b4 (.cells #[.int .i64 0,.int .i64 0,.string ⟨#[]⟩,.slice none 0 0] ad),rdI br sl p1] S w',?_,?_⟩
 ·refine r_lss ?_
  by_cases hd:(d:Int)<2
  ·rw [decide_eq_true hd]
   repeat (first|refine ac ?_|refine ag (by decide) ?_|refine ae ?_|refine ai ?_|refine ah ?_)
   exact ⟨true,p,rfl,by omega,(fun h=>by cases h),hI⟩
  ·rw [decide_eq_false hd]
   repeat (first|refine ac ?_|refine ag (by decide) ?_|refine ae ?_|refine ai ?_|refine ah ?_)
   refine Run.callL aM aL hI (bh (n:=4) hrd (by omega) (by omega)) rfl fun v' I' S' w'=>?_
   rintro ⟨rfl,rfl,k,hk,rfl⟩ _ hI
   refine r_eql ?_
   repeat (first|refine ac ?_|refine ag (by decide) ?_|refine ae ?_|refine ai ?_|refine ah ?_)
   exact ⟨_,p+1,rfl,by omega,fun _=>by omega,hI⟩
 intro t13 _ _ _ _ _ _ w'
 rintro ⟨c,p1,rfl,hp1,hcd,hI⟩
 refine condV (fun _=>?_) (fun hc=>?_)
 ·refine Run.callL aM aL hI (bh (n:=4) hrd (by omega) (by omega)) rfl fun v' I' S' w'=>?_
  rintro ⟨rfl,rfl,k,hk,rfl⟩ _ hI
  have hI:Inv w [br] [.blk b4 (.cells #[.int .i64 0,.int .i64 0,.string ⟨#[]⟩,.slice none 0 0] ad),rdI br sl (p1+1)] S' w':=hI
  refine r_eql ?_
  refine condP (fun _=>?_) (fun _=>?_)
  ·refine Run.callL aM aL hI (bh (n:=4) hrd (by omega) (by omega)) rfl fun v' I' S1 w'=>?_
   rintro ⟨rfl,rfl,k,hk,rfl⟩ _ hI
   refine Run.callPure oB nI hI (gX k S1) fun w' hI=>?_
   refine au hI 0 rfl aj rfl rfl (by simp [Value.oneCell']) fun w' hI=>?_
   refine loadV_W hI 0 aj rfl rfl ?_
   exact ⟨_,_,S1,rfl,hI.pick [false,true],Ext.refl _ _ _,p1+2,by omega,rfl,_,_,rfl,kB (by simp [inI]) (by simp only [inI]; omega),by have e:emptyB.size=0:=rfl; simp only [wT,wL,List.length_nil,e]; omega,xH (by omega)⟩
  refine r_eql ?_
  refine condP (fun _=>?_) (fun _=>?_)
  ·refine oc hI (by kernel_rfl) rfl (by omega) fun v S1 w' hE1 hv hI=>?_
   refine Run.callL ce bZ hI (el (p:=p1+1) (hrd.monoU hE1.1) hv (by decide) (by omega)) rfl fun v' I' S2 w'=>?_
   rintro ⟨rfl,rfl,n,hn,rfl⟩ _ hI
   have hn:=kD (a:=-1000) (b:=1000) hn (by decide)
   refine Run.callPure iA iC hI (dS n S2) fun w' hI=>?_
   refine au hI 0 rfl aj rfl rfl (by simp [Value.oneCell']) fun w' hI=>?_
   refine loadV_W hI 0 aj rfl rfl ?_
   exact ⟨_,_,S2,rfl,hI.pick [false,true],hE1,p1+2,by omega,rfl,_,_,rfl,kB (by simp [inI]) (by simp only [inI]; omega),by have e:emptyB.size=0:=rfl; simp only [wT,wL,List.length_nil,e]; omega,xw⟩
  ·refine iu hI (by kernel_rfl) rfl (by omega) fun v S1 w' hE1 hv hI=>?_
   refine Run.callL bO bP hI (dY (p:=p1+1) (hrd.monoU hE1.1) hv (by decide) (by omega)) rfl fun v' I' S2 w'=>?_
   rintro ⟨rfl,rfl,s,hs,rfl⟩ _ hI
   have hs:=gp (m:=3) hs (by decide)
   refine Run.call0E be bf hI (bl s (by simp only [maxLen]; omega) (eI S2) (by simp)) fun v' I' S3 w'=>?_
   rintro ⟨rfl,cs,rfl,hcs⟩ hE3 hI
   refine au hI 0 rfl aj (by simpa using hcs.length) rfl (by simpa using hcs.one) fun w' hI=>?_
   refine loadV_W hI 0 aj rfl (by simpa using hcs.length) ?_
   exact ⟨_,_,S3,rfl,hI.pick [false,true],hE1.trans hE3,p1+2,by omega,rfl,_,_,rfl,hcs,by simp only [wT,wL,List.length_nil]; omega,iK (by omega) (by simp only [bY])⟩
 obtain ⟨d',rfl⟩:∃ d',d=d'+1:=⟨d - 1,by have:=hcd hc; omega⟩
 have ih:=ih d' rfl
 have hD:=xn d'
 have hDs:=xx d'
 have h3:dW d'<=486:=by
  have:3 ^ d'<=3 ^ 4:=Nat.pow_le_pow_right (by omega) (by omega)
  simp only [dW]; omega
 refine Run.callL aM aL hI (bh (n:=3) hrd (by omega) (by omega)) rfl fun v' I' S w'=>?_
 rintro ⟨rfl,rfl,k,hk,rfl⟩ _ hI
 refine r_eql ?_
 refine condP (fun _=>?_) (fun _=>?_)
 ·refine ob (by omega) ?_
  refine Run.callL cc cd hI (ih (p1+1) S hrd (by omega)) rfl fun v' I' S1 w'=>?_
  rintro ⟨p2,hp2,rfl,cs1,t1,rfl,hc1,hw1,ho1⟩ hE1 hI
  refine ob (by omega) ?_
  refine Run.callL cc cd hI (ih p2 S1 (hrd.monoU hE1.1) (by omega)) rfl fun v' I' S2 w'=>?_
  rintro ⟨p3,hp3,rfl,cs2,t2,rfl,hc2,hw2,ho2⟩ hE2 hI
  have hc1:=RdT.mono hE2.1 hc1
  obtain ⟨kv1,rfl,_,_,_,a1,q1,rfl,_⟩:=RdT.iff.1 hc1
  obtain ⟨kv2,rfl,_,_,_,a2,q2,rfl,_⟩:=RdT.iff.1 hc2
  refine fZ (v:=fun b=>.slice (some ⟨b,0,none⟩) 2 2) (o:=.cells #[.int .i64 t1.kind,.int .i64 t1.n,.string t1.name,.slice a1 t1.kids.length q1,.int .i64 t2.kind,.int .i64 t2.n,.string t2.name,.slice a2 t2.kids.length q2] ad) hI (by kernel_rfl) fun b w' hI=>?_
  have hI:Inv w [br] ([.blk b4 (.cells #[.int .i64 0,.int .i64 0,.string ⟨#[]⟩,.slice none 0 0] ad),rdI br sl p3]++[_]) S2 w':=hI
  obtain ⟨S3,hI,hE3,hS⟩:=hI.pub1
  refine Run.call0E be bf hI (bl ⟨#[46]⟩ (by decide) (qb hS (hc1.mono hE3.1) (hc2.mono hE3.1)) (by simp)) fun v' I' S4 w'=>?_
  rintro ⟨rfl,cs,rfl,hcs⟩ hE4 hI
  refine au hI 0 rfl aj (by simpa using hcs.length) rfl (by simpa using hcs.one) fun w' hI=>?_
  refine loadV_W hI 0 aj rfl (by simpa using hcs.length) ?_
  refine ⟨_,_,S4,rfl,hI.pick [false,true],(hE1.trans hE2).trans (hE3.trans hE4),p3,by omega,rfl,_,_,rfl,hcs,?_,iK (by decide) (by simp only [bY]; exact ⟨ho1,ho2,trivial⟩)⟩
  have e:(ByteArray.mk #[46]).size=1:=rfl
  simp only [wT,wL,List.length_cons,List.length_nil,e]
  omega
 ·refine iu hI (by kernel_rfl) rfl (by omega) fun v S1 w' hE1 hv hI=>?_
  refine Run.callL bO bP hI (dY (p:=p1+1) (hrd.monoU hE1.1) hv (by decide) (by omega)) rfl fun v' I' S2 w'=>?_
  rintro ⟨rfl,rfl,s,hs,rfl⟩ _ hI
  have hs:=gp (m:=3) hs (by decide)
  refine Run.call0E be bf hI (ku s (eI S2) (by simp)) fun v' I' S3 w'=>?_
  rintro ⟨rfl,kv0,css0,rfl,rfl,hR0⟩ hE3 hI
  refine r_alloc hI aK fun b5 w' hI=>?_
  obtain ⟨a0,n0,q0,rfl⟩:=hI.rowSlice 2 rfl
  refine au hI 3 rfl aj rfl rfl (by simp [Value.oneCell']) fun w' hI=>?_
  obtain ⟨B4,hB4⟩:∃ B4,B4=Item.blk b4 (.cells #[.int .i64 0,.int .i64 0,.string ⟨#[]⟩,.slice none 0 0] ad):=⟨_,rfl⟩
  have hI:Inv w [br] [.blk b5 (.cells #[.int .i64 3,.int .i64 0,.string s,.slice a0 n0 q0] ad),ax (.slice a0 n0 q0) ad 4 css0,B4,rdI br sl (p1+2)] S3 w':=by
   rw [hB4]
   exact ((hI.last 2 rfl).last 0 rfl).last 0 rfl
  refine oc hI (by kernel_rfl) rfl (by omega) fun v S4 w' hE4 hv hI=>?_
  refine Run.callL ce bZ hI (el (p:=p1+2) (hrd.monoU ((hE1.trans hE3).trans hE4).1) hv (by decide) (by omega)) rfl fun v' I' S5 w'=>?_
  rintro ⟨rfl,rfl,n,hn,rfl⟩ _ hI
  have hn:=kD (a:=1) (b:=3) hn (by decide)
  have hE5:Ext w.heap.size [br] S S5:=(hE1.trans hE3).trans hE4
  refine ⟨fun t w'=>∃ (j p2:Nat) (S6:Store) (kv:Value) (css:List (List Value)) (ts:List T),bY 26 ts/\t=.int .i64 (j:Int)/\ts.length+j<=3/\Rows 4 (RdT S6) css ts/\wL ts+3 * ts.length<=ts.length * dW d'/\p2+2 * ts.length<=p1+3+ts.length * dW d'/\Ext w.heap.size [br] S S6/\
   Inv w [br] [.blk b5 (.cells #[.int .i64 3,.int .i64 0,.string s,kv] ad),ax kv ad 4 css,B4,rdI br sl p2] S6 w',fun t _=>(intOf t).toNat,
   ⟨n.toNat,p1+3,S5,_,css0,[],by simp only [bY],by rw [Int.toNat_of_nonneg (by omega)],by simp; omega,hR0.monoR fun _ _ h=>RdT.mono hE4.1 h,by simp [wL],by simp,hE5,hI⟩,?_⟩
  intro t6 _ _ t63 t62 t61 t60 t59 t58 t57 t56 t55 _ _ w'
  rintro ⟨j,p2,S6,kv,css,ts,hou,rfl,hj,hR,hwts,hp2,hE6,hI⟩
  have hcl:=hR.hc
  have hm:ts.length * dW d'<=3 * dW d':=Nat.mul_le_mul_right _ (by omega)
  refine r_gtr ?_
  refine condP (fun hj0=>?_) (fun hj0=>?_)
  ·obtain ⟨j',rfl⟩:∃ j',j=j'+1:=⟨j - 1,by omega⟩
   refine ⟨fun D x63 x62 x61 x60 x59 x58 x57 x56 x55 w_=>(D 0=true->x55=.pointer (some ⟨b5,3,none⟩))/\(D 1=true->x56=kv)/\(D 2=true->x57=rdP br)/\(D 3=true->x58=.int .i64 ((d'+1:Nat):Int))/\(D 4=true->x59=.int .i64 (d':Int))/\(D 5=true->True)/\(D 6=true->True)/\(D 7=true->True)/\(D 8=true->x63=.pointer (some ⟨b5,3,none⟩))/\(D 9=true->True)/\∃ n_:Nat,n_<=4/\D 5=decide (1<=n_)/\D 6=decide (2<=n_)/\D 7=decide (3<=n_)/\D 9=decide (4<=n_)/\(D 9=true->D 1=true)/\(dk (Inv w [br] [.blk b5 (.cells #[.int .i64 3,.int .i64 0,.string s,kv] ad),ax kv ad 4 css,B4,rdI br sl p2] S6 w_) (lo w [br] b5 #[.int .i64 3,.int .i64 0,.string s,kv] 3 ad kv css (fun p=>[B4,rdI br sl p]) (fun cs p' S'=>∃ t,okU 26 t/\RdT S' cs t/\wT t+3<=dW d'/\p'+2<=p2+dW d'/\Ext w.heap.size [br] S6 S') x60 x61 x62 w_) n_),⟨fun h=>Bool.noConfusion h,fun h=>Bool.noConfusion h,fun h=>Bool.noConfusion h,fun h=>Bool.noConfusion h,fun h=>Bool.noConfusion h,fun h=>Bool.noConfusion h,fun h=>Bool.noConfusion h,fun h=>Bool.noConfusion h,fun h=>Bool.noConfusion h,fun h=>Bool.noConfusion h,⟨0,Nat.zero_le _,rfl,rfl,rfl,rfl,(fun h=>Bool.noConfusion h),hI.draw⟩⟩,⟨?_,?_,?_,?_,?_,?_,?_,?_,?_,?_,trivial⟩,?_⟩
   ·intro D hD_  x63 x62 x61 x60 x59 x58 x57 x56 x55 w_
    rintro ⟨h0_,h1_,h2_,h3_,h4_,h5_,h6_,h7_,h8_,h9_,⟨n_,ln_,e1_,e2_,e3_,e4_,kp_,hS⟩⟩
    refine r_field ar ?_
    exact ⟨fun _=>rfl,h1_,h2_,h3_,h4_,h5_,h6_,h7_,h8_,h9_,⟨n_,ln_,e1_,e2_,e3_,e4_,kp_,hS⟩⟩
   ·intro D hD_ d0_0 x63 x62 x61 x60 x59 x58 x57 x56 x55 w_
    rintro ⟨h0_,h1_,h2_,h3_,h4_,h5_,h6_,h7_,h8_,h9_,⟨n_,ln_,e1_,e2_,e3_,e4_,kp_,hS⟩⟩
    obtain rfl:=h0_ d0_0
    have ln2_:=vU e4_ kp_ hD_
    refine r_load ao ((sS (fun h=>h.cellL (i:=0) rfl) (fun n hn h=>od h hn) hS ln2_).trans rfl) ?_
    exact ⟨h0_,fun _=>rfl,h2_,h3_,h4_,h5_,h6_,h7_,h8_,h9_,⟨n_,ln_,e1_,e2_,e3_,e4_,(fun _=>rfl),hS⟩⟩
   ·intro D hD_  x63 x62 x61 x60 x59 x58 x57 x56 x55 w_
    rintro ⟨h0_,h1_,h2_,h3_,h4_,h5_,h6_,h7_,h8_,h9_,⟨n_,ln_,e1_,e2_,e3_,e4_,kp_,hS⟩⟩
    exact ⟨h0_,h1_,fun _=>rfl,h3_,h4_,h5_,h6_,h7_,h8_,h9_,⟨n_,ln_,e1_,e2_,e3_,e4_,kp_,hS⟩⟩
   ·intro D hD_  x63 x62 x61 x60 x59 x58 x57 x56 x55 w_
    rintro ⟨h0_,h1_,h2_,h3_,h4_,h5_,h6_,h7_,h8_,h9_,⟨n_,ln_,e1_,e2_,e3_,e4_,kp_,hS⟩⟩
    exact ⟨h0_,h1_,h2_,fun _=>rfl,h4_,h5_,h6_,h7_,h8_,h9_,⟨n_,ln_,e1_,e2_,e3_,e4_,kp_,hS⟩⟩
   ·intro D hD_ d3_0 x63 x62 x61 x60 x59 x58 x57 x56 x55 w_
    rintro ⟨h0_,h1_,h2_,h3_,h4_,h5_,h6_,h7_,h8_,h9_,⟨n_,ln_,e1_,e2_,e3_,e4_,kp_,hS⟩⟩
    obtain rfl:=h3_ d3_0
    refine ob (by omega) ?_
    exact ⟨h0_,h1_,h2_,h3_,fun _=>rfl,h5_,h6_,h7_,h8_,h9_,⟨n_,ln_,e1_,e2_,e3_,e4_,kp_,hS⟩⟩
   ·intro D hD_ d2_0 d4_1 x63 x62 x61 x60 x59 x58 x57 x56 x55 w_
    rintro ⟨h0_,h1_,h2_,h3_,h4_,h5_,h6_,h7_,h8_,h9_,⟨n_,ln_,e1_,e2_,e3_,e4_,kp_,hS⟩⟩
    obtain rfl:=h2_ d2_0
    obtain rfl:=h4_ d4_1
    obtain rfl:n_=0:=wk e1_ hD_
    refine Run.callL cc cd (L:=[.blk b5 _,ax _ ad 4 css,B4,rdI br sl p2]) hS (ih p2 S6 (hrd.monoU hE6.1) (by omega)) rfl fun v' I' S7 w_=>?_
    rintro ⟨p3,hp3,rfl,cs,t,rfl,hcs,hwt,hot⟩ hE7 hI
    exact ⟨h0_,h1_,h2_,h3_,h4_,fun _=>by first|assumption|trivial,h6_,h7_,h8_,h9_,⟨1,by decide,rfl,(by first|exact e2_|rfl),(by first|exact e3_|rfl),(by first|exact e4_|rfl),kp_,oo ⟨t,hot,hcs,hwt,hp3,hE7⟩ hcs hI⟩⟩
   ·intro D hD_ d5_0 x63 x62 x61 x60 x59 x58 x57 x56 x55 w_
    rintro ⟨h0_,h1_,h2_,h3_,h4_,h5_,h6_,h7_,h8_,h9_,⟨n_,ln_,e1_,e2_,e3_,e4_,kp_,hS⟩⟩
    have g5_:=h5_ d5_0
    obtain rfl:n_=1:=dN e1_ d5_0 e2_ hD_
    refine ap1 hS fun u w_ hS=>?_
    exact ⟨h0_,h1_,h2_,h3_,h4_,h5_,fun _=>by first|assumption|trivial,h7_,h8_,h9_,⟨2,by decide,(by first|exact e1_|rfl),rfl,(by first|exact e3_|rfl),(by first|exact e4_|rfl),kp_,hS⟩⟩
   ·intro D hD_ d1_0 d6_1 d5_2 x63 x62 x61 x60 x59 x58 x57 x56 x55 w_
    rintro ⟨h0_,h1_,h2_,h3_,h4_,h5_,h6_,h7_,h8_,h9_,⟨n_,ln_,e1_,e2_,e3_,e4_,kp_,hS⟩⟩
    obtain rfl:=h1_ d1_0
    have g6_:=h6_ d6_1
    obtain rfl:n_=2:=dN e2_ d6_1 e3_ hD_
    refine ap2 hS (by omega) fun u w_ hS=>?_
    exact ⟨h0_,h1_,h2_,h3_,h4_,h5_,h6_,fun _=>by first|assumption|trivial,h8_,h9_,⟨3,by decide,(by first|exact e1_|rfl),(by first|exact e2_|rfl),rfl,(by first|exact e4_|rfl),kp_,hS⟩⟩
   ·intro D hD_ d0_0 d1_1 d2_2 d3_3 d4_4 d5_5 d6_6 d7_7 x63 x62 x61 x60 x59 x58 x57 x56 x55 w_
    rintro ⟨h0_,h1_,h2_,h3_,h4_,h5_,h6_,h7_,h8_,h9_,⟨n_,ln_,e1_,e2_,e3_,e4_,kp_,hS⟩⟩
    refine r_field ar ?_
    exact ⟨h0_,h1_,h2_,h3_,h4_,h5_,h6_,h7_,fun _=>rfl,h9_,⟨n_,ln_,e1_,e2_,e3_,e4_,kp_,hS⟩⟩
   ·intro D hD_ d8_0 d7_1 d7_2 d0_3 d1_4 d2_5 d3_6 d4_7 d5_8 d6_9 d7_10 x63 x62 x61 x60 x59 x58 x57 x56 x55 w_
    rintro ⟨h0_,h1_,h2_,h3_,h4_,h5_,h6_,h7_,h8_,h9_,⟨n_,ln_,e1_,e2_,e3_,e4_,kp_,hS⟩⟩
    obtain rfl:=h8_ d8_0
    have g7_:=h7_ d7_1
    obtain rfl:n_=3:=dN e3_ d7_1 e4_ hD_
    refine ap3 hS (by simp) fun w_ hS=>?_
    exact ⟨h0_,h1_,h2_,h3_,h4_,h5_,h6_,h7_,h8_,fun _=>trivial,⟨4,by decide,(by first|exact e1_|rfl),(by first|exact e2_|rfl),(by first|exact e3_|rfl),rfl,(fun _=>d1_4),hS⟩⟩
   intro D d9_ d8_ d7_ d6_ d5_ d4_ d3_ d2_ d1_ d0_ x63 x62 x61 x60 x59 x58 x57 x56 x55 w_
   rintro ⟨h0_,h1_,h2_,h3_,h4_,h5_,h6_,h7_,h8_,h9_,⟨n_,ln_,e1_,e2_,e3_,e4_,kp_,hS⟩⟩
   obtain rfl:n_=4:=xk ln_ e4_ d9_
   clear e1_ e2_ e3_ e4_
   obtain ⟨p3,S7,cs,⟨t,hot,hcs,hwt,hp3,hE7⟩,hl,hI⟩:=hS
   refine ob (by omega) ?_
   refine ⟨⟨j',p3,S7,_,_,ts++[t],nR hou (by simp only [bY]; exact ⟨hot,trivial⟩),rfl,by rw [List.length_append]; simp only [List.length_cons,List.length_nil]; omega,(hR.monoR fun _ _ h=>RdT.mono hE7.1 h).snoc hcs hl.1,?_,?_,hE6.trans hE7,hI⟩,by simp only [intOf,Int.toNat_natCast]; omega⟩
   ·rw [dq,List.length_append,List.length_cons,List.length_nil,Nat.add_mul]
    simp only [wL]
    omega
   ·rw [List.length_append,List.length_cons,List.length_nil,Nat.add_mul]
    omega
  ·have hI:Inv w [br] ([.blk b5 (.cells #[.int .i64 3,.int .i64 0,.string s,kv] ad),B4,rdI br sl p2]++[ax kv ad 4 css]) S6 w':=hI.last 1 rfl
   refine r_loadW hI 0 aj rfl rfl ?_
   obtain ⟨S7,hE7,hrdr,hI⟩:=Inv.lendExt hI
   have hrs:=RowRd.rows (hR.monoR fun _ _ h=>RdT.mono hE7.1 h) hrdr
   obtain ⟨a,q,rfl,_⟩:=id hrs
   subst hB4
   refine au hI 1 rfl aj rfl rfl (by simp [Value.oneCell']) fun w' hI=>?_
   refine loadV_W hI 1 aj rfl rfl ?_
   refine ⟨_,_,S7,rfl,hI.pick [false,false,true],hE6.trans hE7,p2,?_,rfl,[.int .i64 3,.int .i64 0,.string s,_],.mk 3 0 s ts,rfl,RdT.iff.2 ⟨_,rfl,by simp [inI,T.kind],by simp [inI,T.n],by simp only [T.name,maxLen]; omega,hrs⟩,?_,iK (by omega) hou⟩
   ·have:ts.length=0 ∨ ts.length=1 ∨ ts.length=2 ∨ ts.length=3:=by omega
    rcases this with h|h|h|h <;> rw [h] at hp2 hwts <;> omega
   ·simp only [wT]
    have:ts.length=0 ∨ ts.length=1 ∨ ts.length=2 ∨ ts.length=3:=by omega
    rcases this with h|h|h|h <;> rw [h] at hp2 hwts ⊢ <;> omega
theorem cE:∀ d:Nat,d<=4->sW br sl ys d
 | 0,h=>pV h fun d' e=>by omega
 | d+1,h=>pV h fun d' e=>by
  obtain rfl:d'=d:=by omega
  exact cE _ (by omega)
abbrev wb (br:Nat) (sl:Value) (p k m:Nat):Value->List Item->Store->Prop:=fun v I' S'=>∃ p',p'<=p+k/\I'=[rdI br sl p']/\∃ cs t,v=.agg cs.toArray/\RdT S' cs t/\wT t<=m
theorem iO {p:Nat} {S:Store} (hrd:RdSl S 1 dD sl ys) (hp:p<=100000000):Tri Tryz.prog tw [rdP br] [rdI br sl p] S (wb br sl p 500 500):=by
 intro w hI
 refine nL ?_
 unfold lU
 refine r_alloc hI aK fun b2 w' hI=>?_
 have hI:Inv w [br] [.blk b2 (.cells #[.int .i64 0,.int .i64 0,.string ⟨#[]⟩,.slice none 0 0] ad),rdI br sl p] S w':=hI.last 0 rfl
 refine oc hI (by kernel_rfl) rfl (by omega) fun v S1 w' hE1 hv hI=>?_
 refine Run.callL ce bZ hI (el (p:=p) (hrd.monoU hE1.1) hv (by decide) (by omega)) rfl fun v' I' S2 w'=>?_
 rintro ⟨rfl,rfl,n,hn,rfl⟩ _ hI
 have hn:=kD (a:=1) (b:=4) hn (by decide)
 obtain ⟨m,rfl⟩:∃ m:Nat,n=m:=⟨n.toNat,by rw [Int.toNat_of_nonneg (by omega)]⟩
 have h3:dW m<=486:=by
  have:3 ^ m<=3 ^ 4:=Nat.pow_le_pow_right (by omega) (by omega)
  simp only [dW]; omega
 refine Run.callL cc cd hI (cE m (by omega) (p+1) S2 (hrd.monoU hE1.1) (by omega)) rfl fun v' I' S3 w'=>?_
 rintro ⟨p1,hp1,rfl,cs,t,rfl,hcs,hw,_⟩ hE3 hI
 refine au hI 0 rfl aj (by simpa using hcs.length) rfl (by simpa using hcs.one) fun w' hI=>?_
 refine loadV_W hI 0 aj rfl (by simpa using hcs.length) ?_
 exact ⟨_,_,S3,rfl,hI.pick [false,true],hE1.trans hE3,p1,by omega,rfl,cs,t,rfl,hcs,by omega⟩
end
end Go.Proofs.YtmnnpgdeecnfpaaGreat

/- spec.l1Mutate. -/
namespace Go.Proofs.YtmnnpgdeecnfpaaGreat
open Go Go.RowKit
def lY (w:World) (b o:Nat):Nat:=match w.cell? ⟨b,o,none⟩ with
 | some (.slice _ n _)=>n
 | _=>0
theorem xC {Q Q2 B:Prop} {R:Nat->Prop} (h1:Q->B) (h3:Q2->B) (h2:∀ n,n<3->R n->B):∀ {n:Nat},dk Q (dk Q2 R) n->n<5->B
 | 0,h,_=>h1 h
 | 1,h,_=>h3 h
 | n+2,h,hn=>h2 n (by omega) h
theorem bS {Q:Prop} {R:Nat->Prop} {n:Nat} (h:R n):dk Q R (n+1):=h
theorem bg {Q:Prop} {R:Nat->Prop} {n:Nat} (h:dk Q R (n+1)):R n:=h
section
variable {w0 w:World} {X:List Nat} {L A:List Item} {S:Store} {K:Value->World->Prop} {P:Program}
attribute [local irreducible] Run CondV GuardV LoadV
theorem jh (h:Inv w0 X L S w) {i b o:Nat} {c:Array Value} {E:TypeId} {a:Option Addr} {n m:Nat} (hi:L[i]?=some (.blk b (.cells c E))) (hc:c[o]?=some (.slice a n m)):lY w b o=n:=by
 rw [lY,h.cellL hi,hc]
theorem kx {b:Nat} {k n:Int} {s:ByteArray} {kv:Value} {css:List (List Value)} {ks:List T} {o:Obj}
  (hI:Inv w0 X (.blk b o::ax kv ad 4 css::A) S w) (hR:Rows 4 (RdT S) css ks) (hk:inI k) (hn:inI n) (hs:s.size<=maxLen) :
  ∃ S',Ext w0.heap.size X S S'/\Inv w0 X (.blk b o::A) S' w/\RdT S' [.int .i64 k,.int .i64 n,.string s,kv] (.mk k n s ks)/\RdSl S' 4 (RdT S') kv ks:=by
 have hI:Inv w0 X ((.blk b o::A)++[ax kv ad 4 css]) S w:=hI.last 1 rfl
 obtain ⟨S',hE,hrd,hI⟩:=Inv.lendExt hI
 have hrs:=RowRd.rows (hR.monoR fun _ _ h=>RdT.mono hE.1 h) hrd
 exact ⟨S',hE,hI,RdT.iff.2 ⟨_,rfl,hk,hn,hs,hrs⟩,hrs⟩
end
section
variable {br:Nat} {sl:Value} {ys:List Nat}
attribute [local irreducible] Run CondV GuardV LoadV
theorem fY {p:Nat} {S:Store} {cs:List Value} {t:T} (hrd:RdSl S 1 dD sl ys) (h:RdT S cs t) (hw:wT t<=100000) (hp:p<=100000000) :
  Tri Tryz.prog qz [rdP br,.agg cs.toArray] [rdI br sl p] S (wb br sl p 2 (wT t+100)):=by
 intro w hI
 have h0:=h
 obtain ⟨kv0,rfl,hk,hn,hs,hks⟩:=RdT.iff.1 h
 refine kX ?_
 unfold gQ
 refine r_box hI fun b3 w' hI=>?_
 refine r_alloc hI aK fun b4 w' hI=>?_
 refine r_loadW hI 1 aj rfl rfl ?_
 refine Run.call0E ca cf hI (vI t S _ h0 (by omega)) fun v' I' S1 w'=>?_
 rintro ⟨kv,css,rfl,rfl,hR⟩ hE1 hI
 have hE1:Ext w.heap.size [br] S S1:=hE1
 obtain ⟨a0,n0,q0,rfl⟩:=hI.rowSlice 3 rfl
 refine r_alloc hI aK fun b5 w' hI=>?_
 refine au hI 4 rfl aj rfl rfl (by simp [Value.oneCell']) fun w' hI=>?_
 obtain ⟨B4,hB4⟩:∃ B4,B4=Item.blk b4 (.cells #[.int .i64 0,.int .i64 0,.string ⟨#[]⟩,.slice none 0 0] ad):=⟨_,rfl⟩
 obtain ⟨k,hk'⟩:∃ k,k=t.kind:=⟨_,rfl⟩
 obtain ⟨n,hn'⟩:∃ n,n=t.n:=⟨_,rfl⟩
 obtain ⟨s,hs'⟩:∃ s,s=t.name:=⟨_,rfl⟩
 have hwt:wT t=s.size+t.kids.length+wL t.kids:=by rw [hs']; cases t; rw [wT]; rfl
 rw [<- hk',<- hn',<- hs'] at hI
 rw [<- hk'] at hk
 rw [<- hn'] at hn
 rw [<- hs'] at hs
 have hI:Inv w [br] [.blk b5 (.cells #[.int .i64 k,.int .i64 n,.string s,.slice a0 n0 q0] ad),ax (.slice a0 n0 q0) ad 4 css,B4,rdI br sl p] S1 w':=by
  rw [hB4]
  exact (((hI.pick [true,false,true,true,true]).last 2 rfl).last 1 rfl).last 0 rfl
 refine ⟨fun w'=>∃ (p1:Nat) (S2:Store) (cs1:List Value) (t1:T),p1<=p+2/\Ext w.heap.size [br] S S2/\RdT S2 cs1 t1/\wT t1<=wT t+100/\Inv w [br] [.blk b5 (.cells cs1.toArray ad),B4,rdI br sl p1] S2 w',?_,?_⟩
 ·have hfin:∀ {k n:Int} {s1:ByteArray} {p1:Nat} {w':World} {S1:Store} {css:List (List Value)} {kv:Value} {ks:List T},Ext w.heap.size [br] S S1->p1<=p+2->inI k->inI n->s1.size<=s.size+7->Rows 4 (RdT S1) css ks->ks.length<=t.kids.length+5->wL ks<=wL t.kids->
    Inv w [br] [.blk b5 (.cells #[.int .i64 k,.int .i64 n,.string s1,kv] ad),ax kv ad 4 css,B4,rdI br sl p1] S1 w'->
    ∃ (p1:Nat) (S2:Store) (cs1:List Value) (t1:T),p1<=p+2/\Ext w.heap.size [br] S S2/\RdT S2 cs1 t1/\wT t1<=wT t+100/\Inv w [br] [.blk b5 (.cells cs1.toArray ad),B4,rdI br sl p1] S2 w':=by
   intro k n s1 p1 w' S1 css kv ks hE hp1 hk hn hs1 hR hkl hkw hI
   obtain ⟨S2,hE2,hI,hr,_⟩:=kx (s:=s1) hI hR hk hn (by simp only [maxLen]; omega)
   exact ⟨p1,S2,_,_,hp1,hE.trans hE2,hr,by rw [wT,hwt]; omega,hI⟩
  refine Run.callL aM aL hI (bh (n:=50) (hrd.monoU hE1.1) (by omega) (by omega)) rfl fun v' I' S1 w'=>?_
  rintro ⟨rfl,rfl,kk,hkk,rfl⟩ _ hI
  refine r_eql ?_
  refine condP (fun _=>?_) (fun _=>?_)
  ·refine oc hI (by kernel_rfl) rfl (by omega) fun v S3 w' hE3 hv hI=>?_
   refine Run.callL ce bZ hI (el (p:=p+1) (hrd.monoU (hE1.trans hE3).1) hv (by decide) (by omega)) rfl fun v' I' S3 w'=>?_
   rintro ⟨rfl,rfl,m,hm,rfl⟩ _ hI
   have hm:=kD (a:=-1000) (b:=1000) hm (by decide)
   refine dt hI 0 rfl aI aC rfl rfl rfl fun w' hI=>?_
   exact hfin (hE1.trans hE3) (Nat.le_refl _) (by simp only [inI]; omega) hn (by omega) (hR.monoR fun _ _ h=>RdT.mono hE3.1 h) (by omega) (Nat.le_refl _) hI
  refine r_eql ?_
  refine condP (fun _=>?_) (fun _=>?_)
  ·refine oc hI (by kernel_rfl) rfl (by omega) fun v S3 w' hE3 hv hI=>?_
   refine Run.callL ce bZ hI (el (p:=p+1) (hrd.monoU (hE1.trans hE3).1) hv (by decide) (by omega)) rfl fun v' I' S3 w'=>?_
   rintro ⟨rfl,rfl,m,hm,rfl⟩ _ hI
   have hm:=kD (a:=-1000) (b:=1000) hm (by decide)
   refine dt hI 0 rfl aJ aC rfl rfl rfl fun w' hI=>?_
   exact hfin (hE1.trans hE3) (Nat.le_refl _) hk (by simp only [inI]; omega) (by omega) (hR.monoR fun _ _ h=>RdT.mono hE3.1 h) (by omega) (Nat.le_refl _) hI
  refine r_eql ?_
  refine condP (fun _=>?_) (fun _=>?_)
  ·refine iu hI (by kernel_rfl) rfl (by omega) fun v S3 w' hE3 hv hI=>?_
   refine Run.callL bO bP hI (dY (p:=p+1) (hrd.monoU (hE1.trans hE3).1) hv (by decide) (by omega)) rfl fun v' I' S3 w'=>?_
   rintro ⟨rfl,rfl,m,hm,rfl⟩ _ hI
   have hm:=gp (m:=7) hm (by decide)
   refine dt hI 0 rfl aA az rfl rfl rfl fun w' hI=>?_
   exact hfin (hE1.trans hE3) (Nat.le_refl _) hk hn (by omega) (hR.monoR fun _ _ h=>RdT.mono hE3.1 h) (by omega) (Nat.le_refl _) hI
  refine r_eql ?_
  refine condP (fun _=>?_) (fun _=>?_)
  ·refine ⟨fun w'=>∃ (S2:Store) (kv:Value) (css:List (List Value)) (ks:List T),Ext w.heap.size [br] S S2/\Rows 4 (RdT S2) css ks/\ks.length<=t.kids.length+5/\wL ks<=wL t.kids/\
     Inv w [br] [.blk b5 (.cells #[.int .i64 k,.int .i64 n,.string s,kv] ad),ax kv ad 4 css,B4,rdI br sl (p+1)] S2 w',fun w'=>5 - lY w' b5 3,⟨S1,_,css,t.kids,hE1,hR,by omega,Nat.le_refl _,hI⟩,?_⟩
   intro t40 t39 t38 t37 t36 t35 _ _ _ _ w'
   rintro ⟨S2,kv,css,ks,hE2,hR,hkl,hkw,hI⟩
   obtain ⟨a1,n1,q1,rfl,hn1⟩:∃ a m c,kv=.slice a m c/\m=ks.length:=by
    obtain ⟨S',_,_,_,hr⟩:=kx hI hR hk hn hs
    obtain ⟨a,q,rfl,_⟩:=hr
    exact ⟨a,_,q,rfl,rfl⟩
   subst hn1
   have hl1:=jh hI (i:=0) (o:=3) rfl rfl
   have hcl:=hR.hc
   refine r_fieldL hI 0 rfl ar ao rfl ?_
   refine r_len aq ?_
   refine r_leq ?_
   refine condP (fun hle=>?_) (fun hle=>?_)
   ·have hI:=hI
    refine ⟨fun D x40 x39 x38 x37 x36 x35 w_=>(D 0=true->x35=.pointer (some ⟨b5,3,none⟩))/\(D 1=true->x36=.slice a1 ks.length q1)/\(D 2=true->True)/\(D 3=true->True)/\(D 4=true->True)/\(D 5=true->x40=.pointer (some ⟨b5,3,none⟩))/\(D 6=true->True)/\∃ n_:Nat,n_<=4/\D 2=decide (1<=n_)/\D 3=decide (2<=n_)/\D 4=decide (3<=n_)/\D 6=decide (4<=n_)/\(D 6=true->D 1=true)/\(dk (Inv w [br] [.blk b5 (.cells #[.int .i64 k,.int .i64 n,.string s,.slice a1 ks.length q1] ad),ax (.slice a1 ks.length q1) ad 4 css,B4,rdI br sl (p+1)] S2 w_) (lo w [br] b5 #[.int .i64 k,.int .i64 n,.string s,.slice a1 ks.length q1] 3 ad (.slice a1 ks.length q1) css (fun p=>[B4,rdI br sl (p+1)]) (fun cs p' S'=>p'=p/\S'=S2/\RdT S2 cs (.mk 2 1 emptyB [])) x37 x38 x39 w_) n_),⟨fun h=>Bool.noConfusion h,fun h=>Bool.noConfusion h,fun h=>Bool.noConfusion h,fun h=>Bool.noConfusion h,fun h=>Bool.noConfusion h,fun h=>Bool.noConfusion h,fun h=>Bool.noConfusion h,⟨0,Nat.zero_le _,rfl,rfl,rfl,rfl,(fun h=>Bool.noConfusion h),hI.draw⟩⟩,⟨?_,?_,?_,?_,?_,?_,?_,trivial⟩,?_⟩
    ·intro D hD_  x40 x39 x38 x37 x36 x35 w_
     rintro ⟨h0_,h1_,h2_,h3_,h4_,h5_,h6_,⟨n_,ln_,e1_,e2_,e3_,e4_,kp_,hS⟩⟩
     refine r_field ar ?_
     exact ⟨fun _=>rfl,h1_,h2_,h3_,h4_,h5_,h6_,⟨n_,ln_,e1_,e2_,e3_,e4_,kp_,hS⟩⟩
    ·intro D hD_ d0_0 x40 x39 x38 x37 x36 x35 w_
     rintro ⟨h0_,h1_,h2_,h3_,h4_,h5_,h6_,⟨n_,ln_,e1_,e2_,e3_,e4_,kp_,hS⟩⟩
     obtain rfl:=h0_ d0_0
     have ln2_:=vU e4_ kp_ hD_
     refine r_load ao ((sS (fun h=>h.cellL (i:=0) rfl) (fun n hn h=>od h hn) hS ln2_).trans rfl) ?_
     exact ⟨h0_,fun _=>rfl,h2_,h3_,h4_,h5_,h6_,⟨n_,ln_,e1_,e2_,e3_,e4_,(fun _=>rfl),hS⟩⟩
    ·intro D hD_  x40 x39 x38 x37 x36 x35 w_
     rintro ⟨h0_,h1_,h2_,h3_,h4_,h5_,h6_,⟨n_,ln_,e1_,e2_,e3_,e4_,kp_,hS⟩⟩
     obtain rfl:n_=0:=wk e1_ hD_
     refine Run.callPure iA iC (L:=[.blk b5 _,ax _ ad 4 css,B4,rdI br sl (p+1)]) hS (dS 1 S2) fun w_ hI=>?_
     exact ⟨h0_,h1_,fun _=>by first|assumption|trivial,h3_,h4_,h5_,h6_,⟨1,by decide,rfl,(by first|exact e2_|rfl),(by first|exact e3_|rfl),(by first|exact e4_|rfl),kp_,oo ⟨rfl,rfl,kB (by simp [inI]) (by simp [inI])⟩ (kB (by simp [inI]) (by simp [inI])) hI⟩⟩
    ·intro D hD_ d2_0 x40 x39 x38 x37 x36 x35 w_
     rintro ⟨h0_,h1_,h2_,h3_,h4_,h5_,h6_,⟨n_,ln_,e1_,e2_,e3_,e4_,kp_,hS⟩⟩
     have g2_:=h2_ d2_0
     obtain rfl:n_=1:=dN e1_ d2_0 e2_ hD_
     refine ap1 hS fun u w_ hS=>?_
     exact ⟨h0_,h1_,h2_,fun _=>by first|assumption|trivial,h4_,h5_,h6_,⟨2,by decide,(by first|exact e1_|rfl),rfl,(by first|exact e3_|rfl),(by first|exact e4_|rfl),kp_,hS⟩⟩
    ·intro D hD_ d1_0 d3_1 d2_2 x40 x39 x38 x37 x36 x35 w_
     rintro ⟨h0_,h1_,h2_,h3_,h4_,h5_,h6_,⟨n_,ln_,e1_,e2_,e3_,e4_,kp_,hS⟩⟩
     obtain rfl:=h1_ d1_0
     have g3_:=h3_ d3_1
     obtain rfl:n_=2:=dN e2_ d3_1 e3_ hD_
     refine ap2 hS (by omega) fun u w_ hS=>?_
     exact ⟨h0_,h1_,h2_,h3_,fun _=>by first|assumption|trivial,h5_,h6_,⟨3,by decide,(by first|exact e1_|rfl),(by first|exact e2_|rfl),rfl,(by first|exact e4_|rfl),kp_,hS⟩⟩
    ·intro D hD_ d0_0 d1_1 d2_2 d3_3 d4_4 x40 x39 x38 x37 x36 x35 w_
     rintro ⟨h0_,h1_,h2_,h3_,h4_,h5_,h6_,⟨n_,ln_,e1_,e2_,e3_,e4_,kp_,hS⟩⟩
     refine r_field ar ?_
     exact ⟨h0_,h1_,h2_,h3_,h4_,fun _=>rfl,h6_,⟨n_,ln_,e1_,e2_,e3_,e4_,kp_,hS⟩⟩
    ·intro D hD_ d5_0 d4_1 d4_2 d0_3 d1_4 d2_5 d3_6 d4_7 x40 x39 x38 x37 x36 x35 w_
     rintro ⟨h0_,h1_,h2_,h3_,h4_,h5_,h6_,⟨n_,ln_,e1_,e2_,e3_,e4_,kp_,hS⟩⟩
     obtain rfl:=h5_ d5_0
     have g4_:=h4_ d4_1
     obtain rfl:n_=3:=dN e3_ d4_1 e4_ hD_
     refine ap3 hS (by simp) fun w_ hS=>?_
     exact ⟨h0_,h1_,h2_,h3_,h4_,h5_,fun _=>trivial,⟨4,by decide,(by first|exact e1_|rfl),(by first|exact e2_|rfl),(by first|exact e3_|rfl),rfl,(fun _=>d1_4),hS⟩⟩
    intro D d6_ d5_ d4_ d3_ d2_ d1_ d0_ x40 x39 x38 x37 x36 x35 w_
    rintro ⟨h0_,h1_,h2_,h3_,h4_,h5_,h6_,⟨n_,ln_,e1_,e2_,e3_,e4_,kp_,hS⟩⟩
    obtain rfl:n_=4:=xk ln_ e4_ d6_
    clear e1_ e2_ e3_ e4_
    obtain ⟨p3,S7,cs,⟨rfl,rfl,hcs⟩,hl,hI⟩:=hS
    have hR2:=hR.snoc hcs hl.1
    refine ⟨⟨S7,_,_,_,hE2,hR2,by rw [List.length_append]; simp only [List.length_cons,List.length_nil]; omega,by rw [dq]; have e:emptyB.size=0:=rfl; simp only [wL,wT,List.length_nil,e]; omega,hI⟩,?_⟩
    obtain ⟨S',_,_,_,hr⟩:=kx hI hR2 hk hn hs
    obtain ⟨a,q,e,_⟩:=hr
    have hl2:=jh hI (i:=0) (o:=3) (a:=a) (n:=(ks++[T.mk 2 1 emptyB []]).length) (m:=q) rfl (by rw [<- e]; rfl)
    show 5 - lY w_ b5 3<5 - lY w' b5 3
    rw [hl1,hl2,List.length_append,List.length_cons,List.length_nil]
    omega
   ·exact hfin hE2 (by omega) hk hn (by omega) hR hkl hkw hI
  refine r_eql ?_
  refine condP (fun _=>?_) (fun _=>?_)
  ·obtain ⟨S2,hE2,hI,hr,_⟩:=kx hI hR hk hn hs
   have hI:Inv w [br] [.blk b5 (.cells #[.int .i64 k,.int .i64 n,.string s,.slice a0 n0 q0] ad),B4,rdI br sl (p+1)] S2 w':=hI
   have ht:T.mk k n s t.kids=t:=by rw [hk',hn',hs']; cases t; rfl
   rw [ht] at hr
   refine ⟨fun t6 w'=>∃ (j:Nat) (S3:Store) (cs1:List Value) (t1:T),t6=.int .i64 (j:Int)/\j<=30/\Ext w.heap.size [br] S S3/\RdT S3 cs1 t1/\wT t1<=wT t+2 * j/\Inv w [br] [.blk b5 (.cells cs1.toArray ad),B4,rdI br sl (p+1)] S3 w',fun t6 _=>30 - (intOf t6).toNat,
    ⟨0,S2,_,t,rfl,by omega,hE1.trans hE2,hr,by omega,hI⟩,?_⟩
   intro t6 _ _ _ _ _ _ _ w'
   rintro ⟨j,S3,cs1,t1,rfl,hj,hE3,hr,hw1,hI⟩
   refine r_lss ?_
   refine condP (fun hj'=>?_) (fun hj'=>?_)
   ·refine r_loadW hI 0 aj rfl (by simpa using hr.length) ?_
    refine r_slice1 hI aR (by simp [Value.cells,hr.length]) (by omega) (by omega) fun b8 w' hI=>?_
    obtain ⟨S4,hI,hE4,hS⟩:=hI.pub1
    refine Run.call0E be bf hI (bl ⟨#[115]⟩ (by decide) (wE hS (hr.mono hE4.1)) (by simp)) fun v' I' S5 w'=>?_
    rintro ⟨rfl,cs2,rfl,hcs2⟩ hE5 hI
    have hI:Inv w [br] [.blk b5 (.cells cs1.toArray ad),B4,rdI br sl (p+1)] S5 w':=by simpa using hI
    refine au hI 0 rfl aj (by simpa using hcs2.length) (by simpa using hr.length) (by simpa using hcs2.one) fun w' hI=>?_
    refine r_add (by omega) ?_
    have e:(ByteArray.mk #[115]).size=1:=rfl
    exact ⟨⟨j+1,S5,cs2,_,rfl,by omega,hE3.trans (hE4.trans hE5),hcs2,by simp only [wT,wL,List.length_cons,List.length_nil,e]; omega,hI⟩,by simp only [intOf,Int.toNat_natCast]; omega⟩
   ·exact ⟨p+1,S3,cs1,t1,by omega,hE3,hr,by omega,hI⟩
  ·exact hfin hE1 (by omega) hk hn (by omega) hR (by omega) (Nat.le_refl _) hI
 intro _ _ _ _ _ _ _ _ _ _ _ _ _ _ _ _ _ _ _ _ _ _ _ _ _ _ _ _ _ _ _ _ _ _ _ _ _ _ _ _ _ _ w'
 rintro ⟨p1,S2,cs1,t1,hp1,hE2,hr,hw1,hI⟩
 subst hB4
 refine r_loadW hI 0 aj rfl (by simpa using hr.length) ?_
 refine au hI 1 rfl aj (by simpa using hr.length) rfl (by simpa using hr.one) fun w' hI=>?_
 refine loadV_W hI 1 aj rfl (by simpa using hr.length) ?_
 exact ⟨_,_,S2,rfl,hI.pick [false,false,true],hE2,p1,hp1,rfl,cs1,t1,rfl,hr,hw1⟩
end
end Go.Proofs.YtmnnpgdeecnfpaaGreat

/- spec.l4Mutate, l4MutateAll. -/
namespace Go.Proofs.YtmnnpgdeecnfpaaGreat
open Go Go.RowKit
section
variable {w0 w:World} {X:List Nat} {L A:List Item} {S:Store} {K:Value->World->Prop} {P:Program}
theorem iI {b:Nat} {hd:List Value} {h:T} {kv:Value} {css:List (List Value)} {ks:List T} {o:Obj}
  (hI:Inv w0 X (.blk b o::ax kv ad 4 css::A) S w) (hR:Rows 4 (RdT S) css ks) (hh:RdT S hd h) :
  ∃ S',Ext w0.heap.size X S S'/\Inv w0 X (.blk b o::A) S' w/\RdC S' (hd++[kv]) ⟨h,ks⟩/\RdSl S' 4 (RdT S') kv ks:=by
 have hI:Inv w0 X ((.blk b o::A)++[ax kv ad 4 css]) S w:=hI.last 1 rfl
 obtain ⟨S',hE,hrd,hI⟩:=Inv.lendExt hI
 have hrs:=RowRd.rows (hR.monoR fun _ _ h=>RdT.mono hE.1 h) hrd
 exact ⟨S',hE,hI,⟨hd,kv,rfl,hh.mono hE.1,hrs⟩,hrs⟩
end
abbrev yk (br:Nat) (sl:Value) (p k m:Nat):Value->List Item->Store->Prop:=fun v I' S'=>∃ p',p'<=p+k/\I'=[rdI br sl p']/\∃ cs c,v=.agg cs.toArray/\RdC S' cs c/\wC c<=m
section
variable {br:Nat} {sl:Value} {ys:List Nat}
attribute [local irreducible] Run CondV GuardV LoadV
theorem gb {p:Nat} {S:Store} {cs:List Value} {c:C} (hrd:RdSl S 1 dD sl ys) (h:RdC S cs c) (hw:wC c<=100000) (hp:p<=90000000) :
  Tri Tryz.prog rc [rdP br,.agg cs.toArray] [rdI br sl p] S (yk br sl p 600 (wC c+700)):=by
 intro w hI
 have hl5:=h.length
 refine kT ?_
 unfold ia
 refine r_box hI fun b3 w' hI=>?_
 refine r_alloc hI aP fun b4 w' hI=>?_
 refine r_loadW hI 1 al rfl (by simpa [Value.cells] using hl5) ?_
 refine Run.call0E lK lS hI (vC h (by omega)) fun v' I' S1 w'=>?_
 rintro ⟨hd,kv,css,rfl,hhd,rfl,hR⟩ hE1 hI
 have hE1:Ext w.heap.size [br] S S1:=hE1
 obtain ⟨a0,n0,q0,rfl⟩:=hI.rowSlice 3 rfl
 have hhd0:=hhd
 obtain ⟨k4,rfl,hk,hn,hs,_⟩:=RdT.iff.1 hhd
 obtain ⟨ak,nk,ck,hk4⟩:∃ a n c,k4=.slice a n c:=by
  obtain ⟨_,e,_,_,_,a,q,rfl,_⟩:=RdT.iff.1 hhd0
  simp only [List.cons.injEq,and_true,true_and] at e
  exact ⟨_,_,_,e⟩
 subst hk4
 refine r_alloc hI aP fun b5 w' hI=>?_
 refine au hI 4 rfl al rfl rfl (by simp [Value.oneCell']) fun w' hI=>?_
 obtain ⟨B4,hB4⟩:∃ B4,B4=Item.blk b4 (.cells #[.int .i64 0,.int .i64 0,.string ⟨#[]⟩,.slice none 0 0,.slice none 0 0] af):=⟨_,rfl⟩
 have hI:Inv w [br] [.blk b5 (.cells #[.int .i64 c.head.kind,.int .i64 c.head.n,.string c.head.name,.slice ak nk ck,.slice a0 n0 q0] af),ax (.slice a0 n0 q0) ad 4 css,B4,rdI br sl p] S1 w':=by
  rw [hB4]
  exact (((hI.pick [true,false,true,true,true]).last 2 rfl).last 1 rfl).last 0 rfl
 have hwc:wC c=wT c.head+c.body.length+wL c.body:=rfl
 refine ⟨fun w'=>∃ (p1:Nat) (S2:Store) (cs1:List Value) (c1:C),p1<=p+600/\Ext w.heap.size [br] S S2/\RdC S2 cs1 c1/\wC c1<=wC c+700/\Inv w [br] [.blk b5 (.cells cs1.toArray af),B4,rdI br sl p1] S2 w',?_,?_⟩
 ·have hfin:∀ {hd:List Value} {h:T} {p1:Nat} {w':World} {S1:Store} {css:List (List Value)} {kv:Value} {ks:List T},Ext w.heap.size [br] S S1->p1<=p+600->RdT S1 hd h->Rows 4 (RdT S1) css ks->wT h+ks.length+wL ks<=wC c+700->
    Inv w [br] [.blk b5 (.cells (hd++[kv]).toArray af),ax kv ad 4 css,B4,rdI br sl p1] S1 w'->
    ∃ (p1:Nat) (S2:Store) (cs1:List Value) (c1:C),p1<=p+600/\Ext w.heap.size [br] S S2/\RdC S2 cs1 c1/\wC c1<=wC c+700/\Inv w [br] [.blk b5 (.cells cs1.toArray af),B4,rdI br sl p1] S2 w':=by
   intro hd h p1 w' S1 css kv ks hE hp1 hh hR hwn hI
   obtain ⟨S2,hE2,hI,hr,_⟩:=iI hI hR hh
   exact ⟨p1,S2,_,_,hp1,hE.trans hE2,hr,hwn,hI⟩
  refine Run.callL aM aL hI (bh (n:=40) (hrd.monoU hE1.1) (by omega) (by omega)) rfl fun v' I' S1 w'=>?_
  rintro ⟨rfl,rfl,kk,hkk,rfl⟩ _ hI
  refine r_eql ?_
  refine condP (fun _=>?_) (fun _=>?_)
  ·refine Run.callL lM lw hI (iO (p:=p+1) (hrd.monoU hE1.1) (by omega)) rfl fun v' I' S2 w'=>?_
   rintro ⟨p2,hp2,rfl,cs2,t2,rfl,hr2,hw2⟩ hE2 hI
   refine Run.callL gN gZ hI (fY (p:=p2) (hrd.monoU (hE1.trans hE2).1) hr2 (by omega) (by omega)) rfl fun v' I' S3 w'=>?_
   rintro ⟨p3,hp3,rfl,cs3,t3,rfl,hr3,hw3⟩ hE3 hI
   have hr3':=hr3
   obtain ⟨k3,rfl,_,_,_,a3,q3,rfl,_⟩:=RdT.iff.1 hr3
   refine r_field aQ ?_
   refine rr hI 0 rfl aj rfl rfl (by simp [Value.cells,Value.oneCell']) fun w' hI=>?_
   exact hfin ((hE1.trans hE2).trans hE3) (by omega) hr3' (hR.monoR fun _ _ h=>RdT.mono (hE2.trans hE3).1 h) (by omega) hI
  refine r_eql ?_
  refine condP (fun _=>?_) (fun _=>?_)
  ·have hcl:=hR.hc
   have hI:=hI
   refine ⟨fun D x27 x26 x25 x24 x23 x22 x21 x20 x19 w_=>(D 0=true->x19=.pointer (some ⟨b5,4,none⟩))/\(D 1=true->x20=.slice a0 n0 q0)/\(D 2=true->x21=rdP br)/\(D 3=true->x22=rdP br)/\(D 4=true->True)/\(D 5=true->True)/\(D 6=true->True)/\(D 7=true->True)/\(D 8=true->x27=.pointer (some ⟨b5,4,none⟩))/\(D 9=true->True)/\∃ n_:Nat,n_<=5/\D 4=decide (1<=n_)/\D 5=decide (2<=n_)/\D 6=decide (3<=n_)/\D 7=decide (4<=n_)/\D 9=decide (5<=n_)/\(D 9=true->D 1=true)/\(dk (Inv w [br] [.blk b5 (.cells #[.int .i64 c.head.kind,.int .i64 c.head.n,.string c.head.name,.slice ak nk ck,.slice a0 n0 q0] af),ax (.slice a0 n0 q0) ad 4 css,B4,rdI br sl (p+1)] S1 w_) (dk (∃ p1 S2 cs t,x23=.agg cs.toArray/\RdT S2 cs t/\wT t<=500/\p1<=p+501/\Ext w.heap.size [br] S1 S2/\Inv w [br] [.blk b5 (.cells #[.int .i64 c.head.kind,.int .i64 c.head.n,.string c.head.name,.slice ak nk ck,.slice a0 n0 q0] af),ax (.slice a0 n0 q0) ad 4 css,B4,rdI br sl p1] S2 w_) (lo w [br] b5 #[.int .i64 c.head.kind,.int .i64 c.head.n,.string c.head.name,.slice ak nk ck,.slice a0 n0 q0] 4 af (.slice a0 n0 q0) css (fun p=>[B4,rdI br sl p]) (fun cs p' S'=>∃ t,RdT S' cs t/\wT t<=600/\p'<=p+503/\Ext w.heap.size [br] S1 S') x24 x25 x26 w_)) n_),⟨fun h=>Bool.noConfusion h,fun h=>Bool.noConfusion h,fun h=>Bool.noConfusion h,fun h=>Bool.noConfusion h,fun h=>Bool.noConfusion h,fun h=>Bool.noConfusion h,fun h=>Bool.noConfusion h,fun h=>Bool.noConfusion h,fun h=>Bool.noConfusion h,fun h=>Bool.noConfusion h,⟨0,Nat.zero_le _,rfl,rfl,rfl,rfl,rfl,(fun h=>Bool.noConfusion h),hI.draw⟩⟩,⟨?_,?_,?_,?_,?_,?_,?_,?_,?_,?_,trivial⟩,?_⟩
   ·intro D hD_  x27 x26 x25 x24 x23 x22 x21 x20 x19 w_
    rintro ⟨h0_,h1_,h2_,h3_,h4_,h5_,h6_,h7_,h8_,h9_,⟨n_,ln_,e1_,e2_,e3_,e4_,e5_,kp_,hS⟩⟩
    refine r_field aw ?_
    exact ⟨fun _=>rfl,h1_,h2_,h3_,h4_,h5_,h6_,h7_,h8_,h9_,⟨n_,ln_,e1_,e2_,e3_,e4_,e5_,kp_,hS⟩⟩
   ·intro D hD_ d0_0 x27 x26 x25 x24 x23 x22 x21 x20 x19 w_
    rintro ⟨h0_,h1_,h2_,h3_,h4_,h5_,h6_,h7_,h8_,h9_,⟨n_,ln_,e1_,e2_,e3_,e4_,e5_,kp_,hS⟩⟩
    obtain rfl:=h0_ d0_0
    have ln2_:=vU e5_ kp_ hD_
    refine r_load ao ((xC (fun h=>h.cellL (i:=0) rfl) (fun ⟨_,_,_,_,_,_,_,_,_,h⟩=>h.cellL (i:=0) rfl) (fun n hn h=>od h hn) hS ln2_).trans rfl) ?_
    exact ⟨h0_,fun _=>rfl,h2_,h3_,h4_,h5_,h6_,h7_,h8_,h9_,⟨n_,ln_,e1_,e2_,e3_,e4_,e5_,(fun _=>rfl),hS⟩⟩
   ·intro D hD_  x27 x26 x25 x24 x23 x22 x21 x20 x19 w_
    rintro ⟨h0_,h1_,h2_,h3_,h4_,h5_,h6_,h7_,h8_,h9_,⟨n_,ln_,e1_,e2_,e3_,e4_,e5_,kp_,hS⟩⟩
    exact ⟨h0_,h1_,fun _=>rfl,h3_,h4_,h5_,h6_,h7_,h8_,h9_,⟨n_,ln_,e1_,e2_,e3_,e4_,e5_,kp_,hS⟩⟩
   ·intro D hD_  x27 x26 x25 x24 x23 x22 x21 x20 x19 w_
    rintro ⟨h0_,h1_,h2_,h3_,h4_,h5_,h6_,h7_,h8_,h9_,⟨n_,ln_,e1_,e2_,e3_,e4_,e5_,kp_,hS⟩⟩
    exact ⟨h0_,h1_,h2_,fun _=>rfl,h4_,h5_,h6_,h7_,h8_,h9_,⟨n_,ln_,e1_,e2_,e3_,e4_,e5_,kp_,hS⟩⟩
   ·intro D hD_ d3_0 x27 x26 x25 x24 x23 x22 x21 x20 x19 w_
    rintro ⟨h0_,h1_,h2_,h3_,h4_,h5_,h6_,h7_,h8_,h9_,⟨n_,ln_,e1_,e2_,e3_,e4_,e5_,kp_,hS⟩⟩
    obtain rfl:=h3_ d3_0
    obtain rfl:n_=0:=wk e1_ hD_
    refine Run.callL lM lw (L:=[.blk b5 _,ax _ ad 4 css,B4,rdI br sl (p+1)]) hS (iO (p:=p+1) (hrd.monoU hE1.1) (by omega)) rfl fun v' I' S2 w_=>?_
    rintro ⟨p2,hp2,rfl,cs2,t2,rfl,hr2,hw2⟩ hE2 hI
    exact ⟨h0_,h1_,h2_,h3_,fun _=>by first|assumption|trivial,h5_,h6_,h7_,h8_,h9_,⟨1,by decide,rfl,(by first|exact e2_|rfl),(by first|exact e3_|rfl),(by first|exact e4_|rfl),(by first|exact e5_|rfl),kp_,⟨p2,S2,cs2,t2,rfl,hr2,hw2,by omega,hE2,hI⟩⟩⟩
   ·intro D hD_ d2_0 d4_1 d4_2 x27 x26 x25 x24 x23 x22 x21 x20 x19 w_
    rintro ⟨h0_,h1_,h2_,h3_,h4_,h5_,h6_,h7_,h8_,h9_,⟨n_,ln_,e1_,e2_,e3_,e4_,e5_,kp_,hS⟩⟩
    obtain rfl:=h2_ d2_0
    have g4_:=h4_ d4_1
    obtain rfl:n_=1:=dN e1_ d4_1 e2_ hD_
    obtain ⟨p2,S2,cs2,t2,rfl,hr2,hw2,hp2,hE2,hI⟩:=bg hS
    refine Run.callL gN gZ (L:=[.blk b5 _,ax _ ad 4 css,B4,rdI br sl p2]) hI (fY (p:=p2) (hrd.monoU (hE1.trans hE2).1) hr2 (by omega) (by omega)) rfl fun v' I' S3 w_=>?_
    rintro ⟨p3,hp3,rfl,cs3,t3,rfl,hr3,hw3⟩ hE3 hI
    exact ⟨h0_,h1_,h2_,h3_,h4_,fun _=>by first|assumption|trivial,h6_,h7_,h8_,h9_,⟨2,by decide,(by first|exact e1_|rfl),rfl,(by first|exact e3_|rfl),(by first|exact e4_|rfl),(by first|exact e5_|rfl),kp_,bS (oo ⟨t3,hr3,by omega,by omega,hE2.trans hE3⟩ hr3 hI)⟩⟩
   ·intro D hD_ d5_0 x27 x26 x25 x24 x23 x22 x21 x20 x19 w_
    rintro ⟨h0_,h1_,h2_,h3_,h4_,h5_,h6_,h7_,h8_,h9_,⟨n_,ln_,e1_,e2_,e3_,e4_,e5_,kp_,hS⟩⟩
    have g5_:=h5_ d5_0
    obtain rfl:n_=2:=dN e2_ d5_0 e3_ hD_
    refine ap1 (bg hS) fun u w_ hS=>?_
    exact ⟨h0_,h1_,h2_,h3_,h4_,h5_,fun _=>by first|assumption|trivial,h7_,h8_,h9_,⟨3,by decide,(by first|exact e1_|rfl),(by first|exact e2_|rfl),rfl,(by first|exact e4_|rfl),(by first|exact e5_|rfl),kp_,bS hS⟩⟩
   ·intro D hD_ d1_0 d6_1 d5_2 x27 x26 x25 x24 x23 x22 x21 x20 x19 w_
    rintro ⟨h0_,h1_,h2_,h3_,h4_,h5_,h6_,h7_,h8_,h9_,⟨n_,ln_,e1_,e2_,e3_,e4_,e5_,kp_,hS⟩⟩
    obtain rfl:=h1_ d1_0
    have g6_:=h6_ d6_1
    obtain rfl:n_=3:=dN e3_ d6_1 e4_ hD_
    refine ap2 (bg hS) (by omega) fun u w_ hS=>?_
    exact ⟨h0_,h1_,h2_,h3_,h4_,h5_,h6_,fun _=>by first|assumption|trivial,h8_,h9_,⟨4,by decide,(by first|exact e1_|rfl),(by first|exact e2_|rfl),(by first|exact e3_|rfl),rfl,(by first|exact e5_|rfl),kp_,bS hS⟩⟩
   ·intro D hD_ d0_0 d1_1 d2_2 d3_3 d4_4 d5_5 d6_6 d7_7 x27 x26 x25 x24 x23 x22 x21 x20 x19 w_
    rintro ⟨h0_,h1_,h2_,h3_,h4_,h5_,h6_,h7_,h8_,h9_,⟨n_,ln_,e1_,e2_,e3_,e4_,e5_,kp_,hS⟩⟩
    refine r_field aw ?_
    exact ⟨h0_,h1_,h2_,h3_,h4_,h5_,h6_,h7_,fun _=>rfl,h9_,⟨n_,ln_,e1_,e2_,e3_,e4_,e5_,kp_,hS⟩⟩
   ·intro D hD_ d8_0 d7_1 d7_2 d0_3 d1_4 d2_5 d3_6 d4_7 d5_8 d6_9 d7_10 x27 x26 x25 x24 x23 x22 x21 x20 x19 w_
    rintro ⟨h0_,h1_,h2_,h3_,h4_,h5_,h6_,h7_,h8_,h9_,⟨n_,ln_,e1_,e2_,e3_,e4_,e5_,kp_,hS⟩⟩
    obtain rfl:=h8_ d8_0
    have g7_:=h7_ d7_1
    obtain rfl:n_=4:=dN e4_ d7_1 e5_ hD_
    refine ap3 (bg hS) (by simp) fun w_ hS=>?_
    exact ⟨h0_,h1_,h2_,h3_,h4_,h5_,h6_,h7_,h8_,fun _=>trivial,⟨5,by decide,(by first|exact e1_|rfl),(by first|exact e2_|rfl),(by first|exact e3_|rfl),(by first|exact e4_|rfl),rfl,(fun _=>d1_4),bS hS⟩⟩
   intro D d9_ d8_ d7_ d6_ d5_ d4_ d3_ d2_ d1_ d0_ x27 x26 x25 x24 x23 x22 x21 x20 x19 w_
   rintro ⟨h0_,h1_,h2_,h3_,h4_,h5_,h6_,h7_,h8_,h9_,⟨n_,ln_,e1_,e2_,e3_,e4_,e5_,kp_,hS⟩⟩
   obtain rfl:n_=5:=xk ln_ e5_ d9_
   clear e1_ e2_ e3_ e4_ e5_
   obtain ⟨p3,S7,cs,⟨t,hcs,hwt,hp3,hE7⟩,hl,hI⟩:=bg (bg hS)
   exact hfin (hE1.trans hE7) (by omega) (hhd0.mono hE7.1) ((hR.monoR fun _ _ h=>RdT.mono hE7.1 h).snoc hcs hl.1) (by rw [dq,List.length_append,List.length_cons,List.length_nil]; simp only [wL]; omega) hI
  refine r_eql ?_
  refine condP (fun _=>?_) (fun _=>?_)
  ·refine ⟨fun w'=>∃ (S2:Store) (kv:Value) (css:List (List Value)) (ks:List T),Ext w.heap.size [br] S S2/\Rows 4 (RdT S2) css ks/\ks.length<=c.body.length+7/\wL ks+4 * (7 - (ks.length - c.body.length))<=wL c.body+28/\c.body.length<=ks.length/\
     RdT S2 [.int .i64 c.head.kind,.int .i64 c.head.n,.string c.head.name,.slice ak nk ck] c.head/\
     Inv w [br] [.blk b5 (.cells #[.int .i64 c.head.kind,.int .i64 c.head.n,.string c.head.name,.slice ak nk ck,kv] af),ax kv ad 4 css,B4,rdI br sl (p+1)] S2 w',fun w'=>7 - lY w' b5 4,⟨S1,_,css,c.body,hE1,hR,by omega,by omega,by omega,hhd0,hI⟩,?_⟩
   intro t39 t38 t37 t36 t35 t34 _ _ _ _ w'
   rintro ⟨S2,kv,css,ks,hE2,hR,hkl,hkw,hkb,hhd,hI⟩
   obtain ⟨a1,n1,q1,rfl,hn1⟩:∃ a m c,kv=.slice a m c/\m=ks.length:=by
    obtain ⟨S',_,_,_,hr⟩:=iI hI hR hhd
    obtain ⟨a,q,rfl,_⟩:=hr
    exact ⟨a,_,q,rfl,rfl⟩
   subst hn1
   have hl1:=jh hI (i:=0) (o:=4) rfl rfl
   have hcl:=hR.hc
   refine r_fieldL hI 0 rfl aw ao rfl ?_
   refine r_len aq ?_
   refine r_leq ?_
   refine condP (fun hle=>?_) (fun hle=>?_)
   ·have hI:=hI
    refine ⟨fun D x39 x38 x37 x36 x35 x34 w_=>(D 0=true->x34=.pointer (some ⟨b5,4,none⟩))/\(D 1=true->x35=.slice a1 ks.length q1)/\(D 2=true->True)/\(D 3=true->True)/\(D 4=true->True)/\(D 5=true->x39=.pointer (some ⟨b5,4,none⟩))/\(D 6=true->True)/\∃ n_:Nat,n_<=4/\D 2=decide (1<=n_)/\D 3=decide (2<=n_)/\D 4=decide (3<=n_)/\D 6=decide (4<=n_)/\(D 6=true->D 1=true)/\(dk (Inv w [br] [.blk b5 (.cells #[.int .i64 c.head.kind,.int .i64 c.head.n,.string c.head.name,.slice ak nk ck,.slice a1 ks.length q1] af),ax (.slice a1 ks.length q1) ad 4 css,B4,rdI br sl (p+1)] S2 w_) (lo w [br] b5 #[.int .i64 c.head.kind,.int .i64 c.head.n,.string c.head.name,.slice ak nk ck,.slice a1 ks.length q1] 4 af (.slice a1 ks.length q1) css (fun p=>[B4,rdI br sl (p+1)]) (fun cs p' S'=>p'=p/\Ext w.heap.size [br] S2 S'/\RdT S' cs (.mk 3 0 ⟨#[116,114,117,101]⟩ [])) x36 x37 x38 w_) n_),⟨fun h=>Bool.noConfusion h,fun h=>Bool.noConfusion h,fun h=>Bool.noConfusion h,fun h=>Bool.noConfusion h,fun h=>Bool.noConfusion h,fun h=>Bool.noConfusion h,fun h=>Bool.noConfusion h,⟨0,Nat.zero_le _,rfl,rfl,rfl,rfl,(fun h=>Bool.noConfusion h),hI.draw⟩⟩,⟨?_,?_,?_,?_,?_,?_,?_,trivial⟩,?_⟩
    ·intro D hD_  x39 x38 x37 x36 x35 x34 w_
     rintro ⟨h0_,h1_,h2_,h3_,h4_,h5_,h6_,⟨n_,ln_,e1_,e2_,e3_,e4_,kp_,hS⟩⟩
     refine r_field aw ?_
     exact ⟨fun _=>rfl,h1_,h2_,h3_,h4_,h5_,h6_,⟨n_,ln_,e1_,e2_,e3_,e4_,kp_,hS⟩⟩
    ·intro D hD_ d0_0 x39 x38 x37 x36 x35 x34 w_
     rintro ⟨h0_,h1_,h2_,h3_,h4_,h5_,h6_,⟨n_,ln_,e1_,e2_,e3_,e4_,kp_,hS⟩⟩
     obtain rfl:=h0_ d0_0
     have ln2_:=vU e4_ kp_ hD_
     refine r_load ao ((sS (fun h=>h.cellL (i:=0) rfl) (fun n hn h=>od h hn) hS ln2_).trans rfl) ?_
     exact ⟨h0_,fun _=>rfl,h2_,h3_,h4_,h5_,h6_,⟨n_,ln_,e1_,e2_,e3_,e4_,(fun _=>rfl),hS⟩⟩
    ·intro D hD_  x39 x38 x37 x36 x35 x34 w_
     rintro ⟨h0_,h1_,h2_,h3_,h4_,h5_,h6_,⟨n_,ln_,e1_,e2_,e3_,e4_,kp_,hS⟩⟩
     obtain rfl:n_=0:=wk e1_ hD_
     refine Run.call0E be bf (L:=[.blk b5 _,ax _ ad 4 css,B4,rdI br sl (p+1)]) hS (bl ⟨#[116,114,117,101]⟩ (by decide) (eI S2) (by simp)) fun v' I' S3 w_=>?_
     rintro ⟨rfl,cs3,rfl,hcs3⟩ hE3 hI
     exact ⟨h0_,h1_,fun _=>by first|assumption|trivial,h3_,h4_,h5_,h6_,⟨1,by decide,rfl,(by first|exact e2_|rfl),(by first|exact e3_|rfl),(by first|exact e4_|rfl),kp_,oo ⟨rfl,hE3,hcs3⟩ hcs3 hI⟩⟩
    ·intro D hD_ d2_0 x39 x38 x37 x36 x35 x34 w_
     rintro ⟨h0_,h1_,h2_,h3_,h4_,h5_,h6_,⟨n_,ln_,e1_,e2_,e3_,e4_,kp_,hS⟩⟩
     have g2_:=h2_ d2_0
     obtain rfl:n_=1:=dN e1_ d2_0 e2_ hD_
     refine ap1 hS fun u w_ hS=>?_
     exact ⟨h0_,h1_,h2_,fun _=>by first|assumption|trivial,h4_,h5_,h6_,⟨2,by decide,(by first|exact e1_|rfl),rfl,(by first|exact e3_|rfl),(by first|exact e4_|rfl),kp_,hS⟩⟩
    ·intro D hD_ d1_0 d3_1 d2_2 x39 x38 x37 x36 x35 x34 w_
     rintro ⟨h0_,h1_,h2_,h3_,h4_,h5_,h6_,⟨n_,ln_,e1_,e2_,e3_,e4_,kp_,hS⟩⟩
     obtain rfl:=h1_ d1_0
     have g3_:=h3_ d3_1
     obtain rfl:n_=2:=dN e2_ d3_1 e3_ hD_
     refine ap2 hS (by omega) fun u w_ hS=>?_
     exact ⟨h0_,h1_,h2_,h3_,fun _=>by first|assumption|trivial,h5_,h6_,⟨3,by decide,(by first|exact e1_|rfl),(by first|exact e2_|rfl),rfl,(by first|exact e4_|rfl),kp_,hS⟩⟩
    ·intro D hD_ d0_0 d1_1 d2_2 d3_3 d4_4 x39 x38 x37 x36 x35 x34 w_
     rintro ⟨h0_,h1_,h2_,h3_,h4_,h5_,h6_,⟨n_,ln_,e1_,e2_,e3_,e4_,kp_,hS⟩⟩
     refine r_field aw ?_
     exact ⟨h0_,h1_,h2_,h3_,h4_,fun _=>rfl,h6_,⟨n_,ln_,e1_,e2_,e3_,e4_,kp_,hS⟩⟩
    ·intro D hD_ d5_0 d4_1 d4_2 d0_3 d1_4 d2_5 d3_6 d4_7 x39 x38 x37 x36 x35 x34 w_
     rintro ⟨h0_,h1_,h2_,h3_,h4_,h5_,h6_,⟨n_,ln_,e1_,e2_,e3_,e4_,kp_,hS⟩⟩
     obtain rfl:=h5_ d5_0
     have g4_:=h4_ d4_1
     obtain rfl:n_=3:=dN e3_ d4_1 e4_ hD_
     refine ap3 hS (by simp) fun w_ hS=>?_
     exact ⟨h0_,h1_,h2_,h3_,h4_,h5_,fun _=>trivial,⟨4,by decide,(by first|exact e1_|rfl),(by first|exact e2_|rfl),(by first|exact e3_|rfl),rfl,(fun _=>d1_4),hS⟩⟩
    intro D d6_ d5_ d4_ d3_ d2_ d1_ d0_ x39 x38 x37 x36 x35 x34 w_
    rintro ⟨h0_,h1_,h2_,h3_,h4_,h5_,h6_,⟨n_,ln_,e1_,e2_,e3_,e4_,kp_,hS⟩⟩
    obtain rfl:n_=4:=xk ln_ e4_ d6_
    clear e1_ e2_ e3_ e4_
    obtain ⟨p3,S7,cs,⟨rfl,hE7,hcs⟩,hl,hI⟩:=hS
    have hR2:=(hR.monoR fun _ _ h=>RdT.mono hE7.1 h).snoc hcs hl.1
    have e4:(ByteArray.mk #[116,114,117,101]).size=4:=rfl
    refine ⟨⟨S7,_,_,_,hE2.trans hE7,hR2,by rw [List.length_append]; simp only [List.length_cons,List.length_nil]; omega,by rw [dq,List.length_append,List.length_cons,List.length_nil]; simp only [wL,wT,List.length_nil,e4]; omega,by rw [List.length_append]; omega,hhd.mono hE7.1,hI⟩,?_⟩
    obtain ⟨S',_,_,_,hr⟩:=iI hI hR2 (hhd.mono hE7.1)
    obtain ⟨a,q,e,_⟩:=hr
    have hl2:=jh hI (i:=0) (o:=4) (a:=a) (n:=(ks++[T.mk 3 0 ⟨#[116,114,117,101]⟩ []]).length) (m:=q) rfl (by rw [<- e]; rfl)
    show 7 - lY w_ b5 4<7 - lY w' b5 4
    rw [hl1,hl2,List.length_append,List.length_cons,List.length_nil]
    omega
   ·exact hfin hE2 (by omega) hhd hR (by omega) hI
  refine r_eql ?_
  refine condP (fun _=>?_) (fun _=>?_)
  ·refine iu hI (by kernel_rfl) rfl (by omega) fun v S3 w' hE3 hv hI=>?_
   refine Run.callL bO bP hI (dY (p:=p+1) (hrd.monoU (hE1.trans hE3).1) hv (by decide) (by omega)) rfl fun v' I' S3 w'=>?_
   rintro ⟨rfl,rfl,m,hm,rfl⟩ _ hI
   have hm:=gp (m:=7) hm (by decide)
   refine r_field aQ ?_
   refine r_field aA ?_
   refine r_store hI 0 (n:=1) rfl (by decide +kernel) rfl (by simp) (by simp [Value.cells,Value.oneCell']) fun w' hI=>?_
   have hr0:=hhd0.mono hE3.1
   obtain ⟨k3,e3,_,_,_,hk3⟩:=RdT.iff.1 hr0
   have hr1:RdT S3 [.int .i64 c.head.kind,.int .i64 c.head.n,.string m,.slice ak nk ck] (.mk c.head.kind c.head.n m c.head.kids):=by
    simp only [List.cons.injEq,and_true,true_and] at e3
    exact RdT.iff.2 ⟨_,rfl,hk,hn,by simp only [T.name,maxLen]; omega,e3 ▸ hk3⟩
   refine hfin (hE1.trans hE3) (by omega) hr1 (hR.monoR fun _ _ h=>RdT.mono hE3.1 h) ?_ hI
   have:wT c.head=c.head.name.size+c.head.kids.length+wL c.head.kids:=by cases c.head; rw [wT]; rfl
   rw [wT]
   omega
  ·exact hfin hE1 (by omega) hhd0 hR (by omega) hI
 intro _ _ _ _ _ _ _ _ _ _ _ _ _ _ _ _ _ _ _ _ _ _ _ _ _ _ _ _ _ _ _ _ _ _ _ _ _ _ _ w'
 rintro ⟨p1,S2,cs1,c1,hp1,hE2,hr,hw1,hI⟩
 subst hB4
 refine r_loadW hI 0 al rfl (by simpa using hr.length) ?_
 refine au hI 1 rfl al (by simpa using hr.length) rfl (by simpa using hr.one) fun w' hI=>?_
 refine loadV_W hI 1 al rfl (by simpa using hr.length) ?_
 exact ⟨_,_,S2,rfl,hI.pick [false,false,true],hE2,p1,hp1,rfl,cs1,c1,rfl,hr,hw1⟩
end
end Go.Proofs.YtmnnpgdeecnfpaaGreat

/- spec.l4MutateAll, l4Texts, l4Program, l4Clause, l14Two. -/
namespace Go.Proofs.YtmnnpgdeecnfpaaGreat
open Go Go.RowKit
def Light (n m:Nat) (q:List C):Prop:=q.length<=n/\∀ c∈q,wC c<=m
theorem Light.le {n m:Nat} {q:List C} (h:Light n m q):q.length+wP q<=n+n * m:=by
 have:∀ q:List C,(∀ c∈q,wC c<=m)->wP q<=q.length * m:=by
  intro q
  induction q with
  | nil=>intro _; simp [wP]
  | cons c q ih=>
   intro h
   have h1:=h c (List.mem_cons_self ..)
   have h2:=ih fun d hd=>h d (List.mem_cons_of_mem _ hd)
   simp only [wP,List.length_cons,Nat.succ_mul]
   omega
 have h1:=this q h.2
 have h2:q.length * m<=n * m:=Nat.mul_le_mul_right _ h.1
 have:=h.1
 omega
theorem Light.append {n n' m:Nat} {q q':List C} (h:Light n m q) (h':Light n' m q'):Light (n+n') m (q++q'):=
 ⟨by rw [List.length_append]; exact Nat.add_le_add h.1 h'.1,fun c hc=>(List.mem_append.1 hc).elim (h.2 c) (h'.2 c)⟩
/- a program that is still the caller's own row -/
abbrev yc (br:Nat) (sl:Value) (p k n m:Nat):Value->List Item->Store->Prop:=fun v I' S'=>∃ p' css q,p'<=p+k/\I'=[ax v af 5 css,rdI br sl p']/\Rows 5 (RdC S') css q/\Light n m q/\0<q.length/\∀ c∈q,aO c=true
section
variable {w0 w:World} {X:List Nat} {L A:List Item} {S:Store}
theorem wv {v:Value} {css:List (List Value)} {q:List C} (hI:Inv w0 X (ax v af 5 css::A) S w) (hR:Rows 5 (RdC S) css q) :
  ∃ S',Ext w0.heap.size X S S'/\Inv w0 X A S' w/\RdSl S' 5 (RdC S') v q:=by
 have hI:Inv w0 X (A++[ax v af 5 css]) S w:=hI.last 0 rfl
 obtain ⟨S',hE,hrd,hI⟩:=Inv.lendExt hI
 exact ⟨S',hE,hI,RowRd.rows (hR.monoR fun _ _ h=>RdC.mono hE.1 h) hrd⟩
end
section
variable {br:Nat} {sl:Value} {ys:List Nat}
attribute [local irreducible] Run CondV GuardV LoadV
end
end Go.Proofs.YtmnnpgdeecnfpaaGreat

/- spec.l4Texts, l4Program, l4Clause, l14Two. -/
namespace Go.Proofs.YtmnnpgdeecnfpaaGreat
open Go Go.RowKit
def okS (s:ByteArray):Bool:=wU (bs s) && decide (s.size<=1000)
theorem wi {s:ByteArray} (h:okS s=true):∃ q,um 60 (bs s)=some q/\0<q.length/\Light 8 200 q/\(∀ c∈q,aO c=true)/\s.size<=1000:=by
 rw [okS,Bool.and_eq_true,decide_eq_true_eq] at h
 obtain ⟨h,hs⟩:=h
 unfold wU at h
 split at h
 ·rename_i q hq
  simp only [Bool.and_eq_true,decide_eq_true_eq,List.all_eq_true] at h
  exact ⟨q,hq,h.1,⟨h.2.1,fun c hc=>(h.2.2 c hc).2⟩,fun c hc=>(h.2.2 c hc).1,hs⟩
 ·cases h
theorem vf {Q B:Prop} {R:Nat->Prop} {m:Nat} (h1:Q->B) (h2:∀ n,n<m->R n->B):∀ n,n<m+1->dk Q R n->B
 | 0,_,h=>h1 h
 | n+1,hn,h=>h2 n (by omega) h
section
attribute [local irreducible] Run CondV GuardV LoadV
theorem ux {S:Store} {s:ByteArray} (h:okS s=true):Tri Tryz.prog dV [.string s] [] S fun v I' S'=>∃ u css q,v=.tuple #[u,.bool true]/\I'=[ax u af 5 css]/\Rows 5 (RdC S') css q/\0<q.length/\Light 8 200 q/\∀ c∈q,aO c=true:=by
 obtain ⟨q,hq,h0,hl,hc,hs⟩:=wi h
 intro w hI
 have hb:(bs s).length=s.size:=(ey (bs s)).symm
 refine (ip (f:=60) (by omega) hq (by rw [hb]; omega) w hI).mono ?_
 rintro e w' ⟨v,I',S',rfl,hI,hE,u,css,rfl,rfl,hR⟩
 exact ⟨_,_,S',rfl,hI,hE,u,css,q,rfl,rfl,hR,h0,hl,hc⟩
theorem pn (S:Store):Tri Tryz.prog sx [] [] S fun v I' S'=>I'=[]/\∃ l,RdSl S' 1 iG v l/\l.length=11/\l.all okS=true:=by
 intro w hI
 refine mQ ?_
 unfold ji
 refine iu hI (by kernel_rfl) rfl (by omega) fun v S1 w' hE1 hv hI=>?_
 exact ⟨_,[],S1,rfl,hI,hE1,rfl,_,hv,rfl,by decide +kernel⟩
variable {br:Nat} {sl:Value} {ys:List Nat}
theorem mp {p:Nat} {S:Store} (hrd:RdSl S 1 dD sl ys) (hp:p<=100000000):Tri Tryz.prog pi [rdP br] [rdI br sl p] S (yc br sl p 1 8 200):=by
 intro w hI
 refine jS ?_
 unfold fR
 refine Run.call0E qF qK hI (pn S) fun v' I' S1 w'=>?_
 rintro ⟨rfl,l,hl,hl11,hok⟩ hE1 hI
 have hI:Inv w [br] [rdI br sl p] S1 w':=hI
 refine r_lenSl hl aZ ?_
 refine Run.callL aM aL hI (bh (n:=l.length) (hrd.monoU hE1.1) (by omega) (by omega)) rfl fun v' I' S1 w'=>?_
 rintro ⟨rfl,rfl,k,hk,rfl⟩ _ hI
 have hI:Inv w [br] [rdI br sl (p+1)] S1 w':=hI
 refine p8 hI hl aZ az hk (fun cs hcs=>hcs) ?_
 rw [List.all_eq_true] at hok
 refine Run.call0E jz jj hI (ux (hok _ (List.getElem_mem hk))) fun v I' S2 w'=>?_
 rintro ⟨u,css,q,rfl,rfl,hR,h0,hq,hcv⟩ hE2 hI
 refine r_extract (v:=u) rfl ?_
 refine r_extract (v:=.bool true) rfl ?_
 exact ⟨_,_,S2,rfl,hI.last 0 rfl,hE1.trans hE2,p+1,css,q,Nat.le_refl _,rfl,hR,hq,h0,hcv⟩
end
end Go.Proofs.YtmnnpgdeecnfpaaGreat

/- spec: walks, occurrence, unification. -/
namespace Go.Proofs.YtmnnpgdeecnfpaaGreat
open Go Go.RowKit
/- bindings as a row of terms -/
def KnU (S:Store) (c:Array Value) (st:aE):Prop:=st.length * 4<=c.size/\∀ i (h:i<st.length),(st[i]=none->cellsAt c (i * 4) 4=ut)/\(∀ t,st[i]=some t->RdT S (cellsAt c (i * 4) 4) t)
theorem KnU.set {S:Store} {c:Array Value} {st:aE} (h:KnU S c st) {n:Nat} (hn:n<st.length) {cs:List Value} {u:T} (hu:RdT S cs u):KnU S (putCells c (n * 4) cs) (st.set n (some u)):=by
 have hlc:=hu.length
 have h1:=h.1
 have hs:st.length * 4<=(putCells c (n * 4) cs).size:=by rw [putCells_size _ _ _ (by omega)]; exact h1
 refine ⟨by rw [List.length_set]; exact hs,fun i hi=>?_⟩
 rw [List.length_set] at hi
 by_cases e:n=i
 ·subst e
  rw [List.getElem_set_self]
  refine ⟨fun h=>(by cases h),fun t ht=>?_⟩
  simp only [Option.some.injEq] at ht
  subst ht
  have:=cellsAt_put_self (c:=c) (o:=n * 4) (vs:=cs) (by omega)
  rw [hlc] at this
  rw [this]
  exact hu
 ·rw [List.getElem_set_ne e,cellsAt_put_ne (by omega) (by omega)]
  exact h.2 i hi
theorem KnU.mono {S S':Store} {c:Array Value} {st:aE} (h:KnU S c st) (hs:Sle S S'):KnU S' c st:=⟨h.1,fun i hi=>⟨(h.2 i hi).1,fun t ht=>((h.2 i hi).2 t ht).mono hs⟩⟩
section
attribute [local irreducible] Run CondV GuardV LoadV
end
/- the variables of a term in a list of numbers -/
section
attribute [local irreducible] Run CondV GuardV LoadV
open Classical in
end

end Go.Proofs.YtmnnpgdeecnfpaaGreat

/- spec.l3Unify. -/
namespace Go.Proofs.YtmnnpgdeecnfpaaGreat
open Go Go.RowKit
/- the calls of a loop over two lists -/
inductive Chain (Call:aE->T->T->Bool->aE->Prop):aE->List T->List T->Bool->aE->Prop
 | nil {st:aE}:Chain Call st [] [] true st
 | stop {st st':aE} {a b:T} {xs ys:List T}:Call st a b false st'->Chain Call st (a::xs) (b::ys) false st'
 | go {st st1 st':aE} {a b:T} {xs ys:List T} {r:Bool}:Call st a b true st1->Chain Call st1 xs ys r st'->Chain Call st (a::xs) (b::ys) r st'
theorem Chain.head {Call:aE->T->T->Bool->aE->Prop} {st st':aE} {a b:T} {xs ys:List T} {r:Bool} (h:Chain Call st (a::xs) (b::ys) r st') :
  ∃ r1 st1,Call st a b r1 st1/\(r1=false->r=false/\st'=st1)/\(r1=true->Chain Call st1 xs ys r st'):=by
 cases h with
 | stop h=>exact ⟨false,_,h,fun _=>⟨rfl,rfl⟩,fun e=>(by cases e)⟩
 | go h h'=>exact ⟨true,_,h,fun e=>(by cases e),fun _=>h'⟩
theorem Chain.done {Call:aE->T->T->Bool->aE->Prop} {st st':aE} {r:Bool} (h:Chain Call st [] [] r st'):r=true/\st'=st:=by
 cases h
 exact ⟨rfl,rfl⟩
/- how a unification of walked terms ends -/
def yq (Call:aE->T->T->Bool->aE->Prop) (st:aE) (a' b':T) (r:Bool) (st':aE):Prop:=
 (a'.kind=1/\b'.kind=1/\a'.n=b'.n/\r=true/\st'=st) ∨
 (a'.kind=1/\¬ (b'.kind=1/\a'.n=b'.n)/\((¬ qM st a'.n.toNat b'/\r=true/\st'=st.set a'.n.toNat (some b')) ∨ (qM st a'.n.toNat b'/\r=false/\st'=st))) ∨
 (a'.kind≠1/\b'.kind=1/\((¬ qM st b'.n.toNat a'/\r=true/\st'=st.set b'.n.toNat (some a')) ∨ (qM st b'.n.toNat a'/\r=false/\st'=st))) ∨
 (a'.kind≠1/\b'.kind≠1/\((dR a' b'=false/\r=false/\st'=st) ∨ (dR a' b'=true/\Chain Call st a'.kids b'.kids r st')))
theorem Uni.calls {N:Nat} {Call:aE->T->T->Bool->aE->Prop} (hcall:∀ st a b a' b' r st',Good N st->okJ N (.one a b)->cq st a a'->cq st b b'->yq Call st a' b' r st'->Call st a b r st') {st st':aE} {j:Job} {r:Bool} (hu:Uni st j r st') :
  Good N st->okJ N j->match j with
   | .one a b=>Call st a b r st'
   | .list xs ys=>Chain Call st xs ys r st':=by
 induction hu with
 | same h1 h2 h3 h4 h5=>exact fun hg hj=>hcall _ _ _ _ _ _ _ hg hj h1 h2 (.inl ⟨h3,h4,h5,rfl,rfl⟩)
 | bindA h1 h2 h3 h4 h5=>exact fun hg hj=>hcall _ _ _ _ _ _ _ hg hj h1 h2 (.inr (.inl ⟨h3,h4,.inl ⟨h5,rfl,rfl⟩⟩))
 | occA h1 h2 h3 h4 h5=>exact fun hg hj=>hcall _ _ _ _ _ _ _ hg hj h1 h2 (.inr (.inl ⟨h3,h4,.inr ⟨h5,rfl,rfl⟩⟩))
 | bindB h1 h2 h3 h4 h5=>exact fun hg hj=>hcall _ _ _ _ _ _ _ hg hj h1 h2 (.inr (.inr (.inl ⟨h3,h4,.inl ⟨h5,rfl,rfl⟩⟩)))
 | occB h1 h2 h3 h4 h5=>exact fun hg hj=>hcall _ _ _ _ _ _ _ hg hj h1 h2 (.inr (.inr (.inl ⟨h3,h4,.inr ⟨h5,rfl,rfl⟩⟩)))
 | clash h1 h2 h3 h4 h5=>exact fun hg hj=>hcall _ _ _ _ _ _ _ hg hj h1 h2 (.inr (.inr (.inr ⟨h3,h4,.inl ⟨h5,rfl,rfl⟩⟩)))
 | kids h1 h2 h3 h4 h5 _ ih=>
  exact fun hg hj=>hcall _ _ _ _ _ _ _ hg hj h1 h2 (.inr (.inr (.inr ⟨h3,h4,.inr ⟨h5,ih hg ⟨mV (dE hg h1 hj.1),mV (dE hg h2 hj.2),r8 h5⟩⟩⟩)))
 | nil=>exact fun _ _=>.nil
 | stop _ ih=>exact fun hg hj=>.stop (ih hg ⟨hj.1 _ (List.mem_cons_self ..),hj.2.1 _ (List.mem_cons_self ..)⟩)
 | go h1 _ ih1 ih2=>
  intro hg hj
  have hj1:okJ N (.one _ _):=⟨hj.1 _ (List.mem_cons_self ..),hj.2.1 _ (List.mem_cons_self ..)⟩
  exact .go (ih1 hg hj1) (ih2 (h1.good hg hj1).1 ⟨fun a ha=>hj.1 a (List.mem_cons_of_mem _ ha),fun b hb=>hj.2.1 b (List.mem_cons_of_mem _ hb),by have:=hj.2.2; simpa using this⟩)
section
attribute [local irreducible] Run CondV GuardV LoadV
set_option maxHeartbeats 1000000 in
/- the case that a nonvariable meets a variable is handed on, so it comes with a contract -/
end

end Go.Proofs.YtmnnpgdeecnfpaaGreat

/- slices.Delete on a tree of the function's own. -/
namespace Go.Proofs.YtmnnpgdeecnfpaaGreat
open Go Go.RowKit
section
variable {P:Program} {w w0:World} {X:List Nat} {L:List Item} {S:Store} {K:Value->World->Prop}
attribute [local irreducible] Run CondV GuardV LoadV
/- append within the room of a block -/
end
end Go.Proofs.YtmnnpgdeecnfpaaGreat

/- DropClause: both sides. -/
namespace Go.Proofs.YtmnnpgdeecnfpaaGreat
open Go Go.RowKit
attribute [local irreducible] Run CondV GuardV LoadV

end Go.Proofs.YtmnnpgdeecnfpaaGreat

/- DropClause: both sides. -/
namespace Go.Proofs.YtmnnpgdeecnfpaaGreat
open Go Go.RowKit
attribute [local irreducible] Run CondV GuardV LoadV

end Go.Proofs.YtmnnpgdeecnfpaaGreat

/- spec.RenumberClause. -/
namespace Go.Proofs.YtmnnpgdeecnfpaaGreat
open Go Go.RowKit
section
attribute [local irreducible] Run CondV GuardV LoadV
end

end Go.Proofs.YtmnnpgdeecnfpaaGreat

/- spec.RenumberClause: lists and clauses. -/
namespace Go.Proofs.YtmnnpgdeecnfpaaGreat
open Go Go.RowKit
section
variable {w:World} {K:Value->World->Prop}
attribute [local irreducible] Run
end
section
attribute [local irreducible] Run CondV GuardV LoadV
theorem RdC.zero (S:Store):RdC S [.int .i64 0,.int .i64 0,.string ⟨#[]⟩,.slice none 0 0,.slice none 0 0] ⟨⟨0,0,⟨#[]⟩,[]⟩,[]⟩:=
 ⟨[.int .i64 0,.int .i64 0,.string ⟨#[]⟩,.slice none 0 0],.slice none 0 0,rfl,RdT.iff.2 ⟨_,rfl,by simp [inI,T.kind],by simp [inI,T.n],by rw [T.name]; decide +kernel,⟨none,0,rfl,Nat.le_refl _,Nat.zero_le _,.inl rfl⟩⟩,⟨none,0,rfl,Nat.le_refl _,Nat.zero_le _,.inl rfl⟩⟩
end

end Go.Proofs.YtmnnpgdeecnfpaaGreat

/- spec: resolved terms, if they are small. -/
namespace Go.Proofs.YtmnnpgdeecnfpaaGreat
open Go Go.RowKit
section
attribute [local irreducible] Run CondV GuardV LoadV
/- a tuple of a term and of how many nodes are left -/
end

end Go.Proofs.YtmnnpgdeecnfpaaGreat

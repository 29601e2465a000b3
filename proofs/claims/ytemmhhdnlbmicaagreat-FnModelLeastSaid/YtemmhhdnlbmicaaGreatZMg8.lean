/- spec.l1Draw, l1Some: a drawn term is readable and light. -/
import Derived.Test.YtemmhhdnlbmicaaGreatZMg7
namespace Go.Proofs.YtemmhhdnlbmicaaGreat
open Go Go.RowKit
theorem tK {l:List Int} {n a b:Int} (hm:n∈l) (h:(l.all fun n=>decide (a<=n) && decide (n<=b))=true):a<=n/\n<=b:=by
 rw [List.all_eq_true] at h
 have:=h n hm
 rw [Bool.and_eq_true,decide_eq_true_eq,decide_eq_true_eq] at this
 exact this
theorem yH {l:List ByteArray} {s:ByteArray} {m:Nat} (hm:s∈l) (h:(l.all fun s=>decide (s.size<=m))=true):s.size<=m:=by
 rw [List.all_eq_true] at h
 have:=h s hm
 rwa [decide_eq_true_eq] at this
theorem HX {Q B:Prop} {R:Nat->Prop} (h1:Q->B) (h2:∀ n,n<3->R n->B):∀ {n:Nat},pB Q R n->n<4->B
 | 0,h,_=>h1 h
 | n+1,h,hn=>h2 n (by omega) h
theorem mq:∀ l m:List T,wL (l++m)=wL l+wL m
 | [],m=>by simp [wL]
 | t::l,m=>by simp only [List.cons_append,wL,mq l m]; omega
theorem M3 {n:Int} (h:0<=n/\n<26):okU 26 (.mk 1 n emptyB []):=by
 simp only [okU,lz]
 exact ⟨by decide,fun _=>⟨h.1,h.2,trivial,trivial⟩,trivial,by decide⟩
theorem MH {n:Int}:okU 26 (.mk 2 n emptyB []):=by
 simp only [okU,lz]
 exact ⟨by decide,(fun h=>by cases h),trivial,by decide⟩
theorem EN {s:ByteArray} {ts:List T} (hs:s.size<=6) (h:lz 26 ts):okU 26 (.mk 3 0 s ts):=by
 simp only [okU]
 exact ⟨by decide,(fun h=>by cases h),h,hs⟩
theorem GV {N:Nat}:∀ {l m:List T},lz N l->lz N m->lz N (l++m)
 | [],_,_,h=>h
 | _::_,_,h,h'=>by
  rw [lz] at h
  rw [List.cons_append,lz]
  exact ⟨h.1,GV h.2 h'⟩
theorem sq {S:az} {k n:Int} (hk:inI k) (hn:inI n):RdT S [.int .i64 k,.int .i64 n,.string ⟨#[]⟩,.slice none 0 0] (.mk k n emptyB []):=
 RdT.iff.2 ⟨_,rfl,hk,hn,Nat.zero_le _,iM S⟩
section
variable {w0 w:World} {X:List Nat} {L:List Item} {S:az} {K:Value->World->Prop} {P:Program}
attribute [local irreducible] Run CondV aj bd
theorem Run.callL {f:FuncId} {fn:Func} {args:List Value} {I:List Item} {Post:Value->List Item->az->Prop}
  (hf:P.funcs[f]?=some fn) (hn:(fn.name == "runtime.NumGoroutine" || fn.body.isNone)=false) (h:Inv w0 X L S w) (hc:Tri P f args I S Post) (hL:L=L.dropLast++I)
  (hk:∀ v I' S' w',Post v I' S'->Ext w0.heap.size X S S'->Inv w0 X (L.dropLast++I') S' w'->K v w'):Run P (aH (.func (.func f) #[] #[]) args) w K:=
 Run.callE (A:=L.dropLast) hf hn (hL ▸ h) hc hk
theorem Ew {T:TypeId} {cx cy:Bool} {d:Nat} (hd:d<=1000000) (hk:K (.int .i64 (d:Int)) w):Run P (aq .sub T cx cy (.int .i64 ((d+1:Nat):Int)) (.int .i64 1)) w K:=by
 refine qz (by omega) ?_
 rw [show ((d+1:Nat):Int) - 1=d by omega]
 exact hk
theorem Ep {B:Prop} {b d:Nat} {c:Array Value} {E:TypeId} {kv xs xa:Value} {css:List (List Value)} {F:Nat->List Item} {Q:List Value->Nat->az->Prop} {p1:Nat} {S1:az} {cs:List Value} {t:T}
  (hQ:Q cs p1 S1) (hr:RdT S1 cs t) (hI:Inv w0 X (.blk b (.cells c E)::bj kv ab 4 css::F p1) S1 w):pB B (xk w0 X b c d E kv css F Q (.agg cs.toArray) xs xa w) 1:=
 ⟨p1,S1,cs,hQ,⟨hr.length,hr.one⟩,rfl,hI⟩
end
section
variable {br:Nat} {sl:Value} {ys:List Nat}
attribute [local irreducible] Run CondV aj bd
abbrev HS (br:Nat) (sl:Value) (ys:List Nat) (d:Nat):Prop:=∀ (p:Nat) (S:az),RdSl S 1 ku sl ys->p+3 * dW d<=1000000000->Tri Tryz.prog Jp [rdP br,.int .i64 (d:Int)] [rdI br sl p] S (NI br sl p d)
theorem De {d:Nat} (hd4:d<=4) (ih:∀ d',d'+1=d->HS br sl ys d'):HS br sl ys d:=by
 intro p S hrd hp w hI
 have hW:=LG d
 refine Af ?_
 unfold wy
 refine bw hI bG fun b4 w' hI=>?_
 have hI:Inv w [br] [.blk b4 (.cells #[.int .i64 0,.int .i64 0,.string ⟨#[]⟩,.slice none 0 0] ab),rdI br sl p] S w':=hI.last 0 rfl
 refine ⟨fun v w'=>∃ (c:Bool) (p1:Nat),v=.bool c/\p1<=p+1/\(c=false->2<=d)/\Inv w [br] [.blk b4 (.cells #[.int .i64 0,.int .i64 0,.string ⟨#[]⟩,.slice none 0 0] ab),rdI br sl p1] S w',?_,?_⟩
 ·refine bR ?_
  by_cases hd:(d:Int)<2
  ·rw [decide_eq_true hd]
   repeat (first|refine ad ?_|refine af (by decide) ?_|refine ac ?_|refine ah ?_|refine ag ?_)
   exact ⟨true,p,rfl,by omega,(fun h=>by cases h),hI⟩
  ·rw [decide_eq_false hd]
   repeat (first|refine ad ?_|refine af (by decide) ?_|refine ac ?_|refine ah ?_|refine ag ?_)
   refine Run.callL bY bX hI (dR (n:=4) hrd (by omega) (by omega)) rfl fun v' I' S' w'=>?_
   rintro ⟨rfl,rfl,k,hk,rfl⟩ _ hI
   refine bO ?_
   repeat (first|refine ad ?_|refine af (by decide) ?_|refine ac ?_|refine ah ?_|refine ag ?_)
   exact ⟨_,p+1,rfl,by omega,fun _=>by omega,hI⟩
 intro t13 _ _ _ _ _ _ w'
 rintro ⟨c,p1,rfl,hp1,hcd,hI⟩
 refine a8 (fun _=>?_) (fun hc=>?_)
 ·refine Run.callL bY bX hI (dR (n:=4) hrd (by omega) (by omega)) rfl fun v' I' S' w'=>?_
  rintro ⟨rfl,rfl,k,hk,rfl⟩ _ hI
  have hI:Inv w [br] [.blk b4 (.cells #[.int .i64 0,.int .i64 0,.string ⟨#[]⟩,.slice none 0 0] ab),rdI br sl (p1+1)] S' w':=hI
  refine bO ?_
  refine bk (fun _=>?_) (fun _=>?_)
  ·refine Run.callL bY bX hI (dR (n:=4) hrd (by omega) (by omega)) rfl fun v' I' S1 w'=>?_
   rintro ⟨rfl,rfl,k,hk,rfl⟩ _ hI
   refine Run.callPure ri qV hI (lC k S1) fun w' hI=>?_
   refine bf hI 0 rfl ai rfl rfl (by simp [Value.oneCell']) fun w' hI=>?_
   refine bZ hI 0 ai rfl rfl ?_
   exact ⟨_,_,S1,rfl,hI.pick [false,true],Ext.refl _ _ _,p1+2,by omega,rfl,_,_,rfl,sq (by simp [inI]) (by simp only [inI]; omega),by have e:emptyB.size=0:=rfl; simp only [wT,wL,List.length_nil,e]; omega,M3 (by omega)⟩
  refine bO ?_
  refine bk (fun _=>?_) (fun _=>?_)
  ·refine vf hI (by kernel_rfl) rfl (by omega) fun v S1 w' hE1 hv hI=>?_
   refine Run.callL ft fq hI (jz (p:=p1+1) (hrd.monoU hE1.1) hv (by decide) (by omega)) rfl fun v' I' S2 w'=>?_
   rintro ⟨rfl,rfl,n,hn,rfl⟩ _ hI
   have hn:=tK (a:=-1000) (b:=1000) hn (by decide)
   refine Run.callPure qN rJ hI (lA n S2) fun w' hI=>?_
   refine bf hI 0 rfl ai rfl rfl (by simp [Value.oneCell']) fun w' hI=>?_
   refine bZ hI 0 ai rfl rfl ?_
   exact ⟨_,_,S2,rfl,hI.pick [false,true],hE1,p1+2,by omega,rfl,_,_,rfl,sq (by simp [inI]) (by simp only [inI]; omega),by have e:emptyB.size=0:=rfl; simp only [wT,wL,List.length_nil,e]; omega,MH⟩
  ·refine qU hI (by kernel_rfl) rfl (by omega) fun v S1 w' hE1 hv hI=>?_
   refine Run.callL iD iG hI (r9 (p:=p1+1) (hrd.monoU hE1.1) hv (by decide) (by omega)) rfl fun v' I' S2 w'=>?_
   rintro ⟨rfl,rfl,s,hs,rfl⟩ _ hI
   have hs:=yH (m:=3) hs (by decide)
   refine Run.call0E dN dL hI (eo s (by simp only [maxLen]; omega) (iM S2) (by simp)) fun v' I' S3 w'=>?_
   rintro ⟨rfl,cs,rfl,hcs⟩ hE3 hI
   refine bf hI 0 rfl ai (by simpa using hcs.length) rfl (by simpa using hcs.one) fun w' hI=>?_
   refine bZ hI 0 ai rfl (by simpa using hcs.length) ?_
   exact ⟨_,_,S3,rfl,hI.pick [false,true],hE1.trans hE3,p1+2,by omega,rfl,_,_,rfl,hcs,by simp only [wT,wL,List.length_nil]; omega,EN (by omega) (by simp only [lz])⟩
 obtain ⟨d',rfl⟩:∃ d',d=d'+1:=⟨d - 1,by have:=hcd hc; omega⟩
 have ih:=ih d' rfl
 have hD:=LG d'
 have hDs:=MU d'
 have h3:dW d'<=486:=by
  have:3 ^ d'<=3 ^ 4:=Nat.pow_le_pow_right (by omega) (by omega)
  simp only [dW]; omega
 refine Run.callL bY bX hI (dR (n:=3) hrd (by omega) (by omega)) rfl fun v' I' S w'=>?_
 rintro ⟨rfl,rfl,k,hk,rfl⟩ _ hI
 refine bO ?_
 refine bk (fun _=>?_) (fun _=>?_)
 ·refine Ew (by omega) ?_
  refine Run.callL ll kD hI (ih (p1+1) S hrd (by omega)) rfl fun v' I' S1 w'=>?_
  rintro ⟨p2,hp2,rfl,cs1,t1,rfl,hc1,hw1,ho1⟩ hE1 hI
  refine Ew (by omega) ?_
  refine Run.callL ll kD hI (ih p2 S1 (hrd.monoU hE1.1) (by omega)) rfl fun v' I' S2 w'=>?_
  rintro ⟨p3,hp3,rfl,cs2,t2,rfl,hc2,hw2,ho2⟩ hE2 hI
  have hc1:=RdT.mono hE2.1 hc1
  obtain ⟨kv1,rfl,_,_,_,a1,q1,rfl,_⟩:=RdT.iff.1 hc1
  obtain ⟨kv2,rfl,_,_,_,a2,q2,rfl,_⟩:=RdT.iff.1 hc2
  refine q4 (v:=fun b=>.slice (some ⟨b,0,none⟩) 2 2) (o:=.cells #[.int .i64 t1.kind,.int .i64 t1.n,.string t1.name,.slice a1 t1.kids.length q1,.int .i64 t2.kind,.int .i64 t2.n,.string t2.name,.slice a2 t2.kids.length q2] ab) hI (by kernel_rfl) fun b w' hI=>?_
  have hI:Inv w [br] ([.blk b4 (.cells #[.int .i64 0,.int .i64 0,.string ⟨#[]⟩,.slice none 0 0] ab),rdI br sl p3]++[_]) S2 w':=hI
  obtain ⟨S3,hI,hE3,hS⟩:=hI.pub1
  refine Run.call0E dN dL hI (eo ⟨#[46]⟩ (by decide) (Iv hS (hc1.mono hE3.1) (hc2.mono hE3.1)) (by simp)) fun v' I' S4 w'=>?_
  rintro ⟨rfl,cs,rfl,hcs⟩ hE4 hI
  refine bf hI 0 rfl ai (by simpa using hcs.length) rfl (by simpa using hcs.one) fun w' hI=>?_
  refine bZ hI 0 ai rfl (by simpa using hcs.length) ?_
  refine ⟨_,_,S4,rfl,hI.pick [false,true],(hE1.trans hE2).trans (hE3.trans hE4),p3,by omega,rfl,_,_,rfl,hcs,?_,EN (by decide) (by simp only [lz]; exact ⟨ho1,ho2,trivial⟩)⟩
  have e:(ByteArray.mk #[46]).size=1:=rfl
  simp only [wT,wL,List.length_cons,List.length_nil,e]
  omega
 ·refine qU hI (by kernel_rfl) rfl (by omega) fun v S1 w' hE1 hv hI=>?_
  refine Run.callL iD iG hI (r9 (p:=p1+1) (hrd.monoU hE1.1) hv (by decide) (by omega)) rfl fun v' I' S2 w'=>?_
  rintro ⟨rfl,rfl,s,hs,rfl⟩ _ hI
  have hs:=yH (m:=3) hs (by decide)
  refine Run.call0E dN dL hI (uc s (iM S2) (by simp)) fun v' I' S3 w'=>?_
  rintro ⟨rfl,kv0,css0,rfl,rfl,hR0⟩ hE3 hI
  refine bw hI bG fun b5 w' hI=>?_
  obtain ⟨a0,n0,q0,rfl⟩:=hI.rowSlice 2 rfl
  refine bf hI 3 rfl ai rfl rfl (by simp [Value.oneCell']) fun w' hI=>?_
  obtain ⟨B4,hB4⟩:∃ B4,B4=Item.blk b4 (.cells #[.int .i64 0,.int .i64 0,.string ⟨#[]⟩,.slice none 0 0] ab):=⟨_,rfl⟩
  have hI:Inv w [br] [.blk b5 (.cells #[.int .i64 3,.int .i64 0,.string s,.slice a0 n0 q0] ab),bj (.slice a0 n0 q0) ab 4 css0,B4,rdI br sl (p1+2)] S3 w':=by
   rw [hB4]
   exact ((hI.last 2 rfl).last 0 rfl).last 0 rfl
  refine vf hI (by kernel_rfl) rfl (by omega) fun v S4 w' hE4 hv hI=>?_
  refine Run.callL ft fq hI (jz (p:=p1+2) (hrd.monoU ((hE1.trans hE3).trans hE4).1) hv (by decide) (by omega)) rfl fun v' I' S5 w'=>?_
  rintro ⟨rfl,rfl,n,hn,rfl⟩ _ hI
  have hn:=tK (a:=1) (b:=3) hn (by decide)
  have hE5:Ext w.heap.size [br] S S5:=(hE1.trans hE3).trans hE4
  refine ⟨fun t w'=>∃ (j p2:Nat) (S6:az) (kv:Value) (css:List (List Value)) (ts:List T),lz 26 ts/\t=.int .i64 (j:Int)/\ts.length+j<=3/\Rows 4 (RdT S6) css ts/\wL ts+3 * ts.length<=ts.length * dW d'/\p2+2 * ts.length<=p1+3+ts.length * dW d'/\Ext w.heap.size [br] S S6/\
   Inv w [br] [.blk b5 (.cells #[.int .i64 3,.int .i64 0,.string s,kv] ab),bj kv ab 4 css,B4,rdI br sl p2] S6 w',fun t _=>(intOf t).toNat,
   ⟨n.toNat,p1+3,S5,_,css0,[],by simp only [lz],by rw [Int.toNat_of_nonneg (by omega)],by simp; omega,hR0.monoR fun _ _ h=>RdT.mono hE4.1 h,by simp [wL],by simp,hE5,hI⟩,?_⟩
  intro t6 _ _ t63 t62 t61 t60 t59 t58 t57 t56 t55 _ _ w'
  rintro ⟨j,p2,S6,kv,css,ts,hou,rfl,hj,hR,hwts,hp2,hE6,hI⟩
  have hcl:=hR.hc
  have hm:ts.length * dW d'<=3 * dW d':=Nat.mul_le_mul_right _ (by omega)
  refine d6 ?_
  refine bk (fun hj0=>?_) (fun hj0=>?_)
  ·obtain ⟨j',rfl⟩:∃ j',j=j'+1:=⟨j - 1,by omega⟩
   refine ⟨fun D cK df de c9 c8 dg db dd dz w_=>(D 0=true->dz=.pointer (some ⟨b5,3,none⟩))/\(D 1=true->dd=kv)/\(D 2=true->db=rdP br)/\(D 3=true->dg=.int .i64 ((d'+1:Nat):Int))/\(D 4=true->c8=.int .i64 (d':Int))/\(D 5=true->True)/\(D 6=true->True)/\(D 7=true->True)/\(D 8=true->cK=.pointer (some ⟨b5,3,none⟩))/\(D 9=true->True)/\∃ n_:Nat,n_<=4/\D 5=decide (1<=n_)/\D 6=decide (2<=n_)/\D 7=decide (3<=n_)/\D 9=decide (4<=n_)/\(D 9=true->D 1=true)/\(pB (Inv w [br] [.blk b5 (.cells #[.int .i64 3,.int .i64 0,.string s,kv] ab),bj kv ab 4 css,B4,rdI br sl p2] S6 w_) (xk w [br] b5 #[.int .i64 3,.int .i64 0,.string s,kv] 3 ab kv css (fun p=>[B4,rdI br sl p]) (fun cs p' S'=>∃ t,okU 26 t/\RdT S' cs t/\wT t+3<=dW d'/\p'+2<=p2+dW d'/\Ext w.heap.size [br] S6 S') c9 de df w_) n_),⟨ae,ae,ae,ae,ae,ae,ae,ae,ae,ae,⟨0,Nat.zero_le _,rfl,rfl,rfl,rfl,(ae),hI.draw⟩⟩,⟨?_,?_,?_,?_,?_,?_,?_,?_,?_,?_,trivial⟩,?_⟩
   ·intro D aY  cK df de c9 c8 dg db dd dz w_
    rintro ⟨aA,aB,aC,aD,aw,aE,aF,aJ,aL,aQ,⟨n_,ln_,e1_,e2_,e3_,e4_,kp_,hS⟩⟩
    refine bh aT ?_
    exact ⟨fun _=>rfl,aB,aC,aD,aw,aE,aF,aJ,aL,aQ,⟨n_,ln_,e1_,e2_,e3_,e4_,kp_,hS⟩⟩
   ·intro D aY cc cK df de c9 c8 dg db dd dz w_
    rintro ⟨aA,aB,aC,aD,aw,aE,aF,aJ,aL,aQ,⟨n_,ln_,e1_,e2_,e3_,e4_,kp_,hS⟩⟩
    obtain rfl:=aA cc
    have ln2_:=M7 e4_ kp_ aY
    refine dM aP ((HX (fun h=>h.cellL (i:=0) rfl) (fun n hn h=>EO h hn) hS ln2_).trans rfl) ?_
    exact ⟨aA,fun _=>rfl,aC,aD,aw,aE,aF,aJ,aL,aQ,⟨n_,ln_,e1_,e2_,e3_,e4_,(fun _=>rfl),hS⟩⟩
   ·intro D aY  cK df de c9 c8 dg db dd dz w_
    rintro ⟨aA,aB,aC,aD,aw,aE,aF,aJ,aL,aQ,⟨n_,ln_,e1_,e2_,e3_,e4_,kp_,hS⟩⟩
    exact ⟨aA,aB,fun _=>rfl,aD,aw,aE,aF,aJ,aL,aQ,⟨n_,ln_,e1_,e2_,e3_,e4_,kp_,hS⟩⟩
   ·intro D aY  cK df de c9 c8 dg db dd dz w_
    rintro ⟨aA,aB,aC,aD,aw,aE,aF,aJ,aL,aQ,⟨n_,ln_,e1_,e2_,e3_,e4_,kp_,hS⟩⟩
    exact ⟨aA,aB,aC,fun _=>rfl,aw,aE,aF,aJ,aL,aQ,⟨n_,ln_,e1_,e2_,e3_,e4_,kp_,hS⟩⟩
   ·intro D aY dB cK df de c9 c8 dg db dd dz w_
    rintro ⟨aA,aB,aC,aD,aw,aE,aF,aJ,aL,aQ,⟨n_,ln_,e1_,e2_,e3_,e4_,kp_,hS⟩⟩
    obtain rfl:=aD dB
    refine Ew (by omega) ?_
    exact ⟨aA,aB,aC,aD,fun _=>rfl,aE,aF,aJ,aL,aQ,⟨n_,ln_,e1_,e2_,e3_,e4_,kp_,hS⟩⟩
   ·intro D aY eq dJ cK df de c9 c8 dg db dd dz w_
    rintro ⟨aA,aB,aC,aD,aw,aE,aF,aJ,aL,aQ,⟨n_,ln_,e1_,e2_,e3_,e4_,kp_,hS⟩⟩
    obtain rfl:=aC eq
    obtain rfl:=aw dJ
    obtain rfl:n_=0:=M0 e1_ aY
    refine Run.callL ll kD (L:=[.blk b5 _,bj _ ab 4 css,B4,rdI br sl p2]) hS (ih p2 S6 (hrd.monoU hE6.1) (by omega)) rfl fun v' I' S7 w_=>?_
    rintro ⟨p3,hp3,rfl,cs,t,rfl,hcs,hwt,hot⟩ hE7 hI
    exact ⟨aA,aB,aC,aD,aw,fun _=>by first|assumption|trivial,aF,aJ,aL,aQ,⟨1,by decide,rfl,(by first|exact e2_|rfl),(by first|exact e3_|rfl),(by first|exact e4_|rfl),kp_,Ep ⟨t,hot,hcs,hwt,hp3,hE7⟩ hcs hI⟩⟩
   ·intro D aY d3 cK df de c9 c8 dg db dd dz w_
    rintro ⟨aA,aB,aC,aD,aw,aE,aF,aJ,aL,aQ,⟨n_,ln_,e1_,e2_,e3_,e4_,kp_,hS⟩⟩
    have NA:=aE d3
    obtain rfl:n_=1:=u0 e1_ d3 e2_ aY
    refine ap1 hS fun u w_ hS=>?_
    exact ⟨aA,aB,aC,aD,aw,aE,fun _=>by first|assumption|trivial,aJ,aL,aQ,⟨2,by decide,(by first|exact e1_|rfl),rfl,(by first|exact e3_|rfl),(by first|exact e4_|rfl),kp_,hS⟩⟩
   ·intro D aY dC ge Fr cK df de c9 c8 dg db dd dz w_
    rintro ⟨aA,aB,aC,aD,aw,aE,aF,aJ,aL,aQ,⟨n_,ln_,e1_,e2_,e3_,e4_,kp_,hS⟩⟩
    obtain rfl:=aB dC
    have M5:=aF ge
    obtain rfl:n_=2:=u0 e2_ ge e3_ aY
    refine ap2 hS (by omega) fun u w_ hS=>?_
    exact ⟨aA,aB,aC,aD,aw,aE,aF,fun _=>by first|assumption|trivial,aL,aQ,⟨3,by decide,(by first|exact e1_|rfl),(by first|exact e2_|rfl),rfl,(by first|exact e4_|rfl),kp_,hS⟩⟩
   ·intro D aY cc ij zW E9 zp IB KS LD cK df de c9 c8 dg db dd dz w_
    rintro ⟨aA,aB,aC,aD,aw,aE,aF,aJ,aL,aQ,⟨n_,ln_,e1_,e2_,e3_,e4_,kp_,hS⟩⟩
    refine bh aT ?_
    exact ⟨aA,aB,aC,aD,aw,aE,aF,aJ,fun _=>rfl,aQ,⟨n_,ln_,e1_,e2_,e3_,e4_,kp_,hS⟩⟩
   ·intro D aY jh jZ om Dr mv Dx zf Av Eu KU lK cK df de c9 c8 dg db dd dz w_
    rintro ⟨aA,aB,aC,aD,aw,aE,aF,aJ,aL,aQ,⟨n_,ln_,e1_,e2_,e3_,e4_,kp_,hS⟩⟩
    obtain rfl:=aL jh
    have K6:=aJ jZ
    obtain rfl:n_=3:=u0 e3_ jZ e4_ aY
    refine ap3 hS (by simp) fun w_ hS=>?_
    exact ⟨aA,aB,aC,aD,aw,aE,aF,aJ,aL,fun _=>trivial,⟨4,by decide,(by first|exact e1_|rfl),(by first|exact e2_|rfl),(by first|exact e3_|rfl),rfl,(fun _=>mv),hS⟩⟩
   intro D jt gK fT fY fE fm fw fF fC fD cK df de c9 c8 dg db dd dz w_
   rintro ⟨aA,aB,aC,aD,aw,aE,aF,aJ,aL,aQ,⟨n_,ln_,e1_,e2_,e3_,e4_,kp_,hS⟩⟩
   obtain rfl:n_=4:=M8 ln_ e4_ jt
   clear e1_ e2_ e3_ e4_
   obtain ⟨p3,S7,cs,⟨t,hot,hcs,hwt,hp3,hE7⟩,hl,hI⟩:=hS
   refine Ew (by omega) ?_
   refine ⟨⟨j',p3,S7,_,_,ts++[t],GV hou (by simp only [lz]; exact ⟨hot,trivial⟩),rfl,by rw [List.length_append]; simp only [List.length_cons,List.length_nil]; omega,(hR.monoR fun _ _ h=>RdT.mono hE7.1 h).snoc hcs hl.1,?_,?_,hE6.trans hE7,hI⟩,by simp only [intOf,Int.toNat_natCast]; omega⟩
   ·rw [mq,List.length_append,List.length_cons,List.length_nil,Nat.add_mul]
    simp only [wL]
    omega
   ·rw [List.length_append,List.length_cons,List.length_nil,Nat.add_mul]
    omega
  ·have hI:Inv w [br] ([.blk b5 (.cells #[.int .i64 3,.int .i64 0,.string s,kv] ab),B4,rdI br sl p2]++[bj kv ab 4 css]) S6 w':=hI.last 1 rfl
   refine ba hI 0 ai rfl rfl ?_
   obtain ⟨S7,hE7,hrdr,hI⟩:=Inv.lendExt hI
   have hrs:=RowRd.rows (hR.monoR fun _ _ h=>RdT.mono hE7.1 h) hrdr
   obtain ⟨a,q,rfl,_⟩:=id hrs
   subst hB4
   refine bf hI 1 rfl ai rfl rfl (by simp [Value.oneCell']) fun w' hI=>?_
   refine bZ hI 1 ai rfl rfl ?_
   refine ⟨_,_,S7,rfl,hI.pick [false,false,true],hE6.trans hE7,p2,?_,rfl,[.int .i64 3,.int .i64 0,.string s,_],.mk 3 0 s ts,rfl,RdT.iff.2 ⟨_,rfl,by simp [inI,T.kind],by simp [inI,T.n],by simp only [T.name,maxLen]; omega,hrs⟩,?_,EN (by omega) hou⟩
   ·have:ts.length=0 ∨ ts.length=1 ∨ ts.length=2 ∨ ts.length=3:=by omega
    rcases this with h|h|h|h <;> rw [h] at hp2 hwts <;> omega
   ·simp only [wT]
    have:ts.length=0 ∨ ts.length=1 ∨ ts.length=2 ∨ ts.length=3:=by omega
    rcases this with h|h|h|h <;> rw [h] at hp2 hwts ⊢ <;> omega
theorem sx:∀ d:Nat,d<=4->HS br sl ys d
 | 0,h=>De h fun d' e=>by omega
 | d+1,h=>De h fun d' e=>by
  obtain rfl:d'=d:=by omega
  exact sx _ (by omega)
abbrev Lv (br:Nat) (sl:Value) (p k m:Nat):Value->List Item->az->Prop:=fun v I' S'=>∃ p',p'<=p+k/\I'=[rdI br sl p']/\∃ cs t,v=.agg cs.toArray/\RdT S' cs t/\wT t<=m
theorem uu {p:Nat} {S:az} (hrd:RdSl S 1 ku sl ys) (hp:p<=100000000):Tri Tryz.prog Jj [rdP br] [rdI br sl p] S (Lv br sl p 500 500):=by
 intro w hI
 refine zF ?_
 unfold v8
 refine bw hI bG fun b2 w' hI=>?_
 have hI:Inv w [br] [.blk b2 (.cells #[.int .i64 0,.int .i64 0,.string ⟨#[]⟩,.slice none 0 0] ab),rdI br sl p] S w':=hI.last 0 rfl
 refine vf hI (by kernel_rfl) rfl (by omega) fun v S1 w' hE1 hv hI=>?_
 refine Run.callL ft fq hI (jz (p:=p) (hrd.monoU hE1.1) hv (by decide) (by omega)) rfl fun v' I' S2 w'=>?_
 rintro ⟨rfl,rfl,n,hn,rfl⟩ _ hI
 have hn:=tK (a:=1) (b:=4) hn (by decide)
 obtain ⟨m,rfl⟩:∃ m:Nat,n=m:=⟨n.toNat,by rw [Int.toNat_of_nonneg (by omega)]⟩
 have h3:dW m<=486:=by
  have:3 ^ m<=3 ^ 4:=Nat.pow_le_pow_right (by omega) (by omega)
  simp only [dW]; omega
 refine Run.callL ll kD hI (sx m (by omega) (p+1) S2 (hrd.monoU hE1.1) (by omega)) rfl fun v' I' S3 w'=>?_
 rintro ⟨p1,hp1,rfl,cs,t,rfl,hcs,hw,_⟩ hE3 hI
 refine bf hI 0 rfl ai (by simpa using hcs.length) rfl (by simpa using hcs.one) fun w' hI=>?_
 refine bZ hI 0 ai rfl (by simpa using hcs.length) ?_
 exact ⟨_,_,S3,rfl,hI.pick [false,true],hE1.trans hE3,p1,by omega,rfl,cs,t,rfl,hcs,by omega⟩
end
end Go.Proofs.YtemmhhdnlbmicaaGreat

/- spec.l1Mutate. -/
namespace Go.Proofs.YtemmhhdnlbmicaaGreat
open Go Go.RowKit
def wV (w:World) (b o:Nat):Nat:=match w.cell? ⟨b,o,none⟩ with
 | some (.slice _ n _)=>n
 | _=>0
theorem ML {Q Q2 B:Prop} {R:Nat->Prop} (h1:Q->B) (h3:Q2->B) (h2:∀ n,n<3->R n->B):∀ {n:Nat},pB Q (pB Q2 R) n->n<5->B
 | 0,h,_=>h1 h
 | 1,h,_=>h3 h
 | n+2,h,hn=>h2 n (by omega) h
theorem JP {Q:Prop} {R:Nat->Prop} {n:Nat} (h:R n):pB Q R (n+1):=h
theorem CT {Q:Prop} {R:Nat->Prop} {n:Nat} (h:pB Q R (n+1)):R n:=h
section
variable {w0 w:World} {X:List Nat} {L A:List Item} {S:az} {K:Value->World->Prop} {P:Program}
attribute [local irreducible] Run CondV aj bd
theorem tl (h:Inv w0 X L S w) {i b o:Nat} {c:Array Value} {E:TypeId} {a:Option Addr} {n m:Nat} (hi:L[i]?=some (.blk b (.cells c E))) (hc:c[o]?=some (.slice a n m)):wV w b o=n:=by
 rw [wV,h.cellL hi,hc]
theorem sP {b:Nat} {k n:Int} {s:ByteArray} {kv:Value} {css:List (List Value)} {ks:List T} {o:Obj}
  (hI:Inv w0 X (.blk b o::bj kv ab 4 css::A) S w) (hR:Rows 4 (RdT S) css ks) (hk:inI k) (hn:inI n) (hs:s.size<=maxLen) :
  ∃ S',Ext w0.heap.size X S S'/\Inv w0 X (.blk b o::A) S' w/\RdT S' [.int .i64 k,.int .i64 n,.string s,kv] (.mk k n s ks)/\RdSl S' 4 (RdT S') kv ks:=by
 have hI:Inv w0 X ((.blk b o::A)++[bj kv ab 4 css]) S w:=hI.last 1 rfl
 obtain ⟨S',hE,hrd,hI⟩:=Inv.lendExt hI
 have hrs:=RowRd.rows (hR.monoR fun _ _ h=>RdT.mono hE.1 h) hrd
 exact ⟨S',hE,hI,RdT.iff.2 ⟨_,rfl,hk,hn,hs,hrs⟩,hrs⟩
end
section
variable {br:Nat} {sl:Value} {ys:List Nat}
attribute [local irreducible] Run CondV aj bd
theorem jV {p:Nat} {S:az} {cs:List Value} {t:T} (hrd:RdSl S 1 ku sl ys) (h:RdT S cs t) (hw:wT t<=100000) (hp:p<=100000000) :
  Tri Tryz.prog D3 [rdP br,.agg cs.toArray] [rdI br sl p] S (Lv br sl p 2 (wT t+100)):=by
 intro w hI
 have h0:=h
 obtain ⟨kv0,rfl,hk,hn,hs,hks⟩:=RdT.iff.1 h
 refine uM ?_
 unfold qu
 refine bM hI fun b3 w' hI=>?_
 refine bw hI bG fun b4 w' hI=>?_
 refine ba hI 1 ai rfl rfl ?_
 refine Run.call0E fg e9 hI (Ki t S _ h0 (by omega)) fun v' I' S1 w'=>?_
 rintro ⟨kv,css,rfl,rfl,hR⟩ hE1 hI
 have hE1:Ext w.heap.size [br] S S1:=hE1
 obtain ⟨a0,n0,q0,rfl⟩:=hI.rowSlice 3 rfl
 refine bw hI bG fun b5 w' hI=>?_
 refine bf hI 4 rfl ai rfl rfl (by simp [Value.oneCell']) fun w' hI=>?_
 obtain ⟨B4,hB4⟩:∃ B4,B4=Item.blk b4 (.cells #[.int .i64 0,.int .i64 0,.string ⟨#[]⟩,.slice none 0 0] ab):=⟨_,rfl⟩
 obtain ⟨k,hk'⟩:∃ k,k=t.kind:=⟨_,rfl⟩
 obtain ⟨n,hn'⟩:∃ n,n=t.n:=⟨_,rfl⟩
 obtain ⟨s,hs'⟩:∃ s,s=t.name:=⟨_,rfl⟩
 have hwt:wT t=s.size+t.kids.length+wL t.kids:=by rw [hs']; cases t; rw [wT]; rfl
 rw [<- hk',<- hn',<- hs'] at hI
 rw [<- hk'] at hk
 rw [<- hn'] at hn
 rw [<- hs'] at hs
 have hI:Inv w [br] [.blk b5 (.cells #[.int .i64 k,.int .i64 n,.string s,.slice a0 n0 q0] ab),bj (.slice a0 n0 q0) ab 4 css,B4,rdI br sl p] S1 w':=by
  rw [hB4]
  exact (((hI.pick [true,false,true,true,true]).last 2 rfl).last 1 rfl).last 0 rfl
 refine ⟨fun w'=>∃ (p1:Nat) (S2:az) (cs1:List Value) (t1:T),p1<=p+2/\Ext w.heap.size [br] S S2/\RdT S2 cs1 t1/\wT t1<=wT t+100/\Inv w [br] [.blk b5 (.cells cs1.toArray ab),B4,rdI br sl p1] S2 w',?_,?_⟩
 ·have hfin:∀ {k n:Int} {s1:ByteArray} {p1:Nat} {w':World} {S1:az} {css:List (List Value)} {kv:Value} {ks:List T},Ext w.heap.size [br] S S1->p1<=p+2->inI k->inI n->s1.size<=s.size+7->Rows 4 (RdT S1) css ks->ks.length<=t.kids.length+5->wL ks<=wL t.kids->
    Inv w [br] [.blk b5 (.cells #[.int .i64 k,.int .i64 n,.string s1,kv] ab),bj kv ab 4 css,B4,rdI br sl p1] S1 w'->
    ∃ (p1:Nat) (S2:az) (cs1:List Value) (t1:T),p1<=p+2/\Ext w.heap.size [br] S S2/\RdT S2 cs1 t1/\wT t1<=wT t+100/\Inv w [br] [.blk b5 (.cells cs1.toArray ab),B4,rdI br sl p1] S2 w':=by
   intro k n s1 p1 w' S1 css kv ks hE hp1 hk hn hs1 hR hkl hkw hI
   obtain ⟨S2,hE2,hI,hr,_⟩:=sP (s:=s1) hI hR hk hn (by simp only [maxLen]; omega)
   exact ⟨p1,S2,_,_,hp1,hE.trans hE2,hr,by rw [wT,hwt]; omega,hI⟩
  refine Run.callL bY bX hI (dR (n:=50) (hrd.monoU hE1.1) (by omega) (by omega)) rfl fun v' I' S1 w'=>?_
  rintro ⟨rfl,rfl,kk,hkk,rfl⟩ _ hI
  refine bO ?_
  refine bk (fun _=>?_) (fun _=>?_)
  ·refine vf hI (by kernel_rfl) rfl (by omega) fun v S3 w' hE3 hv hI=>?_
   refine Run.callL ft fq hI (jz (p:=p+1) (hrd.monoU (hE1.trans hE3).1) hv (by decide) (by omega)) rfl fun v' I' S3 w'=>?_
   rintro ⟨rfl,rfl,m,hm,rfl⟩ _ hI
   have hm:=tK (a:=-1000) (b:=1000) hm (by decide)
   refine jL hI 0 rfl bx bn rfl rfl rfl fun w' hI=>?_
   exact hfin (hE1.trans hE3) (Nat.le_refl _) (by simp only [inI]; omega) hn (by omega) (hR.monoR fun _ _ h=>RdT.mono hE3.1 h) (by omega) (Nat.le_refl _) hI
  refine bO ?_
  refine bk (fun _=>?_) (fun _=>?_)
  ·refine vf hI (by kernel_rfl) rfl (by omega) fun v S3 w' hE3 hv hI=>?_
   refine Run.callL ft fq hI (jz (p:=p+1) (hrd.monoU (hE1.trans hE3).1) hv (by decide) (by omega)) rfl fun v' I' S3 w'=>?_
   rintro ⟨rfl,rfl,m,hm,rfl⟩ _ hI
   have hm:=tK (a:=-1000) (b:=1000) hm (by decide)
   refine jL hI 0 rfl bJ bn rfl rfl rfl fun w' hI=>?_
   exact hfin (hE1.trans hE3) (Nat.le_refl _) hk (by simp only [inI]; omega) (by omega) (hR.monoR fun _ _ h=>RdT.mono hE3.1 h) (by omega) (Nat.le_refl _) hI
  refine bO ?_
  refine bk (fun _=>?_) (fun _=>?_)
  ·refine qU hI (by kernel_rfl) rfl (by omega) fun v S3 w' hE3 hv hI=>?_
   refine Run.callL iD iG hI (r9 (p:=p+1) (hrd.monoU (hE1.trans hE3).1) hv (by decide) (by omega)) rfl fun v' I' S3 w'=>?_
   rintro ⟨rfl,rfl,m,hm,rfl⟩ _ hI
   have hm:=yH (m:=7) hm (by decide)
   refine jL hI 0 rfl bo bl rfl rfl rfl fun w' hI=>?_
   exact hfin (hE1.trans hE3) (Nat.le_refl _) hk hn (by omega) (hR.monoR fun _ _ h=>RdT.mono hE3.1 h) (by omega) (Nat.le_refl _) hI
  refine bO ?_
  refine bk (fun _=>?_) (fun _=>?_)
  ·refine ⟨fun w'=>∃ (S2:az) (kv:Value) (css:List (List Value)) (ks:List T),Ext w.heap.size [br] S S2/\Rows 4 (RdT S2) css ks/\ks.length<=t.kids.length+5/\wL ks<=wL t.kids/\
     Inv w [br] [.blk b5 (.cells #[.int .i64 k,.int .i64 n,.string s,kv] ab),bj kv ab 4 css,B4,rdI br sl (p+1)] S2 w',fun w'=>5 - wV w' b5 3,⟨S1,_,css,t.kids,hE1,hR,by omega,Nat.le_refl _,hI⟩,?_⟩
   intro t40 t39 t38 t37 t36 t35 _ _ _ _ w'
   rintro ⟨S2,kv,css,ks,hE2,hR,hkl,hkw,hI⟩
   obtain ⟨a1,n1,q1,rfl,hn1⟩:∃ a m c,kv=.slice a m c/\m=ks.length:=by
    obtain ⟨S',_,_,_,hr⟩:=sP hI hR hk hn hs
    obtain ⟨a,q,rfl,_⟩:=hr
    exact ⟨a,_,q,rfl,rfl⟩
   subst hn1
   have hl1:=tl hI (i:=0) (o:=3) rfl rfl
   have hcl:=hR.hc
   refine aI hI 0 rfl aT aP rfl ?_
   refine fx av ?_
   refine fK ?_
   refine bk (fun hle=>?_) (fun hle=>?_)
   ·have hI:=hI
    refine ⟨fun D gC eE ek eF dX dY w_=>(D 0=true->dY=.pointer (some ⟨b5,3,none⟩))/\(D 1=true->dX=.slice a1 ks.length q1)/\(D 2=true->True)/\(D 3=true->True)/\(D 4=true->True)/\(D 5=true->gC=.pointer (some ⟨b5,3,none⟩))/\(D 6=true->True)/\∃ n_:Nat,n_<=4/\D 2=decide (1<=n_)/\D 3=decide (2<=n_)/\D 4=decide (3<=n_)/\D 6=decide (4<=n_)/\(D 6=true->D 1=true)/\(pB (Inv w [br] [.blk b5 (.cells #[.int .i64 k,.int .i64 n,.string s,.slice a1 ks.length q1] ab),bj (.slice a1 ks.length q1) ab 4 css,B4,rdI br sl (p+1)] S2 w_) (xk w [br] b5 #[.int .i64 k,.int .i64 n,.string s,.slice a1 ks.length q1] 3 ab (.slice a1 ks.length q1) css (fun p=>[B4,rdI br sl (p+1)]) (fun cs p' S'=>p'=p/\S'=S2/\RdT S2 cs (.mk 2 1 emptyB [])) eF ek eE w_) n_),⟨ae,ae,ae,ae,ae,ae,ae,⟨0,Nat.zero_le _,rfl,rfl,rfl,rfl,(ae),hI.draw⟩⟩,⟨?_,?_,?_,?_,?_,?_,?_,trivial⟩,?_⟩
    ·intro D aY  gC eE ek eF dX dY w_
     rintro ⟨aA,aB,aC,aD,aw,aE,aF,⟨n_,ln_,e1_,e2_,e3_,e4_,kp_,hS⟩⟩
     refine bh aT ?_
     exact ⟨fun _=>rfl,aB,aC,aD,aw,aE,aF,⟨n_,ln_,e1_,e2_,e3_,e4_,kp_,hS⟩⟩
    ·intro D aY cc gC eE ek eF dX dY w_
     rintro ⟨aA,aB,aC,aD,aw,aE,aF,⟨n_,ln_,e1_,e2_,e3_,e4_,kp_,hS⟩⟩
     obtain rfl:=aA cc
     have ln2_:=M7 e4_ kp_ aY
     refine dM aP ((HX (fun h=>h.cellL (i:=0) rfl) (fun n hn h=>EO h hn) hS ln2_).trans rfl) ?_
     exact ⟨aA,fun _=>rfl,aC,aD,aw,aE,aF,⟨n_,ln_,e1_,e2_,e3_,e4_,(fun _=>rfl),hS⟩⟩
    ·intro D aY  gC eE ek eF dX dY w_
     rintro ⟨aA,aB,aC,aD,aw,aE,aF,⟨n_,ln_,e1_,e2_,e3_,e4_,kp_,hS⟩⟩
     obtain rfl:n_=0:=M0 e1_ aY
     refine Run.callPure qN rJ (L:=[.blk b5 _,bj _ ab 4 css,B4,rdI br sl (p+1)]) hS (lA 1 S2) fun w_ hI=>?_
     exact ⟨aA,aB,fun _=>by first|assumption|trivial,aD,aw,aE,aF,⟨1,by decide,rfl,(by first|exact e2_|rfl),(by first|exact e3_|rfl),(by first|exact e4_|rfl),kp_,Ep ⟨rfl,rfl,sq (by simp [inI]) (by simp [inI])⟩ (sq (by simp [inI]) (by simp [inI])) hI⟩⟩
    ·intro D aY eq gC eE ek eF dX dY w_
     rintro ⟨aA,aB,aC,aD,aw,aE,aF,⟨n_,ln_,e1_,e2_,e3_,e4_,kp_,hS⟩⟩
     have PW:=aC eq
     obtain rfl:n_=1:=u0 e1_ eq e2_ aY
     refine ap1 hS fun u w_ hS=>?_
     exact ⟨aA,aB,aC,fun _=>by first|assumption|trivial,aw,aE,aF,⟨2,by decide,(by first|exact e1_|rfl),rfl,(by first|exact e3_|rfl),(by first|exact e4_|rfl),kp_,hS⟩⟩
    ·intro D aY dC mO zW gC eE ek eF dX dY w_
     rintro ⟨aA,aB,aC,aD,aw,aE,aF,⟨n_,ln_,e1_,e2_,e3_,e4_,kp_,hS⟩⟩
     obtain rfl:=aB dC
     have Pq:=aD mO
     obtain rfl:n_=2:=u0 e2_ mO e3_ aY
     refine ap2 hS (by omega) fun u w_ hS=>?_
     exact ⟨aA,aB,aC,aD,fun _=>by first|assumption|trivial,aE,aF,⟨3,by decide,(by first|exact e1_|rfl),(by first|exact e2_|rfl),rfl,(by first|exact e4_|rfl),kp_,hS⟩⟩
    ·intro D aY cc ij zW E9 zp gC eE ek eF dX dY w_
     rintro ⟨aA,aB,aC,aD,aw,aE,aF,⟨n_,ln_,e1_,e2_,e3_,e4_,kp_,hS⟩⟩
     refine bh aT ?_
     exact ⟨aA,aB,aC,aD,aw,fun _=>rfl,aF,⟨n_,ln_,e1_,e2_,e3_,e4_,kp_,hS⟩⟩
    ·intro D aY d3 dJ jg Dr mv Dx zf Av gC eE ek eF dX dY w_
     rintro ⟨aA,aB,aC,aD,aw,aE,aF,⟨n_,ln_,e1_,e2_,e3_,e4_,kp_,hS⟩⟩
     obtain rfl:=aE d3
     have NR:=aw dJ
     obtain rfl:n_=3:=u0 e3_ dJ e4_ aY
     refine ap3 hS (by simp) fun w_ hS=>?_
     exact ⟨aA,aB,aC,aD,aw,aE,fun _=>trivial,⟨4,by decide,(by first|exact e1_|rfl),(by first|exact e2_|rfl),(by first|exact e3_|rfl),rfl,(fun _=>mv),hS⟩⟩
    intro D fY fE fm fw fF fC fD gC eE ek eF dX dY w_
    rintro ⟨aA,aB,aC,aD,aw,aE,aF,⟨n_,ln_,e1_,e2_,e3_,e4_,kp_,hS⟩⟩
    obtain rfl:n_=4:=M8 ln_ e4_ fY
    clear e1_ e2_ e3_ e4_
    obtain ⟨p3,S7,cs,⟨rfl,rfl,hcs⟩,hl,hI⟩:=hS
    have hR2:=hR.snoc hcs hl.1
    refine ⟨⟨S7,_,_,_,hE2,hR2,by rw [List.length_append]; simp only [List.length_cons,List.length_nil]; omega,by rw [mq]; have e:emptyB.size=0:=rfl; simp only [wL,wT,List.length_nil,e]; omega,hI⟩,?_⟩
    obtain ⟨S',_,_,_,hr⟩:=sP hI hR2 hk hn hs
    obtain ⟨a,q,e,_⟩:=hr
    have hl2:=tl hI (i:=0) (o:=3) (a:=a) (n:=(ks++[T.mk 2 1 emptyB []]).length) (m:=q) rfl (by rw [<- e]; rfl)
    show 5 - wV w_ b5 3<5 - wV w' b5 3
    rw [hl1,hl2,List.length_append,List.length_cons,List.length_nil]
    omega
   ·exact hfin hE2 (by omega) hk hn (by omega) hR hkl hkw hI
  refine bO ?_
  refine bk (fun _=>?_) (fun _=>?_)
  ·obtain ⟨S2,hE2,hI,hr,_⟩:=sP hI hR hk hn hs
   have hI:Inv w [br] [.blk b5 (.cells #[.int .i64 k,.int .i64 n,.string s,.slice a0 n0 q0] ab),B4,rdI br sl (p+1)] S2 w':=hI
   have ht:T.mk k n s t.kids=t:=by rw [hk',hn',hs']; cases t; rfl
   rw [ht] at hr
   refine ⟨fun t6 w'=>∃ (j:Nat) (S3:az) (cs1:List Value) (t1:T),t6=.int .i64 (j:Int)/\j<=30/\Ext w.heap.size [br] S S3/\RdT S3 cs1 t1/\wT t1<=wT t+2 * j/\Inv w [br] [.blk b5 (.cells cs1.toArray ab),B4,rdI br sl (p+1)] S3 w',fun t6 _=>30 - (intOf t6).toNat,
    ⟨0,S2,_,t,rfl,by omega,hE1.trans hE2,hr,by omega,hI⟩,?_⟩
   intro t6 _ _ _ _ _ _ _ w'
   rintro ⟨j,S3,cs1,t1,rfl,hj,hE3,hr,hw1,hI⟩
   refine bR ?_
   refine bk (fun hj'=>?_) (fun hj'=>?_)
   ·refine ba hI 0 ai rfl (by simpa using hr.length) ?_
    refine fb hI bD (by simp [Value.cells,hr.length]) (by omega) (by omega) fun b8 w' hI=>?_
    obtain ⟨S4,hI,hE4,hS⟩:=hI.pub1
    refine Run.call0E dN dL hI (eo ⟨#[115]⟩ (by decide) (NK hS (hr.mono hE4.1)) (by simp)) fun v' I' S5 w'=>?_
    rintro ⟨rfl,cs2,rfl,hcs2⟩ hE5 hI
    have hI:Inv w [br] [.blk b5 (.cells cs1.toArray ab),B4,rdI br sl (p+1)] S5 w':=by simpa using hI
    refine bf hI 0 rfl ai (by simpa using hcs2.length) (by simpa using hr.length) (by simpa using hcs2.one) fun w' hI=>?_
    refine bL (by omega) ?_
    have e:(ByteArray.mk #[115]).size=1:=rfl
    exact ⟨⟨j+1,S5,cs2,_,rfl,by omega,hE3.trans (hE4.trans hE5),hcs2,by simp only [wT,wL,List.length_cons,List.length_nil,e]; omega,hI⟩,by simp only [intOf,Int.toNat_natCast]; omega⟩
   ·exact ⟨p+1,S3,cs1,t1,by omega,hE3,hr,by omega,hI⟩
  ·exact hfin hE1 (by omega) hk hn (by omega) hR (by omega) (Nat.le_refl _) hI
 intro _ _ _ _ _ _ _ _ _ _ _ _ _ _ _ _ _ _ _ _ _ _ _ _ _ _ _ _ _ _ _ _ _ _ _ _ _ _ _ _ _ _ w'
 rintro ⟨p1,S2,cs1,t1,hp1,hE2,hr,hw1,hI⟩
 subst hB4
 refine ba hI 0 ai rfl (by simpa using hr.length) ?_
 refine bf hI 1 rfl ai (by simpa using hr.length) rfl (by simpa using hr.one) fun w' hI=>?_
 refine bZ hI 1 ai rfl (by simpa using hr.length) ?_
 exact ⟨_,_,S2,rfl,hI.pick [false,false,true],hE2,p1,hp1,rfl,cs1,t1,rfl,hr,hw1⟩
end
end Go.Proofs.YtemmhhdnlbmicaaGreat

/- spec.l4Mutate, l4MutateAll. -/
namespace Go.Proofs.YtemmhhdnlbmicaaGreat
open Go Go.RowKit
section
variable {w0 w:World} {X:List Nat} {L A:List Item} {S:az} {K:Value->World->Prop} {P:Program}
theorem AP {b:Nat} {hd:List Value} {h:T} {kv:Value} {css:List (List Value)} {ks:List T} {o:Obj}
  (hI:Inv w0 X (.blk b o::bj kv ab 4 css::A) S w) (hR:Rows 4 (RdT S) css ks) (hh:RdT S hd h) :
  ∃ S',Ext w0.heap.size X S S'/\Inv w0 X (.blk b o::A) S' w/\RdC S' (hd++[kv]) ⟨h,ks⟩/\RdSl S' 4 (RdT S') kv ks:=by
 have hI:Inv w0 X ((.blk b o::A)++[bj kv ab 4 css]) S w:=hI.last 1 rfl
 obtain ⟨S',hE,hrd,hI⟩:=Inv.lendExt hI
 have hrs:=RowRd.rows (hR.monoR fun _ _ h=>RdT.mono hE.1 h) hrd
 exact ⟨S',hE,hI,⟨hd,kv,rfl,hh.mono hE.1,hrs⟩,hrs⟩
end
abbrev NP (br:Nat) (sl:Value) (p k m:Nat):Value->List Item->az->Prop:=fun v I' S'=>∃ p',p'<=p+k/\I'=[rdI br sl p']/\∃ cs c,v=.agg cs.toArray/\RdC S' cs c/\wC c<=m
section
variable {br:Nat} {sl:Value} {ys:List Nat}
attribute [local irreducible] Run CondV aj bd
theorem yX {p:Nat} {S:az} {cs:List Value} {c:C} (hrd:RdSl S 1 ku sl ys) (h:RdC S cs c) (hw:wC c<=100000) (hp:p<=90000000) :
  Tri Tryz.prog EX [rdP br,.agg cs.toArray] [rdI br sl p] S (NP br sl p 600 (wC c+700)):=by
 intro w hI
 have hl5:=h.length
 refine uA ?_
 unfold qC
 refine bM hI fun b3 w' hI=>?_
 refine bw hI eI fun b4 w' hI=>?_
 refine ba hI 1 bF rfl (by simpa [Value.cells] using hl5) ?_
 refine Run.call0E vP xf hI (KJ h (by omega)) fun v' I' S1 w'=>?_
 rintro ⟨hd,kv,css,rfl,hhd,rfl,hR⟩ hE1 hI
 have hE1:Ext w.heap.size [br] S S1:=hE1
 obtain ⟨a0,n0,q0,rfl⟩:=hI.rowSlice 3 rfl
 have hhd0:=hhd
 obtain ⟨k4,rfl,hk,hn,hs,_⟩:=RdT.iff.1 hhd
 obtain ⟨ak,nk,ck,hk4⟩:∃ a n c,k4=.slice a n c:=by
  obtain ⟨_,e,_,_,_,a,q,rfl,_⟩:=RdT.iff.1 hhd0
  simp only [List.cons.injEq,and_true,true_and] at e
  exact ⟨_,_,_,e⟩
 subst hk4
 refine bw hI eI fun b5 w' hI=>?_
 refine bf hI 4 rfl bF rfl rfl (by simp [Value.oneCell']) fun w' hI=>?_
 obtain ⟨B4,hB4⟩:∃ B4,B4=Item.blk b4 (.cells #[.int .i64 0,.int .i64 0,.string ⟨#[]⟩,.slice none 0 0,.slice none 0 0] aR):=⟨_,rfl⟩
 have hI:Inv w [br] [.blk b5 (.cells #[.int .i64 c.head.kind,.int .i64 c.head.n,.string c.head.name,.slice ak nk ck,.slice a0 n0 q0] aR),bj (.slice a0 n0 q0) ab 4 css,B4,rdI br sl p] S1 w':=by
  rw [hB4]
  exact (((hI.pick [true,false,true,true,true]).last 2 rfl).last 1 rfl).last 0 rfl
 have hwc:wC c=wT c.head+c.body.length+wL c.body:=rfl
 refine ⟨fun w'=>∃ (p1:Nat) (S2:az) (cs1:List Value) (c1:C),p1<=p+600/\Ext w.heap.size [br] S S2/\RdC S2 cs1 c1/\wC c1<=wC c+700/\Inv w [br] [.blk b5 (.cells cs1.toArray aR),B4,rdI br sl p1] S2 w',?_,?_⟩
 ·have hfin:∀ {hd:List Value} {h:T} {p1:Nat} {w':World} {S1:az} {css:List (List Value)} {kv:Value} {ks:List T},Ext w.heap.size [br] S S1->p1<=p+600->RdT S1 hd h->Rows 4 (RdT S1) css ks->wT h+ks.length+wL ks<=wC c+700->
    Inv w [br] [.blk b5 (.cells (hd++[kv]).toArray aR),bj kv ab 4 css,B4,rdI br sl p1] S1 w'->
    ∃ (p1:Nat) (S2:az) (cs1:List Value) (c1:C),p1<=p+600/\Ext w.heap.size [br] S S2/\RdC S2 cs1 c1/\wC c1<=wC c+700/\Inv w [br] [.blk b5 (.cells cs1.toArray aR),B4,rdI br sl p1] S2 w':=by
   intro hd h p1 w' S1 css kv ks hE hp1 hh hR hwn hI
   obtain ⟨S2,hE2,hI,hr,_⟩:=AP hI hR hh
   exact ⟨p1,S2,_,_,hp1,hE.trans hE2,hr,hwn,hI⟩
  refine Run.callL bY bX hI (dR (n:=40) (hrd.monoU hE1.1) (by omega) (by omega)) rfl fun v' I' S1 w'=>?_
  rintro ⟨rfl,rfl,kk,hkk,rfl⟩ _ hI
  refine bO ?_
  refine bk (fun _=>?_) (fun _=>?_)
  ·refine Run.callL wH wO hI (uu (p:=p+1) (hrd.monoU hE1.1) (by omega)) rfl fun v' I' S2 w'=>?_
   rintro ⟨p2,hp2,rfl,cs2,t2,rfl,hr2,hw2⟩ hE2 hI
   refine Run.callL lx lD hI (jV (p:=p2) (hrd.monoU (hE1.trans hE2).1) hr2 (by omega) (by omega)) rfl fun v' I' S3 w'=>?_
   rintro ⟨p3,hp3,rfl,cs3,t3,rfl,hr3,hw3⟩ hE3 hI
   have hr3':=hr3
   obtain ⟨k3,rfl,_,_,_,a3,q3,rfl,_⟩:=RdT.iff.1 hr3
   refine bh dh ?_
   refine GX hI 0 rfl ai rfl rfl (by simp [Value.cells,Value.oneCell']) fun w' hI=>?_
   exact hfin ((hE1.trans hE2).trans hE3) (by omega) hr3' (hR.monoR fun _ _ h=>RdT.mono (hE2.trans hE3).1 h) (by omega) hI
  refine bO ?_
  refine bk (fun _=>?_) (fun _=>?_)
  ·have hcl:=hR.hc
   have hI:=hI
   refine ⟨fun D cM bW bQ bU cA ce cN cJ b0 w_=>(D 0=true->b0=.pointer (some ⟨b5,4,none⟩))/\(D 1=true->cJ=.slice a0 n0 q0)/\(D 2=true->cN=rdP br)/\(D 3=true->ce=rdP br)/\(D 4=true->True)/\(D 5=true->True)/\(D 6=true->True)/\(D 7=true->True)/\(D 8=true->cM=.pointer (some ⟨b5,4,none⟩))/\(D 9=true->True)/\∃ n_:Nat,n_<=5/\D 4=decide (1<=n_)/\D 5=decide (2<=n_)/\D 6=decide (3<=n_)/\D 7=decide (4<=n_)/\D 9=decide (5<=n_)/\(D 9=true->D 1=true)/\(pB (Inv w [br] [.blk b5 (.cells #[.int .i64 c.head.kind,.int .i64 c.head.n,.string c.head.name,.slice ak nk ck,.slice a0 n0 q0] aR),bj (.slice a0 n0 q0) ab 4 css,B4,rdI br sl (p+1)] S1 w_) (pB (∃ p1 S2 cs t,cA=.agg cs.toArray/\RdT S2 cs t/\wT t<=500/\p1<=p+501/\Ext w.heap.size [br] S1 S2/\Inv w [br] [.blk b5 (.cells #[.int .i64 c.head.kind,.int .i64 c.head.n,.string c.head.name,.slice ak nk ck,.slice a0 n0 q0] aR),bj (.slice a0 n0 q0) ab 4 css,B4,rdI br sl p1] S2 w_) (xk w [br] b5 #[.int .i64 c.head.kind,.int .i64 c.head.n,.string c.head.name,.slice ak nk ck,.slice a0 n0 q0] 4 aR (.slice a0 n0 q0) css (fun p=>[B4,rdI br sl p]) (fun cs p' S'=>∃ t,RdT S' cs t/\wT t<=600/\p'<=p+503/\Ext w.heap.size [br] S1 S') bU bQ bW w_)) n_),⟨ae,ae,ae,ae,ae,ae,ae,ae,ae,ae,⟨0,Nat.zero_le _,rfl,rfl,rfl,rfl,rfl,(ae),hI.draw⟩⟩,⟨?_,?_,?_,?_,?_,?_,?_,?_,?_,?_,trivial⟩,?_⟩
   ·intro D aY  cM bW bQ bU cA ce cN cJ b0 w_
    rintro ⟨aA,aB,aC,aD,aw,aE,aF,aJ,aL,aQ,⟨n_,ln_,e1_,e2_,e3_,e4_,e5_,kp_,hS⟩⟩
    refine bh bq ?_
    exact ⟨fun _=>rfl,aB,aC,aD,aw,aE,aF,aJ,aL,aQ,⟨n_,ln_,e1_,e2_,e3_,e4_,e5_,kp_,hS⟩⟩
   ·intro D aY cc cM bW bQ bU cA ce cN cJ b0 w_
    rintro ⟨aA,aB,aC,aD,aw,aE,aF,aJ,aL,aQ,⟨n_,ln_,e1_,e2_,e3_,e4_,e5_,kp_,hS⟩⟩
    obtain rfl:=aA cc
    have ln2_:=M7 e5_ kp_ aY
    refine dM aP ((ML (fun h=>h.cellL (i:=0) rfl) (fun ⟨_,_,_,_,_,_,_,_,_,h⟩=>h.cellL (i:=0) rfl) (fun n hn h=>EO h hn) hS ln2_).trans rfl) ?_
    exact ⟨aA,fun _=>rfl,aC,aD,aw,aE,aF,aJ,aL,aQ,⟨n_,ln_,e1_,e2_,e3_,e4_,e5_,(fun _=>rfl),hS⟩⟩
   ·intro D aY  cM bW bQ bU cA ce cN cJ b0 w_
    rintro ⟨aA,aB,aC,aD,aw,aE,aF,aJ,aL,aQ,⟨n_,ln_,e1_,e2_,e3_,e4_,e5_,kp_,hS⟩⟩
    exact ⟨aA,aB,fun _=>rfl,aD,aw,aE,aF,aJ,aL,aQ,⟨n_,ln_,e1_,e2_,e3_,e4_,e5_,kp_,hS⟩⟩
   ·intro D aY  cM bW bQ bU cA ce cN cJ b0 w_
    rintro ⟨aA,aB,aC,aD,aw,aE,aF,aJ,aL,aQ,⟨n_,ln_,e1_,e2_,e3_,e4_,e5_,kp_,hS⟩⟩
    exact ⟨aA,aB,aC,fun _=>rfl,aw,aE,aF,aJ,aL,aQ,⟨n_,ln_,e1_,e2_,e3_,e4_,e5_,kp_,hS⟩⟩
   ·intro D aY dB cM bW bQ bU cA ce cN cJ b0 w_
    rintro ⟨aA,aB,aC,aD,aw,aE,aF,aJ,aL,aQ,⟨n_,ln_,e1_,e2_,e3_,e4_,e5_,kp_,hS⟩⟩
    obtain rfl:=aD dB
    obtain rfl:n_=0:=M0 e1_ aY
    refine Run.callL wH wO (L:=[.blk b5 _,bj _ ab 4 css,B4,rdI br sl (p+1)]) hS (uu (p:=p+1) (hrd.monoU hE1.1) (by omega)) rfl fun v' I' S2 w_=>?_
    rintro ⟨p2,hp2,rfl,cs2,t2,rfl,hr2,hw2⟩ hE2 hI
    exact ⟨aA,aB,aC,aD,fun _=>by first|assumption|trivial,aE,aF,aJ,aL,aQ,⟨1,by decide,rfl,(by first|exact e2_|rfl),(by first|exact e3_|rfl),(by first|exact e4_|rfl),(by first|exact e5_|rfl),kp_,⟨p2,S2,cs2,t2,rfl,hr2,hw2,by omega,hE2,hI⟩⟩⟩
   ·intro D aY eq dJ jg cM bW bQ bU cA ce cN cJ b0 w_
    rintro ⟨aA,aB,aC,aD,aw,aE,aF,aJ,aL,aQ,⟨n_,ln_,e1_,e2_,e3_,e4_,e5_,kp_,hS⟩⟩
    obtain rfl:=aC eq
    have NR:=aw dJ
    obtain rfl:n_=1:=u0 e1_ dJ e2_ aY
    obtain ⟨p2,S2,cs2,t2,rfl,hr2,hw2,hp2,hE2,hI⟩:=CT hS
    refine Run.callL lx lD (L:=[.blk b5 _,bj _ ab 4 css,B4,rdI br sl p2]) hI (jV (p:=p2) (hrd.monoU (hE1.trans hE2).1) hr2 (by omega) (by omega)) rfl fun v' I' S3 w_=>?_
    rintro ⟨p3,hp3,rfl,cs3,t3,rfl,hr3,hw3⟩ hE3 hI
    exact ⟨aA,aB,aC,aD,aw,fun _=>by first|assumption|trivial,aF,aJ,aL,aQ,⟨2,by decide,(by first|exact e1_|rfl),rfl,(by first|exact e3_|rfl),(by first|exact e4_|rfl),(by first|exact e5_|rfl),kp_,JP (Ep ⟨t3,hr3,by omega,by omega,hE2.trans hE3⟩ hr3 hI)⟩⟩
   ·intro D aY d3 cM bW bQ bU cA ce cN cJ b0 w_
    rintro ⟨aA,aB,aC,aD,aw,aE,aF,aJ,aL,aQ,⟨n_,ln_,e1_,e2_,e3_,e4_,e5_,kp_,hS⟩⟩
    have NA:=aE d3
    obtain rfl:n_=2:=u0 e2_ d3 e3_ aY
    refine ap1 (CT hS) fun u w_ hS=>?_
    exact ⟨aA,aB,aC,aD,aw,aE,fun _=>by first|assumption|trivial,aJ,aL,aQ,⟨3,by decide,(by first|exact e1_|rfl),(by first|exact e2_|rfl),rfl,(by first|exact e4_|rfl),(by first|exact e5_|rfl),kp_,JP hS⟩⟩
   ·intro D aY dC ge Fr cM bW bQ bU cA ce cN cJ b0 w_
    rintro ⟨aA,aB,aC,aD,aw,aE,aF,aJ,aL,aQ,⟨n_,ln_,e1_,e2_,e3_,e4_,e5_,kp_,hS⟩⟩
    obtain rfl:=aB dC
    have M5:=aF ge
    obtain rfl:n_=3:=u0 e3_ ge e4_ aY
    refine ap2 (CT hS) (by omega) fun u w_ hS=>?_
    exact ⟨aA,aB,aC,aD,aw,aE,aF,fun _=>by first|assumption|trivial,aL,aQ,⟨4,by decide,(by first|exact e1_|rfl),(by first|exact e2_|rfl),(by first|exact e3_|rfl),rfl,(by first|exact e5_|rfl),kp_,JP hS⟩⟩
   ·intro D aY cc ij zW E9 zp IB KS LD cM bW bQ bU cA ce cN cJ b0 w_
    rintro ⟨aA,aB,aC,aD,aw,aE,aF,aJ,aL,aQ,⟨n_,ln_,e1_,e2_,e3_,e4_,e5_,kp_,hS⟩⟩
    refine bh bq ?_
    exact ⟨aA,aB,aC,aD,aw,aE,aF,aJ,fun _=>rfl,aQ,⟨n_,ln_,e1_,e2_,e3_,e4_,e5_,kp_,hS⟩⟩
   ·intro D aY jh jZ om Dr mv Dx zf Av Eu KU lK cM bW bQ bU cA ce cN cJ b0 w_
    rintro ⟨aA,aB,aC,aD,aw,aE,aF,aJ,aL,aQ,⟨n_,ln_,e1_,e2_,e3_,e4_,e5_,kp_,hS⟩⟩
    obtain rfl:=aL jh
    have K6:=aJ jZ
    obtain rfl:n_=4:=u0 e4_ jZ e5_ aY
    refine ap3 (CT hS) (by simp) fun w_ hS=>?_
    exact ⟨aA,aB,aC,aD,aw,aE,aF,aJ,aL,fun _=>trivial,⟨5,by decide,(by first|exact e1_|rfl),(by first|exact e2_|rfl),(by first|exact e3_|rfl),(by first|exact e4_|rfl),rfl,(fun _=>mv),JP hS⟩⟩
   intro D jt gK fT fY fE fm fw fF fC fD cM bW bQ bU cA ce cN cJ b0 w_
   rintro ⟨aA,aB,aC,aD,aw,aE,aF,aJ,aL,aQ,⟨n_,ln_,e1_,e2_,e3_,e4_,e5_,kp_,hS⟩⟩
   obtain rfl:n_=5:=M8 ln_ e5_ jt
   clear e1_ e2_ e3_ e4_ e5_
   obtain ⟨p3,S7,cs,⟨t,hcs,hwt,hp3,hE7⟩,hl,hI⟩:=CT (CT hS)
   exact hfin (hE1.trans hE7) (by omega) (hhd0.mono hE7.1) ((hR.monoR fun _ _ h=>RdT.mono hE7.1 h).snoc hcs hl.1) (by rw [mq,List.length_append,List.length_cons,List.length_nil]; simp only [wL]; omega) hI
  refine bO ?_
  refine bk (fun _=>?_) (fun _=>?_)
  ·refine ⟨fun w'=>∃ (S2:az) (kv:Value) (css:List (List Value)) (ks:List T),Ext w.heap.size [br] S S2/\Rows 4 (RdT S2) css ks/\ks.length<=c.body.length+7/\wL ks+4 * (7 - (ks.length - c.body.length))<=wL c.body+28/\c.body.length<=ks.length/\
     RdT S2 [.int .i64 c.head.kind,.int .i64 c.head.n,.string c.head.name,.slice ak nk ck] c.head/\
     Inv w [br] [.blk b5 (.cells #[.int .i64 c.head.kind,.int .i64 c.head.n,.string c.head.name,.slice ak nk ck,kv] aR),bj kv ab 4 css,B4,rdI br sl (p+1)] S2 w',fun w'=>7 - wV w' b5 4,⟨S1,_,css,c.body,hE1,hR,by omega,by omega,by omega,hhd0,hI⟩,?_⟩
   intro t39 t38 t37 t36 t35 t34 _ _ _ _ w'
   rintro ⟨S2,kv,css,ks,hE2,hR,hkl,hkw,hkb,hhd,hI⟩
   obtain ⟨a1,n1,q1,rfl,hn1⟩:∃ a m c,kv=.slice a m c/\m=ks.length:=by
    obtain ⟨S',_,_,_,hr⟩:=AP hI hR hhd
    obtain ⟨a,q,rfl,_⟩:=hr
    exact ⟨a,_,q,rfl,rfl⟩
   subst hn1
   have hl1:=tl hI (i:=0) (o:=4) rfl rfl
   have hcl:=hR.hc
   refine aI hI 0 rfl bq aP rfl ?_
   refine fx av ?_
   refine fK ?_
   refine bk (fun hle=>?_) (fun hle=>?_)
   ·have hI:=hI
    refine ⟨fun D eE ek eF dX dY hH w_=>(D 0=true->hH=.pointer (some ⟨b5,4,none⟩))/\(D 1=true->dY=.slice a1 ks.length q1)/\(D 2=true->True)/\(D 3=true->True)/\(D 4=true->True)/\(D 5=true->eE=.pointer (some ⟨b5,4,none⟩))/\(D 6=true->True)/\∃ n_:Nat,n_<=4/\D 2=decide (1<=n_)/\D 3=decide (2<=n_)/\D 4=decide (3<=n_)/\D 6=decide (4<=n_)/\(D 6=true->D 1=true)/\(pB (Inv w [br] [.blk b5 (.cells #[.int .i64 c.head.kind,.int .i64 c.head.n,.string c.head.name,.slice ak nk ck,.slice a1 ks.length q1] aR),bj (.slice a1 ks.length q1) ab 4 css,B4,rdI br sl (p+1)] S2 w_) (xk w [br] b5 #[.int .i64 c.head.kind,.int .i64 c.head.n,.string c.head.name,.slice ak nk ck,.slice a1 ks.length q1] 4 aR (.slice a1 ks.length q1) css (fun p=>[B4,rdI br sl (p+1)]) (fun cs p' S'=>p'=p/\Ext w.heap.size [br] S2 S'/\RdT S' cs (.mk 3 0 ⟨#[116,114,117,101]⟩ [])) dX eF ek w_) n_),⟨ae,ae,ae,ae,ae,ae,ae,⟨0,Nat.zero_le _,rfl,rfl,rfl,rfl,(ae),hI.draw⟩⟩,⟨?_,?_,?_,?_,?_,?_,?_,trivial⟩,?_⟩
    ·intro D aY  eE ek eF dX dY hH w_
     rintro ⟨aA,aB,aC,aD,aw,aE,aF,⟨n_,ln_,e1_,e2_,e3_,e4_,kp_,hS⟩⟩
     refine bh bq ?_
     exact ⟨fun _=>rfl,aB,aC,aD,aw,aE,aF,⟨n_,ln_,e1_,e2_,e3_,e4_,kp_,hS⟩⟩
    ·intro D aY cc eE ek eF dX dY hH w_
     rintro ⟨aA,aB,aC,aD,aw,aE,aF,⟨n_,ln_,e1_,e2_,e3_,e4_,kp_,hS⟩⟩
     obtain rfl:=aA cc
     have ln2_:=M7 e4_ kp_ aY
     refine dM aP ((HX (fun h=>h.cellL (i:=0) rfl) (fun n hn h=>EO h hn) hS ln2_).trans rfl) ?_
     exact ⟨aA,fun _=>rfl,aC,aD,aw,aE,aF,⟨n_,ln_,e1_,e2_,e3_,e4_,(fun _=>rfl),hS⟩⟩
    ·intro D aY  eE ek eF dX dY hH w_
     rintro ⟨aA,aB,aC,aD,aw,aE,aF,⟨n_,ln_,e1_,e2_,e3_,e4_,kp_,hS⟩⟩
     obtain rfl:n_=0:=M0 e1_ aY
     refine Run.call0E dN dL (L:=[.blk b5 _,bj _ ab 4 css,B4,rdI br sl (p+1)]) hS (eo ⟨#[116,114,117,101]⟩ (by decide) (iM S2) (by simp)) fun v' I' S3 w_=>?_
     rintro ⟨rfl,cs3,rfl,hcs3⟩ hE3 hI
     exact ⟨aA,aB,fun _=>by first|assumption|trivial,aD,aw,aE,aF,⟨1,by decide,rfl,(by first|exact e2_|rfl),(by first|exact e3_|rfl),(by first|exact e4_|rfl),kp_,Ep ⟨rfl,hE3,hcs3⟩ hcs3 hI⟩⟩
    ·intro D aY eq eE ek eF dX dY hH w_
     rintro ⟨aA,aB,aC,aD,aw,aE,aF,⟨n_,ln_,e1_,e2_,e3_,e4_,kp_,hS⟩⟩
     have PW:=aC eq
     obtain rfl:n_=1:=u0 e1_ eq e2_ aY
     refine ap1 hS fun u w_ hS=>?_
     exact ⟨aA,aB,aC,fun _=>by first|assumption|trivial,aw,aE,aF,⟨2,by decide,(by first|exact e1_|rfl),rfl,(by first|exact e3_|rfl),(by first|exact e4_|rfl),kp_,hS⟩⟩
    ·intro D aY dC mO zW eE ek eF dX dY hH w_
     rintro ⟨aA,aB,aC,aD,aw,aE,aF,⟨n_,ln_,e1_,e2_,e3_,e4_,kp_,hS⟩⟩
     obtain rfl:=aB dC
     have Pq:=aD mO
     obtain rfl:n_=2:=u0 e2_ mO e3_ aY
     refine ap2 hS (by omega) fun u w_ hS=>?_
     exact ⟨aA,aB,aC,aD,fun _=>by first|assumption|trivial,aE,aF,⟨3,by decide,(by first|exact e1_|rfl),(by first|exact e2_|rfl),rfl,(by first|exact e4_|rfl),kp_,hS⟩⟩
    ·intro D aY cc ij zW E9 zp eE ek eF dX dY hH w_
     rintro ⟨aA,aB,aC,aD,aw,aE,aF,⟨n_,ln_,e1_,e2_,e3_,e4_,kp_,hS⟩⟩
     refine bh bq ?_
     exact ⟨aA,aB,aC,aD,aw,fun _=>rfl,aF,⟨n_,ln_,e1_,e2_,e3_,e4_,kp_,hS⟩⟩
    ·intro D aY d3 dJ jg Dr mv Dx zf Av eE ek eF dX dY hH w_
     rintro ⟨aA,aB,aC,aD,aw,aE,aF,⟨n_,ln_,e1_,e2_,e3_,e4_,kp_,hS⟩⟩
     obtain rfl:=aE d3
     have NR:=aw dJ
     obtain rfl:n_=3:=u0 e3_ dJ e4_ aY
     refine ap3 hS (by simp) fun w_ hS=>?_
     exact ⟨aA,aB,aC,aD,aw,aE,fun _=>trivial,⟨4,by decide,(by first|exact e1_|rfl),(by first|exact e2_|rfl),(by first|exact e3_|rfl),rfl,(fun _=>mv),hS⟩⟩
    intro D fY fE fm fw fF fC fD eE ek eF dX dY hH w_
    rintro ⟨aA,aB,aC,aD,aw,aE,aF,⟨n_,ln_,e1_,e2_,e3_,e4_,kp_,hS⟩⟩
    obtain rfl:n_=4:=M8 ln_ e4_ fY
    clear e1_ e2_ e3_ e4_
    obtain ⟨p3,S7,cs,⟨rfl,hE7,hcs⟩,hl,hI⟩:=hS
    have hR2:=(hR.monoR fun _ _ h=>RdT.mono hE7.1 h).snoc hcs hl.1
    have e4:(ByteArray.mk #[116,114,117,101]).size=4:=rfl
    refine ⟨⟨S7,_,_,_,hE2.trans hE7,hR2,by rw [List.length_append]; simp only [List.length_cons,List.length_nil]; omega,by rw [mq,List.length_append,List.length_cons,List.length_nil]; simp only [wL,wT,List.length_nil,e4]; omega,by rw [List.length_append]; omega,hhd.mono hE7.1,hI⟩,?_⟩
    obtain ⟨S',_,_,_,hr⟩:=AP hI hR2 (hhd.mono hE7.1)
    obtain ⟨a,q,e,_⟩:=hr
    have hl2:=tl hI (i:=0) (o:=4) (a:=a) (n:=(ks++[T.mk 3 0 ⟨#[116,114,117,101]⟩ []]).length) (m:=q) rfl (by rw [<- e]; rfl)
    show 7 - wV w_ b5 4<7 - wV w' b5 4
    rw [hl1,hl2,List.length_append,List.length_cons,List.length_nil]
    omega
   ·exact hfin hE2 (by omega) hhd hR (by omega) hI
  refine bO ?_
  refine bk (fun _=>?_) (fun _=>?_)
  ·refine qU hI (by kernel_rfl) rfl (by omega) fun v S3 w' hE3 hv hI=>?_
   refine Run.callL iD iG hI (r9 (p:=p+1) (hrd.monoU (hE1.trans hE3).1) hv (by decide) (by omega)) rfl fun v' I' S3 w'=>?_
   rintro ⟨rfl,rfl,m,hm,rfl⟩ _ hI
   have hm:=yH (m:=7) hm (by decide)
   refine bh dh ?_
   refine bh bo ?_
   refine el hI 0 (n:=1) rfl (by decide +kernel) rfl (by simp) (by simp [Value.cells,Value.oneCell']) fun w' hI=>?_
   have hr0:=hhd0.mono hE3.1
   obtain ⟨k3,e3,_,_,_,hk3⟩:=RdT.iff.1 hr0
   have hr1:RdT S3 [.int .i64 c.head.kind,.int .i64 c.head.n,.string m,.slice ak nk ck] (.mk c.head.kind c.head.n m c.head.kids):=by
    simp only [List.cons.injEq,and_true,true_and] at e3
    exact RdT.iff.2 ⟨_,rfl,hk,hn,by simp only [T.name,maxLen]; omega,e3 ▸ hk3⟩
   refine hfin (hE1.trans hE3) (by omega) hr1 (hR.monoR fun _ _ h=>RdT.mono hE3.1 h) ?_ hI
   have:wT c.head=c.head.name.size+c.head.kids.length+wL c.head.kids:=by cases c.head; rw [wT]; rfl
   rw [wT]
   omega
  ·exact hfin hE1 (by omega) hhd0 hR (by omega) hI
 intro _ _ _ _ _ _ _ _ _ _ _ _ _ _ _ _ _ _ _ _ _ _ _ _ _ _ _ _ _ _ _ _ _ _ _ _ _ _ _ w'
 rintro ⟨p1,S2,cs1,c1,hp1,hE2,hr,hw1,hI⟩
 subst hB4
 refine ba hI 0 bF rfl (by simpa using hr.length) ?_
 refine bf hI 1 rfl bF (by simpa using hr.length) rfl (by simpa using hr.one) fun w' hI=>?_
 refine bZ hI 1 bF rfl (by simpa using hr.length) ?_
 exact ⟨_,_,S2,rfl,hI.pick [false,false,true],hE2,p1,hp1,rfl,cs1,c1,rfl,hr,hw1⟩
end
end Go.Proofs.YtemmhhdnlbmicaaGreat

/- spec.l4MutateAll, l4Texts, l4Program, l4Clause, l14Two. -/
namespace Go.Proofs.YtemmhhdnlbmicaaGreat
open Go Go.RowKit
def Light (n m:Nat) (q:List C):Prop:=q.length<=n/\∀ c∈q,wC c<=m
theorem Light.le {n m:Nat} {q:List C} (h:Light n m q):q.length+wP q<=n+n * m:=by
 have:∀ q:List C,(∀ c∈q,wC c<=m)->wP q<=q.length * m:=by
  intro q
  induction q with
  | nil=>intro _; simp [wP]
  | cons c q ih=>
   intro h
   have h1:=h c (List.mem_cons_self ..)
   have h2:=ih fun d hd=>h d (List.mem_cons_of_mem _ hd)
   simp only [wP,List.length_cons,Nat.succ_mul]
   omega
 have h1:=this q h.2
 have h2:q.length * m<=n * m:=Nat.mul_le_mul_right _ h.1
 have:=h.1
 omega
theorem Light.append {n n' m:Nat} {q q':List C} (h:Light n m q) (h':Light n' m q'):Light (n+n') m (q++q'):=
 ⟨by rw [List.length_append]; exact Nat.add_le_add h.1 h'.1,fun c hc=>(List.mem_append.1 hc).elim (h.2 c) (h'.2 c)⟩
abbrev Ni (br:Nat) (sl:Value) (p k n m:Nat):Value->List Item->az->Prop:=fun v I' S'=>∃ p',p'<=p+k/\I'=[rdI br sl p']/\∃ q,RdSl S' 5 (RdC S') v q/\Light n m q
/- a program that is still the caller's own row -/
abbrev NG (br:Nat) (sl:Value) (p k n m:Nat):Value->List Item->az->Prop:=fun v I' S'=>∃ p' css q,p'<=p+k/\I'=[bj v aR 5 css,rdI br sl p']/\Rows 5 (RdC S') css q/\Light n m q/\0<q.length/\∀ c∈q,dD c=true
section
variable {w0 w:World} {X:List Nat} {L A:List Item} {S:az}
theorem oM {v:Value} {css:List (List Value)} {q:List C} (hI:Inv w0 X (bj v aR 5 css::A) S w) (hR:Rows 5 (RdC S) css q) :
  ∃ S',Ext w0.heap.size X S S'/\Inv w0 X A S' w/\RdSl S' 5 (RdC S') v q:=by
 have hI:Inv w0 X (A++[bj v aR 5 css]) S w:=hI.last 0 rfl
 obtain ⟨S',hE,hrd,hI⟩:=Inv.lendExt hI
 exact ⟨S',hE,hI,RowRd.rows (hR.monoR fun _ _ h=>RdC.mono hE.1 h) hrd⟩
end
section
variable {br:Nat} {sl:Value} {ys:List Nat}
attribute [local irreducible] Run CondV aj bd
theorem N4:wC ⟨.mk 3 0 ⟨#[122]⟩ [],[]⟩=1:=by
 have e:(ByteArray.mk #[122]).size=1:=rfl
 simp only [wC,wT,wL,List.length_nil,e]
theorem tb {p m:Nat} {S:az} {v:Value} {q:List C} (hrd:RdSl S 1 ku sl ys) (h:RdSl S 5 (RdC S) v q) (hq:Light 30 m q) (h0:0<q.length) (hm:m<=2000) (hp:p<=50000000) :
  Tri Tryz.prog xR [rdP br,v] [rdI br sl p] S (Ni br sl p 20000 30 (m+700)):=by
 intro w hI
 refine qb ?_
 unfold l4
 have hql:=hq.1
 refine eB hI i8 fun v0 w' hI=>?_
 have hI:Inv w [br] [bj v0 aR 5 [],rdI br sl p] S w':=hI.last 0 rfl
 refine ⟨fun a b w'=>∃ (j p1:Nat) (S1:az) (css:List (List Value)) (q1:List C),a=.int .i64 (j:Int)/\j<=q.length/\q1.length=j/\p1<=p+600 * j/\Ext w.heap.size [br] S S1/\Rows 5 (RdC S1) css q1/\(∀ c∈q1,wC c<=m+700)/\Inv w [br] [bj b aR 5 css,rdI br sl p1] S1 w',
  fun a _ _=>q.length - (intOf a).toNat,⟨0,p,S,[],[],rfl,Nat.zero_le _,rfl,by omega,Ext.refl _ _ _,Rows.nil _ _,by simp,hI⟩,?_⟩
 intro t6 _ _ t5 _ _ _ _ _ _ _ _ _ _ _ _ _ w'
 rintro ⟨j,p1,S1,css,q1,rfl,hj,hq1,hp1,hE1,hR,hqw,hI⟩
 have hcl:=hR.hc
 have h':=h.monoC hE1.1
 refine a9 h' cC ?_
 refine bR ?_
 refine bk (fun hjl=>?_) (fun hjl=>?_)
 ·have hj':j<q.length:=by omega
  refine dG hI h' cC bF hj' (fun _ _=>RdC.length) fun cs hcs=>?_
  have hwc:=hq.2 _ (List.getElem_mem hj')
  refine Run.callL Bz Bk hI (yX (p:=p1) (hrd.monoU hE1.1) hcs (by omega) (by omega)) rfl fun v' I' S2 w'=>?_
  rintro ⟨p2,hp2,rfl,ds,d,rfl,hds,hwd⟩ hE2 hI
  refine fX (css:=css) hI 0 _ i8 (by omega) (by omega) rfl hds.length hds.one (by omega) (by omega) fun v' w' hI=>?_
  refine bL (by omega) ?_
  have hpn:p2<=p+600 * (j+1):=Nat.le_trans hp2 (Nat.le_trans (Nat.add_le_add_right hp1 600) (by rw [Nat.mul_add,Nat.add_assoc]; exact Nat.le_refl _))
  exact ⟨⟨j+1,p2,S2,_,q1++[d],rfl,hj',by simp only [List.length_append,hq1,List.length_cons,List.length_nil,Nat.zero_add],hpn,hE1.trans hE2,(hR.monoR fun _ _ h=>RdC.mono hE2.1 h).snoc hds hds.length,fun c hc=>(List.mem_append.1 hc).elim (hqw c) (fun hc=>by simp only [List.mem_singleton] at hc; subst hc; omega),hI⟩,
   by simp only [intOf,Int.toNat_natCast]; omega⟩
 refine ⟨fun v w'=>∃ (p1:Nat) (S1:az) (q1:List C),p1<=p+20000/\Ext w.heap.size [br] S S1/\RdSl S1 5 (RdC S1) v q1/\Light 30 (m+700) q1/\Inv w [br] [rdI br sl p1] S1 w',?_,?_⟩
 ·refine Run.callL bY bX hI (dR (n:=30) (hrd.monoU hE1.1) (by omega) (by omega)) rfl fun v' I' S1 w'=>?_
  rintro ⟨rfl,rfl,kk,hkk,rfl⟩ _ hI
  have hI:Inv w [br] [bj t5 aR 5 css,rdI br sl (p1+1)] S1 w':=hI
  refine bO ?_
  refine bk (fun _=>?_) (fun _=>?_)
  ·refine ⟨fun b w'=>∃ (S2:az) (css:List (List Value)) (q1:List C),q1.length<=30/\Ext w.heap.size [br] S S2/\Rows 5 (RdC S2) css q1/\(∀ c∈q1,wC c<=m+700)/\Inv w [br] [bj b aR 5 css,rdI br sl (p1+1)] S2 w',
    fun b _=>30 - lenOf b,⟨S1,css,q1,by omega,hE1,hR,hqw,hI⟩,?_⟩
   intro t5 _ _ _ _ _ _ _ _ w'
   rintro ⟨S2,css,q1,hq1,hE2,hR,hqw,hI⟩
   have hlen:∀ {w':World} {S2:az} {t5:Value} {css:List (List Value)} {q1:List C},Inv w [br] [bj t5 aR 5 css,rdI br sl (p1+1)] S2 w'->Rows 5 (RdC S2) css q1->∃ a m,t5=.slice a q1.length m:=by
    intro w' S2 t5 css q1 hI hR
    obtain ⟨_,_,_,a,m,e,_⟩:=oM hI hR
    exact ⟨a,m,e⟩
   obtain ⟨a1,m1,rfl⟩:=hlen hI hR
   have hcl:=hR.hc
   refine fx cC ?_
   refine fK ?_
   refine bk (fun hle=>?_) (fun hle=>?_)
   ·refine Run.call0E dN dL hI (eo ⟨#[122]⟩ (by decide) (iM S2) (by simp)) fun v' I' S3 w'=>?_
    rintro ⟨rfl,cs3,rfl,hcs3⟩ hE3 hI
    obtain ⟨k3,rfl,_,_,_,a3,q3,rfl,_⟩:=RdT.iff.1 hcs3
    refine k0 ?_
    have hds:RdC S3 [.int .i64 3,.int .i64 0,.string ⟨#[122]⟩,.slice a3 0 q3,.slice none 0 0] ⟨.mk 3 0 ⟨#[122]⟩ [],[]⟩:=⟨[.int .i64 3,.int .i64 0,.string ⟨#[122]⟩,.slice a3 0 q3],_,rfl,hcs3,iM S3⟩
    refine fX (css:=css) hI 0 [.int .i64 3,.int .i64 0,.string ⟨#[122]⟩,.slice a3 0 q3,.slice none 0 0] i8 (by omega) (by omega) rfl rfl hds.one (by omega) (by omega) fun v' w' hI=>?_
    have hI:Inv w [br] [bj v' aR 5 (css++[_]),rdI br sl (p1+1)] S3 w':=hI
    have hR2:=(hR.monoR fun _ _ h=>RdC.mono hE3.1 h).snoc hds rfl
    obtain ⟨a2,m2,rfl⟩:=hlen hI hR2
    refine ⟨⟨S3,_,_,by rw [List.length_append]; simp only [List.length_cons,List.length_nil]; omega,hE2.trans hE3,hR2,fun c hc=>(List.mem_append.1 hc).elim (hqw c) (fun hc=>by simp only [List.mem_singleton] at hc; subst hc; rw [N4]; omega),hI⟩,?_⟩
    simp only [lenOf,List.length_append,List.length_cons,List.length_nil]
    omega
   ·obtain ⟨S3,hE3,hI,hr⟩:=oM hI hR
    exact ⟨_,S3,q1,by omega,hE2.trans hE3,hr,⟨hq1,hqw⟩,hI⟩
  ·obtain ⟨S3,hE3,hI,hr⟩:=oM hI hR
   refine bO ?_
   refine bk (fun _=>?_) (fun _=>?_)
   ·refine wn (l:=1) cC hr (by omega) fun u hu=>?_
    exact ⟨_,S3,_,by omega,hE1.trans hE3,hu,⟨by rw [List.length_drop]; omega,fun c hc=>hqw c (List.mem_of_mem_drop hc)⟩,hI⟩
   ·exact ⟨_,S3,q1,by omega,hE1.trans hE3,hr,⟨by omega,hqw⟩,hI⟩
 intro _ _ _ _ t5 _ _ _ _ _ _ _ _ _ _ _ _ w'
 rintro ⟨p2,S2,q2,hp2,hE2,hr,hl,hI⟩
 exact ⟨_,_,S2,rfl,hI,hE2,p2,hp2,rfl,q2,hr,hl⟩
end
end Go.Proofs.YtemmhhdnlbmicaaGreat

/- spec.l4Texts, l4Program, l4Clause, l14Two. -/
namespace Go.Proofs.YtemmhhdnlbmicaaGreat
open Go Go.RowKit
def okS (s:ByteArray):Bool:=L7 (bs s) && decide (s.size<=1000)
theorem Mn {s:ByteArray} (h:okS s=true):∃ q,JK 60 (bs s)=some q/\0<q.length/\Light 8 200 q/\(∀ c∈q,dD c=true)/\s.size<=1000:=by
 rw [okS,Bool.and_eq_true,decide_eq_true_eq] at h
 obtain ⟨h,hs⟩:=h
 unfold L7 at h
 split at h
 ·rename_i q hq
  simp only [Bool.and_eq_true,decide_eq_true_eq,List.all_eq_true] at h
  exact ⟨q,hq,h.1,⟨h.2.1,fun c hc=>(h.2.2 c hc).2⟩,fun c hc=>(h.2.2 c hc).1,hs⟩
 ·cases h
section
attribute [local irreducible] Run CondV aj bd
theorem C7 {S:az} {s:ByteArray} (h:okS s=true):Tri Tryz.prog mm [.string s] [] S fun v I' S'=>∃ u css q,v=.tuple #[u,.bool true]/\I'=[bj u aR 5 css]/\Rows 5 (RdC S') css q/\0<q.length/\Light 8 200 q/\∀ c∈q,dD c=true:=by
 obtain ⟨q,hq,h0,hl,hc,hs⟩:=Mn h
 intro w hI
 have hb:(bs s).length=s.size:=(lh (bs s)).symm
 refine (qR (f:=60) (by omega) hq (by rw [hb]; omega) w hI).mono ?_
 rintro e w' ⟨v,I',S',rfl,hI,hE,u,css,rfl,rfl,hR⟩
 exact ⟨_,_,S',rfl,hI,hE,u,css,q,rfl,rfl,hR,h0,hl,hc⟩
theorem Bt (S:az):Tri Tryz.prog FQ [] [] S fun v I' S'=>I'=[]/\∃ l,RdSl S' 1 qk v l/\l.length=11/\l.all okS=true:=by
 intro w hI
 refine xM ?_
 unfold sF
 refine qU hI (by kernel_rfl) rfl (by omega) fun v S1 w' hE1 hv hI=>?_
 exact ⟨_,[],S1,rfl,hI,hE1,rfl,_,hv,rfl,by decide +kernel⟩
variable {br:Nat} {sl:Value} {ys:List Nat}
theorem xG {p:Nat} {S:az} (hrd:RdSl S 1 ku sl ys) (hp:p<=100000000):Tri Tryz.prog Bj [rdP br] [rdI br sl p] S (NG br sl p 1 8 200):=by
 intro w hI
 refine s7 ?_
 unfold ol
 refine Run.call0E D0 Ej hI (Bt S) fun v' I' S1 w'=>?_
 rintro ⟨rfl,l,hl,hl11,hok⟩ hE1 hI
 have hI:Inv w [br] [rdI br sl p] S1 w':=hI
 refine a9 hl cG ?_
 refine Run.callL bY bX hI (dR (n:=l.length) (hrd.monoU hE1.1) (by omega) (by omega)) rfl fun v' I' S1 w'=>?_
 rintro ⟨rfl,rfl,k,hk,rfl⟩ _ hI
 have hI:Inv w [br] [rdI br sl (p+1)] S1 w':=hI
 refine iF hI hl cG bl hk (fun cs hcs=>hcs) ?_
 rw [List.all_eq_true] at hok
 refine Run.call0E kO kM hI (C7 (hok _ (List.getElem_mem hk))) fun v I' S2 w'=>?_
 rintro ⟨u,css,q,rfl,rfl,hR,h0,hq,hcv⟩ hE2 hI
 refine bb (v:=u) rfl ?_
 refine bb (v:=.bool true) rfl ?_
 exact ⟨_,_,S2,rfl,hI.last 0 rfl,hE1.trans hE2,p+1,css,q,Nat.le_refl _,rfl,hR,hq,h0,hcv⟩
end
end Go.Proofs.YtemmhhdnlbmicaaGreat

/- spec.l16Program, DrawFlatProgram, DrawStageModel. -/
namespace Go.Proofs.YtemmhhdnlbmicaaGreat
open Go Go.RowKit
section
variable {br:Nat} {sl:Value} {ys:List Nat} {S:az}
attribute [local irreducible] Run CondV aj bd
theorem Aj (S:az):Tri Tryz.prog Er [] [] S fun v I' S'=>I'=[]/\∃ l,RdSl S' 1 qk v l/\l.length=6/\l.all okS=true:=by
 intro w hI
 refine vh ?_
 unfold qw
 refine qU hI (by kernel_rfl) rfl (by omega) fun v S1 w' hE1 hv hI=>?_
 exact ⟨_,[],S1,rfl,hI,hE1,rfl,_,hv,rfl,by decide +kernel⟩
abbrev M6 (br:Nat) (sl:Value) (p k:Nat):Value->List Item->az->Prop:=fun u I' S'=>∃ p',p'<=p+k/\I'=[rdI br sl p']/\∃ ps,RdSl S' 5 (RdC S') u ps/\Light 8 200 ps/\0<ps.length
theorem vm {p:Nat} (hrd:RdSl S 1 ku sl ys) (hp:p<=10000000):Tri Tryz.prog y3 [rdP br] [rdI br sl p] S (M6 br sl p 3):=by
 intro w hI
 refine qT ?_
 unfold mY
 refine Run.call0E Bw Cf hI (Aj S) fun v' I' S1 w'=>?_
 rintro ⟨rfl,l,hl,hl6,hok⟩ hE1 hI
 have hI:Inv w [br] [rdI br sl p] S1 w':=hI
 refine a9 hl cG ?_
 refine Run.callL bY bX hI (dR (n:=l.length) (hrd.monoU hE1.1) (by omega) (by omega)) rfl fun v' I' S1 w'=>?_
 rintro ⟨rfl,rfl,k,hk,rfl⟩ _ hI
 have hI:Inv w [br] [rdI br sl (p+1)] S1 w':=hI
 refine iF hI hl cG bl hk (fun cs hcs=>hcs) ?_
 rw [List.all_eq_true] at hok
 refine Run.call0E kO kM hI (C7 (hok _ (List.getElem_mem hk))) fun v I' S3 w'=>?_
 rintro ⟨u,css,ps,rfl,rfl,hR,h0,hps,_⟩ hE3 hI
 have hI:Inv w [br] [bj u aR 5 css,rdI br sl (p+1)] S3 w':=hI.last 0 rfl
 obtain ⟨S4,hE4,hI,hr⟩:=oM hI hR
 have hE4:=hE1.trans (hE3.trans hE4)
 refine bb (v:=u) rfl ?_
 refine bb (v:=.bool true) rfl ?_
 refine ⟨fun t w'=>∃ (p2:Nat) (S5:az) (q:List C),p2<=p+3/\Ext w.heap.size [br] S S5/\RdSl S5 5 (RdC S5) t q/\Light 8 200 q/\0<q.length/\Inv w [br] [rdI br sl p2] S5 w',?_,?_⟩
 ·refine Run.callL bY bX hI (dR (n:=8) (hrd.monoU hE4.1) (by omega) (by omega)) rfl fun v' I' S2 w'=>?_
  rintro ⟨rfl,rfl,k2,hk2,rfl⟩ _ hI
  refine bO ?_
  refine bk (fun _=>?_) (fun _=>⟨p+2,_,ps,by omega,hE4,hr,hps,h0,hI⟩)
  refine Run.callL yQ Ak hI (xG (p:=p+1+1) (hrd.monoU hE4.1) (by omega)) rfl fun v1 I' S5 w'=>?_
  rintro ⟨p2,css1,q1,hp2,rfl,hR1,hq1,h1,_⟩ hE5 hI
  obtain ⟨S6,hE6,hI,hr6⟩:=oM (A:=[rdI br sl p2]) hI hR1
  exact ⟨p2,S6,q1,by omega,hE4.trans (hE5.trans hE6),hr6,hq1,h1,hI⟩
 intro t4 _ _ _ _ _ w'
 rintro ⟨p2,S5,q,hp2,hE5,hr,hl,h0,hI⟩
 exact ⟨_,_,S5,rfl,hI,hE5,p2,hp2,rfl,q,hr,hl,h0⟩
end
end Go.Proofs.YtemmhhdnlbmicaaGreat

/- The standard order of terms: a total order on well-formed terms. -/
namespace Go.Proofs.YtemmhhdnlbmicaaGreat
open Go Go.RowKit

theorem yU:∀ (a b c:List UInt8),Op.bytesLess a b=true->Op.bytesLess b c=true->Op.bytesLess a c=true
 | _,[],_,h,_=>by simp [Op.bytesLess] at h
 | _,_::_,[],_,h=>by simp [Op.bytesLess] at h
 | [],_::_,_::_,_,_=>by simp [Op.bytesLess]
 | x::a,y::b,z::c,h,h'=>by
  simp only [Op.bytesLess,Bool.or_eq_true,decide_eq_true_eq,Bool.and_eq_true,beq_iff_eq] at h h' ⊢
  rcases h with h|⟨rfl,h⟩
  ·rcases h' with h'|⟨rfl,h'⟩
   ·left; exact UInt8.lt_trans h h'
   ·left; exact h
  ·rcases h' with h'|⟨rfl,h'⟩
   ·left; exact h'
   ·right; exact ⟨rfl,yU a b c h h'⟩
theorem CO:∀ a:List UInt8,Op.bytesLess a a=false
 | []=>by simp [Op.bytesLess]
 | x::a=>by
  simp only [Op.bytesLess,CO a,Bool.and_false,Bool.or_false,decide_eq_false_iff_not]
  exact UInt8.lt_irrefl x
theorem Fg:∀ a b:List UInt8,a≠b->Op.bytesLess a b=true ∨ Op.bytesLess b a=true
 | [],[],h=>absurd rfl h
 | [],_::_,_=>.inl (by simp [Op.bytesLess])
 | _::_,[],_=>.inr (by simp [Op.bytesLess])
 | x::a,y::b,h=>by
  simp only [Op.bytesLess,Bool.or_eq_true,decide_eq_true_eq,Bool.and_eq_true,beq_iff_eq]
  by_cases e:x=y
  ·subst e
   rcases Fg a b (fun e=>h (by rw [e])) with h1|h1
   ·exact .inl (.inr ⟨rfl,h1⟩)
   ·exact .inr (.inr ⟨rfl,h1⟩)
  ·rcases UInt8.lt_or_lt_of_ne e with h1|h1
   ·exact .inl (.inl h1)
   ·exact .inr (.inl h1)
def bls (a b:ByteArray):Bool:=Op.bytesLess a.toList b.toList
def cX (a b:Int):Int:=if a<b then -1 else if b<a then 1 else 0
def di (a b:ByteArray):Int:=if bls a b=true then -1 else if bls b a=true then 1 else 0
def rkS (t:T):Int:=if t.kind=3/\0<t.kids.length then 4 else t.kind
def gG (a b:Int):Int:=if a≠0 then a else b
/- the head of a term: all but its kids -/
def hdC (t u:T):Int:=gG (cX (rkS t) (rkS u)) (gG (cX t.n u.n) (gG (cX t.kids.length u.kids.length) (di t.name u.name)))
mutual
def dU:T->T->Int
 | .mk k n s ks,u=>gG (hdC (.mk k n s ks) u) (dQ ks u.kids)
def dQ:List T->List T->Int
 | [],[]=>0
 | [],_::_=>-1
 | _::_,[]=>1
 | t::ts,u::us=>gG (dU t u) (dQ ts us)
end
mutual
def okO:T->Prop
 | .mk k n s ks=>(((k=1 ∨ k=2)/\s=emptyB/\ks=[]) ∨ (k=3/\n=0))/\uO ks
def uO:List T->Prop
 | []=>True
 | t::ts=>okO t/\uO ts
end
theorem zq {t:T} (h:eC t=true):((t.kind=1 ∨ t.kind=2)/\t.name=emptyB/\t.kids=[]) ∨ (t.kind=3/\t.n=0):=by
 unfold eC at h
 by_cases e1:t.kind=1
 ·rw [if_pos e1] at h
  simp only [Bool.and_eq_true,decide_eq_true_eq] at h
  exact .inl ⟨.inl e1,h.2.2.1,List.eq_nil_of_length_eq_zero h.2.2.2⟩
 ·rw [if_neg e1] at h
  by_cases e2:t.kind=2
  ·rw [if_pos e2] at h
   simp only [Bool.and_eq_true,decide_eq_true_eq] at h
   exact .inl ⟨.inr e2,h.2.2.1,List.eq_nil_of_length_eq_zero h.2.2.2⟩
  ·rw [if_neg e2] at h
   by_cases e3:t.kind=3
   ·rw [if_pos e3] at h
    simp only [Bool.and_eq_true,decide_eq_true_eq] at h
    exact .inr ⟨e3,h.1⟩
   ·rw [if_neg e3] at h
    cases h
theorem dT (a b:Int):(a<b/\cX a b=-1) ∨ (b<a/\cX a b=1) ∨ (a=b/\cX a b=0):=by
 unfold cX
 by_cases h:a<b
 ·exact .inl ⟨h,if_pos h⟩
 ·by_cases h':b<a
  ·exact .inr (.inl ⟨h',by rw [if_neg h,if_pos h']⟩)
  ·exact .inr (.inr ⟨by omega,by rw [if_neg h,if_neg h']⟩)
theorem toList_inj {a b:ByteArray} (h:a.toList=b.toList):a=b:=by
 have:=uj a b
 rw [beq_iff_eq.2 h] at this
 exact of_decide_eq_true this.symm
theorem dV (a b:ByteArray):(bls a b=true/\di a b=-1) ∨ (bls b a=true/\bls a b=false/\di a b=1) ∨ (a=b/\di a b=0):=by
 unfold di
 cases h:bls a b with
 | true=>exact .inl ⟨rfl,if_pos rfl⟩
 | false=>
  cases h':bls b a with
  | true=>exact .inr (.inl ⟨rfl,rfl,by simp⟩)
  | false=>
   refine .inr (.inr ⟨?_,by simp⟩)
   refine toList_inj (Decidable.byContradiction fun e=>?_)
   rcases Fg _ _ e with h1|h1
   ·rw [bls,h1] at h; cases h
   ·rw [bls,h1] at h'; cases h'
theorem Mh {a b:ByteArray} (h:bls a b=true):bls b a=false:=by
 cases h':bls b a with
 | false=>rfl
 | true=>
  have:=yU _ _ _ h h'
  rw [CO] at this
  cases this

/- how three comparisons fit -/
structure TC (a b c:Int):Prop where
 lt:a=-1->b=-1->c=-1
 e1:a=0->c=b
 e2:b=0->c=a
theorem TC.lex {a b c a' b' c':Int} (h:TC a b c) (h':TC a' b' c'):TC (gG a a') (gG b b') (gG c c'):=by
 obtain ⟨h1,h2,h3⟩:=h
 obtain ⟨h4,h5,h6⟩:=h'
 unfold gG
 refine ⟨fun x y=>?_,fun x=>?_,fun x=>?_⟩
 ·by_cases ea:a=0
  ·rw [if_neg (by omega)] at x
   by_cases eb:b=0
   ·rw [if_neg (by omega)] at y
    rw [if_neg (by have:=h2 ea; omega)]
    exact h4 x y
   ·rw [if_pos (by omega)] at y
    have:=h2 ea
    rw [if_pos (by omega)]; omega
  ·rw [if_pos (by omega)] at x
   by_cases eb:b=0
   ·have:=h3 eb
    rw [if_pos (by omega)]; omega
   ·rw [if_pos (by omega)] at y
    have:=h1 x y
    rw [if_pos (by omega)]; omega
 ·by_cases ea:a=0
  ·rw [if_neg (by omega)] at x
   rw [h2 ea,h5 x]
  ·rw [if_pos (by omega)] at x; omega
 ·by_cases eb:b=0
  ·rw [if_neg (by omega)] at x
   rw [h3 eb,h6 x]
  ·rw [if_pos (by omega)] at x; omega
theorem TC.zero:TC 0 0 0:=⟨fun h=>by omega,fun _=>rfl,fun _=>rfl⟩
theorem TC.int (a b c:Int):TC (cX a b) (cX b c) (cX a c):=by
 have h1:=dT a b
 have h2:=dT b c
 have h3:=dT a c
 exact ⟨fun _ _=>by omega,fun _=>by omega,fun _=>by omega⟩
theorem TC.str (a b c:ByteArray):TC (di a b) (di b c) (di a c):=by
 refine ⟨fun x y=>?_,fun x=>?_,fun x=>?_⟩
 ·rcases dV a b with h|h|h
  ·rcases dV b c with h'|h'|h'
   ·have:=yU _ _ _ h.1 h'.1
    unfold di
    rw [if_pos (show bls a c=true from this)]
   ·omega
   ·omega
  ·omega
  ·omega
 ·rcases dV a b with h|h|h
  ·omega
  ·omega
  ·rw [h.1]
 ·rcases dV b c with h|h|h
  ·omega
  ·omega
  ·rw [h.1]
theorem TC.hd (t u v:T):TC (hdC t u) (hdC u v) (hdC t v):=(TC.int _ _ _).lex ((TC.int _ _ _).lex ((TC.int _ _ _).lex (TC.str _ _ _)))
mutual
theorem TC.term:∀ t u v:T,TC (dU t u) (dU u v) (dU t v)
 | .mk k n s ks,.mk k' n' s' ks',v=>by
  rw [dU,dU,dU]
  exact (TC.hd _ _ _).lex (TC.list ks ks' v.kids)
theorem TC.list:∀ t u v:List T,TC (dQ t u) (dQ u v) (dQ t v)
 | [],[],[]=>by simpa [dQ] using TC.zero
 | [],[],_::_=>by rw [dQ,dQ]; exact ⟨fun h=>by omega,fun _=>rfl,fun h=>by omega⟩
 | [],_::_,[]=>by rw [dQ,dQ,dQ]; exact ⟨fun _ h=>by omega,fun h=>by omega,fun h=>by omega⟩
 | [],_::_,_::_=>by rw [dQ,dQ]; exact ⟨fun h _=>h,fun h=>by omega,fun h=>rfl⟩
 | _::_,[],[]=>by rw [dQ,dQ]; exact ⟨fun h _=>h,fun h=>by omega,fun h=>rfl⟩
 | _::_,[],_::_=>by rw [dQ,dQ]; exact ⟨fun h _=>by omega,fun h=>by omega,fun h=>by omega⟩
 | _::_,_::_,[]=>by rw [dQ,dQ]; exact ⟨fun _ h=>by omega,fun h=>rfl,fun h=>by omega⟩
 | t::ts,u::us,v::vs=>by
  rw [dQ,dQ,dQ]
  exact (TC.term t u v).lex (TC.list ts us vs)
end
theorem oi (a b:Int):-(gG a b)=gG (-a) (-b):=by
 unfold gG
 by_cases h:a=0
 ·subst h; simp
 ·rw [if_pos h,if_pos (by omega)]
theorem ro (a b:Int):cX b a=-cX a b:=by
 have:=dT a b
 have:=dT b a
 omega
theorem sr (a b:ByteArray):di b a=-di a b:=by
 rcases dV a b with h|h|h
 ·rw [h.2]
  have:=Mh h.1
  unfold di
  rw [this,if_neg (by decide),if_pos h.1]; rfl
 ·rw [h.2.2]
  unfold di
  rw [if_pos h.1]
 ·rw [h.2]
  obtain rfl:=h.1
  rw [h.2]; rfl
theorem Lx (t u:T):hdC u t=-hdC t u:=by
 rw [hdC,hdC,oi,oi,oi,ro (rkS t),ro t.n,ro t.kids.length,sr t.name]
mutual
theorem vu:∀ t u:T,dU u t=-dU t u
 | .mk k n s ks,.mk k' n' s' ks'=>by
  rw [dU,dU,oi,Lx (.mk k n s ks)]
  congr 1
  exact C8 ks ks'
theorem C8:∀ t u:List T,dQ u t=-dQ t u
 | [],[]=>by simp [dQ]
 | [],_::_=>by simp [dQ]
 | _::_,[]=>by simp [dQ]
 | t::ts,u::us=>by rw [dQ,dQ,oi,vu t u,C8 ts us]
end
theorem l9 {a b:Int} (h:gG a b=0):a=0/\b=0:=by
 unfold gG at h
 by_cases e:a=0
 ·rw [if_neg (by omega)] at h; exact ⟨e,h⟩
 ·rw [if_pos e] at h; exact ⟨h,by omega⟩
theorem o0 {a b:Int} (h:a=-1 ∨ a=0 ∨ a=1) (h':b=-1 ∨ b=0 ∨ b=1):gG a b=-1 ∨ gG a b=0 ∨ gG a b=1:=by
 unfold gG
 split
 ·exact h
 ·exact h'
theorem uH (a b:Int):cX a b=-1 ∨ cX a b=0 ∨ cX a b=1:=by have:=dT a b; omega
theorem F6 (a b:ByteArray):di a b=-1 ∨ di a b=0 ∨ di a b=1:=by
 rcases dV a b with h|h|h
 ·exact .inl h.2
 ·exact .inr (.inr h.2.2)
 ·exact .inr (.inl h.2)
theorem MO (t u:T):hdC t u=-1 ∨ hdC t u=0 ∨ hdC t u=1:=o0 (uH _ _) (o0 (uH _ _) (o0 (uH _ _) (F6 _ _)))
mutual
theorem uk:∀ t u:T,dU t u=-1 ∨ dU t u=0 ∨ dU t u=1
 | .mk k n s ks,u=>by rw [dU]; exact o0 (MO _ _) (Ga ks u.kids)
theorem Ga:∀ t u:List T,dQ t u=-1 ∨ dQ t u=0 ∨ dQ t u=1
 | [],[]=>by simp [dQ]
 | [],_::_=>by simp [dQ]
 | _::_,[]=>by simp [dQ]
 | t::ts,u::us=>by rw [dQ]; exact o0 (uk t u) (Ga ts us)
end
theorem yG {t:T} (h:okO t):((t.kind=1 ∨ t.kind=2)/\t.name=emptyB/\t.kids=[]) ∨ (t.kind=3/\t.n=0):=by
 cases t
 rw [okO] at h
 exact h.1
theorem lT {t:T} (h:t.kids=[]):rkS t=t.kind:=by
 rw [rkS,h]
 simp
theorem LF {t u:T} (ht:okO t) (hu:okO u) (h:hdC t u=0):t.kind=u.kind/\t.n=u.n/\t.name=u.name/\t.kids.length=u.kids.length:=by
 rw [hdC] at h
 obtain ⟨h1,h⟩:=l9 h
 obtain ⟨h2,h⟩:=l9 h
 obtain ⟨h3,h4⟩:=l9 h
 have c1:=dT (rkS t) (rkS u)
 have c2:=dT t.n u.n
 have c3:=dT t.kids.length u.kids.length
 have e3:t.kids.length=u.kids.length:=by omega
 have e1:rkS t=rkS u:=by omega
 refine ⟨?_,by omega,?_,e3⟩
 ·rcases yG ht with ⟨_,_,hk⟩|⟨hk,_⟩
  ·have hk':u.kids=[]:=List.eq_nil_of_length_eq_zero (by rw [<- e3,hk]; rfl)
   rw [lT hk,lT hk'] at e1
   exact e1
  ·rcases yG hu with ⟨_,_,hk'⟩|⟨hk',_⟩
   ·have hk:t.kids=[]:=List.eq_nil_of_length_eq_zero (by rw [e3,hk']; rfl)
    rw [lT hk,lT hk'] at e1
    exact e1
   ·rw [hk,hk']
 ·rcases dV t.name u.name with h|h|h
  ·omega
  ·omega
  ·exact h.1
mutual
theorem DT:∀ t u:T,okO t->okO u->dU t u=0->t=u
 | .mk k n s ks,.mk k' n' s' ks',ht,hu,h=>by
  rw [dU] at h
  obtain ⟨h1,h2⟩:=l9 h
  obtain ⟨e1,e2,e3,_⟩:=LF ht hu h1
  rw [okO] at ht hu
  have:=JT ks ks' ht.2 hu.2 h2
  simp only [T.kind,T.n,T.name] at e1 e2 e3
  subst e1 e2 e3 this
  rfl
theorem JT:∀ t u:List T,uO t->uO u->dQ t u=0->t=u
 | [],[],_,_,_=>rfl
 | [],_::_,_,_,h=>by simp [dQ] at h
 | _::_,[],_,_,h=>by simp [dQ] at h
 | t::ts,u::us,ht,hu,h=>by
  rw [dQ] at h
  rw [uO] at ht hu
  obtain ⟨h1,h2⟩:=l9 h
  rw [DT t u ht.1 hu.1 h1,JT ts us ht.2 hu.2 h2]
end
theorem Dp (t:T):dU t t=0:=by
 have:=vu t t
 omega
theorem yD {t u v:T} (h:dU t u<0) (h':dU u v<0):dU t v<0:=by
 have h1:=uk t u
 have h2:=uk u v
 have:=(TC.term t u v).lt (by omega) (by omega)
 omega
/- facts in order, each once -/
def eJ:List T->T->List T
 | [],t=>[t]
 | x::xs,t=>if dU x t<0 then x::eJ xs t else if eqT x t=true then x::xs else t::x::xs
def Sorted:List T->Prop
 | []=>True
 | x::xs=>(∀ y∈xs,dU x y<0)/\Sorted xs
theorem oV {l:List T} {t y:T} (h:y∈eJ l t):y∈l ∨ y=t:=by
 induction l with
 | nil=>rw [eJ] at h; exact .inr (List.mem_singleton.1 h)
 | cons x xs ih=>
  rw [eJ] at h
  split at h
  ·rcases List.mem_cons.1 h with h|h
   ·exact .inl (by rw [h]; exact List.mem_cons_self ..)
   ·rcases ih h with h|h
    ·exact .inl (List.mem_cons_of_mem _ h)
    ·exact .inr h
  ·split at h
   ·exact .inl h
   ·rcases List.mem_cons.1 h with h|h
    ·exact .inr h
    ·exact .inl h
theorem FC (l:List T) (t:T):t∈eJ l t/\∀ y∈l,y∈eJ l t:=by
 induction l with
 | nil=>simp [eJ]
 | cons x xs ih=>
  rw [eJ]
  split
  ·exact ⟨List.mem_cons_of_mem _ ih.1,fun y hy=>by
    rcases List.mem_cons.1 hy with rfl|hy
    ·exact List.mem_cons_self ..
    ·exact List.mem_cons_of_mem _ (ih.2 y hy)⟩
  ·split
   ·rename_i h
    rw [pJ] at h
    subst h
    exact ⟨List.mem_cons_self ..,fun y hy=>hy⟩
   ·exact ⟨List.mem_cons_self ..,fun y hy=>List.mem_cons_of_mem _ hy⟩
theorem zN (l:List T) (t:T):(eJ l t).length<=l.length+1/\l.length<=(eJ l t).length:=by
 induction l with
 | nil=>simp [eJ]
 | cons x xs ih=>
  rw [eJ]
  split
  ·simp only [List.length_cons]; omega
  ·split
   ·simp
   ·simp
theorem o6 {l:List T} {t:T} (h:Sorted l) (hl:∀ x∈l,okO x) (ht:okO t):Sorted (eJ l t):=by
 induction l with
 | nil=>rw [eJ]; exact ⟨fun y hy=>(by cases hy),trivial⟩
 | cons x xs ih=>
  rw [Sorted] at h
  rw [eJ]
  split
  ·rename_i hc
   refine ⟨fun y hy=>?_,ih h.2 fun x hx=>hl x (List.mem_cons_of_mem _ hx)⟩
   rcases oV hy with hy|rfl
   ·exact h.1 y hy
   ·exact hc
  ·split
   ·exact h
   ·rename_i hc he
    have hx:dU t x<0:=by
     have h1:=uk x t
     have h2:=vu x t
     have h3:dU x t≠0:=fun e=>he ((pJ _ _).2 (DT x t (hl x (List.mem_cons_self ..)) ht e))
     omega
    refine ⟨fun y hy=>?_,h⟩
    rcases List.mem_cons.1 hy with rfl|hy
    ·exact hx
    ·exact yD hx (h.1 y hy)
theorem Sorted.nodup:∀ {l:List T},Sorted l->l.Nodup
 | [],_=>List.nodup_nil
 | x::xs,h=>by
  rw [List.nodup_cons]
  refine ⟨fun hx=>?_,Sorted.nodup h.2⟩
  have:=h.1 x hx
  rw [Dp] at this
  omega

end Go.Proofs.YtemmhhdnlbmicaaGreat

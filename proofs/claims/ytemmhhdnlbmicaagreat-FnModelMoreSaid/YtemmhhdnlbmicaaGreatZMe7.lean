/- spec.l1Draw, l1Some: a drawn term is readable and light. -/
import Derived.Test.YtemmhhdnlbmicaaGreatZMe6
import Derived.Test.YtemmhhdnlbmicaaGreatZMe2
import Derived.Lib.Overlaps
namespace Go.Proofs.YtemmhhdnlbmicaaGreat
open Go Go.RowKit
theorem sO {l:List Int} {n a b:Int} (hm:n∈l) (h:(l.all fun n=>decide (a<=n) && decide (n<=b))=true):a<=n/\n<=b:=by
 rw [List.all_eq_true] at h
 have:=h n hm
 rw [Bool.and_eq_true,decide_eq_true_eq,decide_eq_true_eq] at this
 exact this
theorem xL {l:List ByteArray} {s:ByteArray} {m:Nat} (hm:s∈l) (h:(l.all fun s=>decide (s.size<=m))=true):s.size<=m:=by
 rw [List.all_eq_true] at h
 have:=h s hm
 rwa [decide_eq_true_eq] at this
theorem Ho {Q B:Prop} {R:Nat->Prop} (h1:Q->B) (h2:∀ n,n<3->R n->B):∀ {n:Nat},od Q R n->n<4->B
 | 0,h,_=>h1 h
 | n+1,h,hn=>h2 n (by omega) h
theorem ln:∀ l m:List T,wL (l++m)=wL l+wL m
 | [],m=>by simp [wL]
 | t::l,m=>by simp only [List.cons_append,wL,ln l m]; omega
theorem LQ {n:Int} (h:0<=n/\n<26):okU 26 (.mk 1 n emptyB []):=by
 simp only [okU,kS]
 exact ⟨by decide,fun _=>⟨h.1,h.2,trivial,trivial⟩,trivial,by decide⟩
theorem Ly {n:Int}:okU 26 (.mk 2 n emptyB []):=by
 simp only [okU,kS]
 exact ⟨by decide,(fun h=>by cases h),trivial,by decide⟩
theorem CP {s:ByteArray} {ts:List T} (hs:s.size<=6) (h:kS 26 ts):okU 26 (.mk 3 0 s ts):=by
 simp only [okU]
 exact ⟨by decide,(fun h=>by cases h),h,hs⟩
theorem F0 {N:Nat}:∀ {l m:List T},kS N l->kS N m->kS N (l++m)
 | [],_,_,h=>h
 | _::_,_,h,h'=>by
  rw [kS] at h
  rw [List.cons_append,kS]
  exact ⟨h.1,F0 h.2 h'⟩
theorem s7 {S:aF} {k n:Int} (hk:inI k) (hn:inI n):RdT S [.int .i64 k,.int .i64 n,.string ⟨#[]⟩,.slice none 0 0] (.mk k n emptyB []):=
 RdT.iff.2 ⟨_,rfl,hk,hn,Nat.zero_le _,ja S⟩
section
variable {w0 w:World} {X:List Nat} {L:List Item} {S:aF} {K:Value->World->Prop} {P:Program}
attribute [local irreducible] Run CondV ah be
theorem Run.callL {f:FuncId} {fn:Func} {args:List Value} {I:List Item} {Post:Value->List Item->aF->Prop}
  (hf:P.funcs[f]?=some fn) (hn:(fn.name == "runtime.NumGoroutine" || fn.body.isNone)=false) (h:Inv w0 X L S w) (hc:Tri P f args I S Post) (hL:L=L.dropLast++I)
  (hk:∀ v I' S' w',Post v I' S'->Ext w0.heap.size X S S'->Inv w0 X (L.dropLast++I') S' w'->K v w'):Run P (aJ (.func (.func f) #[] #[]) args) w K:=
 Run.callE (A:=L.dropLast) hf hn (hL ▸ h) hc hk
theorem DI {T:TypeId} {cx cy:Bool} {d:Nat} (hd:d<=1000000) (hk:K (.int .i64 (d:Int)) w):Run P (ar .sub T cx cy (.int .i64 ((d+1:Nat):Int)) (.int .i64 1)) w K:=by
 refine pO (by omega) ?_
 rw [show ((d+1:Nat):Int) - 1=d by omega]
 exact hk
theorem DD {B:Prop} {b d:Nat} {c:Array Value} {E:TypeId} {kv xs xa:Value} {css:List (List Value)} {F:Nat->List Item} {Q:List Value->Nat->aF->Prop} {p1:Nat} {S1:aF} {cs:List Value} {t:T}
  (hQ:Q cs p1 S1) (hr:RdT S1 cs t) (hI:Inv w0 X (.blk b (.cells c E)::bh kv ab 4 css::F p1) S1 w):od B (xi w0 X b c d E kv css F Q (.agg cs.toArray) xs xa w) 1:=
 ⟨p1,S1,cs,hQ,⟨hr.length,hr.one⟩,rfl,hI⟩
end
section
variable {br:Nat} {sl:Value} {ys:List Nat}
attribute [local irreducible] Run CondV ah be
abbrev G4 (br:Nat) (sl:Value) (ys:List Nat) (d:Nat):Prop:=∀ (p:Nat) (S:aF),RdSl S 1 jK sl ys->p+3 * dW d<=1000000000->Tri Tryz.prog Hb [rdP br,.int .i64 (d:Int)] [rdI br sl p] S (My br sl p d)
theorem BQ {d:Nat} (hd4:d<=4) (ih:∀ d',d'+1=d->G4 br sl ys d'):G4 br sl ys d:=by
 intro p S hrd hp w hI
 have hW:=Lc d
 refine zK ?_
 unfold wc
 refine bH hI bL fun b4 w' hI=>?_
 have hI:Inv w [br] [.blk b4 (.cells #[.int .i64 0,.int .i64 0,.string ⟨#[]⟩,.slice none 0 0] ab),rdI br sl p] S w':=hI.last 0 rfl
 refine ⟨fun v w'=>∃ (c:Bool) (p1:Nat),v=.bool c/\p1<=p+1/\(c=false->2<=d)/\Inv w [br] [.blk b4 (.cells #[.int .i64 0,.int .i64 0,.string ⟨#[]⟩,.slice none 0 0] ab),rdI br sl p1] S w',?_,?_⟩
 ·refine bW ?_
  by_cases hd:(d:Int)<2
  ·rw [decide_eq_true hd]
   repeat (first|refine ad ?_|refine af (by decide) ?_|refine ac ?_|refine al ?_|refine aj ?_)
   exact ⟨true,p,rfl,by omega,(fun h=>by cases h),hI⟩
  ·rw [decide_eq_false hd]
   repeat (first|refine ad ?_|refine af (by decide) ?_|refine ac ?_|refine al ?_|refine aj ?_)
   refine Run.callL cQ cP hI (er (n:=4) hrd (by omega) (by omega)) rfl fun v' I' S' w'=>?_
   rintro ⟨rfl,rfl,k,hk,rfl⟩ _ hI
   refine bR ?_
   repeat (first|refine ad ?_|refine af (by decide) ?_|refine ac ?_|refine al ?_|refine aj ?_)
   exact ⟨_,p+1,rfl,by omega,fun _=>by omega,hI⟩
 intro t13 _ _ _ _ _ _ w'
 rintro ⟨c,p1,rfl,hp1,hcd,hI⟩
 refine ba (fun _=>?_) (fun hc=>?_)
 ·refine Run.callL cQ cP hI (er (n:=4) hrd (by omega) (by omega)) rfl fun v' I' S' w'=>?_
  rintro ⟨rfl,rfl,k,hk,rfl⟩ _ hI
  have hI:Inv w [br] [.blk b4 (.cells #[.int .i64 0,.int .i64 0,.string ⟨#[]⟩,.slice none 0 0] ab),rdI br sl (p1+1)] S' w':=hI
  refine bR ?_
  refine bl (fun _=>?_) (fun _=>?_)
  ·refine Run.callL cQ cP hI (er (n:=4) hrd (by omega) (by omega)) rfl fun v' I' S1 w'=>?_
   rintro ⟨rfl,rfl,k,hk,rfl⟩ _ hI
   refine Run.callPure zk zI hI (pV k S1) fun w' hI=>?_
   refine bg hI 0 rfl ao rfl rfl (by simp [Value.oneCell']) fun w' hI=>?_
   refine cG hI 0 ao rfl rfl ?_
   exact ⟨_,_,S1,rfl,hI.pick [false,true],Ext.refl _ _ _,p1+2,by omega,rfl,_,_,rfl,s7 (by simp [inI]) (by simp only [inI]; omega),by have e:emptyB.size=0:=rfl; simp only [wT,wL,List.length_nil,e]; omega,LQ (by omega)⟩
  refine bR ?_
  refine bl (fun _=>?_) (fun _=>?_)
  ·refine yN hI (by kernel_rfl) rfl (by omega) fun v S1 w' hE1 hv hI=>?_
   refine Run.callL gc gp hI (lw (p:=p1+1) (hrd.monoU hE1.1) hv (by decide) (by omega)) rfl fun v' I' S2 w'=>?_
   rintro ⟨rfl,rfl,n,hn,rfl⟩ _ hI
   have hn:=sO (a:=-1000) (b:=1000) hn (by decide)
   refine Run.callPure qG ql hI (kM n S2) fun w' hI=>?_
   refine bg hI 0 rfl ao rfl rfl (by simp [Value.oneCell']) fun w' hI=>?_
   refine cG hI 0 ao rfl rfl ?_
   exact ⟨_,_,S2,rfl,hI.pick [false,true],hE1,p1+2,by omega,rfl,_,_,rfl,s7 (by simp [inI]) (by simp only [inI]; omega),by have e:emptyB.size=0:=rfl; simp only [wT,wL,List.length_nil,e]; omega,Ly⟩
  ·refine tW hI (by kernel_rfl) rfl (by omega) fun v S1 w' hE1 hv hI=>?_
   refine Run.callL iu iw hI (sB (p:=p1+1) (hrd.monoU hE1.1) hv (by decide) (by omega)) rfl fun v' I' S2 w'=>?_
   rintro ⟨rfl,rfl,s,hs,rfl⟩ _ hI
   have hs:=xL (m:=3) hs (by decide)
   refine Run.call0E dP dR hI (eC s (by simp only [maxLen]; omega) (ja S2) (by simp)) fun v' I' S3 w'=>?_
   rintro ⟨rfl,cs,rfl,hcs⟩ hE3 hI
   refine bg hI 0 rfl ao (by simpa using hcs.length) rfl (by simpa using hcs.one) fun w' hI=>?_
   refine cG hI 0 ao rfl (by simpa using hcs.length) ?_
   exact ⟨_,_,S3,rfl,hI.pick [false,true],hE1.trans hE3,p1+2,by omega,rfl,_,_,rfl,hcs,by simp only [wT,wL,List.length_nil]; omega,CP (by omega) (by simp only [kS])⟩
 obtain ⟨d',rfl⟩:∃ d',d=d'+1:=⟨d - 1,by have:=hcd hc; omega⟩
 have ih:=ih d' rfl
 have hD:=Lc d'
 have hDs:=L3 d'
 have h3:dW d'<=486:=by
  have:3 ^ d'<=3 ^ 4:=Nat.pow_le_pow_right (by omega) (by omega)
  simp only [dW]; omega
 refine Run.callL cQ cP hI (er (n:=3) hrd (by omega) (by omega)) rfl fun v' I' S w'=>?_
 rintro ⟨rfl,rfl,k,hk,rfl⟩ _ hI
 refine bR ?_
 refine bl (fun _=>?_) (fun _=>?_)
 ·refine DI (by omega) ?_
  refine Run.callL j5 jW hI (ih (p1+1) S hrd (by omega)) rfl fun v' I' S1 w'=>?_
  rintro ⟨p2,hp2,rfl,cs1,t1,rfl,hc1,hw1,ho1⟩ hE1 hI
  refine DI (by omega) ?_
  refine Run.callL j5 jW hI (ih p2 S1 (hrd.monoU hE1.1) (by omega)) rfl fun v' I' S2 w'=>?_
  rintro ⟨p3,hp3,rfl,cs2,t2,rfl,hc2,hw2,ho2⟩ hE2 hI
  have hc1:=RdT.mono hE2.1 hc1
  obtain ⟨kv1,rfl,_,_,_,a1,q1,rfl,_⟩:=RdT.iff.1 hc1
  obtain ⟨kv2,rfl,_,_,_,a2,q2,rfl,_⟩:=RdT.iff.1 hc2
  refine qd (v:=fun b=>.slice (some ⟨b,0,none⟩) 2 2) (o:=.cells #[.int .i64 t1.kind,.int .i64 t1.n,.string t1.name,.slice a1 t1.kids.length q1,.int .i64 t2.kind,.int .i64 t2.n,.string t2.name,.slice a2 t2.kids.length q2] ab) hI (by kernel_rfl) fun b w' hI=>?_
  have hI:Inv w [br] ([.blk b4 (.cells #[.int .i64 0,.int .i64 0,.string ⟨#[]⟩,.slice none 0 0] ab),rdI br sl p3]++[_]) S2 w':=hI
  obtain ⟨S3,hI,hE3,hS⟩:=hI.pub1
  refine Run.call0E dP dR hI (eC ⟨#[46]⟩ (by decide) (H9 hS (hc1.mono hE3.1) (hc2.mono hE3.1)) (by simp)) fun v' I' S4 w'=>?_
  rintro ⟨rfl,cs,rfl,hcs⟩ hE4 hI
  refine bg hI 0 rfl ao (by simpa using hcs.length) rfl (by simpa using hcs.one) fun w' hI=>?_
  refine cG hI 0 ao rfl (by simpa using hcs.length) ?_
  refine ⟨_,_,S4,rfl,hI.pick [false,true],(hE1.trans hE2).trans (hE3.trans hE4),p3,by omega,rfl,_,_,rfl,hcs,?_,CP (by decide) (by simp only [kS]; exact ⟨ho1,ho2,trivial⟩)⟩
  have e:(ByteArray.mk #[46]).size=1:=rfl
  simp only [wT,wL,List.length_cons,List.length_nil,e]
  omega
 ·refine tW hI (by kernel_rfl) rfl (by omega) fun v S1 w' hE1 hv hI=>?_
  refine Run.callL iu iw hI (sB (p:=p1+1) (hrd.monoU hE1.1) hv (by decide) (by omega)) rfl fun v' I' S2 w'=>?_
  rintro ⟨rfl,rfl,s,hs,rfl⟩ _ hI
  have hs:=xL (m:=3) hs (by decide)
  refine Run.call0E dP dR hI (si s (ja S2) (by simp)) fun v' I' S3 w'=>?_
  rintro ⟨rfl,kv0,css0,rfl,rfl,hR0⟩ hE3 hI
  refine bH hI bL fun b5 w' hI=>?_
  obtain ⟨a0,n0,q0,rfl⟩:=hI.rowSlice 2 rfl
  refine bg hI 3 rfl ao rfl rfl (by simp [Value.oneCell']) fun w' hI=>?_
  obtain ⟨B4,hB4⟩:∃ B4,B4=Item.blk b4 (.cells #[.int .i64 0,.int .i64 0,.string ⟨#[]⟩,.slice none 0 0] ab):=⟨_,rfl⟩
  have hI:Inv w [br] [.blk b5 (.cells #[.int .i64 3,.int .i64 0,.string s,.slice a0 n0 q0] ab),bh (.slice a0 n0 q0) ab 4 css0,B4,rdI br sl (p1+2)] S3 w':=by
   rw [hB4]
   exact ((hI.last 2 rfl).last 0 rfl).last 0 rfl
  refine yN hI (by kernel_rfl) rfl (by omega) fun v S4 w' hE4 hv hI=>?_
  refine Run.callL gc gp hI (lw (p:=p1+2) (hrd.monoU ((hE1.trans hE3).trans hE4).1) hv (by decide) (by omega)) rfl fun v' I' S5 w'=>?_
  rintro ⟨rfl,rfl,n,hn,rfl⟩ _ hI
  have hn:=sO (a:=1) (b:=3) hn (by decide)
  have hE5:Ext w.heap.size [br] S S5:=(hE1.trans hE3).trans hE4
  refine ⟨fun t w'=>∃ (j p2:Nat) (S6:aF) (kv:Value) (css:List (List Value)) (ts:List T),kS 26 ts/\t=.int .i64 (j:Int)/\ts.length+j<=3/\Rows 4 (RdT S6) css ts/\wL ts+3 * ts.length<=ts.length * dW d'/\p2+2 * ts.length<=p1+3+ts.length * dW d'/\Ext w.heap.size [br] S S6/\
   Inv w [br] [.blk b5 (.cells #[.int .i64 3,.int .i64 0,.string s,kv] ab),bh kv ab 4 css,B4,rdI br sl p2] S6 w',fun t _=>(intOf t).toNat,
   ⟨n.toNat,p1+3,S5,_,css0,[],by simp only [kS],by rw [Int.toNat_of_nonneg (by omega)],by simp; omega,hR0.monoR fun _ _ h=>RdT.mono hE4.1 h,by simp [wL],by simp,hE5,hI⟩,?_⟩
  intro t6 _ _ t63 t62 t61 t60 t59 t58 t57 t56 t55 _ _ w'
  rintro ⟨j,p2,S6,kv,css,ts,hou,rfl,hj,hR,hwts,hp2,hE6,hI⟩
  have hcl:=hR.hc
  have hm:ts.length * dW d'<=3 * dW d':=Nat.mul_le_mul_right _ (by omega)
  refine eh ?_
  refine bl (fun hj0=>?_) (fun hj0=>?_)
  ·obtain ⟨j',rfl⟩:∃ j',j=j'+1:=⟨j - 1,by omega⟩
   refine ⟨fun D cH c4 c5 c8 cY db c9 cZ dx w_=>(D 0=true->dx=.pointer (some ⟨b5,3,none⟩))/\(D 1=true->cZ=kv)/\(D 2=true->c9=rdP br)/\(D 3=true->db=.int .i64 ((d'+1:Nat):Int))/\(D 4=true->cY=.int .i64 (d':Int))/\(D 5=true->True)/\(D 6=true->True)/\(D 7=true->True)/\(D 8=true->cH=.pointer (some ⟨b5,3,none⟩))/\(D 9=true->True)/\∃ n_:Nat,n_<=4/\D 5=decide (1<=n_)/\D 6=decide (2<=n_)/\D 7=decide (3<=n_)/\D 9=decide (4<=n_)/\(D 9=true->D 1=true)/\(od (Inv w [br] [.blk b5 (.cells #[.int .i64 3,.int .i64 0,.string s,kv] ab),bh kv ab 4 css,B4,rdI br sl p2] S6 w_) (xi w [br] b5 #[.int .i64 3,.int .i64 0,.string s,kv] 3 ab kv css (fun p=>[B4,rdI br sl p]) (fun cs p' S'=>∃ t,okU 26 t/\RdT S' cs t/\wT t+3<=dW d'/\p'+2<=p2+dW d'/\Ext w.heap.size [br] S6 S') c8 c5 c4 w_) n_),⟨ae,ae,ae,ae,ae,ae,ae,ae,ae,ae,⟨0,Nat.zero_le _,rfl,rfl,rfl,rfl,(ae),hI.draw⟩⟩,⟨?_,?_,?_,?_,?_,?_,?_,?_,?_,?_,trivial⟩,?_⟩
   ·intro D aY  cH c4 c5 c8 cY db c9 cZ dx w_
    rintro ⟨aA,aB,aC,az,av,aE,aD,aH,aK,aP,⟨n_,ln_,e1_,e2_,e3_,e4_,kp_,hS⟩⟩
    refine bi aT ?_
    exact ⟨fun _=>rfl,aB,aC,az,av,aE,aD,aH,aK,aP,⟨n_,ln_,e1_,e2_,e3_,e4_,kp_,hS⟩⟩
   ·intro D aY b0 cH c4 c5 c8 cY db c9 cZ dx w_
    rintro ⟨aA,aB,aC,az,av,aE,aD,aH,aK,aP,⟨n_,ln_,e1_,e2_,e3_,e4_,kp_,hS⟩⟩
    obtain rfl:=aA b0
    have ln2_:=LG e4_ kp_ aY
    refine dY aR ((Ho (fun h=>h.cellL (i:=0) rfl) (fun n hn h=>DA h hn) hS ln2_).trans rfl) ?_
    exact ⟨aA,fun _=>rfl,aC,az,av,aE,aD,aH,aK,aP,⟨n_,ln_,e1_,e2_,e3_,e4_,(fun _=>rfl),hS⟩⟩
   ·intro D aY  cH c4 c5 c8 cY db c9 cZ dx w_
    rintro ⟨aA,aB,aC,az,av,aE,aD,aH,aK,aP,⟨n_,ln_,e1_,e2_,e3_,e4_,kp_,hS⟩⟩
    exact ⟨aA,aB,fun _=>rfl,az,av,aE,aD,aH,aK,aP,⟨n_,ln_,e1_,e2_,e3_,e4_,kp_,hS⟩⟩
   ·intro D aY  cH c4 c5 c8 cY db c9 cZ dx w_
    rintro ⟨aA,aB,aC,az,av,aE,aD,aH,aK,aP,⟨n_,ln_,e1_,e2_,e3_,e4_,kp_,hS⟩⟩
    exact ⟨aA,aB,aC,fun _=>rfl,av,aE,aD,aH,aK,aP,⟨n_,ln_,e1_,e2_,e3_,e4_,kp_,hS⟩⟩
   ·intro D aY dB cH c4 c5 c8 cY db c9 cZ dx w_
    rintro ⟨aA,aB,aC,az,av,aE,aD,aH,aK,aP,⟨n_,ln_,e1_,e2_,e3_,e4_,kp_,hS⟩⟩
    obtain rfl:=az dB
    refine DI (by omega) ?_
    exact ⟨aA,aB,aC,az,fun _=>rfl,aE,aD,aH,aK,aP,⟨n_,ln_,e1_,e2_,e3_,e4_,kp_,hS⟩⟩
   ·intro D aY ec dM cH c4 c5 c8 cY db c9 cZ dx w_
    rintro ⟨aA,aB,aC,az,av,aE,aD,aH,aK,aP,⟨n_,ln_,e1_,e2_,e3_,e4_,kp_,hS⟩⟩
    obtain rfl:=aC ec
    obtain rfl:=av dM
    obtain rfl:n_=0:=LE e1_ aY
    refine Run.callL j5 jW (L:=[.blk b5 _,bh _ ab 4 css,B4,rdI br sl p2]) hS (ih p2 S6 (hrd.monoU hE6.1) (by omega)) rfl fun v' I' S7 w_=>?_
    rintro ⟨p3,hp3,rfl,cs,t,rfl,hcs,hwt,hot⟩ hE7 hI
    exact ⟨aA,aB,aC,az,av,fun _=>by first|assumption|trivial,aD,aH,aK,aP,⟨1,by decide,rfl,(by first|exact e2_|rfl),(by first|exact e3_|rfl),(by first|exact e4_|rfl),kp_,DD ⟨t,hot,hcs,hwt,hp3,hE7⟩ hcs hI⟩⟩
   ·intro D aY dT cH c4 c5 c8 cY db c9 cZ dx w_
    rintro ⟨aA,aB,aC,az,av,aE,aD,aH,aK,aP,⟨n_,ln_,e1_,e2_,e3_,e4_,kp_,hS⟩⟩
    have LM:=aE dT
    obtain rfl:n_=1:=u1 e1_ dT e2_ aY
    refine ap1 hS fun u w_ hS=>?_
    exact ⟨aA,aB,aC,az,av,aE,fun _=>by first|assumption|trivial,aH,aK,aP,⟨2,by decide,(by first|exact e1_|rfl),rfl,(by first|exact e3_|rfl),(by first|exact e4_|rfl),kp_,hS⟩⟩
   ·intro D aY dE f0 JH cH c4 c5 c8 cY db c9 cZ dx w_
    rintro ⟨aA,aB,aC,az,av,aE,aD,aH,aK,aP,⟨n_,ln_,e1_,e2_,e3_,e4_,kp_,hS⟩⟩
    obtain rfl:=aB dE
    have L4:=aD f0
    obtain rfl:n_=2:=u1 e2_ f0 e3_ aY
    refine ap2 hS (by omega) fun u w_ hS=>?_
    exact ⟨aA,aB,aC,az,av,aE,aD,fun _=>by first|assumption|trivial,aK,aP,⟨3,by decide,(by first|exact e1_|rfl),(by first|exact e2_|rfl),rfl,(by first|exact e4_|rfl),kp_,hS⟩⟩
   ·intro D aY b0 il wv DJ yE HN Jw Kw cH c4 c5 c8 cY db c9 cZ dx w_
    rintro ⟨aA,aB,aC,az,av,aE,aD,aH,aK,aP,⟨n_,ln_,e1_,e2_,e3_,e4_,kp_,hS⟩⟩
    refine bi aT ?_
    exact ⟨aA,aB,aC,az,av,aE,aD,aH,fun _=>rfl,aP,⟨n_,ln_,e1_,e2_,e3_,e4_,kp_,hS⟩⟩
   ·intro D aY hY i7 m7 DW mj Ee yD zv D9 JS lu cH c4 c5 c8 cY db c9 cZ dx w_
    rintro ⟨aA,aB,aC,az,av,aE,aD,aH,aK,aP,⟨n_,ln_,e1_,e2_,e3_,e4_,kp_,hS⟩⟩
    obtain rfl:=aK hY
    have Kh:=aH i7
    obtain rfl:n_=3:=u1 e3_ i7 e4_ aY
    refine ap3 hS (by simp) fun w_ hS=>?_
    exact ⟨aA,aB,aC,az,av,aE,aD,aH,aK,fun _=>trivial,⟨4,by decide,(by first|exact e1_|rfl),(by first|exact e2_|rfl),(by first|exact e3_|rfl),rfl,(fun _=>mj),hS⟩⟩
   intro D iK gI fK fL fH fC fB fE fM fJ cH c4 c5 c8 cY db c9 cZ dx w_
   rintro ⟨aA,aB,aC,az,av,aE,aD,aH,aK,aP,⟨n_,ln_,e1_,e2_,e3_,e4_,kp_,hS⟩⟩
   obtain rfl:n_=4:=LO ln_ e4_ iK
   clear e1_ e2_ e3_ e4_
   obtain ⟨p3,S7,cs,⟨t,hot,hcs,hwt,hp3,hE7⟩,hl,hI⟩:=hS
   refine DI (by omega) ?_
   refine ⟨⟨j',p3,S7,_,_,ts++[t],F0 hou (by simp only [kS]; exact ⟨hot,trivial⟩),rfl,by rw [List.length_append]; simp only [List.length_cons,List.length_nil]; omega,(hR.monoR fun _ _ h=>RdT.mono hE7.1 h).snoc hcs hl.1,?_,?_,hE6.trans hE7,hI⟩,by simp only [intOf,Int.toNat_natCast]; omega⟩
   ·rw [ln,List.length_append,List.length_cons,List.length_nil,Nat.add_mul]
    simp only [wL]
    omega
   ·rw [List.length_append,List.length_cons,List.length_nil,Nat.add_mul]
    omega
  ·have hI:Inv w [br] ([.blk b5 (.cells #[.int .i64 3,.int .i64 0,.string s,kv] ab),B4,rdI br sl p2]++[bh kv ab 4 css]) S6 w':=hI.last 1 rfl
   refine bb hI 0 ao rfl rfl ?_
   obtain ⟨S7,hE7,hrdr,hI⟩:=Inv.lendExt hI
   have hrs:=RowRd.rows (hR.monoR fun _ _ h=>RdT.mono hE7.1 h) hrdr
   obtain ⟨a,q,rfl,_⟩:=id hrs
   subst hB4
   refine bg hI 1 rfl ao rfl rfl (by simp [Value.oneCell']) fun w' hI=>?_
   refine cG hI 1 ao rfl rfl ?_
   refine ⟨_,_,S7,rfl,hI.pick [false,false,true],hE6.trans hE7,p2,?_,rfl,[.int .i64 3,.int .i64 0,.string s,_],.mk 3 0 s ts,rfl,RdT.iff.2 ⟨_,rfl,by simp [inI,T.kind],by simp [inI,T.n],by simp only [T.name,maxLen]; omega,hrs⟩,?_,CP (by omega) hou⟩
   ·have:ts.length=0 ∨ ts.length=1 ∨ ts.length=2 ∨ ts.length=3:=by omega
    rcases this with h|h|h|h <;> rw [h] at hp2 hwts <;> omega
   ·simp only [wT]
    have:ts.length=0 ∨ ts.length=1 ∨ ts.length=2 ∨ ts.length=3:=by omega
    rcases this with h|h|h|h <;> rw [h] at hp2 hwts ⊢ <;> omega
theorem r4:∀ d:Nat,d<=4->G4 br sl ys d
 | 0,h=>BQ h fun d' e=>by omega
 | d+1,h=>BQ h fun d' e=>by
  obtain rfl:d'=d:=by omega
  exact r4 _ (by omega)
abbrev K7 (br:Nat) (sl:Value) (p k m:Nat):Value->List Item->aF->Prop:=fun v I' S'=>∃ p',p'<=p+k/\I'=[rdI br sl p']/\∃ cs t,v=.agg cs.toArray/\RdT S' cs t/\wT t<=m
theorem se {p:Nat} {S:aF} (hrd:RdSl S 1 jK sl ys) (hp:p<=100000000):Tri Tryz.prog GB [rdP br] [rdI br sl p] S (K7 br sl p 500 500):=by
 intro w hI
 refine yu ?_
 unfold vG
 refine bH hI bL fun b2 w' hI=>?_
 have hI:Inv w [br] [.blk b2 (.cells #[.int .i64 0,.int .i64 0,.string ⟨#[]⟩,.slice none 0 0] ab),rdI br sl p] S w':=hI.last 0 rfl
 refine yN hI (by kernel_rfl) rfl (by omega) fun v S1 w' hE1 hv hI=>?_
 refine Run.callL gc gp hI (lw (p:=p) (hrd.monoU hE1.1) hv (by decide) (by omega)) rfl fun v' I' S2 w'=>?_
 rintro ⟨rfl,rfl,n,hn,rfl⟩ _ hI
 have hn:=sO (a:=1) (b:=4) hn (by decide)
 obtain ⟨m,rfl⟩:∃ m:Nat,n=m:=⟨n.toNat,by rw [Int.toNat_of_nonneg (by omega)]⟩
 have h3:dW m<=486:=by
  have:3 ^ m<=3 ^ 4:=Nat.pow_le_pow_right (by omega) (by omega)
  simp only [dW]; omega
 refine Run.callL j5 jW hI (r4 m (by omega) (p+1) S2 (hrd.monoU hE1.1) (by omega)) rfl fun v' I' S3 w'=>?_
 rintro ⟨p1,hp1,rfl,cs,t,rfl,hcs,hw,_⟩ hE3 hI
 refine bg hI 0 rfl ao (by simpa using hcs.length) rfl (by simpa using hcs.one) fun w' hI=>?_
 refine cG hI 0 ao rfl (by simpa using hcs.length) ?_
 exact ⟨_,_,S3,rfl,hI.pick [false,true],hE1.trans hE3,p1,by omega,rfl,cs,t,rfl,hcs,by omega⟩
end
end Go.Proofs.YtemmhhdnlbmicaaGreat

/- spec.l1Mutate. -/
namespace Go.Proofs.YtemmhhdnlbmicaaGreat
open Go Go.RowKit
def wm (w:World) (b o:Nat):Nat:=match w.cell? ⟨b,o,none⟩ with
 | some (.slice _ n _)=>n
 | _=>0
theorem LY {Q Q2 B:Prop} {R:Nat->Prop} (h1:Q->B) (h3:Q2->B) (h2:∀ n,n<3->R n->B):∀ {n:Nat},od Q (od Q2 R) n->n<5->B
 | 0,h,_=>h1 h
 | 1,h,_=>h3 h
 | n+2,h,hn=>h2 n (by omega) h
theorem IM {Q:Prop} {R:Nat->Prop} {n:Nat} (h:R n):od Q R (n+1):=h
theorem Ck {Q:Prop} {R:Nat->Prop} {n:Nat} (h:od Q R (n+1)):R n:=h
section
variable {w0 w:World} {X:List Nat} {L A:List Item} {S:aF} {K:Value->World->Prop} {P:Program}
attribute [local irreducible] Run CondV ah be
theorem qV (h:Inv w0 X L S w) {i b o:Nat} {c:Array Value} {E:TypeId} {a:Option Addr} {n m:Nat} (hi:L[i]?=some (.blk b (.cells c E))) (hc:c[o]?=some (.slice a n m)):wm w b o=n:=by
 rw [wm,h.cellL hi,hc]
theorem rH {b:Nat} {k n:Int} {s:ByteArray} {kv:Value} {css:List (List Value)} {ks:List T} {o:Obj}
  (hI:Inv w0 X (.blk b o::bh kv ab 4 css::A) S w) (hR:Rows 4 (RdT S) css ks) (hk:inI k) (hn:inI n) (hs:s.size<=maxLen) :
  ∃ S',Ext w0.heap.size X S S'/\Inv w0 X (.blk b o::A) S' w/\RdT S' [.int .i64 k,.int .i64 n,.string s,kv] (.mk k n s ks)/\RdSl S' 4 (RdT S') kv ks:=by
 have hI:Inv w0 X ((.blk b o::A)++[bh kv ab 4 css]) S w:=hI.last 1 rfl
 obtain ⟨S',hE,hrd,hI⟩:=Inv.lendExt hI
 have hrs:=RowRd.rows (hR.monoR fun _ _ h=>RdT.mono hE.1 h) hrd
 exact ⟨S',hE,hI,RdT.iff.2 ⟨_,rfl,hk,hn,hs,hrs⟩,hrs⟩
end
section
variable {br:Nat} {sl:Value} {ys:List Nat}
attribute [local irreducible] Run CondV ah be
theorem nE {p:Nat} {S:aF} {cs:List Value} {t:T} (hrd:RdSl S 1 jK sl ys) (h:RdT S cs t) (hw:wT t<=100000) (hp:p<=100000000) :
  Tri Tryz.prog D2 [rdP br,.agg cs.toArray] [rdI br sl p] S (K7 br sl p 2 (wT t+100)):=by
 intro w hI
 have h0:=h
 obtain ⟨kv0,rfl,hk,hn,hs,hks⟩:=RdT.iff.1 h
 refine uz ?_
 unfold pS
 refine bQ hI fun b3 w' hI=>?_
 refine bH hI bL fun b4 w' hI=>?_
 refine bb hI 1 ao rfl rfl ?_
 refine Run.call0E eZ fc hI (Jj t S _ h0 (by omega)) fun v' I' S1 w'=>?_
 rintro ⟨kv,css,rfl,rfl,hR⟩ hE1 hI
 have hE1:Ext w.heap.size [br] S S1:=hE1
 obtain ⟨a0,n0,q0,rfl⟩:=hI.rowSlice 3 rfl
 refine bH hI bL fun b5 w' hI=>?_
 refine bg hI 4 rfl ao rfl rfl (by simp [Value.oneCell']) fun w' hI=>?_
 obtain ⟨B4,hB4⟩:∃ B4,B4=Item.blk b4 (.cells #[.int .i64 0,.int .i64 0,.string ⟨#[]⟩,.slice none 0 0] ab):=⟨_,rfl⟩
 obtain ⟨k,hk'⟩:∃ k,k=t.kind:=⟨_,rfl⟩
 obtain ⟨n,hn'⟩:∃ n,n=t.n:=⟨_,rfl⟩
 obtain ⟨s,hs'⟩:∃ s,s=t.name:=⟨_,rfl⟩
 have hwt:wT t=s.size+t.kids.length+wL t.kids:=by rw [hs']; cases t; rw [wT]; rfl
 rw [<- hk',<- hn',<- hs'] at hI
 rw [<- hk'] at hk
 rw [<- hn'] at hn
 rw [<- hs'] at hs
 have hI:Inv w [br] [.blk b5 (.cells #[.int .i64 k,.int .i64 n,.string s,.slice a0 n0 q0] ab),bh (.slice a0 n0 q0) ab 4 css,B4,rdI br sl p] S1 w':=by
  rw [hB4]
  exact (((hI.pick [true,false,true,true,true]).last 2 rfl).last 1 rfl).last 0 rfl
 refine ⟨fun w'=>∃ (p1:Nat) (S2:aF) (cs1:List Value) (t1:T),p1<=p+2/\Ext w.heap.size [br] S S2/\RdT S2 cs1 t1/\wT t1<=wT t+100/\Inv w [br] [.blk b5 (.cells cs1.toArray ab),B4,rdI br sl p1] S2 w',?_,?_⟩
 ·have hfin:∀ {k n:Int} {s1:ByteArray} {p1:Nat} {w':World} {S1:aF} {css:List (List Value)} {kv:Value} {ks:List T},Ext w.heap.size [br] S S1->p1<=p+2->inI k->inI n->s1.size<=s.size+7->Rows 4 (RdT S1) css ks->ks.length<=t.kids.length+5->wL ks<=wL t.kids->
    Inv w [br] [.blk b5 (.cells #[.int .i64 k,.int .i64 n,.string s1,kv] ab),bh kv ab 4 css,B4,rdI br sl p1] S1 w'->
    ∃ (p1:Nat) (S2:aF) (cs1:List Value) (t1:T),p1<=p+2/\Ext w.heap.size [br] S S2/\RdT S2 cs1 t1/\wT t1<=wT t+100/\Inv w [br] [.blk b5 (.cells cs1.toArray ab),B4,rdI br sl p1] S2 w':=by
   intro k n s1 p1 w' S1 css kv ks hE hp1 hk hn hs1 hR hkl hkw hI
   obtain ⟨S2,hE2,hI,hr,_⟩:=rH (s:=s1) hI hR hk hn (by simp only [maxLen]; omega)
   exact ⟨p1,S2,_,_,hp1,hE.trans hE2,hr,by rw [wT,hwt]; omega,hI⟩
  refine Run.callL cQ cP hI (er (n:=50) (hrd.monoU hE1.1) (by omega) (by omega)) rfl fun v' I' S1 w'=>?_
  rintro ⟨rfl,rfl,kk,hkk,rfl⟩ _ hI
  refine bR ?_
  refine bl (fun _=>?_) (fun _=>?_)
  ·refine yN hI (by kernel_rfl) rfl (by omega) fun v S3 w' hE3 hv hI=>?_
   refine Run.callL gc gp hI (lw (p:=p+1) (hrd.monoU (hE1.trans hE3).1) hv (by decide) (by omega)) rfl fun v' I' S3 w'=>?_
   rintro ⟨rfl,rfl,m,hm,rfl⟩ _ hI
   have hm:=sO (a:=-1000) (b:=1000) hm (by decide)
   refine ji hI 0 rfl bD bo rfl rfl rfl fun w' hI=>?_
   exact hfin (hE1.trans hE3) (Nat.le_refl _) (by simp only [inI]; omega) hn (by omega) (hR.monoR fun _ _ h=>RdT.mono hE3.1 h) (by omega) (Nat.le_refl _) hI
  refine bR ?_
  refine bl (fun _=>?_) (fun _=>?_)
  ·refine yN hI (by kernel_rfl) rfl (by omega) fun v S3 w' hE3 hv hI=>?_
   refine Run.callL gc gp hI (lw (p:=p+1) (hrd.monoU (hE1.trans hE3).1) hv (by decide) (by omega)) rfl fun v' I' S3 w'=>?_
   rintro ⟨rfl,rfl,m,hm,rfl⟩ _ hI
   have hm:=sO (a:=-1000) (b:=1000) hm (by decide)
   refine ji hI 0 rfl bF bo rfl rfl rfl fun w' hI=>?_
   exact hfin (hE1.trans hE3) (Nat.le_refl _) hk (by simp only [inI]; omega) (by omega) (hR.monoR fun _ _ h=>RdT.mono hE3.1 h) (by omega) (Nat.le_refl _) hI
  refine bR ?_
  refine bl (fun _=>?_) (fun _=>?_)
  ·refine tW hI (by kernel_rfl) rfl (by omega) fun v S3 w' hE3 hv hI=>?_
   refine Run.callL iu iw hI (sB (p:=p+1) (hrd.monoU (hE1.trans hE3).1) hv (by decide) (by omega)) rfl fun v' I' S3 w'=>?_
   rintro ⟨rfl,rfl,m,hm,rfl⟩ _ hI
   have hm:=xL (m:=7) hm (by decide)
   refine ji hI 0 rfl bp bm rfl rfl rfl fun w' hI=>?_
   exact hfin (hE1.trans hE3) (Nat.le_refl _) hk hn (by omega) (hR.monoR fun _ _ h=>RdT.mono hE3.1 h) (by omega) (Nat.le_refl _) hI
  refine bR ?_
  refine bl (fun _=>?_) (fun _=>?_)
  ·refine ⟨fun w'=>∃ (S2:aF) (kv:Value) (css:List (List Value)) (ks:List T),Ext w.heap.size [br] S S2/\Rows 4 (RdT S2) css ks/\ks.length<=t.kids.length+5/\wL ks<=wL t.kids/\
     Inv w [br] [.blk b5 (.cells #[.int .i64 k,.int .i64 n,.string s,kv] ab),bh kv ab 4 css,B4,rdI br sl (p+1)] S2 w',fun w'=>5 - wm w' b5 3,⟨S1,_,css,t.kids,hE1,hR,by omega,Nat.le_refl _,hI⟩,?_⟩
   intro t40 t39 t38 t37 t36 t35 _ _ _ _ w'
   rintro ⟨S2,kv,css,ks,hE2,hR,hkl,hkw,hI⟩
   obtain ⟨a1,n1,q1,rfl,hn1⟩:∃ a m c,kv=.slice a m c/\m=ks.length:=by
    obtain ⟨S',_,_,_,hr⟩:=rH hI hR hk hn hs
    obtain ⟨a,q,rfl,_⟩:=hr
    exact ⟨a,_,q,rfl,rfl⟩
   subst hn1
   have hl1:=qV hI (i:=0) (o:=3) rfl rfl
   have hcl:=hR.hc
   refine aI hI 0 rfl aT aR rfl ?_
   refine ge ay ?_
   refine fX ?_
   refine bl (fun hle=>?_) (fun hle=>?_)
   ·have hI:=hI
    refine ⟨fun D gz eG d5 eF dQ dO w_=>(D 0=true->dO=.pointer (some ⟨b5,3,none⟩))/\(D 1=true->dQ=.slice a1 ks.length q1)/\(D 2=true->True)/\(D 3=true->True)/\(D 4=true->True)/\(D 5=true->gz=.pointer (some ⟨b5,3,none⟩))/\(D 6=true->True)/\∃ n_:Nat,n_<=4/\D 2=decide (1<=n_)/\D 3=decide (2<=n_)/\D 4=decide (3<=n_)/\D 6=decide (4<=n_)/\(D 6=true->D 1=true)/\(od (Inv w [br] [.blk b5 (.cells #[.int .i64 k,.int .i64 n,.string s,.slice a1 ks.length q1] ab),bh (.slice a1 ks.length q1) ab 4 css,B4,rdI br sl (p+1)] S2 w_) (xi w [br] b5 #[.int .i64 k,.int .i64 n,.string s,.slice a1 ks.length q1] 3 ab (.slice a1 ks.length q1) css (fun p=>[B4,rdI br sl (p+1)]) (fun cs p' S'=>p'=p/\S'=S2/\RdT S2 cs (.mk 2 1 emptyB [])) eF d5 eG w_) n_),⟨ae,ae,ae,ae,ae,ae,ae,⟨0,Nat.zero_le _,rfl,rfl,rfl,rfl,(ae),hI.draw⟩⟩,⟨?_,?_,?_,?_,?_,?_,?_,trivial⟩,?_⟩
    ·intro D aY  gz eG d5 eF dQ dO w_
     rintro ⟨aA,aB,aC,az,av,aE,aD,⟨n_,ln_,e1_,e2_,e3_,e4_,kp_,hS⟩⟩
     refine bi aT ?_
     exact ⟨fun _=>rfl,aB,aC,az,av,aE,aD,⟨n_,ln_,e1_,e2_,e3_,e4_,kp_,hS⟩⟩
    ·intro D aY b0 gz eG d5 eF dQ dO w_
     rintro ⟨aA,aB,aC,az,av,aE,aD,⟨n_,ln_,e1_,e2_,e3_,e4_,kp_,hS⟩⟩
     obtain rfl:=aA b0
     have ln2_:=LG e4_ kp_ aY
     refine dY aR ((Ho (fun h=>h.cellL (i:=0) rfl) (fun n hn h=>DA h hn) hS ln2_).trans rfl) ?_
     exact ⟨aA,fun _=>rfl,aC,az,av,aE,aD,⟨n_,ln_,e1_,e2_,e3_,e4_,(fun _=>rfl),hS⟩⟩
    ·intro D aY  gz eG d5 eF dQ dO w_
     rintro ⟨aA,aB,aC,az,av,aE,aD,⟨n_,ln_,e1_,e2_,e3_,e4_,kp_,hS⟩⟩
     obtain rfl:n_=0:=LE e1_ aY
     refine Run.callPure qG ql (L:=[.blk b5 _,bh _ ab 4 css,B4,rdI br sl (p+1)]) hS (kM 1 S2) fun w_ hI=>?_
     exact ⟨aA,aB,fun _=>by first|assumption|trivial,az,av,aE,aD,⟨1,by decide,rfl,(by first|exact e2_|rfl),(by first|exact e3_|rfl),(by first|exact e4_|rfl),kp_,DD ⟨rfl,rfl,s7 (by simp [inI]) (by simp [inI])⟩ (s7 (by simp [inI]) (by simp [inI])) hI⟩⟩
    ·intro D aY ec gz eG d5 eF dQ dO w_
     rintro ⟨aA,aB,aC,az,av,aE,aD,⟨n_,ln_,e1_,e2_,e3_,e4_,kp_,hS⟩⟩
     have NE:=aC ec
     obtain rfl:n_=1:=u1 e1_ ec e2_ aY
     refine ap1 hS fun u w_ hS=>?_
     exact ⟨aA,aB,aC,fun _=>by first|assumption|trivial,av,aE,aD,⟨2,by decide,(by first|exact e1_|rfl),rfl,(by first|exact e3_|rfl),(by first|exact e4_|rfl),kp_,hS⟩⟩
    ·intro D aY dE mi wv gz eG d5 eF dQ dO w_
     rintro ⟨aA,aB,aC,az,av,aE,aD,⟨n_,ln_,e1_,e2_,e3_,e4_,kp_,hS⟩⟩
     obtain rfl:=aB dE
     have N0:=az mi
     obtain rfl:n_=2:=u1 e2_ mi e3_ aY
     refine ap2 hS (by omega) fun u w_ hS=>?_
     exact ⟨aA,aB,aC,az,fun _=>by first|assumption|trivial,aE,aD,⟨3,by decide,(by first|exact e1_|rfl),(by first|exact e2_|rfl),rfl,(by first|exact e4_|rfl),kp_,hS⟩⟩
    ·intro D aY b0 il wv DJ yE gz eG d5 eF dQ dO w_
     rintro ⟨aA,aB,aC,az,av,aE,aD,⟨n_,ln_,e1_,e2_,e3_,e4_,kp_,hS⟩⟩
     refine bi aT ?_
     exact ⟨aA,aB,aC,az,av,fun _=>rfl,aD,⟨n_,ln_,e1_,e2_,e3_,e4_,kp_,hS⟩⟩
    ·intro D aY dT dM iP DW mj Ee yD zv gz eG d5 eF dQ dO w_
     rintro ⟨aA,aB,aC,az,av,aE,aD,⟨n_,ln_,e1_,e2_,e3_,e4_,kp_,hS⟩⟩
     obtain rfl:=aE dT
     have MQ:=av dM
     obtain rfl:n_=3:=u1 e3_ dM e4_ aY
     refine ap3 hS (by simp) fun w_ hS=>?_
     exact ⟨aA,aB,aC,az,av,aE,fun _=>trivial,⟨4,by decide,(by first|exact e1_|rfl),(by first|exact e2_|rfl),(by first|exact e3_|rfl),rfl,(fun _=>mj),hS⟩⟩
    intro D fL fH fC fB fE fM fJ gz eG d5 eF dQ dO w_
    rintro ⟨aA,aB,aC,az,av,aE,aD,⟨n_,ln_,e1_,e2_,e3_,e4_,kp_,hS⟩⟩
    obtain rfl:n_=4:=LO ln_ e4_ fL
    clear e1_ e2_ e3_ e4_
    obtain ⟨p3,S7,cs,⟨rfl,rfl,hcs⟩,hl,hI⟩:=hS
    have hR2:=hR.snoc hcs hl.1
    refine ⟨⟨S7,_,_,_,hE2,hR2,by rw [List.length_append]; simp only [List.length_cons,List.length_nil]; omega,by rw [ln]; have e:emptyB.size=0:=rfl; simp only [wL,wT,List.length_nil,e]; omega,hI⟩,?_⟩
    obtain ⟨S',_,_,_,hr⟩:=rH hI hR2 hk hn hs
    obtain ⟨a,q,e,_⟩:=hr
    have hl2:=qV hI (i:=0) (o:=3) (a:=a) (n:=(ks++[T.mk 2 1 emptyB []]).length) (m:=q) rfl (by rw [<- e]; rfl)
    show 5 - wm w_ b5 3<5 - wm w' b5 3
    rw [hl1,hl2,List.length_append,List.length_cons,List.length_nil]
    omega
   ·exact hfin hE2 (by omega) hk hn (by omega) hR hkl hkw hI
  refine bR ?_
  refine bl (fun _=>?_) (fun _=>?_)
  ·obtain ⟨S2,hE2,hI,hr,_⟩:=rH hI hR hk hn hs
   have hI:Inv w [br] [.blk b5 (.cells #[.int .i64 k,.int .i64 n,.string s,.slice a0 n0 q0] ab),B4,rdI br sl (p+1)] S2 w':=hI
   have ht:T.mk k n s t.kids=t:=by rw [hk',hn',hs']; cases t; rfl
   rw [ht] at hr
   refine ⟨fun t6 w'=>∃ (j:Nat) (S3:aF) (cs1:List Value) (t1:T),t6=.int .i64 (j:Int)/\j<=30/\Ext w.heap.size [br] S S3/\RdT S3 cs1 t1/\wT t1<=wT t+2 * j/\Inv w [br] [.blk b5 (.cells cs1.toArray ab),B4,rdI br sl (p+1)] S3 w',fun t6 _=>30 - (intOf t6).toNat,
    ⟨0,S2,_,t,rfl,by omega,hE1.trans hE2,hr,by omega,hI⟩,?_⟩
   intro t6 _ _ _ _ _ _ _ w'
   rintro ⟨j,S3,cs1,t1,rfl,hj,hE3,hr,hw1,hI⟩
   refine bW ?_
   refine bl (fun hj'=>?_) (fun hj'=>?_)
   ·refine bb hI 0 ao rfl (by simpa using hr.length) ?_
    refine eN hI bK (by simp [Value.cells,hr.length]) (by omega) (by omega) fun b8 w' hI=>?_
    obtain ⟨S4,hI,hE4,hS⟩:=hI.pub1
    refine Run.call0E dP dR hI (eC ⟨#[115]⟩ (by decide) (MA hS (hr.mono hE4.1)) (by simp)) fun v' I' S5 w'=>?_
    rintro ⟨rfl,cs2,rfl,hcs2⟩ hE5 hI
    have hI:Inv w [br] [.blk b5 (.cells cs1.toArray ab),B4,rdI br sl (p+1)] S5 w':=by simpa using hI
    refine bg hI 0 rfl ao (by simpa using hcs2.length) (by simpa using hr.length) (by simpa using hcs2.one) fun w' hI=>?_
    refine bN (by omega) ?_
    have e:(ByteArray.mk #[115]).size=1:=rfl
    exact ⟨⟨j+1,S5,cs2,_,rfl,by omega,hE3.trans (hE4.trans hE5),hcs2,by simp only [wT,wL,List.length_cons,List.length_nil,e]; omega,hI⟩,by simp only [intOf,Int.toNat_natCast]; omega⟩
   ·exact ⟨p+1,S3,cs1,t1,by omega,hE3,hr,by omega,hI⟩
  ·exact hfin hE1 (by omega) hk hn (by omega) hR (by omega) (Nat.le_refl _) hI
 intro _ _ _ _ _ _ _ _ _ _ _ _ _ _ _ _ _ _ _ _ _ _ _ _ _ _ _ _ _ _ _ _ _ _ _ _ _ _ _ _ _ _ w'
 rintro ⟨p1,S2,cs1,t1,hp1,hE2,hr,hw1,hI⟩
 subst hB4
 refine bb hI 0 ao rfl (by simpa using hr.length) ?_
 refine bg hI 1 rfl ao (by simpa using hr.length) rfl (by simpa using hr.one) fun w' hI=>?_
 refine cG hI 1 ao rfl (by simpa using hr.length) ?_
 exact ⟨_,_,S2,rfl,hI.pick [false,false,true],hE2,p1,hp1,rfl,cs1,t1,rfl,hr,hw1⟩
end
end Go.Proofs.YtemmhhdnlbmicaaGreat

/- spec.l4Mutate, l4MutateAll. -/
namespace Go.Proofs.YtemmhhdnlbmicaaGreat
open Go Go.RowKit
section
variable {w0 w:World} {X:List Nat} {L A:List Item} {S:aF} {K:Value->World->Prop} {P:Program}
theorem zR {b:Nat} {hd:List Value} {h:T} {kv:Value} {css:List (List Value)} {ks:List T} {o:Obj}
  (hI:Inv w0 X (.blk b o::bh kv ab 4 css::A) S w) (hR:Rows 4 (RdT S) css ks) (hh:RdT S hd h) :
  ∃ S',Ext w0.heap.size X S S'/\Inv w0 X (.blk b o::A) S' w/\RdC S' (hd++[kv]) ⟨h,ks⟩/\RdSl S' 4 (RdT S') kv ks:=by
 have hI:Inv w0 X ((.blk b o::A)++[bh kv ab 4 css]) S w:=hI.last 1 rfl
 obtain ⟨S',hE,hrd,hI⟩:=Inv.lendExt hI
 have hrs:=RowRd.rows (hR.monoR fun _ _ h=>RdT.mono hE.1 h) hrd
 exact ⟨S',hE,hI,⟨hd,kv,rfl,hh.mono hE.1,hrs⟩,hrs⟩
end
abbrev ME (br:Nat) (sl:Value) (p k m:Nat):Value->List Item->aF->Prop:=fun v I' S'=>∃ p',p'<=p+k/\I'=[rdI br sl p']/\∃ cs c,v=.agg cs.toArray/\RdC S' cs c/\wC c<=m
section
variable {br:Nat} {sl:Value} {ys:List Nat}
attribute [local irreducible] Run CondV ah be
theorem x3 {p:Nat} {S:aF} {cs:List Value} {c:C} (hrd:RdSl S 1 jK sl ys) (h:RdC S cs c) (hw:wC c<=100000) (hp:p<=90000000) :
  Tri Tryz.prog Ef [rdP br,.agg cs.toArray] [rdI br sl p] S (ME br sl p 600 (wC c+700)):=by
 intro w hI
 have hl5:=h.length
 refine tD ?_
 unfold pB
 refine bQ hI fun b3 w' hI=>?_
 refine bH hI fh fun b4 w' hI=>?_
 refine bb hI 1 bM rfl (by simpa [Value.cells] using hl5) ?_
 refine Run.call0E vA vR hI (Jl h (by omega)) fun v' I' S1 w'=>?_
 rintro ⟨hd,kv,css,rfl,hhd,rfl,hR⟩ hE1 hI
 have hE1:Ext w.heap.size [br] S S1:=hE1
 obtain ⟨a0,n0,q0,rfl⟩:=hI.rowSlice 3 rfl
 have hhd0:=hhd
 obtain ⟨k4,rfl,hk,hn,hs,_⟩:=RdT.iff.1 hhd
 obtain ⟨ak,nk,ck,hk4⟩:∃ a n c,k4=.slice a n c:=by
  obtain ⟨_,e,_,_,_,a,q,rfl,_⟩:=RdT.iff.1 hhd0
  simp only [List.cons.injEq,and_true,true_and] at e
  exact ⟨_,_,_,e⟩
 subst hk4
 refine bH hI fh fun b5 w' hI=>?_
 refine bg hI 4 rfl bM rfl rfl (by simp [Value.oneCell']) fun w' hI=>?_
 obtain ⟨B4,hB4⟩:∃ B4,B4=Item.blk b4 (.cells #[.int .i64 0,.int .i64 0,.string ⟨#[]⟩,.slice none 0 0,.slice none 0 0] aQ):=⟨_,rfl⟩
 have hI:Inv w [br] [.blk b5 (.cells #[.int .i64 c.head.kind,.int .i64 c.head.n,.string c.head.name,.slice ak nk ck,.slice a0 n0 q0] aQ),bh (.slice a0 n0 q0) ab 4 css,B4,rdI br sl p] S1 w':=by
  rw [hB4]
  exact (((hI.pick [true,false,true,true,true]).last 2 rfl).last 1 rfl).last 0 rfl
 have hwc:wC c=wT c.head+c.body.length+wL c.body:=rfl
 refine ⟨fun w'=>∃ (p1:Nat) (S2:aF) (cs1:List Value) (c1:C),p1<=p+600/\Ext w.heap.size [br] S S2/\RdC S2 cs1 c1/\wC c1<=wC c+700/\Inv w [br] [.blk b5 (.cells cs1.toArray aQ),B4,rdI br sl p1] S2 w',?_,?_⟩
 ·have hfin:∀ {hd:List Value} {h:T} {p1:Nat} {w':World} {S1:aF} {css:List (List Value)} {kv:Value} {ks:List T},Ext w.heap.size [br] S S1->p1<=p+600->RdT S1 hd h->Rows 4 (RdT S1) css ks->wT h+ks.length+wL ks<=wC c+700->
    Inv w [br] [.blk b5 (.cells (hd++[kv]).toArray aQ),bh kv ab 4 css,B4,rdI br sl p1] S1 w'->
    ∃ (p1:Nat) (S2:aF) (cs1:List Value) (c1:C),p1<=p+600/\Ext w.heap.size [br] S S2/\RdC S2 cs1 c1/\wC c1<=wC c+700/\Inv w [br] [.blk b5 (.cells cs1.toArray aQ),B4,rdI br sl p1] S2 w':=by
   intro hd h p1 w' S1 css kv ks hE hp1 hh hR hwn hI
   obtain ⟨S2,hE2,hI,hr,_⟩:=zR hI hR hh
   exact ⟨p1,S2,_,_,hp1,hE.trans hE2,hr,hwn,hI⟩
  refine Run.callL cQ cP hI (er (n:=40) (hrd.monoU hE1.1) (by omega) (by omega)) rfl fun v' I' S1 w'=>?_
  rintro ⟨rfl,rfl,kk,hkk,rfl⟩ _ hI
  refine bR ?_
  refine bl (fun _=>?_) (fun _=>?_)
  ·refine Run.callL vz vm hI (se (p:=p+1) (hrd.monoU hE1.1) (by omega)) rfl fun v' I' S2 w'=>?_
   rintro ⟨p2,hp2,rfl,cs2,t2,rfl,hr2,hw2⟩ hE2 hI
   refine Run.callL pE pz hI (nE (p:=p2) (hrd.monoU (hE1.trans hE2).1) hr2 (by omega) (by omega)) rfl fun v' I' S3 w'=>?_
   rintro ⟨p3,hp3,rfl,cs3,t3,rfl,hr3,hw3⟩ hE3 hI
   have hr3':=hr3
   obtain ⟨k3,rfl,_,_,_,a3,q3,rfl,_⟩:=RdT.iff.1 hr3
   refine bi df ?_
   refine Ey hI 0 rfl ao rfl rfl (by simp [Value.cells,Value.oneCell']) fun w' hI=>?_
   exact hfin ((hE1.trans hE2).trans hE3) (by omega) hr3' (hR.monoR fun _ _ h=>RdT.mono (hE2.trans hE3).1 h) (by omega) hI
  refine bR ?_
  refine bl (fun _=>?_) (fun _=>?_)
  ·have hcl:=hR.hc
   have hI:=hI
   refine ⟨fun D cX bZ bS bV cf cd cC cc bY w_=>(D 0=true->bY=.pointer (some ⟨b5,4,none⟩))/\(D 1=true->cc=.slice a0 n0 q0)/\(D 2=true->cC=rdP br)/\(D 3=true->cd=rdP br)/\(D 4=true->True)/\(D 5=true->True)/\(D 6=true->True)/\(D 7=true->True)/\(D 8=true->cX=.pointer (some ⟨b5,4,none⟩))/\(D 9=true->True)/\∃ n_:Nat,n_<=5/\D 4=decide (1<=n_)/\D 5=decide (2<=n_)/\D 6=decide (3<=n_)/\D 7=decide (4<=n_)/\D 9=decide (5<=n_)/\(D 9=true->D 1=true)/\(od (Inv w [br] [.blk b5 (.cells #[.int .i64 c.head.kind,.int .i64 c.head.n,.string c.head.name,.slice ak nk ck,.slice a0 n0 q0] aQ),bh (.slice a0 n0 q0) ab 4 css,B4,rdI br sl (p+1)] S1 w_) (od (∃ p1 S2 cs t,cf=.agg cs.toArray/\RdT S2 cs t/\wT t<=500/\p1<=p+501/\Ext w.heap.size [br] S1 S2/\Inv w [br] [.blk b5 (.cells #[.int .i64 c.head.kind,.int .i64 c.head.n,.string c.head.name,.slice ak nk ck,.slice a0 n0 q0] aQ),bh (.slice a0 n0 q0) ab 4 css,B4,rdI br sl p1] S2 w_) (xi w [br] b5 #[.int .i64 c.head.kind,.int .i64 c.head.n,.string c.head.name,.slice ak nk ck,.slice a0 n0 q0] 4 aQ (.slice a0 n0 q0) css (fun p=>[B4,rdI br sl p]) (fun cs p' S'=>∃ t,RdT S' cs t/\wT t<=600/\p'<=p+503/\Ext w.heap.size [br] S1 S') bV bS bZ w_)) n_),⟨ae,ae,ae,ae,ae,ae,ae,ae,ae,ae,⟨0,Nat.zero_le _,rfl,rfl,rfl,rfl,rfl,(ae),hI.draw⟩⟩,⟨?_,?_,?_,?_,?_,?_,?_,?_,?_,?_,trivial⟩,?_⟩
   ·intro D aY  cX bZ bS bV cf cd cC cc bY w_
    rintro ⟨aA,aB,aC,az,av,aE,aD,aH,aK,aP,⟨n_,ln_,e1_,e2_,e3_,e4_,e5_,kp_,hS⟩⟩
    refine bi bq ?_
    exact ⟨fun _=>rfl,aB,aC,az,av,aE,aD,aH,aK,aP,⟨n_,ln_,e1_,e2_,e3_,e4_,e5_,kp_,hS⟩⟩
   ·intro D aY b0 cX bZ bS bV cf cd cC cc bY w_
    rintro ⟨aA,aB,aC,az,av,aE,aD,aH,aK,aP,⟨n_,ln_,e1_,e2_,e3_,e4_,e5_,kp_,hS⟩⟩
    obtain rfl:=aA b0
    have ln2_:=LG e5_ kp_ aY
    refine dY aR ((LY (fun h=>h.cellL (i:=0) rfl) (fun ⟨_,_,_,_,_,_,_,_,_,h⟩=>h.cellL (i:=0) rfl) (fun n hn h=>DA h hn) hS ln2_).trans rfl) ?_
    exact ⟨aA,fun _=>rfl,aC,az,av,aE,aD,aH,aK,aP,⟨n_,ln_,e1_,e2_,e3_,e4_,e5_,(fun _=>rfl),hS⟩⟩
   ·intro D aY  cX bZ bS bV cf cd cC cc bY w_
    rintro ⟨aA,aB,aC,az,av,aE,aD,aH,aK,aP,⟨n_,ln_,e1_,e2_,e3_,e4_,e5_,kp_,hS⟩⟩
    exact ⟨aA,aB,fun _=>rfl,az,av,aE,aD,aH,aK,aP,⟨n_,ln_,e1_,e2_,e3_,e4_,e5_,kp_,hS⟩⟩
   ·intro D aY  cX bZ bS bV cf cd cC cc bY w_
    rintro ⟨aA,aB,aC,az,av,aE,aD,aH,aK,aP,⟨n_,ln_,e1_,e2_,e3_,e4_,e5_,kp_,hS⟩⟩
    exact ⟨aA,aB,aC,fun _=>rfl,av,aE,aD,aH,aK,aP,⟨n_,ln_,e1_,e2_,e3_,e4_,e5_,kp_,hS⟩⟩
   ·intro D aY dB cX bZ bS bV cf cd cC cc bY w_
    rintro ⟨aA,aB,aC,az,av,aE,aD,aH,aK,aP,⟨n_,ln_,e1_,e2_,e3_,e4_,e5_,kp_,hS⟩⟩
    obtain rfl:=az dB
    obtain rfl:n_=0:=LE e1_ aY
    refine Run.callL vz vm (L:=[.blk b5 _,bh _ ab 4 css,B4,rdI br sl (p+1)]) hS (se (p:=p+1) (hrd.monoU hE1.1) (by omega)) rfl fun v' I' S2 w_=>?_
    rintro ⟨p2,hp2,rfl,cs2,t2,rfl,hr2,hw2⟩ hE2 hI
    exact ⟨aA,aB,aC,az,fun _=>by first|assumption|trivial,aE,aD,aH,aK,aP,⟨1,by decide,rfl,(by first|exact e2_|rfl),(by first|exact e3_|rfl),(by first|exact e4_|rfl),(by first|exact e5_|rfl),kp_,⟨p2,S2,cs2,t2,rfl,hr2,hw2,by omega,hE2,hI⟩⟩⟩
   ·intro D aY ec dM iP cX bZ bS bV cf cd cC cc bY w_
    rintro ⟨aA,aB,aC,az,av,aE,aD,aH,aK,aP,⟨n_,ln_,e1_,e2_,e3_,e4_,e5_,kp_,hS⟩⟩
    obtain rfl:=aC ec
    have MQ:=av dM
    obtain rfl:n_=1:=u1 e1_ dM e2_ aY
    obtain ⟨p2,S2,cs2,t2,rfl,hr2,hw2,hp2,hE2,hI⟩:=Ck hS
    refine Run.callL pE pz (L:=[.blk b5 _,bh _ ab 4 css,B4,rdI br sl p2]) hI (nE (p:=p2) (hrd.monoU (hE1.trans hE2).1) hr2 (by omega) (by omega)) rfl fun v' I' S3 w_=>?_
    rintro ⟨p3,hp3,rfl,cs3,t3,rfl,hr3,hw3⟩ hE3 hI
    exact ⟨aA,aB,aC,az,av,fun _=>by first|assumption|trivial,aD,aH,aK,aP,⟨2,by decide,(by first|exact e1_|rfl),rfl,(by first|exact e3_|rfl),(by first|exact e4_|rfl),(by first|exact e5_|rfl),kp_,IM (DD ⟨t3,hr3,by omega,by omega,hE2.trans hE3⟩ hr3 hI)⟩⟩
   ·intro D aY dT cX bZ bS bV cf cd cC cc bY w_
    rintro ⟨aA,aB,aC,az,av,aE,aD,aH,aK,aP,⟨n_,ln_,e1_,e2_,e3_,e4_,e5_,kp_,hS⟩⟩
    have LM:=aE dT
    obtain rfl:n_=2:=u1 e2_ dT e3_ aY
    refine ap1 (Ck hS) fun u w_ hS=>?_
    exact ⟨aA,aB,aC,az,av,aE,fun _=>by first|assumption|trivial,aH,aK,aP,⟨3,by decide,(by first|exact e1_|rfl),(by first|exact e2_|rfl),rfl,(by first|exact e4_|rfl),(by first|exact e5_|rfl),kp_,IM hS⟩⟩
   ·intro D aY dE f0 JH cX bZ bS bV cf cd cC cc bY w_
    rintro ⟨aA,aB,aC,az,av,aE,aD,aH,aK,aP,⟨n_,ln_,e1_,e2_,e3_,e4_,e5_,kp_,hS⟩⟩
    obtain rfl:=aB dE
    have L4:=aD f0
    obtain rfl:n_=3:=u1 e3_ f0 e4_ aY
    refine ap2 (Ck hS) (by omega) fun u w_ hS=>?_
    exact ⟨aA,aB,aC,az,av,aE,aD,fun _=>by first|assumption|trivial,aK,aP,⟨4,by decide,(by first|exact e1_|rfl),(by first|exact e2_|rfl),(by first|exact e3_|rfl),rfl,(by first|exact e5_|rfl),kp_,IM hS⟩⟩
   ·intro D aY b0 il wv DJ yE HN Jw Kw cX bZ bS bV cf cd cC cc bY w_
    rintro ⟨aA,aB,aC,az,av,aE,aD,aH,aK,aP,⟨n_,ln_,e1_,e2_,e3_,e4_,e5_,kp_,hS⟩⟩
    refine bi bq ?_
    exact ⟨aA,aB,aC,az,av,aE,aD,aH,fun _=>rfl,aP,⟨n_,ln_,e1_,e2_,e3_,e4_,e5_,kp_,hS⟩⟩
   ·intro D aY hY i7 m7 DW mj Ee yD zv D9 JS lu cX bZ bS bV cf cd cC cc bY w_
    rintro ⟨aA,aB,aC,az,av,aE,aD,aH,aK,aP,⟨n_,ln_,e1_,e2_,e3_,e4_,e5_,kp_,hS⟩⟩
    obtain rfl:=aK hY
    have Kh:=aH i7
    obtain rfl:n_=4:=u1 e4_ i7 e5_ aY
    refine ap3 (Ck hS) (by simp) fun w_ hS=>?_
    exact ⟨aA,aB,aC,az,av,aE,aD,aH,aK,fun _=>trivial,⟨5,by decide,(by first|exact e1_|rfl),(by first|exact e2_|rfl),(by first|exact e3_|rfl),(by first|exact e4_|rfl),rfl,(fun _=>mj),IM hS⟩⟩
   intro D iK gI fK fL fH fC fB fE fM fJ cX bZ bS bV cf cd cC cc bY w_
   rintro ⟨aA,aB,aC,az,av,aE,aD,aH,aK,aP,⟨n_,ln_,e1_,e2_,e3_,e4_,e5_,kp_,hS⟩⟩
   obtain rfl:n_=5:=LO ln_ e5_ iK
   clear e1_ e2_ e3_ e4_ e5_
   obtain ⟨p3,S7,cs,⟨t,hcs,hwt,hp3,hE7⟩,hl,hI⟩:=Ck (Ck hS)
   exact hfin (hE1.trans hE7) (by omega) (hhd0.mono hE7.1) ((hR.monoR fun _ _ h=>RdT.mono hE7.1 h).snoc hcs hl.1) (by rw [ln,List.length_append,List.length_cons,List.length_nil]; simp only [wL]; omega) hI
  refine bR ?_
  refine bl (fun _=>?_) (fun _=>?_)
  ·refine ⟨fun w'=>∃ (S2:aF) (kv:Value) (css:List (List Value)) (ks:List T),Ext w.heap.size [br] S S2/\Rows 4 (RdT S2) css ks/\ks.length<=c.body.length+7/\wL ks+4 * (7 - (ks.length - c.body.length))<=wL c.body+28/\c.body.length<=ks.length/\
     RdT S2 [.int .i64 c.head.kind,.int .i64 c.head.n,.string c.head.name,.slice ak nk ck] c.head/\
     Inv w [br] [.blk b5 (.cells #[.int .i64 c.head.kind,.int .i64 c.head.n,.string c.head.name,.slice ak nk ck,kv] aQ),bh kv ab 4 css,B4,rdI br sl (p+1)] S2 w',fun w'=>7 - wm w' b5 4,⟨S1,_,css,c.body,hE1,hR,by omega,by omega,by omega,hhd0,hI⟩,?_⟩
   intro t39 t38 t37 t36 t35 t34 _ _ _ _ w'
   rintro ⟨S2,kv,css,ks,hE2,hR,hkl,hkw,hkb,hhd,hI⟩
   obtain ⟨a1,n1,q1,rfl,hn1⟩:∃ a m c,kv=.slice a m c/\m=ks.length:=by
    obtain ⟨S',_,_,_,hr⟩:=zR hI hR hhd
    obtain ⟨a,q,rfl,_⟩:=hr
    exact ⟨a,_,q,rfl,rfl⟩
   subst hn1
   have hl1:=qV hI (i:=0) (o:=4) rfl rfl
   have hcl:=hR.hc
   refine aI hI 0 rfl bq aR rfl ?_
   refine ge ay ?_
   refine fX ?_
   refine bl (fun hle=>?_) (fun hle=>?_)
   ·have hI:=hI
    refine ⟨fun D eG d5 eF dQ dO g6 w_=>(D 0=true->g6=.pointer (some ⟨b5,4,none⟩))/\(D 1=true->dO=.slice a1 ks.length q1)/\(D 2=true->True)/\(D 3=true->True)/\(D 4=true->True)/\(D 5=true->eG=.pointer (some ⟨b5,4,none⟩))/\(D 6=true->True)/\∃ n_:Nat,n_<=4/\D 2=decide (1<=n_)/\D 3=decide (2<=n_)/\D 4=decide (3<=n_)/\D 6=decide (4<=n_)/\(D 6=true->D 1=true)/\(od (Inv w [br] [.blk b5 (.cells #[.int .i64 c.head.kind,.int .i64 c.head.n,.string c.head.name,.slice ak nk ck,.slice a1 ks.length q1] aQ),bh (.slice a1 ks.length q1) ab 4 css,B4,rdI br sl (p+1)] S2 w_) (xi w [br] b5 #[.int .i64 c.head.kind,.int .i64 c.head.n,.string c.head.name,.slice ak nk ck,.slice a1 ks.length q1] 4 aQ (.slice a1 ks.length q1) css (fun p=>[B4,rdI br sl (p+1)]) (fun cs p' S'=>p'=p/\Ext w.heap.size [br] S2 S'/\RdT S' cs (.mk 3 0 ⟨#[116,114,117,101]⟩ [])) dQ eF d5 w_) n_),⟨ae,ae,ae,ae,ae,ae,ae,⟨0,Nat.zero_le _,rfl,rfl,rfl,rfl,(ae),hI.draw⟩⟩,⟨?_,?_,?_,?_,?_,?_,?_,trivial⟩,?_⟩
    ·intro D aY  eG d5 eF dQ dO g6 w_
     rintro ⟨aA,aB,aC,az,av,aE,aD,⟨n_,ln_,e1_,e2_,e3_,e4_,kp_,hS⟩⟩
     refine bi bq ?_
     exact ⟨fun _=>rfl,aB,aC,az,av,aE,aD,⟨n_,ln_,e1_,e2_,e3_,e4_,kp_,hS⟩⟩
    ·intro D aY b0 eG d5 eF dQ dO g6 w_
     rintro ⟨aA,aB,aC,az,av,aE,aD,⟨n_,ln_,e1_,e2_,e3_,e4_,kp_,hS⟩⟩
     obtain rfl:=aA b0
     have ln2_:=LG e4_ kp_ aY
     refine dY aR ((Ho (fun h=>h.cellL (i:=0) rfl) (fun n hn h=>DA h hn) hS ln2_).trans rfl) ?_
     exact ⟨aA,fun _=>rfl,aC,az,av,aE,aD,⟨n_,ln_,e1_,e2_,e3_,e4_,(fun _=>rfl),hS⟩⟩
    ·intro D aY  eG d5 eF dQ dO g6 w_
     rintro ⟨aA,aB,aC,az,av,aE,aD,⟨n_,ln_,e1_,e2_,e3_,e4_,kp_,hS⟩⟩
     obtain rfl:n_=0:=LE e1_ aY
     refine Run.call0E dP dR (L:=[.blk b5 _,bh _ ab 4 css,B4,rdI br sl (p+1)]) hS (eC ⟨#[116,114,117,101]⟩ (by decide) (ja S2) (by simp)) fun v' I' S3 w_=>?_
     rintro ⟨rfl,cs3,rfl,hcs3⟩ hE3 hI
     exact ⟨aA,aB,fun _=>by first|assumption|trivial,az,av,aE,aD,⟨1,by decide,rfl,(by first|exact e2_|rfl),(by first|exact e3_|rfl),(by first|exact e4_|rfl),kp_,DD ⟨rfl,hE3,hcs3⟩ hcs3 hI⟩⟩
    ·intro D aY ec eG d5 eF dQ dO g6 w_
     rintro ⟨aA,aB,aC,az,av,aE,aD,⟨n_,ln_,e1_,e2_,e3_,e4_,kp_,hS⟩⟩
     have NE:=aC ec
     obtain rfl:n_=1:=u1 e1_ ec e2_ aY
     refine ap1 hS fun u w_ hS=>?_
     exact ⟨aA,aB,aC,fun _=>by first|assumption|trivial,av,aE,aD,⟨2,by decide,(by first|exact e1_|rfl),rfl,(by first|exact e3_|rfl),(by first|exact e4_|rfl),kp_,hS⟩⟩
    ·intro D aY dE mi wv eG d5 eF dQ dO g6 w_
     rintro ⟨aA,aB,aC,az,av,aE,aD,⟨n_,ln_,e1_,e2_,e3_,e4_,kp_,hS⟩⟩
     obtain rfl:=aB dE
     have N0:=az mi
     obtain rfl:n_=2:=u1 e2_ mi e3_ aY
     refine ap2 hS (by omega) fun u w_ hS=>?_
     exact ⟨aA,aB,aC,az,fun _=>by first|assumption|trivial,aE,aD,⟨3,by decide,(by first|exact e1_|rfl),(by first|exact e2_|rfl),rfl,(by first|exact e4_|rfl),kp_,hS⟩⟩
    ·intro D aY b0 il wv DJ yE eG d5 eF dQ dO g6 w_
     rintro ⟨aA,aB,aC,az,av,aE,aD,⟨n_,ln_,e1_,e2_,e3_,e4_,kp_,hS⟩⟩
     refine bi bq ?_
     exact ⟨aA,aB,aC,az,av,fun _=>rfl,aD,⟨n_,ln_,e1_,e2_,e3_,e4_,kp_,hS⟩⟩
    ·intro D aY dT dM iP DW mj Ee yD zv eG d5 eF dQ dO g6 w_
     rintro ⟨aA,aB,aC,az,av,aE,aD,⟨n_,ln_,e1_,e2_,e3_,e4_,kp_,hS⟩⟩
     obtain rfl:=aE dT
     have MQ:=av dM
     obtain rfl:n_=3:=u1 e3_ dM e4_ aY
     refine ap3 hS (by simp) fun w_ hS=>?_
     exact ⟨aA,aB,aC,az,av,aE,fun _=>trivial,⟨4,by decide,(by first|exact e1_|rfl),(by first|exact e2_|rfl),(by first|exact e3_|rfl),rfl,(fun _=>mj),hS⟩⟩
    intro D fL fH fC fB fE fM fJ eG d5 eF dQ dO g6 w_
    rintro ⟨aA,aB,aC,az,av,aE,aD,⟨n_,ln_,e1_,e2_,e3_,e4_,kp_,hS⟩⟩
    obtain rfl:n_=4:=LO ln_ e4_ fL
    clear e1_ e2_ e3_ e4_
    obtain ⟨p3,S7,cs,⟨rfl,hE7,hcs⟩,hl,hI⟩:=hS
    have hR2:=(hR.monoR fun _ _ h=>RdT.mono hE7.1 h).snoc hcs hl.1
    have e4:(ByteArray.mk #[116,114,117,101]).size=4:=rfl
    refine ⟨⟨S7,_,_,_,hE2.trans hE7,hR2,by rw [List.length_append]; simp only [List.length_cons,List.length_nil]; omega,by rw [ln,List.length_append,List.length_cons,List.length_nil]; simp only [wL,wT,List.length_nil,e4]; omega,by rw [List.length_append]; omega,hhd.mono hE7.1,hI⟩,?_⟩
    obtain ⟨S',_,_,_,hr⟩:=zR hI hR2 (hhd.mono hE7.1)
    obtain ⟨a,q,e,_⟩:=hr
    have hl2:=qV hI (i:=0) (o:=4) (a:=a) (n:=(ks++[T.mk 3 0 ⟨#[116,114,117,101]⟩ []]).length) (m:=q) rfl (by rw [<- e]; rfl)
    show 7 - wm w_ b5 4<7 - wm w' b5 4
    rw [hl1,hl2,List.length_append,List.length_cons,List.length_nil]
    omega
   ·exact hfin hE2 (by omega) hhd hR (by omega) hI
  refine bR ?_
  refine bl (fun _=>?_) (fun _=>?_)
  ·refine tW hI (by kernel_rfl) rfl (by omega) fun v S3 w' hE3 hv hI=>?_
   refine Run.callL iu iw hI (sB (p:=p+1) (hrd.monoU (hE1.trans hE3).1) hv (by decide) (by omega)) rfl fun v' I' S3 w'=>?_
   rintro ⟨rfl,rfl,m,hm,rfl⟩ _ hI
   have hm:=xL (m:=7) hm (by decide)
   refine bi df ?_
   refine bi bp ?_
   refine fg hI 0 (n:=1) rfl (by decide +kernel) rfl (by simp) (by simp [Value.cells,Value.oneCell']) fun w' hI=>?_
   have hr0:=hhd0.mono hE3.1
   obtain ⟨k3,e3,_,_,_,hk3⟩:=RdT.iff.1 hr0
   have hr1:RdT S3 [.int .i64 c.head.kind,.int .i64 c.head.n,.string m,.slice ak nk ck] (.mk c.head.kind c.head.n m c.head.kids):=by
    simp only [List.cons.injEq,and_true,true_and] at e3
    exact RdT.iff.2 ⟨_,rfl,hk,hn,by simp only [T.name,maxLen]; omega,e3 ▸ hk3⟩
   refine hfin (hE1.trans hE3) (by omega) hr1 (hR.monoR fun _ _ h=>RdT.mono hE3.1 h) ?_ hI
   have:wT c.head=c.head.name.size+c.head.kids.length+wL c.head.kids:=by cases c.head; rw [wT]; rfl
   rw [wT]
   omega
  ·exact hfin hE1 (by omega) hhd0 hR (by omega) hI
 intro _ _ _ _ _ _ _ _ _ _ _ _ _ _ _ _ _ _ _ _ _ _ _ _ _ _ _ _ _ _ _ _ _ _ _ _ _ _ _ w'
 rintro ⟨p1,S2,cs1,c1,hp1,hE2,hr,hw1,hI⟩
 subst hB4
 refine bb hI 0 bM rfl (by simpa using hr.length) ?_
 refine bg hI 1 rfl bM (by simpa using hr.length) rfl (by simpa using hr.one) fun w' hI=>?_
 refine cG hI 1 bM rfl (by simpa using hr.length) ?_
 exact ⟨_,_,S2,rfl,hI.pick [false,false,true],hE2,p1,hp1,rfl,cs1,c1,rfl,hr,hw1⟩
end
end Go.Proofs.YtemmhhdnlbmicaaGreat

/- spec.l4MutateAll, l4Texts, l4Program, l4Clause, l14Two. -/
namespace Go.Proofs.YtemmhhdnlbmicaaGreat
open Go Go.RowKit
def Light (n m:Nat) (q:List C):Prop:=q.length<=n/\∀ c∈q,wC c<=m
theorem Light.le {n m:Nat} {q:List C} (h:Light n m q):q.length+wP q<=n+n * m:=by
 have:∀ q:List C,(∀ c∈q,wC c<=m)->wP q<=q.length * m:=by
  intro q
  induction q with
  | nil=>intro _; simp [wP]
  | cons c q ih=>
   intro h
   have h1:=h c (List.mem_cons_self ..)
   have h2:=ih fun d hd=>h d (List.mem_cons_of_mem _ hd)
   simp only [wP,List.length_cons,Nat.succ_mul]
   omega
 have h1:=this q h.2
 have h2:q.length * m<=n * m:=Nat.mul_le_mul_right _ h.1
 have:=h.1
 omega
theorem Light.append {n n' m:Nat} {q q':List C} (h:Light n m q) (h':Light n' m q'):Light (n+n') m (q++q'):=
 ⟨by rw [List.length_append]; exact Nat.add_le_add h.1 h'.1,fun c hc=>(List.mem_append.1 hc).elim (h.2 c) (h'.2 c)⟩
abbrev Mx (br:Nat) (sl:Value) (p k n m:Nat):Value->List Item->aF->Prop:=fun v I' S'=>∃ p',p'<=p+k/\I'=[rdI br sl p']/\∃ q,RdSl S' 5 (RdC S') v q/\Light n m q
/- a program that is still the caller's own row -/
abbrev Mj (br:Nat) (sl:Value) (p k n m:Nat):Value->List Item->aF->Prop:=fun v I' S'=>∃ p' css q,p'<=p+k/\I'=[bh v aQ 5 css,rdI br sl p']/\Rows 5 (RdC S') css q/\Light n m q/\0<q.length/\∀ c∈q,dC c=true
section
variable {w0 w:World} {X:List Nat} {L A:List Item} {S:aF}
theorem lL {v:Value} {css:List (List Value)} {q:List C} (hI:Inv w0 X (bh v aQ 5 css::A) S w) (hR:Rows 5 (RdC S) css q) :
  ∃ S',Ext w0.heap.size X S S'/\Inv w0 X A S' w/\RdSl S' 5 (RdC S') v q:=by
 have hI:Inv w0 X (A++[bh v aQ 5 css]) S w:=hI.last 0 rfl
 obtain ⟨S',hE,hrd,hI⟩:=Inv.lendExt hI
 exact ⟨S',hE,hI,RowRd.rows (hR.monoR fun _ _ h=>RdC.mono hE.1 h) hrd⟩
end
section
variable {br:Nat} {sl:Value} {ys:List Nat}
attribute [local irreducible] Run CondV ah be
theorem M3:wC ⟨.mk 3 0 ⟨#[122]⟩ [],[]⟩=1:=by
 have e:(ByteArray.mk #[122]).size=1:=rfl
 simp only [wC,wT,wL,List.length_nil,e]
theorem rn {p m:Nat} {S:aF} {v:Value} {q:List C} (hrd:RdSl S 1 jK sl ys) (h:RdSl S 5 (RdC S) v q) (hq:Light 30 m q) (h0:0<q.length) (hm:m<=2000) (hp:p<=50000000) :
  Tri Tryz.prog wU [rdP br,v] [rdI br sl p] S (Mx br sl p 20000 30 (m+700)):=by
 intro w hI
 refine pp ?_
 unfold lP
 have hql:=hq.1
 refine eO hI fb fun v0 w' hI=>?_
 have hI:Inv w [br] [bh v0 aQ 5 [],rdI br sl p] S w':=hI.last 0 rfl
 refine ⟨fun a b w'=>∃ (j p1:Nat) (S1:aF) (css:List (List Value)) (q1:List C),a=.int .i64 (j:Int)/\j<=q.length/\q1.length=j/\p1<=p+600 * j/\Ext w.heap.size [br] S S1/\Rows 5 (RdC S1) css q1/\(∀ c∈q1,wC c<=m+700)/\Inv w [br] [bh b aQ 5 css,rdI br sl p1] S1 w',
  fun a _ _=>q.length - (intOf a).toNat,⟨0,p,S,[],[],rfl,Nat.zero_le _,rfl,by omega,Ext.refl _ _ _,Rows.nil _ _,by simp,hI⟩,?_⟩
 intro t6 _ _ t5 _ _ _ _ _ _ _ _ _ _ _ _ _ w'
 rintro ⟨j,p1,S1,css,q1,rfl,hj,hq1,hp1,hE1,hR,hqw,hI⟩
 have hcl:=hR.hc
 have h':=h.monoC hE1.1
 refine a9 h' dt ?_
 refine bW ?_
 refine bl (fun hjl=>?_) (fun hjl=>?_)
 ·have hj':j<q.length:=by omega
  refine dZ hI h' dt bM hj' (fun _ _=>RdC.length) fun cs hcs=>?_
  have hwc:=hq.2 _ (List.getElem_mem hj')
  refine Run.callL Bk Bj hI (x3 (p:=p1) (hrd.monoU hE1.1) hcs (by omega) (by omega)) rfl fun v' I' S2 w'=>?_
  rintro ⟨p2,hp2,rfl,ds,d,rfl,hds,hwd⟩ hE2 hI
  refine gt (css:=css) hI 0 _ fb (by omega) (by omega) rfl hds.length hds.one (by omega) (by omega) fun v' w' hI=>?_
  refine bN (by omega) ?_
  have hpn:p2<=p+600 * (j+1):=Nat.le_trans hp2 (Nat.le_trans (Nat.add_le_add_right hp1 600) (by rw [Nat.mul_add,Nat.add_assoc]; exact Nat.le_refl _))
  exact ⟨⟨j+1,p2,S2,_,q1++[d],rfl,hj',by simp only [List.length_append,hq1,List.length_cons,List.length_nil,Nat.zero_add],hpn,hE1.trans hE2,(hR.monoR fun _ _ h=>RdC.mono hE2.1 h).snoc hds hds.length,fun c hc=>(List.mem_append.1 hc).elim (hqw c) (fun hc=>by simp only [List.mem_singleton] at hc; subst hc; omega),hI⟩,
   by simp only [intOf,Int.toNat_natCast]; omega⟩
 refine ⟨fun v w'=>∃ (p1:Nat) (S1:aF) (q1:List C),p1<=p+20000/\Ext w.heap.size [br] S S1/\RdSl S1 5 (RdC S1) v q1/\Light 30 (m+700) q1/\Inv w [br] [rdI br sl p1] S1 w',?_,?_⟩
 ·refine Run.callL cQ cP hI (er (n:=30) (hrd.monoU hE1.1) (by omega) (by omega)) rfl fun v' I' S1 w'=>?_
  rintro ⟨rfl,rfl,kk,hkk,rfl⟩ _ hI
  have hI:Inv w [br] [bh t5 aQ 5 css,rdI br sl (p1+1)] S1 w':=hI
  refine bR ?_
  refine bl (fun _=>?_) (fun _=>?_)
  ·refine ⟨fun b w'=>∃ (S2:aF) (css:List (List Value)) (q1:List C),q1.length<=30/\Ext w.heap.size [br] S S2/\Rows 5 (RdC S2) css q1/\(∀ c∈q1,wC c<=m+700)/\Inv w [br] [bh b aQ 5 css,rdI br sl (p1+1)] S2 w',
    fun b _=>30 - lenOf b,⟨S1,css,q1,by omega,hE1,hR,hqw,hI⟩,?_⟩
   intro t5 _ _ _ _ _ _ _ _ w'
   rintro ⟨S2,css,q1,hq1,hE2,hR,hqw,hI⟩
   have hlen:∀ {w':World} {S2:aF} {t5:Value} {css:List (List Value)} {q1:List C},Inv w [br] [bh t5 aQ 5 css,rdI br sl (p1+1)] S2 w'->Rows 5 (RdC S2) css q1->∃ a m,t5=.slice a q1.length m:=by
    intro w' S2 t5 css q1 hI hR
    obtain ⟨_,_,_,a,m,e,_⟩:=lL hI hR
    exact ⟨a,m,e⟩
   obtain ⟨a1,m1,rfl⟩:=hlen hI hR
   have hcl:=hR.hc
   refine ge dt ?_
   refine fX ?_
   refine bl (fun hle=>?_) (fun hle=>?_)
   ·refine Run.call0E dP dR hI (eC ⟨#[122]⟩ (by decide) (ja S2) (by simp)) fun v' I' S3 w'=>?_
    rintro ⟨rfl,cs3,rfl,hcs3⟩ hE3 hI
    obtain ⟨k3,rfl,_,_,_,a3,q3,rfl,_⟩:=RdT.iff.1 hcs3
    refine iF ?_
    have hds:RdC S3 [.int .i64 3,.int .i64 0,.string ⟨#[122]⟩,.slice a3 0 q3,.slice none 0 0] ⟨.mk 3 0 ⟨#[122]⟩ [],[]⟩:=⟨[.int .i64 3,.int .i64 0,.string ⟨#[122]⟩,.slice a3 0 q3],_,rfl,hcs3,ja S3⟩
    refine gt (css:=css) hI 0 [.int .i64 3,.int .i64 0,.string ⟨#[122]⟩,.slice a3 0 q3,.slice none 0 0] fb (by omega) (by omega) rfl rfl hds.one (by omega) (by omega) fun v' w' hI=>?_
    have hI:Inv w [br] [bh v' aQ 5 (css++[_]),rdI br sl (p1+1)] S3 w':=hI
    have hR2:=(hR.monoR fun _ _ h=>RdC.mono hE3.1 h).snoc hds rfl
    obtain ⟨a2,m2,rfl⟩:=hlen hI hR2
    refine ⟨⟨S3,_,_,by rw [List.length_append]; simp only [List.length_cons,List.length_nil]; omega,hE2.trans hE3,hR2,fun c hc=>(List.mem_append.1 hc).elim (hqw c) (fun hc=>by simp only [List.mem_singleton] at hc; subst hc; rw [M3]; omega),hI⟩,?_⟩
    simp only [lenOf,List.length_append,List.length_cons,List.length_nil]
    omega
   ·obtain ⟨S3,hE3,hI,hr⟩:=lL hI hR
    exact ⟨_,S3,q1,by omega,hE2.trans hE3,hr,⟨hq1,hqw⟩,hI⟩
  ·obtain ⟨S3,hE3,hI,hr⟩:=lL hI hR
   refine bR ?_
   refine bl (fun _=>?_) (fun _=>?_)
   ·refine vf (l:=1) dt hr (by omega) fun u hu=>?_
    exact ⟨_,S3,_,by omega,hE1.trans hE3,hu,⟨by rw [List.length_drop]; omega,fun c hc=>hqw c (List.mem_of_mem_drop hc)⟩,hI⟩
   ·exact ⟨_,S3,q1,by omega,hE1.trans hE3,hr,⟨by omega,hqw⟩,hI⟩
 intro _ _ _ _ t5 _ _ _ _ _ _ _ _ _ _ _ _ w'
 rintro ⟨p2,S2,q2,hp2,hE2,hr,hl,hI⟩
 exact ⟨_,_,S2,rfl,hI,hE2,p2,hp2,rfl,q2,hr,hl⟩
end
end Go.Proofs.YtemmhhdnlbmicaaGreat

/- spec.l4Texts, l4Program, l4Clause, l14Two. -/
namespace Go.Proofs.YtemmhhdnlbmicaaGreat
open Go Go.RowKit
def okS (s:ByteArray):Bool:=Lu (bs s) && decide (s.size<=1000)
theorem KM {s:ByteArray} (h:okS s=true):∃ q,IK 60 (bs s)=some q/\0<q.length/\Light 8 200 q/\(∀ c∈q,dC c=true)/\s.size<=1000:=by
 rw [okS,Bool.and_eq_true,decide_eq_true_eq] at h
 obtain ⟨h,hs⟩:=h
 unfold Lu at h
 split at h
 ·rename_i q hq
  simp only [Bool.and_eq_true,decide_eq_true_eq,List.all_eq_true] at h
  exact ⟨q,hq,h.1,⟨h.2.1,fun c hc=>(h.2.2 c hc).2⟩,fun c hc=>(h.2.2 c hc).1,hs⟩
 ·cases h
section
attribute [local irreducible] Run CondV ah be
theorem B8 {S:aF} {s:ByteArray} (h:okS s=true):Tri Tryz.prog lR [.string s] [] S fun v I' S'=>∃ u css q,v=.tuple #[u,.bool true]/\I'=[bh u aQ 5 css]/\Rows 5 (RdC S') css q/\0<q.length/\Light 8 200 q/\∀ c∈q,dC c=true:=by
 obtain ⟨q,hq,h0,hl,hc,hs⟩:=KM h
 intro w hI
 have hb:(bs s).length=s.size:=(mf (bs s)).symm
 refine (qA (f:=60) (by omega) hq (by rw [hb]; omega) w hI).mono ?_
 rintro e w' ⟨v,I',S',rfl,hI,hE,u,css,rfl,rfl,hR⟩
 exact ⟨_,_,S',rfl,hI,hE,u,css,q,rfl,rfl,hR,h0,hl,hc⟩
theorem Aw (S:aF):Tri Tryz.prog F7 [] [] S fun v I' S'=>I'=[]/\∃ l,RdSl S' 1 sK v l/\l.length=11/\l.all okS=true:=by
 intro w hI
 refine xx ?_
 unfold sd
 refine tW hI (by kernel_rfl) rfl (by omega) fun v S1 w' hE1 hv hI=>?_
 exact ⟨_,[],S1,rfl,hI,hE1,rfl,_,hv,rfl,by decide +kernel⟩
variable {br:Nat} {sl:Value} {ys:List Nat}
theorem xA {p:Nat} {S:aF} (hrd:RdSl S 1 jK sl ys) (hp:p<=100000000):Tri Tryz.prog AA [rdP br] [rdI br sl p] S (Mj br sl p 1 8 200):=by
 intro w hI
 refine th ?_
 unfold oH
 refine Run.call0E DU D1 hI (Aw S) fun v' I' S1 w'=>?_
 rintro ⟨rfl,l,hl,hl11,hok⟩ hE1 hI
 have hI:Inv w [br] [rdI br sl p] S1 w':=hI
 refine a9 hl cR ?_
 refine Run.callL cQ cP hI (er (n:=l.length) (hrd.monoU hE1.1) (by omega) (by omega)) rfl fun v' I' S1 w'=>?_
 rintro ⟨rfl,rfl,k,hk,rfl⟩ _ hI
 have hI:Inv w [br] [rdI br sl (p+1)] S1 w':=hI
 refine i6 hI hl cR bm hk (fun cs hcs=>hcs) ?_
 rw [List.all_eq_true] at hok
 refine Run.call0E jZ kx hI (B8 (hok _ (List.getElem_mem hk))) fun v I' S2 w'=>?_
 rintro ⟨u,css,q,rfl,rfl,hR,h0,hq,hcv⟩ hE2 hI
 refine bd (v:=u) rfl ?_
 refine bd (v:=.bool true) rfl ?_
 exact ⟨_,_,S2,rfl,hI.last 0 rfl,hE1.trans hE2,p+1,css,q,Nat.le_refl _,rfl,hR,hq,h0,hcv⟩
end
end Go.Proofs.YtemmhhdnlbmicaaGreat

/- spec.l16Program, DrawFlatProgram, DrawStageModel. -/
namespace Go.Proofs.YtemmhhdnlbmicaaGreat
open Go Go.RowKit
section
variable {br:Nat} {sl:Value} {ys:List Nat} {S:aF}
attribute [local irreducible] Run CondV ah be
theorem zn (S:aF):Tri Tryz.prog CL [] [] S fun v I' S'=>I'=[]/\∃ l,RdSl S' 1 sK v l/\l.length=6/\l.all okS=true:=by
 intro w hI
 refine tU ?_
 unfold pL
 refine tW hI (by kernel_rfl) rfl (by omega) fun v S1 w' hE1 hv hI=>?_
 exact ⟨_,[],S1,rfl,hI,hE1,rfl,_,hv,rfl,by decide +kernel⟩
abbrev L9 (br:Nat) (sl:Value) (p k:Nat):Value->List Item->aF->Prop:=fun u I' S'=>∃ p',p'<=p+k/\I'=[rdI br sl p']/\∃ ps,RdSl S' 5 (RdC S') u ps/\Light 8 200 ps/\0<ps.length
theorem tP {p:Nat} (hrd:RdSl S 1 jK sl ys) (hp:p<=10000000):Tri Tryz.prog y8 [rdP br] [rdI br sl p] S (L9 br sl p 3):=by
 intro w hI
 refine qM ?_
 unfold mF
 refine Run.call0E Al Am hI (zn S) fun v' I' S1 w'=>?_
 rintro ⟨rfl,l,hl,hl6,hok⟩ hE1 hI
 have hI:Inv w [br] [rdI br sl p] S1 w':=hI
 refine a9 hl cR ?_
 refine Run.callL cQ cP hI (er (n:=l.length) (hrd.monoU hE1.1) (by omega) (by omega)) rfl fun v' I' S1 w'=>?_
 rintro ⟨rfl,rfl,k,hk,rfl⟩ _ hI
 have hI:Inv w [br] [rdI br sl (p+1)] S1 w':=hI
 refine i6 hI hl cR bm hk (fun cs hcs=>hcs) ?_
 rw [List.all_eq_true] at hok
 refine Run.call0E jZ kx hI (B8 (hok _ (List.getElem_mem hk))) fun v I' S3 w'=>?_
 rintro ⟨u,css,ps,rfl,rfl,hR,h0,hps,_⟩ hE3 hI
 have hI:Inv w [br] [bh u aQ 5 css,rdI br sl (p+1)] S3 w':=hI.last 0 rfl
 obtain ⟨S4,hE4,hI,hr⟩:=lL hI hR
 have hE4:=hE1.trans (hE3.trans hE4)
 refine bd (v:=u) rfl ?_
 refine bd (v:=.bool true) rfl ?_
 refine ⟨fun t w'=>∃ (p2:Nat) (S5:aF) (q:List C),p2<=p+3/\Ext w.heap.size [br] S S5/\RdSl S5 5 (RdC S5) t q/\Light 8 200 q/\0<q.length/\Inv w [br] [rdI br sl p2] S5 w',?_,?_⟩
 ·refine Run.callL cQ cP hI (er (n:=8) (hrd.monoU hE4.1) (by omega) (by omega)) rfl fun v' I' S2 w'=>?_
  rintro ⟨rfl,rfl,k2,hk2,rfl⟩ _ hI
  refine bR ?_
  refine bl (fun _=>?_) (fun _=>⟨p+2,_,ps,by omega,hE4,hr,hps,h0,hI⟩)
  refine Run.callL yx Aa hI (xA (p:=p+1+1) (hrd.monoU hE4.1) (by omega)) rfl fun v1 I' S5 w'=>?_
  rintro ⟨p2,css1,q1,hp2,rfl,hR1,hq1,h1,_⟩ hE5 hI
  obtain ⟨S6,hE6,hI,hr6⟩:=lL (A:=[rdI br sl p2]) hI hR1
  exact ⟨p2,S6,q1,by omega,hE4.trans (hE5.trans hE6),hr6,hq1,h1,hI⟩
 intro t4 _ _ _ _ _ w'
 rintro ⟨p2,S5,q,hp2,hE5,hr,hl,h0,hI⟩
 exact ⟨_,_,S5,rfl,hI,hE5,p2,hp2,rfl,q,hr,hl,h0⟩
abbrev Lt (v':Value) (I':List Item) (S':aF):Prop:=I'=[]/\∃ q,RdSl S' 5 (RdC S') v' q/\Light 30 900 q
theorem mO {v:Value} (h:RdSl S 1 jK v ys):Tri Tryz.prog o7 [v] [] S Lt:=by
 intro w hI
 refine lf ?_
 unfold iH
 refine Run.call0E CT DT hI (Hd h) fun v1 I' S1 w'=>?_
 rintro ⟨rfl,br,sl,ys',rfl,rfl,hrd⟩ _ hI
 have hI:Inv w [] [rdI br sl 0] S1 w':=hI
 refine Run.callL xg wO hI (tP (p:=0) hrd (by omega)) rfl fun v2 I' S2 w'=>?_
 rintro ⟨p1,hp1,rfl,ps,hps,hlp,h0⟩ hE2 hI
 have hI:Inv w [] [rdI br sl p1] S2 w':=hI
 refine Run.callL uJ uO hI (rn (m:=200) (p:=p1) (hrd.monoU hE2.1) hps ⟨by have:=hlp.1; omega,hlp.2⟩ h0 (by omega) (by omega)) rfl fun v3 I' S5 w'=>?_
 rintro ⟨p3,hp3,rfl,q2,hr2,hq2⟩ hE5 hI
 exact ⟨_,[],S5,rfl,Inv.nil hI,hE2.trans hE5,rfl,q2,hr2,hq2⟩
theorem nK {v:Value} (h:RdSl S 1 jK v ys):Tri Tryz.prog qy [v] [] S Lt:=by
 intro w hI
 refine lY ?_
 unfold iR
 refine Run.call0E oV ov hI (mO h) fun v I' S2 w'=>?_
 rintro ⟨rfl,q,hr,hl⟩ hE2 hI
 exact ⟨_,[],S2,rfl,hI,hE2,rfl,q,hr,hl⟩
end
end Go.Proofs.YtemmhhdnlbmicaaGreat

/- slices.Insert of one element into a row of the caller's own. -/
namespace Go.Proofs.YtemmhhdnlbmicaaGreat
open Go Go.RowKit
section
variable {P:Program} {w w0:World} {X:List Nat} {L:List Item} {S:aF} {K:Value->World->Prop}
attribute [local irreducible] Run CondV ah be
theorem M1 {T ty:TypeId} {cs:List Bool} {a:Option Addr} {n c:Nat} {Ek:TypeId × Nat} (hu:dy P T=some Ek) (hk:K (.int .i64 c) w):Run P (aq .cap #[T] ty cs [.slice a n c]) w K:=by
 obtain ⟨e,k⟩:=Ek
 obtain ⟨hT,_⟩:=gr hu
 refine Run.of ?_ hk
 simp [aq,builtin,Builtin.cap_,run_underlying hT,goInt]
theorem IB {T ty e:TypeId} {k h g o len cap:Nat} (hT:dy P T=some (e,k)) (hh:h<=cap) (hk:K (.slice (some ⟨g,o,none⟩) h cap) w) :
  Run P (sOp (.slice T (.const (.slice (some ⟨g,o,none⟩) len cap)) none (some (.const (.int .i64 h))) none) ty) w K:=by
 refine Id hT hh ?_
 split
 ·exact hk
 ·simpa [fY] using hk
theorem ia {T ty e:TypeId} {k l g o len cap:Nat} (hT:dy P T=some (e,k)) (hl:l<=len) (hc:l<cap) (hk:K (.slice (some ⟨g,o+l * k,none⟩) (len - l) (cap - l)) w) :
  Run P (sOp (.slice T (.const (.slice (some ⟨g,o,none⟩) len cap)) (some (.const (.int .i64 l))) none none) ty) w K:=by
 refine yW hT hl ?_
 rw [if_neg (by omega)]
 simpa [fY] using hk
theorem sx (h:Inv w0 X L S w) {T ty e:TypeId} {k o dl dc sl sc:Nat} {cs:List Bool} {a:Addr} (j g n:Nat) (cur:Array Value) (E:TypeId) (news:List Value) (hT:dy P T=some (e,k)) (hi:L[j]?=some (.blk g (.cells cur E)))
  (hn:n=min sl dl) (hl:news.length=n * k) (hnews:∀ j u,news[j]?=some u->w.cell? (a.add j)=some u) (hfit:o+news.length<=cur.size) (h1:∀ u∈news,u.oneCell'=true)
  (hk:∀ w',Inv w0 X (L.set j (.blk g (.cells (bu cur o news) E))) S w'->K (goInt n) w') :
  Run P (aq .copy #[T,T] ty cs [.slice (some ⟨g,o,none⟩) dl dc,.slice (some a) sl sc]) w K:=by
 obtain ⟨hu,i,hi',hs⟩:=gr hT
 have hg:w.heap[g]?=some (.cells cur E):=h.its _ (List.mem_of_getElem? hi)
 have hld:=run_loadCells_list (P:=P) w a news hnews
 have hn:n=Nat.min sl dl:=hn
 rw [hl,hn] at hld
 have hst:=run_storeCells_at P g o E news 0 cur w hg (by simpa using hfit) h1
 rw [hn] at hk
 refine Run.of (v:=goInt (Nat.min sl dl)) (w':=w.setRow g (bu cur o news)) ?_ (hk _ (h.setBlk hi _ (BN hg)))
 simp [aq,builtin,Builtin.copy_,run_underlying hu,Builtin.lenOf,Builtin.firstCells,sizeOf,typeInfo,hi',hs,hld,hst,bu]
theorem JZ (h:Inv w0 X L S w) {T U ty e:TypeId} {k by_ j g i m cap:Nat} {cs:List Bool} {z:Value} {cur:Array Value} {E:TypeId} (hT:nO P T=some (e,k,by_,z)) (hU:P.underlying U=some (.int .i64)) (hk0:0<k)
  (hi:L[j]?=some (.blk g (.cells cur E))) (hsz:i * k<=cur.size) (hm:0<m) (hg:cap<i+m) (hfit:i+m<=4294967296) (hby:by_<=32768)
  (hk:∀ (nb nc:Nat) (c:Array Value) w',i+m<=nc->nc<=maxLen->c.size=nc * k->c.toList.take (i * k)=cur.toList.take (i * k)->Inv w0 X (L++[.blk nb (.cells c e)]) S w'->K (.slice (some ⟨nb,0,none⟩) (i+m) nc) w') :
  Run P (aq .append #[T,U] ty cs [.slice (some ⟨g,0,none⟩) i cap,.int .i64 m]) w K:=by
 obtain ⟨hu,inf,hi',hz,hs,hb,hzs⟩:=ig hT
 have hgw:w.heap[g]?=some (.cells cur E):=h.its _ (List.mem_of_getElem? hi)
 obtain ⟨olds,ho⟩:∃ olds,olds=cur.toList.take (i * k):=⟨_,rfl⟩
 have hlo:olds.length=i * inf.size:=by rw [ho,hs,List.length_take,Array.length_toList]; omega
 have holds:∀ j v,olds[j]?=some v->w.cell? ((⟨g,0,none⟩:Addr).add j)=some v:=by
  intro j v hj
  rw [fY,Nat.zero_add,cell_of_row w g j cur E (0,0) hgw]
  rw [ho,List.getElem?_take] at hj
  split at hj
  ·simpa using hj
  ·cases hj
 have hbytes:(i+m) * by_<=140737488355328:=Nat.le_trans (Nat.mul_le_mul hfit hby) (by decide)
 have hgf:=growslice_fits hg hbytes
 have hn:¬ (i+m<=cap):=by omega
 have hw:IntKind.i64.wrap (m:Int)=m:=IntWalk.i64_in _ (by omega)
 have hneg:¬ ((m:Int)<0):=by omega
 have hns:¬ (m * k=0):=Nat.mul_ne_zero (by omega) (by omega)
 have h63':¬ (9223372036854775807<(i:Int)+(m:Int)):=by omega
 have h48i:¬ (281474976710656<(m:Int) * (by_:Int)):=by
  have:m * by_<=(i+m) * by_:=Nat.mul_le_mul_right _ (by omega)
  rw [<- Int.natCast_mul]
  omega
 have h48':¬ (281474976710656<Builtin.nextslicecap (i+m) cap * by_):=by omega
 have hfo:=run_firstCells_some (P:=P) w.drew inf.size i ⟨g,0,none⟩ i cap olds hlo (by simpa using holds)
 rw [hs] at hfo
 refine Run.of (v:=.slice (some ⟨w.heap.size,0,none⟩) (i+m) (grownCap w (i+m) cap e))
  (w':=w.drew.alloc (.cells (olds.toArray++Builtin.zeroCells z.cells m++Builtin.zeroCells z.cells (grownCap w (i+m) cap e - (i+m))) e)) ?_ ?_
 ·simp [aq,builtin,Builtin.append_,run_underlying hu,run_underlying hU,sizeOf,typeInfo,zeroValue,hi',hz,hs,hb,asInt,asIntOf,hw,hn,hneg,hns,h63',h48',h48i,Question.forced,hfo,newRow,grownCap]
 ·have hge:=grownCap_ge w (i+m) cap e
  have hle:=grownCap_le_maxLen w (i+m) cap e (by simp only [maxLen]; omega)
  refine hk _ _ _ _ hge hle ?_ ?_ (h.draw.alloc _)
  ·simp only [Array.size_append,List.size_toArray,size_zeroCells,hzs,hlo,hs]
   rw [<- Nat.add_mul,<- Nat.add_mul]
   congr 1
   omega
  ·rw [<- ho]
   have:i * k=olds.length:=by rw [hlo,hs]
   rw [this]
   simp
theorem GJ (h:Inv w0 X L S w) {f:FuncId} {fn:Func} {T U e ea eb:TypeId} {k i j a b oa ob la lb cpa cpb:Nat} {ca cb:Array Value} (hf:P.funcs[f]?=some fn) (hn:(fn.name == "runtime.NumGoroutine")=false) (hb:fn.body.isNone=true)
  (hx:(Extern.findNext fn).isNone=true) (hy:Extern.find fn=some (Extern.SlicesOverlaps.overlaps #[T,T] #[U])) (hT:dy P T=some (e,k)) (hi:L[i]?=some (.blk a (.cells ca ea))) (hj:L[j]?=some (.blk b (.cells cb eb)))
  (hne:a≠b) (hcb:cb.size≠0) (hk:K (.bool false) w):Run P (aJ (.func (.func f) #[] #[]) [.slice (some ⟨a,oa,none⟩) la cpa,.slice (some ⟨b,ob,none⟩) lb cpb]) w K:=by
 obtain ⟨hu,inf,hi',hs⟩:=gr hT
 have hga:w.heap[a]?=some (.cells ca ea):=h.its _ (List.mem_of_getElem? hi)
 have hgb:w.heap[b]?=some (.cells cb eb):=h.its _ (List.mem_of_getElem? hj)
 have hov:=Lib.run_overlaps_apart (P:=P) w T U e hu k (fun w=>by simp [sizeOf,typeInfo,hi',hs]) ⟨a,oa,none⟩ ⟨b,ob,none⟩ la cpa lb cpb hne ea eb ca.size cb.size (by simp [World.shape?,hga]) (by simp [World.shape?,hgb]) hcb
  (by simp [World.frozen?,hga]) (by simp [World.frozen?,hga])
 have hx':Extern.findNext fn=none:=by simpa using hx
 refine Run.of (v:=.bool false) (w':=w) ?_ hk
 have hcf:=run_callFunc_extern hf hn hb hx' hy #[.slice (some ⟨a,oa,none⟩) la cpa,.slice (some ⟨b,ob,none⟩) lb cpb] w
 rw [hov] at hcf
 simp [aJ,Deferred.ofValue,invoke,hcf,Result.andThen]
end
theorem oL (c:Array Value) (o:Nat) (vs:List Value):(bu c o vs).toList=c.toList.take o++vs++c.toList.drop (o+vs.length):=rfl
theorem M9 {c:Array Value} {p:Nat} {cs D:List Value} (h:p+cs.length+D.length<=c.size) :
  (bu (bu c p cs) (p+cs.length) D).toList.take (p+cs.length+D.length)=c.toList.take p++cs++D:=by
 have e:(bu c p cs).toList.take (p+cs.length)=c.toList.take p++cs:=by
  rw [oL,List.take_left']
  simp; omega
 rw [oL (bu c p cs),e,List.take_left']
 simp; omega
theorem Nq {c:Array Value} {p:Nat} {cs D:List Value} (h:p+cs.length+D.length<=c.size) :
  (bu (bu c (p+cs.length) D) p cs).toList.take (p+cs.length+D.length)=c.toList.take p++cs++D:=by
 have e1:(bu c (p+cs.length) D).toList.take p=c.toList.take p:=by
  rw [oL,List.append_assoc,List.take_append_of_le_length (by simp; omega),List.take_take,Nat.min_eq_left (by omega)]
 have e2:(bu c (p+cs.length) D).toList.drop (p+cs.length)=D++c.toList.drop (p+cs.length+D.length):=by
  rw [oL,List.append_assoc,List.drop_left']
  simp; omega
 rw [oL (bu c (p+cs.length) D),e1,e2,<- List.append_assoc,List.take_left']
 simp; omega
section
attribute [local irreducible] Run CondV ah be
set_option maxHeartbeats 2000000 in
theorem DY {S:aF} {v:Value} {css:List (List Value)} {cs:List Value} {ub i:Nat} (hk4:∀ c∈css,c.length=4) (h1:∀ c∈css,∀ u∈c,u.oneCell'=true) (hc4:cs.length=4) (hc1:∀ u∈cs,u.oneCell'=true)
  (hi:i<=css.length) (hn:css.length<=100000000) :
  Tri Tryz.prog xf [v,.int .i64 i,.slice (some ⟨ub,0,none⟩) 1 1] [bh v ab 4 css,.blk ub (.cells cs.toArray ab)] S fun r I' S'=>S'=S/\I'=[bh r ab 4 (css.take i++cs::css.drop i)]:=by
 intro w hI
 obtain ⟨X,hX⟩:∃ X,X=bX [bh v ab 4 css,.blk ub (.cells cs.toArray ab)]:=⟨_,rfl⟩
 rw [<- hX] at hI ⊢
 have hI:Inv w X ([.blk ub (.cells cs.toArray ab)]++[bh v ab 4 css]) S w:=hI.perm (List.Perm.swap ..)
 have hcl:(css.drop i).flatten.length=(css.length - i) * 4:=by
  rw [jX (k:=4) (fun c hc=>hk4 c (List.mem_of_mem_drop hc)),List.length_drop]
 have hct:(css.take i).flatten.length=i * 4:=by
  rw [jX (k:=4) (fun c hc=>hk4 c (List.mem_of_mem_take hc)),List.length_take,Nat.min_eq_left hi]
 have hsp:css.flatten=(css.take i).flatten++(css.drop i).flatten:=by rw [<- List.flatten_append,List.take_append_drop]
 have hd1:∀ u∈(css.drop i).flatten,u.oneCell'=true:=fun u hu=>by
  obtain ⟨c,hc,hu⟩:=List.mem_flatten.1 hu
  exact h1 c (List.mem_of_mem_drop hc) u hu
 obtain ⟨hfl,ho⟩:=hI.openRow
 have hv:∃ a cap,v=.slice a css.length cap/\css.length<=cap:=by
  rcases ho with ⟨rfl,h0⟩|⟨g,cap,cur,rfl,hnc,_⟩
  ·exact ⟨none,0,by rw [h0],by omega⟩
  ·exact ⟨_,cap,rfl,hnc⟩
 obtain ⟨a,cap,rfl,hncap⟩:=hv
 refine pl ?_
 unfold lm
 refine yW ay hi ?_
 refine ge ay ?_
 refine bR ?_
 refine bl (fun hb=>absurd hb (by decide)) (fun _=>?_)
 refine ge ay ?_
 refine bR ?_
 refine bl (fun hin=>?_) (fun hin=>?_)
 ·have hin:i=css.length:=by omega
  refine fy hI 1 (m:=1) (o:=0) cs bK (by omega) rfl (by omega) (fun j u hj=>?_) hc1 (by omega) (by omega) fun v' w' hI=>?_
  ·rw [hI.cellL (i:=0) rfl,Nat.zero_add]
   simpa using hj
  ·have e:css.take i++cs::css.drop i=css++[cs]:=by rw [hin,List.take_length,List.drop_length]
   rw [e]
   rw [fS] at hI
   exact ⟨_,_,_,rfl,hI.pick [false,true],Ext.refl _ _ _,rfl,rfl⟩
 have hlt:i<css.length:=by omega
 rcases ho with ⟨_,h0⟩|⟨g,cap',cur,hveq,hnc,hcm,hcs,ht,hJ⟩
 ·omega
 simp only [Value.slice.injEq] at hveq
 obtain ⟨rfl,_,rfl⟩:=hveq
 replace hI:=hJ
 have hcapt:cur.toList.take (i * 4)=(css.take i).flatten:=by
  have:cur.toList.take (i * 4)=(cur.toList.take (css.length * 4)).take (i * 4):=by rw [List.take_take,Nat.min_eq_left (by omega)]
  rw [this,ht,hsp,List.take_left' hct]
 have hD:∀ j u,(css.drop i).flatten[j]?=some u->cur[i * 4+j]?=some u:=by
  intro j u hj
  have hjl:=(List.getElem?_eq_some_iff.1 hj).1
  have:css.flatten[i * 4+j]?=some u:=by rw [hsp,List.getElem?_append_right (by omega),hct,Nat.add_sub_cancel_left]; exact hj
  rw [<- ht,List.getElem?_take,if_pos (by omega)] at this
  simpa using this
 have hsz:(css.length - i) * 4+(i * 4)=css.length * 4:=by omega
 have hnd:=hI.nd
 have hne:ub≠g:=by
  intro e
  rw [e] at hnd
  simp [bX,Item.foot] at hnd
 have hfin:∀ (nb nc:Nat) (c:Array Value) (w':World) (hI:Inv w X ([.blk nb (.cells c ab)]:List Item) S w') (_:css.length+1<=nc) (_:nc<=maxLen) (_:c.size=nc * 4) (_:c.toList.take (i * 4+cs.length+(css.drop i).flatten.length)=(css.take i).flatten++cs++(css.drop i).flatten),
   ∃ v I' S',Ending.returned (.slice (some ⟨nb,0,none⟩) (css.length+1) nc)=.returned v/\Inv w X I' S' w'/\Ext w.heap.size X S S'/\S'=S/\I'=[bh v ab 4 (css.take i++cs::css.drop i)]:=by
  intro nb nc c w' hI hnc hcm hcs htk
  have hI:=Inv.closeRow (A:=[]) (k:=4) (n:=css.length+1) hI hnc hcm hcs
  have e1:(css.length+1) * 4=i * 4+cs.length+(css.drop i).flatten.length:=by omega
  have e2:(css.take i++cs::css.drop i).length=css.length+1:=by simp; omega
  have e3:(css.take i++cs::css.drop i).flatten=(css.take i).flatten++cs++(css.drop i).flatten:=by simp
  refine ⟨_,_,_,rfl,hI,Ext.refl _ _ _,rfl,?_⟩
  rw [e1,htk,bh,e2,e3]
  rfl
 simp only [maxLen] at hcm
 refine bN (by omega) ?_
 refine M1 ay ?_
 refine eh ?_
 refine bl (fun hgr=>?_) (fun hgr=>?_)
 ·have hgr':cap<css.length+1:=by omega
  refine IB ay (by omega) ?_
  refine bN (by omega) ?_
  refine pO (by omega) ?_
  have e:((css.length:Int)+1 - (i:Int))=((css.length+1 - i:Nat):Int):=by omega
  rw [show ((css.length:Int)+((1:Nat):Int) - (i:Int))=((css.length+1 - i:Nat):Int) by omega]
  refine JZ hI bK (U:=fu) (by kernel_rfl) (by omega) (j:=1) rfl (by omega) (by omega) (by omega) (by omega) (by omega) fun nb nc c w' hnc hcm2 hcsz hctk hI=>?_
  have hI:Inv w X [.blk ub (.cells cs.toArray ab),.blk g (.cells cur ab),.blk nb (.cells c ab)] S w':=hI
  rw [show i+(css.length+1 - i)=css.length+1 by omega] at hnc ⊢
  refine ia ay (by omega) (by omega) ?_
  rw [Nat.zero_add]
  refine sx hI 2 nb 1 c ab cs ay rfl (by omega) (by omega) (fun j u hj=>?_) (by omega) hc1 fun w' hI=>?_
  ·rw [fY,hI.cellL (i:=0) rfl,Nat.zero_add]
   simpa using hj
  have hI:Inv w X [.blk ub (.cells cs.toArray ab),.blk g (.cells cur ab),.blk nb (.cells (bu c (i * 4) cs) ab)] S w':=hI
  have hsz2:(bu c (i * 4) cs).size=c.size:=fU _ _ _ (by omega)
  refine ⟨fun D di dj cO cL cM cK bT bU cS w_=>(D 0=true->cS=.slice (some ⟨nb,0,none⟩) (css.length+1) nc)/\(D 1=true->bU=.int .i64 i)/\(D 2=true->bT=.int .i64 (1:Nat))/\(D 3=true->cK=.int .i64 (i+1:Nat))/\(D 4=true->cM=.slice (some ⟨nb,(i+1) * 4,none⟩) (css.length+1 - (i+1)) (nc - (i+1)))/\(D 5=true->cL=.slice (some ⟨g,0,none⟩) css.length cap)/\(D 6=true->cO=.int .i64 i)/\(D 7=true->dj=.slice (some ⟨g,i * 4,none⟩) (css.length - i) (cap - i))/\(D 8=true->di=goInt (css.length - i:Nat))/\Inv w X [.blk ub (.cells cs.toArray ab),.blk g (.cells cur ab),.blk nb (.cells (cond (D 8) (bu (bu c (i * 4) cs) (i * 4+cs.length) (css.drop i).flatten) (bu c (i * 4) cs)) ab)] S w_,⟨ae,ae,ae,ae,ae,ae,ae,ae,ae,hI.draw⟩,⟨?_,?_,?_,?_,?_,?_,?_,?_,?_,trivial⟩,?_⟩
  ·intro D aY  di dj cO cL cM cK bT bU cS w_
   rintro ⟨aA,aB,aC,az,av,aE,aD,aH,aK,hI⟩
   exact ⟨fun _=>rfl,aB,aC,az,av,aE,aD,aH,aK,hI⟩
  ·intro D aY  di dj cO cL cM cK bT bU cS w_
   rintro ⟨aA,aB,aC,az,av,aE,aD,aH,aK,hI⟩
   exact ⟨aA,fun _=>rfl,aC,az,av,aE,aD,aH,aK,hI⟩
  ·intro D aY  di dj cO cL cM cK bT bU cS w_
   rintro ⟨aA,aB,aC,az,av,aE,aD,aH,aK,hI⟩
   exact ⟨aA,aB,fun _=>rfl,az,av,aE,aD,aH,aK,hI⟩
  ·intro D aY dE gK di dj cO cL cM cK bT bU cS w_
   rintro ⟨aA,aB,aC,az,av,aE,aD,aH,aK,hI⟩
   obtain rfl:=aB dE
   obtain rfl:=aC gK
   refine bN (by omega) ?_
   exact ⟨aA,aB,aC,fun _=>rfl,av,aE,aD,aH,aK,hI⟩
  ·intro D aY b0 mi di dj cO cL cM cK bT bU cS w_
   rintro ⟨aA,aB,aC,az,av,aE,aD,aH,aK,hI⟩
   obtain rfl:=aA b0
   obtain rfl:=az mi
   refine ia ay (by omega) (by omega) ?_
   rw [Nat.zero_add]
   exact ⟨aA,aB,aC,az,fun _=>rfl,aE,aD,aH,aK,hI⟩
  ·intro D aY  di dj cO cL cM cK bT bU cS w_
   rintro ⟨aA,aB,aC,az,av,aE,aD,aH,aK,hI⟩
   exact ⟨aA,aB,aC,az,av,fun _=>rfl,aD,aH,aK,hI⟩
  ·intro D aY  di dj cO cL cM cK bT bU cS w_
   rintro ⟨aA,aB,aC,az,av,aE,aD,aH,aK,hI⟩
   exact ⟨aA,aB,aC,az,av,aE,fun _=>rfl,aH,aK,hI⟩
  ·intro D aY dT f0 di dj cO cL cM cK bT bU cS w_
   rintro ⟨aA,aB,aC,az,av,aE,aD,aH,aK,hI⟩
   obtain rfl:=aE dT
   obtain rfl:=aD f0
   refine ia ay (by omega) (by omega) ?_
   rw [Nat.zero_add]
   exact ⟨aA,aB,aC,az,av,aE,aD,fun _=>rfl,aK,hI⟩
  ·intro D aY cF i7 di dj cO cL cM cK bT bU cS w_
   rintro ⟨aA,aB,aC,az,av,aE,aD,aH,aK,hI⟩
   obtain rfl:=av cF
   obtain rfl:=aH i7
   have hI:Inv w X [.blk ub (.cells cs.toArray ab),.blk g (.cells cur ab),.blk nb (.cells (bu c (i * 4) cs) ab)] S w_:=by rw [aY] at hI; exact hI
   refine sx hI 2 nb (css.length - i) (bu c (i * 4) cs) ab (css.drop i).flatten ay rfl (by omega) (by omega) (fun j u hj=>by rw [fY,hI.cellL (i:=1) rfl]; exact hD j u hj) (by omega) hd1 fun w' hI=>?_
   rw [show (i+1) * 4=i * 4+cs.length by omega] at hI
   exact ⟨aA,aB,aC,az,av,aE,aD,aH,fun _=>rfl,hI⟩
  intro D gI fK fL fH fC fB fE fM fJ di dj cO cL cM cK bT bU cS w_
  rintro ⟨aA,aB,aC,az,av,aE,aD,aH,aK,hI⟩
  obtain rfl:=aK gI
  obtain rfl:=aH fK
  obtain rfl:=aD fL
  obtain rfl:=aE fH
  obtain rfl:=av fC
  obtain rfl:=az fB
  obtain rfl:=aC fE
  obtain rfl:=aB fM
  obtain rfl:=aA fJ
  clear aA aB aC az av aE aD aH aK
  rw [gI] at hI
  exact hfin nb nc _ _ (hI.pick [false,false,true]) hnc hcm2 (by rw [cond_true,fU _ _ _ (by omega),hsz2,hcsz]) (by rw [cond_true,M9 (by omega),hctk,hcapt])
 ·have hgr':css.length+1<=cap:=by omega
  refine bN (by omega) ?_
  rw [show ((css.length:Int)+((1:Nat):Int))=((css.length+1:Nat):Int) by omega]
  refine IB ay (by omega) ?_
  refine bN (by omega) ?_
  rw [show ((i:Int)+((1:Nat):Int))=((i+1:Nat):Int) by omega]
  refine ia ay (by omega) (by omega) ?_
  rw [Nat.zero_add]
  refine GJ hI Tryz.func182 (by kernel_rfl) (by kernel_rfl) (by kernel_rfl) (T:=ce) (U:=Lm) (by kernel_rfl) ay (i:=0) (j:=1) rfl rfl hne (by omega) ?_
  refine dh ?_
  refine ba (fun _=>?_) (fun hb=>by cases hb)
  have hsz2:(bu cur (i * 4+cs.length) (css.drop i).flatten).size=cur.size:=fU _ _ _ (by omega)
  have hI:Inv w X [.blk ub (.cells cs.toArray ab),.blk g (.cells cur ab)] S w:=hI
  refine ⟨fun D fV fT eU ed ew eq ev el ey w_=>(D 0=true->ey=.slice (some ⟨g,0,none⟩) (css.length+1) cap)/\(D 1=true->el=.int .i64 i)/\(D 2=true->ev=.int .i64 (1:Nat))/\(D 3=true->eq=.int .i64 (i+1:Nat))/\(D 4=true->ew=.slice (some ⟨g,(i+1) * 4,none⟩) (css.length+1 - (i+1)) (cap - (i+1)))/\(D 5=true->ed=.slice (some ⟨g,0,none⟩) (css.length+1) cap)/\(D 6=true->eU=.int .i64 i)/\(D 7=true->fT=.slice (some ⟨g,i * 4,none⟩) (css.length+1 - i) (cap - i))/\(D 8=true->fV=goInt (css.length - i:Nat))/\Inv w X [.blk ub (.cells cs.toArray ab),.blk g (.cells (cond (D 8) (bu cur (i * 4+cs.length) (css.drop i).flatten) cur) ab)] S w_,⟨ae,ae,ae,ae,ae,ae,ae,ae,ae,hI.draw⟩,⟨?_,?_,?_,?_,?_,?_,?_,?_,?_,trivial⟩,?_⟩
  ·intro D aY  fV fT eU ed ew eq ev el ey w_
   rintro ⟨aA,aB,aC,az,av,aE,aD,aH,aK,hI⟩
   exact ⟨fun _=>rfl,aB,aC,az,av,aE,aD,aH,aK,hI⟩
  ·intro D aY  fV fT eU ed ew eq ev el ey w_
   rintro ⟨aA,aB,aC,az,av,aE,aD,aH,aK,hI⟩
   exact ⟨aA,fun _=>rfl,aC,az,av,aE,aD,aH,aK,hI⟩
  ·intro D aY  fV fT eU ed ew eq ev el ey w_
   rintro ⟨aA,aB,aC,az,av,aE,aD,aH,aK,hI⟩
   exact ⟨aA,aB,fun _=>rfl,az,av,aE,aD,aH,aK,hI⟩
  ·intro D aY dE gK fV fT eU ed ew eq ev el ey w_
   rintro ⟨aA,aB,aC,az,av,aE,aD,aH,aK,hI⟩
   obtain rfl:=aB dE
   obtain rfl:=aC gK
   refine bN (by omega) ?_
   exact ⟨aA,aB,aC,fun _=>rfl,av,aE,aD,aH,aK,hI⟩
  ·intro D aY b0 mi fV fT eU ed ew eq ev el ey w_
   rintro ⟨aA,aB,aC,az,av,aE,aD,aH,aK,hI⟩
   obtain rfl:=aA b0
   obtain rfl:=az mi
   refine ia ay (by omega) (by omega) ?_
   rw [Nat.zero_add]
   exact ⟨aA,aB,aC,az,fun _=>rfl,aE,aD,aH,aK,hI⟩
  ·intro D aY  fV fT eU ed ew eq ev el ey w_
   rintro ⟨aA,aB,aC,az,av,aE,aD,aH,aK,hI⟩
   exact ⟨aA,aB,aC,az,av,fun _=>rfl,aD,aH,aK,hI⟩
  ·intro D aY  fV fT eU ed ew eq ev el ey w_
   rintro ⟨aA,aB,aC,az,av,aE,aD,aH,aK,hI⟩
   exact ⟨aA,aB,aC,az,av,aE,fun _=>rfl,aH,aK,hI⟩
  ·intro D aY dT f0 fV fT eU ed ew eq ev el ey w_
   rintro ⟨aA,aB,aC,az,av,aE,aD,aH,aK,hI⟩
   obtain rfl:=aE dT
   obtain rfl:=aD f0
   refine ia ay (by omega) (by omega) ?_
   rw [Nat.zero_add]
   exact ⟨aA,aB,aC,az,av,aE,aD,fun _=>rfl,aK,hI⟩
  ·intro D aY cF i7 fV fT eU ed ew eq ev el ey w_
   rintro ⟨aA,aB,aC,az,av,aE,aD,aH,aK,hI⟩
   obtain rfl:=av cF
   obtain rfl:=aH i7
   have hI:Inv w X [.blk ub (.cells cs.toArray ab),.blk g (.cells cur ab)] S w_:=by rw [aY] at hI; exact hI
   refine sx hI 1 g (css.length - i) cur ab (css.drop i).flatten ay rfl (by omega) (by omega) (fun j u hj=>by rw [fY,hI.cellL (i:=1) rfl]; exact hD j u hj) (by omega) hd1 fun w' hI=>?_
   rw [show (i+1) * 4=i * 4+cs.length by omega] at hI
   exact ⟨aA,aB,aC,az,av,aE,aD,aH,fun _=>rfl,hI⟩
  intro D gI fK fL fH fC fB fE fM fJ fV fT eU ed ew eq ev el ey w_
  rintro ⟨aA,aB,aC,az,av,aE,aD,aH,aK,hI⟩
  obtain rfl:=aK gI
  obtain rfl:=aH fK
  obtain rfl:=aD fL
  obtain rfl:=aE fH
  obtain rfl:=av fC
  obtain rfl:=az fB
  obtain rfl:=aC fE
  obtain rfl:=aB fM
  obtain rfl:=aA fJ
  clear aA aB aC az av aE aD aH aK
  rw [gI] at hI
  have hI:Inv w X [.blk ub (.cells cs.toArray ab),.blk g (.cells (bu cur (i * 4+cs.length) (css.drop i).flatten) ab)] S w_:=hI
  refine ia ay (by omega) (by omega) ?_
  rw [Nat.zero_add]
  refine sx hI 1 g 1 (bu cur (i * 4+cs.length) (css.drop i).flatten) ab cs ay rfl (by omega) (by omega) (fun j u hj=>?_) (by omega) hc1 fun w' hI=>?_
  ·rw [fY,hI.cellL (i:=0) rfl,Nat.zero_add]
   simpa using hj
  exact hfin g cap _ _ (hI.pick [false,true]) hgr' (by simp only [maxLen]; omega) (by rw [fU _ _ _ (by omega),hsz2,hcs]) (by rw [Nq (by omega),hcapt])
end

end Go.Proofs.YtemmhhdnlbmicaaGreat

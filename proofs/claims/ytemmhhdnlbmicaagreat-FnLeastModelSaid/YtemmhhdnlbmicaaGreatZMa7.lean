/- spec.l1Draw, l1Some: a drawn term is readable and light. -/
import Derived.Test.YtemmhhdnlbmicaaGreatZMa6
import Derived.Test.YtemmhhdnlbmicaaGreatZMa2
import Derived.Lib.Overlaps
namespace Go.Proofs.YtemmhhdnlbmicaaGreat
open Go Go.RowKit
theorem p8 {l:List Int} {n a b:Int} (hm:n∈l) (h:(l.all fun n=>decide (a<=n) && decide (n<=b))=true):a<=n/\n<=b:=by
 rw [List.all_eq_true] at h
 have:=h n hm
 rw [Bool.and_eq_true,decide_eq_true_eq,decide_eq_true_eq] at this
 exact this
theorem zo {l:List ByteArray} {s:ByteArray} {m:Nat} (hm:s∈l) (h:(l.all fun s=>decide (s.size<=m))=true):s.size<=m:=by
 rw [List.all_eq_true] at h
 have:=h s hm
 rwa [decide_eq_true_eq] at this
theorem Jl {Q B:Prop} {R:Nat->Prop} (h1:Q->B) (h2:∀ n,n<3->R n->B):∀ {n:Nat},pg Q R n->n<4->B
 | 0,h,_=>h1 h
 | n+1,h,hn=>h2 n (by omega) h
theorem mE:∀ l m:List T,wL (l++m)=wL l+wL m
 | [],m=>by simp [wL]
 | t::l,m=>by simp only [List.cons_append,wL,mE l m]; omega
theorem OP {n:Int} (h:0<=n/\n<26):okU 26 (.mk 1 n emptyB []):=by
 simp only [okU,lR]
 exact ⟨by decide,fun _=>⟨h.1,h.2,trivial,trivial⟩,trivial,by decide⟩
theorem OK {n:Int}:okU 26 (.mk 2 n emptyB []):=by
 simp only [okU,lR]
 exact ⟨by decide,(fun h=>by cases h),trivial,by decide⟩
theorem Ex {s:ByteArray} {ts:List T} (hs:s.size<=6) (h:lR 26 ts):okU 26 (.mk 3 0 s ts):=by
 simp only [okU]
 exact ⟨by decide,(fun h=>by cases h),h,hs⟩
theorem HU {N:Nat}:∀ {l m:List T},lR N l->lR N m->lR N (l++m)
 | [],_,_,h=>h
 | _::_,_,h,h'=>by
  rw [lR] at h
  rw [List.cons_append,lR]
  exact ⟨h.1,HU h.2 h'⟩
theorem tK {S:aF} {k n:Int} (hk:inI k) (hn:inI n):RdT S [.int .i64 k,.int .i64 n,.string ⟨#[]⟩,.slice none 0 0] (.mk k n emptyB []):=
 RdT.iff.2 ⟨_,rfl,hk,hn,Nat.zero_le _,jO S⟩
section
variable {w0 w:World} {X:List Nat} {L:List Item} {S:aF} {K:Value->World->Prop} {P:Program}
attribute [local irreducible] Run CondV ag be
theorem Run.callL {f:FuncId} {fn:Func} {args:List Value} {I:List Item} {Post:Value->List Item->aF->Prop}
  (hf:P.funcs[f]?=some fn) (hn:(fn.name == "runtime.NumGoroutine" || fn.body.isNone)=false) (h:Inv w0 X L S w) (hc:Tri P f args I S Post) (hL:L=L.dropLast++I)
  (hk:∀ v I' S' w',Post v I' S'->Ext w0.heap.size X S S'->Inv w0 X (L.dropLast++I') S' w'->K v w'):Run P (aG (.func (.func f) #[] #[]) args) w K:=
 Run.callE (A:=L.dropLast) hf hn (hL ▸ h) hc hk
theorem Fg {T:TypeId} {cx cy:Bool} {d:Nat} (hd:d<=1000000) (hk:K (.int .i64 (d:Int)) w):Run P (aq .sub T cx cy (.int .i64 ((d+1:Nat):Int)) (.int .i64 1)) w K:=by
 refine om (by omega) ?_
 rw [show ((d+1:Nat):Int) - 1=d by omega]
 exact hk
theorem Ff {B:Prop} {b d:Nat} {c:Array Value} {E:TypeId} {kv xs xa:Value} {css:List (List Value)} {F:Nat->List Item} {Q:List Value->Nat->aF->Prop} {p1:Nat} {S1:aF} {cs:List Value} {t:T}
  (hQ:Q cs p1 S1) (hr:RdT S1 cs t) (hI:Inv w0 X (.blk b (.cells c E)::bj kv ac 4 css::F p1) S1 w):pg B (yT w0 X b c d E kv css F Q (.agg cs.toArray) xs xa w) 1:=
 ⟨p1,S1,cs,hQ,⟨hr.length,hr.one⟩,rfl,hI⟩
end
section
variable {br:Nat} {sl:Value} {ys:List Nat}
attribute [local irreducible] Run CondV ag be
abbrev Kw (br:Nat) (sl:Value) (ys:List Nat) (d:Nat):Prop:=∀ (p:Nat) (S:aF),RdSl S 1 iU sl ys->p+3 * dW d<=1000000000->Tri Tryz.prog Kt [rdP br,.int .i64 (d:Int)] [rdI br sl p] S (PB br sl p d)
theorem Dc {d:Nat} (hd4:d<=4) (ih:∀ d',d'+1=d->Kw br sl ys d'):Kw br sl ys d:=by
 intro p S hrd hp w hI
 have hW:=Nq d
 refine BL ?_
 unfold ym
 refine bH hI bN fun b4 w' hI=>?_
 have hI:Inv w [br] [.blk b4 (.cells #[.int .i64 0,.int .i64 0,.string ⟨#[]⟩,.slice none 0 0] ac),rdI br sl p] S w':=hI.last 0 rfl
 refine ⟨fun v w'=>∃ (c:Bool) (p1:Nat),v=.bool c/\p1<=p+1/\(c=false->2<=d)/\Inv w [br] [.blk b4 (.cells #[.int .i64 0,.int .i64 0,.string ⟨#[]⟩,.slice none 0 0] ac),rdI br sl p1] S w',?_,?_⟩
 ·refine bU ?_
  by_cases hd:(d:Int)<2
  ·rw [decide_eq_true hd]
   repeat (first|refine ad ?_|refine af (by decide) ?_|refine ab ?_|refine ai ?_|refine ah ?_)
   exact ⟨true,p,rfl,by omega,(fun h=>by cases h),hI⟩
  ·rw [decide_eq_false hd]
   repeat (first|refine ad ?_|refine af (by decide) ?_|refine ab ?_|refine ai ?_|refine ah ?_)
   refine Run.callL c5 c8 hI (eB (n:=4) hrd (by omega) (by omega)) rfl fun v' I' S' w'=>?_
   rintro ⟨rfl,rfl,k,hk,rfl⟩ _ hI
   refine bR ?_
   repeat (first|refine ad ?_|refine af (by decide) ?_|refine ab ?_|refine ai ?_|refine ah ?_)
   exact ⟨_,p+1,rfl,by omega,fun _=>by omega,hI⟩
 intro t13 _ _ _ _ _ _ w'
 rintro ⟨c,p1,rfl,hp1,hcd,hI⟩
 refine ba (fun _=>?_) (fun hc=>?_)
 ·refine Run.callL c5 c8 hI (eB (n:=4) hrd (by omega) (by omega)) rfl fun v' I' S' w'=>?_
  rintro ⟨rfl,rfl,k,hk,rfl⟩ _ hI
  have hI:Inv w [br] [.blk b4 (.cells #[.int .i64 0,.int .i64 0,.string ⟨#[]⟩,.slice none 0 0] ac),rdI br sl (p1+1)] S' w':=hI
  refine bR ?_
  refine bk (fun _=>?_) (fun _=>?_)
  ·refine Run.callL c5 c8 hI (eB (n:=4) hrd (by omega) (by omega)) rfl fun v' I' S1 w'=>?_
   rintro ⟨rfl,rfl,k,hk,rfl⟩ _ hI
   refine Run.callPure Bp Bj hI (rm k S1) fun w' hI=>?_
   refine bf hI 0 rfl al rfl rfl (by simp [Value.oneCell']) fun w' hI=>?_
   refine cH hI 0 al rfl rfl ?_
   exact ⟨_,_,S1,rfl,hI.pick [false,true],Ext.refl _ _ _,p1+2,by omega,rfl,_,_,rfl,tK (by simp [inI]) (by simp only [inI]; omega),by have e:emptyB.size=0:=rfl; simp only [wT,wL,List.length_nil,e]; omega,OP (by omega)⟩
  refine bR ?_
  refine bk (fun _=>?_) (fun _=>?_)
  ·refine wG hI (by kernel_rfl) rfl (by omega) fun v S1 w' hE1 hv hI=>?_
   refine Run.callL fG fC hI (j6 (p:=p1+1) (hrd.monoU hE1.1) hv (by decide) (by omega)) rfl fun v' I' S2 w'=>?_
   rintro ⟨rfl,rfl,n,hn,rfl⟩ _ hI
   have hn:=p8 (a:=-1000) (b:=1000) hn (by decide)
   refine Run.callPure rE sk hI (lX n S2) fun w' hI=>?_
   refine bf hI 0 rfl al rfl rfl (by simp [Value.oneCell']) fun w' hI=>?_
   refine cH hI 0 al rfl rfl ?_
   exact ⟨_,_,S2,rfl,hI.pick [false,true],hE1,p1+2,by omega,rfl,_,_,rfl,tK (by simp [inI]) (by simp only [inI]; omega),by have e:emptyB.size=0:=rfl; simp only [wT,wL,List.length_nil,e]; omega,OK⟩
  ·refine vB hI (by kernel_rfl) rfl (by omega) fun v S1 w' hE1 hv hI=>?_
   refine Run.callL iR iT hI (tX (p:=p1+1) (hrd.monoU hE1.1) hv (by decide) (by omega)) rfl fun v' I' S2 w'=>?_
   rintro ⟨rfl,rfl,s,hs,rfl⟩ _ hI
   have hs:=zo (m:=3) hs (by decide)
   refine Run.call0E dY d5 hI (eG s (by simp only [maxLen]; omega) (jO S2) (by simp)) fun v' I' S3 w'=>?_
   rintro ⟨rfl,cs,rfl,hcs⟩ hE3 hI
   refine bf hI 0 rfl al (by simpa using hcs.length) rfl (by simpa using hcs.one) fun w' hI=>?_
   refine cH hI 0 al rfl (by simpa using hcs.length) ?_
   exact ⟨_,_,S3,rfl,hI.pick [false,true],hE1.trans hE3,p1+2,by omega,rfl,_,_,rfl,hcs,by simp only [wT,wL,List.length_nil]; omega,Ex (by omega) (by simp only [lR])⟩
 obtain ⟨d',rfl⟩:∃ d',d=d'+1:=⟨d - 1,by have:=hcd hc; omega⟩
 have ih:=ih d' rfl
 have hD:=Nq d'
 have hDs:=Oz d'
 have h3:dW d'<=486:=by
  have:3 ^ d'<=3 ^ 4:=Nat.pow_le_pow_right (by omega) (by omega)
  simp only [dW]; omega
 refine Run.callL c5 c8 hI (eB (n:=3) hrd (by omega) (by omega)) rfl fun v' I' S w'=>?_
 rintro ⟨rfl,rfl,k,hk,rfl⟩ _ hI
 refine bR ?_
 refine bk (fun _=>?_) (fun _=>?_)
 ·refine Fg (by omega) ?_
  refine Run.callL lL lD hI (ih (p1+1) S hrd (by omega)) rfl fun v' I' S1 w'=>?_
  rintro ⟨p2,hp2,rfl,cs1,t1,rfl,hc1,hw1,ho1⟩ hE1 hI
  refine Fg (by omega) ?_
  refine Run.callL lL lD hI (ih p2 S1 (hrd.monoU hE1.1) (by omega)) rfl fun v' I' S2 w'=>?_
  rintro ⟨p3,hp3,rfl,cs2,t2,rfl,hc2,hw2,ho2⟩ hE2 hI
  have hc1:=RdT.mono hE2.1 hc1
  obtain ⟨kv1,rfl,_,_,_,a1,q1,rfl,_⟩:=RdT.iff.1 hc1
  obtain ⟨kv2,rfl,_,_,_,a2,q2,rfl,_⟩:=RdT.iff.1 hc2
  refine sz (v:=fun b=>.slice (some ⟨b,0,none⟩) 2 2) (o:=.cells #[.int .i64 t1.kind,.int .i64 t1.n,.string t1.name,.slice a1 t1.kids.length q1,.int .i64 t2.kind,.int .i64 t2.n,.string t2.name,.slice a2 t2.kids.length q2] ac) hI (by kernel_rfl) fun b w' hI=>?_
  have hI:Inv w [br] ([.blk b4 (.cells #[.int .i64 0,.int .i64 0,.string ⟨#[]⟩,.slice none 0 0] ac),rdI br sl p3]++[_]) S2 w':=hI
  obtain ⟨S3,hI,hE3,hS⟩:=hI.pub1
  refine Run.call0E dY d5 hI (eG ⟨#[46]⟩ (by decide) (Ky hS (hc1.mono hE3.1) (hc2.mono hE3.1)) (by simp)) fun v' I' S4 w'=>?_
  rintro ⟨rfl,cs,rfl,hcs⟩ hE4 hI
  refine bf hI 0 rfl al (by simpa using hcs.length) rfl (by simpa using hcs.one) fun w' hI=>?_
  refine cH hI 0 al rfl (by simpa using hcs.length) ?_
  refine ⟨_,_,S4,rfl,hI.pick [false,true],(hE1.trans hE2).trans (hE3.trans hE4),p3,by omega,rfl,_,_,rfl,hcs,?_,Ex (by decide) (by simp only [lR]; exact ⟨ho1,ho2,trivial⟩)⟩
  have e:(ByteArray.mk #[46]).size=1:=rfl
  simp only [wT,wL,List.length_cons,List.length_nil,e]
  omega
 ·refine vB hI (by kernel_rfl) rfl (by omega) fun v S1 w' hE1 hv hI=>?_
  refine Run.callL iR iT hI (tX (p:=p1+1) (hrd.monoU hE1.1) hv (by decide) (by omega)) rfl fun v' I' S2 w'=>?_
  rintro ⟨rfl,rfl,s,hs,rfl⟩ _ hI
  have hs:=zo (m:=3) hs (by decide)
  refine Run.call0E dY d5 hI (tu s (jO S2) (by simp)) fun v' I' S3 w'=>?_
  rintro ⟨rfl,kv0,css0,rfl,rfl,hR0⟩ hE3 hI
  refine bH hI bN fun b5 w' hI=>?_
  obtain ⟨a0,n0,q0,rfl⟩:=hI.rowSlice 2 rfl
  refine bf hI 3 rfl al rfl rfl (by simp [Value.oneCell']) fun w' hI=>?_
  obtain ⟨B4,hB4⟩:∃ B4,B4=Item.blk b4 (.cells #[.int .i64 0,.int .i64 0,.string ⟨#[]⟩,.slice none 0 0] ac):=⟨_,rfl⟩
  have hI:Inv w [br] [.blk b5 (.cells #[.int .i64 3,.int .i64 0,.string s,.slice a0 n0 q0] ac),bj (.slice a0 n0 q0) ac 4 css0,B4,rdI br sl (p1+2)] S3 w':=by
   rw [hB4]
   exact ((hI.last 2 rfl).last 0 rfl).last 0 rfl
  refine wG hI (by kernel_rfl) rfl (by omega) fun v S4 w' hE4 hv hI=>?_
  refine Run.callL fG fC hI (j6 (p:=p1+2) (hrd.monoU ((hE1.trans hE3).trans hE4).1) hv (by decide) (by omega)) rfl fun v' I' S5 w'=>?_
  rintro ⟨rfl,rfl,n,hn,rfl⟩ _ hI
  have hn:=p8 (a:=1) (b:=3) hn (by decide)
  have hE5:Ext w.heap.size [br] S S5:=(hE1.trans hE3).trans hE4
  refine ⟨fun t w'=>∃ (j p2:Nat) (S6:aF) (kv:Value) (css:List (List Value)) (ts:List T),lR 26 ts/\t=.int .i64 (j:Int)/\ts.length+j<=3/\Rows 4 (RdT S6) css ts/\wL ts+3 * ts.length<=ts.length * dW d'/\p2+2 * ts.length<=p1+3+ts.length * dW d'/\Ext w.heap.size [br] S S6/\
   Inv w [br] [.blk b5 (.cells #[.int .i64 3,.int .i64 0,.string s,kv] ac),bj kv ac 4 css,B4,rdI br sl p2] S6 w',fun t _=>(intOf t).toNat,
   ⟨n.toNat,p1+3,S5,_,css0,[],by simp only [lR],by rw [Int.toNat_of_nonneg (by omega)],by simp; omega,hR0.monoR fun _ _ h=>RdT.mono hE4.1 h,by simp [wL],by simp,hE5,hI⟩,?_⟩
  intro t6 _ _ t63 t62 t61 t60 t59 t58 t57 t56 t55 _ _ w'
  rintro ⟨j,p2,S6,kv,css,ts,hou,rfl,hj,hR,hwts,hp2,hE6,hI⟩
  have hcl:=hR.hc
  have hm:ts.length * dW d'<=3 * dW d':=Nat.mul_le_mul_right _ (by omega)
  refine dX ?_
  refine bk (fun hj0=>?_) (fun hj0=>?_)
  ·obtain ⟨j',rfl⟩:∃ j',j=j'+1:=⟨j - 1,by omega⟩
   refine ⟨fun D ch cM cP cR cN cS cQ cO dj w_=>(D 0=true->dj=.pointer (some ⟨b5,3,none⟩))/\(D 1=true->cO=kv)/\(D 2=true->cQ=rdP br)/\(D 3=true->cS=.int .i64 ((d'+1:Nat):Int))/\(D 4=true->cN=.int .i64 (d':Int))/\(D 5=true->True)/\(D 6=true->True)/\(D 7=true->True)/\(D 8=true->ch=.pointer (some ⟨b5,3,none⟩))/\(D 9=true->True)/\∃ n_:Nat,n_<=4/\D 5=decide (1<=n_)/\D 6=decide (2<=n_)/\D 7=decide (3<=n_)/\D 9=decide (4<=n_)/\(D 9=true->D 1=true)/\(pg (Inv w [br] [.blk b5 (.cells #[.int .i64 3,.int .i64 0,.string s,kv] ac),bj kv ac 4 css,B4,rdI br sl p2] S6 w_) (yT w [br] b5 #[.int .i64 3,.int .i64 0,.string s,kv] 3 ac kv css (fun p=>[B4,rdI br sl p]) (fun cs p' S'=>∃ t,okU 26 t/\RdT S' cs t/\wT t+3<=dW d'/\p'+2<=p2+dW d'/\Ext w.heap.size [br] S6 S') cR cP cM w_) n_),⟨ae,ae,ae,ae,ae,ae,ae,ae,ae,ae,⟨0,Nat.zero_le _,rfl,rfl,rfl,rfl,(ae),hI.draw⟩⟩,⟨?_,?_,?_,?_,?_,?_,?_,?_,?_,?_,trivial⟩,?_⟩
   ·intro D aY  ch cM cP cR cN cS cQ cO dj w_
    rintro ⟨az,ay,aA,aB,aw,aD,aE,aI,aL,aP,⟨n_,ln_,e1_,e2_,e3_,e4_,kp_,hS⟩⟩
    refine bg aS ?_
    exact ⟨fun _=>rfl,ay,aA,aB,aw,aD,aE,aI,aL,aP,⟨n_,ln_,e1_,e2_,e3_,e4_,kp_,hS⟩⟩
   ·intro D aY ce ch cM cP cR cN cS cQ cO dj w_
    rintro ⟨az,ay,aA,aB,aw,aD,aE,aI,aL,aP,⟨n_,ln_,e1_,e2_,e3_,e4_,kp_,hS⟩⟩
    obtain rfl:=az ce
    have ln2_:=OJ e4_ kp_ aY
    refine dM aQ ((Jl (fun h=>h.cellL (i:=0) rfl) (fun n hn h=>Ee h hn) hS ln2_).trans rfl) ?_
    exact ⟨az,fun _=>rfl,aA,aB,aw,aD,aE,aI,aL,aP,⟨n_,ln_,e1_,e2_,e3_,e4_,(fun _=>rfl),hS⟩⟩
   ·intro D aY  ch cM cP cR cN cS cQ cO dj w_
    rintro ⟨az,ay,aA,aB,aw,aD,aE,aI,aL,aP,⟨n_,ln_,e1_,e2_,e3_,e4_,kp_,hS⟩⟩
    exact ⟨az,ay,fun _=>rfl,aB,aw,aD,aE,aI,aL,aP,⟨n_,ln_,e1_,e2_,e3_,e4_,kp_,hS⟩⟩
   ·intro D aY  ch cM cP cR cN cS cQ cO dj w_
    rintro ⟨az,ay,aA,aB,aw,aD,aE,aI,aL,aP,⟨n_,ln_,e1_,e2_,e3_,e4_,kp_,hS⟩⟩
    exact ⟨az,ay,aA,fun _=>rfl,aw,aD,aE,aI,aL,aP,⟨n_,ln_,e1_,e2_,e3_,e4_,kp_,hS⟩⟩
   ·intro D aY dF ch cM cP cR cN cS cQ cO dj w_
    rintro ⟨az,ay,aA,aB,aw,aD,aE,aI,aL,aP,⟨n_,ln_,e1_,e2_,e3_,e4_,kp_,hS⟩⟩
    obtain rfl:=aB dF
    refine Fg (by omega) ?_
    exact ⟨az,ay,aA,aB,fun _=>rfl,aD,aE,aI,aL,aP,⟨n_,ln_,e1_,e2_,e3_,e4_,kp_,hS⟩⟩
   ·intro D aY ev dS ch cM cP cR cN cS cQ cO dj w_
    rintro ⟨az,ay,aA,aB,aw,aD,aE,aI,aL,aP,⟨n_,ln_,e1_,e2_,e3_,e4_,kp_,hS⟩⟩
    obtain rfl:=aA ev
    obtain rfl:=aw dS
    obtain rfl:n_=0:=Ov e1_ aY
    refine Run.callL lL lD (L:=[.blk b5 _,bj _ ac 4 css,B4,rdI br sl p2]) hS (ih p2 S6 (hrd.monoU hE6.1) (by omega)) rfl fun v' I' S7 w_=>?_
    rintro ⟨p3,hp3,rfl,cs,t,rfl,hcs,hwt,hot⟩ hE7 hI
    exact ⟨az,ay,aA,aB,aw,fun _=>by first|assumption|trivial,aE,aI,aL,aP,⟨1,by decide,rfl,(by first|exact e2_|rfl),(by first|exact e3_|rfl),(by first|exact e4_|rfl),kp_,Ff ⟨t,hot,hcs,hwt,hp3,hE7⟩ hcs hI⟩⟩
   ·intro D aY dV ch cM cP cR cN cS cQ cO dj w_
    rintro ⟨az,ay,aA,aB,aw,aD,aE,aI,aL,aP,⟨n_,ln_,e1_,e2_,e3_,e4_,kp_,hS⟩⟩
    have PE:=aD dV
    obtain rfl:n_=1:=wk e1_ dV e2_ aY
    refine ap1 hS fun u w_ hS=>?_
    exact ⟨az,ay,aA,aB,aw,aD,fun _=>by first|assumption|trivial,aI,aL,aP,⟨2,by decide,(by first|exact e1_|rfl),rfl,(by first|exact e3_|rfl),(by first|exact e4_|rfl),kp_,hS⟩⟩
   ·intro D aY dI gg MG ch cM cP cR cN cS cQ cO dj w_
    rintro ⟨az,ay,aA,aB,aw,aD,aE,aI,aL,aP,⟨n_,ln_,e1_,e2_,e3_,e4_,kp_,hS⟩⟩
    obtain rfl:=ay dI
    have O8:=aE gg
    obtain rfl:n_=2:=wk e2_ gg e3_ aY
    refine ap2 hS (by omega) fun u w_ hS=>?_
    exact ⟨az,ay,aA,aB,aw,aD,aE,fun _=>by first|assumption|trivial,aL,aP,⟨3,by decide,(by first|exact e1_|rfl),(by first|exact e2_|rfl),rfl,(by first|exact e4_|rfl),kp_,hS⟩⟩
   ·intro D aY ce iL A8 EL Am Jm LM NN ch cM cP cR cN cS cQ cO dj w_
    rintro ⟨az,ay,aA,aB,aw,aD,aE,aI,aL,aP,⟨n_,ln_,e1_,e2_,e3_,e4_,kp_,hS⟩⟩
    refine bg aS ?_
    exact ⟨az,ay,aA,aB,aw,aD,aE,aI,fun _=>rfl,aP,⟨n_,ln_,e1_,e2_,e3_,e4_,kp_,hS⟩⟩
   ·intro D aY iM jL pA FI m0 Ei zB Bi EW Mi mo ch cM cP cR cN cS cQ cO dj w_
    rintro ⟨az,ay,aA,aB,aw,aD,aE,aI,aL,aP,⟨n_,ln_,e1_,e2_,e3_,e4_,kp_,hS⟩⟩
    obtain rfl:=aL iM
    have NY:=aI jL
    obtain rfl:n_=3:=wk e3_ jL e4_ aY
    refine ap3 hS (by simp) fun w_ hS=>?_
    exact ⟨az,ay,aA,aB,aw,aD,aE,aI,aL,fun _=>trivial,⟨4,by decide,(by first|exact e1_|rfl),(by first|exact e2_|rfl),(by first|exact e3_|rfl),rfl,(fun _=>m0),hS⟩⟩
   intro D iW gN f0 f1 fM fF fI fK fL fN ch cM cP cR cN cS cQ cO dj w_
   rintro ⟨az,ay,aA,aB,aw,aD,aE,aI,aL,aP,⟨n_,ln_,e1_,e2_,e3_,e4_,kp_,hS⟩⟩
   obtain rfl:n_=4:=Ow ln_ e4_ iW
   clear e1_ e2_ e3_ e4_
   obtain ⟨p3,S7,cs,⟨t,hot,hcs,hwt,hp3,hE7⟩,hl,hI⟩:=hS
   refine Fg (by omega) ?_
   refine ⟨⟨j',p3,S7,_,_,ts++[t],HU hou (by simp only [lR]; exact ⟨hot,trivial⟩),rfl,by rw [List.length_append]; simp only [List.length_cons,List.length_nil]; omega,(hR.monoR fun _ _ h=>RdT.mono hE7.1 h).snoc hcs hl.1,?_,?_,hE6.trans hE7,hI⟩,by simp only [intOf,Int.toNat_natCast]; omega⟩
   ·rw [mE,List.length_append,List.length_cons,List.length_nil,Nat.add_mul]
    simp only [wL]
    omega
   ·rw [List.length_append,List.length_cons,List.length_nil,Nat.add_mul]
    omega
  ·have hI:Inv w [br] ([.blk b5 (.cells #[.int .i64 3,.int .i64 0,.string s,kv] ac),B4,rdI br sl p2]++[bj kv ac 4 css]) S6 w':=hI.last 1 rfl
   refine bb hI 0 al rfl rfl ?_
   obtain ⟨S7,hE7,hrdr,hI⟩:=Inv.lendExt hI
   have hrs:=RowRd.rows (hR.monoR fun _ _ h=>RdT.mono hE7.1 h) hrdr
   obtain ⟨a,q,rfl,_⟩:=id hrs
   subst hB4
   refine bf hI 1 rfl al rfl rfl (by simp [Value.oneCell']) fun w' hI=>?_
   refine cH hI 1 al rfl rfl ?_
   refine ⟨_,_,S7,rfl,hI.pick [false,false,true],hE6.trans hE7,p2,?_,rfl,[.int .i64 3,.int .i64 0,.string s,_],.mk 3 0 s ts,rfl,RdT.iff.2 ⟨_,rfl,by simp [inI,T.kind],by simp [inI,T.n],by simp only [T.name,maxLen]; omega,hrs⟩,?_,Ex (by omega) hou⟩
   ·have:ts.length=0 ∨ ts.length=1 ∨ ts.length=2 ∨ ts.length=3:=by omega
    rcases this with h|h|h|h <;> rw [h] at hp2 hwts <;> omega
   ·simp only [wT]
    have:ts.length=0 ∨ ts.length=1 ∨ ts.length=2 ∨ ts.length=3:=by omega
    rcases this with h|h|h|h <;> rw [h] at hp2 hwts ⊢ <;> omega
theorem tq:∀ d:Nat,d<=4->Kw br sl ys d
 | 0,h=>Dc h fun d' e=>by omega
 | d+1,h=>Dc h fun d' e=>by
  obtain rfl:d'=d:=by omega
  exact tq _ (by omega)
abbrev Ny (br:Nat) (sl:Value) (p k m:Nat):Value->List Item->aF->Prop:=fun v I' S'=>∃ p',p'<=p+k/\I'=[rdI br sl p']/\∃ cs t,v=.agg cs.toArray/\RdT S' cs t/\wT t<=m
theorem ue {p:Nat} {S:aF} (hrd:RdSl S 1 iU sl ys) (hp:p<=100000000):Tri Tryz.prog KP [rdP br] [rdI br sl p] S (Ny br sl p 500 500):=by
 intro w hI
 refine z9 ?_
 unfold wZ
 refine bH hI bN fun b2 w' hI=>?_
 have hI:Inv w [br] [.blk b2 (.cells #[.int .i64 0,.int .i64 0,.string ⟨#[]⟩,.slice none 0 0] ac),rdI br sl p] S w':=hI.last 0 rfl
 refine wG hI (by kernel_rfl) rfl (by omega) fun v S1 w' hE1 hv hI=>?_
 refine Run.callL fG fC hI (j6 (p:=p) (hrd.monoU hE1.1) hv (by decide) (by omega)) rfl fun v' I' S2 w'=>?_
 rintro ⟨rfl,rfl,n,hn,rfl⟩ _ hI
 have hn:=p8 (a:=1) (b:=4) hn (by decide)
 obtain ⟨m,rfl⟩:∃ m:Nat,n=m:=⟨n.toNat,by rw [Int.toNat_of_nonneg (by omega)]⟩
 have h3:dW m<=486:=by
  have:3 ^ m<=3 ^ 4:=Nat.pow_le_pow_right (by omega) (by omega)
  simp only [dW]; omega
 refine Run.callL lL lD hI (tq m (by omega) (p+1) S2 (hrd.monoU hE1.1) (by omega)) rfl fun v' I' S3 w'=>?_
 rintro ⟨p1,hp1,rfl,cs,t,rfl,hcs,hw,_⟩ hE3 hI
 refine bf hI 0 rfl al (by simpa using hcs.length) rfl (by simpa using hcs.one) fun w' hI=>?_
 refine cH hI 0 al rfl (by simpa using hcs.length) ?_
 exact ⟨_,_,S3,rfl,hI.pick [false,true],hE1.trans hE3,p1,by omega,rfl,cs,t,rfl,hcs,by omega⟩
end
end Go.Proofs.YtemmhhdnlbmicaaGreat

/- spec.l1Mutate. -/
namespace Go.Proofs.YtemmhhdnlbmicaaGreat
open Go Go.RowKit
def xp (w:World) (b o:Nat):Nat:=match w.cell? ⟨b,o,none⟩ with
 | some (.slice _ n _)=>n
 | _=>0
theorem OI {Q Q2 B:Prop} {R:Nat->Prop} (h1:Q->B) (h3:Q2->B) (h2:∀ n,n<3->R n->B):∀ {n:Nat},pg Q (pg Q2 R) n->n<5->B
 | 0,h,_=>h1 h
 | 1,h,_=>h3 h
 | n+2,h,hn=>h2 n (by omega) h
theorem Ld {Q:Prop} {R:Nat->Prop} {n:Nat} (h:R n):pg Q R (n+1):=h
theorem DS {Q:Prop} {R:Nat->Prop} {n:Nat} (h:pg Q R (n+1)):R n:=h
section
variable {w0 w:World} {X:List Nat} {L A:List Item} {S:aF} {K:Value->World->Prop} {P:Program}
attribute [local irreducible] Run CondV ag be
theorem uP (h:Inv w0 X L S w) {i b o:Nat} {c:Array Value} {E:TypeId} {a:Option Addr} {n m:Nat} (hi:L[i]?=some (.blk b (.cells c E))) (hc:c[o]?=some (.slice a n m)):xp w b o=n:=by
 rw [xp,h.cellL hi,hc]
theorem ut {b:Nat} {k n:Int} {s:ByteArray} {kv:Value} {css:List (List Value)} {ks:List T} {o:Obj}
  (hI:Inv w0 X (.blk b o::bj kv ac 4 css::A) S w) (hR:Rows 4 (RdT S) css ks) (hk:inI k) (hn:inI n) (hs:s.size<=maxLen) :
  ∃ S',Ext w0.heap.size X S S'/\Inv w0 X (.blk b o::A) S' w/\RdT S' [.int .i64 k,.int .i64 n,.string s,kv] (.mk k n s ks)/\RdSl S' 4 (RdT S') kv ks:=by
 have hI:Inv w0 X ((.blk b o::A)++[bj kv ac 4 css]) S w:=hI.last 1 rfl
 obtain ⟨S',hE,hrd,hI⟩:=Inv.lendExt hI
 have hrs:=RowRd.rows (hR.monoR fun _ _ h=>RdT.mono hE.1 h) hrd
 exact ⟨S',hE,hI,RdT.iff.2 ⟨_,rfl,hk,hn,hs,hrs⟩,hrs⟩
end
section
variable {br:Nat} {sl:Value} {ys:List Nat}
attribute [local irreducible] Run CondV ag be
theorem pT {p:Nat} {S:aF} {cs:List Value} {t:T} (hrd:RdSl S 1 iU sl ys) (h:RdT S cs t) (hw:wT t<=100000) (hp:p<=100000000) :
  Tri Tryz.prog Fz [rdP br,.agg cs.toArray] [rdI br sl p] S (Ny br sl p 2 (wT t+100)):=by
 intro w hI
 have h0:=h
 obtain ⟨kv0,rfl,hk,hn,hs,hks⟩:=RdT.iff.1 h
 refine v6 ?_
 unfold re
 refine bO hI fun b3 w' hI=>?_
 refine bH hI bN fun b4 w' hI=>?_
 refine bb hI 1 al rfl rfl ?_
 refine Run.call0E fi fj hI (LK t S _ h0 (by omega)) fun v' I' S1 w'=>?_
 rintro ⟨kv,css,rfl,rfl,hR⟩ hE1 hI
 have hE1:Ext w.heap.size [br] S S1:=hE1
 obtain ⟨a0,n0,q0,rfl⟩:=hI.rowSlice 3 rfl
 refine bH hI bN fun b5 w' hI=>?_
 refine bf hI 4 rfl al rfl rfl (by simp [Value.oneCell']) fun w' hI=>?_
 obtain ⟨B4,hB4⟩:∃ B4,B4=Item.blk b4 (.cells #[.int .i64 0,.int .i64 0,.string ⟨#[]⟩,.slice none 0 0] ac):=⟨_,rfl⟩
 obtain ⟨k,hk'⟩:∃ k,k=t.kind:=⟨_,rfl⟩
 obtain ⟨n,hn'⟩:∃ n,n=t.n:=⟨_,rfl⟩
 obtain ⟨s,hs'⟩:∃ s,s=t.name:=⟨_,rfl⟩
 have hwt:wT t=s.size+t.kids.length+wL t.kids:=by rw [hs']; cases t; rw [wT]; rfl
 rw [<- hk',<- hn',<- hs'] at hI
 rw [<- hk'] at hk
 rw [<- hn'] at hn
 rw [<- hs'] at hs
 have hI:Inv w [br] [.blk b5 (.cells #[.int .i64 k,.int .i64 n,.string s,.slice a0 n0 q0] ac),bj (.slice a0 n0 q0) ac 4 css,B4,rdI br sl p] S1 w':=by
  rw [hB4]
  exact (((hI.pick [true,false,true,true,true]).last 2 rfl).last 1 rfl).last 0 rfl
 refine ⟨fun w'=>∃ (p1:Nat) (S2:aF) (cs1:List Value) (t1:T),p1<=p+2/\Ext w.heap.size [br] S S2/\RdT S2 cs1 t1/\wT t1<=wT t+100/\Inv w [br] [.blk b5 (.cells cs1.toArray ac),B4,rdI br sl p1] S2 w',?_,?_⟩
 ·have hfin:∀ {k n:Int} {s1:ByteArray} {p1:Nat} {w':World} {S1:aF} {css:List (List Value)} {kv:Value} {ks:List T},Ext w.heap.size [br] S S1->p1<=p+2->inI k->inI n->s1.size<=s.size+7->Rows 4 (RdT S1) css ks->ks.length<=t.kids.length+5->wL ks<=wL t.kids->
    Inv w [br] [.blk b5 (.cells #[.int .i64 k,.int .i64 n,.string s1,kv] ac),bj kv ac 4 css,B4,rdI br sl p1] S1 w'->
    ∃ (p1:Nat) (S2:aF) (cs1:List Value) (t1:T),p1<=p+2/\Ext w.heap.size [br] S S2/\RdT S2 cs1 t1/\wT t1<=wT t+100/\Inv w [br] [.blk b5 (.cells cs1.toArray ac),B4,rdI br sl p1] S2 w':=by
   intro k n s1 p1 w' S1 css kv ks hE hp1 hk hn hs1 hR hkl hkw hI
   obtain ⟨S2,hE2,hI,hr,_⟩:=ut (s:=s1) hI hR hk hn (by simp only [maxLen]; omega)
   exact ⟨p1,S2,_,_,hp1,hE.trans hE2,hr,by rw [wT,hwt]; omega,hI⟩
  refine Run.callL c5 c8 hI (eB (n:=50) (hrd.monoU hE1.1) (by omega) (by omega)) rfl fun v' I' S1 w'=>?_
  rintro ⟨rfl,rfl,kk,hkk,rfl⟩ _ hI
  refine bR ?_
  refine bk (fun _=>?_) (fun _=>?_)
  ·refine wG hI (by kernel_rfl) rfl (by omega) fun v S3 w' hE3 hv hI=>?_
   refine Run.callL fG fC hI (j6 (p:=p+1) (hrd.monoU (hE1.trans hE3).1) hv (by decide) (by omega)) rfl fun v' I' S3 w'=>?_
   rintro ⟨rfl,rfl,m,hm,rfl⟩ _ hI
   have hm:=p8 (a:=-1000) (b:=1000) hm (by decide)
   refine j0 hI 0 rfl bD bn rfl rfl rfl fun w' hI=>?_
   exact hfin (hE1.trans hE3) (Nat.le_refl _) (by simp only [inI]; omega) hn (by omega) (hR.monoR fun _ _ h=>RdT.mono hE3.1 h) (by omega) (Nat.le_refl _) hI
  refine bR ?_
  refine bk (fun _=>?_) (fun _=>?_)
  ·refine wG hI (by kernel_rfl) rfl (by omega) fun v S3 w' hE3 hv hI=>?_
   refine Run.callL fG fC hI (j6 (p:=p+1) (hrd.monoU (hE1.trans hE3).1) hv (by decide) (by omega)) rfl fun v' I' S3 w'=>?_
   rintro ⟨rfl,rfl,m,hm,rfl⟩ _ hI
   have hm:=p8 (a:=-1000) (b:=1000) hm (by decide)
   refine j0 hI 0 rfl bI bn rfl rfl rfl fun w' hI=>?_
   exact hfin (hE1.trans hE3) (Nat.le_refl _) hk (by simp only [inI]; omega) (by omega) (hR.monoR fun _ _ h=>RdT.mono hE3.1 h) (by omega) (Nat.le_refl _) hI
  refine bR ?_
  refine bk (fun _=>?_) (fun _=>?_)
  ·refine vB hI (by kernel_rfl) rfl (by omega) fun v S3 w' hE3 hv hI=>?_
   refine Run.callL iR iT hI (tX (p:=p+1) (hrd.monoU (hE1.trans hE3).1) hv (by decide) (by omega)) rfl fun v' I' S3 w'=>?_
   rintro ⟨rfl,rfl,m,hm,rfl⟩ _ hI
   have hm:=zo (m:=7) hm (by decide)
   refine j0 hI 0 rfl bo bm rfl rfl rfl fun w' hI=>?_
   exact hfin (hE1.trans hE3) (Nat.le_refl _) hk hn (by omega) (hR.monoR fun _ _ h=>RdT.mono hE3.1 h) (by omega) (Nat.le_refl _) hI
  refine bR ?_
  refine bk (fun _=>?_) (fun _=>?_)
  ·refine ⟨fun w'=>∃ (S2:aF) (kv:Value) (css:List (List Value)) (ks:List T),Ext w.heap.size [br] S S2/\Rows 4 (RdT S2) css ks/\ks.length<=t.kids.length+5/\wL ks<=wL t.kids/\
     Inv w [br] [.blk b5 (.cells #[.int .i64 k,.int .i64 n,.string s,kv] ac),bj kv ac 4 css,B4,rdI br sl (p+1)] S2 w',fun w'=>5 - xp w' b5 3,⟨S1,_,css,t.kids,hE1,hR,by omega,Nat.le_refl _,hI⟩,?_⟩
   intro t40 t39 t38 t37 t36 t35 _ _ _ _ w'
   rintro ⟨S2,kv,css,ks,hE2,hR,hkl,hkw,hI⟩
   obtain ⟨a1,n1,q1,rfl,hn1⟩:∃ a m c,kv=.slice a m c/\m=ks.length:=by
    obtain ⟨S',_,_,_,hr⟩:=ut hI hR hk hn hs
    obtain ⟨a,q,rfl,_⟩:=hr
    exact ⟨a,_,q,rfl,rfl⟩
   subst hn1
   have hl1:=uP hI (i:=0) (o:=3) rfl rfl
   have hcl:=hR.hc
   refine aJ hI 0 rfl aS aQ rfl ?_
   refine gD av ?_
   refine gk ?_
   refine bk (fun hle=>?_) (fun hle=>?_)
   ·have hI:=hI
    refine ⟨fun D gM eI eo eJ dZ d4 w_=>(D 0=true->d4=.pointer (some ⟨b5,3,none⟩))/\(D 1=true->dZ=.slice a1 ks.length q1)/\(D 2=true->True)/\(D 3=true->True)/\(D 4=true->True)/\(D 5=true->gM=.pointer (some ⟨b5,3,none⟩))/\(D 6=true->True)/\∃ n_:Nat,n_<=4/\D 2=decide (1<=n_)/\D 3=decide (2<=n_)/\D 4=decide (3<=n_)/\D 6=decide (4<=n_)/\(D 6=true->D 1=true)/\(pg (Inv w [br] [.blk b5 (.cells #[.int .i64 k,.int .i64 n,.string s,.slice a1 ks.length q1] ac),bj (.slice a1 ks.length q1) ac 4 css,B4,rdI br sl (p+1)] S2 w_) (yT w [br] b5 #[.int .i64 k,.int .i64 n,.string s,.slice a1 ks.length q1] 3 ac (.slice a1 ks.length q1) css (fun p=>[B4,rdI br sl (p+1)]) (fun cs p' S'=>p'=p/\S'=S2/\RdT S2 cs (.mk 2 1 emptyB [])) eJ eo eI w_) n_),⟨ae,ae,ae,ae,ae,ae,ae,⟨0,Nat.zero_le _,rfl,rfl,rfl,rfl,(ae),hI.draw⟩⟩,⟨?_,?_,?_,?_,?_,?_,?_,trivial⟩,?_⟩
    ·intro D aY  gM eI eo eJ dZ d4 w_
     rintro ⟨az,ay,aA,aB,aw,aD,aE,⟨n_,ln_,e1_,e2_,e3_,e4_,kp_,hS⟩⟩
     refine bg aS ?_
     exact ⟨fun _=>rfl,ay,aA,aB,aw,aD,aE,⟨n_,ln_,e1_,e2_,e3_,e4_,kp_,hS⟩⟩
    ·intro D aY ce gM eI eo eJ dZ d4 w_
     rintro ⟨az,ay,aA,aB,aw,aD,aE,⟨n_,ln_,e1_,e2_,e3_,e4_,kp_,hS⟩⟩
     obtain rfl:=az ce
     have ln2_:=OJ e4_ kp_ aY
     refine dM aQ ((Jl (fun h=>h.cellL (i:=0) rfl) (fun n hn h=>Ee h hn) hS ln2_).trans rfl) ?_
     exact ⟨az,fun _=>rfl,aA,aB,aw,aD,aE,⟨n_,ln_,e1_,e2_,e3_,e4_,(fun _=>rfl),hS⟩⟩
    ·intro D aY  gM eI eo eJ dZ d4 w_
     rintro ⟨az,ay,aA,aB,aw,aD,aE,⟨n_,ln_,e1_,e2_,e3_,e4_,kp_,hS⟩⟩
     obtain rfl:n_=0:=Ov e1_ aY
     refine Run.callPure rE sk (L:=[.blk b5 _,bj _ ac 4 css,B4,rdI br sl (p+1)]) hS (lX 1 S2) fun w_ hI=>?_
     exact ⟨az,ay,fun _=>by first|assumption|trivial,aB,aw,aD,aE,⟨1,by decide,rfl,(by first|exact e2_|rfl),(by first|exact e3_|rfl),(by first|exact e4_|rfl),kp_,Ff ⟨rfl,rfl,tK (by simp [inI]) (by simp [inI])⟩ (tK (by simp [inI]) (by simp [inI])) hI⟩⟩
    ·intro D aY ev gM eI eo eJ dZ d4 w_
     rintro ⟨az,ay,aA,aB,aw,aD,aE,⟨n_,ln_,e1_,e2_,e3_,e4_,kp_,hS⟩⟩
     have RF:=aA ev
     obtain rfl:n_=1:=wk e1_ ev e2_ aY
     refine ap1 hS fun u w_ hS=>?_
     exact ⟨az,ay,aA,fun _=>by first|assumption|trivial,aw,aD,aE,⟨2,by decide,(by first|exact e1_|rfl),rfl,(by first|exact e3_|rfl),(by first|exact e4_|rfl),kp_,hS⟩⟩
    ·intro D aY dI nl A8 gM eI eo eJ dZ d4 w_
     rintro ⟨az,ay,aA,aB,aw,aD,aE,⟨n_,ln_,e1_,e2_,e3_,e4_,kp_,hS⟩⟩
     obtain rfl:=ay dI
     have Rp:=aB nl
     obtain rfl:n_=2:=wk e2_ nl e3_ aY
     refine ap2 hS (by omega) fun u w_ hS=>?_
     exact ⟨az,ay,aA,aB,fun _=>by first|assumption|trivial,aD,aE,⟨3,by decide,(by first|exact e1_|rfl),(by first|exact e2_|rfl),rfl,(by first|exact e4_|rfl),kp_,hS⟩⟩
    ·intro D aY ce iL A8 EL Am gM eI eo eJ dZ d4 w_
     rintro ⟨az,ay,aA,aB,aw,aD,aE,⟨n_,ln_,e1_,e2_,e3_,e4_,kp_,hS⟩⟩
     refine bg aS ?_
     exact ⟨az,ay,aA,aB,aw,fun _=>rfl,aE,⟨n_,ln_,e1_,e2_,e3_,e4_,kp_,hS⟩⟩
    ·intro D aY dV dS jo FI m0 Ei zB Bi gM eI eo eJ dZ d4 w_
     rintro ⟨az,ay,aA,aB,aw,aD,aE,⟨n_,ln_,e1_,e2_,e3_,e4_,kp_,hS⟩⟩
     obtain rfl:=aD dV
     have PF:=aw dS
     obtain rfl:n_=3:=wk e3_ dS e4_ aY
     refine ap3 hS (by simp) fun w_ hS=>?_
     exact ⟨az,ay,aA,aB,aw,aD,fun _=>trivial,⟨4,by decide,(by first|exact e1_|rfl),(by first|exact e2_|rfl),(by first|exact e3_|rfl),rfl,(fun _=>m0),hS⟩⟩
    intro D f1 fM fF fI fK fL fN gM eI eo eJ dZ d4 w_
    rintro ⟨az,ay,aA,aB,aw,aD,aE,⟨n_,ln_,e1_,e2_,e3_,e4_,kp_,hS⟩⟩
    obtain rfl:n_=4:=Ow ln_ e4_ f1
    clear e1_ e2_ e3_ e4_
    obtain ⟨p3,S7,cs,⟨rfl,rfl,hcs⟩,hl,hI⟩:=hS
    have hR2:=hR.snoc hcs hl.1
    refine ⟨⟨S7,_,_,_,hE2,hR2,by rw [List.length_append]; simp only [List.length_cons,List.length_nil]; omega,by rw [mE]; have e:emptyB.size=0:=rfl; simp only [wL,wT,List.length_nil,e]; omega,hI⟩,?_⟩
    obtain ⟨S',_,_,_,hr⟩:=ut hI hR2 hk hn hs
    obtain ⟨a,q,e,_⟩:=hr
    have hl2:=uP hI (i:=0) (o:=3) (a:=a) (n:=(ks++[T.mk 2 1 emptyB []]).length) (m:=q) rfl (by rw [<- e]; rfl)
    show 5 - xp w_ b5 3<5 - xp w' b5 3
    rw [hl1,hl2,List.length_append,List.length_cons,List.length_nil]
    omega
   ·exact hfin hE2 (by omega) hk hn (by omega) hR hkl hkw hI
  refine bR ?_
  refine bk (fun _=>?_) (fun _=>?_)
  ·obtain ⟨S2,hE2,hI,hr,_⟩:=ut hI hR hk hn hs
   have hI:Inv w [br] [.blk b5 (.cells #[.int .i64 k,.int .i64 n,.string s,.slice a0 n0 q0] ac),B4,rdI br sl (p+1)] S2 w':=hI
   have ht:T.mk k n s t.kids=t:=by rw [hk',hn',hs']; cases t; rfl
   rw [ht] at hr
   refine ⟨fun t6 w'=>∃ (j:Nat) (S3:aF) (cs1:List Value) (t1:T),t6=.int .i64 (j:Int)/\j<=30/\Ext w.heap.size [br] S S3/\RdT S3 cs1 t1/\wT t1<=wT t+2 * j/\Inv w [br] [.blk b5 (.cells cs1.toArray ac),B4,rdI br sl (p+1)] S3 w',fun t6 _=>30 - (intOf t6).toNat,
    ⟨0,S2,_,t,rfl,by omega,hE1.trans hE2,hr,by omega,hI⟩,?_⟩
   intro t6 _ _ _ _ _ _ _ w'
   rintro ⟨j,S3,cs1,t1,rfl,hj,hE3,hr,hw1,hI⟩
   refine bU ?_
   refine bk (fun hj'=>?_) (fun hj'=>?_)
   ·refine bb hI 0 al rfl (by simpa using hr.length) ?_
    refine fl hI bM (by simp [Value.cells,hr.length]) (by omega) (by omega) fun b8 w' hI=>?_
    obtain ⟨S4,hI,hE4,hS⟩:=hI.pub1
    refine Run.call0E dY d5 hI (eG ⟨#[115]⟩ (by decide) (Ps hS (hr.mono hE4.1)) (by simp)) fun v' I' S5 w'=>?_
    rintro ⟨rfl,cs2,rfl,hcs2⟩ hE5 hI
    have hI:Inv w [br] [.blk b5 (.cells cs1.toArray ac),B4,rdI br sl (p+1)] S5 w':=by simpa using hI
    refine bf hI 0 rfl al (by simpa using hcs2.length) (by simpa using hr.length) (by simpa using hcs2.one) fun w' hI=>?_
    refine bP (by omega) ?_
    have e:(ByteArray.mk #[115]).size=1:=rfl
    exact ⟨⟨j+1,S5,cs2,_,rfl,by omega,hE3.trans (hE4.trans hE5),hcs2,by simp only [wT,wL,List.length_cons,List.length_nil,e]; omega,hI⟩,by simp only [intOf,Int.toNat_natCast]; omega⟩
   ·exact ⟨p+1,S3,cs1,t1,by omega,hE3,hr,by omega,hI⟩
  ·exact hfin hE1 (by omega) hk hn (by omega) hR (by omega) (Nat.le_refl _) hI
 intro _ _ _ _ _ _ _ _ _ _ _ _ _ _ _ _ _ _ _ _ _ _ _ _ _ _ _ _ _ _ _ _ _ _ _ _ _ _ _ _ _ _ w'
 rintro ⟨p1,S2,cs1,t1,hp1,hE2,hr,hw1,hI⟩
 subst hB4
 refine bb hI 0 al rfl (by simpa using hr.length) ?_
 refine bf hI 1 rfl al (by simpa using hr.length) rfl (by simpa using hr.one) fun w' hI=>?_
 refine cH hI 1 al rfl (by simpa using hr.length) ?_
 exact ⟨_,_,S2,rfl,hI.pick [false,false,true],hE2,p1,hp1,rfl,cs1,t1,rfl,hr,hw1⟩
end
end Go.Proofs.YtemmhhdnlbmicaaGreat

/- spec.l4Mutate, l4MutateAll. -/
namespace Go.Proofs.YtemmhhdnlbmicaaGreat
open Go Go.RowKit
section
variable {w0 w:World} {X:List Nat} {L A:List Item} {S:aF} {K:Value->World->Prop} {P:Program}
theorem zH {b:Nat} {hd:List Value} {h:T} {kv:Value} {css:List (List Value)} {ks:List T} {o:Obj}
  (hI:Inv w0 X (.blk b o::bj kv ac 4 css::A) S w) (hR:Rows 4 (RdT S) css ks) (hh:RdT S hd h) :
  ∃ S',Ext w0.heap.size X S S'/\Inv w0 X (.blk b o::A) S' w/\RdC S' (hd++[kv]) ⟨h,ks⟩/\RdSl S' 4 (RdT S') kv ks:=by
 have hI:Inv w0 X ((.blk b o::A)++[bj kv ac 4 css]) S w:=hI.last 1 rfl
 obtain ⟨S',hE,hrd,hI⟩:=Inv.lendExt hI
 have hrs:=RowRd.rows (hR.monoR fun _ _ h=>RdT.mono hE.1 h) hrd
 exact ⟨S',hE,hI,⟨hd,kv,rfl,hh.mono hE.1,hrs⟩,hrs⟩
end
abbrev Pj (br:Nat) (sl:Value) (p k m:Nat):Value->List Item->aF->Prop:=fun v I' S'=>∃ p',p'<=p+k/\I'=[rdI br sl p']/\∃ cs c,v=.agg cs.toArray/\RdC S' cs c/\wC c<=m
section
variable {br:Nat} {sl:Value} {ys:List Nat}
attribute [local irreducible] Run CondV ag be
theorem zE {p:Nat} {S:aF} {cs:List Value} {c:C} (hrd:RdSl S 1 iU sl ys) (h:RdC S cs c) (hw:wC c<=100000) (hp:p<=90000000) :
  Tri Tryz.prog EE [rdP br,.agg cs.toArray] [rdI br sl p] S (Pj br sl p 600 (wC c+700)):=by
 intro w hI
 have hl5:=h.length
 refine vH ?_
 unfold ra
 refine bO hI fun b3 w' hI=>?_
 refine bH hI eL fun b4 w' hI=>?_
 refine bb hI 1 bF rfl (by simpa [Value.cells] using hl5) ?_
 refine Run.call0E xo xx hI (MR h (by omega)) fun v' I' S1 w'=>?_
 rintro ⟨hd,kv,css,rfl,hhd,rfl,hR⟩ hE1 hI
 have hE1:Ext w.heap.size [br] S S1:=hE1
 obtain ⟨a0,n0,q0,rfl⟩:=hI.rowSlice 3 rfl
 have hhd0:=hhd
 obtain ⟨k4,rfl,hk,hn,hs,_⟩:=RdT.iff.1 hhd
 obtain ⟨ak,nk,ck,hk4⟩:∃ a n c,k4=.slice a n c:=by
  obtain ⟨_,e,_,_,_,a,q,rfl,_⟩:=RdT.iff.1 hhd0
  simp only [List.cons.injEq,and_true,true_and] at e
  exact ⟨_,_,_,e⟩
 subst hk4
 refine bH hI eL fun b5 w' hI=>?_
 refine bf hI 4 rfl bF rfl rfl (by simp [Value.oneCell']) fun w' hI=>?_
 obtain ⟨B4,hB4⟩:∃ B4,B4=Item.blk b4 (.cells #[.int .i64 0,.int .i64 0,.string ⟨#[]⟩,.slice none 0 0,.slice none 0 0] aR):=⟨_,rfl⟩
 have hI:Inv w [br] [.blk b5 (.cells #[.int .i64 c.head.kind,.int .i64 c.head.n,.string c.head.name,.slice ak nk ck,.slice a0 n0 q0] aR),bj (.slice a0 n0 q0) ac 4 css,B4,rdI br sl p] S1 w':=by
  rw [hB4]
  exact (((hI.pick [true,false,true,true,true]).last 2 rfl).last 1 rfl).last 0 rfl
 have hwc:wC c=wT c.head+c.body.length+wL c.body:=rfl
 refine ⟨fun w'=>∃ (p1:Nat) (S2:aF) (cs1:List Value) (c1:C),p1<=p+600/\Ext w.heap.size [br] S S2/\RdC S2 cs1 c1/\wC c1<=wC c+700/\Inv w [br] [.blk b5 (.cells cs1.toArray aR),B4,rdI br sl p1] S2 w',?_,?_⟩
 ·have hfin:∀ {hd:List Value} {h:T} {p1:Nat} {w':World} {S1:aF} {css:List (List Value)} {kv:Value} {ks:List T},Ext w.heap.size [br] S S1->p1<=p+600->RdT S1 hd h->Rows 4 (RdT S1) css ks->wT h+ks.length+wL ks<=wC c+700->
    Inv w [br] [.blk b5 (.cells (hd++[kv]).toArray aR),bj kv ac 4 css,B4,rdI br sl p1] S1 w'->
    ∃ (p1:Nat) (S2:aF) (cs1:List Value) (c1:C),p1<=p+600/\Ext w.heap.size [br] S S2/\RdC S2 cs1 c1/\wC c1<=wC c+700/\Inv w [br] [.blk b5 (.cells cs1.toArray aR),B4,rdI br sl p1] S2 w':=by
   intro hd h p1 w' S1 css kv ks hE hp1 hh hR hwn hI
   obtain ⟨S2,hE2,hI,hr,_⟩:=zH hI hR hh
   exact ⟨p1,S2,_,_,hp1,hE.trans hE2,hr,hwn,hI⟩
  refine Run.callL c5 c8 hI (eB (n:=40) (hrd.monoU hE1.1) (by omega) (by omega)) rfl fun v' I' S1 w'=>?_
  rintro ⟨rfl,rfl,kk,hkk,rfl⟩ _ hI
  refine bR ?_
  refine bk (fun _=>?_) (fun _=>?_)
  ·refine Run.callL xZ wR hI (ue (p:=p+1) (hrd.monoU hE1.1) (by omega)) rfl fun v' I' S2 w'=>?_
   rintro ⟨p2,hp2,rfl,cs2,t2,rfl,hr2,hw2⟩ hE2 hI
   refine Run.callL qN rl hI (pT (p:=p2) (hrd.monoU (hE1.trans hE2).1) hr2 (by omega) (by omega)) rfl fun v' I' S3 w'=>?_
   rintro ⟨p3,hp3,rfl,cs3,t3,rfl,hr3,hw3⟩ hE3 hI
   have hr3':=hr3
   obtain ⟨k3,rfl,_,_,_,a3,q3,rfl,_⟩:=RdT.iff.1 hr3
   refine bg dh ?_
   refine Ie hI 0 rfl al rfl rfl (by simp [Value.cells,Value.oneCell']) fun w' hI=>?_
   exact hfin ((hE1.trans hE2).trans hE3) (by omega) hr3' (hR.monoR fun _ _ h=>RdT.mono (hE2.trans hE3).1 h) (by omega) hI
  refine bR ?_
  refine bk (fun _=>?_) (fun _=>?_)
  ·have hcl:=hR.hc
   have hI:=hI
   refine ⟨fun D dg b0 bT bX ci cf cF cd bZ w_=>(D 0=true->bZ=.pointer (some ⟨b5,4,none⟩))/\(D 1=true->cd=.slice a0 n0 q0)/\(D 2=true->cF=rdP br)/\(D 3=true->cf=rdP br)/\(D 4=true->True)/\(D 5=true->True)/\(D 6=true->True)/\(D 7=true->True)/\(D 8=true->dg=.pointer (some ⟨b5,4,none⟩))/\(D 9=true->True)/\∃ n_:Nat,n_<=5/\D 4=decide (1<=n_)/\D 5=decide (2<=n_)/\D 6=decide (3<=n_)/\D 7=decide (4<=n_)/\D 9=decide (5<=n_)/\(D 9=true->D 1=true)/\(pg (Inv w [br] [.blk b5 (.cells #[.int .i64 c.head.kind,.int .i64 c.head.n,.string c.head.name,.slice ak nk ck,.slice a0 n0 q0] aR),bj (.slice a0 n0 q0) ac 4 css,B4,rdI br sl (p+1)] S1 w_) (pg (∃ p1 S2 cs t,ci=.agg cs.toArray/\RdT S2 cs t/\wT t<=500/\p1<=p+501/\Ext w.heap.size [br] S1 S2/\Inv w [br] [.blk b5 (.cells #[.int .i64 c.head.kind,.int .i64 c.head.n,.string c.head.name,.slice ak nk ck,.slice a0 n0 q0] aR),bj (.slice a0 n0 q0) ac 4 css,B4,rdI br sl p1] S2 w_) (yT w [br] b5 #[.int .i64 c.head.kind,.int .i64 c.head.n,.string c.head.name,.slice ak nk ck,.slice a0 n0 q0] 4 aR (.slice a0 n0 q0) css (fun p=>[B4,rdI br sl p]) (fun cs p' S'=>∃ t,RdT S' cs t/\wT t<=600/\p'<=p+503/\Ext w.heap.size [br] S1 S') bX bT b0 w_)) n_),⟨ae,ae,ae,ae,ae,ae,ae,ae,ae,ae,⟨0,Nat.zero_le _,rfl,rfl,rfl,rfl,rfl,(ae),hI.draw⟩⟩,⟨?_,?_,?_,?_,?_,?_,?_,?_,?_,?_,trivial⟩,?_⟩
   ·intro D aY  dg b0 bT bX ci cf cF cd bZ w_
    rintro ⟨az,ay,aA,aB,aw,aD,aE,aI,aL,aP,⟨n_,ln_,e1_,e2_,e3_,e4_,e5_,kp_,hS⟩⟩
    refine bg bp ?_
    exact ⟨fun _=>rfl,ay,aA,aB,aw,aD,aE,aI,aL,aP,⟨n_,ln_,e1_,e2_,e3_,e4_,e5_,kp_,hS⟩⟩
   ·intro D aY ce dg b0 bT bX ci cf cF cd bZ w_
    rintro ⟨az,ay,aA,aB,aw,aD,aE,aI,aL,aP,⟨n_,ln_,e1_,e2_,e3_,e4_,e5_,kp_,hS⟩⟩
    obtain rfl:=az ce
    have ln2_:=OJ e5_ kp_ aY
    refine dM aQ ((OI (fun h=>h.cellL (i:=0) rfl) (fun ⟨_,_,_,_,_,_,_,_,_,h⟩=>h.cellL (i:=0) rfl) (fun n hn h=>Ee h hn) hS ln2_).trans rfl) ?_
    exact ⟨az,fun _=>rfl,aA,aB,aw,aD,aE,aI,aL,aP,⟨n_,ln_,e1_,e2_,e3_,e4_,e5_,(fun _=>rfl),hS⟩⟩
   ·intro D aY  dg b0 bT bX ci cf cF cd bZ w_
    rintro ⟨az,ay,aA,aB,aw,aD,aE,aI,aL,aP,⟨n_,ln_,e1_,e2_,e3_,e4_,e5_,kp_,hS⟩⟩
    exact ⟨az,ay,fun _=>rfl,aB,aw,aD,aE,aI,aL,aP,⟨n_,ln_,e1_,e2_,e3_,e4_,e5_,kp_,hS⟩⟩
   ·intro D aY  dg b0 bT bX ci cf cF cd bZ w_
    rintro ⟨az,ay,aA,aB,aw,aD,aE,aI,aL,aP,⟨n_,ln_,e1_,e2_,e3_,e4_,e5_,kp_,hS⟩⟩
    exact ⟨az,ay,aA,fun _=>rfl,aw,aD,aE,aI,aL,aP,⟨n_,ln_,e1_,e2_,e3_,e4_,e5_,kp_,hS⟩⟩
   ·intro D aY dF dg b0 bT bX ci cf cF cd bZ w_
    rintro ⟨az,ay,aA,aB,aw,aD,aE,aI,aL,aP,⟨n_,ln_,e1_,e2_,e3_,e4_,e5_,kp_,hS⟩⟩
    obtain rfl:=aB dF
    obtain rfl:n_=0:=Ov e1_ aY
    refine Run.callL xZ wR (L:=[.blk b5 _,bj _ ac 4 css,B4,rdI br sl (p+1)]) hS (ue (p:=p+1) (hrd.monoU hE1.1) (by omega)) rfl fun v' I' S2 w_=>?_
    rintro ⟨p2,hp2,rfl,cs2,t2,rfl,hr2,hw2⟩ hE2 hI
    exact ⟨az,ay,aA,aB,fun _=>by first|assumption|trivial,aD,aE,aI,aL,aP,⟨1,by decide,rfl,(by first|exact e2_|rfl),(by first|exact e3_|rfl),(by first|exact e4_|rfl),(by first|exact e5_|rfl),kp_,⟨p2,S2,cs2,t2,rfl,hr2,hw2,by omega,hE2,hI⟩⟩⟩
   ·intro D aY ev dS jo dg b0 bT bX ci cf cF cd bZ w_
    rintro ⟨az,ay,aA,aB,aw,aD,aE,aI,aL,aP,⟨n_,ln_,e1_,e2_,e3_,e4_,e5_,kp_,hS⟩⟩
    obtain rfl:=aA ev
    have PF:=aw dS
    obtain rfl:n_=1:=wk e1_ dS e2_ aY
    obtain ⟨p2,S2,cs2,t2,rfl,hr2,hw2,hp2,hE2,hI⟩:=DS hS
    refine Run.callL qN rl (L:=[.blk b5 _,bj _ ac 4 css,B4,rdI br sl p2]) hI (pT (p:=p2) (hrd.monoU (hE1.trans hE2).1) hr2 (by omega) (by omega)) rfl fun v' I' S3 w_=>?_
    rintro ⟨p3,hp3,rfl,cs3,t3,rfl,hr3,hw3⟩ hE3 hI
    exact ⟨az,ay,aA,aB,aw,fun _=>by first|assumption|trivial,aE,aI,aL,aP,⟨2,by decide,(by first|exact e1_|rfl),rfl,(by first|exact e3_|rfl),(by first|exact e4_|rfl),(by first|exact e5_|rfl),kp_,Ld (Ff ⟨t3,hr3,by omega,by omega,hE2.trans hE3⟩ hr3 hI)⟩⟩
   ·intro D aY dV dg b0 bT bX ci cf cF cd bZ w_
    rintro ⟨az,ay,aA,aB,aw,aD,aE,aI,aL,aP,⟨n_,ln_,e1_,e2_,e3_,e4_,e5_,kp_,hS⟩⟩
    have PE:=aD dV
    obtain rfl:n_=2:=wk e2_ dV e3_ aY
    refine ap1 (DS hS) fun u w_ hS=>?_
    exact ⟨az,ay,aA,aB,aw,aD,fun _=>by first|assumption|trivial,aI,aL,aP,⟨3,by decide,(by first|exact e1_|rfl),(by first|exact e2_|rfl),rfl,(by first|exact e4_|rfl),(by first|exact e5_|rfl),kp_,Ld hS⟩⟩
   ·intro D aY dI gg MG dg b0 bT bX ci cf cF cd bZ w_
    rintro ⟨az,ay,aA,aB,aw,aD,aE,aI,aL,aP,⟨n_,ln_,e1_,e2_,e3_,e4_,e5_,kp_,hS⟩⟩
    obtain rfl:=ay dI
    have O8:=aE gg
    obtain rfl:n_=3:=wk e3_ gg e4_ aY
    refine ap2 (DS hS) (by omega) fun u w_ hS=>?_
    exact ⟨az,ay,aA,aB,aw,aD,aE,fun _=>by first|assumption|trivial,aL,aP,⟨4,by decide,(by first|exact e1_|rfl),(by first|exact e2_|rfl),(by first|exact e3_|rfl),rfl,(by first|exact e5_|rfl),kp_,Ld hS⟩⟩
   ·intro D aY ce iL A8 EL Am Jm LM NN dg b0 bT bX ci cf cF cd bZ w_
    rintro ⟨az,ay,aA,aB,aw,aD,aE,aI,aL,aP,⟨n_,ln_,e1_,e2_,e3_,e4_,e5_,kp_,hS⟩⟩
    refine bg bp ?_
    exact ⟨az,ay,aA,aB,aw,aD,aE,aI,fun _=>rfl,aP,⟨n_,ln_,e1_,e2_,e3_,e4_,e5_,kp_,hS⟩⟩
   ·intro D aY iM jL pA FI m0 Ei zB Bi EW Mi mo dg b0 bT bX ci cf cF cd bZ w_
    rintro ⟨az,ay,aA,aB,aw,aD,aE,aI,aL,aP,⟨n_,ln_,e1_,e2_,e3_,e4_,e5_,kp_,hS⟩⟩
    obtain rfl:=aL iM
    have NY:=aI jL
    obtain rfl:n_=4:=wk e4_ jL e5_ aY
    refine ap3 (DS hS) (by simp) fun w_ hS=>?_
    exact ⟨az,ay,aA,aB,aw,aD,aE,aI,aL,fun _=>trivial,⟨5,by decide,(by first|exact e1_|rfl),(by first|exact e2_|rfl),(by first|exact e3_|rfl),(by first|exact e4_|rfl),rfl,(fun _=>m0),Ld hS⟩⟩
   intro D iW gN f0 f1 fM fF fI fK fL fN dg b0 bT bX ci cf cF cd bZ w_
   rintro ⟨az,ay,aA,aB,aw,aD,aE,aI,aL,aP,⟨n_,ln_,e1_,e2_,e3_,e4_,e5_,kp_,hS⟩⟩
   obtain rfl:n_=5:=Ow ln_ e5_ iW
   clear e1_ e2_ e3_ e4_ e5_
   obtain ⟨p3,S7,cs,⟨t,hcs,hwt,hp3,hE7⟩,hl,hI⟩:=DS (DS hS)
   exact hfin (hE1.trans hE7) (by omega) (hhd0.mono hE7.1) ((hR.monoR fun _ _ h=>RdT.mono hE7.1 h).snoc hcs hl.1) (by rw [mE,List.length_append,List.length_cons,List.length_nil]; simp only [wL]; omega) hI
  refine bR ?_
  refine bk (fun _=>?_) (fun _=>?_)
  ·refine ⟨fun w'=>∃ (S2:aF) (kv:Value) (css:List (List Value)) (ks:List T),Ext w.heap.size [br] S S2/\Rows 4 (RdT S2) css ks/\ks.length<=c.body.length+7/\wL ks+4 * (7 - (ks.length - c.body.length))<=wL c.body+28/\c.body.length<=ks.length/\
     RdT S2 [.int .i64 c.head.kind,.int .i64 c.head.n,.string c.head.name,.slice ak nk ck] c.head/\
     Inv w [br] [.blk b5 (.cells #[.int .i64 c.head.kind,.int .i64 c.head.n,.string c.head.name,.slice ak nk ck,kv] aR),bj kv ac 4 css,B4,rdI br sl (p+1)] S2 w',fun w'=>7 - xp w' b5 4,⟨S1,_,css,c.body,hE1,hR,by omega,by omega,by omega,hhd0,hI⟩,?_⟩
   intro t39 t38 t37 t36 t35 t34 _ _ _ _ w'
   rintro ⟨S2,kv,css,ks,hE2,hR,hkl,hkw,hkb,hhd,hI⟩
   obtain ⟨a1,n1,q1,rfl,hn1⟩:∃ a m c,kv=.slice a m c/\m=ks.length:=by
    obtain ⟨S',_,_,_,hr⟩:=zH hI hR hhd
    obtain ⟨a,q,rfl,_⟩:=hr
    exact ⟨a,_,q,rfl,rfl⟩
   subst hn1
   have hl1:=uP hI (i:=0) (o:=4) rfl rfl
   have hcl:=hR.hc
   refine aJ hI 0 rfl bp aQ rfl ?_
   refine gD av ?_
   refine gk ?_
   refine bk (fun hle=>?_) (fun hle=>?_)
   ·have hI:=hI
    refine ⟨fun D eI eo eJ dZ d4 ii w_=>(D 0=true->ii=.pointer (some ⟨b5,4,none⟩))/\(D 1=true->d4=.slice a1 ks.length q1)/\(D 2=true->True)/\(D 3=true->True)/\(D 4=true->True)/\(D 5=true->eI=.pointer (some ⟨b5,4,none⟩))/\(D 6=true->True)/\∃ n_:Nat,n_<=4/\D 2=decide (1<=n_)/\D 3=decide (2<=n_)/\D 4=decide (3<=n_)/\D 6=decide (4<=n_)/\(D 6=true->D 1=true)/\(pg (Inv w [br] [.blk b5 (.cells #[.int .i64 c.head.kind,.int .i64 c.head.n,.string c.head.name,.slice ak nk ck,.slice a1 ks.length q1] aR),bj (.slice a1 ks.length q1) ac 4 css,B4,rdI br sl (p+1)] S2 w_) (yT w [br] b5 #[.int .i64 c.head.kind,.int .i64 c.head.n,.string c.head.name,.slice ak nk ck,.slice a1 ks.length q1] 4 aR (.slice a1 ks.length q1) css (fun p=>[B4,rdI br sl (p+1)]) (fun cs p' S'=>p'=p/\Ext w.heap.size [br] S2 S'/\RdT S' cs (.mk 3 0 ⟨#[116,114,117,101]⟩ [])) dZ eJ eo w_) n_),⟨ae,ae,ae,ae,ae,ae,ae,⟨0,Nat.zero_le _,rfl,rfl,rfl,rfl,(ae),hI.draw⟩⟩,⟨?_,?_,?_,?_,?_,?_,?_,trivial⟩,?_⟩
    ·intro D aY  eI eo eJ dZ d4 ii w_
     rintro ⟨az,ay,aA,aB,aw,aD,aE,⟨n_,ln_,e1_,e2_,e3_,e4_,kp_,hS⟩⟩
     refine bg bp ?_
     exact ⟨fun _=>rfl,ay,aA,aB,aw,aD,aE,⟨n_,ln_,e1_,e2_,e3_,e4_,kp_,hS⟩⟩
    ·intro D aY ce eI eo eJ dZ d4 ii w_
     rintro ⟨az,ay,aA,aB,aw,aD,aE,⟨n_,ln_,e1_,e2_,e3_,e4_,kp_,hS⟩⟩
     obtain rfl:=az ce
     have ln2_:=OJ e4_ kp_ aY
     refine dM aQ ((Jl (fun h=>h.cellL (i:=0) rfl) (fun n hn h=>Ee h hn) hS ln2_).trans rfl) ?_
     exact ⟨az,fun _=>rfl,aA,aB,aw,aD,aE,⟨n_,ln_,e1_,e2_,e3_,e4_,(fun _=>rfl),hS⟩⟩
    ·intro D aY  eI eo eJ dZ d4 ii w_
     rintro ⟨az,ay,aA,aB,aw,aD,aE,⟨n_,ln_,e1_,e2_,e3_,e4_,kp_,hS⟩⟩
     obtain rfl:n_=0:=Ov e1_ aY
     refine Run.call0E dY d5 (L:=[.blk b5 _,bj _ ac 4 css,B4,rdI br sl (p+1)]) hS (eG ⟨#[116,114,117,101]⟩ (by decide) (jO S2) (by simp)) fun v' I' S3 w_=>?_
     rintro ⟨rfl,cs3,rfl,hcs3⟩ hE3 hI
     exact ⟨az,ay,fun _=>by first|assumption|trivial,aB,aw,aD,aE,⟨1,by decide,rfl,(by first|exact e2_|rfl),(by first|exact e3_|rfl),(by first|exact e4_|rfl),kp_,Ff ⟨rfl,hE3,hcs3⟩ hcs3 hI⟩⟩
    ·intro D aY ev eI eo eJ dZ d4 ii w_
     rintro ⟨az,ay,aA,aB,aw,aD,aE,⟨n_,ln_,e1_,e2_,e3_,e4_,kp_,hS⟩⟩
     have RF:=aA ev
     obtain rfl:n_=1:=wk e1_ ev e2_ aY
     refine ap1 hS fun u w_ hS=>?_
     exact ⟨az,ay,aA,fun _=>by first|assumption|trivial,aw,aD,aE,⟨2,by decide,(by first|exact e1_|rfl),rfl,(by first|exact e3_|rfl),(by first|exact e4_|rfl),kp_,hS⟩⟩
    ·intro D aY dI nl A8 eI eo eJ dZ d4 ii w_
     rintro ⟨az,ay,aA,aB,aw,aD,aE,⟨n_,ln_,e1_,e2_,e3_,e4_,kp_,hS⟩⟩
     obtain rfl:=ay dI
     have Rp:=aB nl
     obtain rfl:n_=2:=wk e2_ nl e3_ aY
     refine ap2 hS (by omega) fun u w_ hS=>?_
     exact ⟨az,ay,aA,aB,fun _=>by first|assumption|trivial,aD,aE,⟨3,by decide,(by first|exact e1_|rfl),(by first|exact e2_|rfl),rfl,(by first|exact e4_|rfl),kp_,hS⟩⟩
    ·intro D aY ce iL A8 EL Am eI eo eJ dZ d4 ii w_
     rintro ⟨az,ay,aA,aB,aw,aD,aE,⟨n_,ln_,e1_,e2_,e3_,e4_,kp_,hS⟩⟩
     refine bg bp ?_
     exact ⟨az,ay,aA,aB,aw,fun _=>rfl,aE,⟨n_,ln_,e1_,e2_,e3_,e4_,kp_,hS⟩⟩
    ·intro D aY dV dS jo FI m0 Ei zB Bi eI eo eJ dZ d4 ii w_
     rintro ⟨az,ay,aA,aB,aw,aD,aE,⟨n_,ln_,e1_,e2_,e3_,e4_,kp_,hS⟩⟩
     obtain rfl:=aD dV
     have PF:=aw dS
     obtain rfl:n_=3:=wk e3_ dS e4_ aY
     refine ap3 hS (by simp) fun w_ hS=>?_
     exact ⟨az,ay,aA,aB,aw,aD,fun _=>trivial,⟨4,by decide,(by first|exact e1_|rfl),(by first|exact e2_|rfl),(by first|exact e3_|rfl),rfl,(fun _=>m0),hS⟩⟩
    intro D f1 fM fF fI fK fL fN eI eo eJ dZ d4 ii w_
    rintro ⟨az,ay,aA,aB,aw,aD,aE,⟨n_,ln_,e1_,e2_,e3_,e4_,kp_,hS⟩⟩
    obtain rfl:n_=4:=Ow ln_ e4_ f1
    clear e1_ e2_ e3_ e4_
    obtain ⟨p3,S7,cs,⟨rfl,hE7,hcs⟩,hl,hI⟩:=hS
    have hR2:=(hR.monoR fun _ _ h=>RdT.mono hE7.1 h).snoc hcs hl.1
    have e4:(ByteArray.mk #[116,114,117,101]).size=4:=rfl
    refine ⟨⟨S7,_,_,_,hE2.trans hE7,hR2,by rw [List.length_append]; simp only [List.length_cons,List.length_nil]; omega,by rw [mE,List.length_append,List.length_cons,List.length_nil]; simp only [wL,wT,List.length_nil,e4]; omega,by rw [List.length_append]; omega,hhd.mono hE7.1,hI⟩,?_⟩
    obtain ⟨S',_,_,_,hr⟩:=zH hI hR2 (hhd.mono hE7.1)
    obtain ⟨a,q,e,_⟩:=hr
    have hl2:=uP hI (i:=0) (o:=4) (a:=a) (n:=(ks++[T.mk 3 0 ⟨#[116,114,117,101]⟩ []]).length) (m:=q) rfl (by rw [<- e]; rfl)
    show 7 - xp w_ b5 4<7 - xp w' b5 4
    rw [hl1,hl2,List.length_append,List.length_cons,List.length_nil]
    omega
   ·exact hfin hE2 (by omega) hhd hR (by omega) hI
  refine bR ?_
  refine bk (fun _=>?_) (fun _=>?_)
  ·refine vB hI (by kernel_rfl) rfl (by omega) fun v S3 w' hE3 hv hI=>?_
   refine Run.callL iR iT hI (tX (p:=p+1) (hrd.monoU (hE1.trans hE3).1) hv (by decide) (by omega)) rfl fun v' I' S3 w'=>?_
   rintro ⟨rfl,rfl,m,hm,rfl⟩ _ hI
   have hm:=zo (m:=7) hm (by decide)
   refine bg dh ?_
   refine bg bo ?_
   refine eq hI 0 (n:=1) rfl (by decide +kernel) rfl (by simp) (by simp [Value.cells,Value.oneCell']) fun w' hI=>?_
   have hr0:=hhd0.mono hE3.1
   obtain ⟨k3,e3,_,_,_,hk3⟩:=RdT.iff.1 hr0
   have hr1:RdT S3 [.int .i64 c.head.kind,.int .i64 c.head.n,.string m,.slice ak nk ck] (.mk c.head.kind c.head.n m c.head.kids):=by
    simp only [List.cons.injEq,and_true,true_and] at e3
    exact RdT.iff.2 ⟨_,rfl,hk,hn,by simp only [T.name,maxLen]; omega,e3 ▸ hk3⟩
   refine hfin (hE1.trans hE3) (by omega) hr1 (hR.monoR fun _ _ h=>RdT.mono hE3.1 h) ?_ hI
   have:wT c.head=c.head.name.size+c.head.kids.length+wL c.head.kids:=by cases c.head; rw [wT]; rfl
   rw [wT]
   omega
  ·exact hfin hE1 (by omega) hhd0 hR (by omega) hI
 intro _ _ _ _ _ _ _ _ _ _ _ _ _ _ _ _ _ _ _ _ _ _ _ _ _ _ _ _ _ _ _ _ _ _ _ _ _ _ _ w'
 rintro ⟨p1,S2,cs1,c1,hp1,hE2,hr,hw1,hI⟩
 subst hB4
 refine bb hI 0 bF rfl (by simpa using hr.length) ?_
 refine bf hI 1 rfl bF (by simpa using hr.length) rfl (by simpa using hr.one) fun w' hI=>?_
 refine cH hI 1 bF rfl (by simpa using hr.length) ?_
 exact ⟨_,_,S2,rfl,hI.pick [false,false,true],hE2,p1,hp1,rfl,cs1,c1,rfl,hr,hw1⟩
end
end Go.Proofs.YtemmhhdnlbmicaaGreat

/- spec.l4MutateAll, l4Texts, l4Program, l4Clause, l14Two. -/
namespace Go.Proofs.YtemmhhdnlbmicaaGreat
open Go Go.RowKit
def Light (n m:Nat) (q:List C):Prop:=q.length<=n/\∀ c∈q,wC c<=m
theorem Light.le {n m:Nat} {q:List C} (h:Light n m q):q.length+wP q<=n+n * m:=by
 have:∀ q:List C,(∀ c∈q,wC c<=m)->wP q<=q.length * m:=by
  intro q
  induction q with
  | nil=>intro _; simp [wP]
  | cons c q ih=>
   intro h
   have h1:=h c (List.mem_cons_self ..)
   have h2:=ih fun d hd=>h d (List.mem_cons_of_mem _ hd)
   simp only [wP,List.length_cons,Nat.succ_mul]
   omega
 have h1:=this q h.2
 have h2:q.length * m<=n * m:=Nat.mul_le_mul_right _ h.1
 have:=h.1
 omega
theorem Light.append {n n' m:Nat} {q q':List C} (h:Light n m q) (h':Light n' m q'):Light (n+n') m (q++q'):=
 ⟨by rw [List.length_append]; exact Nat.add_le_add h.1 h'.1,fun c hc=>(List.mem_append.1 hc).elim (h.2 c) (h'.2 c)⟩
abbrev Pz (br:Nat) (sl:Value) (p k n m:Nat):Value->List Item->aF->Prop:=fun v I' S'=>∃ p',p'<=p+k/\I'=[rdI br sl p']/\∃ q,RdSl S' 5 (RdC S') v q/\Light n m q
/- a program that is still the caller's own row -/
abbrev Pp (br:Nat) (sl:Value) (p k n m:Nat):Value->List Item->aF->Prop:=fun v I' S'=>∃ p' css q,p'<=p+k/\I'=[bj v aR 5 css,rdI br sl p']/\Rows 5 (RdC S') css q/\Light n m q/\0<q.length/\∀ c∈q,dJ c=true
section
variable {w0 w:World} {X:List Nat} {L A:List Item} {S:aF}
theorem oJ {v:Value} {css:List (List Value)} {q:List C} (hI:Inv w0 X (bj v aR 5 css::A) S w) (hR:Rows 5 (RdC S) css q) :
  ∃ S',Ext w0.heap.size X S S'/\Inv w0 X A S' w/\RdSl S' 5 (RdC S') v q:=by
 have hI:Inv w0 X (A++[bj v aR 5 css]) S w:=hI.last 0 rfl
 obtain ⟨S',hE,hrd,hI⟩:=Inv.lendExt hI
 exact ⟨S',hE,hI,RowRd.rows (hR.monoR fun _ _ h=>RdC.mono hE.1 h) hrd⟩
end
section
variable {br:Nat} {sl:Value} {ys:List Nat}
attribute [local irreducible] Run CondV ag be
theorem P6:wC ⟨.mk 3 0 ⟨#[122]⟩ [],[]⟩=1:=by
 have e:(ByteArray.mk #[122]).size=1:=rfl
 simp only [wC,wT,wL,List.length_nil,e]
theorem lj {p m:Nat} {S:aF} {v:Value} {q:List C} (hrd:RdSl S 1 iU sl ys) (h:RdSl S 5 (RdC S) v q) (hq:Light 30 m q) (h0:0<q.length) (hm:m<=2000) (hp:p<=50000000) :
  Tri Tryz.prog yy [rdP br,v] [rdI br sl p] S (Pz br sl p 20000 30 (m+700)):=by
 intro w hI
 refine qp ?_
 unfold mp
 have hql:=hq.1
 refine fk hI jb fun v0 w' hI=>?_
 have hI:Inv w [br] [bj v0 aR 5 [],rdI br sl p] S w':=hI.last 0 rfl
 refine ⟨fun a b w'=>∃ (j p1:Nat) (S1:aF) (css:List (List Value)) (q1:List C),a=.int .i64 (j:Int)/\j<=q.length/\q1.length=j/\p1<=p+600 * j/\Ext w.heap.size [br] S S1/\Rows 5 (RdC S1) css q1/\(∀ c∈q1,wC c<=m+700)/\Inv w [br] [bj b aR 5 css,rdI br sl p1] S1 w',
  fun a _ _=>q.length - (intOf a).toNat,⟨0,p,S,[],[],rfl,Nat.zero_le _,rfl,by omega,Ext.refl _ _ _,Rows.nil _ _,by simp,hI⟩,?_⟩
 intro t6 _ _ t5 _ _ _ _ _ _ _ _ _ _ _ _ _ w'
 rintro ⟨j,p1,S1,css,q1,rfl,hj,hq1,hp1,hE1,hR,hqw,hI⟩
 have hcl:=hR.hc
 have h':=h.monoC hE1.1
 refine a9 h' c4 ?_
 refine bU ?_
 refine bk (fun hjl=>?_) (fun hjl=>?_)
 ·have hj':j<q.length:=by omega
  refine ec hI h' c4 bF hj' (fun _ _=>RdC.length) fun cs hcs=>?_
  have hwc:=hq.2 _ (List.getElem_mem hj')
  refine Run.callL BW C3 hI (zE (p:=p1) (hrd.monoU hE1.1) hcs (by omega) (by omega)) rfl fun v' I' S2 w'=>?_
  rintro ⟨p2,hp2,rfl,ds,d,rfl,hds,hwd⟩ hE2 hI
  refine gG (css:=css) hI 0 _ jb (by omega) (by omega) rfl hds.length hds.one (by omega) (by omega) fun v' w' hI=>?_
  refine bP (by omega) ?_
  have hpn:p2<=p+600 * (j+1):=Nat.le_trans hp2 (Nat.le_trans (Nat.add_le_add_right hp1 600) (by rw [Nat.mul_add,Nat.add_assoc]; exact Nat.le_refl _))
  exact ⟨⟨j+1,p2,S2,_,q1++[d],rfl,hj',by simp only [List.length_append,hq1,List.length_cons,List.length_nil,Nat.zero_add],hpn,hE1.trans hE2,(hR.monoR fun _ _ h=>RdC.mono hE2.1 h).snoc hds hds.length,fun c hc=>(List.mem_append.1 hc).elim (hqw c) (fun hc=>by simp only [List.mem_singleton] at hc; subst hc; omega),hI⟩,
   by simp only [intOf,Int.toNat_natCast]; omega⟩
 refine ⟨fun v w'=>∃ (p1:Nat) (S1:aF) (q1:List C),p1<=p+20000/\Ext w.heap.size [br] S S1/\RdSl S1 5 (RdC S1) v q1/\Light 30 (m+700) q1/\Inv w [br] [rdI br sl p1] S1 w',?_,?_⟩
 ·refine Run.callL c5 c8 hI (eB (n:=30) (hrd.monoU hE1.1) (by omega) (by omega)) rfl fun v' I' S1 w'=>?_
  rintro ⟨rfl,rfl,kk,hkk,rfl⟩ _ hI
  have hI:Inv w [br] [bj t5 aR 5 css,rdI br sl (p1+1)] S1 w':=hI
  refine bR ?_
  refine bk (fun _=>?_) (fun _=>?_)
  ·refine ⟨fun b w'=>∃ (S2:aF) (css:List (List Value)) (q1:List C),q1.length<=30/\Ext w.heap.size [br] S S2/\Rows 5 (RdC S2) css q1/\(∀ c∈q1,wC c<=m+700)/\Inv w [br] [bj b aR 5 css,rdI br sl (p1+1)] S2 w',
    fun b _=>30 - lenOf b,⟨S1,css,q1,by omega,hE1,hR,hqw,hI⟩,?_⟩
   intro t5 _ _ _ _ _ _ _ _ w'
   rintro ⟨S2,css,q1,hq1,hE2,hR,hqw,hI⟩
   have hlen:∀ {w':World} {S2:aF} {t5:Value} {css:List (List Value)} {q1:List C},Inv w [br] [bj t5 aR 5 css,rdI br sl (p1+1)] S2 w'->Rows 5 (RdC S2) css q1->∃ a m,t5=.slice a q1.length m:=by
    intro w' S2 t5 css q1 hI hR
    obtain ⟨_,_,_,a,m,e,_⟩:=oJ hI hR
    exact ⟨a,m,e⟩
   obtain ⟨a1,m1,rfl⟩:=hlen hI hR
   have hcl:=hR.hc
   refine gD c4 ?_
   refine gk ?_
   refine bk (fun hle=>?_) (fun hle=>?_)
   ·refine Run.call0E dY d5 hI (eG ⟨#[122]⟩ (by decide) (jO S2) (by simp)) fun v' I' S3 w'=>?_
    rintro ⟨rfl,cs3,rfl,hcs3⟩ hE3 hI
    obtain ⟨k3,rfl,_,_,_,a3,q3,rfl,_⟩:=RdT.iff.1 hcs3
    refine lA ?_
    have hds:RdC S3 [.int .i64 3,.int .i64 0,.string ⟨#[122]⟩,.slice a3 0 q3,.slice none 0 0] ⟨.mk 3 0 ⟨#[122]⟩ [],[]⟩:=⟨[.int .i64 3,.int .i64 0,.string ⟨#[122]⟩,.slice a3 0 q3],_,rfl,hcs3,jO S3⟩
    refine gG (css:=css) hI 0 [.int .i64 3,.int .i64 0,.string ⟨#[122]⟩,.slice a3 0 q3,.slice none 0 0] jb (by omega) (by omega) rfl rfl hds.one (by omega) (by omega) fun v' w' hI=>?_
    have hI:Inv w [br] [bj v' aR 5 (css++[_]),rdI br sl (p1+1)] S3 w':=hI
    have hR2:=(hR.monoR fun _ _ h=>RdC.mono hE3.1 h).snoc hds rfl
    obtain ⟨a2,m2,rfl⟩:=hlen hI hR2
    refine ⟨⟨S3,_,_,by rw [List.length_append]; simp only [List.length_cons,List.length_nil]; omega,hE2.trans hE3,hR2,fun c hc=>(List.mem_append.1 hc).elim (hqw c) (fun hc=>by simp only [List.mem_singleton] at hc; subst hc; rw [P6]; omega),hI⟩,?_⟩
    simp only [lenOf,List.length_append,List.length_cons,List.length_nil]
    omega
   ·obtain ⟨S3,hE3,hI,hr⟩:=oJ hI hR
    exact ⟨_,S3,q1,by omega,hE2.trans hE3,hr,⟨hq1,hqw⟩,hI⟩
  ·obtain ⟨S3,hE3,hI,hr⟩:=oJ hI hR
   refine bR ?_
   refine bk (fun _=>?_) (fun _=>?_)
   ·refine xh (l:=1) c4 hr (by omega) fun u hu=>?_
    exact ⟨_,S3,_,by omega,hE1.trans hE3,hu,⟨by rw [List.length_drop]; omega,fun c hc=>hqw c (List.mem_of_mem_drop hc)⟩,hI⟩
   ·exact ⟨_,S3,q1,by omega,hE1.trans hE3,hr,⟨by omega,hqw⟩,hI⟩
 intro _ _ _ _ t5 _ _ _ _ _ _ _ _ _ _ _ _ w'
 rintro ⟨p2,S2,q2,hp2,hE2,hr,hl,hI⟩
 exact ⟨_,_,S2,rfl,hI,hE2,p2,hp2,rfl,q2,hr,hl⟩
end
end Go.Proofs.YtemmhhdnlbmicaaGreat

/- spec.l4Texts, l4Program, l4Clause, l14Two. -/
namespace Go.Proofs.YtemmhhdnlbmicaaGreat
open Go Go.RowKit
def okS (s:ByteArray):Bool:=NH (bs s) && decide (s.size<=1000)
theorem Nb {s:ByteArray} (h:okS s=true):∃ q,La 60 (bs s)=some q/\0<q.length/\Light 8 200 q/\(∀ c∈q,dJ c=true)/\s.size<=1000:=by
 rw [okS,Bool.and_eq_true,decide_eq_true_eq] at h
 obtain ⟨h,hs⟩:=h
 unfold NH at h
 split at h
 ·rename_i q hq
  simp only [Bool.and_eq_true,decide_eq_true_eq,List.all_eq_true] at h
  exact ⟨q,hq,h.1,⟨h.2.1,fun c hc=>(h.2.2 c hc).2⟩,fun c hc=>(h.2.2 c hc).1,hs⟩
 ·cases h
section
attribute [local irreducible] Run CondV ag be
theorem De {S:aF} {s:ByteArray} (h:okS s=true):Tri Tryz.prog mq [.string s] [] S fun v I' S'=>∃ u css q,v=.tuple #[u,.bool true]/\I'=[bj u aR 5 css]/\Rows 5 (RdC S') css q/\0<q.length/\Light 8 200 q/\∀ c∈q,dJ c=true:=by
 obtain ⟨q,hq,h0,hl,hc,hs⟩:=Nb h
 intro w hI
 have hb:(bs s).length=s.size:=(mS (bs s)).symm
 refine (r2 (f:=60) (by omega) hq (by rw [hb]; omega) w hI).mono ?_
 rintro e w' ⟨v,I',S',rfl,hI,hE,u,css,rfl,rfl,hR⟩
 exact ⟨_,_,S',rfl,hI,hE,u,css,q,rfl,rfl,hR,h0,hl,hc⟩
theorem Cy (S:aF):Tri Tryz.prog H0 [] [] S fun v I' S'=>I'=[]/\∃ l,RdSl S' 1 uJ v l/\l.length=11/\l.all okS=true:=by
 intro w hI
 refine yv ?_
 unfold sX
 refine vB hI (by kernel_rfl) rfl (by omega) fun v S1 w' hE1 hv hI=>?_
 exact ⟨_,[],S1,rfl,hI,hE1,rfl,_,hv,rfl,by decide +kernel⟩
variable {br:Nat} {sl:Value} {ys:List Nat}
theorem yC {p:Nat} {S:aF} (hrd:RdSl S 1 iU sl ys) (hp:p<=100000000):Tri Tryz.prog CD [rdP br] [rdI br sl p] S (Pp br sl p 1 8 200):=by
 intro w hI
 refine tz ?_
 unfold pm
 refine Run.call0E Ey Eo hI (Cy S) fun v' I' S1 w'=>?_
 rintro ⟨rfl,l,hl,hl11,hok⟩ hE1 hI
 have hI:Inv w [br] [rdI br sl p] S1 w':=hI
 refine a9 hl dd ?_
 refine Run.callL c5 c8 hI (eB (n:=l.length) (hrd.monoU hE1.1) (by omega) (by omega)) rfl fun v' I' S1 w'=>?_
 rintro ⟨rfl,rfl,k,hk,rfl⟩ _ hI
 have hI:Inv w [br] [rdI br sl (p+1)] S1 w':=hI
 refine jD hI hl dd bm hk (fun cs hcs=>hcs) ?_
 rw [List.all_eq_true] at hok
 refine Run.call0E ly li hI (De (hok _ (List.getElem_mem hk))) fun v I' S2 w'=>?_
 rintro ⟨u,css,q,rfl,rfl,hR,h0,hq,hcv⟩ hE2 hI
 refine a7 (v:=u) rfl ?_
 refine a7 (v:=.bool true) rfl ?_
 exact ⟨_,_,S2,rfl,hI.last 0 rfl,hE1.trans hE2,p+1,css,q,Nat.le_refl _,rfl,hR,hq,h0,hcv⟩
end
end Go.Proofs.YtemmhhdnlbmicaaGreat

/- spec.l16Program, DrawFlatProgram, DrawStageModel. -/
namespace Go.Proofs.YtemmhhdnlbmicaaGreat
open Go Go.RowKit
section
variable {br:Nat} {sl:Value} {ys:List Nat} {S:aF}
attribute [local irreducible] Run CondV ag be
theorem Aw (S:aF):Tri Tryz.prog FT [] [] S fun v I' S'=>I'=[]/\∃ l,RdSl S' 1 uJ v l/\l.length=6/\l.all okS=true:=by
 intro w hI
 refine wH ?_
 unfold q9
 refine vB hI (by kernel_rfl) rfl (by omega) fun v S1 w' hE1 hv hI=>?_
 exact ⟨_,[],S1,rfl,hI,hE1,rfl,_,hv,rfl,by decide +kernel⟩
abbrev Om (br:Nat) (sl:Value) (p k:Nat):Value->List Item->aF->Prop:=fun u I' S'=>∃ p',p'<=p+k/\I'=[rdI br sl p']/\∃ ps,RdSl S' 5 (RdC S') u ps/\Light 8 200 ps/\0<ps.length
theorem mf {p:Nat} (hrd:RdSl S 1 iU sl ys) (hp:p<=10000000):Tri Tryz.prog zV [rdP br] [rdI br sl p] S (Om br sl p 3):=by
 intro w hI
 refine sv ?_
 unfold nK
 refine Run.call0E CH CV hI (Aw S) fun v' I' S1 w'=>?_
 rintro ⟨rfl,l,hl,hl6,hok⟩ hE1 hI
 have hI:Inv w [br] [rdI br sl p] S1 w':=hI
 refine a9 hl dd ?_
 refine Run.callL c5 c8 hI (eB (n:=l.length) (hrd.monoU hE1.1) (by omega) (by omega)) rfl fun v' I' S1 w'=>?_
 rintro ⟨rfl,rfl,k,hk,rfl⟩ _ hI
 have hI:Inv w [br] [rdI br sl (p+1)] S1 w':=hI
 refine jD hI hl dd bm hk (fun cs hcs=>hcs) ?_
 rw [List.all_eq_true] at hok
 refine Run.call0E ly li hI (De (hok _ (List.getElem_mem hk))) fun v I' S3 w'=>?_
 rintro ⟨u,css,ps,rfl,rfl,hR,h0,hps,_⟩ hE3 hI
 have hI:Inv w [br] [bj u aR 5 css,rdI br sl (p+1)] S3 w':=hI.last 0 rfl
 obtain ⟨S4,hE4,hI,hr⟩:=oJ hI hR
 have hE4:=hE1.trans (hE3.trans hE4)
 refine a7 (v:=u) rfl ?_
 refine a7 (v:=.bool true) rfl ?_
 refine ⟨fun t w'=>∃ (p2:Nat) (S5:aF) (q:List C),p2<=p+3/\Ext w.heap.size [br] S S5/\RdSl S5 5 (RdC S5) t q/\Light 8 200 q/\0<q.length/\Inv w [br] [rdI br sl p2] S5 w',?_,?_⟩
 ·refine Run.callL c5 c8 hI (eB (n:=8) (hrd.monoU hE4.1) (by omega) (by omega)) rfl fun v' I' S2 w'=>?_
  rintro ⟨rfl,rfl,k2,hk2,rfl⟩ _ hI
  refine bR ?_
  refine bk (fun _=>?_) (fun _=>⟨p+2,_,ps,by omega,hE4,hr,hps,h0,hI⟩)
  refine Run.callL A6 BR hI (yC (p:=p+1+1) (hrd.monoU hE4.1) (by omega)) rfl fun v1 I' S5 w'=>?_
  rintro ⟨p2,css1,q1,hp2,rfl,hR1,hq1,h1,_⟩ hE5 hI
  obtain ⟨S6,hE6,hI,hr6⟩:=oJ (A:=[rdI br sl p2]) hI hR1
  exact ⟨p2,S6,q1,by omega,hE4.trans (hE5.trans hE6),hr6,hq1,h1,hI⟩
 intro t4 _ _ _ _ _ w'
 rintro ⟨p2,S5,q,hp2,hE5,hr,hl,h0,hI⟩
 exact ⟨_,_,S5,rfl,hI,hE5,p2,hp2,rfl,q,hr,hl,h0⟩
abbrev Iv (v':Value) (I':List Item) (S':aF):Prop:=I'=[]/\∃ q,RdSl S' 5 (RdC S') v' q/\Light 30 900 q
theorem ik {v:Value} (h:RdSl S 1 iU v ys):Tri Tryz.prog qA [v] [] S Iv:=by
 intro w hI
 refine my ?_
 unfold jc
 refine Run.call0E tV sR hI (AP h) fun v1 I' S1 w'=>?_
 rintro ⟨rfl,br,sl,ys',rfl,rfl,hrd⟩ _ hI
 have hI:Inv w [] [rdI br sl 0] S1 w':=hI
 refine Run.callL nP nG hI (mf (p:=0) hrd (by omega)) rfl fun v2 I' S2 w'=>?_
 rintro ⟨p1,hp1,rfl,ps,hps,hlp,h0⟩ hE2 hI
 have hI:Inv w [] [rdI br sl p1] S2 w':=hI
 refine Run.callL mw ml hI (lj (m:=200) (p:=p1) (hrd.monoU hE2.1) hps ⟨by have:=hlp.1; omega,hlp.2⟩ h0 (by omega) (by omega)) rfl fun v3 I' S5 w'=>?_
 rintro ⟨p3,hp3,rfl,q2,hr2,hq2⟩ hE5 hI
 exact ⟨_,[],S5,rfl,Inv.nil hI,hE2.trans hE5,rfl,q2,hr2,hq2⟩
theorem rJ {v:Value} (h:RdSl S 1 iU v ys):Tri Tryz.prog wx [v] [] S Iv:=by
 intro w hI
 refine oB ?_
 unfold lH
 refine Run.call0E jf i8 hI (ik h) fun v I' S2 w'=>?_
 rintro ⟨rfl,q,hr,hl⟩ hE2 hI
 exact ⟨_,[],S2,rfl,hI,hE2,rfl,q,hr,hl⟩
theorem o9 {v:Value} (h:RdSl S 1 iU v ys):Tri Tryz.prog sx [v] [] S Iv:=by
 intro w hI
 refine ng ?_
 unfold jw
 refine Run.call0E jf i8 hI (ik h) fun v I' S2 w'=>?_
 rintro ⟨rfl,q,hr,hl⟩ hE2 hI
 exact ⟨_,[],S2,rfl,hI,hE2,rfl,q,hr,hl⟩
theorem oN {v:Value} (h:RdSl S 1 iU v ys):Tri Tryz.prog rV [v] [] S fun v' I' S'=>I'=[]/\∃ u q i,v'=.tuple #[u,.int .i64 i]/\(-1<=i/\i<=9223372036854775807)/\RdSl S' 5 (RdC S') u q/\Light 30 900 q:=by
 intro w hI
 refine nf ?_
 unfold jr
 refine Run.call0E tV sR hI (AP h) fun v1 I' S1 w'=>?_
 rintro ⟨rfl,br,sl,ys',rfl,rfl,hrd⟩ _ hI
 have hI:Inv w [] [rdI br sl 0] S1 w':=hI
 refine Run.callL nP nG hI (mf (p:=0) hrd (by omega)) rfl fun v2 I' S2 w'=>?_
 rintro ⟨p1,hp1,rfl,ps,hps,hlp,h0⟩ hE2 hI
 have hI:Inv w [] [rdI br sl p1] S2 w':=hI
 refine Run.callL mw ml hI (lj (m:=200) (p:=p1) (hrd.monoU hE2.1) hps ⟨by have:=hlp.1; omega,hlp.2⟩ h0 (by omega) (by omega)) rfl fun v3 I' S3 w'=>?_
 rintro ⟨p2,hp2,rfl,q2,hr,hl⟩ hE3 hI
 have hE3:=hE2.trans hE3
 have hI:Inv w [] [rdI br sl p2] S3 w':=hI
 refine wG hI (by kernel_rfl) rfl (by omega) fun v S4 w' hE4 hv hI=>?_
 refine Run.callL fG fC hI (j6 (p:=p2) (hrd.monoU (hE3.trans hE4).1) hv (by decide) (by omega)) rfl fun v' I' S4 w'=>?_
 rintro ⟨rfl,rfl,m,hm,rfl⟩ _ hI
 have hm:=p8 (a:=-1) (b:=9223372036854775807) hm (by decide)
 exact ⟨_,[],S4,rfl,Inv.nil hI,hE3.trans hE4,rfl,_,q2,m,rfl,hm,hr.monoC hE4.1,hl⟩
end
end Go.Proofs.YtemmhhdnlbmicaaGreat

/- slices.Insert of one element into a row of the caller's own. -/
namespace Go.Proofs.YtemmhhdnlbmicaaGreat
open Go Go.RowKit
section
variable {P:Program} {w w0:World} {X:List Nat} {L:List Item} {S:aF} {K:Value->World->Prop}
attribute [local irreducible] Run CondV ag be
theorem PY {T ty:TypeId} {cs:List Bool} {a:Option Addr} {n c:Nat} {Ek:TypeId × Nat} (hu:dD P T=some Ek) (hk:K (.int .i64 c) w):Run P (ar .cap #[T] ty cs [.slice a n c]) w K:=by
 obtain ⟨e,k⟩:=Ek
 obtain ⟨hT,_⟩:=gF hu
 refine Run.of ?_ hk
 simp [ar,builtin,Builtin.cap_,run_underlying hT,goInt]
theorem K3 {T ty e:TypeId} {k h g o len cap:Nat} (hT:dD P T=some (e,k)) (hh:h<=cap) (hk:K (.slice (some ⟨g,o,none⟩) h cap) w) :
  Run P (sOp (.slice T (.const (.slice (some ⟨g,o,none⟩) len cap)) none (some (.const (.int .i64 h))) none) ty) w K:=by
 refine KG hT hh ?_
 split
 ·exact hk
 ·simpa [gi] using hk
theorem iF {T ty e:TypeId} {k l g o len cap:Nat} (hT:dD P T=some (e,k)) (hl:l<=len) (hc:l<cap) (hk:K (.slice (some ⟨g,o+l * k,none⟩) (len - l) (cap - l)) w) :
  Run P (sOp (.slice T (.const (.slice (some ⟨g,o,none⟩) len cap)) (some (.const (.int .i64 l))) none none) ty) w K:=by
 refine AF hT hl ?_
 rw [if_neg (by omega)]
 simpa [gi] using hk
theorem ud (h:Inv w0 X L S w) {T ty e:TypeId} {k o dl dc sl sc:Nat} {cs:List Bool} {a:Addr} (j g n:Nat) (cur:Array Value) (E:TypeId) (news:List Value) (hT:dD P T=some (e,k)) (hi:L[j]?=some (.blk g (.cells cur E)))
  (hn:n=min sl dl) (hl:news.length=n * k) (hnews:∀ j u,news[j]?=some u->w.cell? (a.add j)=some u) (hfit:o+news.length<=cur.size) (h1:∀ u∈news,u.oneCell'=true)
  (hk:∀ w',Inv w0 X (L.set j (.blk g (.cells (bw cur o news) E))) S w'->K (goInt n) w') :
  Run P (ar .copy #[T,T] ty cs [.slice (some ⟨g,o,none⟩) dl dc,.slice (some a) sl sc]) w K:=by
 obtain ⟨hu,i,hi',hs⟩:=gF hT
 have hg:w.heap[g]?=some (.cells cur E):=h.its _ (List.mem_of_getElem? hi)
 have hld:=run_loadCells_list (P:=P) w a news hnews
 have hn:n=Nat.min sl dl:=hn
 rw [hl,hn] at hld
 have hst:=run_storeCells_at P g o E news 0 cur w hg (by simpa using hfit) h1
 rw [hn] at hk
 refine Run.of (v:=goInt (Nat.min sl dl)) (w':=w.setRow g (bw cur o news)) ?_ (hk _ (h.setBlk hi _ (Dl hg)))
 simp [ar,builtin,Builtin.copy_,run_underlying hu,Builtin.lenOf,Builtin.firstCells,sizeOf,typeInfo,hi',hs,hld,hst,bw]
theorem LS (h:Inv w0 X L S w) {T U ty e:TypeId} {k by_ j g i m cap:Nat} {cs:List Bool} {z:Value} {cur:Array Value} {E:TypeId} (hT:oY P T=some (e,k,by_,z)) (hU:P.underlying U=some (.int .i64)) (hk0:0<k)
  (hi:L[j]?=some (.blk g (.cells cur E))) (hsz:i * k<=cur.size) (hm:0<m) (hg:cap<i+m) (hfit:i+m<=4294967296) (hby:by_<=32768)
  (hk:∀ (nb nc:Nat) (c:Array Value) w',i+m<=nc->nc<=maxLen->c.size=nc * k->c.toList.take (i * k)=cur.toList.take (i * k)->Inv w0 X (L++[.blk nb (.cells c e)]) S w'->K (.slice (some ⟨nb,0,none⟩) (i+m) nc) w') :
  Run P (ar .append #[T,U] ty cs [.slice (some ⟨g,0,none⟩) i cap,.int .i64 m]) w K:=by
 obtain ⟨hu,inf,hi',hz,hs,hb,hzs⟩:=iw hT
 have hgw:w.heap[g]?=some (.cells cur E):=h.its _ (List.mem_of_getElem? hi)
 obtain ⟨olds,ho⟩:∃ olds,olds=cur.toList.take (i * k):=⟨_,rfl⟩
 have hlo:olds.length=i * inf.size:=by rw [ho,hs,List.length_take,Array.length_toList]; omega
 have holds:∀ j v,olds[j]?=some v->w.cell? ((⟨g,0,none⟩:Addr).add j)=some v:=by
  intro j v hj
  rw [gi,Nat.zero_add,cell_of_row w g j cur E (0,0) hgw]
  rw [ho,List.getElem?_take] at hj
  split at hj
  ·simpa using hj
  ·cases hj
 have hbytes:(i+m) * by_<=140737488355328:=Nat.le_trans (Nat.mul_le_mul hfit hby) (by decide)
 have hgf:=growslice_fits hg hbytes
 have hn:¬ (i+m<=cap):=by omega
 have hw:IntKind.i64.wrap (m:Int)=m:=IntWalk.i64_in _ (by omega)
 have hneg:¬ ((m:Int)<0):=by omega
 have hns:¬ (m * k=0):=Nat.mul_ne_zero (by omega) (by omega)
 have h63':¬ (9223372036854775807<(i:Int)+(m:Int)):=by omega
 have h48i:¬ (281474976710656<(m:Int) * (by_:Int)):=by
  have:m * by_<=(i+m) * by_:=Nat.mul_le_mul_right _ (by omega)
  rw [<- Int.natCast_mul]
  omega
 have h48':¬ (281474976710656<Builtin.nextslicecap (i+m) cap * by_):=by omega
 have hfo:=run_firstCells_some (P:=P) w.drew inf.size i ⟨g,0,none⟩ i cap olds hlo (by simpa using holds)
 rw [hs] at hfo
 refine Run.of (v:=.slice (some ⟨w.heap.size,0,none⟩) (i+m) (grownCap w (i+m) cap e))
  (w':=w.drew.alloc (.cells (olds.toArray++Builtin.zeroCells z.cells m++Builtin.zeroCells z.cells (grownCap w (i+m) cap e - (i+m))) e)) ?_ ?_
 ·simp [ar,builtin,Builtin.append_,run_underlying hu,run_underlying hU,sizeOf,typeInfo,zeroValue,hi',hz,hs,hb,asInt,asIntOf,hw,hn,hneg,hns,h63',h48',h48i,Question.forced,hfo,newRow,grownCap]
 ·have hge:=grownCap_ge w (i+m) cap e
  have hle:=grownCap_le_maxLen w (i+m) cap e (by simp only [maxLen]; omega)
  refine hk _ _ _ _ hge hle ?_ ?_ (h.draw.alloc _)
  ·simp only [Array.size_append,List.size_toArray,size_zeroCells,hzs,hlo,hs]
   rw [<- Nat.add_mul,<- Nat.add_mul]
   congr 1
   omega
  ·rw [<- ho]
   have:i * k=olds.length:=by rw [hlo,hs]
   rw [this]
   simp
theorem In (h:Inv w0 X L S w) {f:FuncId} {fn:Func} {T U e ea eb:TypeId} {k i j a b oa ob la lb cpa cpb:Nat} {ca cb:Array Value} (hf:P.funcs[f]?=some fn) (hn:(fn.name == "runtime.NumGoroutine")=false) (hb:fn.body.isNone=true)
  (hx:(Extern.findNext fn).isNone=true) (hy:Extern.find fn=some (Extern.SlicesOverlaps.overlaps #[T,T] #[U])) (hT:dD P T=some (e,k)) (hi:L[i]?=some (.blk a (.cells ca ea))) (hj:L[j]?=some (.blk b (.cells cb eb)))
  (hne:a≠b) (hcb:cb.size≠0) (hk:K (.bool false) w):Run P (aG (.func (.func f) #[] #[]) [.slice (some ⟨a,oa,none⟩) la cpa,.slice (some ⟨b,ob,none⟩) lb cpb]) w K:=by
 obtain ⟨hu,inf,hi',hs⟩:=gF hT
 have hga:w.heap[a]?=some (.cells ca ea):=h.its _ (List.mem_of_getElem? hi)
 have hgb:w.heap[b]?=some (.cells cb eb):=h.its _ (List.mem_of_getElem? hj)
 have hov:=Lib.run_overlaps_apart (P:=P) w T U e hu k (fun w=>by simp [sizeOf,typeInfo,hi',hs]) ⟨a,oa,none⟩ ⟨b,ob,none⟩ la cpa lb cpb hne ea eb ca.size cb.size (by simp [World.shape?,hga]) (by simp [World.shape?,hgb]) hcb
  (by simp [World.frozen?,hga]) (by simp [World.frozen?,hga])
 have hx':Extern.findNext fn=none:=by simpa using hx
 refine Run.of (v:=.bool false) (w':=w) ?_ hk
 have hcf:=run_callFunc_extern hf hn hb hx' hy #[.slice (some ⟨a,oa,none⟩) la cpa,.slice (some ⟨b,ob,none⟩) lb cpb] w
 rw [hov] at hcf
 simp [aG,Deferred.ofValue,invoke,hcf,Result.andThen]
end
theorem oq (c:Array Value) (o:Nat) (vs:List Value):(bw c o vs).toList=c.toList.take o++vs++c.toList.drop (o+vs.length):=rfl
theorem PS {c:Array Value} {p:Nat} {cs D:List Value} (h:p+cs.length+D.length<=c.size) :
  (bw (bw c p cs) (p+cs.length) D).toList.take (p+cs.length+D.length)=c.toList.take p++cs++D:=by
 have e:(bw c p cs).toList.take (p+cs.length)=c.toList.take p++cs:=by
  rw [oq,List.take_left']
  simp; omega
 rw [oq (bw c p cs),e,List.take_left']
 simp; omega
theorem PW {c:Array Value} {p:Nat} {cs D:List Value} (h:p+cs.length+D.length<=c.size) :
  (bw (bw c (p+cs.length) D) p cs).toList.take (p+cs.length+D.length)=c.toList.take p++cs++D:=by
 have e1:(bw c (p+cs.length) D).toList.take p=c.toList.take p:=by
  rw [oq,List.append_assoc,List.take_append_of_le_length (by simp; omega),List.take_take,Nat.min_eq_left (by omega)]
 have e2:(bw c (p+cs.length) D).toList.drop (p+cs.length)=D++c.toList.drop (p+cs.length+D.length):=by
  rw [oq,List.append_assoc,List.drop_left']
  simp; omega
 rw [oq (bw c (p+cs.length) D),e1,e2,<- List.append_assoc,List.take_left']
 simp; omega
section
attribute [local irreducible] Run CondV ag be
set_option maxHeartbeats 2000000 in
theorem Fk {S:aF} {v:Value} {css:List (List Value)} {cs:List Value} {ub i:Nat} (hk4:∀ c∈css,c.length=4) (h1:∀ c∈css,∀ u∈c,u.oneCell'=true) (hc4:cs.length=4) (hc1:∀ u∈cs,u.oneCell'=true)
  (hi:i<=css.length) (hn:css.length<=100000000) :
  Tri Tryz.prog zf [v,.int .i64 i,.slice (some ⟨ub,0,none⟩) 1 1] [bj v ac 4 css,.blk ub (.cells cs.toArray ac)] S fun r I' S'=>S'=S/\I'=[bj r ac 4 (css.take i++cs::css.drop i)]:=by
 intro w hI
 obtain ⟨X,hX⟩:∃ X,X=bY [bj v ac 4 css,.blk ub (.cells cs.toArray ac)]:=⟨_,rfl⟩
 rw [<- hX] at hI ⊢
 have hI:Inv w X ([.blk ub (.cells cs.toArray ac)]++[bj v ac 4 css]) S w:=hI.perm (List.Perm.swap ..)
 have hcl:(css.drop i).flatten.length=(css.length - i) * 4:=by
  rw [lh (k:=4) (fun c hc=>hk4 c (List.mem_of_mem_drop hc)),List.length_drop]
 have hct:(css.take i).flatten.length=i * 4:=by
  rw [lh (k:=4) (fun c hc=>hk4 c (List.mem_of_mem_take hc)),List.length_take,Nat.min_eq_left hi]
 have hsp:css.flatten=(css.take i).flatten++(css.drop i).flatten:=by rw [<- List.flatten_append,List.take_append_drop]
 have hd1:∀ u∈(css.drop i).flatten,u.oneCell'=true:=fun u hu=>by
  obtain ⟨c,hc,hu⟩:=List.mem_flatten.1 hu
  exact h1 c (List.mem_of_mem_drop hc) u hu
 obtain ⟨hfl,ho⟩:=hI.openRow
 have hv:∃ a cap,v=.slice a css.length cap/\css.length<=cap:=by
  rcases ho with ⟨rfl,h0⟩|⟨g,cap,cur,rfl,hnc,_⟩
  ·exact ⟨none,0,by rw [h0],by omega⟩
  ·exact ⟨_,cap,rfl,hnc⟩
 obtain ⟨a,cap,rfl,hncap⟩:=hv
 refine qq ?_
 unfold mF
 refine AF av hi ?_
 refine gD av ?_
 refine bR ?_
 refine bk (fun hb=>absurd hb (by decide)) (fun _=>?_)
 refine gD av ?_
 refine bR ?_
 refine bk (fun hin=>?_) (fun hin=>?_)
 ·have hin:i=css.length:=by omega
  refine fE hI 1 (m:=1) (o:=0) cs bM (by omega) rfl (by omega) (fun j u hj=>?_) hc1 (by omega) (by omega) fun v' w' hI=>?_
  ·rw [hI.cellL (i:=0) rfl,Nat.zero_add]
   simpa using hj
  ·have e:css.take i++cs::css.drop i=css++[cs]:=by rw [hin,List.take_length,List.drop_length]
   rw [e]
   rw [ge] at hI
   exact ⟨_,_,_,rfl,hI.pick [false,true],Ext.refl _ _ _,rfl,rfl⟩
 have hlt:i<css.length:=by omega
 rcases ho with ⟨_,h0⟩|⟨g,cap',cur,hveq,hnc,hcm,hcs,ht,hJ⟩
 ·omega
 simp only [Value.slice.injEq] at hveq
 obtain ⟨rfl,_,rfl⟩:=hveq
 replace hI:=hJ
 have hcapt:cur.toList.take (i * 4)=(css.take i).flatten:=by
  have:cur.toList.take (i * 4)=(cur.toList.take (css.length * 4)).take (i * 4):=by rw [List.take_take,Nat.min_eq_left (by omega)]
  rw [this,ht,hsp,List.take_left' hct]
 have hD:∀ j u,(css.drop i).flatten[j]?=some u->cur[i * 4+j]?=some u:=by
  intro j u hj
  have hjl:=(List.getElem?_eq_some_iff.1 hj).1
  have:css.flatten[i * 4+j]?=some u:=by rw [hsp,List.getElem?_append_right (by omega),hct,Nat.add_sub_cancel_left]; exact hj
  rw [<- ht,List.getElem?_take,if_pos (by omega)] at this
  simpa using this
 have hsz:(css.length - i) * 4+(i * 4)=css.length * 4:=by omega
 have hnd:=hI.nd
 have hne:ub≠g:=by
  intro e
  rw [e] at hnd
  simp [bY,Item.foot] at hnd
 have hfin:∀ (nb nc:Nat) (c:Array Value) (w':World) (hI:Inv w X ([.blk nb (.cells c ac)]:List Item) S w') (_:css.length+1<=nc) (_:nc<=maxLen) (_:c.size=nc * 4) (_:c.toList.take (i * 4+cs.length+(css.drop i).flatten.length)=(css.take i).flatten++cs++(css.drop i).flatten),
   ∃ v I' S',Ending.returned (.slice (some ⟨nb,0,none⟩) (css.length+1) nc)=.returned v/\Inv w X I' S' w'/\Ext w.heap.size X S S'/\S'=S/\I'=[bj v ac 4 (css.take i++cs::css.drop i)]:=by
  intro nb nc c w' hI hnc hcm hcs htk
  have hI:=Inv.closeRow (A:=[]) (k:=4) (n:=css.length+1) hI hnc hcm hcs
  have e1:(css.length+1) * 4=i * 4+cs.length+(css.drop i).flatten.length:=by omega
  have e2:(css.take i++cs::css.drop i).length=css.length+1:=by simp; omega
  have e3:(css.take i++cs::css.drop i).flatten=(css.take i).flatten++cs++(css.drop i).flatten:=by simp
  refine ⟨_,_,_,rfl,hI,Ext.refl _ _ _,rfl,?_⟩
  rw [e1,htk,bj,e2,e3]
  rfl
 simp only [maxLen] at hcm
 refine bP (by omega) ?_
 refine PY av ?_
 refine dX ?_
 refine bk (fun hgr=>?_) (fun hgr=>?_)
 ·have hgr':cap<css.length+1:=by omega
  refine K3 av (by omega) ?_
  refine bP (by omega) ?_
  refine om (by omega) ?_
  have e:((css.length:Int)+1 - (i:Int))=((css.length+1 - i:Nat):Int):=by omega
  rw [show ((css.length:Int)+((1:Nat):Int) - (i:Int))=((css.length+1 - i:Nat):Int) by omega]
  refine LS hI bM (U:=fx) (by kernel_rfl) (by omega) (j:=1) rfl (by omega) (by omega) (by omega) (by omega) (by omega) fun nb nc c w' hnc hcm2 hcsz hctk hI=>?_
  have hI:Inv w X [.blk ub (.cells cs.toArray ac),.blk g (.cells cur ac),.blk nb (.cells c ac)] S w':=hI
  rw [show i+(css.length+1 - i)=css.length+1 by omega] at hnc ⊢
  refine iF av (by omega) (by omega) ?_
  rw [Nat.zero_add]
  refine ud hI 2 nb 1 c ac cs av rfl (by omega) (by omega) (fun j u hj=>?_) (by omega) hc1 fun w' hI=>?_
  ·rw [gi,hI.cellL (i:=0) rfl,Nat.zero_add]
   simpa using hj
  have hI:Inv w X [.blk ub (.cells cs.toArray ac),.blk g (.cells cur ac),.blk nb (.cells (bw c (i * 4) cs) ac)] S w':=hI
  have hsz2:(bw c (i * 4) cs).size=c.size:=gd _ _ _ (by omega)
  refine ⟨fun D cZ dt cY cX cW cU bV bW db w_=>(D 0=true->db=.slice (some ⟨nb,0,none⟩) (css.length+1) nc)/\(D 1=true->bW=.int .i64 i)/\(D 2=true->bV=.int .i64 (1:Nat))/\(D 3=true->cU=.int .i64 (i+1:Nat))/\(D 4=true->cW=.slice (some ⟨nb,(i+1) * 4,none⟩) (css.length+1 - (i+1)) (nc - (i+1)))/\(D 5=true->cX=.slice (some ⟨g,0,none⟩) css.length cap)/\(D 6=true->cY=.int .i64 i)/\(D 7=true->dt=.slice (some ⟨g,i * 4,none⟩) (css.length - i) (cap - i))/\(D 8=true->cZ=goInt (css.length - i:Nat))/\Inv w X [.blk ub (.cells cs.toArray ac),.blk g (.cells cur ac),.blk nb (.cells (cond (D 8) (bw (bw c (i * 4) cs) (i * 4+cs.length) (css.drop i).flatten) (bw c (i * 4) cs)) ac)] S w_,⟨ae,ae,ae,ae,ae,ae,ae,ae,ae,hI.draw⟩,⟨?_,?_,?_,?_,?_,?_,?_,?_,?_,trivial⟩,?_⟩
  ·intro D aY  cZ dt cY cX cW cU bV bW db w_
   rintro ⟨az,ay,aA,aB,aw,aD,aE,aI,aL,hI⟩
   exact ⟨fun _=>rfl,ay,aA,aB,aw,aD,aE,aI,aL,hI⟩
  ·intro D aY  cZ dt cY cX cW cU bV bW db w_
   rintro ⟨az,ay,aA,aB,aw,aD,aE,aI,aL,hI⟩
   exact ⟨az,fun _=>rfl,aA,aB,aw,aD,aE,aI,aL,hI⟩
  ·intro D aY  cZ dt cY cX cW cU bV bW db w_
   rintro ⟨az,ay,aA,aB,aw,aD,aE,aI,aL,hI⟩
   exact ⟨az,ay,fun _=>rfl,aB,aw,aD,aE,aI,aL,hI⟩
  ·intro D aY dI gJ cZ dt cY cX cW cU bV bW db w_
   rintro ⟨az,ay,aA,aB,aw,aD,aE,aI,aL,hI⟩
   obtain rfl:=ay dI
   obtain rfl:=aA gJ
   refine bP (by omega) ?_
   exact ⟨az,ay,aA,fun _=>rfl,aw,aD,aE,aI,aL,hI⟩
  ·intro D aY ce nl cZ dt cY cX cW cU bV bW db w_
   rintro ⟨az,ay,aA,aB,aw,aD,aE,aI,aL,hI⟩
   obtain rfl:=az ce
   obtain rfl:=aB nl
   refine iF av (by omega) (by omega) ?_
   rw [Nat.zero_add]
   exact ⟨az,ay,aA,aB,fun _=>rfl,aD,aE,aI,aL,hI⟩
  ·intro D aY  cZ dt cY cX cW cU bV bW db w_
   rintro ⟨az,ay,aA,aB,aw,aD,aE,aI,aL,hI⟩
   exact ⟨az,ay,aA,aB,aw,fun _=>rfl,aE,aI,aL,hI⟩
  ·intro D aY  cZ dt cY cX cW cU bV bW db w_
   rintro ⟨az,ay,aA,aB,aw,aD,aE,aI,aL,hI⟩
   exact ⟨az,ay,aA,aB,aw,aD,fun _=>rfl,aI,aL,hI⟩
  ·intro D aY dV gg cZ dt cY cX cW cU bV bW db w_
   rintro ⟨az,ay,aA,aB,aw,aD,aE,aI,aL,hI⟩
   obtain rfl:=aD dV
   obtain rfl:=aE gg
   refine iF av (by omega) (by omega) ?_
   rw [Nat.zero_add]
   exact ⟨az,ay,aA,aB,aw,aD,aE,fun _=>rfl,aL,hI⟩
  ·intro D aY cK jL cZ dt cY cX cW cU bV bW db w_
   rintro ⟨az,ay,aA,aB,aw,aD,aE,aI,aL,hI⟩
   obtain rfl:=aw cK
   obtain rfl:=aI jL
   have hI:Inv w X [.blk ub (.cells cs.toArray ac),.blk g (.cells cur ac),.blk nb (.cells (bw c (i * 4) cs) ac)] S w_:=by rw [aY] at hI; exact hI
   refine ud hI 2 nb (css.length - i) (bw c (i * 4) cs) ac (css.drop i).flatten av rfl (by omega) (by omega) (fun j u hj=>by rw [gi,hI.cellL (i:=1) rfl]; exact hD j u hj) (by omega) hd1 fun w' hI=>?_
   rw [show (i+1) * 4=i * 4+cs.length by omega] at hI
   exact ⟨az,ay,aA,aB,aw,aD,aE,aI,fun _=>rfl,hI⟩
  intro D gN f0 f1 fM fF fI fK fL fN cZ dt cY cX cW cU bV bW db w_
  rintro ⟨az,ay,aA,aB,aw,aD,aE,aI,aL,hI⟩
  obtain rfl:=aL gN
  obtain rfl:=aI f0
  obtain rfl:=aE f1
  obtain rfl:=aD fM
  obtain rfl:=aw fF
  obtain rfl:=aB fI
  obtain rfl:=aA fK
  obtain rfl:=ay fL
  obtain rfl:=az fN
  clear az ay aA aB aw aD aE aI aL
  rw [gN] at hI
  exact hfin nb nc _ _ (hI.pick [false,false,true]) hnc hcm2 (by rw [cond_true,gd _ _ _ (by omega),hsz2,hcsz]) (by rw [cond_true,PS (by omega),hctk,hcapt])
 ·have hgr':css.length+1<=cap:=by omega
  refine bP (by omega) ?_
  rw [show ((css.length:Int)+((1:Nat):Int))=((css.length+1:Nat):Int) by omega]
  refine K3 av (by omega) ?_
  refine bP (by omega) ?_
  rw [show ((i:Int)+((1:Nat):Int))=((i+1:Nat):Int) by omega]
  refine iF av (by omega) (by omega) ?_
  rw [Nat.zero_add]
  refine In hI Tryz.func182 (by kernel_rfl) (by kernel_rfl) (by kernel_rfl) (T:=cg) (U:=l0) (by kernel_rfl) av (i:=0) (j:=1) rfl rfl hne (by omega) ?_
  refine cc ?_
  refine ba (fun _=>?_) (fun hb=>by cases hb)
  have hsz2:(bw cur (i * 4+cs.length) (css.drop i).flatten).size=cur.size:=gd _ _ _ (by omega)
  have hI:Inv w X [.blk ub (.cells cs.toArray ac),.blk g (.cells cur ac)] S w:=hI
  refine ⟨fun D gc f3 eY fb eW fa eX e9 eZ w_=>(D 0=true->eZ=.slice (some ⟨g,0,none⟩) (css.length+1) cap)/\(D 1=true->e9=.int .i64 i)/\(D 2=true->eX=.int .i64 (1:Nat))/\(D 3=true->fa=.int .i64 (i+1:Nat))/\(D 4=true->eW=.slice (some ⟨g,(i+1) * 4,none⟩) (css.length+1 - (i+1)) (cap - (i+1)))/\(D 5=true->fb=.slice (some ⟨g,0,none⟩) (css.length+1) cap)/\(D 6=true->eY=.int .i64 i)/\(D 7=true->f3=.slice (some ⟨g,i * 4,none⟩) (css.length+1 - i) (cap - i))/\(D 8=true->gc=goInt (css.length - i:Nat))/\Inv w X [.blk ub (.cells cs.toArray ac),.blk g (.cells (cond (D 8) (bw cur (i * 4+cs.length) (css.drop i).flatten) cur) ac)] S w_,⟨ae,ae,ae,ae,ae,ae,ae,ae,ae,hI.draw⟩,⟨?_,?_,?_,?_,?_,?_,?_,?_,?_,trivial⟩,?_⟩
  ·intro D aY  gc f3 eY fb eW fa eX e9 eZ w_
   rintro ⟨az,ay,aA,aB,aw,aD,aE,aI,aL,hI⟩
   exact ⟨fun _=>rfl,ay,aA,aB,aw,aD,aE,aI,aL,hI⟩
  ·intro D aY  gc f3 eY fb eW fa eX e9 eZ w_
   rintro ⟨az,ay,aA,aB,aw,aD,aE,aI,aL,hI⟩
   exact ⟨az,fun _=>rfl,aA,aB,aw,aD,aE,aI,aL,hI⟩
  ·intro D aY  gc f3 eY fb eW fa eX e9 eZ w_
   rintro ⟨az,ay,aA,aB,aw,aD,aE,aI,aL,hI⟩
   exact ⟨az,ay,fun _=>rfl,aB,aw,aD,aE,aI,aL,hI⟩
  ·intro D aY dI gJ gc f3 eY fb eW fa eX e9 eZ w_
   rintro ⟨az,ay,aA,aB,aw,aD,aE,aI,aL,hI⟩
   obtain rfl:=ay dI
   obtain rfl:=aA gJ
   refine bP (by omega) ?_
   exact ⟨az,ay,aA,fun _=>rfl,aw,aD,aE,aI,aL,hI⟩
  ·intro D aY ce nl gc f3 eY fb eW fa eX e9 eZ w_
   rintro ⟨az,ay,aA,aB,aw,aD,aE,aI,aL,hI⟩
   obtain rfl:=az ce
   obtain rfl:=aB nl
   refine iF av (by omega) (by omega) ?_
   rw [Nat.zero_add]
   exact ⟨az,ay,aA,aB,fun _=>rfl,aD,aE,aI,aL,hI⟩
  ·intro D aY  gc f3 eY fb eW fa eX e9 eZ w_
   rintro ⟨az,ay,aA,aB,aw,aD,aE,aI,aL,hI⟩
   exact ⟨az,ay,aA,aB,aw,fun _=>rfl,aE,aI,aL,hI⟩
  ·intro D aY  gc f3 eY fb eW fa eX e9 eZ w_
   rintro ⟨az,ay,aA,aB,aw,aD,aE,aI,aL,hI⟩
   exact ⟨az,ay,aA,aB,aw,aD,fun _=>rfl,aI,aL,hI⟩
  ·intro D aY dV gg gc f3 eY fb eW fa eX e9 eZ w_
   rintro ⟨az,ay,aA,aB,aw,aD,aE,aI,aL,hI⟩
   obtain rfl:=aD dV
   obtain rfl:=aE gg
   refine iF av (by omega) (by omega) ?_
   rw [Nat.zero_add]
   exact ⟨az,ay,aA,aB,aw,aD,aE,fun _=>rfl,aL,hI⟩
  ·intro D aY cK jL gc f3 eY fb eW fa eX e9 eZ w_
   rintro ⟨az,ay,aA,aB,aw,aD,aE,aI,aL,hI⟩
   obtain rfl:=aw cK
   obtain rfl:=aI jL
   have hI:Inv w X [.blk ub (.cells cs.toArray ac),.blk g (.cells cur ac)] S w_:=by rw [aY] at hI; exact hI
   refine ud hI 1 g (css.length - i) cur ac (css.drop i).flatten av rfl (by omega) (by omega) (fun j u hj=>by rw [gi,hI.cellL (i:=1) rfl]; exact hD j u hj) (by omega) hd1 fun w' hI=>?_
   rw [show (i+1) * 4=i * 4+cs.length by omega] at hI
   exact ⟨az,ay,aA,aB,aw,aD,aE,aI,fun _=>rfl,hI⟩
  intro D gN f0 f1 fM fF fI fK fL fN gc f3 eY fb eW fa eX e9 eZ w_
  rintro ⟨az,ay,aA,aB,aw,aD,aE,aI,aL,hI⟩
  obtain rfl:=aL gN
  obtain rfl:=aI f0
  obtain rfl:=aE f1
  obtain rfl:=aD fM
  obtain rfl:=aw fF
  obtain rfl:=aB fI
  obtain rfl:=aA fK
  obtain rfl:=ay fL
  obtain rfl:=az fN
  clear az ay aA aB aw aD aE aI aL
  rw [gN] at hI
  have hI:Inv w X [.blk ub (.cells cs.toArray ac),.blk g (.cells (bw cur (i * 4+cs.length) (css.drop i).flatten) ac)] S w_:=hI
  refine iF av (by omega) (by omega) ?_
  rw [Nat.zero_add]
  refine ud hI 1 g 1 (bw cur (i * 4+cs.length) (css.drop i).flatten) ac cs av rfl (by omega) (by omega) (fun j u hj=>?_) (by omega) hc1 fun w' hI=>?_
  ·rw [gi,hI.cellL (i:=0) rfl,Nat.zero_add]
   simpa using hj
  exact hfin g cap _ _ (hI.pick [false,true]) hgr' (by simp only [maxLen]; omega) (by rw [gd _ _ _ (by omega),hsz2,hcs]) (by rw [PW (by omega),hcapt])
end

end Go.Proofs.YtemmhhdnlbmicaaGreat

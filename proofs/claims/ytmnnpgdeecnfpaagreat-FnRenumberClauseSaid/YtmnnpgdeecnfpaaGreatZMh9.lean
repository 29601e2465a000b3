/- impl.VariantTerms; FnRenumberClause returns true, whatever bytes come in: the walk. -/
import Derived.Test.YtmnnpgdeecnfpaaGreatZMh8
import Derived.Test.YtmnnpgdeecnfpaaGreatZMh7
import Derived.Test.YtmnnpgdeecnfpaaGreatZMh1
namespace Go.Proofs.YtmnnpgdeecnfpaaGreat
open Go Go.RowKit
def IsEl (S:ax) (p:Value) (y:T):Prop:=∃ b o c E fz,p=.pointer (some ⟨b,o,none⟩)/\S b=some (.cells c E fz)/\RdT S (bB c o 4) y
def IsAg (S:ax) (v:Value) (y:T):Prop:=∃ cs:List Value,v=.agg cs.toArray/\RdT S cs y
theorem IsEl.mono {S S':ax} {p:Value} {y:T} (h:IsEl S p y) (hle:Sle S S'):IsEl S' p y:=by
 obtain ⟨b,o,c,E,fz,e,hS,hR⟩:=h
 exact ⟨b,o,c,E,fz,e,hle _ _ hS,hR.mono hle⟩
theorem IsAg.mono {S S':ax} {v:Value} {y:T} (h:IsAg S v y) (hle:Sle S S'):IsAg S' v y:=by
 obtain ⟨cs,e,hR⟩:=h
 exact ⟨cs,e,hR.mono hle⟩
theorem qI {cs:List Value} {k:Nat} (h:cs.length=k):bB cs.toArray 0 k=cs:=by
 subst h
 simp [bB]
theorem Dr {α:Type} {S:ax} {k b:Nat} {R:List Value->α->Prop} {c:Array Value} {E:TypeId} {fz:Nat × Nat} {cs:List Value} {y:α} (h:S b=some (.cells c E fz)) (hR:R cs y) (hc:bB c 0 k=cs):RdSl S k R (.slice (some ⟨b,0,none⟩) 1 1) [y]:=
 ⟨_,1,rfl,Nat.le_refl _,by simp [maxLen],.inr ⟨b,0,c,E,fz,rfl,h,fun i hi=>by
  have:i=0:=by simpa using hi
  subst this
  rw [Nat.zero_mul,Nat.zero_add,hc]
  exact hR⟩⟩
section
variable {S:ax} {ys:List Nat} {v:Value}
variable {w w0:World} {X:List Nat} {L:List Item} {K:Value->World->Prop}
attribute [local irreducible] Run CondV ah ba
theorem Run.pubTreeV {f:FuncId} {fn:Func} {args:List Value} {zs:List T} (hf:Tryz.prog.funcs[f]?=some fn) (hn:(fn.name == "runtime.NumGoroutine" || fn.body.isNone)=false) (hI:Inv w0 X L S w)
  (hc:Tri Tryz.prog f args [] S (yk 4 TrT S zs)) (hk:∀ u S' w',Sle S S'->RdSl S' 4 (RdT S') u zs->Inv w0 X L S' w'->K u w'):Run Tryz.prog (ay (.func (.func f) #[] #[]) args) w K:=by
 refine Run.call0 hf hn hI hc fun v' I' S' w'=>?_
 rintro ⟨rfl,M,rfl,hT⟩ hle hI
 obtain ⟨S1,hle1,hins,hI,_⟩:=Inv.lendAll M hI
 exact hk _ _ _ hle1 (hT.rd hins fun _ _ _ hi h=>h.rd hi) hI
theorem mW {t u a:T} {ts us:List Value} (ht:RdT S ts t) (hu:RdT S us u) (hv:dA t=true) (hv2:dA u=true) (hrt:eG (df [t] []) [t]=[a]) (hru:eG (df [u] []) [u]=[a]) (hw:wT t<=100000) (hw2:wT u<=100000) :
  Pure Tryz.prog pI [.agg ts.toArray,.agg us.toArray] S (.bool true):=by
 intro w hI
 refine ll ?_
 unfold jb
 refine co hI fun b2 w' hI=>?_
 refine co hI fun b3 w' hI=>?_
 have hI:Inv w [] ([.blk b2 (.cells ts.toArray ac)]++[.blk b3 (.cells us.toArray ac)]) S w':=hI
 obtain ⟨S1,hI,hE1,hb3⟩:=hI.pub1
 have hI:Inv w [] ([]++[.blk b2 (.cells ts.toArray ac)]) S1 w':=hI
 obtain ⟨S0,hI,hE0,hb2⟩:=hI.pub1
 have hb3:=hE0.1 _ _ hb3
 have hle0:=hE1.1.trans hE0.1
 have ht:=ht.mono hle0
 have hu:=hu.mono hle0
 clear hE1 hE0
 refine ⟨fun D x4 dr de cY cK c4 eI dQ dX iz kD kE l4 l0 uN x9 x8 x7 x6 x5 w_=>(D 0=true->x5=.agg ts.toArray)/\(D 1=true->x6=.bool true)/\(D 2=true->x7=.bool true)/\(D 3=true->x8=.agg us.toArray)/\(D 4=true->x9=.bool true)/\(D 5=true->uN=.bool true)/\(D 6=true->l0=.bool true)/\(D 7=true->l4=.agg ts.toArray)/\(D 8=true->True)/\(D 9=true->True)/\(D 10=true->True)/\(D 11=true->True)/\(D 12=true->dQ=.agg us.toArray)/\(D 13=true->True)/\(D 14=true->True)/\(D 15=true->True)/\(D 16=true->True)/\(D 17=true->de=.bool true)/\(D 18=true->dr=.bool true)/\(D 19=true->x4=.bool true)/\∃ S2,Sle S0 S2/\(D 8=true->RdSl S2 4 (RdT S2) kE [t])/\(D 9=true->RdSl S2 4 (RdT S2) kD [a])/\(D 10=true->IsEl S2 iz a)/\(D 11=true->IsAg S2 dX a)/\(D 13=true->RdSl S2 4 (RdT S2) eI [u])/\(D 14=true->RdSl S2 4 (RdT S2) c4 [a])/\(D 15=true->IsEl S2 cK a)/\(D 16=true->IsAg S2 cY a)/\Inv w [] [] S2 w_,⟨af,af,af,af,af,af,af,af,af,af,af,af,af,af,af,af,af,af,af,af,⟨S0,Sle.refl _,af,af,af,af,af,af,af,af,hI.draw⟩⟩,⟨?_,?_,?_,?_,?_,?_,?_,?_,?_,?_,?_,?_,?_,?_,?_,?_,?_,?_,?_,?_,trivial⟩,?_⟩
 ·intro D a6  x4 dr de cY cK c4 eI dQ dX iz kD kE l4 l0 uN x9 x8 x7 x6 x5 w_
  rintro ⟨aF,aC,aB,aE,aD,aG,az,aK,aQ,aU,ao,ar,aw,aI,aJ,aM,aO,aN,aP,aT,⟨S2,hle,e8,e9,e10,e11,e13,e14,e15,e16,hI⟩⟩
  refine dM (cs:=ts) aj ht.length (fun j v hj=>by rw [hI.cellS (hle _ _ hb2),Nat.zero_add]; simpa using hj) ?_
  exact ⟨fun _=>rfl,aC,aB,aE,aD,aG,az,aK,aQ,aU,ao,ar,aw,aI,aJ,aM,aO,aN,aP,aT,⟨S2,hle,e8,e9,e10,e11,e13,e14,e15,e16,hI⟩⟩
 ·intro D a6 dc x4 dr de cY cK c4 eI dQ dX iz kD kE l4 l0 uN x9 x8 x7 x6 x5 w_
  rintro ⟨aF,aC,aB,aE,aD,aG,az,aK,aQ,aU,ao,ar,aw,aI,aJ,aM,aO,aN,aP,aT,⟨S2,hle,e8,e9,e10,e11,e13,e14,e15,e16,hI⟩⟩
  obtain rfl:=aF dc
  refine Run.callPure fN fP hI (fc (ht.mono hle)) fun w_ hI=>?_
  rw [hv]
  exact ⟨aF,fun _=>rfl,aB,aE,aD,aG,az,aK,aQ,aU,ao,ar,aw,aI,aJ,aM,aO,aN,aP,aT,⟨S2,hle,e8,e9,e10,e11,e13,e14,e15,e16,hI⟩⟩
 ·intro D a6 eB gl x4 dr de cY cK c4 eI dQ dX iz kD kE l4 l0 uN x9 x8 x7 x6 x5 w_
  rintro ⟨aF,aC,aB,aE,aD,aG,az,aK,aQ,aU,ao,ar,aw,aI,aJ,aM,aO,aN,aP,aT,⟨S2,hle,e8,e9,e10,e11,e13,e14,e15,e16,hI⟩⟩
  obtain rfl:=aC eB
  exact ⟨aF,aC,fun _=>rfl,aE,aD,aG,az,aK,aQ,aU,ao,ar,aw,aI,aJ,aM,aO,aN,aP,aT,⟨S2,hle,e8,e9,e10,e11,e13,e14,e15,e16,hI⟩⟩
 ·intro D a6 dy x4 dr de cY cK c4 eI dQ dX iz kD kE l4 l0 uN x9 x8 x7 x6 x5 w_
  rintro ⟨aF,aC,aB,aE,aD,aG,az,aK,aQ,aU,ao,ar,aw,aI,aJ,aM,aO,aN,aP,aT,⟨S2,hle,e8,e9,e10,e11,e13,e14,e15,e16,hI⟩⟩
  obtain rfl:=aB dy
  repeat (first|refine ad ?_|refine ag (by decide) ?_|refine ae ?_|refine aq ?_|refine al ?_)
  refine dM (cs:=us) aj hu.length (fun j v hj=>by rw [hI.cellS (hle _ _ hb3),Nat.zero_add]; simpa using hj) ?_
  exact ⟨aF,aC,aB,fun _=>rfl,aD,aG,az,aK,aQ,aU,ao,ar,aw,aI,aJ,aM,aO,aN,aP,aT,⟨S2,hle,e8,e9,e10,e11,e13,e14,e15,e16,hI⟩⟩
 ·intro D a6 ef Dx mM x4 dr de cY cK c4 eI dQ dX iz kD kE l4 l0 uN x9 x8 x7 x6 x5 w_
  rintro ⟨aF,aC,aB,aE,aD,aG,az,aK,aQ,aU,ao,ar,aw,aI,aJ,aM,aO,aN,aP,aT,⟨S2,hle,e8,e9,e10,e11,e13,e14,e15,e16,hI⟩⟩
  obtain rfl:=aE ef
  obtain rfl:=aB Dx
  repeat (first|refine ad ?_|refine ag (by decide) ?_|refine ae ?_|refine aq ?_|refine al ?_)
  refine Run.callPure fN fP hI (fc (hu.mono hle)) fun w_ hI=>?_
  rw [hv2]
  exact ⟨aF,aC,aB,aE,fun _=>rfl,aG,az,aK,aQ,aU,ao,ar,aw,aI,aJ,aM,aO,aN,aP,aT,⟨S2,hle,e8,e9,e10,e11,e13,e14,e15,e16,hI⟩⟩
 ·intro D a6 dy ev x4 dr de cY cK c4 eI dQ dX iz kD kE l4 l0 uN x9 x8 x7 x6 x5 w_
  rintro ⟨aF,aC,aB,aE,aD,aG,az,aK,aQ,aU,ao,ar,aw,aI,aJ,aM,aO,aN,aP,aT,⟨S2,hle,e8,e9,e10,e11,e13,e14,e15,e16,hI⟩⟩
  obtain rfl:=aB dy
  obtain rfl:=aD ev
  refine j2 ?_
  exact ⟨aF,aC,aB,aE,aD,fun _=>rfl,az,aK,aQ,aU,ao,ar,aw,aI,aJ,aM,aO,aN,aP,aT,⟨S2,hle,e8,e9,e10,e11,e13,e14,e15,e16,hI⟩⟩
 ·intro D a6 eq ev x4 dr de cY cK c4 eI dQ dX iz kD kE l4 l0 uN x9 x8 x7 x6 x5 w_
  rintro ⟨aF,aC,aB,aE,aD,aG,az,aK,aQ,aU,ao,ar,aw,aI,aJ,aM,aO,aN,aP,aT,⟨S2,hle,e8,e9,e10,e11,e13,e14,e15,e16,hI⟩⟩
  obtain rfl:=aG eq
  exact ⟨aF,aC,aB,aE,aD,aG,fun _=>rfl,aK,aQ,aU,ao,ar,aw,aI,aJ,aM,aO,aN,aP,aT,⟨S2,hle,e8,e9,e10,e11,e13,e14,e15,e16,hI⟩⟩
 ·intro D a6 cw x4 dr de cY cK c4 eI dQ dX iz kD kE l4 l0 uN x9 x8 x7 x6 x5 w_
  rintro ⟨aF,aC,aB,aE,aD,aG,az,aK,aQ,aU,ao,ar,aw,aI,aJ,aM,aO,aN,aP,aT,⟨S2,hle,e8,e9,e10,e11,e13,e14,e15,e16,hI⟩⟩
  obtain rfl:=az cw
  repeat (first|refine ad ?_|refine ag (by decide) ?_|refine ae ?_|refine aq ?_|refine al ?_)
  refine dM (cs:=ts) aj ht.length (fun j v hj=>by rw [hI.cellS (hle _ _ hb2),Nat.zero_add]; simpa using hj) ?_
  exact ⟨aF,aC,aB,aE,aD,aG,az,fun _=>rfl,aQ,aU,ao,ar,aw,aI,aJ,aM,aO,aN,aP,aT,⟨S2,hle,e8,e9,e10,e11,e13,e14,e15,e16,hI⟩⟩
 ·intro D a6 d6 eO x4 dr de cY cK c4 eI dQ dX iz kD kE l4 l0 uN x9 x8 x7 x6 x5 w_
  rintro ⟨aF,aC,aB,aE,aD,aG,az,aK,aQ,aU,ao,ar,aw,aI,aJ,aM,aO,aN,aP,aT,⟨S2,hle,e8,e9,e10,e11,e13,e14,e15,e16,hI⟩⟩
  obtain rfl:=aK d6
  obtain rfl:=az eO
  repeat (first|refine ad ?_|refine ag (by decide) ?_|refine ae ?_|refine aq ?_|refine al ?_)
  refine dg hI bt (by simpa [Value.cells] using ht.length) (by omega) (by omega) fun b5 w_ hI=>?_
  obtain ⟨S3,hI,hE3,hb5⟩:=hI.pub1
  have hl3:Sle S2 S3:=hE3.1
  have e9:av D 8 9=true->RdSl S3 4 (RdT S3) kD [a]:=fun h=>(e9 h).monoT hl3
  have e10:av D 8 10=true->IsEl S3 iz a:=fun h=>(e10 h).mono hl3
  have e11:av D 8 11=true->IsAg S3 dX a:=fun h=>(e11 h).mono hl3
  have e13:av D 8 13=true->RdSl S3 4 (RdT S3) eI [u]:=fun h=>(e13 h).monoT hl3
  have e14:av D 8 14=true->RdSl S3 4 (RdT S3) c4 [a]:=fun h=>(e14 h).monoT hl3
  have e15:av D 8 15=true->IsEl S3 cK a:=fun h=>(e15 h).mono hl3
  have e16:av D 8 16=true->IsAg S3 cY a:=fun h=>(e16 h).mono hl3
  have e8:av D 8 8=true->RdSl S3 4 (RdT S3) (.slice (some ⟨b5,0,none⟩) 1 1) [t]:=fun _=>Dr hb5 (ht.mono (hle.trans hl3)) (qI ht.length)
  have hle:=hle.trans hl3
  obtain ⟨S2,hS2⟩:∃ x,x=S3:=⟨_,rfl⟩
  subst hS2
  exact ⟨aF,aC,aB,aE,aD,aG,az,aK,fun _=>by first|assumption|trivial,aU,ao,ar,aw,aI,aJ,aM,aO,aN,aP,aT,⟨S2,hle,e8,e9,e10,e11,e13,e14,e15,e16,hI⟩⟩
 ·intro D a6 gp eO jm x4 dr de cY cK c4 eI dQ dX iz kD kE l4 l0 uN x9 x8 x7 x6 x5 w_
  rintro ⟨aF,aC,aB,aE,aD,aG,az,aK,aQ,aU,ao,ar,aw,aI,aJ,aM,aO,aN,aP,aT,⟨S2,hle,e8,e9,e10,e11,e13,e14,e15,e16,hI⟩⟩
  have Ab:=aQ gp
  obtain rfl:=az eO
  repeat (first|refine ad ?_|refine ag (by decide) ?_|refine ae ?_|refine aq ?_|refine al ?_)
  refine Run.pubTreeV gG gA hI (fX (e8 gp) (by simp only [wL,List.length_cons,List.length_nil]; omega)) fun u5 S3 w_ hl3 hu5 hI=>?_
  rw [hrt] at hu5
  have e8:av D 9 8=true->RdSl S3 4 (RdT S3) kE [t]:=fun h=>(e8 h).monoT hl3
  have e10:av D 9 10=true->IsEl S3 iz a:=fun h=>(e10 h).mono hl3
  have e11:av D 9 11=true->IsAg S3 dX a:=fun h=>(e11 h).mono hl3
  have e13:av D 9 13=true->RdSl S3 4 (RdT S3) eI [u]:=fun h=>(e13 h).monoT hl3
  have e14:av D 9 14=true->RdSl S3 4 (RdT S3) c4 [a]:=fun h=>(e14 h).monoT hl3
  have e15:av D 9 15=true->IsEl S3 cK a:=fun h=>(e15 h).mono hl3
  have e16:av D 9 16=true->IsAg S3 cY a:=fun h=>(e16 h).mono hl3
  have e9:av D 9 9=true->RdSl S3 4 (RdT S3) u5 [a]:=fun _=>hu5
  have hle:=hle.trans hl3
  obtain ⟨S2,hS2⟩:∃ x,x=S3:=⟨_,rfl⟩
  subst hS2
  exact ⟨aF,aC,aB,aE,aD,aG,az,aK,aQ,fun _=>by first|assumption|trivial,ao,ar,aw,aI,aJ,aM,aO,aN,aP,aT,⟨S2,hle,e8,e9,e10,e11,e13,e14,e15,e16,hI⟩⟩
 ·intro D a6 vS eO x4 dr de cY cK c4 eI dQ dX iz kD kE l4 l0 uN x9 x8 x7 x6 x5 w_
  rintro ⟨aF,aC,aB,aE,aD,aG,az,aK,aQ,aU,ao,ar,aw,aI,aJ,aM,aO,aN,aP,aT,⟨S2,hle,e8,e9,e10,e11,e13,e14,e15,e16,hI⟩⟩
  have Ac:=aU vS
  obtain rfl:=az eO
  repeat (first|refine ad ?_|refine ag (by decide) ?_|refine ae ?_|refine aq ?_|refine al ?_)
  obtain ⟨b,o,cap,c,E,fz,he,hS,hR⟩:=(e9 vS).at_ (i:=0) (by simp)
  rw [he] at e9 ⊢
  refine bv (i:=0) aS (by simp) ?_
  have e10:av D 10 10=true->IsEl S2 (.pointer (some ⟨b,o+0 * 4,none⟩)) a:=fun _=>⟨b,o+0 * 4,c,E,fz,rfl,hS,hR⟩
  exact ⟨aF,aC,aB,aE,aD,aG,az,aK,aQ,aU,fun _=>by first|assumption|trivial,ar,aw,aI,aJ,aM,aO,aN,aP,aT,⟨S2,hle,e8,e9,e10,e11,e13,e14,e15,e16,hI⟩⟩
 ·intro D a6 iC eO x4 dr de cY cK c4 eI dQ dX iz kD kE l4 l0 uN x9 x8 x7 x6 x5 w_
  rintro ⟨aF,aC,aB,aE,aD,aG,az,aK,aQ,aU,ao,ar,aw,aI,aJ,aM,aO,aN,aP,aT,⟨S2,hle,e8,e9,e10,e11,e13,e14,e15,e16,hI⟩⟩
  have z7:=ao iC
  obtain rfl:=az eO
  repeat (first|refine ad ?_|refine ag (by decide) ?_|refine ae ?_|refine aq ?_|refine al ?_)
  obtain ⟨b,o,c,E,fz,he,hS,hR⟩:=e10 iC
  rw [he] at e10 ⊢
  refine dM aj hR.length (fun j v hj=>by rw [hI.cellS hS]; exact bC rfl j v hj) ?_
  have e11:av D 11 11=true->IsAg S2 (.agg (bB c o 4).toArray) a:=fun _=>⟨_,rfl,hR⟩
  exact ⟨aF,aC,aB,aE,aD,aG,az,aK,aQ,aU,ao,fun _=>by first|assumption|trivial,aw,aI,aJ,aM,aO,aN,aP,aT,⟨S2,hle,e8,e9,e10,e11,e13,e14,e15,e16,hI⟩⟩
 ·intro D a6 cw x4 dr de cY cK c4 eI dQ dX iz kD kE l4 l0 uN x9 x8 x7 x6 x5 w_
  rintro ⟨aF,aC,aB,aE,aD,aG,az,aK,aQ,aU,ao,ar,aw,aI,aJ,aM,aO,aN,aP,aT,⟨S2,hle,e8,e9,e10,e11,e13,e14,e15,e16,hI⟩⟩
  obtain rfl:=az cw
  repeat (first|refine ad ?_|refine ag (by decide) ?_|refine ae ?_|refine aq ?_|refine al ?_)
  refine dM (cs:=us) aj hu.length (fun j v hj=>by rw [hI.cellS (hle _ _ hb3),Nat.zero_add]; simpa using hj) ?_
  exact ⟨aF,aC,aB,aE,aD,aG,az,aK,aQ,aU,ao,ar,fun _=>rfl,aI,aJ,aM,aO,aN,aP,aT,⟨S2,hle,e8,e9,e10,e11,e13,e14,e15,e16,hI⟩⟩
 ·intro D a6 kF eO x4 dr de cY cK c4 eI dQ dX iz kD kE l4 l0 uN x9 x8 x7 x6 x5 w_
  rintro ⟨aF,aC,aB,aE,aD,aG,az,aK,aQ,aU,ao,ar,aw,aI,aJ,aM,aO,aN,aP,aT,⟨S2,hle,e8,e9,e10,e11,e13,e14,e15,e16,hI⟩⟩
  obtain rfl:=aw kF
  obtain rfl:=az eO
  repeat (first|refine ad ?_|refine ag (by decide) ?_|refine ae ?_|refine aq ?_|refine al ?_)
  refine dg hI bt (by simpa [Value.cells] using hu.length) (by omega) (by omega) fun b5 w_ hI=>?_
  obtain ⟨S3,hI,hE3,hb5⟩:=hI.pub1
  have hl3:Sle S2 S3:=hE3.1
  have e8:av D 13 8=true->RdSl S3 4 (RdT S3) kE [t]:=fun h=>(e8 h).monoT hl3
  have e9:av D 13 9=true->RdSl S3 4 (RdT S3) kD [a]:=fun h=>(e9 h).monoT hl3
  have e10:av D 13 10=true->IsEl S3 iz a:=fun h=>(e10 h).mono hl3
  have e11:av D 13 11=true->IsAg S3 dX a:=fun h=>(e11 h).mono hl3
  have e14:av D 13 14=true->RdSl S3 4 (RdT S3) c4 [a]:=fun h=>(e14 h).monoT hl3
  have e15:av D 13 15=true->IsEl S3 cK a:=fun h=>(e15 h).mono hl3
  have e16:av D 13 16=true->IsAg S3 cY a:=fun h=>(e16 h).mono hl3
  have e13:av D 13 13=true->RdSl S3 4 (RdT S3) (.slice (some ⟨b5,0,none⟩) 1 1) [u]:=fun _=>Dr hb5 (hu.mono (hle.trans hl3)) (qI hu.length)
  have hle:=hle.trans hl3
  obtain ⟨S2,hS2⟩:∃ x,x=S3:=⟨_,rfl⟩
  subst hS2
  exact ⟨aF,aC,aB,aE,aD,aG,az,aK,aQ,aU,ao,ar,aw,fun _=>by first|assumption|trivial,aJ,aM,aO,aN,aP,aT,⟨S2,hle,e8,e9,e10,e11,e13,e14,e15,e16,hI⟩⟩
 ·intro D a6 i7 eh jm x4 dr de cY cK c4 eI dQ dX iz kD kE l4 l0 uN x9 x8 x7 x6 x5 w_
  rintro ⟨aF,aC,aB,aE,aD,aG,az,aK,aQ,aU,ao,ar,aw,aI,aJ,aM,aO,aN,aP,aT,⟨S2,hle,e8,e9,e10,e11,e13,e14,e15,e16,hI⟩⟩
  have Gp:=aI i7
  obtain rfl:=az jm
  repeat (first|refine ad ?_|refine ag (by decide) ?_|refine ae ?_|refine aq ?_|refine al ?_)
  refine Run.pubTreeV gG gA hI (fX (e13 i7) (by simp only [wL,List.length_cons,List.length_nil]; omega)) fun u5 S3 w_ hl3 hu5 hI=>?_
  rw [hru] at hu5
  have e8:av D 14 8=true->RdSl S3 4 (RdT S3) kE [t]:=fun h=>(e8 h).monoT hl3
  have e9:av D 14 9=true->RdSl S3 4 (RdT S3) kD [a]:=fun h=>(e9 h).monoT hl3
  have e10:av D 14 10=true->IsEl S3 iz a:=fun h=>(e10 h).mono hl3
  have e11:av D 14 11=true->IsAg S3 dX a:=fun h=>(e11 h).mono hl3
  have e13:av D 14 13=true->RdSl S3 4 (RdT S3) eI [u]:=fun h=>(e13 h).monoT hl3
  have e15:av D 14 15=true->IsEl S3 cK a:=fun h=>(e15 h).mono hl3
  have e16:av D 14 16=true->IsAg S3 cY a:=fun h=>(e16 h).mono hl3
  have e14:av D 14 14=true->RdSl S3 4 (RdT S3) u5 [a]:=fun _=>hu5
  have hle:=hle.trans hl3
  obtain ⟨S2,hS2⟩:∃ x,x=S3:=⟨_,rfl⟩
  subst hS2
  exact ⟨aF,aC,aB,aE,aD,aG,az,aK,aQ,aU,ao,ar,aw,aI,fun _=>by first|assumption|trivial,aM,aO,aN,aP,aT,⟨S2,hle,e8,e9,e10,e11,e13,e14,e15,e16,hI⟩⟩
 ·intro D a6 wB eO x4 dr de cY cK c4 eI dQ dX iz kD kE l4 l0 uN x9 x8 x7 x6 x5 w_
  rintro ⟨aF,aC,aB,aE,aD,aG,az,aK,aQ,aU,ao,ar,aw,aI,aJ,aM,aO,aN,aP,aT,⟨S2,hle,e8,e9,e10,e11,e13,e14,e15,e16,hI⟩⟩
  have GI:=aJ wB
  obtain rfl:=az eO
  repeat (first|refine ad ?_|refine ag (by decide) ?_|refine ae ?_|refine aq ?_|refine al ?_)
  obtain ⟨b,o,cap,c,E,fz,he,hS,hR⟩:=(e14 wB).at_ (i:=0) (by simp)
  rw [he] at e14 ⊢
  refine bv (i:=0) aS (by simp) ?_
  have e15:av D 15 15=true->IsEl S2 (.pointer (some ⟨b,o+0 * 4,none⟩)) a:=fun _=>⟨b,o+0 * 4,c,E,fz,rfl,hS,hR⟩
  exact ⟨aF,aC,aB,aE,aD,aG,az,aK,aQ,aU,ao,ar,aw,aI,aJ,fun _=>by first|assumption|trivial,aO,aN,aP,aT,⟨S2,hle,e8,e9,e10,e11,e13,e14,e15,e16,hI⟩⟩
 ·intro D a6 mJ eO x4 dr de cY cK c4 eI dQ dX iz kD kE l4 l0 uN x9 x8 x7 x6 x5 w_
  rintro ⟨aF,aC,aB,aE,aD,aG,az,aK,aQ,aU,ao,ar,aw,aI,aJ,aM,aO,aN,aP,aT,⟨S2,hle,e8,e9,e10,e11,e13,e14,e15,e16,hI⟩⟩
  have GZ:=aM mJ
  obtain rfl:=az eO
  repeat (first|refine ad ?_|refine ag (by decide) ?_|refine ae ?_|refine aq ?_|refine al ?_)
  obtain ⟨b,o,c,E,fz,he,hS,hR⟩:=e15 mJ
  rw [he] at e15 ⊢
  refine dM aj hR.length (fun j v hj=>by rw [hI.cellS hS]; exact bC rfl j v hj) ?_
  have e16:av D 16 16=true->IsAg S2 (.agg (bB c o 4).toArray) a:=fun _=>⟨_,rfl,hR⟩
  exact ⟨aF,aC,aB,aE,aD,aG,az,aK,aQ,aU,ao,ar,aw,aI,aJ,aM,fun _=>by first|assumption|trivial,aN,aP,aT,⟨S2,hle,e8,e9,e10,e11,e13,e14,e15,e16,hI⟩⟩
 ·intro D a6 kl lU Hq As x4 dr de cY cK c4 eI dQ dX iz kD kE l4 l0 uN x9 x8 x7 x6 x5 w_
  rintro ⟨aF,aC,aB,aE,aD,aG,az,aK,aQ,aU,ao,ar,aw,aI,aJ,aM,aO,aN,aP,aT,⟨S2,hle,e8,e9,e10,e11,e13,e14,e15,e16,hI⟩⟩
  have FS:=ar kl
  have G4:=aO lU
  obtain rfl:=az As
  repeat (first|refine ad ?_|refine ag (by decide) ?_|refine ae ?_|refine aq ?_|refine al ?_)
  obtain ⟨as1,ha1,hra⟩:=e11 kl
  obtain ⟨bs1,hb1,hrb⟩:=e16 lU
  rw [ha1] at e11 ⊢
  rw [hb1] at e16 ⊢
  refine Run.callPure jd jg hI (gb _ _ S2 _ _ hra hrb) fun w_ hI=>?_
  rw [yl]
  exact ⟨aF,aC,aB,aE,aD,aG,az,aK,aQ,aU,ao,ar,aw,aI,aJ,aM,aO,fun _=>rfl,aP,aT,⟨S2,hle,e8,e9,e10,e11,e13,e14,e15,e16,hI⟩⟩
 ·intro D a6 cw rB x4 dr de cY cK c4 eI dQ dX iz kD kE l4 l0 uN x9 x8 x7 x6 x5 w_
  rintro ⟨aF,aC,aB,aE,aD,aG,az,aK,aQ,aU,ao,ar,aw,aI,aJ,aM,aO,aN,aP,aT,⟨S2,hle,e8,e9,e10,e11,e13,e14,e15,e16,hI⟩⟩
  obtain rfl:=az cw
  obtain rfl:=aN rB
  refine j2 ?_
  exact ⟨aF,aC,aB,aE,aD,aG,az,aK,aQ,aU,ao,ar,aw,aI,aJ,aM,aO,aN,fun _=>rfl,aT,⟨S2,hle,e8,e9,e10,e11,e13,e14,e15,e16,hI⟩⟩
 ·intro D a6 pr rB CO Cq xx CT CN CC Cw Fs FT FU Fy Fr E4 FA Fd E8 E7 E6 G9 x4 dr de cY cK c4 eI dQ dX iz kD kE l4 l0 uN x9 x8 x7 x6 x5 w_
  rintro ⟨aF,aC,aB,aE,aD,aG,az,aK,aQ,aU,ao,ar,aw,aI,aJ,aM,aO,aN,aP,aT,⟨S2,hle,e8,e9,e10,e11,e13,e14,e15,e16,hI⟩⟩
  obtain rfl:=aP pr
  exact ⟨aF,aC,aB,aE,aD,aG,az,aK,aQ,aU,ao,ar,aw,aI,aJ,aM,aO,aN,aP,fun _=>rfl,⟨S2,hle,e8,e9,e10,e11,e13,e14,e15,e16,hI⟩⟩
 intro D xU sV ui tv uC qB si ky gw fK kA iV ii gM gT hO iR im iT iS x4 dr de cY cK c4 eI dQ dX iz kD kE l4 l0 uN x9 x8 x7 x6 x5 w_
 rintro ⟨aF,aC,aB,aE,aD,aG,az,aK,aQ,aU,ao,ar,aw,aI,aJ,aM,aO,aN,aP,aT,⟨S2,hle,e8,e9,e10,e11,e13,e14,e15,e16,hI⟩⟩
 obtain rfl:=aT xU
 obtain rfl:=aP sV
 obtain rfl:=aN ui
 have G4:=aO tv
 have GZ:=aM uC
 have GI:=aJ qB
 have Gp:=aI si
 obtain rfl:=aw ky
 have FS:=ar gw
 have z7:=ao fK
 have Ac:=aU kA
 have Ab:=aQ iV
 obtain rfl:=aK ii
 obtain rfl:=az gM
 obtain rfl:=aG gT
 obtain rfl:=aD hO
 obtain rfl:=aE iR
 obtain rfl:=aB im
 obtain rfl:=aC iT
 obtain rfl:=aF iS
 clear aF aC aB aE aD aG az aK aQ aU ao ar aw aI aJ aM aO aN aP aT
 exact n7 hI (hle0.trans hle) rfl
theorem Run.pubOB {f:FuncId} {fn:Func} {args:List Value} {c:C} {b:Bool} (hf:Tryz.prog.funcs[f]?=some fn) (hn:(fn.name == "runtime.NumGoroutine" || fn.body.isNone)=false) (hI:Inv w0 X L S w)
  (hc:Tri Tryz.prog f args [] S (DQ c b)) (hk:∀ cs S' w',Sle S S'->RdC S' cs c->Inv w0 X L S' w'->K (.tuple #[.agg cs.toArray,.bool b]) w'):Run Tryz.prog (ay (.func (.func f) #[] #[]) args) w K:=by
 refine Run.call0 hf hn hI hc fun v' I' S' w'=>?_
 rintro ⟨cs,M,rfl,rfl,hT⟩ hle hI
 obtain ⟨S1,hle1,hins,hI,_⟩:=Inv.lendAll M hI
 exact hk _ _ _ (hle.trans hle1) (hT.rd hins) hI
mutual
theorem yj {f:Int->Int} {ws vs:List Int} (hf:∀ a∈ws,∀ b∈ws,f a=f b->a=b) (hv:∀ m∈vs,m∈ws):∀ t:T,inT ws t->fT (vs.map f) (mvT f t)=fT vs t
 | .mk k n s ks,hi=>by
  rw [inT] at hi
  rw [mvT,fT,fT]
  by_cases hk:k=1
  ·rw [if_pos hk,if_pos hk,if_pos hk,z6 fun m hm e=>hf m (hv m hm) n (hi.1 hk) e]
  ·rw [if_neg hk,if_neg hk,if_neg hk,zT hf hv ks hi.2]
theorem zT {f:Int->Int} {ws vs:List Int} (hf:∀ a∈ws,∀ b∈ws,f a=f b->a=b) (hv:∀ m∈vs,m∈ws):∀ ts:List T,inL ws ts->eG (vs.map f) (mvL f ts)=eG vs ts
 | [],_=>rfl
 | t::ts,hi=>by
  rw [inL] at hi
  rw [mvL,eG,eG,yj hf hv t hi.1,zT hf hv ts hi.2]
end
theorem Em {c:C} (h:bH c=true):eG (df [(jM (bp c) c).head] []) [(jM (bp c) c).head]=[fT (eE c.head []) c.head]:=by
 obtain ⟨e,h1,_,_⟩:=tH h
 rw [e]
 show [fT (eE (mvT (gv (bp c)) c.head) []) (mvT (gv (bp c)) c.head)]=_
 obtain ⟨e2,h2⟩:=zQ (f:=gv (bp c)) (ws:=bp c) oX c.head [] (by simp) h1
 rw [List.map_nil] at e2
 rw [e2,yj oX h2 _ h1]
theorem vI (h:RdSl S 1 jA v ys):Pure Tryz.prog cn [v] S (.bool true):=by
 intro w hI
 refine jk ?_
 unfold fU;dsimp only
 refine bo h dO ?_
 refine eN ?_
 refine bz (fun _=>done hI rfl) (fun _=>?_)
 refine Run.call0E jL jn hI (jl h) fun v1 I' S1 w'=>?_
 rintro ⟨rfl,cs,c,rfl,hc,hwc⟩ hE1 hI
 have hI:Inv w [] [] S1 w':=hI
 have hlc:=hc.length
 refine bm hI bI fun b3 w' hI=>?_
 refine aX hI 0 rfl aW (by simpa using hlc) rfl (by simpa using hc.one) fun w' hI=>?_
 refine bb hI 0 aW rfl (by simpa using hlc) ?_
 have hI:Inv w [] [.blk b3 (.cells cs.toArray ai)] S1 w':=hI
 refine Run.pubOB gO gS hI (fI hc (by omega)) fun xs S2 w' hle2 hx hI=>?_
 have hc:=hc.mono hle2
 have hlx:=hx.length
 refine bj (v:=.agg xs.toArray) rfl ?_
 refine bj (v:=.bool (bH c)) rfl ?_
 refine bm hI bI fun b4 w' hI=>?_
 refine aX hI 1 rfl aW (by simpa using hlx) rfl (by simpa using hx.one) fun w' hI=>?_
 refine bb hI 0 aW rfl (by simpa using hlc) ?_
 have hI:Inv w [] [.blk b3 (.cells cs.toArray ai),.blk b4 (.cells xs.toArray ai)] S2 w':=hI
 refine Run.call0E l9 l2 hI (j6 hc (by omega)) fun v3 I' S3 w'=>?_
 rintro ⟨rfl,zs,rfl,hz⟩ hE3 hI
 have hI:Inv w [] [.blk b3 (.cells cs.toArray ai),.blk b4 (.cells xs.toArray ai)] S3 w':=hI
 have hc:=hc.mono hE3.1
 have hx:=hx.mono hE3.1
 have hlz:=hz.length
 have hle:=hE1.1.trans (hle2.trans hE3.1)
 refine bj (v:=.agg zs.toArray) rfl ?_
 refine bj (v:=.bool (bH c)) rfl ?_
 refine bm hI bI fun b6 w' hI=>?_
 refine aX hI 2 rfl aW (by simpa using hlz) rfl (by simpa using hz.one) fun w' hI=>?_
 have hI:Inv w [] [.blk b3 (.cells cs.toArray ai),.blk b4 (.cells xs.toArray ai),.blk b6 (.cells zs.toArray ai)] S3 w':=hI
 refine ⟨fun t w'=>t=.bool (!bH c)/\Inv w [] [.blk b3 (.cells cs.toArray ai),.blk b4 (.cells xs.toArray ai),.blk b6 (.cells zs.toArray ai)] S3 w',?_,?_⟩
 ·refine C2 sH ?_
  rw [beq_self_eq_true]
  repeat (first|refine ad ?_|refine ag (by decide) ?_|refine ae ?_|refine aq ?_|refine al ?_)
  refine bb hI 1 aW rfl (by simpa using hlx) ?_
  refine bb hI 2 aW rfl (by simpa using hlz) ?_
  refine Run.callPure gC gB hI (gD hx hz) fun w' hI=>?_
  refine dT ?_
  repeat (first|refine ad ?_|refine ag (by decide) ?_|refine ae ?_|refine aq ?_|refine al ?_)
  refine dT ?_
  repeat (first|refine ad ?_|refine ag (by decide) ?_|refine ae ?_|refine aq ?_|refine al ?_)
  exact ⟨rfl,hI⟩
 intro t37 _ _ _ _ _ _ _ _ _ _ _ _ w'
 rintro ⟨rfl,hI⟩
 refine bg (fun _=>?_) (fun hb=>?_)
 ·refine Fz sH ?_
  rw [beq_self_eq_true]
  repeat (first|refine ad ?_|refine ag (by decide) ?_|refine ae ?_|refine aq ?_|refine al ?_)
  refine bb hI 1 aW rfl (by simpa using hlx) ?_
  refine bb hI 2 aW rfl (by simpa using hlz) ?_
  refine Run.callPure gC gB hI (gD hx hz) fun w' hI=>?_
  repeat (first|refine ad ?_|refine ag (by decide) ?_|refine ae ?_|refine aq ?_|refine al ?_)
  exact n7 hI hle rfl
 rw [Bool.not_eq_false'] at hb
 have hnb:AY c=jM (bp c) c:=by rw [AY,if_pos hb]
 rw [hnb] at hx
 have hdv:=wt hb
 have hd2:=Cr hb
 have hvar:=Em hb
 have hdw:wC (jM (bp c) c)<=2000:=by rw [DU]; exact hwc
 have hlen:(jM (bp c) c).body.length=c.body.length:=gY _ _
 obtain ⟨d,hde⟩:∃ d,d=jM (bp c) c:=⟨_,rfl⟩
 rw [<- hde] at hx hdv hd2 hvar hdw hlen
 refine bb hI 1 aW rfl (by simpa using hlx) ?_
 refine Run.pubOB gO gS hI (fI hx (by omega)) fun qs S4 w' hle4 hq hI=>?_
 rw [AY,if_pos hdv,hd2] at hq
 have hc:=hc.mono hle4
 have hx:=hx.mono hle4
 have hlq:=hq.length
 have hle:=hle.trans hle4
 refine bj (v:=.agg qs.toArray) rfl ?_
 refine bj (v:=.bool (bH d)) rfl ?_
 rw [hdv]
 refine bm hI bI fun b8 w' hI=>?_
 refine aX hI 3 rfl aW (by simpa using hlq) rfl (by simpa using hq.one) fun w' hI=>?_
 have hI:Inv w [] [.blk b3 (.cells cs.toArray ai),.blk b4 (.cells xs.toArray ai),.blk b6 (.cells zs.toArray ai),.blk b8 (.cells qs.toArray ai)] S4 w':=hI
 refine bb hI 1 aW rfl (by simpa using hlx) ?_
 refine Run.callPure jB jJ hI (iJ hx) fun w' hI=>?_
 rw [hdv]
 repeat (first|refine ad ?_|refine ag (by decide) ?_|refine ae ?_|refine aq ?_|refine al ?_)
 refine bb hI 3 aW rfl (by simpa using hlq) ?_
 refine bb hI 1 aW rfl (by simpa using hlx) ?_
 refine Run.callPure gC gB hI (gD hq hx) fun w' hI=>?_
 repeat (first|refine ad ?_|refine ag (by decide) ?_|refine ae ?_|refine aq ?_|refine al ?_)
 obtain ⟨hd1,kb1,rfl,hc1,hc2⟩:=hc
 obtain ⟨hd3,kb3,rfl,hx1,hx2⟩:=hx
 have hc1':=hc1
 have hx1':=hx1
 obtain ⟨kv1,rfl,_⟩:=RdT.iff.1 hc1
 obtain ⟨kv3,rfl,_⟩:=RdT.iff.1 hx1
 have hI:Inv w [] [.blk b3 (.cells #[.int .i64 c.head.kind,.int .i64 c.head.n,.string c.head.name,kv1,kb1] ai),.blk b4 (.cells #[.int .i64 d.head.kind,.int .i64 d.head.n,.string d.head.name,kv3,kb3] ai),.blk b6 (.cells zs.toArray ai),.blk b8 (.cells qs.toArray ai)] S4 w':=hI
 refine bh cm ?_
 refine dI hI 1 [.int .i64 d.head.kind,.int .i64 d.head.n,.string d.head.name,kv3] aj rfl rfl tV ?_
 refine bh cm ?_
 refine dI hI 0 [.int .i64 c.head.kind,.int .i64 c.head.n,.string c.head.name,kv1] aj rfl rfl tV ?_
 have hw1:wT c.head<=100000:=by unfold wC at hwc; omega
 have hw2:wT d.head<=100000:=by unfold wC at hdw; omega
 have hvc:∀ {e:C},bH e=true->dA e.head=true:=fun {e} he=>by
  rw [bH] at he
  simp only [Bool.and_eq_true] at he
  exact he.2.2.1
 refine Run.callPure n5 nq hI (mW hx1' hc1' (hvc hdv) (hvc hb) hvar rfl hw2 hw1) fun w' hI=>?_
 repeat (first|refine ad ?_|refine ag (by decide) ?_|refine ae ?_|refine aq ?_|refine al ?_)
 refine aH hI 1 rfl bi aV rfl ?_
 refine bo hx2 aS ?_
 refine aH hI 0 rfl bi aV rfl ?_
 refine bo hc2 aS ?_
 refine bK ?_
 rw [hlen,decide_eq_true rfl]
 repeat (first|refine ad ?_|refine ag (by decide) ?_|refine ae ?_|refine aq ?_|refine al ?_)
 exact n7 hI hle rfl
end
end Go.Proofs.YtmnnpgdeecnfpaaGreat

/- What every row of this seat owes beside its walk: the arguments read again as they did, and nothing that was there has turned. -/
namespace Go.Proofs.YtmnnpgdeecnfpaaGreat
open Go Go.ChangeShapes Go.WideShapes Go.ChangeAt Go.RowKit

theorem Tryz.own:ownKnob Tryz.prog.godebug=none:=by kernel_rfl
theorem Tryz.kids:Kids Tryz.prog (·<Tryz.prog.types.size):=kids_rows (by kernel_rfl) (by kernel_rfl)
theorem Tryz.full:∀ t e,t<Tryz.prog.types.size->Tryz.prog.underlying t=some (.slice e)->0<Tryz.prog.cellsOf e:=slices_full_of Tryz.prog (by kernel_rfl)
section
variable {H:Type} {enc:TypeId × Value->H} {W W':World}
theorem y9 {P:Program}:∀ {ts:List TypeId} {vs:List Value} {ds:List (DataW H)} {ps:List MemPlace},DataW.TrodAll enc P W 0 (fun _=>true) true ts vs ds ps->(∀ p∈ps,W.sameAt W' p)->
  DataW.TrodAll enc P W' 0 (fun _=>true) true ts vs ds ps
 | [],[],[],_,h,_=>h
 | _::_,_::_,_::_,_,⟨p,q,⟨n,h1⟩,h2,e⟩,hs=>
  ⟨p,q,⟨n,DataW.trod_carry n _ _ _ h1 fun x hx=>hs x (by rw [e]; exact List.mem_append_left _ hx)⟩,y9 h2 fun x hx=>hs x (by rw [e]; exact List.mem_append_right _ hx),e⟩
theorem EG {p:MemPlace} (h:∀ b,b<W.heap.size->W'.heap[b]?=W.heap[b]?) (hp:p.block<W.heap.size):W.sameAt W' p:=by
 cases p with
 | cell b off=>simp only [World.sameAt,World.cell?]; rw [h b hp]
 | map b=>exact h b hp
/- a function of the program whose walk ends with 'true' and with all that was there as it was: the row's 'post' -/
theorem CR {f:Func} {s:ChangeSpec} {args:Array Value} {ds gs:List (DataW H)} {before p q:List MemPlace}
  (hW:DataW.Whole enc Tryz.prog f.params.toList s.vars false W args.toList ds gs before) (hA:DataW.TrodAll enc Tryz.prog W 0 (fun _=>true) true f.params.toList args.toList ds p)
  (hV:DataW.TrodVars enc Tryz.prog W (fun _=>true) s.vars gs q) (hb:before=p++q) (hv:s.vars=[]) (hts:∀ t∈f.params.toList,t<Tryz.prog.types.size) (hr:f.resultTypes=#[Fx])
  (hs:(s.fn H (ds++gs)).results=[.lit (.bool true)]) (ha:(s.fn H (ds++gs)).args=ds) (hsv:(s.fn H (ds++gs)).vars=[]) (hI:Inv W [] [] (BG W) W') :
  s.post enc Tryz.prog f false true false false W args (.bool true) W':=by
 have hsame:∀ b,b<W.heap.size->W'.heap[b]?=W.heap[b]?:=fun b hb=>hI.same b hb
 have hlt:=hW.lt
 rw [hv] at hV
 obtain ⟨hg,hq⟩:=trodVars_none hV
 subst hq
 rw [List.append_nil] at hb
 subst hb
 have hA':=y9 (W':=W') hA fun x hx=>EG hsame (hlt x hx)
 refine ⟨ds,gs,before,[],before,[],hW,?_,?_,?_,CI hI.os hI.output hsame,fun h=>by cases h⟩
 ·rw [hs,hr]
  exact trodAll_mk1 (shut_bool sH true)
 ·rw [ha]
  exact DataW.TrodAll.respare Tryz.kids Tryz.full hts hA' fun x hx=>by simpa using hlt x hx
 ·rw [hv,hsv]
  rfl
end

end Go.Proofs.YtmnnpgdeecnfpaaGreat

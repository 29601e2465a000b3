/- Made by program: the functions in a shallow form; each form gives Calls. -/
import Derived.Test.YtnoieadimkgjcaaVcCalls
import Derived.Test.YtnoieadimkgjcaaProg
import Derived.KernelRfl
set_option maxRecDepth 100000
namespace Go.Proofs.Ytnoieadimkgjcaa
open Go
theorem mixed : Try.prog.follows .mixedOrders = true := by kernel_rfl

/- loop.example/prologserver/laws.FnExactFactsFor : function 3 -/
def sh_l_FnExactFactsFor (p0 p1 : Value) (w : World) (R : Ending → World → Prop) : Prop :=
  Run Try.prog (sOp (.box 24 (.const p1)) 0) w fun t3 w1 =>
  Run Try.prog (sCall (Value.func (.func 15) #[] #[]) [p0, (Value.int .i64 1048576)]) w1 fun t16 w2 =>
  Run Try.prog (sBin .lss 3 false true t16 (Value.int .i64 0)) w2 fun t18 w3 =>
  CondV t18 (
    R (.returned (Value.bool true)) w3) (
    Run Try.prog (sOp (.load 24 (.const t3)) 24) w3 fun t19 w4 =>
  Run Try.prog (sCall (Value.func (.func 16) #[] #[]) [t19, t16]) w4 fun t21 w5 =>
  Run Try.prog (sBin .lss 3 false true t21 (Value.int .i64 0)) w5 fun t23 w6 =>
  CondV t23 (
    R (.returned (Value.bool true)) w6) (
    (∃ A7 : (Nat → Bool) → Value → Value → Value → Value → Value → Value → World → Prop, A7 (fun _ => false) undef undef undef undef undef undef { w6 with drawn := w6.drawn + 1 } ∧ (
    (∀ D8 : Nat → Bool, D8 0 = false → ∀ t6 t28 t27 t26 t25 t24 : Value, ∀ w9 : World, A7 D8 t6 t28 t27 t26 t25 t24 w9 →
      A7 (setD D8 0) t6 t28 t27 t26 t25 p0 w9) ∧
    (∀ D8 : Nat → Bool, D8 1 = false → D8 0 = true → ∀ t6 t28 t27 t26 t25 t24 : Value, ∀ w10 : World, A7 D8 t6 t28 t27 t26 t25 t24 w10 →
      Run Try.prog (sCall (Value.func (.func 18) #[] #[]) [t24]) w10 fun t25_2 w11 =>
      A7 (setD D8 1) t6 t28 t27 t26 t25_2 t24 w11) ∧
    (∀ D8 : Nat → Bool, D8 2 = false → ∀ t6 t28 t27 t26 t25 t24 : Value, ∀ w12 : World, A7 D8 t6 t28 t27 t26 t25 t24 w12 →
      Run Try.prog (sOp (.load 24 (.const t3)) 24) w12 fun t26_2 w13 =>
      A7 (setD D8 2) t6 t28 t27 t26_2 t25 t24 w13) ∧
    (∀ D8 : Nat → Bool, D8 3 = false → D8 2 = true → D8 1 = true → ∀ t6 t28 t27 t26 t25 t24 : Value, ∀ w14 : World, A7 D8 t6 t28 t27 t26 t25 t24 w14 →
      Run Try.prog (sCall (Value.func (.func 19) #[] #[]) [t26]) w14 fun t27_2 w15 =>
      A7 (setD D8 3) t6 t28 t27_2 t26 t25 t24 w15) ∧
    (∀ D8 : Nat → Bool, D8 4 = false → D8 1 = true → D8 3 = true → D8 3 = true → ∀ t6 t28 t27 t26 t25 t24 : Value, ∀ w16 : World, A7 D8 t6 t28 t27 t26 t25 t24 w16 →
      Run Try.prog (sCall (Value.func (.func 17) #[] #[]) [t25, t27]) w16 fun t28_2 w17 =>
      A7 (setD D8 4) t6 t28_2 t27 t26 t25 t24 w17) ∧
    (∀ D8 : Nat → Bool, D8 5 = false → D8 4 = true → D8 4 = true → D8 0 = true → D8 1 = true → D8 2 = true → D8 3 = true → D8 4 = true → ∀ t6 t28 t27 t26 t25 t24 : Value, ∀ w18 : World, A7 D8 t6 t28 t27 t26 t25 t24 w18 →
      A7 (setD D8 5) t28 t28 t27 t26 t25 t24 w18) ∧
    True) ∧
  ∀ D8 : Nat → Bool, D8 5 = true → D8 4 = true → D8 3 = true → D8 2 = true → D8 1 = true → D8 0 = true → ∀ t6 t28 t27 t26 t25 t24 : Value, ∀ w19 : World, A7 D8 t6 t28 t27 t26 t25 t24 w19 →
  Run Try.prog (sCall (Value.func (.func 18) #[] #[]) [p0]) w19 fun t30 w20 =>
  Run Try.prog (sOp (.load 24 (.const t3)) 24) w20 fun t31 w21 =>
  Run Try.prog (sCall (Value.func (.func 19) #[] #[]) [t31]) w21 fun t32 w22 =>
  Run Try.prog (sOp (.alloc 31) 0) w22 fun t8 w23 =>
  Run Try.prog (sOp (.store 31 (.const t8) (.const t32)) 0) w23 fun _ w24 =>
  Run Try.prog (sOp (.load 31 (.const t8)) 31) w24 fun t34 w25 =>
  Run Try.prog (sCall (Value.func (.func 20) #[] #[]) [t30, t34]) w25 fun t35 w26 =>
  Run Try.prog (sCall (Value.func (.func 21) #[] #[]) [t35, t6]) w26 fun t38 w27 =>
  Run Try.prog (sOp (.unOp .not 4 (.const t38)) 4) w27 fun t39 w28 =>
  CondV t39 (
    R (.returned (Value.bool false)) w28) (
    Run Try.prog (sCall (Value.func (.func 18) #[] #[]) [p0]) w28 fun t42 w29 =>
  Run Try.prog (sCall (Value.func (.func 21) #[] #[]) [t30, t42]) w29 fun t43 w30 =>
  Run Try.prog (sOp (.unOp .not 4 (.const t43)) 4) w30 fun t44 w31 =>
  CondV t44 (
    R (.returned (Value.bool false)) w31) (
    (∃ A32 : (Nat → Bool) → Value → Value → Value → Value → Value → World → Prop, A32 (fun _ => false) undef undef undef undef undef { w31 with drawn := w31.drawn + 1 } ∧ (
    (∀ D33 : Nat → Bool, D33 0 = false → ∀ t49 t48 t47 t46 t45 : Value, ∀ w34 : World, A32 D33 t49 t48 t47 t46 t45 w34 →
      Run Try.prog (sOp (.load 31 (.const t8)) 31) w34 fun t45_2 w35 =>
      A32 (setD D33 0) t49 t48 t47 t46 t45_2 w35) ∧
    (∀ D33 : Nat → Bool, D33 1 = false → ∀ t49 t48 t47 t46 t45 : Value, ∀ w36 : World, A32 D33 t49 t48 t47 t46 t45 w36 →
      Run Try.prog (sOp (.load 24 (.const t3)) 24) w36 fun t46_2 w37 =>
      A32 (setD D33 1) t49 t48 t47 t46_2 t45 w37) ∧
    (∀ D33 : Nat → Bool, D33 2 = false → D33 1 = true → ∀ t49 t48 t47 t46 t45 : Value, ∀ w38 : World, A32 D33 t49 t48 t47 t46 t45 w38 →
      Run Try.prog (sCall (Value.func (.func 19) #[] #[]) [t46]) w38 fun t47_2 w39 =>
      A32 (setD D33 2) t49 t48 t47_2 t46 t45 w39) ∧
    (∀ D33 : Nat → Bool, D33 3 = false → D33 0 = true → D33 2 = true → D33 2 = true → ∀ t49 t48 t47 t46 t45 : Value, ∀ w40 : World, A32 D33 t49 t48 t47 t46 t45 w40 →
      Run Try.prog (sCall (Value.func (.func 22) #[] #[]) [t45, t47]) w40 fun t48_2 w41 =>
      A32 (setD D33 3) t49 t48_2 t47 t46 t45 w41) ∧
    (∀ D33 : Nat → Bool, D33 4 = false → D33 3 = true → ∀ t49 t48 t47 t46 t45 : Value, ∀ w42 : World, A32 D33 t49 t48 t47 t46 t45 w42 →
      Run Try.prog (sOp (.unOp .not 4 (.const t48)) 4) w42 fun t49_2 w43 =>
      A32 (setD D33 4) t49_2 t48 t47 t46 t45 w43) ∧
    True) ∧
  ∀ D33 : Nat → Bool, D33 4 = true → D33 3 = true → D33 2 = true → D33 1 = true → D33 0 = true → ∀ t49 t48 t47 t46 t45 : Value, ∀ w44 : World, A32 D33 t49 t48 t47 t46 t45 w44 →
  CondV t49 (
    R (.returned (Value.bool false)) w44) (
    Run Try.prog (sCall (Value.func (.func 23) #[] #[]) [t30, (Value.int .i64 1)]) w44 fun t52 w45 =>
  Run Try.prog (sOp (.load 31 (.const t8)) 31) w45 fun t53 w46 =>
  Run Try.prog (sCall (Value.func (.func 24) #[] #[]) [t53, t52]) w46 fun t55 w47 =>
  (∃ J48 : Value → World → Prop, (
    Run Try.prog (sBin .lss 3 false true t55 (Value.int .i64 0)) w47 fun t57 w49 =>
    GuardV t57 false (
      Run Try.prog (sCall (Value.func (.func 21) #[] #[]) [t35, t6]) w49 fun t61 w50 =>
      Run Try.prog (sOp (.unOp .not 4 (.const t61)) 4) w50 fun t62 w51 =>
      Run Try.prog (sOp (.pick (.const t57) (.const (Value.bool true)) (.const t62)) 4) w51 fun t63 w52 =>
      J48 t63 w52) (
      Run Try.prog (sOp (.pick (.const t57) (.const (Value.bool true)) (.const undef)) 4) w49 fun t63_2 w53 =>
      J48 t63_2 w53)) ∧
  ∀ t63_3 _ _ _ _ _ _ _ : Value, ∀ w54 : World, J48 t63_3 w54 →
  CondV t63_3 (
    R (.returned (Value.bool false)) w54) (
    Run Try.prog (sCall (Value.func (.func 23) #[] #[]) [t35, (Value.int .i64 1)]) w54 fun t66 w55 =>
  Run Try.prog (sCall (Value.func (.func 25) #[] #[]) [t35, (Value.int .i64 1)]) w55 fun t69 w56 =>
  Run Try.prog (sBin .lss 3 false true t69 (Value.int .i64 0)) w56 fun t71 w57 =>
  CondV t71 (
    R (.returned (Value.bool false)) w57) (
    Run Try.prog (sBin .neq 3 false false t69 t66) w57 fun t74 w58 =>
  CondV t74 (
    R (.returned (Value.bool false)) w58) (
    (∃ A59 : (Nat → Bool) → Value → Value → Value → Value → Value → Value → World → Prop, A59 (fun _ => false) undef undef undef undef undef undef { w58 with drawn := w58.drawn + 1 } ∧ (
    (∀ D60 : Nat → Bool, D60 0 = false → ∀ t13 t79 t78 t77 t76 t75 : Value, ∀ w61 : World, A59 D60 t13 t79 t78 t77 t76 t75 w61 →
      A59 (setD D60 0) t13 t79 t78 t77 t76 p0 w61) ∧
    (∀ D60 : Nat → Bool, D60 1 = false → D60 0 = true → ∀ t13 t79 t78 t77 t76 t75 : Value, ∀ w62 : World, A59 D60 t13 t79 t78 t77 t76 t75 w62 →
      Run Try.prog (sCall (Value.func (.func 18) #[] #[]) [t75]) w62 fun t76_2 w63 =>
      A59 (setD D60 1) t13 t79 t78 t77 t76_2 t75 w63) ∧
    (∀ D60 : Nat → Bool, D60 2 = false → ∀ t13 t79 t78 t77 t76 t75 : Value, ∀ w64 : World, A59 D60 t13 t79 t78 t77 t76 t75 w64 →
      Run Try.prog (sOp (.load 24 (.const t3)) 24) w64 fun t77_2 w65 =>
      A59 (setD D60 2) t13 t79 t78 t77_2 t76 t75 w65) ∧
    (∀ D60 : Nat → Bool, D60 3 = false → D60 2 = true → D60 1 = true → ∀ t13 t79 t78 t77 t76 t75 : Value, ∀ w66 : World, A59 D60 t13 t79 t78 t77 t76 t75 w66 →
      Run Try.prog (sCall (Value.func (.func 19) #[] #[]) [t77]) w66 fun t78_2 w67 =>
      A59 (setD D60 3) t13 t79 t78_2 t77 t76 t75 w67) ∧
    (∀ D60 : Nat → Bool, D60 4 = false → D60 1 = true → D60 3 = true → D60 3 = true → ∀ t13 t79 t78 t77 t76 t75 : Value, ∀ w68 : World, A59 D60 t13 t79 t78 t77 t76 t75 w68 →
      Run Try.prog (sCall (Value.func (.func 20) #[] #[]) [t76, t78]) w68 fun t79_2 w69 =>
      A59 (setD D60 4) t13 t79_2 t78 t77 t76 t75 w69) ∧
    (∀ D60 : Nat → Bool, D60 5 = false → D60 4 = true → D60 4 = true → D60 0 = true → D60 1 = true → D60 2 = true → D60 3 = true → D60 4 = true → ∀ t13 t79 t78 t77 t76 t75 : Value, ∀ w70 : World, A59 D60 t13 t79 t78 t77 t76 t75 w70 →
      A59 (setD D60 5) t79 t79 t78 t77 t76 t75 w70) ∧
    True) ∧
  ∀ D60 : Nat → Bool, D60 5 = true → D60 4 = true → D60 3 = true → D60 2 = true → D60 1 = true → D60 0 = true → ∀ t13 t79 t78 t77 t76 t75 : Value, ∀ w71 : World, A59 D60 t13 t79 t78 t77 t76 t75 w71 →
  Run Try.prog (sCall (Value.func (.func 21) #[] #[]) [t13, t6]) w71 fun t82 w72 =>
  Run Try.prog (sOp (.unOp .not 4 (.const t82)) 4) w72 fun t83 w73 =>
  CondV t83 (
    R (.returned (Value.bool false)) w73) (
    Run Try.prog (sCall (Value.func (.func 25) #[] #[]) [t35, (Value.int .i64 1)]) w73 fun t86 w74 =>
  Run Try.prog (sBin .lss 3 false true t86 (Value.int .i64 0)) w74 fun t88 w75 =>
  CondV t88 (
    R (.returned (Value.bool false)) w75) (
    Run Try.prog (sBin .neq 3 false false t86 t66) w75 fun t91 w76 =>
  CondV t91 (
    R (.returned (Value.bool false)) w76) (
    R (.returned (Value.bool true)) w76)))))))))))))))
theorem calls_l_FnExactFactsFor {p0 p1 : Value} {w : World} {R : Ending → World → Prop} (h : sh_l_FnExactFactsFor p0 p1 w R) : Calls Try.prog 3 #[p0, p1] w R :=
  calls_sh (.seq none .leaf (.seq none .leaf (.seq none .leaf (.seq none .leaf (.seq none .leaf (.seq none .leaf (.seq none .leaf (.seq none .leaf (.seq none .leaf (.seq none .leaf (.seq none .leaf (.seq none .leaf (.seq none .leaf (.seq none .leaf (.seq none .leaf (.seq none .leaf (.seq none (.seq (some [63]) .leaf .leaf) .leaf))))))))))))))))) [p0, p1] mixed Try.func3 (by kernel_rfl) (by kernel_rfl) h

/- loop.example/prologserver/laws.FnExactCanUnfold : function 4 -/
def sh_l_FnExactCanUnfold (p0 p1 : Value) (w : World) (R : Ending → World → Prop) : Prop :=
  Run Try.prog (sCall (Value.func (.func 26) #[] #[]) [p0, (Value.int .i64 1048576)]) w fun t11 w1 =>
  Run Try.prog (sBin .lss 3 false true t11 (Value.int .i64 0)) w1 fun t13 w2 =>
  CondV t13 (
    R (.returned (Value.bool true)) w2) (
    Run Try.prog (sCall (Value.func (.func 28) #[] #[]) [p0]) w2 fun t15 w3 =>
  Run Try.prog (sCall (Value.func (.func 27) #[] #[]) [t15, p1]) w3 fun t17 w4 =>
  Run Try.prog (sCall (Value.func (.func 28) #[] #[]) [p0]) w4 fun t19 w5 =>
  Run Try.prog (sCall (Value.func (.func 29) #[] #[]) [t19, p1]) w5 fun t22 w6 =>
  Run Try.prog (sBin .neq 4 false false t22 t17) w6 fun t25 w7 =>
  CondV t25 (
    R (.returned (Value.bool false)) w7) (
    Run Try.prog (sCall (Value.func (.func 28) #[] #[]) [p0]) w7 fun t28 w8 =>
  Run Try.prog (sCall (Value.func (.func 30) #[] #[]) [t19, t28]) w8 fun t29 w9 =>
  Run Try.prog (sOp (.unOp .not 4 (.const t29)) 4) w9 fun t30 w10 =>
  CondV t30 (
    R (.returned (Value.bool false)) w10) (
    R (.returned (Value.bool true)) w10)))
theorem calls_l_FnExactCanUnfold {p0 p1 : Value} {w : World} {R : Ending → World → Prop} (h : sh_l_FnExactCanUnfold p0 p1 w R) : Calls Try.prog 4 #[p0, p1] w R :=
  calls_sh .leaf [p0, p1] mixed Try.func4 (by kernel_rfl) (by kernel_rfl) h

/- loop.example/prologserver/laws.FnExactSubsumedClause : function 5 -/
def sh_l_FnExactSubsumedClause (p0 p1 : Value) (w : World) (R : Ending → World → Prop) : Prop :=
  Run Try.prog (sOp (.box 46 (.const p0)) 0) w fun t2 w1 =>
  Run Try.prog (sOp (.box 46 (.const p1)) 0) w1 fun t3 w2 =>
  Run Try.prog (sOp (.load 46 (.const t2)) 46) w2 fun t10 w3 =>
  Run Try.prog (sCall (Value.func (.func 31) #[] #[]) [t10, (Value.int .i64 1048576)]) w3 fun t12 w4 =>
  Run Try.prog (sBin .lss 3 false true t12 (Value.int .i64 0)) w4 fun t14 w5 =>
  CondV t14 (
    R (.returned (Value.bool true)) w5) (
    Run Try.prog (sOp (.load 46 (.const t3)) 46) w5 fun t15 w6 =>
  Run Try.prog (sCall (Value.func (.func 31) #[] #[]) [t15, t12]) w6 fun t17 w7 =>
  Run Try.prog (sBin .lss 3 false true t17 (Value.int .i64 0)) w7 fun t19 w8 =>
  CondV t19 (
    R (.returned (Value.bool true)) w8) (
    (∃ A9 : (Nat → Bool) → Value → Value → Value → Value → Value → Value → World → Prop, A9 (fun _ => false) undef undef undef undef undef undef { w8 with drawn := w8.drawn + 1 } ∧ (
    (∀ D10 : Nat → Bool, D10 0 = false → ∀ t6 t24 t23 t22 t21 t20 : Value, ∀ w11 : World, A9 D10 t6 t24 t23 t22 t21 t20 w11 →
      Run Try.prog (sOp (.load 46 (.const t2)) 46) w11 fun t20_2 w12 =>
      A9 (setD D10 0) t6 t24 t23 t22 t21 t20_2 w12) ∧
    (∀ D10 : Nat → Bool, D10 1 = false → D10 0 = true → ∀ t6 t24 t23 t22 t21 t20 : Value, ∀ w13 : World, A9 D10 t6 t24 t23 t22 t21 t20 w13 →
      Run Try.prog (sCall (Value.func (.func 33) #[] #[]) [t20]) w13 fun t21_2 w14 =>
      A9 (setD D10 1) t6 t24 t23 t22 t21_2 t20 w14) ∧
    (∀ D10 : Nat → Bool, D10 2 = false → ∀ t6 t24 t23 t22 t21 t20 : Value, ∀ w15 : World, A9 D10 t6 t24 t23 t22 t21 t20 w15 →
      Run Try.prog (sOp (.load 46 (.const t3)) 46) w15 fun t22_2 w16 =>
      A9 (setD D10 2) t6 t24 t23 t22_2 t21 t20 w16) ∧
    (∀ D10 : Nat → Bool, D10 3 = false → D10 2 = true → D10 1 = true → ∀ t6 t24 t23 t22 t21 t20 : Value, ∀ w17 : World, A9 D10 t6 t24 t23 t22 t21 t20 w17 →
      Run Try.prog (sCall (Value.func (.func 33) #[] #[]) [t22]) w17 fun t23_2 w18 =>
      A9 (setD D10 3) t6 t24 t23_2 t22 t21 t20 w18) ∧
    (∀ D10 : Nat → Bool, D10 4 = false → D10 1 = true → D10 3 = true → D10 3 = true → ∀ t6 t24 t23 t22 t21 t20 : Value, ∀ w19 : World, A9 D10 t6 t24 t23 t22 t21 t20 w19 →
      Run Try.prog (sCall (Value.func (.func 32) #[] #[]) [t21, t23]) w19 fun t24_2 w20 =>
      A9 (setD D10 4) t6 t24_2 t23 t22 t21 t20 w20) ∧
    (∀ D10 : Nat → Bool, D10 5 = false → D10 4 = true → D10 4 = true → D10 0 = true → D10 1 = true → D10 2 = true → D10 3 = true → D10 4 = true → ∀ t6 t24 t23 t22 t21 t20 : Value, ∀ w21 : World, A9 D10 t6 t24 t23 t22 t21 t20 w21 →
      A9 (setD D10 5) t24 t24 t23 t22 t21 t20 w21) ∧
    True) ∧
  ∀ D10 : Nat → Bool, D10 5 = true → D10 4 = true → D10 3 = true → D10 2 = true → D10 1 = true → D10 0 = true → ∀ t6 t24 t23 t22 t21 t20 : Value, ∀ w22 : World, A9 D10 t6 t24 t23 t22 t21 t20 w22 →
  Run Try.prog (sOp (.load 46 (.const t2)) 46) w22 fun t25 w23 =>
  Run Try.prog (sCall (Value.func (.func 33) #[] #[]) [t25]) w23 fun t26 w24 =>
  Run Try.prog (sOp (.alloc 50) 0) w24 fun t7 w25 =>
  Run Try.prog (sOp (.store 50 (.const t7) (.const t26)) 0) w25 fun _u w26 =>
  Run Try.prog (sOp (.load 46 (.const t3)) 46) w26 fun t27 w27 =>
  Run Try.prog (sCall (Value.func (.func 33) #[] #[]) [t27]) w27 fun t28 w28 =>
  Run Try.prog (sOp (.alloc 50) 0) w28 fun t8 w29 =>
  Run Try.prog (sOp (.store 50 (.const t8) (.const t28)) 0) w29 fun _ w30 =>
  Run Try.prog (sOp (.load 50 (.const t7)) 50) w30 fun t29 w31 =>
  Run Try.prog (sOp (.load 50 (.const t8)) 50) w31 fun t30 w32 =>
  Run Try.prog (sCall (Value.func (.func 34) #[] #[]) [t29, t30]) w32 fun t31 w33 =>
  Run Try.prog (sBin .neq 4 false false t31 t6) w33 fun t34 w34 =>
  CondV t34 (
    R (.returned (Value.bool false)) w34) (
    (∃ A35 : (Nat → Bool) → Value → Value → Value → Value → Value → World → Prop, A35 (fun _ => false) undef undef undef undef undef { w34 with drawn := w34.drawn + 1 } ∧ (
    (∀ D36 : Nat → Bool, D36 0 = false → ∀ t39 t38 t37 t36 t35 : Value, ∀ w37 : World, A35 D36 t39 t38 t37 t36 t35 w37 →
      Run Try.prog (sOp (.load 50 (.const t7)) 50) w37 fun t35_2 w38 =>
      A35 (setD D36 0) t39 t38 t37 t36 t35_2 w38) ∧
    (∀ D36 : Nat → Bool, D36 1 = false → ∀ t39 t38 t37 t36 t35 : Value, ∀ w39 : World, A35 D36 t39 t38 t37 t36 t35 w39 →
      Run Try.prog (sOp (.load 46 (.const t2)) 46) w39 fun t36_2 w40 =>
      A35 (setD D36 1) t39 t38 t37 t36_2 t35 w40) ∧
    (∀ D36 : Nat → Bool, D36 2 = false → D36 1 = true → ∀ t39 t38 t37 t36 t35 : Value, ∀ w41 : World, A35 D36 t39 t38 t37 t36 t35 w41 →
      Run Try.prog (sCall (Value.func (.func 33) #[] #[]) [t36]) w41 fun t37_2 w42 =>
      A35 (setD D36 2) t39 t38 t37_2 t36 t35 w42) ∧
    (∀ D36 : Nat → Bool, D36 3 = false → D36 0 = true → D36 2 = true → D36 2 = true → ∀ t39 t38 t37 t36 t35 : Value, ∀ w43 : World, A35 D36 t39 t38 t37 t36 t35 w43 →
      Run Try.prog (sCall (Value.func (.func 35) #[] #[]) [t35, t37]) w43 fun t38_2 w44 =>
      A35 (setD D36 3) t39 t38_2 t37 t36 t35 w44) ∧
    (∀ D36 : Nat → Bool, D36 4 = false → D36 3 = true → ∀ t39 t38 t37 t36 t35 : Value, ∀ w45 : World, A35 D36 t39 t38 t37 t36 t35 w45 →
      Run Try.prog (sOp (.unOp .not 4 (.const t38)) 4) w45 fun t39_2 w46 =>
      A35 (setD D36 4) t39_2 t38 t37 t36 t35 w46) ∧
    True) ∧
  ∀ D36 : Nat → Bool, D36 4 = true → D36 3 = true → D36 2 = true → D36 1 = true → D36 0 = true → ∀ t39 t38 t37 t36 t35 : Value, ∀ w47 : World, A35 D36 t39 t38 t37 t36 t35 w47 →
  CondV t39 (
    R (.returned (Value.bool false)) w47) (
    (∃ A48 : (Nat → Bool) → Value → Value → Value → Value → Value → World → Prop, A48 (fun _ => false) undef undef undef undef undef { w47 with drawn := w47.drawn + 1 } ∧ (
    (∀ D49 : Nat → Bool, D49 0 = false → ∀ t44 t43 t42 t41 t40 : Value, ∀ w50 : World, A48 D49 t44 t43 t42 t41 t40 w50 →
      Run Try.prog (sOp (.load 50 (.const t8)) 50) w50 fun t40_2 w51 =>
      A48 (setD D49 0) t44 t43 t42 t41 t40_2 w51) ∧
    (∀ D49 : Nat → Bool, D49 1 = false → ∀ t44 t43 t42 t41 t40 : Value, ∀ w52 : World, A48 D49 t44 t43 t42 t41 t40 w52 →
      Run Try.prog (sOp (.load 46 (.const t3)) 46) w52 fun t41_2 w53 =>
      A48 (setD D49 1) t44 t43 t42 t41_2 t40 w53) ∧
    (∀ D49 : Nat → Bool, D49 2 = false → D49 1 = true → ∀ t44 t43 t42 t41 t40 : Value, ∀ w54 : World, A48 D49 t44 t43 t42 t41 t40 w54 →
      Run Try.prog (sCall (Value.func (.func 33) #[] #[]) [t41]) w54 fun t42_2 w55 =>
      A48 (setD D49 2) t44 t43 t42_2 t41 t40 w55) ∧
    (∀ D49 : Nat → Bool, D49 3 = false → D49 0 = true → D49 2 = true → D49 2 = true → ∀ t44 t43 t42 t41 t40 : Value, ∀ w56 : World, A48 D49 t44 t43 t42 t41 t40 w56 →
      Run Try.prog (sCall (Value.func (.func 35) #[] #[]) [t40, t42]) w56 fun t43_2 w57 =>
      A48 (setD D49 3) t44 t43_2 t42 t41 t40 w57) ∧
    (∀ D49 : Nat → Bool, D49 4 = false → D49 3 = true → ∀ t44 t43 t42 t41 t40 : Value, ∀ w58 : World, A48 D49 t44 t43 t42 t41 t40 w58 →
      Run Try.prog (sOp (.unOp .not 4 (.const t43)) 4) w58 fun t44_2 w59 =>
      A48 (setD D49 4) t44_2 t43 t42 t41 t40 w59) ∧
    True) ∧
  ∀ D49 : Nat → Bool, D49 4 = true → D49 3 = true → D49 2 = true → D49 1 = true → D49 0 = true → ∀ t44 t43 t42 t41 t40 : Value, ∀ w60 : World, A48 D49 t44 t43 t42 t41 t40 w60 →
  CondV t44 (
    R (.returned (Value.bool false)) w60) (
    R (.returned (Value.bool true)) w60))))))))
theorem calls_l_FnExactSubsumedClause {p0 p1 : Value} {w : World} {R : Ending → World → Prop} (h : sh_l_FnExactSubsumedClause p0 p1 w R) : Calls Try.prog 5 #[p0, p1] w R :=
  calls_sh .leaf [p0, p1] mixed Try.func5 (by kernel_rfl) (by kernel_rfl) h

/- loop.example/prologserver/laws.FnExactFlatProgram : function 6 -/
def sh_l_FnExactFlatProgram (p0 : Value) (w : World) (R : Ending → World → Prop) : Prop :=
  Run Try.prog (sCall (Value.func (.func 26) #[] #[]) [p0, (Value.int .i64 1048576)]) w fun t9 w1 =>
  Run Try.prog (sBin .lss 3 false true t9 (Value.int .i64 0)) w1 fun t11 w2 =>
  CondV t11 (
    R (.returned (Value.bool true)) w2) (
    Run Try.prog (sCall (Value.func (.func 28) #[] #[]) [p0]) w2 fun t13 w3 =>
  Run Try.prog (sCall (Value.func (.func 36) #[] #[]) [t13]) w3 fun t14 w4 =>
  Run Try.prog (sCall (Value.func (.func 28) #[] #[]) [p0]) w4 fun t16 w5 =>
  Run Try.prog (sCall (Value.func (.func 37) #[] #[]) [t16]) w5 fun t18 w6 =>
  Run Try.prog (sBin .neq 4 false false t18 t14) w6 fun t21 w7 =>
  CondV t21 (
    R (.returned (Value.bool false)) w7) (
    Run Try.prog (sCall (Value.func (.func 28) #[] #[]) [p0]) w7 fun t24 w8 =>
  Run Try.prog (sCall (Value.func (.func 30) #[] #[]) [t16, t24]) w8 fun t25 w9 =>
  Run Try.prog (sOp (.unOp .not 4 (.const t25)) 4) w9 fun t26 w10 =>
  CondV t26 (
    R (.returned (Value.bool false)) w10) (
    R (.returned (Value.bool true)) w10)))
theorem calls_l_FnExactFlatProgram {p0 : Value} {w : World} {R : Ending → World → Prop} (h : sh_l_FnExactFlatProgram p0 w R) : Calls Try.prog 6 #[p0] w R :=
  calls_sh .leaf [p0] mixed Try.func6 (by kernel_rfl) (by kernel_rfl) h

/- loop.example/prologserver/laws.FnExactRecursivePred : function 7 -/
def sh_l_FnExactRecursivePred (p0 p1 : Value) (w : World) (R : Ending → World → Prop) : Prop :=
  Run Try.prog (sOp (.box 56 (.const p1)) 0) w fun t3 w1 =>
  Run Try.prog (sCall (Value.func (.func 26) #[] #[]) [p0, (Value.int .i64 1048576)]) w1 fun t11 w2 =>
  Run Try.prog (sBin .lss 3 false true t11 (Value.int .i64 0)) w2 fun t13 w3 =>
  CondV t13 (
    R (.returned (Value.bool true)) w3) (
    Run Try.prog (sOp (.load 56 (.const t3)) 56) w3 fun t14 w4 =>
  Run Try.prog (sCall (Value.func (.func 38) #[] #[]) [t14, t11]) w4 fun t16 w5 =>
  Run Try.prog (sBin .lss 3 false true t16 (Value.int .i64 0)) w5 fun t18 w6 =>
  CondV t18 (
    R (.returned (Value.bool true)) w6) (
    (∃ A7 : (Nat → Bool) → Value → Value → Value → Value → Value → Value → World → Prop, A7 (fun _ => false) undef undef undef undef undef undef { w6 with drawn := w6.drawn + 1 } ∧ (
    (∀ D8 : Nat → Bool, D8 0 = false → ∀ t6 t23 t22 t21 t20 t19 : Value, ∀ w9 : World, A7 D8 t6 t23 t22 t21 t20 t19 w9 →
      A7 (setD D8 0) t6 t23 t22 t21 t20 p0 w9) ∧
    (∀ D8 : Nat → Bool, D8 1 = false → D8 0 = true → ∀ t6 t23 t22 t21 t20 t19 : Value, ∀ w10 : World, A7 D8 t6 t23 t22 t21 t20 t19 w10 →
      Run Try.prog (sCall (Value.func (.func 28) #[] #[]) [t19]) w10 fun t20_2 w11 =>
      A7 (setD D8 1) t6 t23 t22 t21 t20_2 t19 w11) ∧
    (∀ D8 : Nat → Bool, D8 2 = false → ∀ t6 t23 t22 t21 t20 t19 : Value, ∀ w12 : World, A7 D8 t6 t23 t22 t21 t20 t19 w12 →
      Run Try.prog (sOp (.load 56 (.const t3)) 56) w12 fun t21_2 w13 =>
      A7 (setD D8 2) t6 t23 t22 t21_2 t20 t19 w13) ∧
    (∀ D8 : Nat → Bool, D8 3 = false → D8 2 = true → D8 1 = true → ∀ t6 t23 t22 t21 t20 t19 : Value, ∀ w14 : World, A7 D8 t6 t23 t22 t21 t20 t19 w14 →
      Run Try.prog (sCall (Value.func (.func 40) #[] #[]) [t21]) w14 fun t22_2 w15 =>
      A7 (setD D8 3) t6 t23 t22_2 t21 t20 t19 w15) ∧
    (∀ D8 : Nat → Bool, D8 4 = false → D8 1 = true → D8 3 = true → D8 3 = true → ∀ t6 t23 t22 t21 t20 t19 : Value, ∀ w16 : World, A7 D8 t6 t23 t22 t21 t20 t19 w16 →
      Run Try.prog (sCall (Value.func (.func 39) #[] #[]) [t20, t22]) w16 fun t23_2 w17 =>
      A7 (setD D8 4) t6 t23_2 t22 t21 t20 t19 w17) ∧
    (∀ D8 : Nat → Bool, D8 5 = false → D8 4 = true → D8 4 = true → D8 0 = true → D8 1 = true → D8 2 = true → D8 3 = true → D8 4 = true → ∀ t6 t23 t22 t21 t20 t19 : Value, ∀ w18 : World, A7 D8 t6 t23 t22 t21 t20 t19 w18 →
      A7 (setD D8 5) t23 t23 t22 t21 t20 t19 w18) ∧
    True) ∧
  ∀ D8 : Nat → Bool, D8 5 = true → D8 4 = true → D8 3 = true → D8 2 = true → D8 1 = true → D8 0 = true → ∀ t6 t23 t22 t21 t20 t19 : Value, ∀ w19 : World, A7 D8 t6 t23 t22 t21 t20 t19 w19 →
  Run Try.prog (sCall (Value.func (.func 28) #[] #[]) [p0]) w19 fun t25 w20 =>
  Run Try.prog (sOp (.load 56 (.const t3)) 56) w20 fun t27 w21 =>
  Run Try.prog (sCall (Value.func (.func 40) #[] #[]) [t27]) w21 fun t28 w22 =>
  Run Try.prog (sCall (Value.func (.func 41) #[] #[]) [t25, t28]) w22 fun t29 w23 =>
  Run Try.prog (sBin .neq 4 false false t29 t6) w23 fun t32 w24 =>
  CondV t32 (
    R (.returned (Value.bool false)) w24) (
    Run Try.prog (sCall (Value.func (.func 28) #[] #[]) [p0]) w24 fun t35 w25 =>
  Run Try.prog (sCall (Value.func (.func 30) #[] #[]) [t25, t35]) w25 fun t36 w26 =>
  Run Try.prog (sOp (.unOp .not 4 (.const t36)) 4) w26 fun t37 w27 =>
  CondV t37 (
    R (.returned (Value.bool false)) w27) (
    R (.returned (Value.bool true)) w27)))))
theorem calls_l_FnExactRecursivePred {p0 p1 : Value} {w : World} {R : Ending → World → Prop} (h : sh_l_FnExactRecursivePred p0 p1 w R) : Calls Try.prog 7 #[p0, p1] w R :=
  calls_sh .leaf [p0, p1] mixed Try.func7 (by kernel_rfl) (by kernel_rfl) h

/- loop.example/prologserver/laws.FnExactPredsOf : function 8 -/
def sh_l_FnExactPredsOf (p0 : Value) (w : World) (R : Ending → World → Prop) : Prop :=
  Run Try.prog (sCall (Value.func (.func 26) #[] #[]) [p0, (Value.int .i64 1048576)]) w fun t13 w1 =>
  Run Try.prog (sBin .lss 3 false true t13 (Value.int .i64 0)) w1 fun t15 w2 =>
  CondV t15 (
    R (.returned (Value.bool true)) w2) (
    Run Try.prog (sCall (Value.func (.func 28) #[] #[]) [p0]) w2 fun t17 w3 =>
  Run Try.prog (sCall (Value.func (.func 42) #[] #[]) [t17]) w3 fun t18 w4 =>
  Run Try.prog (sCall (Value.func (.func 28) #[] #[]) [p0]) w4 fun t20 w5 =>
  Run Try.prog (sCall (Value.func (.func 43) #[] #[]) [t20]) w5 fun t22 w6 =>
  Run Try.prog (sCall (Value.func (.func 44) #[] #[]) [t22, t18]) w6 fun t25 w7 =>
  Run Try.prog (sOp (.unOp .not 4 (.const t25)) 4) w7 fun t26 w8 =>
  CondV t26 (
    R (.returned (Value.bool false)) w8) (
    Run Try.prog (sCall (Value.func (.func 28) #[] #[]) [p0]) w8 fun t29 w9 =>
  Run Try.prog (sCall (Value.func (.func 30) #[] #[]) [t20, t29]) w9 fun t30 w10 =>
  Run Try.prog (sOp (.unOp .not 4 (.const t30)) 4) w10 fun t31 w11 =>
  CondV t31 (
    R (.returned (Value.bool false)) w11) (
    Run Try.prog (sCall (Value.func (.func 45) #[] #[]) [t20, (Value.int .i64 1)]) w11 fun t34 w12 =>
  (∃ J13 : Value → World → Prop, (
    Run Try.prog (sBin .lss 3 false true t34 (Value.int .i64 0)) w12 fun t36 w14 =>
    GuardV t36 false (
      Run Try.prog (sCall (Value.func (.func 44) #[] #[]) [t22, t18]) w14 fun t40 w15 =>
      Run Try.prog (sOp (.unOp .not 4 (.const t40)) 4) w15 fun t41 w16 =>
      Run Try.prog (sOp (.pick (.const t36) (.const (Value.bool true)) (.const t41)) 4) w16 fun t42 w17 =>
      J13 t42 w17) (
      Run Try.prog (sOp (.pick (.const t36) (.const (Value.bool true)) (.const undef)) 4) w14 fun t42_2 w18 =>
      J13 t42_2 w18)) ∧
  ∀ t42_3 _ _ _ _ _ _ _ : Value, ∀ w19 : World, J13 t42_3 w19 →
  CondV t42_3 (
    R (.returned (Value.bool false)) w19) (
    Run Try.prog (sCall (Value.func (.func 46) #[] #[]) [t22, (Value.int .i64 1)]) w19 fun t45 w20 =>
  Run Try.prog (sCall (Value.func (.func 47) #[] #[]) [t22, (Value.int .i64 1)]) w20 fun t48 w21 =>
  Run Try.prog (sBin .lss 3 false true t48 (Value.int .i64 0)) w21 fun t50 w22 =>
  CondV t50 (
    R (.returned (Value.bool false)) w22) (
    Run Try.prog (sBin .neq 3 false false t48 t45) w22 fun t53 w23 =>
  CondV t53 (
    R (.returned (Value.bool false)) w23) (
    Run Try.prog (sCall (Value.func (.func 28) #[] #[]) [p0]) w23 fun t55 w24 =>
  Run Try.prog (sCall (Value.func (.func 43) #[] #[]) [t55]) w24 fun t56 w25 =>
  Run Try.prog (sCall (Value.func (.func 44) #[] #[]) [t56, t18]) w25 fun t59 w26 =>
  Run Try.prog (sOp (.unOp .not 4 (.const t59)) 4) w26 fun t60 w27 =>
  CondV t60 (
    R (.returned (Value.bool false)) w27) (
    Run Try.prog (sCall (Value.func (.func 47) #[] #[]) [t22, (Value.int .i64 1)]) w27 fun t63 w28 =>
  Run Try.prog (sBin .lss 3 false true t63 (Value.int .i64 0)) w28 fun t65 w29 =>
  CondV t65 (
    R (.returned (Value.bool false)) w29) (
    Run Try.prog (sBin .neq 3 false false t63 t45) w29 fun t68 w30 =>
  CondV t68 (
    R (.returned (Value.bool false)) w30) (
    R (.returned (Value.bool true)) w30))))))))))
theorem calls_l_FnExactPredsOf {p0 : Value} {w : World} {R : Ending → World → Prop} (h : sh_l_FnExactPredsOf p0 w R) : Calls Try.prog 8 #[p0] w R :=
  calls_sh (.seq none .leaf (.seq none .leaf (.seq none .leaf (.seq none .leaf (.seq none .leaf (.seq none .leaf (.seq none .leaf (.seq none .leaf (.seq none .leaf (.seq none .leaf (.seq none .leaf (.seq none (.seq (some [42]) .leaf .leaf) .leaf)))))))))))) [p0] mixed Try.func8 (by kernel_rfl) (by kernel_rfl) h

/- loop.example/prologserver/laws.FnExactRenumberClause : function 9 -/
def sh_l_FnExactRenumberClause (p0 : Value) (w : World) (R : Ending → World → Prop) : Prop :=
  Run Try.prog (sOp (.box 46 (.const p0)) 0) w fun t1 w1 =>
  Run Try.prog (sOp (.load 46 (.const t1)) 46) w1 fun t14 w2 =>
  Run Try.prog (sCall (Value.func (.func 31) #[] #[]) [t14, (Value.int .i64 1048576)]) w2 fun t16 w3 =>
  Run Try.prog (sBin .lss 3 false true t16 (Value.int .i64 0)) w3 fun t18 w4 =>
  CondV t18 (
    R (.returned (Value.bool true)) w4) (
    Run Try.prog (sOp (.load 46 (.const t1)) 46) w4 fun t20 w5 =>
  Run Try.prog (sCall (Value.func (.func 33) #[] #[]) [t20]) w5 fun t21 w6 =>
  Run Try.prog (sCall (Value.func (.func 48) #[] #[]) [t21]) w6 fun t22 w7 =>
  Run Try.prog (sOp (.extract (.const t22) 0) 50) w7 fun t23 w8 =>
  Run Try.prog (sOp (.extract (.const t22) 1) 4) w8 fun t24 w9 =>
  Run Try.prog (sOp (.alloc 50) 0) w9 fun t4 w10 =>
  Run Try.prog (sOp (.store 50 (.const t4) (.const t23)) 0) w10 fun _u w11 =>
  Run Try.prog (sOp (.load 46 (.const t1)) 46) w11 fun t25 w12 =>
  Run Try.prog (sCall (Value.func (.func 33) #[] #[]) [t25]) w12 fun t26 w13 =>
  Run Try.prog (sOp (.alloc 50) 0) w13 fun t6 w14 =>
  Run Try.prog (sOp (.store 50 (.const t6) (.const t26)) 0) w14 fun _u w15 =>
  Run Try.prog (sOp (.load 50 (.const t6)) 50) w15 fun t28 w16 =>
  Run Try.prog (sCall (Value.func (.func 49) #[] #[]) [t28]) w16 fun t29 w17 =>
  Run Try.prog (sOp (.extract (.const t29) 0) 50) w17 fun t30 w18 =>
  Run Try.prog (sOp (.extract (.const t29) 1) 4) w18 fun t31 w19 =>
  Run Try.prog (sOp (.alloc 50) 0) w19 fun t7 w20 =>
  Run Try.prog (sOp (.store 50 (.const t7) (.const t30)) 0) w20 fun _u w21 =>
  (∃ J22 : Value → World → Prop, (
    Run Try.prog (sOp (.load 50 (.const t7)) 50) w21 fun t32 w23 =>
    Run Try.prog (sOp (.load 50 (.const t4)) 50) w23 fun t33 w24 =>
    Run Try.prog (sCall (Value.func (.func 35) #[] #[]) [t32, t33]) w24 fun t34 w25 =>
    Run Try.prog (sOp (.unOp .not 4 (.const t34)) 4) w25 fun t35 w26 =>
    GuardV t35 false (
      Run Try.prog (sBin .neq 4 false false t31 t24) w26 fun t39 w27 =>
      Run Try.prog (sOp (.pick (.const t35) (.const (Value.bool true)) (.const t39)) 4) w27 fun t40 w28 =>
      J22 t40 w28) (
      Run Try.prog (sOp (.pick (.const t35) (.const (Value.bool true)) (.const undef)) 4) w26 fun t40_2 w29 =>
      J22 t40_2 w29)) ∧
  ∀ t40_3 _ _ _ _ _ _ _ _ : Value, ∀ w30 : World, J22 t40_3 w30 →
  CondV t40_3 (
    R (.returned (Value.bool false)) w30) (
    (∃ A31 : (Nat → Bool) → Value → Value → Value → Value → Value → World → Prop, A31 (fun _ => false) undef undef undef undef undef { w30 with drawn := w30.drawn + 1 } ∧ (
    (∀ D32 : Nat → Bool, D32 0 = false → ∀ t45 t44 t43 t42 t41 : Value, ∀ w33 : World, A31 D32 t45 t44 t43 t42 t41 w33 →
      Run Try.prog (sOp (.load 50 (.const t6)) 50) w33 fun t41_2 w34 =>
      A31 (setD D32 0) t45 t44 t43 t42 t41_2 w34) ∧
    (∀ D32 : Nat → Bool, D32 1 = false → ∀ t45 t44 t43 t42 t41 : Value, ∀ w35 : World, A31 D32 t45 t44 t43 t42 t41 w35 →
      Run Try.prog (sOp (.load 46 (.const t1)) 46) w35 fun t42_2 w36 =>
      A31 (setD D32 1) t45 t44 t43 t42_2 t41 w36) ∧
    (∀ D32 : Nat → Bool, D32 2 = false → D32 1 = true → ∀ t45 t44 t43 t42 t41 : Value, ∀ w37 : World, A31 D32 t45 t44 t43 t42 t41 w37 →
      Run Try.prog (sCall (Value.func (.func 33) #[] #[]) [t42]) w37 fun t43_2 w38 =>
      A31 (setD D32 2) t45 t44 t43_2 t42 t41 w38) ∧
    (∀ D32 : Nat → Bool, D32 3 = false → D32 0 = true → D32 2 = true → D32 2 = true → ∀ t45 t44 t43 t42 t41 : Value, ∀ w39 : World, A31 D32 t45 t44 t43 t42 t41 w39 →
      Run Try.prog (sCall (Value.func (.func 35) #[] #[]) [t41, t43]) w39 fun t44_2 w40 =>
      A31 (setD D32 3) t45 t44_2 t43 t42 t41 w40) ∧
    (∀ D32 : Nat → Bool, D32 4 = false → D32 3 = true → ∀ t45 t44 t43 t42 t41 : Value, ∀ w41 : World, A31 D32 t45 t44 t43 t42 t41 w41 →
      Run Try.prog (sOp (.unOp .not 4 (.const t44)) 4) w41 fun t45_2 w42 =>
      A31 (setD D32 4) t45_2 t44 t43 t42 t41 w42) ∧
    True) ∧
  ∀ D32 : Nat → Bool, D32 4 = true → D32 3 = true → D32 2 = true → D32 1 = true → D32 0 = true → ∀ t45 t44 t43 t42 t41 : Value, ∀ w43 : World, A31 D32 t45 t44 t43 t42 t41 w43 →
  CondV t45 (
    R (.returned (Value.bool false)) w43) (
    Run Try.prog (sOp (.load 50 (.const t6)) 50) w43 fun t46 w44 =>
  Run Try.prog (sCall (Value.func (.func 50) #[] #[]) [t46, (Value.int .i64 1)]) w44 fun t48 w45 =>
  (∃ J46 : Value → World → Prop, (
    Run Try.prog (sBin .lss 3 false true t48 (Value.int .i64 0)) w45 fun t50 w47 =>
    GuardV t50 false (
      Run Try.prog (sOp (.load 50 (.const t7)) 50) w47 fun t52 w48 =>
      Run Try.prog (sOp (.load 50 (.const t4)) 50) w48 fun t53 w49 =>
      Run Try.prog (sCall (Value.func (.func 35) #[] #[]) [t52, t53]) w49 fun t54 w50 =>
      Run Try.prog (sOp (.unOp .not 4 (.const t54)) 4) w50 fun t55 w51 =>
      Run Try.prog (sOp (.pick (.const t50) (.const (Value.bool true)) (.const t55)) 4) w51 fun t56 w52 =>
      GuardV t56 false (
        Run Try.prog (sBin .neq 4 false false t31 t24) w52 fun t60 w53 =>
        Run Try.prog (sOp (.pick (.const t56) (.const (Value.bool true)) (.const t60)) 4) w53 fun t61 w54 =>
        J46 t61 w54) (
        Run Try.prog (sOp (.pick (.const t56) (.const (Value.bool true)) (.const undef)) 4) w52 fun t61_2 w55 =>
        J46 t61_2 w55)) (
      Run Try.prog (sOp (.pick (.const t50) (.const (Value.bool true)) (.const undef)) 4) w47 fun t56_2 w56 =>
      GuardV t56_2 false (
        Run Try.prog (sBin .neq 4 false false t31 t24) w56 fun t60_2 w57 =>
        Run Try.prog (sOp (.pick (.const t56_2) (.const (Value.bool true)) (.const t60_2)) 4) w57 fun t61_3 w58 =>
        J46 t61_3 w58) (
        Run Try.prog (sOp (.pick (.const t56_2) (.const (Value.bool true)) (.const undef)) 4) w56 fun t61_4 w59 =>
        J46 t61_4 w59))) ∧
  ∀ t61_5 _ _ _ _ _ _ _ _ _ _ _ _ : Value, ∀ w60 : World, J46 t61_5 w60 →
  CondV t61_5 (
    R (.returned (Value.bool false)) w60) (
    Run Try.prog (sOp (.load 50 (.const t7)) 50) w60 fun t62 w61 =>
  Run Try.prog (sCall (Value.func (.func 50) #[] #[]) [t62, (Value.int .i64 1)]) w61 fun t64 w62 =>
  Run Try.prog (sOp (.load 50 (.const t7)) 50) w62 fun t65 w63 =>
  Run Try.prog (sCall (Value.func (.func 51) #[] #[]) [t65, (Value.int .i64 1)]) w63 fun t67 w64 =>
  Run Try.prog (sBin .lss 3 false true t67 (Value.int .i64 0)) w64 fun t69 w65 =>
  CondV t69 (
    R (.returned (Value.bool false)) w65) (
    Run Try.prog (sBin .neq 3 false false t67 t64) w65 fun t72 w66 =>
  CondV t72 (
    R (.returned (Value.bool false)) w66) (
    Run Try.prog (sOp (.load 46 (.const t1)) 46) w66 fun t74 w67 =>
  Run Try.prog (sCall (Value.func (.func 33) #[] #[]) [t74]) w67 fun t75 w68 =>
  Run Try.prog (sCall (Value.func (.func 49) #[] #[]) [t75]) w68 fun t76 w69 =>
  Run Try.prog (sOp (.extract (.const t76) 0) 50) w69 fun t77 w70 =>
  Run Try.prog (sOp (.extract (.const t76) 1) 4) w70 fun t78 w71 =>
  Run Try.prog (sOp (.alloc 50) 0) w71 fun t12 w72 =>
  Run Try.prog (sOp (.store 50 (.const t12) (.const t77)) 0) w72 fun _ w73 =>
  (∃ J74 : Value → World → Prop, (
    Run Try.prog (sOp (.load 50 (.const t12)) 50) w73 fun t79 w75 =>
    Run Try.prog (sOp (.load 50 (.const t4)) 50) w75 fun t80 w76 =>
    Run Try.prog (sCall (Value.func (.func 35) #[] #[]) [t79, t80]) w76 fun t81 w77 =>
    Run Try.prog (sOp (.unOp .not 4 (.const t81)) 4) w77 fun t82 w78 =>
    GuardV t82 false (
      Run Try.prog (sBin .neq 4 false false t78 t24) w78 fun t86 w79 =>
      Run Try.prog (sOp (.pick (.const t82) (.const (Value.bool true)) (.const t86)) 4) w79 fun t87 w80 =>
      J74 t87 w80) (
      Run Try.prog (sOp (.pick (.const t82) (.const (Value.bool true)) (.const undef)) 4) w78 fun t87_2 w81 =>
      J74 t87_2 w81)) ∧
  ∀ t87_3 _ _ _ _ _ _ _ _ : Value, ∀ w82 : World, J74 t87_3 w82 →
  CondV t87_3 (
    R (.returned (Value.bool false)) w82) (
    Run Try.prog (sOp (.load 50 (.const t7)) 50) w82 fun t88 w83 =>
  Run Try.prog (sCall (Value.func (.func 51) #[] #[]) [t88, (Value.int .i64 1)]) w83 fun t90 w84 =>
  Run Try.prog (sBin .lss 3 false true t90 (Value.int .i64 0)) w84 fun t92 w85 =>
  CondV t92 (
    R (.returned (Value.bool false)) w85) (
    Run Try.prog (sBin .neq 3 false false t90 t64) w85 fun t95 w86 =>
  CondV t95 (
    R (.returned (Value.bool false)) w86) (
    R (.returned (Value.bool true)) w86)))))))))))))
theorem calls_l_FnExactRenumberClause {p0 : Value} {w : World} {R : Ending → World → Prop} (h : sh_l_FnExactRenumberClause p0 w R) : Calls Try.prog 9 #[p0] w R :=
  calls_sh (.seq none .leaf (.seq none .leaf (.seq none .leaf (.seq none .leaf (.seq none .leaf (.seq none .leaf (.seq none .leaf (.seq none (.seq (some [40]) .leaf .leaf) (.seq none .leaf (.seq none .leaf (.seq none .leaf (.seq none (.seq (some [61]) .leaf .leaf) (.seq none .leaf (.seq none .leaf (.seq none .leaf (.seq none .leaf (.seq none .leaf (.seq none .leaf (.seq none .leaf (.seq none (.seq (some [87]) .leaf .leaf) .leaf)))))))))))))))))))) [p0] mixed Try.func9 (by kernel_rfl) (by kernel_rfl) h

/- loop.example/prologserver/laws.FnExactDropClause : function 10 -/
def sh_l_FnExactDropClause (p0 p1 : Value) (w : World) (R : Ending → World → Prop) : Prop :=
  Run Try.prog (sCall (Value.func (.func 26) #[] #[]) [p0, (Value.int .i64 1048576)]) w fun t18 w1 =>
  Run Try.prog (sBin .lss 3 false true t18 (Value.int .i64 0)) w1 fun t20 w2 =>
  CondV t20 (
    R (.returned (Value.bool true)) w2) (
    Run Try.prog (sCall (Value.func (.func 28) #[] #[]) [p0]) w2 fun t23 w3 =>
  Run Try.prog (sCall (Value.func (.func 52) #[] #[]) [t23, p1]) w3 fun t25 w4 =>
  Run Try.prog (sOp (.extract (.const t25) 0) 41) w4 fun t26 w5 =>
  Run Try.prog (sOp (.extract (.const t25) 1) 4) w5 fun t27 w6 =>
  Run Try.prog (sCall (Value.func (.func 28) #[] #[]) [p0]) w6 fun t29 w7 =>
  Run Try.prog (sCall (Value.func (.func 53) #[] #[]) [t29, p1]) w7 fun t33 w8 =>
  Run Try.prog (sOp (.extract (.const t33) 0) 41) w8 fun t34 w9 =>
  Run Try.prog (sOp (.extract (.const t33) 1) 4) w9 fun t35 w10 =>
  (∃ J11 : Value → World → Prop, (
    Run Try.prog (sCall (Value.func (.func 30) #[] #[]) [t34, t26]) w10 fun t38 w12 =>
    Run Try.prog (sOp (.unOp .not 4 (.const t38)) 4) w12 fun t39 w13 =>
    GuardV t39 false (
      Run Try.prog (sBin .neq 4 false false t35 t27) w13 fun t43 w14 =>
      Run Try.prog (sOp (.pick (.const t39) (.const (Value.bool true)) (.const t43)) 4) w14 fun t44 w15 =>
      J11 t44 w15) (
      Run Try.prog (sOp (.pick (.const t39) (.const (Value.bool true)) (.const undef)) 4) w13 fun t44_2 w16 =>
      J11 t44_2 w16)) ∧
  ∀ t44_3 _ _ _ _ _ _ _ _ : Value, ∀ w17 : World, J11 t44_3 w17 →
  CondV t44_3 (
    R (.returned (Value.bool false)) w17) (
    Run Try.prog (sCall (Value.func (.func 28) #[] #[]) [p0]) w17 fun t47 w18 =>
  Run Try.prog (sCall (Value.func (.func 30) #[] #[]) [t29, t47]) w18 fun t48 w19 =>
  Run Try.prog (sOp (.unOp .not 4 (.const t48)) 4) w19 fun t49 w20 =>
  CondV t49 (
    R (.returned (Value.bool false)) w20) (
    Run Try.prog (sCall (Value.func (.func 45) #[] #[]) [t29, (Value.int .i64 1)]) w20 fun t52 w21 =>
  (∃ J22 : Value → World → Prop, (
    Run Try.prog (sBin .lss 3 false true t52 (Value.int .i64 0)) w21 fun t54 w23 =>
    GuardV t54 false (
      Run Try.prog (sCall (Value.func (.func 30) #[] #[]) [t34, t26]) w23 fun t58 w24 =>
      Run Try.prog (sOp (.unOp .not 4 (.const t58)) 4) w24 fun t59 w25 =>
      Run Try.prog (sOp (.pick (.const t54) (.const (Value.bool true)) (.const t59)) 4) w25 fun t60 w26 =>
      GuardV t60 false (
        Run Try.prog (sBin .neq 4 false false t35 t27) w26 fun t64 w27 =>
        Run Try.prog (sOp (.pick (.const t60) (.const (Value.bool true)) (.const t64)) 4) w27 fun t65 w28 =>
        J22 t65 w28) (
        Run Try.prog (sOp (.pick (.const t60) (.const (Value.bool true)) (.const undef)) 4) w26 fun t65_2 w29 =>
        J22 t65_2 w29)) (
      Run Try.prog (sOp (.pick (.const t54) (.const (Value.bool true)) (.const undef)) 4) w23 fun t60_2 w30 =>
      GuardV t60_2 false (
        Run Try.prog (sBin .neq 4 false false t35 t27) w30 fun t64_2 w31 =>
        Run Try.prog (sOp (.pick (.const t60_2) (.const (Value.bool true)) (.const t64_2)) 4) w31 fun t65_3 w32 =>
        J22 t65_3 w32) (
        Run Try.prog (sOp (.pick (.const t60_2) (.const (Value.bool true)) (.const undef)) 4) w30 fun t65_4 w33 =>
        J22 t65_4 w33))) ∧
  ∀ t65_5 _ _ _ _ _ _ _ _ _ _ _ _ : Value, ∀ w34 : World, J22 t65_5 w34 →
  CondV t65_5 (
    R (.returned (Value.bool false)) w34) (
    Run Try.prog (sCall (Value.func (.func 45) #[] #[]) [t34, (Value.int .i64 1)]) w34 fun t68 w35 =>
  Run Try.prog (sCall (Value.func (.func 54) #[] #[]) [t34, (Value.int .i64 1)]) w35 fun t71 w36 =>
  Run Try.prog (sBin .lss 3 false true t71 (Value.int .i64 0)) w36 fun t73 w37 =>
  CondV t73 (
    R (.returned (Value.bool false)) w37) (
    Run Try.prog (sBin .neq 3 false false t71 t68) w37 fun t76 w38 =>
  CondV t76 (
    R (.returned (Value.bool false)) w38) (
    Run Try.prog (sCall (Value.func (.func 28) #[] #[]) [p0]) w38 fun t79 w39 =>
  Run Try.prog (sCall (Value.func (.func 53) #[] #[]) [t79, p1]) w39 fun t81 w40 =>
  Run Try.prog (sOp (.extract (.const t81) 0) 41) w40 fun t82 w41 =>
  Run Try.prog (sOp (.extract (.const t81) 1) 4) w41 fun t83 w42 =>
  (∃ J43 : Value → World → Prop, (
    Run Try.prog (sCall (Value.func (.func 30) #[] #[]) [t82, t26]) w42 fun t86 w44 =>
    Run Try.prog (sOp (.unOp .not 4 (.const t86)) 4) w44 fun t87 w45 =>
    GuardV t87 false (
      Run Try.prog (sBin .neq 4 false false t83 t27) w45 fun t91 w46 =>
      Run Try.prog (sOp (.pick (.const t87) (.const (Value.bool true)) (.const t91)) 4) w46 fun t92 w47 =>
      J43 t92 w47) (
      Run Try.prog (sOp (.pick (.const t87) (.const (Value.bool true)) (.const undef)) 4) w45 fun t92_2 w48 =>
      J43 t92_2 w48)) ∧
  ∀ t92_3 _ _ _ _ _ _ _ _ : Value, ∀ w49 : World, J43 t92_3 w49 →
  CondV t92_3 (
    R (.returned (Value.bool false)) w49) (
    Run Try.prog (sCall (Value.func (.func 54) #[] #[]) [t34, (Value.int .i64 1)]) w49 fun t95 w50 =>
  Run Try.prog (sBin .lss 3 false true t95 (Value.int .i64 0)) w50 fun t97 w51 =>
  CondV t97 (
    R (.returned (Value.bool false)) w51) (
    Run Try.prog (sBin .neq 3 false false t95 t68) w51 fun t100 w52 =>
  CondV t100 (
    R (.returned (Value.bool false)) w52) (
    R (.returned (Value.bool true)) w52))))))))))))
theorem calls_l_FnExactDropClause {p0 p1 : Value} {w : World} {R : Ending → World → Prop} (h : sh_l_FnExactDropClause p0 p1 w R) : Calls Try.prog 10 #[p0, p1] w R :=
  calls_sh (.seq none .leaf (.seq none .leaf (.seq none .leaf (.seq none .leaf (.seq none .leaf (.seq none .leaf (.seq none .leaf (.seq none (.seq (some [44]) .leaf .leaf) (.seq none .leaf (.seq none .leaf (.seq none .leaf (.seq none (.seq (some [65]) .leaf .leaf) (.seq none .leaf (.seq none .leaf (.seq none .leaf (.seq none .leaf (.seq none .leaf (.seq none .leaf (.seq none .leaf (.seq none (.seq (some [92]) .leaf .leaf) .leaf)))))))))))))))))))) [p0, p1] mixed Try.func10 (by kernel_rfl) (by kernel_rfl) h

/- loop.example/prologserver/laws.FnExactMovePred : function 11 -/
def sh_l_FnExactMovePred (p0 p1 : Value) (w : World) (R : Ending → World → Prop) : Prop :=
  Run Try.prog (sOp (.box 56 (.const p1)) 0) w fun t3 w1 =>
  Run Try.prog (sCall (Value.func (.func 26) #[] #[]) [p0, (Value.int .i64 1048576)]) w1 fun t18 w2 =>
  Run Try.prog (sBin .lss 3 false true t18 (Value.int .i64 0)) w2 fun t20 w3 =>
  CondV t20 (
    R (.returned (Value.bool true)) w3) (
    Run Try.prog (sOp (.load 56 (.const t3)) 56) w3 fun t21 w4 =>
  Run Try.prog (sCall (Value.func (.func 38) #[] #[]) [t21, t18]) w4 fun t23 w5 =>
  Run Try.prog (sBin .lss 3 false true t23 (Value.int .i64 0)) w5 fun t25 w6 =>
  CondV t25 (
    R (.returned (Value.bool true)) w6) (
    (∃ A7 : (Nat → Bool) → Value → Value → Value → Value → Value → Value → Value → Value → Value → Value → World → Prop, A7 (fun _ => false) undef undef undef undef undef undef undef undef undef undef { w6 with drawn := w6.drawn + 1 } ∧ (
    (∀ D8 : Nat → Bool, D8 0 = false → ∀ t7 t6 t33 t32 t26 t31 t30 t29 t28 t27 : Value, ∀ w9 : World, A7 D8 t7 t6 t33 t32 t26 t31 t30 t29 t28 t27 w9 →
      A7 (setD D8 0) t7 t6 t33 t32 t26 t31 t30 t29 t28 p0 w9) ∧
    (∀ D8 : Nat → Bool, D8 1 = false → D8 0 = true → ∀ t7 t6 t33 t32 t26 t31 t30 t29 t28 t27 : Value, ∀ w10 : World, A7 D8 t7 t6 t33 t32 t26 t31 t30 t29 t28 t27 w10 →
      Run Try.prog (sCall (Value.func (.func 28) #[] #[]) [t27]) w10 fun t28_2 w11 =>
      A7 (setD D8 1) t7 t6 t33 t32 t26 t31 t30 t29 t28_2 t27 w11) ∧
    (∀ D8 : Nat → Bool, D8 2 = false → ∀ t7 t6 t33 t32 t26 t31 t30 t29 t28 t27 : Value, ∀ w12 : World, A7 D8 t7 t6 t33 t32 t26 t31 t30 t29 t28 t27 w12 →
      Run Try.prog (sOp (.load 56 (.const t3)) 56) w12 fun t29_2 w13 =>
      A7 (setD D8 2) t7 t6 t33 t32 t26 t31 t30 t29_2 t28 t27 w13) ∧
    (∀ D8 : Nat → Bool, D8 3 = false → D8 2 = true → D8 1 = true → ∀ t7 t6 t33 t32 t26 t31 t30 t29 t28 t27 : Value, ∀ w14 : World, A7 D8 t7 t6 t33 t32 t26 t31 t30 t29 t28 t27 w14 →
      Run Try.prog (sCall (Value.func (.func 40) #[] #[]) [t29]) w14 fun t30_2 w15 =>
      A7 (setD D8 3) t7 t6 t33 t32 t26 t31 t30_2 t29 t28 t27 w15) ∧
    (∀ D8 : Nat → Bool, D8 4 = false → D8 1 = true → D8 3 = true → D8 3 = true → ∀ t7 t6 t33 t32 t26 t31 t30 t29 t28 t27 : Value, ∀ w16 : World, A7 D8 t7 t6 t33 t32 t26 t31 t30 t29 t28 t27 w16 →
      Run Try.prog (sCall (Value.func (.func 55) #[] #[]) [t28, t30]) w16 fun t31_2 w17 =>
      A7 (setD D8 4) t7 t6 t33 t32 t26 t31_2 t30 t29 t28 t27 w17) ∧
    (∀ D8 : Nat → Bool, D8 5 = false → D8 4 = true → ∀ t7 t6 t33 t32 t26 t31 t30 t29 t28 t27 : Value, ∀ w18 : World, A7 D8 t7 t6 t33 t32 t26 t31 t30 t29 t28 t27 w18 →
      A7 (setD D8 5) t7 t6 t33 t32 t31 t31 t30 t29 t28 t27 w18) ∧
    (∀ D8 : Nat → Bool, D8 6 = false → D8 5 = true → ∀ t7 t6 t33 t32 t26 t31 t30 t29 t28 t27 : Value, ∀ w19 : World, A7 D8 t7 t6 t33 t32 t26 t31 t30 t29 t28 t27 w19 →
      Run Try.prog (sOp (.extract (.const t26) 0) 41) w19 fun t32_2 w20 =>
      A7 (setD D8 6) t7 t6 t33 t32_2 t26 t31 t30 t29 t28 t27 w20) ∧
    (∀ D8 : Nat → Bool, D8 7 = false → D8 5 = true → ∀ t7 t6 t33 t32 t26 t31 t30 t29 t28 t27 : Value, ∀ w21 : World, A7 D8 t7 t6 t33 t32 t26 t31 t30 t29 t28 t27 w21 →
      Run Try.prog (sOp (.extract (.const t26) 1) 4) w21 fun t33_2 w22 =>
      A7 (setD D8 7) t7 t6 t33_2 t32 t26 t31 t30 t29 t28 t27 w22) ∧
    (∀ D8 : Nat → Bool, D8 8 = false → D8 6 = true → D8 4 = true → D8 0 = true → D8 1 = true → D8 2 = true → D8 3 = true → D8 4 = true → D8 5 = true → D8 6 = true → ∀ t7 t6 t33 t32 t26 t31 t30 t29 t28 t27 : Value, ∀ w23 : World, A7 D8 t7 t6 t33 t32 t26 t31 t30 t29 t28 t27 w23 →
      A7 (setD D8 8) t7 t32 t33 t32 t26 t31 t30 t29 t28 t27 w23) ∧
    (∀ D8 : Nat → Bool, D8 9 = false → D8 7 = true → D8 8 = true → D8 0 = true → D8 1 = true → D8 2 = true → D8 3 = true → D8 4 = true → D8 5 = true → D8 6 = true → D8 7 = true → D8 8 = true → ∀ t7 t6 t33 t32 t26 t31 t30 t29 t28 t27 : Value, ∀ w24 : World, A7 D8 t7 t6 t33 t32 t26 t31 t30 t29 t28 t27 w24 →
      A7 (setD D8 9) t33 t6 t33 t32 t26 t31 t30 t29 t28 t27 w24) ∧
    True) ∧
  ∀ D8 : Nat → Bool, D8 9 = true → D8 8 = true → D8 7 = true → D8 6 = true → D8 5 = true → D8 4 = true → D8 3 = true → D8 2 = true → D8 1 = true → D8 0 = true → ∀ t7 t6 t33 t32 t26 t31 t30 t29 t28 t27 : Value, ∀ w25 : World, A7 D8 t7 t6 t33 t32 t26 t31 t30 t29 t28 t27 w25 →
  Run Try.prog (sCall (Value.func (.func 28) #[] #[]) [p0]) w25 fun t35 w26 =>
  Run Try.prog (sOp (.load 56 (.const t3)) 56) w26 fun t38 w27 =>
  Run Try.prog (sCall (Value.func (.func 40) #[] #[]) [t38]) w27 fun t39 w28 =>
  Run Try.prog (sCall (Value.func (.func 56) #[] #[]) [t35, t39]) w28 fun t40 w29 =>
  Run Try.prog (sOp (.extract (.const t40) 0) 41) w29 fun t41 w30 =>
  Run Try.prog (sOp (.extract (.const t40) 1) 4) w30 fun t42 w31 =>
  (∃ J32 : Value → World → Prop, (
    Run Try.prog (sCall (Value.func (.func 30) #[] #[]) [t41, t6]) w31 fun t45 w33 =>
    Run Try.prog (sOp (.unOp .not 4 (.const t45)) 4) w33 fun t46 w34 =>
    GuardV t46 false (
      Run Try.prog (sBin .neq 4 false false t42 t7) w34 fun t50 w35 =>
      Run Try.prog (sOp (.pick (.const t46) (.const (Value.bool true)) (.const t50)) 4) w35 fun t51 w36 =>
      J32 t51 w36) (
      Run Try.prog (sOp (.pick (.const t46) (.const (Value.bool true)) (.const undef)) 4) w34 fun t51_2 w37 =>
      J32 t51_2 w37)) ∧
  ∀ t51_3 _ _ _ _ _ _ _ _ : Value, ∀ w38 : World, J32 t51_3 w38 →
  CondV t51_3 (
    R (.returned (Value.bool false)) w38) (
    Run Try.prog (sCall (Value.func (.func 28) #[] #[]) [p0]) w38 fun t54 w39 =>
  Run Try.prog (sCall (Value.func (.func 30) #[] #[]) [t35, t54]) w39 fun t55 w40 =>
  Run Try.prog (sOp (.unOp .not 4 (.const t55)) 4) w40 fun t56 w41 =>
  CondV t56 (
    R (.returned (Value.bool false)) w41) (
    Run Try.prog (sCall (Value.func (.func 45) #[] #[]) [t35, (Value.int .i64 1)]) w41 fun t59 w42 =>
  (∃ J43 : Value → World → Prop, (
    Run Try.prog (sBin .lss 3 false true t59 (Value.int .i64 0)) w42 fun t61 w44 =>
    GuardV t61 false (
      Run Try.prog (sCall (Value.func (.func 30) #[] #[]) [t41, t6]) w44 fun t65 w45 =>
      Run Try.prog (sOp (.unOp .not 4 (.const t65)) 4) w45 fun t66 w46 =>
      Run Try.prog (sOp (.pick (.const t61) (.const (Value.bool true)) (.const t66)) 4) w46 fun t67 w47 =>
      GuardV t67 false (
        Run Try.prog (sBin .neq 4 false false t42 t7) w47 fun t71 w48 =>
        Run Try.prog (sOp (.pick (.const t67) (.const (Value.bool true)) (.const t71)) 4) w48 fun t72 w49 =>
        J43 t72 w49) (
        Run Try.prog (sOp (.pick (.const t67) (.const (Value.bool true)) (.const undef)) 4) w47 fun t72_2 w50 =>
        J43 t72_2 w50)) (
      Run Try.prog (sOp (.pick (.const t61) (.const (Value.bool true)) (.const undef)) 4) w44 fun t67_2 w51 =>
      GuardV t67_2 false (
        Run Try.prog (sBin .neq 4 false false t42 t7) w51 fun t71_2 w52 =>
        Run Try.prog (sOp (.pick (.const t67_2) (.const (Value.bool true)) (.const t71_2)) 4) w52 fun t72_3 w53 =>
        J43 t72_3 w53) (
        Run Try.prog (sOp (.pick (.const t67_2) (.const (Value.bool true)) (.const undef)) 4) w51 fun t72_4 w54 =>
        J43 t72_4 w54))) ∧
  ∀ t72_5 _ _ _ _ _ _ _ _ _ _ _ _ : Value, ∀ w55 : World, J43 t72_5 w55 →
  CondV t72_5 (
    R (.returned (Value.bool false)) w55) (
    Run Try.prog (sCall (Value.func (.func 45) #[] #[]) [t41, (Value.int .i64 1)]) w55 fun t75 w56 =>
  Run Try.prog (sCall (Value.func (.func 54) #[] #[]) [t41, (Value.int .i64 1)]) w56 fun t78 w57 =>
  Run Try.prog (sBin .lss 3 false true t78 (Value.int .i64 0)) w57 fun t80 w58 =>
  CondV t80 (
    R (.returned (Value.bool false)) w58) (
    Run Try.prog (sBin .neq 3 false false t78 t75) w58 fun t83 w59 =>
  CondV t83 (
    R (.returned (Value.bool false)) w59) (
    (∃ A60 : (Nat → Bool) → Value → Value → Value → Value → Value → Value → Value → Value → Value → Value → World → Prop, A60 (fun _ => false) undef undef undef undef undef undef undef undef undef undef { w59 with drawn := w59.drawn + 1 } ∧ (
    (∀ D61 : Nat → Bool, D61 0 = false → ∀ t15 t14 t91 t90 t84 t89 t88 t87 t86 t85 : Value, ∀ w62 : World, A60 D61 t15 t14 t91 t90 t84 t89 t88 t87 t86 t85 w62 →
      A60 (setD D61 0) t15 t14 t91 t90 t84 t89 t88 t87 t86 p0 w62) ∧
    (∀ D61 : Nat → Bool, D61 1 = false → D61 0 = true → ∀ t15 t14 t91 t90 t84 t89 t88 t87 t86 t85 : Value, ∀ w63 : World, A60 D61 t15 t14 t91 t90 t84 t89 t88 t87 t86 t85 w63 →
      Run Try.prog (sCall (Value.func (.func 28) #[] #[]) [t85]) w63 fun t86_2 w64 =>
      A60 (setD D61 1) t15 t14 t91 t90 t84 t89 t88 t87 t86_2 t85 w64) ∧
    (∀ D61 : Nat → Bool, D61 2 = false → ∀ t15 t14 t91 t90 t84 t89 t88 t87 t86 t85 : Value, ∀ w65 : World, A60 D61 t15 t14 t91 t90 t84 t89 t88 t87 t86 t85 w65 →
      Run Try.prog (sOp (.load 56 (.const t3)) 56) w65 fun t87_2 w66 =>
      A60 (setD D61 2) t15 t14 t91 t90 t84 t89 t88 t87_2 t86 t85 w66) ∧
    (∀ D61 : Nat → Bool, D61 3 = false → D61 2 = true → D61 1 = true → ∀ t15 t14 t91 t90 t84 t89 t88 t87 t86 t85 : Value, ∀ w67 : World, A60 D61 t15 t14 t91 t90 t84 t89 t88 t87 t86 t85 w67 →
      Run Try.prog (sCall (Value.func (.func 40) #[] #[]) [t87]) w67 fun t88_2 w68 =>
      A60 (setD D61 3) t15 t14 t91 t90 t84 t89 t88_2 t87 t86 t85 w68) ∧
    (∀ D61 : Nat → Bool, D61 4 = false → D61 1 = true → D61 3 = true → D61 3 = true → ∀ t15 t14 t91 t90 t84 t89 t88 t87 t86 t85 : Value, ∀ w69 : World, A60 D61 t15 t14 t91 t90 t84 t89 t88 t87 t86 t85 w69 →
      Run Try.prog (sCall (Value.func (.func 56) #[] #[]) [t86, t88]) w69 fun t89_2 w70 =>
      A60 (setD D61 4) t15 t14 t91 t90 t84 t89_2 t88 t87 t86 t85 w70) ∧
    (∀ D61 : Nat → Bool, D61 5 = false → D61 4 = true → ∀ t15 t14 t91 t90 t84 t89 t88 t87 t86 t85 : Value, ∀ w71 : World, A60 D61 t15 t14 t91 t90 t84 t89 t88 t87 t86 t85 w71 →
      A60 (setD D61 5) t15 t14 t91 t90 t89 t89 t88 t87 t86 t85 w71) ∧
    (∀ D61 : Nat → Bool, D61 6 = false → D61 5 = true → ∀ t15 t14 t91 t90 t84 t89 t88 t87 t86 t85 : Value, ∀ w72 : World, A60 D61 t15 t14 t91 t90 t84 t89 t88 t87 t86 t85 w72 →
      Run Try.prog (sOp (.extract (.const t84) 0) 41) w72 fun t90_2 w73 =>
      A60 (setD D61 6) t15 t14 t91 t90_2 t84 t89 t88 t87 t86 t85 w73) ∧
    (∀ D61 : Nat → Bool, D61 7 = false → D61 5 = true → ∀ t15 t14 t91 t90 t84 t89 t88 t87 t86 t85 : Value, ∀ w74 : World, A60 D61 t15 t14 t91 t90 t84 t89 t88 t87 t86 t85 w74 →
      Run Try.prog (sOp (.extract (.const t84) 1) 4) w74 fun t91_2 w75 =>
      A60 (setD D61 7) t15 t14 t91_2 t90 t84 t89 t88 t87 t86 t85 w75) ∧
    (∀ D61 : Nat → Bool, D61 8 = false → D61 6 = true → D61 4 = true → D61 0 = true → D61 1 = true → D61 2 = true → D61 3 = true → D61 4 = true → D61 5 = true → D61 6 = true → ∀ t15 t14 t91 t90 t84 t89 t88 t87 t86 t85 : Value, ∀ w76 : World, A60 D61 t15 t14 t91 t90 t84 t89 t88 t87 t86 t85 w76 →
      A60 (setD D61 8) t15 t90 t91 t90 t84 t89 t88 t87 t86 t85 w76) ∧
    (∀ D61 : Nat → Bool, D61 9 = false → D61 7 = true → D61 8 = true → D61 0 = true → D61 1 = true → D61 2 = true → D61 3 = true → D61 4 = true → D61 5 = true → D61 6 = true → D61 7 = true → D61 8 = true → ∀ t15 t14 t91 t90 t84 t89 t88 t87 t86 t85 : Value, ∀ w77 : World, A60 D61 t15 t14 t91 t90 t84 t89 t88 t87 t86 t85 w77 →
      A60 (setD D61 9) t91 t14 t91 t90 t84 t89 t88 t87 t86 t85 w77) ∧
    True) ∧
  ∀ D61 : Nat → Bool, D61 9 = true → D61 8 = true → D61 7 = true → D61 6 = true → D61 5 = true → D61 4 = true → D61 3 = true → D61 2 = true → D61 1 = true → D61 0 = true → ∀ t15 t14 t91 t90 t84 t89 t88 t87 t86 t85 : Value, ∀ w78 : World, A60 D61 t15 t14 t91 t90 t84 t89 t88 t87 t86 t85 w78 →
  (∃ J79 : Value → World → Prop, (
    Run Try.prog (sCall (Value.func (.func 30) #[] #[]) [t14, t6]) w78 fun t94 w80 =>
    Run Try.prog (sOp (.unOp .not 4 (.const t94)) 4) w80 fun t95 w81 =>
    GuardV t95 false (
      Run Try.prog (sBin .neq 4 false false t15 t7) w81 fun t99 w82 =>
      Run Try.prog (sOp (.pick (.const t95) (.const (Value.bool true)) (.const t99)) 4) w82 fun t100 w83 =>
      J79 t100 w83) (
      Run Try.prog (sOp (.pick (.const t95) (.const (Value.bool true)) (.const undef)) 4) w81 fun t100_2 w84 =>
      J79 t100_2 w84)) ∧
  ∀ t100_3 _ _ _ _ _ _ _ _ : Value, ∀ w85 : World, J79 t100_3 w85 →
  CondV t100_3 (
    R (.returned (Value.bool false)) w85) (
    Run Try.prog (sCall (Value.func (.func 54) #[] #[]) [t41, (Value.int .i64 1)]) w85 fun t103 w86 =>
  Run Try.prog (sBin .lss 3 false true t103 (Value.int .i64 0)) w86 fun t105 w87 =>
  CondV t105 (
    R (.returned (Value.bool false)) w87) (
    Run Try.prog (sBin .neq 3 false false t103 t75) w87 fun t108 w88 =>
  CondV t108 (
    R (.returned (Value.bool false)) w88) (
    R (.returned (Value.bool true)) w88)))))))))))))))
theorem calls_l_FnExactMovePred {p0 p1 : Value} {w : World} {R : Ending → World → Prop} (h : sh_l_FnExactMovePred p0 p1 w R) : Calls Try.prog 11 #[p0, p1] w R :=
  calls_sh (.seq none .leaf (.seq none .leaf (.seq none .leaf (.seq none .leaf (.seq none .leaf (.seq none .leaf (.seq none .leaf (.seq none .leaf (.seq none .leaf (.seq none (.seq (some [51]) .leaf .leaf) (.seq none .leaf (.seq none .leaf (.seq none .leaf (.seq none (.seq (some [72]) .leaf .leaf) (.seq none .leaf (.seq none .leaf (.seq none .leaf (.seq none .leaf (.seq none .leaf (.seq none .leaf (.seq none .leaf (.seq none (.seq (some [100]) .leaf .leaf) .leaf)))))))))))))))))))))) [p0, p1] mixed Try.func11 (by kernel_rfl) (by kernel_rfl) h

/- loop.example/prologserver/laws.FnExactCallsOf : function 12 -/
def sh_l_FnExactCallsOf (p0 p1 : Value) (w : World) (R : Ending → World → Prop) : Prop :=
  Run Try.prog (sOp (.box 56 (.const p1)) 0) w fun t3 w1 =>
  Run Try.prog (sCall (Value.func (.func 26) #[] #[]) [p0, (Value.int .i64 1048576)]) w1 fun t15 w2 =>
  Run Try.prog (sBin .lss 3 false true t15 (Value.int .i64 0)) w2 fun t17 w3 =>
  CondV t17 (
    R (.returned (Value.bool true)) w3) (
    Run Try.prog (sOp (.load 56 (.const t3)) 56) w3 fun t18 w4 =>
  Run Try.prog (sCall (Value.func (.func 38) #[] #[]) [t18, t15]) w4 fun t20 w5 =>
  Run Try.prog (sBin .lss 3 false true t20 (Value.int .i64 0)) w5 fun t22 w6 =>
  CondV t22 (
    R (.returned (Value.bool true)) w6) (
    (∃ A7 : (Nat → Bool) → Value → Value → Value → Value → Value → Value → World → Prop, A7 (fun _ => false) undef undef undef undef undef undef { w6 with drawn := w6.drawn + 1 } ∧ (
    (∀ D8 : Nat → Bool, D8 0 = false → ∀ t6 t27 t26 t25 t24 t23 : Value, ∀ w9 : World, A7 D8 t6 t27 t26 t25 t24 t23 w9 →
      A7 (setD D8 0) t6 t27 t26 t25 t24 p0 w9) ∧
    (∀ D8 : Nat → Bool, D8 1 = false → D8 0 = true → ∀ t6 t27 t26 t25 t24 t23 : Value, ∀ w10 : World, A7 D8 t6 t27 t26 t25 t24 t23 w10 →
      Run Try.prog (sCall (Value.func (.func 28) #[] #[]) [t23]) w10 fun t24_2 w11 =>
      A7 (setD D8 1) t6 t27 t26 t25 t24_2 t23 w11) ∧
    (∀ D8 : Nat → Bool, D8 2 = false → ∀ t6 t27 t26 t25 t24 t23 : Value, ∀ w12 : World, A7 D8 t6 t27 t26 t25 t24 t23 w12 →
      Run Try.prog (sOp (.load 56 (.const t3)) 56) w12 fun t25_2 w13 =>
      A7 (setD D8 2) t6 t27 t26 t25_2 t24 t23 w13) ∧
    (∀ D8 : Nat → Bool, D8 3 = false → D8 2 = true → D8 1 = true → ∀ t6 t27 t26 t25 t24 t23 : Value, ∀ w14 : World, A7 D8 t6 t27 t26 t25 t24 t23 w14 →
      Run Try.prog (sCall (Value.func (.func 40) #[] #[]) [t25]) w14 fun t26_2 w15 =>
      A7 (setD D8 3) t6 t27 t26_2 t25 t24 t23 w15) ∧
    (∀ D8 : Nat → Bool, D8 4 = false → D8 1 = true → D8 3 = true → D8 3 = true → ∀ t6 t27 t26 t25 t24 t23 : Value, ∀ w16 : World, A7 D8 t6 t27 t26 t25 t24 t23 w16 →
      Run Try.prog (sCall (Value.func (.func 57) #[] #[]) [t24, t26]) w16 fun t27_2 w17 =>
      A7 (setD D8 4) t6 t27_2 t26 t25 t24 t23 w17) ∧
    (∀ D8 : Nat → Bool, D8 5 = false → D8 4 = true → D8 4 = true → D8 0 = true → D8 1 = true → D8 2 = true → D8 3 = true → D8 4 = true → ∀ t6 t27 t26 t25 t24 t23 : Value, ∀ w18 : World, A7 D8 t6 t27 t26 t25 t24 t23 w18 →
      A7 (setD D8 5) t27 t27 t26 t25 t24 t23 w18) ∧
    True) ∧
  ∀ D8 : Nat → Bool, D8 5 = true → D8 4 = true → D8 3 = true → D8 2 = true → D8 1 = true → D8 0 = true → ∀ t6 t27 t26 t25 t24 t23 : Value, ∀ w19 : World, A7 D8 t6 t27 t26 t25 t24 t23 w19 →
  Run Try.prog (sCall (Value.func (.func 28) #[] #[]) [p0]) w19 fun t29 w20 =>
  Run Try.prog (sOp (.load 56 (.const t3)) 56) w20 fun t31 w21 =>
  Run Try.prog (sCall (Value.func (.func 40) #[] #[]) [t31]) w21 fun t32 w22 =>
  Run Try.prog (sCall (Value.func (.func 58) #[] #[]) [t29, t32]) w22 fun t33 w23 =>
  Run Try.prog (sCall (Value.func (.func 44) #[] #[]) [t33, t6]) w23 fun t36 w24 =>
  Run Try.prog (sOp (.unOp .not 4 (.const t36)) 4) w24 fun t37 w25 =>
  CondV t37 (
    R (.returned (Value.bool false)) w25) (
    Run Try.prog (sCall (Value.func (.func 28) #[] #[]) [p0]) w25 fun t40 w26 =>
  Run Try.prog (sCall (Value.func (.func 30) #[] #[]) [t29, t40]) w26 fun t41 w27 =>
  Run Try.prog (sOp (.unOp .not 4 (.const t41)) 4) w27 fun t42 w28 =>
  CondV t42 (
    R (.returned (Value.bool false)) w28) (
    Run Try.prog (sCall (Value.func (.func 45) #[] #[]) [t29, (Value.int .i64 1)]) w28 fun t45 w29 =>
  (∃ J30 : Value → World → Prop, (
    Run Try.prog (sBin .lss 3 false true t45 (Value.int .i64 0)) w29 fun t47 w31 =>
    GuardV t47 false (
      Run Try.prog (sCall (Value.func (.func 44) #[] #[]) [t33, t6]) w31 fun t51 w32 =>
      Run Try.prog (sOp (.unOp .not 4 (.const t51)) 4) w32 fun t52 w33 =>
      Run Try.prog (sOp (.pick (.const t47) (.const (Value.bool true)) (.const t52)) 4) w33 fun t53 w34 =>
      J30 t53 w34) (
      Run Try.prog (sOp (.pick (.const t47) (.const (Value.bool true)) (.const undef)) 4) w31 fun t53_2 w35 =>
      J30 t53_2 w35)) ∧
  ∀ t53_3 _ _ _ _ _ _ _ : Value, ∀ w36 : World, J30 t53_3 w36 →
  CondV t53_3 (
    R (.returned (Value.bool false)) w36) (
    Run Try.prog (sCall (Value.func (.func 46) #[] #[]) [t33, (Value.int .i64 1)]) w36 fun t56 w37 =>
  Run Try.prog (sCall (Value.func (.func 47) #[] #[]) [t33, (Value.int .i64 1)]) w37 fun t59 w38 =>
  Run Try.prog (sBin .lss 3 false true t59 (Value.int .i64 0)) w38 fun t61 w39 =>
  CondV t61 (
    R (.returned (Value.bool false)) w39) (
    Run Try.prog (sBin .neq 3 false false t59 t56) w39 fun t64 w40 =>
  CondV t64 (
    R (.returned (Value.bool false)) w40) (
    (∃ A41 : (Nat → Bool) → Value → Value → Value → Value → Value → Value → World → Prop, A41 (fun _ => false) undef undef undef undef undef undef { w40 with drawn := w40.drawn + 1 } ∧ (
    (∀ D42 : Nat → Bool, D42 0 = false → ∀ t12 t69 t68 t67 t66 t65 : Value, ∀ w43 : World, A41 D42 t12 t69 t68 t67 t66 t65 w43 →
      A41 (setD D42 0) t12 t69 t68 t67 t66 p0 w43) ∧
    (∀ D42 : Nat → Bool, D42 1 = false → D42 0 = true → ∀ t12 t69 t68 t67 t66 t65 : Value, ∀ w44 : World, A41 D42 t12 t69 t68 t67 t66 t65 w44 →
      Run Try.prog (sCall (Value.func (.func 28) #[] #[]) [t65]) w44 fun t66_2 w45 =>
      A41 (setD D42 1) t12 t69 t68 t67 t66_2 t65 w45) ∧
    (∀ D42 : Nat → Bool, D42 2 = false → ∀ t12 t69 t68 t67 t66 t65 : Value, ∀ w46 : World, A41 D42 t12 t69 t68 t67 t66 t65 w46 →
      Run Try.prog (sOp (.load 56 (.const t3)) 56) w46 fun t67_2 w47 =>
      A41 (setD D42 2) t12 t69 t68 t67_2 t66 t65 w47) ∧
    (∀ D42 : Nat → Bool, D42 3 = false → D42 2 = true → D42 1 = true → ∀ t12 t69 t68 t67 t66 t65 : Value, ∀ w48 : World, A41 D42 t12 t69 t68 t67 t66 t65 w48 →
      Run Try.prog (sCall (Value.func (.func 40) #[] #[]) [t67]) w48 fun t68_2 w49 =>
      A41 (setD D42 3) t12 t69 t68_2 t67 t66 t65 w49) ∧
    (∀ D42 : Nat → Bool, D42 4 = false → D42 1 = true → D42 3 = true → D42 3 = true → ∀ t12 t69 t68 t67 t66 t65 : Value, ∀ w50 : World, A41 D42 t12 t69 t68 t67 t66 t65 w50 →
      Run Try.prog (sCall (Value.func (.func 58) #[] #[]) [t66, t68]) w50 fun t69_2 w51 =>
      A41 (setD D42 4) t12 t69_2 t68 t67 t66 t65 w51) ∧
    (∀ D42 : Nat → Bool, D42 5 = false → D42 4 = true → D42 4 = true → D42 0 = true → D42 1 = true → D42 2 = true → D42 3 = true → D42 4 = true → ∀ t12 t69 t68 t67 t66 t65 : Value, ∀ w52 : World, A41 D42 t12 t69 t68 t67 t66 t65 w52 →
      A41 (setD D42 5) t69 t69 t68 t67 t66 t65 w52) ∧
    True) ∧
  ∀ D42 : Nat → Bool, D42 5 = true → D42 4 = true → D42 3 = true → D42 2 = true → D42 1 = true → D42 0 = true → ∀ t12 t69 t68 t67 t66 t65 : Value, ∀ w53 : World, A41 D42 t12 t69 t68 t67 t66 t65 w53 →
  Run Try.prog (sCall (Value.func (.func 44) #[] #[]) [t12, t6]) w53 fun t72 w54 =>
  Run Try.prog (sOp (.unOp .not 4 (.const t72)) 4) w54 fun t73 w55 =>
  CondV t73 (
    R (.returned (Value.bool false)) w55) (
    Run Try.prog (sCall (Value.func (.func 47) #[] #[]) [t33, (Value.int .i64 1)]) w55 fun t76 w56 =>
  Run Try.prog (sBin .lss 3 false true t76 (Value.int .i64 0)) w56 fun t78 w57 =>
  CondV t78 (
    R (.returned (Value.bool false)) w57) (
    Run Try.prog (sBin .neq 3 false false t76 t56) w57 fun t81 w58 =>
  CondV t81 (
    R (.returned (Value.bool false)) w58) (
    R (.returned (Value.bool true)) w58)))))))))))))
theorem calls_l_FnExactCallsOf {p0 p1 : Value} {w : World} {R : Ending → World → Prop} (h : sh_l_FnExactCallsOf p0 p1 w R) : Calls Try.prog 12 #[p0, p1] w R :=
  calls_sh (.seq none .leaf (.seq none .leaf (.seq none .leaf (.seq none .leaf (.seq none .leaf (.seq none .leaf (.seq none .leaf (.seq none .leaf (.seq none .leaf (.seq none .leaf (.seq none .leaf (.seq none .leaf (.seq none .leaf (.seq none (.seq (some [53]) .leaf .leaf) .leaf)))))))))))))) [p0, p1] mixed Try.func12 (by kernel_rfl) (by kernel_rfl) h

/- loop.example/prologserver/laws.FnExactReachOf : function 13 -/
def sh_l_FnExactReachOf (p0 p1 : Value) (w : World) (R : Ending → World → Prop) : Prop :=
  Run Try.prog (sCall (Value.func (.func 26) #[] #[]) [p0, (Value.int .i64 1048576)]) w fun t16 w1 =>
  Run Try.prog (sBin .lss 3 false true t16 (Value.int .i64 0)) w1 fun t18 w2 =>
  CondV t18 (
    R (.returned (Value.bool true)) w2) (
    Run Try.prog (sCall (Value.func (.func 15) #[] #[]) [p1, t16]) w2 fun t21 w3 =>
  Run Try.prog (sBin .lss 3 false true t21 (Value.int .i64 0)) w3 fun t23 w4 =>
  CondV t23 (
    R (.returned (Value.bool true)) w4) (
    Run Try.prog (sCall (Value.func (.func 28) #[] #[]) [p0]) w4 fun t25 w5 =>
  Run Try.prog (sCall (Value.func (.func 18) #[] #[]) [p1]) w5 fun t27 w6 =>
  Run Try.prog (sCall (Value.func (.func 59) #[] #[]) [t25, t27]) w6 fun t28 w7 =>
  Run Try.prog (sCall (Value.func (.func 28) #[] #[]) [p0]) w7 fun t30 w8 =>
  Run Try.prog (sCall (Value.func (.func 18) #[] #[]) [p1]) w8 fun t32 w9 =>
  Run Try.prog (sCall (Value.func (.func 60) #[] #[]) [t30, t32]) w9 fun t35 w10 =>
  Run Try.prog (sCall (Value.func (.func 44) #[] #[]) [t35, t28]) w10 fun t38 w11 =>
  Run Try.prog (sOp (.unOp .not 4 (.const t38)) 4) w11 fun t39 w12 =>
  CondV t39 (
    R (.returned (Value.bool false)) w12) (
    Run Try.prog (sCall (Value.func (.func 28) #[] #[]) [p0]) w12 fun t42 w13 =>
  Run Try.prog (sCall (Value.func (.func 30) #[] #[]) [t30, t42]) w13 fun t43 w14 =>
  Run Try.prog (sOp (.unOp .not 4 (.const t43)) 4) w14 fun t44 w15 =>
  CondV t44 (
    R (.returned (Value.bool false)) w15) (
    Run Try.prog (sCall (Value.func (.func 18) #[] #[]) [p1]) w15 fun t47 w16 =>
  Run Try.prog (sCall (Value.func (.func 21) #[] #[]) [t32, t47]) w16 fun t48 w17 =>
  Run Try.prog (sOp (.unOp .not 4 (.const t48)) 4) w17 fun t49 w18 =>
  CondV t49 (
    R (.returned (Value.bool false)) w18) (
    Run Try.prog (sCall (Value.func (.func 45) #[] #[]) [t30, (Value.int .i64 1)]) w18 fun t52 w19 =>
  Run Try.prog (sCall (Value.func (.func 23) #[] #[]) [t32, t52]) w19 fun t55 w20 =>
  (∃ J21 : Value → World → Prop, (
    Run Try.prog (sBin .lss 3 false true t55 (Value.int .i64 0)) w20 fun t57 w22 =>
    GuardV t57 false (
      Run Try.prog (sCall (Value.func (.func 44) #[] #[]) [t35, t28]) w22 fun t61 w23 =>
      Run Try.prog (sOp (.unOp .not 4 (.const t61)) 4) w23 fun t62 w24 =>
      Run Try.prog (sOp (.pick (.const t57) (.const (Value.bool true)) (.const t62)) 4) w24 fun t63 w25 =>
      J21 t63 w25) (
      Run Try.prog (sOp (.pick (.const t57) (.const (Value.bool true)) (.const undef)) 4) w22 fun t63_2 w26 =>
      J21 t63_2 w26)) ∧
  ∀ t63_3 _ _ _ _ _ _ _ : Value, ∀ w27 : World, J21 t63_3 w27 →
  CondV t63_3 (
    R (.returned (Value.bool false)) w27) (
    Run Try.prog (sCall (Value.func (.func 46) #[] #[]) [t35, (Value.int .i64 1)]) w27 fun t66 w28 =>
  Run Try.prog (sCall (Value.func (.func 47) #[] #[]) [t35, (Value.int .i64 1)]) w28 fun t69 w29 =>
  Run Try.prog (sBin .lss 3 false true t69 (Value.int .i64 0)) w29 fun t71 w30 =>
  CondV t71 (
    R (.returned (Value.bool false)) w30) (
    Run Try.prog (sBin .neq 3 false false t69 t66) w30 fun t74 w31 =>
  CondV t74 (
    R (.returned (Value.bool false)) w31) (
    Run Try.prog (sCall (Value.func (.func 28) #[] #[]) [p0]) w31 fun t76 w32 =>
  Run Try.prog (sCall (Value.func (.func 18) #[] #[]) [p1]) w32 fun t78 w33 =>
  Run Try.prog (sCall (Value.func (.func 60) #[] #[]) [t76, t78]) w33 fun t79 w34 =>
  Run Try.prog (sCall (Value.func (.func 44) #[] #[]) [t79, t28]) w34 fun t82 w35 =>
  Run Try.prog (sOp (.unOp .not 4 (.const t82)) 4) w35 fun t83 w36 =>
  CondV t83 (
    R (.returned (Value.bool false)) w36) (
    Run Try.prog (sCall (Value.func (.func 47) #[] #[]) [t35, (Value.int .i64 1)]) w36 fun t86 w37 =>
  Run Try.prog (sBin .lss 3 false true t86 (Value.int .i64 0)) w37 fun t88 w38 =>
  CondV t88 (
    R (.returned (Value.bool false)) w38) (
    Run Try.prog (sBin .neq 3 false false t86 t66) w38 fun t91 w39 =>
  CondV t91 (
    R (.returned (Value.bool false)) w39) (
    R (.returned (Value.bool true)) w39))))))))))))
theorem calls_l_FnExactReachOf {p0 p1 : Value} {w : World} {R : Ending → World → Prop} (h : sh_l_FnExactReachOf p0 p1 w R) : Calls Try.prog 13 #[p0, p1] w R :=
  calls_sh (.seq none .leaf (.seq none .leaf (.seq none .leaf (.seq none .leaf (.seq none .leaf (.seq none .leaf (.seq none .leaf (.seq none .leaf (.seq none .leaf (.seq none .leaf (.seq none .leaf (.seq none .leaf (.seq none .leaf (.seq none .leaf (.seq none .leaf (.seq none .leaf (.seq none (.seq (some [63]) .leaf .leaf) .leaf))))))))))))))))) [p0, p1] mixed Try.func13 (by kernel_rfl) (by kernel_rfl) h

/- loop.example/prologserver/laws.FnExactSliceProgram : function 14 -/
def sh_l_FnExactSliceProgram (p0 p1 : Value) (w : World) (R : Ending → World → Prop) : Prop :=
  Run Try.prog (sCall (Value.func (.func 26) #[] #[]) [p0, (Value.int .i64 1048576)]) w fun t19 w1 =>
  Run Try.prog (sBin .lss 3 false true t19 (Value.int .i64 0)) w1 fun t21 w2 =>
  CondV t21 (
    R (.returned (Value.bool true)) w2) (
    Run Try.prog (sCall (Value.func (.func 15) #[] #[]) [p1, t19]) w2 fun t24 w3 =>
  Run Try.prog (sBin .lss 3 false true t24 (Value.int .i64 0)) w3 fun t26 w4 =>
  CondV t26 (
    R (.returned (Value.bool true)) w4) (
    Run Try.prog (sCall (Value.func (.func 28) #[] #[]) [p0]) w4 fun t29 w5 =>
  Run Try.prog (sCall (Value.func (.func 18) #[] #[]) [p1]) w5 fun t31 w6 =>
  Run Try.prog (sCall (Value.func (.func 61) #[] #[]) [t29, t31]) w6 fun t32 w7 =>
  Run Try.prog (sOp (.extract (.const t32) 0) 41) w7 fun t33 w8 =>
  Run Try.prog (sOp (.extract (.const t32) 1) 4) w8 fun t34 w9 =>
  Run Try.prog (sCall (Value.func (.func 28) #[] #[]) [p0]) w9 fun t36 w10 =>
  Run Try.prog (sCall (Value.func (.func 18) #[] #[]) [p1]) w10 fun t38 w11 =>
  Run Try.prog (sCall (Value.func (.func 62) #[] #[]) [t36, t38]) w11 fun t42 w12 =>
  Run Try.prog (sOp (.extract (.const t42) 0) 41) w12 fun t43 w13 =>
  Run Try.prog (sOp (.extract (.const t42) 1) 4) w13 fun t44 w14 =>
  (∃ J15 : Value → World → Prop, (
    Run Try.prog (sCall (Value.func (.func 30) #[] #[]) [t43, t33]) w14 fun t47 w16 =>
    Run Try.prog (sOp (.unOp .not 4 (.const t47)) 4) w16 fun t48 w17 =>
    GuardV t48 false (
      Run Try.prog (sBin .neq 4 false false t44 t34) w17 fun t52 w18 =>
      Run Try.prog (sOp (.pick (.const t48) (.const (Value.bool true)) (.const t52)) 4) w18 fun t53 w19 =>
      J15 t53 w19) (
      Run Try.prog (sOp (.pick (.const t48) (.const (Value.bool true)) (.const undef)) 4) w17 fun t53_2 w20 =>
      J15 t53_2 w20)) ∧
  ∀ t53_3 _ _ _ _ _ _ _ _ : Value, ∀ w21 : World, J15 t53_3 w21 →
  CondV t53_3 (
    R (.returned (Value.bool false)) w21) (
    Run Try.prog (sCall (Value.func (.func 28) #[] #[]) [p0]) w21 fun t56 w22 =>
  Run Try.prog (sCall (Value.func (.func 30) #[] #[]) [t36, t56]) w22 fun t57 w23 =>
  Run Try.prog (sOp (.unOp .not 4 (.const t57)) 4) w23 fun t58 w24 =>
  CondV t58 (
    R (.returned (Value.bool false)) w24) (
    Run Try.prog (sCall (Value.func (.func 18) #[] #[]) [p1]) w24 fun t61 w25 =>
  Run Try.prog (sCall (Value.func (.func 21) #[] #[]) [t38, t61]) w25 fun t62 w26 =>
  Run Try.prog (sOp (.unOp .not 4 (.const t62)) 4) w26 fun t63 w27 =>
  CondV t63 (
    R (.returned (Value.bool false)) w27) (
    Run Try.prog (sCall (Value.func (.func 45) #[] #[]) [t36, (Value.int .i64 1)]) w27 fun t66 w28 =>
  Run Try.prog (sCall (Value.func (.func 23) #[] #[]) [t38, t66]) w28 fun t69 w29 =>
  (∃ J30 : Value → World → Prop, (
    Run Try.prog (sBin .lss 3 false true t69 (Value.int .i64 0)) w29 fun t71 w31 =>
    GuardV t71 false (
      Run Try.prog (sCall (Value.func (.func 30) #[] #[]) [t43, t33]) w31 fun t75 w32 =>
      Run Try.prog (sOp (.unOp .not 4 (.const t75)) 4) w32 fun t76 w33 =>
      Run Try.prog (sOp (.pick (.const t71) (.const (Value.bool true)) (.const t76)) 4) w33 fun t77 w34 =>
      GuardV t77 false (
        Run Try.prog (sBin .neq 4 false false t44 t34) w34 fun t81 w35 =>
        Run Try.prog (sOp (.pick (.const t77) (.const (Value.bool true)) (.const t81)) 4) w35 fun t82 w36 =>
        J30 t82 w36) (
        Run Try.prog (sOp (.pick (.const t77) (.const (Value.bool true)) (.const undef)) 4) w34 fun t82_2 w37 =>
        J30 t82_2 w37)) (
      Run Try.prog (sOp (.pick (.const t71) (.const (Value.bool true)) (.const undef)) 4) w31 fun t77_2 w38 =>
      GuardV t77_2 false (
        Run Try.prog (sBin .neq 4 false false t44 t34) w38 fun t81_2 w39 =>
        Run Try.prog (sOp (.pick (.const t77_2) (.const (Value.bool true)) (.const t81_2)) 4) w39 fun t82_3 w40 =>
        J30 t82_3 w40) (
        Run Try.prog (sOp (.pick (.const t77_2) (.const (Value.bool true)) (.const undef)) 4) w38 fun t82_4 w41 =>
        J30 t82_4 w41))) ∧
  ∀ t82_5 _ _ _ _ _ _ _ _ _ _ _ _ : Value, ∀ w42 : World, J30 t82_5 w42 →
  CondV t82_5 (
    R (.returned (Value.bool false)) w42) (
    Run Try.prog (sCall (Value.func (.func 45) #[] #[]) [t43, (Value.int .i64 1)]) w42 fun t85 w43 =>
  Run Try.prog (sCall (Value.func (.func 54) #[] #[]) [t43, (Value.int .i64 1)]) w43 fun t88 w44 =>
  Run Try.prog (sBin .lss 3 false true t88 (Value.int .i64 0)) w44 fun t90 w45 =>
  CondV t90 (
    R (.returned (Value.bool false)) w45) (
    Run Try.prog (sBin .neq 3 false false t88 t85) w45 fun t93 w46 =>
  CondV t93 (
    R (.returned (Value.bool false)) w46) (
    Run Try.prog (sCall (Value.func (.func 28) #[] #[]) [p0]) w46 fun t96 w47 =>
  Run Try.prog (sCall (Value.func (.func 18) #[] #[]) [p1]) w47 fun t98 w48 =>
  Run Try.prog (sCall (Value.func (.func 62) #[] #[]) [t96, t98]) w48 fun t99 w49 =>
  Run Try.prog (sOp (.extract (.const t99) 0) 41) w49 fun t100 w50 =>
  Run Try.prog (sOp (.extract (.const t99) 1) 4) w50 fun t101 w51 =>
  (∃ J52 : Value → World → Prop, (
    Run Try.prog (sCall (Value.func (.func 30) #[] #[]) [t100, t33]) w51 fun t104 w53 =>
    Run Try.prog (sOp (.unOp .not 4 (.const t104)) 4) w53 fun t105 w54 =>
    GuardV t105 false (
      Run Try.prog (sBin .neq 4 false false t101 t34) w54 fun t109 w55 =>
      Run Try.prog (sOp (.pick (.const t105) (.const (Value.bool true)) (.const t109)) 4) w55 fun t110 w56 =>
      J52 t110 w56) (
      Run Try.prog (sOp (.pick (.const t105) (.const (Value.bool true)) (.const undef)) 4) w54 fun t110_2 w57 =>
      J52 t110_2 w57)) ∧
  ∀ t110_3 _ _ _ _ _ _ _ _ : Value, ∀ w58 : World, J52 t110_3 w58 →
  CondV t110_3 (
    R (.returned (Value.bool false)) w58) (
    Run Try.prog (sCall (Value.func (.func 54) #[] #[]) [t43, (Value.int .i64 1)]) w58 fun t113 w59 =>
  Run Try.prog (sBin .lss 3 false true t113 (Value.int .i64 0)) w59 fun t115 w60 =>
  CondV t115 (
    R (.returned (Value.bool false)) w60) (
    Run Try.prog (sBin .neq 3 false false t113 t85) w60 fun t118 w61 =>
  CondV t118 (
    R (.returned (Value.bool false)) w61) (
    R (.returned (Value.bool true)) w61))))))))))))))
theorem calls_l_FnExactSliceProgram {p0 p1 : Value} {w : World} {R : Ending → World → Prop} (h : sh_l_FnExactSliceProgram p0 p1 w R) : Calls Try.prog 14 #[p0, p1] w R :=
  calls_sh (.seq none .leaf (.seq none .leaf (.seq none .leaf (.seq none .leaf (.seq none .leaf (.seq none .leaf (.seq none .leaf (.seq none .leaf (.seq none .leaf (.seq none .leaf (.seq none (.seq (some [53]) .leaf .leaf) (.seq none .leaf (.seq none .leaf (.seq none .leaf (.seq none .leaf (.seq none .leaf (.seq none (.seq (some [82]) .leaf .leaf) (.seq none .leaf (.seq none .leaf (.seq none .leaf (.seq none .leaf (.seq none .leaf (.seq none .leaf (.seq none .leaf (.seq none (.seq (some [110]) .leaf .leaf) .leaf))))))))))))))))))))))))) [p0, p1] mixed Try.func14 (by kernel_rfl) (by kernel_rfl) h

/- loop.example/prologserver/laws.szTermS : function 15 -/
def sh_l_szTermS (p0 p1 : Value) (w : World) (R : Ending → World → Prop) : Prop :=
  Run Try.prog (sBuiltin .len #[22] 3 [false] [p0]) w fun t8 w1 =>
  Run Try.prog (sBin .sub 3 false false p1 t8) w1 fun t9 w2 =>
  Run Try.prog (sBin .lss 3 false true t9 (Value.int .i64 0)) w2 fun t11 w3 =>
  CondV t11 (
    R (.returned (Value.int .i64 (-1))) w3) (
    (∃ (I4 : Value → Value → World → Prop) (m5 : Value → Value → World → Nat), I4 (Value.int .i64 0) t9 w3 ∧
  ∀ t5 _ _ _ _ _ t1 _ _ _ _ _ _ _ _ _ _ : Value, ∀ w6 : World, I4 t5 t1 w6 →
  Run Try.prog (sBuiltin .len #[22] 3 [false] [p0]) w6 fun t14_2 w7 =>
  Run Try.prog (sBin .lss 3 false false t5 t14_2) w7 fun t15_2 w8 =>
  CondV t15_2 (
    Run Try.prog (sOp (.indexAddr 22 (.const p0) (.const t5)) 0) w8 fun t20_2 w9 =>
  Run Try.prog (sOp (.load 24 (.const t20_2)) 24) w9 fun t21_2 w10 =>
  Run Try.prog (sCall (Value.func (.func 16) #[] #[]) [t21_2, t1]) w10 fun t23_2 w11 =>
  Run Try.prog (sBin .lss 3 false true t23_2 (Value.int .i64 0)) w11 fun t25_2 w12 =>
  CondV t25_2 (
    R (.returned (Value.int .i64 (-1))) w12) (
    Run Try.prog (sBin .add 3 false true t5 (Value.int .i64 1)) w12 fun t17_2 w13 =>
  I4 t17_2 t23_2 w13 ∧ m5 t17_2 t23_2 w13 < m5 t5 t1 w6)) (
    R (.returned t1) w8)))
theorem calls_l_szTermS {p0 p1 : Value} {w : World} {R : Ending → World → Prop} (h : sh_l_szTermS p0 p1 w R) : Calls Try.prog 15 #[p0, p1] w R :=
  calls_sh (.seq none .leaf (.seq none .leaf (.seq none .leaf (.seq none (.seq none .leaf (.one (.loop [5, 1] .leaf))) .leaf)))) [p0, p1] mixed Try.func15 (by kernel_rfl) (by kernel_rfl) h

/- loop.example/prologserver/laws.szTerm : function 16 -/
def sh_l_szTerm (p0 p1 : Value) (w : World) (R : Ending → World → Prop) : Prop :=
  Run Try.prog (sOp (.box 24 (.const p0)) 0) w fun t2 w1 =>
  Run Try.prog (sOp (.fieldAddr 24 (.const t2) 2) 0) w1 fun t6 w2 =>
  Run Try.prog (sOp (.load 9 (.const t6)) 9) w2 fun t7 w3 =>
  Run Try.prog (sBuiltin .len #[9] 3 [false] [t7]) w3 fun t8 w4 =>
  Run Try.prog (sBin .sub 3 false false p1 t8) w4 fun t9 w5 =>
  Run Try.prog (sBin .lss 3 false true t9 (Value.int .i64 0)) w5 fun t11 w6 =>
  CondV t11 (
    R (.returned (Value.int .i64 (-1))) w6) (
    Run Try.prog (sOp (.fieldAddr 24 (.const t2) 3) 0) w6 fun t12 w7 =>
  Run Try.prog (sOp (.load 22 (.const t12)) 22) w7 fun t13 w8 =>
  Run Try.prog (sCall (Value.func (.func 15) #[] #[]) [t13, t9]) w8 fun t15 w9 =>
  Run Try.prog (sBin .lss 3 false true t15 (Value.int .i64 0)) w9 fun t17 w10 =>
  CondV t17 (
    R (.returned (Value.int .i64 (-1))) w10) (
    R (.returned t15) w10))
theorem calls_l_szTerm {p0 p1 : Value} {w : World} {R : Ending → World → Prop} (h : sh_l_szTerm p0 p1 w R) : Calls Try.prog 16 #[p0, p1] w R :=
  calls_sh .leaf [p0, p1] mixed Try.func16 (by kernel_rfl) (by kernel_rfl) h

/- loop.example/prologserver/spec.FactsFor : function 17 -/
def sh_s_FactsFor (p0 p1 : Value) (w : World) (R : Ending → World → Prop) : Prop :=
  Run Try.prog (sOp (.box 31 (.const p1)) 0) w fun t3 w1 =>
  Run Try.prog (sBuildSlice 27 0 []) w1 fun t7 w2 =>
  (∃ (I3 : Value → Value → World → Prop) (m4 : Value → Value → World → Nat), I3 (Value.int .i64 0) t7 w2 ∧
  ∀ t6 _ _ t5 _ _ _ _ _ _ _ _ t19 t18 t17 t16 t15 t14 _ _ _ _ : Value, ∀ w5 : World, I3 t6 t5 w5 →
  Run Try.prog (sBuiltin .len #[27] 3 [false] [p0]) w5 fun t10_2 w6 =>
  Run Try.prog (sBin .lss 3 false false t6 t10_2) w6 fun t11_2 w7 =>
  CondV t11_2 (
    (∃ J8 : Value → World → Prop, (
    (∃ A9 : (Nat → Bool) → Value → Value → Value → Value → Value → Value → World → Prop, A9 (fun _ => false) t19 t18 t17 t16 t15 t14 { w7 with drawn := w7.drawn + 1 } ∧ (
      (∀ D10 : Nat → Bool, D10 0 = false → ∀ t19_2 t18_2 t17_2 t16_2 t15_2 t14_2 : Value, ∀ w11 : World, A9 D10 t19_2 t18_2 t17_2 t16_2 t15_2 t14_2 w11 →
        A9 (setD D10 0) t19_2 t18_2 t17_2 t16_2 t15_2 p0 w11) ∧
      (∀ D10 : Nat → Bool, D10 1 = false → ∀ t19_2 t18_2 t17_2 t16_2 t15_2 t14_2 : Value, ∀ w12 : World, A9 D10 t19_2 t18_2 t17_2 t16_2 t15_2 t14_2 w12 →
        A9 (setD D10 1) t19_2 t18_2 t17_2 t16_2 t6 t14_2 w12) ∧
      (∀ D10 : Nat → Bool, D10 2 = false → D10 0 = true → D10 1 = true → ∀ t19_2 t18_2 t17_2 t16_2 t15_2 t14_2 : Value, ∀ w13 : World, A9 D10 t19_2 t18_2 t17_2 t16_2 t15_2 t14_2 w13 →
        Run Try.prog (sOp (.indexAddr 27 (.const t14_2) (.const t15_2)) 0) w13 fun t16_3 w14 =>
        A9 (setD D10 2) t19_2 t18_2 t17_2 t16_3 t15_2 t14_2 w14) ∧
      (∀ D10 : Nat → Bool, D10 3 = false → D10 2 = true → ∀ t19_2 t18_2 t17_2 t16_2 t15_2 t14_2 : Value, ∀ w15 : World, A9 D10 t19_2 t18_2 t17_2 t16_2 t15_2 t14_2 w15 →
        Run Try.prog (sOp (.load 31 (.const t16_2)) 31) w15 fun t17_3 w16 =>
        A9 (setD D10 3) t19_2 t18_2 t17_3 t16_2 t15_2 t14_2 w16) ∧
      (∀ D10 : Nat → Bool, D10 4 = false → ∀ t19_2 t18_2 t17_2 t16_2 t15_2 t14_2 : Value, ∀ w17 : World, A9 D10 t19_2 t18_2 t17_2 t16_2 t15_2 t14_2 w17 →
        Run Try.prog (sOp (.load 31 (.const t3)) 31) w17 fun t18_3 w18 =>
        A9 (setD D10 4) t19_2 t18_3 t17_2 t16_2 t15_2 t14_2 w18) ∧
      (∀ D10 : Nat → Bool, D10 5 = false → D10 3 = true → D10 4 = true → ∀ t19_2 t18_2 t17_2 t16_2 t15_2 t14_2 : Value, ∀ w19 : World, A9 D10 t19_2 t18_2 t17_2 t16_2 t15_2 t14_2 w19 →
        Run Try.prog (sCall (Value.func (.func 63) #[] #[]) [t17_2, t18_2]) w19 fun t19_3 w20 =>
        A9 (setD D10 5) t19_3 t18_2 t17_2 t16_2 t15_2 t14_2 w20) ∧
      True) ∧
    ∀ D10 : Nat → Bool, D10 5 = true → D10 4 = true → D10 3 = true → D10 2 = true → D10 1 = true → D10 0 = true → ∀ t19_2 t18_2 t17_2 t16_2 t15_2 t14_2 : Value, ∀ w21 : World, A9 D10 t19_2 t18_2 t17_2 t16_2 t15_2 t14_2 w21 →
    CondV t19_2 (
      Run Try.prog (sOp (.indexAddr 27 (.const p0) (.const t6)) 0) w21 fun t23_2 w22 =>
      Run Try.prog (sOp (.load 31 (.const t23_2)) 31) w22 fun t24_2 w23 =>
      Run Try.prog (sCall (Value.func (.func 64) #[] #[]) [t24_2]) w23 fun t25_2 w24 =>
      Run Try.prog (sBuildSlice 27 1 [(0, t25_2)]) w24 fun t26_2 w25 =>
      Run Try.prog (sBuiltin .append #[27, 27] 27 [false, false] [t5, t26_2]) w25 fun t27_2 w26 =>
      J8 t27_2 w26) (
      J8 t5 w21))) ∧
  ∀ t5_2 _ _ _ _ _ _ _ _ _ _ _ _ _ _ : Value, ∀ w27 : World, J8 t5_2 w27 →
  Run Try.prog (sBin .add 3 false true t6 (Value.int .i64 1)) w27 fun t13_2 w28 =>
  I3 t13_2 t5_2 w28 ∧ m4 t13_2 t5_2 w28 < m4 t6 t5 w5)) (
    R (.returned t5) w7))
theorem calls_s_FactsFor {p0 p1 : Value} {w : World} {R : Ending → World → Prop} (h : sh_s_FactsFor p0 p1 w R) : Calls Try.prog 17 #[p0, p1] w R :=
  calls_sh (.seq none .leaf (.seq none .leaf (.seq none (.seq none .leaf (.one (.loop [6, 5] (.seq none .leaf (.seq (some [5]) .leaf .leaf))))) .leaf))) [p0, p1] mixed Try.func17 (by kernel_rfl) (by kernel_rfl) h

/- loop.example/prologserver/laws.toTermS : function 18 -/
def sh_l_toTermS (p0 : Value) (w : World) (R : Ending → World → Prop) : Prop :=
  Run Try.prog (sBuiltin .len #[22] 3 [false] [p0]) w fun t6 w1 =>
  Run Try.prog (sOp (.makeSlice 27 (.const t6) (.const t6)) 27) w1 fun t7 w2 =>
  (∃ (I3 : Value → World → Prop) (m4 : Value → World → Nat), I3 (Value.int .i64 0) w2 ∧
  ∀ t4 _ _ _ _ _ _ _ _ _ _ _ _ _ _ : Value, ∀ w5 : World, I3 t4 w5 →
  Run Try.prog (sBuiltin .len #[22] 3 [false] [p0]) w5 fun t10_2 w6 =>
  Run Try.prog (sBin .lss 3 false false t4 t10_2) w6 fun t11_2 w7 =>
  CondV t11_2 (
    Run Try.prog (sOp (.indexAddr 22 (.const p0) (.const t4)) 0) w7 fun t18_2 w8 =>
  Run Try.prog (sOp (.load 24 (.const t18_2)) 24) w8 fun t19_2 w9 =>
  Run Try.prog (sCall (Value.func (.func 19) #[] #[]) [t19_2]) w9 fun t20_2 w10 =>
  Run Try.prog (sOp (.indexAddr 27 (.const t7) (.const t4)) 0) w10 fun t21_2 w11 =>
  Run Try.prog (sOp (.store 31 (.const t21_2) (.const t20_2)) 0) w11 fun _ w12 =>
  Run Try.prog (sBin .add 3 false true t4 (Value.int .i64 1)) w12 fun t13_2 w13 =>
  I3 t13_2 w13 ∧ m4 t13_2 w13 < m4 t4 w5) (
    R (.returned t7) w7))
theorem calls_l_toTermS {p0 : Value} {w : World} {R : Ending → World → Prop} (h : sh_l_toTermS p0 w R) : Calls Try.prog 18 #[p0] w R :=
  calls_sh (.seq none .leaf (.seq none .leaf (.seq none (.seq none .leaf (.one (.loop [4] .leaf))) .leaf))) [p0] mixed Try.func18 (by kernel_rfl) (by kernel_rfl) h

/- loop.example/prologserver/laws.toTerm : function 19 -/
def sh_l_toTerm (p0 : Value) (w : World) (R : Ending → World → Prop) : Prop :=
  Run Try.prog (sOp (.box 24 (.const p0)) 0) w fun t1 w1 =>
  Run Try.prog (sOp (.alloc 31) 0) w1 fun t2 w2 =>
  Run Try.prog (sOp (.alloc 31) 0) w2 fun t3 w3 =>
  Run Try.prog (sOp (.fieldAddr 24 (.const t1) 0) 0) w3 fun t4 w4 =>
  Run Try.prog (sOp (.load 3 (.const t4)) 3) w4 fun t5 w5 =>
  Run Try.prog (sOp (.fieldAddr 31 (.const t3) 0) 0) w5 fun t6 w6 =>
  Run Try.prog (sOp (.store 3 (.const t6) (.const t5)) 0) w6 fun _u w7 =>
  Run Try.prog (sOp (.fieldAddr 24 (.const t1) 1) 0) w7 fun t7 w8 =>
  Run Try.prog (sOp (.load 3 (.const t7)) 3) w8 fun t8 w9 =>
  Run Try.prog (sOp (.fieldAddr 31 (.const t3) 1) 0) w9 fun t9 w10 =>
  Run Try.prog (sOp (.store 3 (.const t9) (.const t8)) 0) w10 fun _u w11 =>
  Run Try.prog (sOp (.fieldAddr 24 (.const t1) 2) 0) w11 fun t10 w12 =>
  Run Try.prog (sOp (.load 9 (.const t10)) 9) w12 fun t11 w13 =>
  Run Try.prog (sOp (.fieldAddr 31 (.const t3) 2) 0) w13 fun t12 w14 =>
  Run Try.prog (sOp (.store 9 (.const t12) (.const t11)) 0) w14 fun _u w15 =>
  Run Try.prog (sOp (.fieldAddr 24 (.const t1) 3) 0) w15 fun t13 w16 =>
  Run Try.prog (sOp (.load 22 (.const t13)) 22) w16 fun t14 w17 =>
  Run Try.prog (sCall (Value.func (.func 18) #[] #[]) [t14]) w17 fun t15 w18 =>
  Run Try.prog (sOp (.fieldAddr 31 (.const t3) 3) 0) w18 fun t16 w19 =>
  Run Try.prog (sOp (.store 27 (.const t16) (.const t15)) 0) w19 fun _u w20 =>
  Run Try.prog (sOp (.load 31 (.const t3)) 31) w20 fun t17 w21 =>
  Run Try.prog (sOp (.store 31 (.const t2) (.const t17)) 0) w21 fun _ w22 =>
  (LoadV Try.prog 31 t2 w22 fun r0 => R (.returned r0) w22)
theorem calls_l_toTerm {p0 : Value} {w : World} {R : Ending → World → Prop} (h : sh_l_toTerm p0 w R) : Calls Try.prog 19 #[p0] w R :=
  calls_sh .leaf [p0] mixed Try.func19 (by kernel_rfl) (by kernel_rfl) h

/- loop.example/prologserver/impl.FactsFor : function 20 -/
def sh_i_FactsFor (p0 p1 : Value) (w : World) (R : Ending → World → Prop) : Prop :=
  Run Try.prog (sOp (.box 31 (.const p1)) 0) w fun t3 w1 =>
  Run Try.prog (sCall (Value.func (.func 67) #[] #[]) [p0]) w1 fun t6 w2 =>
  Run Try.prog (sMakeFunc (.func 68) [] [t3]) w2 fun t7 w3 =>
  Run Try.prog (sCall (Value.func (.func 66) #[] #[]) [t6, t7]) w3 fun t8 w4 =>
  Run Try.prog (sCall (Value.func (.func 65) #[] #[]) [t8]) w4 fun t9 w5 =>
  R (.returned t9) w5
theorem calls_i_FactsFor {p0 p1 : Value} {w : World} {R : Ending → World → Prop} (h : sh_i_FactsFor p0 p1 w R) : Calls Try.prog 20 #[p0, p1] w R :=
  calls_sh .leaf [p0, p1] mixed Try.func20 (by kernel_rfl) (by kernel_rfl) h

/- loop.example/prologserver/laws.eqTermS : function 21 -/
def sh_l_eqTermS (p0 p1 : Value) (w : World) (R : Ending → World → Prop) : Prop :=
  Run Try.prog (sBuiltin .len #[27] 3 [false] [p0]) w fun t7 w1 =>
  Run Try.prog (sBuiltin .len #[27] 3 [false] [p1]) w1 fun t9 w2 =>
  Run Try.prog (sBin .neq 3 false false t7 t9) w2 fun t10 w3 =>
  CondV t10 (
    R (.returned (Value.bool false)) w3) (
    (∃ (I4 : Value → World → Prop) (m5 : Value → World → Nat), I4 (Value.int .i64 0) w3 ∧
  ∀ t5 _ _ _ t26 t25 t24 t23 t22 t21 t20 t19 t18 t17 _ _ _ _ : Value, ∀ w6 : World, I4 t5 w6 →
  Run Try.prog (sBuiltin .len #[27] 3 [false] [p0]) w6 fun t13_2 w7 =>
  Run Try.prog (sBin .lss 3 false false t5 t13_2) w7 fun t14_2 w8 =>
  CondV t14_2 (
    (∃ A9 : (Nat → Bool) → Value → Value → Value → Value → Value → Value → Value → Value → Value → Value → World → Prop, A9 (fun _ => false) t26 t25 t24 t23 t22 t21 t20 t19 t18 t17 { w8 with drawn := w8.drawn + 1 } ∧ (
    (∀ D10 : Nat → Bool, D10 0 = false → ∀ t26_2 t25_2 t24_2 t23_2 t22_2 t21_2 t20_2 t19_2 t18_2 t17_2 : Value, ∀ w11 : World, A9 D10 t26_2 t25_2 t24_2 t23_2 t22_2 t21_2 t20_2 t19_2 t18_2 t17_2 w11 →
      A9 (setD D10 0) t26_2 t25_2 t24_2 t23_2 t22_2 t21_2 t20_2 t19_2 t18_2 p0 w11) ∧
    (∀ D10 : Nat → Bool, D10 1 = false → ∀ t26_2 t25_2 t24_2 t23_2 t22_2 t21_2 t20_2 t19_2 t18_2 t17_2 : Value, ∀ w12 : World, A9 D10 t26_2 t25_2 t24_2 t23_2 t22_2 t21_2 t20_2 t19_2 t18_2 t17_2 w12 →
      A9 (setD D10 1) t26_2 t25_2 t24_2 t23_2 t22_2 t21_2 t20_2 t19_2 t5 t17_2 w12) ∧
    (∀ D10 : Nat → Bool, D10 2 = false → D10 0 = true → D10 1 = true → ∀ t26_2 t25_2 t24_2 t23_2 t22_2 t21_2 t20_2 t19_2 t18_2 t17_2 : Value, ∀ w13 : World, A9 D10 t26_2 t25_2 t24_2 t23_2 t22_2 t21_2 t20_2 t19_2 t18_2 t17_2 w13 →
      Run Try.prog (sOp (.indexAddr 27 (.const t17_2) (.const t18_2)) 0) w13 fun t19_3 w14 =>
      A9 (setD D10 2) t26_2 t25_2 t24_2 t23_2 t22_2 t21_2 t20_2 t19_3 t18_2 t17_2 w14) ∧
    (∀ D10 : Nat → Bool, D10 3 = false → D10 2 = true → ∀ t26_2 t25_2 t24_2 t23_2 t22_2 t21_2 t20_2 t19_2 t18_2 t17_2 : Value, ∀ w15 : World, A9 D10 t26_2 t25_2 t24_2 t23_2 t22_2 t21_2 t20_2 t19_2 t18_2 t17_2 w15 →
      Run Try.prog (sOp (.load 31 (.const t19_2)) 31) w15 fun t20_3 w16 =>
      A9 (setD D10 3) t26_2 t25_2 t24_2 t23_2 t22_2 t21_2 t20_3 t19_2 t18_2 t17_2 w16) ∧
    (∀ D10 : Nat → Bool, D10 4 = false → ∀ t26_2 t25_2 t24_2 t23_2 t22_2 t21_2 t20_2 t19_2 t18_2 t17_2 : Value, ∀ w17 : World, A9 D10 t26_2 t25_2 t24_2 t23_2 t22_2 t21_2 t20_2 t19_2 t18_2 t17_2 w17 →
      A9 (setD D10 4) t26_2 t25_2 t24_2 t23_2 t22_2 p1 t20_2 t19_2 t18_2 t17_2 w17) ∧
    (∀ D10 : Nat → Bool, D10 5 = false → ∀ t26_2 t25_2 t24_2 t23_2 t22_2 t21_2 t20_2 t19_2 t18_2 t17_2 : Value, ∀ w18 : World, A9 D10 t26_2 t25_2 t24_2 t23_2 t22_2 t21_2 t20_2 t19_2 t18_2 t17_2 w18 →
      A9 (setD D10 5) t26_2 t25_2 t24_2 t23_2 t5 t21_2 t20_2 t19_2 t18_2 t17_2 w18) ∧
    (∀ D10 : Nat → Bool, D10 6 = false → D10 4 = true → D10 5 = true → ∀ t26_2 t25_2 t24_2 t23_2 t22_2 t21_2 t20_2 t19_2 t18_2 t17_2 : Value, ∀ w19 : World, A9 D10 t26_2 t25_2 t24_2 t23_2 t22_2 t21_2 t20_2 t19_2 t18_2 t17_2 w19 →
      Run Try.prog (sOp (.indexAddr 27 (.const t21_2) (.const t22_2)) 0) w19 fun t23_3 w20 =>
      A9 (setD D10 6) t26_2 t25_2 t24_2 t23_3 t22_2 t21_2 t20_2 t19_2 t18_2 t17_2 w20) ∧
    (∀ D10 : Nat → Bool, D10 7 = false → D10 6 = true → ∀ t26_2 t25_2 t24_2 t23_2 t22_2 t21_2 t20_2 t19_2 t18_2 t17_2 : Value, ∀ w21 : World, A9 D10 t26_2 t25_2 t24_2 t23_2 t22_2 t21_2 t20_2 t19_2 t18_2 t17_2 w21 →
      Run Try.prog (sOp (.load 31 (.const t23_2)) 31) w21 fun t24_3 w22 =>
      A9 (setD D10 7) t26_2 t25_2 t24_3 t23_2 t22_2 t21_2 t20_2 t19_2 t18_2 t17_2 w22) ∧
    (∀ D10 : Nat → Bool, D10 8 = false → D10 3 = true → D10 7 = true → ∀ t26_2 t25_2 t24_2 t23_2 t22_2 t21_2 t20_2 t19_2 t18_2 t17_2 : Value, ∀ w23 : World, A9 D10 t26_2 t25_2 t24_2 t23_2 t22_2 t21_2 t20_2 t19_2 t18_2 t17_2 w23 →
      Run Try.prog (sCall (Value.func (.func 22) #[] #[]) [t20_2, t24_2]) w23 fun t25_3 w24 =>
      A9 (setD D10 8) t26_2 t25_3 t24_2 t23_2 t22_2 t21_2 t20_2 t19_2 t18_2 t17_2 w24) ∧
    (∀ D10 : Nat → Bool, D10 9 = false → D10 8 = true → ∀ t26_2 t25_2 t24_2 t23_2 t22_2 t21_2 t20_2 t19_2 t18_2 t17_2 : Value, ∀ w25 : World, A9 D10 t26_2 t25_2 t24_2 t23_2 t22_2 t21_2 t20_2 t19_2 t18_2 t17_2 w25 →
      Run Try.prog (sOp (.unOp .not 4 (.const t25_2)) 4) w25 fun t26_3 w26 =>
      A9 (setD D10 9) t26_3 t25_2 t24_2 t23_2 t22_2 t21_2 t20_2 t19_2 t18_2 t17_2 w26) ∧
    True) ∧
  ∀ D10 : Nat → Bool, D10 9 = true → D10 8 = true → D10 7 = true → D10 6 = true → D10 5 = true → D10 4 = true → D10 3 = true → D10 2 = true → D10 1 = true → D10 0 = true → ∀ t26_2 t25_2 t24_2 t23_2 t22_2 t21_2 t20_2 t19_2 t18_2 t17_2 : Value, ∀ w27 : World, A9 D10 t26_2 t25_2 t24_2 t23_2 t22_2 t21_2 t20_2 t19_2 t18_2 t17_2 w27 →
  CondV t26_2 (
    R (.returned (Value.bool false)) w27) (
    Run Try.prog (sBin .add 3 false true t5 (Value.int .i64 1)) w27 fun t16_2 w28 =>
  I4 t16_2 w28 ∧ m5 t16_2 w28 < m5 t5 w6))) (
    R (.returned (Value.bool true)) w8)))
theorem calls_l_eqTermS {p0 p1 : Value} {w : World} {R : Ending → World → Prop} (h : sh_l_eqTermS p0 p1 w R) : Calls Try.prog 21 #[p0, p1] w R :=
  calls_sh (.seq none .leaf (.seq none .leaf (.seq none (.seq none .leaf (.one (.loop [5] .leaf))) .leaf))) [p0, p1] mixed Try.func21 (by kernel_rfl) (by kernel_rfl) h

/- loop.example/prologserver/laws.eqTerm : function 22 -/
def sh_l_eqTerm (p0 p1 : Value) (w : World) (R : Ending → World → Prop) : Prop :=
  Run Try.prog (sOp (.box 31 (.const p0)) 0) w fun t2 w1 =>
  Run Try.prog (sOp (.box 31 (.const p1)) 0) w1 fun t3 w2 =>
  Run Try.prog (sOp (.fieldAddr 31 (.const t2) 0) 0) w2 fun t5 w3 =>
  Run Try.prog (sOp (.load 3 (.const t5)) 3) w3 fun t6 w4 =>
  Run Try.prog (sOp (.fieldAddr 31 (.const t3) 0) 0) w4 fun t7 w5 =>
  Run Try.prog (sOp (.load 3 (.const t7)) 3) w5 fun t8 w6 =>
  Run Try.prog (sBin .neq 3 false false t6 t8) w6 fun t9 w7 =>
  CondV t9 (
    R (.returned (Value.bool false)) w7) (
    Run Try.prog (sOp (.fieldAddr 31 (.const t2) 1) 0) w7 fun t10 w8 =>
  Run Try.prog (sOp (.load 3 (.const t10)) 3) w8 fun t11 w9 =>
  Run Try.prog (sOp (.fieldAddr 31 (.const t3) 1) 0) w9 fun t12 w10 =>
  Run Try.prog (sOp (.load 3 (.const t12)) 3) w10 fun t13 w11 =>
  Run Try.prog (sBin .neq 3 false false t11 t13) w11 fun t14 w12 =>
  CondV t14 (
    R (.returned (Value.bool false)) w12) (
    Run Try.prog (sOp (.fieldAddr 31 (.const t2) 2) 0) w12 fun t15 w13 =>
  Run Try.prog (sOp (.load 9 (.const t15)) 9) w13 fun t16 w14 =>
  Run Try.prog (sOp (.fieldAddr 31 (.const t3) 2) 0) w14 fun t17 w15 =>
  Run Try.prog (sOp (.load 9 (.const t17)) 9) w15 fun t18 w16 =>
  Run Try.prog (sBin .neq 9 false false t16 t18) w16 fun t19 w17 =>
  CondV t19 (
    R (.returned (Value.bool false)) w17) (
    Run Try.prog (sOp (.fieldAddr 31 (.const t2) 3) 0) w17 fun t20 w18 =>
  Run Try.prog (sOp (.load 27 (.const t20)) 27) w18 fun t21 w19 =>
  Run Try.prog (sOp (.fieldAddr 31 (.const t3) 3) 0) w19 fun t22 w20 =>
  Run Try.prog (sOp (.load 27 (.const t22)) 27) w20 fun t23 w21 =>
  Run Try.prog (sCall (Value.func (.func 21) #[] #[]) [t21, t23]) w21 fun t24 w22 =>
  Run Try.prog (sOp (.unOp .not 4 (.const t24)) 4) w22 fun t25 w23 =>
  CondV t25 (
    R (.returned (Value.bool false)) w23) (
    R (.returned (Value.bool true)) w23))))
theorem calls_l_eqTerm {p0 p1 : Value} {w : World} {R : Ending → World → Prop} (h : sh_l_eqTerm p0 p1 w R) : Calls Try.prog 22 #[p0, p1] w R :=
  calls_sh .leaf [p0, p1] mixed Try.func22 (by kernel_rfl) (by kernel_rfl) h

/- loop.example/prologserver/laws.markTermS : function 23 -/
def sh_l_markTermS (p0 p1 : Value) (w : World) (R : Ending → World → Prop) : Prop :=
  (∃ (I1 : Value → Value → World → Prop) (m2 : Value → Value → World → Nat), I1 (Value.int .i64 0) p1 w ∧
  ∀ t5 _ _ _ _ _ _ _ _ _ _ _ _ _ _ _ _ _ _ _ _ _ _ _ _ t1 _ _ _ _ _ _ _ _ _ _ _ : Value, ∀ w3 : World, I1 t5 t1 w3 →
  Run Try.prog (sBuiltin .len #[27] 3 [false] [p0]) w3 fun t8_2 w4 =>
  Run Try.prog (sBin .lss 3 false false t5 t8_2) w4 fun t9_2 w5 =>
  CondV t9_2 (
    Run Try.prog (sOp (.indexAddr 27 (.const p0) (.const t5)) 0) w5 fun t15_2 w6 =>
  Run Try.prog (sOp (.fieldAddr 31 (.const t15_2) 0) 0) w6 fun t16_2 w7 =>
  Run Try.prog (sOp (.store 3 (.const t16_2) (.const t1)) 0) w7 fun _u w8 =>
  Run Try.prog (sBin .add 3 false true t1 (Value.int .i64 1)) w8 fun t18_2 w9 =>
  Run Try.prog (sOp (.indexAddr 27 (.const p0) (.const t5)) 0) w9 fun t22_2 w10 =>
  Run Try.prog (sOp (.fieldAddr 31 (.const t22_2) 1) 0) w10 fun t23_2 w11 =>
  Run Try.prog (sOp (.store 3 (.const t23_2) (.const t18_2)) 0) w11 fun _u w12 =>
  Run Try.prog (sBin .add 3 false true t18_2 (Value.int .i64 1)) w12 fun t25_2 w13 =>
  Run Try.prog (sCall (Value.func (.func 70) #[] #[]) [t25_2]) w13 fun t29_2 w14 =>
  Run Try.prog (sOp (.indexAddr 27 (.const p0) (.const t5)) 0) w14 fun t30_2 w15 =>
  Run Try.prog (sOp (.fieldAddr 31 (.const t30_2) 2) 0) w15 fun t31_2 w16 =>
  Run Try.prog (sOp (.store 9 (.const t31_2) (.const t29_2)) 0) w16 fun _ w17 =>
  Run Try.prog (sBin .add 3 false true t25_2 (Value.int .i64 1)) w17 fun t33_2 w18 =>
  Run Try.prog (sOp (.indexAddr 27 (.const p0) (.const t5)) 0) w18 fun t36_2 w19 =>
  Run Try.prog (sOp (.fieldAddr 31 (.const t36_2) 3) 0) w19 fun t37_2 w20 =>
  Run Try.prog (sOp (.load 27 (.const t37_2)) 27) w20 fun t38_2 w21 =>
  Run Try.prog (sCall (Value.func (.func 23) #[] #[]) [t38_2, t33_2]) w21 fun t40_2 w22 =>
  Run Try.prog (sBin .add 3 false true t5 (Value.int .i64 1)) w22 fun t11_2 w23 =>
  I1 t11_2 t40_2 w23 ∧ m2 t11_2 t40_2 w23 < m2 t5 t1 w3) (
    R (.returned t1) w5))
theorem calls_l_markTermS {p0 p1 : Value} {w : World} {R : Ending → World → Prop} (h : sh_l_markTermS p0 p1 w R) : Calls Try.prog 23 #[p0, p1] w R :=
  calls_sh (.seq none .leaf (.seq none (.seq none .leaf (.one (.loop [5, 1] .leaf))) .leaf)) [p0, p1] mixed Try.func23 (by kernel_rfl) (by kernel_rfl) h

/- loop.example/prologserver/laws.markTerm : function 24 -/
def sh_l_markTerm (p0 p1 : Value) (w : World) (R : Ending → World → Prop) : Prop :=
  Run Try.prog (sOp (.box 31 (.const p0)) 0) w fun t2 w1 =>
  Run Try.prog (sOp (.fieldAddr 31 (.const t2) 3) 0) w1 fun t5 w2 =>
  Run Try.prog (sOp (.load 27 (.const t5)) 27) w2 fun t6 w3 =>
  Run Try.prog (sCall (Value.func (.func 23) #[] #[]) [t6, p1]) w3 fun t8 w4 =>
  R (.returned t8) w4
theorem calls_l_markTerm {p0 p1 : Value} {w : World} {R : Ending → World → Prop} (h : sh_l_markTerm p0 p1 w R) : Calls Try.prog 24 #[p0, p1] w R :=
  calls_sh .leaf [p0, p1] mixed Try.func24 (by kernel_rfl) (by kernel_rfl) h

/- loop.example/prologserver/laws.heldTermS : function 25 -/
def sh_l_heldTermS (p0 p1 : Value) (w : World) (R : Ending → World → Prop) : Prop :=
  (∃ (I1 : Value → Value → World → Prop) (m2 : Value → Value → World → Nat), I1 (Value.int .i64 0) p1 w ∧
  ∀ t5 _ _ _ _ _ _ _ _ _ _ _ _ _ t37 t36 t35 t34 t33 t32 t31 t30 _ _ _ _ _ _ _ _ _ t1 _ _ _ _ _ _ _ _ _ _ _ _ _ _ : Value, ∀ w3 : World, I1 t5 t1 w3 →
  Run Try.prog (sBuiltin .len #[27] 3 [false] [p0]) w3 fun t8_2 w4 =>
  Run Try.prog (sBin .lss 3 false false t5 t8_2) w4 fun t9_2 w5 =>
  CondV t9_2 (
    Run Try.prog (sOp (.indexAddr 27 (.const p0) (.const t5)) 0) w5 fun t14_2 w6 =>
  Run Try.prog (sOp (.fieldAddr 31 (.const t14_2) 0) 0) w6 fun t15_2 w7 =>
  Run Try.prog (sOp (.load 3 (.const t15_2)) 3) w7 fun t16_2 w8 =>
  Run Try.prog (sBin .neq 3 false false t16_2 t1) w8 fun t18_2 w9 =>
  CondV t18_2 (
    R (.returned (Value.int .i64 (-1))) w9) (
    Run Try.prog (sBin .add 3 false true t1 (Value.int .i64 1)) w9 fun t20_2 w10 =>
  Run Try.prog (sOp (.indexAddr 27 (.const p0) (.const t5)) 0) w10 fun t23_2 w11 =>
  Run Try.prog (sOp (.fieldAddr 31 (.const t23_2) 1) 0) w11 fun t24_2 w12 =>
  Run Try.prog (sOp (.load 3 (.const t24_2)) 3) w12 fun t25_2 w13 =>
  Run Try.prog (sBin .neq 3 false false t25_2 t20_2) w13 fun t27_2 w14 =>
  CondV t27_2 (
    R (.returned (Value.int .i64 (-1))) w14) (
    Run Try.prog (sBin .add 3 false true t20_2 (Value.int .i64 1)) w14 fun t29_2 w15 =>
  (∃ A16 : (Nat → Bool) → Value → Value → Value → Value → Value → Value → Value → Value → World → Prop, A16 (fun _ => false) t37 t36 t35 t34 t33 t32 t31 t30 { w15 with drawn := w15.drawn + 1 } ∧ (
    (∀ D17 : Nat → Bool, D17 0 = false → ∀ t37_2 t36_2 t35_2 t34_2 t33_2 t32_2 t31_2 t30_2 : Value, ∀ w18 : World, A16 D17 t37_2 t36_2 t35_2 t34_2 t33_2 t32_2 t31_2 t30_2 w18 →
      A16 (setD D17 0) t37_2 t36_2 t35_2 t34_2 t33_2 t32_2 t31_2 p0 w18) ∧
    (∀ D17 : Nat → Bool, D17 1 = false → ∀ t37_2 t36_2 t35_2 t34_2 t33_2 t32_2 t31_2 t30_2 : Value, ∀ w19 : World, A16 D17 t37_2 t36_2 t35_2 t34_2 t33_2 t32_2 t31_2 t30_2 w19 →
      A16 (setD D17 1) t37_2 t36_2 t35_2 t34_2 t33_2 t32_2 t5 t30_2 w19) ∧
    (∀ D17 : Nat → Bool, D17 2 = false → D17 0 = true → D17 1 = true → ∀ t37_2 t36_2 t35_2 t34_2 t33_2 t32_2 t31_2 t30_2 : Value, ∀ w20 : World, A16 D17 t37_2 t36_2 t35_2 t34_2 t33_2 t32_2 t31_2 t30_2 w20 →
      Run Try.prog (sOp (.indexAddr 27 (.const t30_2) (.const t31_2)) 0) w20 fun t32_3 w21 =>
      A16 (setD D17 2) t37_2 t36_2 t35_2 t34_2 t33_2 t32_3 t31_2 t30_2 w21) ∧
    (∀ D17 : Nat → Bool, D17 3 = false → D17 2 = true → ∀ t37_2 t36_2 t35_2 t34_2 t33_2 t32_2 t31_2 t30_2 : Value, ∀ w22 : World, A16 D17 t37_2 t36_2 t35_2 t34_2 t33_2 t32_2 t31_2 t30_2 w22 →
      Run Try.prog (sOp (.fieldAddr 31 (.const t32_2) 2) 0) w22 fun t33_3 w23 =>
      A16 (setD D17 3) t37_2 t36_2 t35_2 t34_2 t33_3 t32_2 t31_2 t30_2 w23) ∧
    (∀ D17 : Nat → Bool, D17 4 = false → D17 3 = true → ∀ t37_2 t36_2 t35_2 t34_2 t33_2 t32_2 t31_2 t30_2 : Value, ∀ w24 : World, A16 D17 t37_2 t36_2 t35_2 t34_2 t33_2 t32_2 t31_2 t30_2 w24 →
      Run Try.prog (sOp (.load 9 (.const t33_2)) 9) w24 fun t34_3 w25 =>
      A16 (setD D17 4) t37_2 t36_2 t35_2 t34_3 t33_2 t32_2 t31_2 t30_2 w25) ∧
    (∀ D17 : Nat → Bool, D17 5 = false → ∀ t37_2 t36_2 t35_2 t34_2 t33_2 t32_2 t31_2 t30_2 : Value, ∀ w26 : World, A16 D17 t37_2 t36_2 t35_2 t34_2 t33_2 t32_2 t31_2 t30_2 w26 →
      A16 (setD D17 5) t37_2 t36_2 t29_2 t34_2 t33_2 t32_2 t31_2 t30_2 w26) ∧
    (∀ D17 : Nat → Bool, D17 6 = false → D17 5 = true → ∀ t37_2 t36_2 t35_2 t34_2 t33_2 t32_2 t31_2 t30_2 : Value, ∀ w27 : World, A16 D17 t37_2 t36_2 t35_2 t34_2 t33_2 t32_2 t31_2 t30_2 w27 →
      Run Try.prog (sCall (Value.func (.func 70) #[] #[]) [t35_2]) w27 fun t36_3 w28 =>
      A16 (setD D17 6) t37_2 t36_3 t35_2 t34_2 t33_2 t32_2 t31_2 t30_2 w28) ∧
    (∀ D17 : Nat → Bool, D17 7 = false → D17 4 = true → D17 6 = true → ∀ t37_2 t36_2 t35_2 t34_2 t33_2 t32_2 t31_2 t30_2 : Value, ∀ w29 : World, A16 D17 t37_2 t36_2 t35_2 t34_2 t33_2 t32_2 t31_2 t30_2 w29 →
      Run Try.prog (sBin .neq 9 false false t34_2 t36_2) w29 fun t37_3 w30 =>
      A16 (setD D17 7) t37_3 t36_2 t35_2 t34_2 t33_2 t32_2 t31_2 t30_2 w30) ∧
    True) ∧
  ∀ D17 : Nat → Bool, D17 7 = true → D17 6 = true → D17 5 = true → D17 4 = true → D17 3 = true → D17 2 = true → D17 1 = true → D17 0 = true → ∀ t37_2 t36_2 t35_2 t34_2 t33_2 t32_2 t31_2 t30_2 : Value, ∀ w31 : World, A16 D17 t37_2 t36_2 t35_2 t34_2 t33_2 t32_2 t31_2 t30_2 w31 →
  CondV t37_2 (
    R (.returned (Value.int .i64 (-1))) w31) (
    Run Try.prog (sBin .add 3 false true t29_2 (Value.int .i64 1)) w31 fun t39_2 w32 =>
  Run Try.prog (sOp (.indexAddr 27 (.const p0) (.const t5)) 0) w32 fun t42_2 w33 =>
  Run Try.prog (sOp (.fieldAddr 31 (.const t42_2) 3) 0) w33 fun t43_2 w34 =>
  Run Try.prog (sOp (.load 27 (.const t43_2)) 27) w34 fun t44_2 w35 =>
  Run Try.prog (sCall (Value.func (.func 25) #[] #[]) [t44_2, t39_2]) w35 fun t46_2 w36 =>
  Run Try.prog (sBin .lss 3 false true t46_2 (Value.int .i64 0)) w36 fun t48_2 w37 =>
  CondV t48_2 (
    R (.returned (Value.int .i64 (-1))) w37) (
    Run Try.prog (sBin .add 3 false true t5 (Value.int .i64 1)) w37 fun t11_2 w38 =>
  I1 t11_2 t46_2 w38 ∧ m2 t11_2 t46_2 w38 < m2 t5 t1 w3)))))) (
    R (.returned t1) w5))
theorem calls_l_heldTermS {p0 p1 : Value} {w : World} {R : Ending → World → Prop} (h : sh_l_heldTermS p0 p1 w R) : Calls Try.prog 25 #[p0, p1] w R :=
  calls_sh (.seq none .leaf (.seq none (.seq none .leaf (.one (.loop [5, 1] .leaf))) .leaf)) [p0, p1] mixed Try.func25 (by kernel_rfl) (by kernel_rfl) h

/- loop.example/prologserver/laws.szClauseS : function 26 -/
def sh_l_szClauseS (p0 p1 : Value) (w : World) (R : Ending → World → Prop) : Prop :=
  Run Try.prog (sBuiltin .len #[38] 3 [false] [p0]) w fun t8 w1 =>
  Run Try.prog (sBin .sub 3 false false p1 t8) w1 fun t9 w2 =>
  Run Try.prog (sBin .lss 3 false true t9 (Value.int .i64 0)) w2 fun t11 w3 =>
  CondV t11 (
    R (.returned (Value.int .i64 (-1))) w3) (
    (∃ (I4 : Value → Value → World → Prop) (m5 : Value → Value → World → Nat), I4 (Value.int .i64 0) t9 w3 ∧
  ∀ t5 _ _ _ _ _ t1 _ _ _ _ _ _ _ _ _ _ : Value, ∀ w6 : World, I4 t5 t1 w6 →
  Run Try.prog (sBuiltin .len #[38] 3 [false] [p0]) w6 fun t14_2 w7 =>
  Run Try.prog (sBin .lss 3 false false t5 t14_2) w7 fun t15_2 w8 =>
  CondV t15_2 (
    Run Try.prog (sOp (.indexAddr 38 (.const p0) (.const t5)) 0) w8 fun t20_2 w9 =>
  Run Try.prog (sOp (.load 46 (.const t20_2)) 46) w9 fun t21_2 w10 =>
  Run Try.prog (sCall (Value.func (.func 31) #[] #[]) [t21_2, t1]) w10 fun t23_2 w11 =>
  Run Try.prog (sBin .lss 3 false true t23_2 (Value.int .i64 0)) w11 fun t25_2 w12 =>
  CondV t25_2 (
    R (.returned (Value.int .i64 (-1))) w12) (
    Run Try.prog (sBin .add 3 false true t5 (Value.int .i64 1)) w12 fun t17_2 w13 =>
  I4 t17_2 t23_2 w13 ∧ m5 t17_2 t23_2 w13 < m5 t5 t1 w6)) (
    R (.returned t1) w8)))
theorem calls_l_szClauseS {p0 p1 : Value} {w : World} {R : Ending → World → Prop} (h : sh_l_szClauseS p0 p1 w R) : Calls Try.prog 26 #[p0, p1] w R :=
  calls_sh (.seq none .leaf (.seq none .leaf (.seq none .leaf (.seq none (.seq none .leaf (.one (.loop [5, 1] .leaf))) .leaf)))) [p0, p1] mixed Try.func26 (by kernel_rfl) (by kernel_rfl) h

/- loop.example/prologserver/spec.CanUnfold : function 27 -/
def sh_s_CanUnfold (p0 p1 : Value) (w : World) (R : Ending → World → Prop) : Prop :=
  (∃ J1 : Value → World → Prop, (
    Run Try.prog (sCall (Value.func (.func 71) #[] #[]) [p0]) w fun t8 w2 =>
    Run Try.prog (sOp (.unOp .not 4 (.const t8)) 4) w2 fun t9 w3 =>
    GuardV t9 false (
      Run Try.prog (sBin .lss 3 false true p1 (Value.int .i64 0)) w3 fun t12 w4 =>
      Run Try.prog (sOp (.pick (.const t9) (.const (Value.bool true)) (.const t12)) 4) w4 fun t13 w5 =>
      GuardV t13 false (
        Run Try.prog (sBuiltin .len #[41] 3 [false] [p0]) w5 fun t17 w6 =>
        Run Try.prog (sBin .geq 3 false false p1 t17) w6 fun t18 w7 =>
        Run Try.prog (sOp (.pick (.const t13) (.const (Value.bool true)) (.const t18)) 4) w7 fun t19 w8 =>
        GuardV t19 false (
          Run Try.prog (sOp (.indexAddr 41 (.const p0) (.const p1)) 0) w8 fun t23 w9 =>
          Run Try.prog (sOp (.load 50 (.const t23)) 50) w9 fun t24 w10 =>
          Run Try.prog (sCall (Value.func (.func 72) #[] #[]) [t24]) w10 fun t25 w11 =>
          Run Try.prog (sOp (.unOp .not 4 (.const t25)) 4) w11 fun t26 w12 =>
          Run Try.prog (sOp (.pick (.const t19) (.const (Value.bool true)) (.const t26)) 4) w12 fun t27 w13 =>
          J1 t27 w13) (
          Run Try.prog (sOp (.pick (.const t19) (.const (Value.bool true)) (.const undef)) 4) w8 fun t27_2 w14 =>
          J1 t27_2 w14)) (
        Run Try.prog (sOp (.pick (.const t13) (.const (Value.bool true)) (.const undef)) 4) w5 fun t19_2 w15 =>
        GuardV t19_2 false (
          Run Try.prog (sOp (.indexAddr 41 (.const p0) (.const p1)) 0) w15 fun t23_2 w16 =>
          Run Try.prog (sOp (.load 50 (.const t23_2)) 50) w16 fun t24_2 w17 =>
          Run Try.prog (sCall (Value.func (.func 72) #[] #[]) [t24_2]) w17 fun t25_2 w18 =>
          Run Try.prog (sOp (.unOp .not 4 (.const t25_2)) 4) w18 fun t26_2 w19 =>
          Run Try.prog (sOp (.pick (.const t19_2) (.const (Value.bool true)) (.const t26_2)) 4) w19 fun t27_3 w20 =>
          J1 t27_3 w20) (
          Run Try.prog (sOp (.pick (.const t19_2) (.const (Value.bool true)) (.const undef)) 4) w15 fun t27_4 w21 =>
          J1 t27_4 w21))) (
      Run Try.prog (sOp (.pick (.const t9) (.const (Value.bool true)) (.const undef)) 4) w3 fun t13_2 w22 =>
      GuardV t13_2 false (
        Run Try.prog (sBuiltin .len #[41] 3 [false] [p0]) w22 fun t17_2 w23 =>
        Run Try.prog (sBin .geq 3 false false p1 t17_2) w23 fun t18_2 w24 =>
        Run Try.prog (sOp (.pick (.const t13_2) (.const (Value.bool true)) (.const t18_2)) 4) w24 fun t19_3 w25 =>
        GuardV t19_3 false (
          Run Try.prog (sOp (.indexAddr 41 (.const p0) (.const p1)) 0) w25 fun t23_3 w26 =>
          Run Try.prog (sOp (.load 50 (.const t23_3)) 50) w26 fun t24_3 w27 =>
          Run Try.prog (sCall (Value.func (.func 72) #[] #[]) [t24_3]) w27 fun t25_3 w28 =>
          Run Try.prog (sOp (.unOp .not 4 (.const t25_3)) 4) w28 fun t26_3 w29 =>
          Run Try.prog (sOp (.pick (.const t19_3) (.const (Value.bool true)) (.const t26_3)) 4) w29 fun t27_5 w30 =>
          J1 t27_5 w30) (
          Run Try.prog (sOp (.pick (.const t19_3) (.const (Value.bool true)) (.const undef)) 4) w25 fun t27_6 w31 =>
          J1 t27_6 w31)) (
        Run Try.prog (sOp (.pick (.const t13_2) (.const (Value.bool true)) (.const undef)) 4) w22 fun t19_4 w32 =>
        GuardV t19_4 false (
          Run Try.prog (sOp (.indexAddr 41 (.const p0) (.const p1)) 0) w32 fun t23_4 w33 =>
          Run Try.prog (sOp (.load 50 (.const t23_4)) 50) w33 fun t24_4 w34 =>
          Run Try.prog (sCall (Value.func (.func 72) #[] #[]) [t24_4]) w34 fun t25_4 w35 =>
          Run Try.prog (sOp (.unOp .not 4 (.const t25_4)) 4) w35 fun t26_4 w36 =>
          Run Try.prog (sOp (.pick (.const t19_4) (.const (Value.bool true)) (.const t26_4)) 4) w36 fun t27_7 w37 =>
          J1 t27_7 w37) (
          Run Try.prog (sOp (.pick (.const t19_4) (.const (Value.bool true)) (.const undef)) 4) w32 fun t27_8 w38 =>
          J1 t27_8 w38)))) ∧
  ∀ t27_9 _ _ _ _ _ _ _ _ _ _ _ _ _ _ _ _ _ _ _ _ : Value, ∀ w39 : World, J1 t27_9 w39 →
  CondV t27_9 (
    R (.returned (Value.bool false)) w39) (
    Run Try.prog (sOp (.indexAddr 41 (.const p0) (.const p1)) 0) w39 fun t31 w40 =>
  Run Try.prog (sOp (.fieldAddr 50 (.const t31) 1) 0) w40 fun t32 w41 =>
  Run Try.prog (sOp (.load 27 (.const t32)) 27) w41 fun t33 w42 =>
  Run Try.prog (sOp (.indexAddr 27 (.const t33) (.const (Value.int .i64 0))) 0) w42 fun t34 w43 =>
  Run Try.prog (sOp (.load 31 (.const t34)) 31) w43 fun t35 w44 =>
  Run Try.prog (sCall (Value.func (.func 73) #[] #[]) [p0, t35]) w44 fun t36 w45 =>
  (∃ (I46 : Value → World → Prop) (m47 : Value → World → Nat), I46 (Value.int .i64 0) w45 ∧
  ∀ t6 _ _ _ _ _ _ _ _ _ _ _ _ _ _ _ _ _ _ _ _ _ _ _ : Value, ∀ w48 : World, I46 t6 w48 →
  Run Try.prog (sBuiltin .len #[84] 3 [false] [t36]) w48 fun t39_2 w49 =>
  Run Try.prog (sBin .lss 3 false false t6 t39_2) w49 fun t40_2 w50 =>
  CondV t40_2 (
    (∃ J51 : Value → World → Prop, (
    Run Try.prog (sOp (.indexAddr 84 (.const t36) (.const t6)) 0) w50 fun t46_2 w52 =>
    Run Try.prog (sOp (.load 3 (.const t46_2)) 3) w52 fun t47_2 w53 =>
    Run Try.prog (sOp (.indexAddr 41 (.const p0) (.const t47_2)) 0) w53 fun t48_2 w54 =>
    Run Try.prog (sOp (.load 50 (.const t48_2)) 50) w54 fun t49_2 w55 =>
    Run Try.prog (sCall (Value.func (.func 74) #[] #[]) [t49_2]) w55 fun t50_2 w56 =>
    GuardV t50_2 false (
      Run Try.prog (sOp (.indexAddr 84 (.const t36) (.const t6)) 0) w56 fun t54_2 w57 =>
      Run Try.prog (sOp (.load 3 (.const t54_2)) 3) w57 fun t55_2 w58 =>
      Run Try.prog (sBin .eql 3 false false t55_2 p1) w58 fun t57_2 w59 =>
      Run Try.prog (sOp (.pick (.const t50_2) (.const (Value.bool true)) (.const t57_2)) 4) w59 fun t58_2 w60 =>
      J51 t58_2 w60) (
      Run Try.prog (sOp (.pick (.const t50_2) (.const (Value.bool true)) (.const undef)) 4) w56 fun t58_3 w61 =>
      J51 t58_3 w61)) ∧
  ∀ t58_4 _ _ _ _ _ _ _ _ _ _ _ _ _ _ _ : Value, ∀ w62 : World, J51 t58_4 w62 →
  CondV t58_4 (
    R (.returned (Value.bool false)) w62) (
    Run Try.prog (sBin .add 3 false true t6 (Value.int .i64 1)) w62 fun t42_2 w63 =>
  I46 t42_2 w63 ∧ m47 t42_2 w63 < m47 t6 w48))) (
    Run Try.prog (sBuiltin .len #[84] 3 [false] [t36]) w50 fun t60 w64 =>
  Run Try.prog (sBin .gtr 3 false true t60 (Value.int .i64 0)) w64 fun t61 w65 =>
  GuardV t61 true (
    Run Try.prog (sOp (.indexAddr 41 (.const p0) (.const p1)) 0) w65 fun t65 w66 =>
    Run Try.prog (sOp (.load 50 (.const t65)) 50) w66 fun t66 w67 =>
    Run Try.prog (sCall (Value.func (.func 74) #[] #[]) [t66]) w67 fun t67 w68 =>
    Run Try.prog (sOp (.unOp .not 4 (.const t67)) 4) w68 fun t68 w69 =>
    Run Try.prog (sOp (.pick (.const t61) (.const t68) (.const (Value.bool false))) 4) w69 fun t69 w70 =>
    R (.returned t69) w70) (
    Run Try.prog (sOp (.pick (.const t61) (.const undef) (.const (Value.bool false))) 4) w65 fun t69_2 w71 =>
    R (.returned t69_2) w71)))))
theorem calls_s_CanUnfold {p0 p1 : Value} {w : World} {R : Ending → World → Prop} (h : sh_s_CanUnfold p0 p1 w R) : Calls Try.prog 27 #[p0, p1] w R :=
  calls_sh (.seq none .leaf (.seq none (.seq (some [27]) .leaf .leaf) (.seq none .leaf (.seq none (.seq none .leaf (.one (.loop [6] (.seq none .leaf (.seq none (.one (.seq (some [58]) .leaf .leaf)) .leaf))))) .leaf)))) [p0, p1] mixed Try.func27 (by kernel_rfl) (by kernel_rfl) h

/- loop.example/prologserver/laws.toClauseS : function 28 -/
def sh_l_toClauseS (p0 : Value) (w : World) (R : Ending → World → Prop) : Prop :=
  Run Try.prog (sBuiltin .len #[38] 3 [false] [p0]) w fun t6 w1 =>
  Run Try.prog (sOp (.makeSlice 41 (.const t6) (.const t6)) 41) w1 fun t7 w2 =>
  (∃ (I3 : Value → World → Prop) (m4 : Value → World → Nat), I3 (Value.int .i64 0) w2 ∧
  ∀ t4 _ _ _ _ _ _ _ _ _ _ _ _ _ _ : Value, ∀ w5 : World, I3 t4 w5 →
  Run Try.prog (sBuiltin .len #[38] 3 [false] [p0]) w5 fun t10_2 w6 =>
  Run Try.prog (sBin .lss 3 false false t4 t10_2) w6 fun t11_2 w7 =>
  CondV t11_2 (
    Run Try.prog (sOp (.indexAddr 38 (.const p0) (.const t4)) 0) w7 fun t18_2 w8 =>
  Run Try.prog (sOp (.load 46 (.const t18_2)) 46) w8 fun t19_2 w9 =>
  Run Try.prog (sCall (Value.func (.func 33) #[] #[]) [t19_2]) w9 fun t20_2 w10 =>
  Run Try.prog (sOp (.indexAddr 41 (.const t7) (.const t4)) 0) w10 fun t21_2 w11 =>
  Run Try.prog (sOp (.store 50 (.const t21_2) (.const t20_2)) 0) w11 fun _ w12 =>
  Run Try.prog (sBin .add 3 false true t4 (Value.int .i64 1)) w12 fun t13_2 w13 =>
  I3 t13_2 w13 ∧ m4 t13_2 w13 < m4 t4 w5) (
    R (.returned t7) w7))
theorem calls_l_toClauseS {p0 : Value} {w : World} {R : Ending → World → Prop} (h : sh_l_toClauseS p0 w R) : Calls Try.prog 28 #[p0] w R :=
  calls_sh (.seq none .leaf (.seq none .leaf (.seq none (.seq none .leaf (.one (.loop [4] .leaf))) .leaf))) [p0] mixed Try.func28 (by kernel_rfl) (by kernel_rfl) h

/- loop.example/prologserver/impl.CanUnfold : function 29 -/
def sh_i_CanUnfold (p0 p1 : Value) (w : World) (R : Ending → World → Prop) : Prop :=
  Run Try.prog (sOp (.box 41 (.const p0)) 0) w fun t2 w1 =>
  (∃ J2 : Value → World → Prop, (
    Run Try.prog (sOp (.load 41 (.const t2)) 41) w1 fun t6 w3 =>
    Run Try.prog (sCall (Value.func (.func 75) #[] #[]) [t6]) w3 fun t7 w4 =>
    Run Try.prog (sOp (.unOp .not 4 (.const t7)) 4) w4 fun t8 w5 =>
    GuardV t8 false (
      Run Try.prog (sOp (.load 41 (.const t2)) 41) w5 fun t11 w6 =>
      Run Try.prog (sBuiltin .len #[41] 3 [false] [t11]) w6 fun t12 w7 =>
      Run Try.prog (sBin .sub 3 false true t12 (Value.int .i64 1)) w7 fun t13 w8 =>
      Run Try.prog (sCall (Value.func (.func 76) #[] #[]) [p1, (Value.int .i64 0), t13]) w8 fun t14 w9 =>
      Run Try.prog (sOp (.unOp .not 4 (.const t14)) 4) w9 fun t15 w10 =>
      Run Try.prog (sOp (.pick (.const t8) (.const (Value.bool true)) (.const t15)) 4) w10 fun t16 w11 =>
      GuardV t16 false (
        Run Try.prog (sOp (.load 41 (.const t2)) 41) w11 fun t18 w12 =>
        Run Try.prog (sOp (.indexAddr 41 (.const t18) (.const p1)) 0) w12 fun t20 w13 =>
        Run Try.prog (sOp (.load 50 (.const t20)) 50) w13 fun t21 w14 =>
        Run Try.prog (sCall (Value.func (.func 77) #[] #[]) [t21]) w14 fun t22 w15 =>
        Run Try.prog (sOp (.unOp .not 4 (.const t22)) 4) w15 fun t23 w16 =>
        Run Try.prog (sOp (.pick (.const t16) (.const (Value.bool true)) (.const t23)) 4) w16 fun t24 w17 =>
        GuardV t24 false (
          Run Try.prog (sOp (.load 41 (.const t2)) 41) w17 fun t26 w18 =>
          Run Try.prog (sOp (.indexAddr 41 (.const t26) (.const p1)) 0) w18 fun t28 w19 =>
          Run Try.prog (sOp (.load 50 (.const t28)) 50) w19 fun t29 w20 =>
          Run Try.prog (sCall (Value.func (.func 78) #[] #[]) [t29]) w20 fun t30 w21 =>
          Run Try.prog (sOp (.pick (.const t24) (.const (Value.bool true)) (.const t30)) 4) w21 fun t31 w22 =>
          J2 t31 w22) (
          Run Try.prog (sOp (.pick (.const t24) (.const (Value.bool true)) (.const undef)) 4) w17 fun t31_2 w23 =>
          J2 t31_2 w23)) (
        Run Try.prog (sOp (.pick (.const t16) (.const (Value.bool true)) (.const undef)) 4) w11 fun t24_2 w24 =>
        GuardV t24_2 false (
          Run Try.prog (sOp (.load 41 (.const t2)) 41) w24 fun t26_2 w25 =>
          Run Try.prog (sOp (.indexAddr 41 (.const t26_2) (.const p1)) 0) w25 fun t28_2 w26 =>
          Run Try.prog (sOp (.load 50 (.const t28_2)) 50) w26 fun t29_2 w27 =>
          Run Try.prog (sCall (Value.func (.func 78) #[] #[]) [t29_2]) w27 fun t30_2 w28 =>
          Run Try.prog (sOp (.pick (.const t24_2) (.const (Value.bool true)) (.const t30_2)) 4) w28 fun t31_3 w29 =>
          J2 t31_3 w29) (
          Run Try.prog (sOp (.pick (.const t24_2) (.const (Value.bool true)) (.const undef)) 4) w24 fun t31_4 w30 =>
          J2 t31_4 w30))) (
      Run Try.prog (sOp (.pick (.const t8) (.const (Value.bool true)) (.const undef)) 4) w5 fun t16_2 w31 =>
      GuardV t16_2 false (
        Run Try.prog (sOp (.load 41 (.const t2)) 41) w31 fun t18_2 w32 =>
        Run Try.prog (sOp (.indexAddr 41 (.const t18_2) (.const p1)) 0) w32 fun t20_2 w33 =>
        Run Try.prog (sOp (.load 50 (.const t20_2)) 50) w33 fun t21_2 w34 =>
        Run Try.prog (sCall (Value.func (.func 77) #[] #[]) [t21_2]) w34 fun t22_2 w35 =>
        Run Try.prog (sOp (.unOp .not 4 (.const t22_2)) 4) w35 fun t23_2 w36 =>
        Run Try.prog (sOp (.pick (.const t16_2) (.const (Value.bool true)) (.const t23_2)) 4) w36 fun t24_3 w37 =>
        GuardV t24_3 false (
          Run Try.prog (sOp (.load 41 (.const t2)) 41) w37 fun t26_3 w38 =>
          Run Try.prog (sOp (.indexAddr 41 (.const t26_3) (.const p1)) 0) w38 fun t28_3 w39 =>
          Run Try.prog (sOp (.load 50 (.const t28_3)) 50) w39 fun t29_3 w40 =>
          Run Try.prog (sCall (Value.func (.func 78) #[] #[]) [t29_3]) w40 fun t30_3 w41 =>
          Run Try.prog (sOp (.pick (.const t24_3) (.const (Value.bool true)) (.const t30_3)) 4) w41 fun t31_5 w42 =>
          J2 t31_5 w42) (
          Run Try.prog (sOp (.pick (.const t24_3) (.const (Value.bool true)) (.const undef)) 4) w37 fun t31_6 w43 =>
          J2 t31_6 w43)) (
        Run Try.prog (sOp (.pick (.const t16_2) (.const (Value.bool true)) (.const undef)) 4) w31 fun t24_4 w44 =>
        GuardV t24_4 false (
          Run Try.prog (sOp (.load 41 (.const t2)) 41) w44 fun t26_4 w45 =>
          Run Try.prog (sOp (.indexAddr 41 (.const t26_4) (.const p1)) 0) w45 fun t28_4 w46 =>
          Run Try.prog (sOp (.load 50 (.const t28_4)) 50) w46 fun t29_4 w47 =>
          Run Try.prog (sCall (Value.func (.func 78) #[] #[]) [t29_4]) w47 fun t30_4 w48 =>
          Run Try.prog (sOp (.pick (.const t24_4) (.const (Value.bool true)) (.const t30_4)) 4) w48 fun t31_7 w49 =>
          J2 t31_7 w49) (
          Run Try.prog (sOp (.pick (.const t24_4) (.const (Value.bool true)) (.const undef)) 4) w44 fun t31_8 w50 =>
          J2 t31_8 w50)))) ∧
  ∀ t31_9 _ _ _ _ _ _ _ _ _ _ _ _ _ _ _ _ _ _ _ _ _ _ _ _ _ : Value, ∀ w51 : World, J2 t31_9 w51 →
  CondV t31_9 (
    R (.returned (Value.bool false)) w51) (
    (∃ A52 : (Nat → Bool) → Value → Value → Value → Value → Value → Value → Value → Value → Value → Value → Value → World → Prop, A52 (fun _ => false) undef undef undef undef undef undef undef undef undef undef undef { w51 with drawn := w51.drawn + 1 } ∧ (
    (∀ D53 : Nat → Bool, D53 0 = false → ∀ t5 t41 t40 t39 t38 t37 t36 t35 t34 t33 t32 : Value, ∀ w54 : World, A52 D53 t5 t41 t40 t39 t38 t37 t36 t35 t34 t33 t32 w54 →
      Run Try.prog (sOp (.load 41 (.const t2)) 41) w54 fun t32_2 w55 =>
      A52 (setD D53 0) t5 t41 t40 t39 t38 t37 t36 t35 t34 t33 t32_2 w55) ∧
    (∀ D53 : Nat → Bool, D53 1 = false → ∀ t5 t41 t40 t39 t38 t37 t36 t35 t34 t33 t32 : Value, ∀ w56 : World, A52 D53 t5 t41 t40 t39 t38 t37 t36 t35 t34 t33 t32 w56 →
      Run Try.prog (sOp (.load 41 (.const t2)) 41) w56 fun t33_2 w57 =>
      A52 (setD D53 1) t5 t41 t40 t39 t38 t37 t36 t35 t34 t33_2 t32 w57) ∧
    (∀ D53 : Nat → Bool, D53 2 = false → ∀ t5 t41 t40 t39 t38 t37 t36 t35 t34 t33 t32 : Value, ∀ w58 : World, A52 D53 t5 t41 t40 t39 t38 t37 t36 t35 t34 t33 t32 w58 →
      A52 (setD D53 2) t5 t41 t40 t39 t38 t37 t36 t35 p1 t33 t32 w58) ∧
    (∀ D53 : Nat → Bool, D53 3 = false → D53 1 = true → D53 2 = true → ∀ t5 t41 t40 t39 t38 t37 t36 t35 t34 t33 t32 : Value, ∀ w59 : World, A52 D53 t5 t41 t40 t39 t38 t37 t36 t35 t34 t33 t32 w59 →
      Run Try.prog (sOp (.indexAddr 41 (.const t33) (.const t34)) 0) w59 fun t35_2 w60 =>
      A52 (setD D53 3) t5 t41 t40 t39 t38 t37 t36 t35_2 t34 t33 t32 w60) ∧
    (∀ D53 : Nat → Bool, D53 4 = false → D53 3 = true → ∀ t5 t41 t40 t39 t38 t37 t36 t35 t34 t33 t32 : Value, ∀ w61 : World, A52 D53 t5 t41 t40 t39 t38 t37 t36 t35 t34 t33 t32 w61 →
      Run Try.prog (sOp (.fieldAddr 50 (.const t35) 1) 0) w61 fun t36_2 w62 =>
      A52 (setD D53 4) t5 t41 t40 t39 t38 t37 t36_2 t35 t34 t33 t32 w62) ∧
    (∀ D53 : Nat → Bool, D53 5 = false → D53 4 = true → ∀ t5 t41 t40 t39 t38 t37 t36 t35 t34 t33 t32 : Value, ∀ w63 : World, A52 D53 t5 t41 t40 t39 t38 t37 t36 t35 t34 t33 t32 w63 →
      Run Try.prog (sOp (.load 27 (.const t36)) 27) w63 fun t37_2 w64 =>
      A52 (setD D53 5) t5 t41 t40 t39 t38 t37_2 t36 t35 t34 t33 t32 w64) ∧
    (∀ D53 : Nat → Bool, D53 6 = false → D53 5 = true → ∀ t5 t41 t40 t39 t38 t37 t36 t35 t34 t33 t32 : Value, ∀ w65 : World, A52 D53 t5 t41 t40 t39 t38 t37 t36 t35 t34 t33 t32 w65 →
      Run Try.prog (sOp (.indexAddr 27 (.const t37) (.const (Value.int .i64 0))) 0) w65 fun t38_2 w66 =>
      A52 (setD D53 6) t5 t41 t40 t39 t38_2 t37 t36 t35 t34 t33 t32 w66) ∧
    (∀ D53 : Nat → Bool, D53 7 = false → D53 6 = true → ∀ t5 t41 t40 t39 t38 t37 t36 t35 t34 t33 t32 : Value, ∀ w67 : World, A52 D53 t5 t41 t40 t39 t38 t37 t36 t35 t34 t33 t32 w67 →
      Run Try.prog (sOp (.load 31 (.const t38)) 31) w67 fun t39_2 w68 =>
      A52 (setD D53 7) t5 t41 t40 t39_2 t38 t37 t36 t35 t34 t33 t32 w68) ∧
    (∀ D53 : Nat → Bool, D53 8 = false → D53 7 = true → ∀ t5 t41 t40 t39 t38 t37 t36 t35 t34 t33 t32 : Value, ∀ w69 : World, A52 D53 t5 t41 t40 t39 t38 t37 t36 t35 t34 t33 t32 w69 →
      Run Try.prog (sCall (Value.func (.func 80) #[] #[]) [t39]) w69 fun t40_2 w70 =>
      A52 (setD D53 8) t5 t41 t40_2 t39 t38 t37 t36 t35 t34 t33 t32 w70) ∧
    (∀ D53 : Nat → Bool, D53 9 = false → D53 0 = true → D53 8 = true → D53 8 = true → ∀ t5 t41 t40 t39 t38 t37 t36 t35 t34 t33 t32 : Value, ∀ w71 : World, A52 D53 t5 t41 t40 t39 t38 t37 t36 t35 t34 t33 t32 w71 →
      Run Try.prog (sCall (Value.func (.func 79) #[] #[]) [t32, t40]) w71 fun t41_2 w72 =>
      A52 (setD D53 9) t5 t41_2 t40 t39 t38 t37 t36 t35 t34 t33 t32 w72) ∧
    (∀ D53 : Nat → Bool, D53 10 = false → D53 9 = true → D53 9 = true → D53 0 = true → D53 1 = true → D53 2 = true → D53 3 = true → D53 4 = true → D53 5 = true → D53 6 = true → D53 7 = true → D53 8 = true → D53 9 = true → ∀ t5 t41 t40 t39 t38 t37 t36 t35 t34 t33 t32 : Value, ∀ w73 : World, A52 D53 t5 t41 t40 t39 t38 t37 t36 t35 t34 t33 t32 w73 →
      A52 (setD D53 10) t41 t41 t40 t39 t38 t37 t36 t35 t34 t33 t32 w73) ∧
    True) ∧
  ∀ D53 : Nat → Bool, D53 10 = true → D53 9 = true → D53 8 = true → D53 7 = true → D53 6 = true → D53 5 = true → D53 4 = true → D53 3 = true → D53 2 = true → D53 1 = true → D53 0 = true → ∀ t5 t41 t40 t39 t38 t37 t36 t35 t34 t33 t32 : Value, ∀ w74 : World, A52 D53 t5 t41 t40 t39 t38 t37 t36 t35 t34 t33 t32 w74 →
  Run Try.prog (sBuiltin .len #[84] 3 [false] [t5]) w74 fun t43 w75 =>
  Run Try.prog (sBin .gtr 3 false true t43 (Value.int .i64 0)) w75 fun t44 w76 =>
  GuardV t44 true (
    Run Try.prog (sCall (Value.func (.func 81) #[] #[]) [t5, p1]) w76 fun t48 w77 =>
    Run Try.prog (sOp (.unOp .not 4 (.const t48)) 4) w77 fun t49 w78 =>
    Run Try.prog (sOp (.pick (.const t44) (.const t49) (.const (Value.bool false))) 4) w78 fun t50 w79 =>
    GuardV t50 true (
      Run Try.prog (sMakeFunc (.func 83) [] [t2]) w79 fun t53 w80 =>
      Run Try.prog (sCall (Value.func (.func 82) #[] #[]) [t5, t53]) w80 fun t54 w81 =>
      Run Try.prog (sOp (.unOp .not 4 (.const t54)) 4) w81 fun t55 w82 =>
      Run Try.prog (sOp (.pick (.const t50) (.const t55) (.const (Value.bool false))) 4) w82 fun t56 w83 =>
      R (.returned t56) w83) (
      Run Try.prog (sOp (.pick (.const t50) (.const undef) (.const (Value.bool false))) 4) w79 fun t56_2 w84 =>
      R (.returned t56_2) w84)) (
    Run Try.prog (sOp (.pick (.const t44) (.const undef) (.const (Value.bool false))) 4) w76 fun t50_2 w85 =>
    GuardV t50_2 true (
      Run Try.prog (sMakeFunc (.func 83) [] [t2]) w85 fun t53_2 w86 =>
      Run Try.prog (sCall (Value.func (.func 82) #[] #[]) [t5, t53_2]) w86 fun t54_2 w87 =>
      Run Try.prog (sOp (.unOp .not 4 (.const t54_2)) 4) w87 fun t55_2 w88 =>
      Run Try.prog (sOp (.pick (.const t50_2) (.const t55_2) (.const (Value.bool false))) 4) w88 fun t56_3 w89 =>
      R (.returned t56_3) w89) (
      Run Try.prog (sOp (.pick (.const t50_2) (.const undef) (.const (Value.bool false))) 4) w85 fun t56_4 w90 =>
      R (.returned t56_4) w90)))))
theorem calls_i_CanUnfold {p0 p1 : Value} {w : World} {R : Ending → World → Prop} (h : sh_i_CanUnfold p0 p1 w R) : Calls Try.prog 29 #[p0, p1] w R :=
  calls_sh (.seq none .leaf (.seq none (.seq (some [31]) .leaf .leaf) .leaf)) [p0, p1] mixed Try.func29 (by kernel_rfl) (by kernel_rfl) h

/- loop.example/prologserver/laws.eqClauseS : function 30 -/
def sh_l_eqClauseS (p0 p1 : Value) (w : World) (R : Ending → World → Prop) : Prop :=
  Run Try.prog (sBuiltin .len #[41] 3 [false] [p0]) w fun t7 w1 =>
  Run Try.prog (sBuiltin .len #[41] 3 [false] [p1]) w1 fun t9 w2 =>
  Run Try.prog (sBin .neq 3 false false t7 t9) w2 fun t10 w3 =>
  CondV t10 (
    R (.returned (Value.bool false)) w3) (
    (∃ (I4 : Value → World → Prop) (m5 : Value → World → Nat), I4 (Value.int .i64 0) w3 ∧
  ∀ t5 _ _ _ t26 t25 t24 t23 t22 t21 t20 t19 t18 t17 _ _ _ _ : Value, ∀ w6 : World, I4 t5 w6 →
  Run Try.prog (sBuiltin .len #[41] 3 [false] [p0]) w6 fun t13_2 w7 =>
  Run Try.prog (sBin .lss 3 false false t5 t13_2) w7 fun t14_2 w8 =>
  CondV t14_2 (
    (∃ A9 : (Nat → Bool) → Value → Value → Value → Value → Value → Value → Value → Value → Value → Value → World → Prop, A9 (fun _ => false) t26 t25 t24 t23 t22 t21 t20 t19 t18 t17 { w8 with drawn := w8.drawn + 1 } ∧ (
    (∀ D10 : Nat → Bool, D10 0 = false → ∀ t26_2 t25_2 t24_2 t23_2 t22_2 t21_2 t20_2 t19_2 t18_2 t17_2 : Value, ∀ w11 : World, A9 D10 t26_2 t25_2 t24_2 t23_2 t22_2 t21_2 t20_2 t19_2 t18_2 t17_2 w11 →
      A9 (setD D10 0) t26_2 t25_2 t24_2 t23_2 t22_2 t21_2 t20_2 t19_2 t18_2 p0 w11) ∧
    (∀ D10 : Nat → Bool, D10 1 = false → ∀ t26_2 t25_2 t24_2 t23_2 t22_2 t21_2 t20_2 t19_2 t18_2 t17_2 : Value, ∀ w12 : World, A9 D10 t26_2 t25_2 t24_2 t23_2 t22_2 t21_2 t20_2 t19_2 t18_2 t17_2 w12 →
      A9 (setD D10 1) t26_2 t25_2 t24_2 t23_2 t22_2 t21_2 t20_2 t19_2 t5 t17_2 w12) ∧
    (∀ D10 : Nat → Bool, D10 2 = false → D10 0 = true → D10 1 = true → ∀ t26_2 t25_2 t24_2 t23_2 t22_2 t21_2 t20_2 t19_2 t18_2 t17_2 : Value, ∀ w13 : World, A9 D10 t26_2 t25_2 t24_2 t23_2 t22_2 t21_2 t20_2 t19_2 t18_2 t17_2 w13 →
      Run Try.prog (sOp (.indexAddr 41 (.const t17_2) (.const t18_2)) 0) w13 fun t19_3 w14 =>
      A9 (setD D10 2) t26_2 t25_2 t24_2 t23_2 t22_2 t21_2 t20_2 t19_3 t18_2 t17_2 w14) ∧
    (∀ D10 : Nat → Bool, D10 3 = false → D10 2 = true → ∀ t26_2 t25_2 t24_2 t23_2 t22_2 t21_2 t20_2 t19_2 t18_2 t17_2 : Value, ∀ w15 : World, A9 D10 t26_2 t25_2 t24_2 t23_2 t22_2 t21_2 t20_2 t19_2 t18_2 t17_2 w15 →
      Run Try.prog (sOp (.load 50 (.const t19_2)) 50) w15 fun t20_3 w16 =>
      A9 (setD D10 3) t26_2 t25_2 t24_2 t23_2 t22_2 t21_2 t20_3 t19_2 t18_2 t17_2 w16) ∧
    (∀ D10 : Nat → Bool, D10 4 = false → ∀ t26_2 t25_2 t24_2 t23_2 t22_2 t21_2 t20_2 t19_2 t18_2 t17_2 : Value, ∀ w17 : World, A9 D10 t26_2 t25_2 t24_2 t23_2 t22_2 t21_2 t20_2 t19_2 t18_2 t17_2 w17 →
      A9 (setD D10 4) t26_2 t25_2 t24_2 t23_2 t22_2 p1 t20_2 t19_2 t18_2 t17_2 w17) ∧
    (∀ D10 : Nat → Bool, D10 5 = false → ∀ t26_2 t25_2 t24_2 t23_2 t22_2 t21_2 t20_2 t19_2 t18_2 t17_2 : Value, ∀ w18 : World, A9 D10 t26_2 t25_2 t24_2 t23_2 t22_2 t21_2 t20_2 t19_2 t18_2 t17_2 w18 →
      A9 (setD D10 5) t26_2 t25_2 t24_2 t23_2 t5 t21_2 t20_2 t19_2 t18_2 t17_2 w18) ∧
    (∀ D10 : Nat → Bool, D10 6 = false → D10 4 = true → D10 5 = true → ∀ t26_2 t25_2 t24_2 t23_2 t22_2 t21_2 t20_2 t19_2 t18_2 t17_2 : Value, ∀ w19 : World, A9 D10 t26_2 t25_2 t24_2 t23_2 t22_2 t21_2 t20_2 t19_2 t18_2 t17_2 w19 →
      Run Try.prog (sOp (.indexAddr 41 (.const t21_2) (.const t22_2)) 0) w19 fun t23_3 w20 =>
      A9 (setD D10 6) t26_2 t25_2 t24_2 t23_3 t22_2 t21_2 t20_2 t19_2 t18_2 t17_2 w20) ∧
    (∀ D10 : Nat → Bool, D10 7 = false → D10 6 = true → ∀ t26_2 t25_2 t24_2 t23_2 t22_2 t21_2 t20_2 t19_2 t18_2 t17_2 : Value, ∀ w21 : World, A9 D10 t26_2 t25_2 t24_2 t23_2 t22_2 t21_2 t20_2 t19_2 t18_2 t17_2 w21 →
      Run Try.prog (sOp (.load 50 (.const t23_2)) 50) w21 fun t24_3 w22 =>
      A9 (setD D10 7) t26_2 t25_2 t24_3 t23_2 t22_2 t21_2 t20_2 t19_2 t18_2 t17_2 w22) ∧
    (∀ D10 : Nat → Bool, D10 8 = false → D10 3 = true → D10 7 = true → ∀ t26_2 t25_2 t24_2 t23_2 t22_2 t21_2 t20_2 t19_2 t18_2 t17_2 : Value, ∀ w23 : World, A9 D10 t26_2 t25_2 t24_2 t23_2 t22_2 t21_2 t20_2 t19_2 t18_2 t17_2 w23 →
      Run Try.prog (sCall (Value.func (.func 35) #[] #[]) [t20_2, t24_2]) w23 fun t25_3 w24 =>
      A9 (setD D10 8) t26_2 t25_3 t24_2 t23_2 t22_2 t21_2 t20_2 t19_2 t18_2 t17_2 w24) ∧
    (∀ D10 : Nat → Bool, D10 9 = false → D10 8 = true → ∀ t26_2 t25_2 t24_2 t23_2 t22_2 t21_2 t20_2 t19_2 t18_2 t17_2 : Value, ∀ w25 : World, A9 D10 t26_2 t25_2 t24_2 t23_2 t22_2 t21_2 t20_2 t19_2 t18_2 t17_2 w25 →
      Run Try.prog (sOp (.unOp .not 4 (.const t25_2)) 4) w25 fun t26_3 w26 =>
      A9 (setD D10 9) t26_3 t25_2 t24_2 t23_2 t22_2 t21_2 t20_2 t19_2 t18_2 t17_2 w26) ∧
    True) ∧
  ∀ D10 : Nat → Bool, D10 9 = true → D10 8 = true → D10 7 = true → D10 6 = true → D10 5 = true → D10 4 = true → D10 3 = true → D10 2 = true → D10 1 = true → D10 0 = true → ∀ t26_2 t25_2 t24_2 t23_2 t22_2 t21_2 t20_2 t19_2 t18_2 t17_2 : Value, ∀ w27 : World, A9 D10 t26_2 t25_2 t24_2 t23_2 t22_2 t21_2 t20_2 t19_2 t18_2 t17_2 w27 →
  CondV t26_2 (
    R (.returned (Value.bool false)) w27) (
    Run Try.prog (sBin .add 3 false true t5 (Value.int .i64 1)) w27 fun t16_2 w28 =>
  I4 t16_2 w28 ∧ m5 t16_2 w28 < m5 t5 w6))) (
    R (.returned (Value.bool true)) w8)))
theorem calls_l_eqClauseS {p0 p1 : Value} {w : World} {R : Ending → World → Prop} (h : sh_l_eqClauseS p0 p1 w R) : Calls Try.prog 30 #[p0, p1] w R :=
  calls_sh (.seq none .leaf (.seq none .leaf (.seq none (.seq none .leaf (.one (.loop [5] .leaf))) .leaf))) [p0, p1] mixed Try.func30 (by kernel_rfl) (by kernel_rfl) h

/- loop.example/prologserver/laws.szClause : function 31 -/
def sh_l_szClause (p0 p1 : Value) (w : World) (R : Ending → World → Prop) : Prop :=
  Run Try.prog (sOp (.box 46 (.const p0)) 0) w fun t2 w1 =>
  Run Try.prog (sOp (.fieldAddr 46 (.const t2) 0) 0) w1 fun t5 w2 =>
  Run Try.prog (sOp (.load 24 (.const t5)) 24) w2 fun t6 w3 =>
  Run Try.prog (sCall (Value.func (.func 16) #[] #[]) [t6, p1]) w3 fun t8 w4 =>
  Run Try.prog (sBin .lss 3 false true t8 (Value.int .i64 0)) w4 fun t10 w5 =>
  CondV t10 (
    R (.returned (Value.int .i64 (-1))) w5) (
    Run Try.prog (sOp (.fieldAddr 46 (.const t2) 1) 0) w5 fun t11 w6 =>
  Run Try.prog (sOp (.load 22 (.const t11)) 22) w6 fun t12 w7 =>
  Run Try.prog (sCall (Value.func (.func 15) #[] #[]) [t12, t8]) w7 fun t14 w8 =>
  Run Try.prog (sBin .lss 3 false true t14 (Value.int .i64 0)) w8 fun t16 w9 =>
  CondV t16 (
    R (.returned (Value.int .i64 (-1))) w9) (
    R (.returned t14) w9))
theorem calls_l_szClause {p0 p1 : Value} {w : World} {R : Ending → World → Prop} (h : sh_l_szClause p0 p1 w R) : Calls Try.prog 31 #[p0, p1] w R :=
  calls_sh .leaf [p0, p1] mixed Try.func31 (by kernel_rfl) (by kernel_rfl) h

/- loop.example/prologserver/spec.SubsumedClause : function 32 -/
def sh_s_SubsumedClause (p0 p1 : Value) (w : World) (R : Ending → World → Prop) : Prop :=
  Run Try.prog (sOp (.box 50 (.const p0)) 0) w fun t2 w1 =>
  Run Try.prog (sOp (.box 50 (.const p1)) 0) w1 fun t3 w2 =>
  (∃ J3 : Value → World → Prop, (
    Run Try.prog (sOp (.load 50 (.const t2)) 50) w2 fun t7 w4 =>
    Run Try.prog (sCall (Value.func (.func 84) #[] #[]) [t7]) w4 fun t8 w5 =>
    Run Try.prog (sOp (.unOp .not 4 (.const t8)) 4) w5 fun t9 w6 =>
    GuardV t9 false (
      Run Try.prog (sOp (.load 50 (.const t3)) 50) w6 fun t11 w7 =>
      Run Try.prog (sCall (Value.func (.func 84) #[] #[]) [t11]) w7 fun t12 w8 =>
      Run Try.prog (sOp (.unOp .not 4 (.const t12)) 4) w8 fun t13 w9 =>
      Run Try.prog (sOp (.pick (.const t9) (.const (Value.bool true)) (.const t13)) 4) w9 fun t14 w10 =>
      GuardV t14 false (
        Run Try.prog (sOp (.fieldAddr 50 (.const t3) 1) 0) w10 fun t16 w11 =>
        Run Try.prog (sOp (.load 27 (.const t16)) 27) w11 fun t17 w12 =>
        Run Try.prog (sBuiltin .len #[27] 3 [false] [t17]) w12 fun t18 w13 =>
        Run Try.prog (sOp (.fieldAddr 50 (.const t2) 1) 0) w13 fun t19 w14 =>
        Run Try.prog (sOp (.load 27 (.const t19)) 27) w14 fun t20 w15 =>
        Run Try.prog (sBuiltin .len #[27] 3 [false] [t20]) w15 fun t21 w16 =>
        Run Try.prog (sBin .gtr 3 false false t18 t21) w16 fun t22 w17 =>
        Run Try.prog (sOp (.pick (.const t14) (.const (Value.bool true)) (.const t22)) 4) w17 fun t23 w18 =>
        J3 t23 w18) (
        Run Try.prog (sOp (.pick (.const t14) (.const (Value.bool true)) (.const undef)) 4) w10 fun t23_2 w19 =>
        J3 t23_2 w19)) (
      Run Try.prog (sOp (.pick (.const t9) (.const (Value.bool true)) (.const undef)) 4) w6 fun t14_2 w20 =>
      GuardV t14_2 false (
        Run Try.prog (sOp (.fieldAddr 50 (.const t3) 1) 0) w20 fun t16_2 w21 =>
        Run Try.prog (sOp (.load 27 (.const t16_2)) 27) w21 fun t17_2 w22 =>
        Run Try.prog (sBuiltin .len #[27] 3 [false] [t17_2]) w22 fun t18_2 w23 =>
        Run Try.prog (sOp (.fieldAddr 50 (.const t2) 1) 0) w23 fun t19_2 w24 =>
        Run Try.prog (sOp (.load 27 (.const t19_2)) 27) w24 fun t20_2 w25 =>
        Run Try.prog (sBuiltin .len #[27] 3 [false] [t20_2]) w25 fun t21_2 w26 =>
        Run Try.prog (sBin .gtr 3 false false t18_2 t21_2) w26 fun t22_2 w27 =>
        Run Try.prog (sOp (.pick (.const t14_2) (.const (Value.bool true)) (.const t22_2)) 4) w27 fun t23_3 w28 =>
        J3 t23_3 w28) (
        Run Try.prog (sOp (.pick (.const t14_2) (.const (Value.bool true)) (.const undef)) 4) w20 fun t23_4 w29 =>
        J3 t23_4 w29))) ∧
  ∀ t23_5 _ _ _ _ _ _ _ _ _ _ _ _ _ _ _ _ : Value, ∀ w30 : World, J3 t23_5 w30 →
  CondV t23_5 (
    R (.returned (Value.bool false)) w30) (
    Run Try.prog (sOp (.makeSlice 27 (.const (Value.int .i64 26)) (.const (Value.int .i64 26))) 27) w30 fun t24 w31 =>
  Run Try.prog (sOp (.fieldAddr 50 (.const t3) 0) 0) w31 fun t25 w32 =>
  Run Try.prog (sOp (.load 31 (.const t25)) 31) w32 fun t26 w33 =>
  Run Try.prog (sOp (.fieldAddr 50 (.const t2) 0) 0) w33 fun t27 w34 =>
  Run Try.prog (sOp (.load 31 (.const t27)) 31) w34 fun t28 w35 =>
  Run Try.prog (sCall (Value.func (.func 85) #[] #[]) [t26, t28, t24]) w35 fun t30 w36 =>
  Run Try.prog (sOp (.unOp .not 4 (.const t30)) 4) w36 fun t31 w37 =>
  CondV t31 (
    R (.returned (Value.bool false)) w37) (
    (∃ (I38 : Value → World → Prop) (m39 : Value → World → Nat), I38 (Value.int .i64 0) w37 ∧
  ∀ t6 _ _ _ t51 t50 t49 t48 t47 t46 t45 t44 t43 t42 t41 t40 t39 _ _ _ _ _ : Value, ∀ w40 : World, I38 t6 w40 →
  Run Try.prog (sOp (.fieldAddr 50 (.const t3) 1) 0) w40 fun t33_2 w41 =>
  Run Try.prog (sOp (.load 27 (.const t33_2)) 27) w41 fun t34_2 w42 =>
  Run Try.prog (sBuiltin .len #[27] 3 [false] [t34_2]) w42 fun t35_2 w43 =>
  Run Try.prog (sBin .lss 3 false false t6 t35_2) w43 fun t36_2 w44 =>
  CondV t36_2 (
    (∃ A45 : (Nat → Bool) → Value → Value → Value → Value → Value → Value → Value → Value → Value → Value → Value → Value → Value → World → Prop, A45 (fun _ => false) t51 t50 t49 t48 t47 t46 t45 t44 t43 t42 t41 t40 t39 { w44 with drawn := w44.drawn + 1 } ∧ (
    (∀ D46 : Nat → Bool, D46 0 = false → ∀ t51_2 t50_2 t49_2 t48_2 t47_2 t46_2 t45_2 t44_2 t43_2 t42_2 t41_2 t40_2 t39_2 : Value, ∀ w47 : World, A45 D46 t51_2 t50_2 t49_2 t48_2 t47_2 t46_2 t45_2 t44_2 t43_2 t42_2 t41_2 t40_2 t39_2 w47 →
      Run Try.prog (sOp (.fieldAddr 50 (.const t3) 1) 0) w47 fun t39_3 w48 =>
      A45 (setD D46 0) t51_2 t50_2 t49_2 t48_2 t47_2 t46_2 t45_2 t44_2 t43_2 t42_2 t41_2 t40_2 t39_3 w48) ∧
    (∀ D46 : Nat → Bool, D46 1 = false → D46 0 = true → ∀ t51_2 t50_2 t49_2 t48_2 t47_2 t46_2 t45_2 t44_2 t43_2 t42_2 t41_2 t40_2 t39_2 : Value, ∀ w49 : World, A45 D46 t51_2 t50_2 t49_2 t48_2 t47_2 t46_2 t45_2 t44_2 t43_2 t42_2 t41_2 t40_2 t39_2 w49 →
      Run Try.prog (sOp (.load 27 (.const t39_2)) 27) w49 fun t40_3 w50 =>
      A45 (setD D46 1) t51_2 t50_2 t49_2 t48_2 t47_2 t46_2 t45_2 t44_2 t43_2 t42_2 t41_2 t40_3 t39_2 w50) ∧
    (∀ D46 : Nat → Bool, D46 2 = false → ∀ t51_2 t50_2 t49_2 t48_2 t47_2 t46_2 t45_2 t44_2 t43_2 t42_2 t41_2 t40_2 t39_2 : Value, ∀ w51 : World, A45 D46 t51_2 t50_2 t49_2 t48_2 t47_2 t46_2 t45_2 t44_2 t43_2 t42_2 t41_2 t40_2 t39_2 w51 →
      A45 (setD D46 2) t51_2 t50_2 t49_2 t48_2 t47_2 t46_2 t45_2 t44_2 t43_2 t42_2 t6 t40_2 t39_2 w51) ∧
    (∀ D46 : Nat → Bool, D46 3 = false → D46 1 = true → D46 2 = true → ∀ t51_2 t50_2 t49_2 t48_2 t47_2 t46_2 t45_2 t44_2 t43_2 t42_2 t41_2 t40_2 t39_2 : Value, ∀ w52 : World, A45 D46 t51_2 t50_2 t49_2 t48_2 t47_2 t46_2 t45_2 t44_2 t43_2 t42_2 t41_2 t40_2 t39_2 w52 →
      Run Try.prog (sOp (.indexAddr 27 (.const t40_2) (.const t41_2)) 0) w52 fun t42_3 w53 =>
      A45 (setD D46 3) t51_2 t50_2 t49_2 t48_2 t47_2 t46_2 t45_2 t44_2 t43_2 t42_3 t41_2 t40_2 t39_2 w53) ∧
    (∀ D46 : Nat → Bool, D46 4 = false → D46 3 = true → ∀ t51_2 t50_2 t49_2 t48_2 t47_2 t46_2 t45_2 t44_2 t43_2 t42_2 t41_2 t40_2 t39_2 : Value, ∀ w54 : World, A45 D46 t51_2 t50_2 t49_2 t48_2 t47_2 t46_2 t45_2 t44_2 t43_2 t42_2 t41_2 t40_2 t39_2 w54 →
      Run Try.prog (sOp (.load 31 (.const t42_2)) 31) w54 fun t43_3 w55 =>
      A45 (setD D46 4) t51_2 t50_2 t49_2 t48_2 t47_2 t46_2 t45_2 t44_2 t43_3 t42_2 t41_2 t40_2 t39_2 w55) ∧
    (∀ D46 : Nat → Bool, D46 5 = false → ∀ t51_2 t50_2 t49_2 t48_2 t47_2 t46_2 t45_2 t44_2 t43_2 t42_2 t41_2 t40_2 t39_2 : Value, ∀ w56 : World, A45 D46 t51_2 t50_2 t49_2 t48_2 t47_2 t46_2 t45_2 t44_2 t43_2 t42_2 t41_2 t40_2 t39_2 w56 →
      Run Try.prog (sOp (.fieldAddr 50 (.const t2) 1) 0) w56 fun t44_3 w57 =>
      A45 (setD D46 5) t51_2 t50_2 t49_2 t48_2 t47_2 t46_2 t45_2 t44_3 t43_2 t42_2 t41_2 t40_2 t39_2 w57) ∧
    (∀ D46 : Nat → Bool, D46 6 = false → D46 5 = true → ∀ t51_2 t50_2 t49_2 t48_2 t47_2 t46_2 t45_2 t44_2 t43_2 t42_2 t41_2 t40_2 t39_2 : Value, ∀ w58 : World, A45 D46 t51_2 t50_2 t49_2 t48_2 t47_2 t46_2 t45_2 t44_2 t43_2 t42_2 t41_2 t40_2 t39_2 w58 →
      Run Try.prog (sOp (.load 27 (.const t44_2)) 27) w58 fun t45_3 w59 =>
      A45 (setD D46 6) t51_2 t50_2 t49_2 t48_2 t47_2 t46_2 t45_3 t44_2 t43_2 t42_2 t41_2 t40_2 t39_2 w59) ∧
    (∀ D46 : Nat → Bool, D46 7 = false → ∀ t51_2 t50_2 t49_2 t48_2 t47_2 t46_2 t45_2 t44_2 t43_2 t42_2 t41_2 t40_2 t39_2 : Value, ∀ w60 : World, A45 D46 t51_2 t50_2 t49_2 t48_2 t47_2 t46_2 t45_2 t44_2 t43_2 t42_2 t41_2 t40_2 t39_2 w60 →
      A45 (setD D46 7) t51_2 t50_2 t49_2 t48_2 t47_2 t6 t45_2 t44_2 t43_2 t42_2 t41_2 t40_2 t39_2 w60) ∧
    (∀ D46 : Nat → Bool, D46 8 = false → D46 6 = true → D46 7 = true → ∀ t51_2 t50_2 t49_2 t48_2 t47_2 t46_2 t45_2 t44_2 t43_2 t42_2 t41_2 t40_2 t39_2 : Value, ∀ w61 : World, A45 D46 t51_2 t50_2 t49_2 t48_2 t47_2 t46_2 t45_2 t44_2 t43_2 t42_2 t41_2 t40_2 t39_2 w61 →
      Run Try.prog (sOp (.indexAddr 27 (.const t45_2) (.const t46_2)) 0) w61 fun t47_3 w62 =>
      A45 (setD D46 8) t51_2 t50_2 t49_2 t48_2 t47_3 t46_2 t45_2 t44_2 t43_2 t42_2 t41_2 t40_2 t39_2 w62) ∧
    (∀ D46 : Nat → Bool, D46 9 = false → D46 8 = true → ∀ t51_2 t50_2 t49_2 t48_2 t47_2 t46_2 t45_2 t44_2 t43_2 t42_2 t41_2 t40_2 t39_2 : Value, ∀ w63 : World, A45 D46 t51_2 t50_2 t49_2 t48_2 t47_2 t46_2 t45_2 t44_2 t43_2 t42_2 t41_2 t40_2 t39_2 w63 →
      Run Try.prog (sOp (.load 31 (.const t47_2)) 31) w63 fun t48_3 w64 =>
      A45 (setD D46 9) t51_2 t50_2 t49_2 t48_3 t47_2 t46_2 t45_2 t44_2 t43_2 t42_2 t41_2 t40_2 t39_2 w64) ∧
    (∀ D46 : Nat → Bool, D46 10 = false → ∀ t51_2 t50_2 t49_2 t48_2 t47_2 t46_2 t45_2 t44_2 t43_2 t42_2 t41_2 t40_2 t39_2 : Value, ∀ w65 : World, A45 D46 t51_2 t50_2 t49_2 t48_2 t47_2 t46_2 t45_2 t44_2 t43_2 t42_2 t41_2 t40_2 t39_2 w65 →
      A45 (setD D46 10) t51_2 t50_2 t24 t48_2 t47_2 t46_2 t45_2 t44_2 t43_2 t42_2 t41_2 t40_2 t39_2 w65) ∧
    (∀ D46 : Nat → Bool, D46 11 = false → D46 4 = true → D46 9 = true → D46 10 = true → ∀ t51_2 t50_2 t49_2 t48_2 t47_2 t46_2 t45_2 t44_2 t43_2 t42_2 t41_2 t40_2 t39_2 : Value, ∀ w66 : World, A45 D46 t51_2 t50_2 t49_2 t48_2 t47_2 t46_2 t45_2 t44_2 t43_2 t42_2 t41_2 t40_2 t39_2 w66 →
      Run Try.prog (sCall (Value.func (.func 85) #[] #[]) [t43_2, t48_2, t49_2]) w66 fun t50_3 w67 =>
      A45 (setD D46 11) t51_2 t50_3 t49_2 t48_2 t47_2 t46_2 t45_2 t44_2 t43_2 t42_2 t41_2 t40_2 t39_2 w67) ∧
    (∀ D46 : Nat → Bool, D46 12 = false → D46 11 = true → ∀ t51_2 t50_2 t49_2 t48_2 t47_2 t46_2 t45_2 t44_2 t43_2 t42_2 t41_2 t40_2 t39_2 : Value, ∀ w68 : World, A45 D46 t51_2 t50_2 t49_2 t48_2 t47_2 t46_2 t45_2 t44_2 t43_2 t42_2 t41_2 t40_2 t39_2 w68 →
      Run Try.prog (sOp (.unOp .not 4 (.const t50_2)) 4) w68 fun t51_3 w69 =>
      A45 (setD D46 12) t51_3 t50_2 t49_2 t48_2 t47_2 t46_2 t45_2 t44_2 t43_2 t42_2 t41_2 t40_2 t39_2 w69) ∧
    True) ∧
  ∀ D46 : Nat → Bool, D46 12 = true → D46 11 = true → D46 10 = true → D46 9 = true → D46 8 = true → D46 7 = true → D46 6 = true → D46 5 = true → D46 4 = true → D46 3 = true → D46 2 = true → D46 1 = true → D46 0 = true → ∀ t51_2 t50_2 t49_2 t48_2 t47_2 t46_2 t45_2 t44_2 t43_2 t42_2 t41_2 t40_2 t39_2 : Value, ∀ w70 : World, A45 D46 t51_2 t50_2 t49_2 t48_2 t47_2 t46_2 t45_2 t44_2 t43_2 t42_2 t41_2 t40_2 t39_2 w70 →
  CondV t51_2 (
    R (.returned (Value.bool false)) w70) (
    Run Try.prog (sBin .add 3 false true t6 (Value.int .i64 1)) w70 fun t38_2 w71 =>
  I38 t38_2 w71 ∧ m39 t38_2 w71 < m39 t6 w40))) (
    R (.returned (Value.bool true)) w44)))))
theorem calls_s_SubsumedClause {p0 p1 : Value} {w : World} {R : Ending → World → Prop} (h : sh_s_SubsumedClause p0 p1 w R) : Calls Try.prog 32 #[p0, p1] w R :=
  calls_sh (.seq none .leaf (.seq none (.seq (some [23]) .leaf .leaf) (.seq none .leaf (.seq none .leaf (.seq none (.seq none .leaf (.one (.loop [6] .leaf))) .leaf))))) [p0, p1] mixed Try.func32 (by kernel_rfl) (by kernel_rfl) h

/- loop.example/prologserver/laws.toClause : function 33 -/
def sh_l_toClause (p0 : Value) (w : World) (R : Ending → World → Prop) : Prop :=
  Run Try.prog (sOp (.box 46 (.const p0)) 0) w fun t1 w1 =>
  Run Try.prog (sOp (.alloc 50) 0) w1 fun t2 w2 =>
  Run Try.prog (sOp (.alloc 50) 0) w2 fun t3 w3 =>
  Run Try.prog (sOp (.fieldAddr 46 (.const t1) 0) 0) w3 fun t4 w4 =>
  Run Try.prog (sOp (.load 24 (.const t4)) 24) w4 fun t5 w5 =>
  Run Try.prog (sCall (Value.func (.func 19) #[] #[]) [t5]) w5 fun t6 w6 =>
  Run Try.prog (sOp (.fieldAddr 50 (.const t3) 0) 0) w6 fun t7 w7 =>
  Run Try.prog (sOp (.store 31 (.const t7) (.const t6)) 0) w7 fun _u w8 =>
  Run Try.prog (sOp (.fieldAddr 46 (.const t1) 1) 0) w8 fun t8 w9 =>
  Run Try.prog (sOp (.load 22 (.const t8)) 22) w9 fun t9 w10 =>
  Run Try.prog (sCall (Value.func (.func 18) #[] #[]) [t9]) w10 fun t10 w11 =>
  Run Try.prog (sOp (.fieldAddr 50 (.const t3) 1) 0) w11 fun t11 w12 =>
  Run Try.prog (sOp (.store 27 (.const t11) (.const t10)) 0) w12 fun _u w13 =>
  Run Try.prog (sOp (.load 50 (.const t3)) 50) w13 fun t12 w14 =>
  Run Try.prog (sOp (.store 50 (.const t2) (.const t12)) 0) w14 fun _ w15 =>
  (LoadV Try.prog 50 t2 w15 fun r0 => R (.returned r0) w15)
theorem calls_l_toClause {p0 : Value} {w : World} {R : Ending → World → Prop} (h : sh_l_toClause p0 w R) : Calls Try.prog 33 #[p0] w R :=
  calls_sh .leaf [p0] mixed Try.func33 (by kernel_rfl) (by kernel_rfl) h

/- loop.example/prologserver/impl.SubsumedClause : function 34 -/
def sh_i_SubsumedClause (p0 p1 : Value) (w : World) (R : Ending → World → Prop) : Prop :=
  Run Try.prog (sOp (.box 50 (.const p0)) 0) w fun t2 w1 =>
  Run Try.prog (sOp (.box 50 (.const p1)) 0) w1 fun t3 w2 =>
  (∃ J3 : Value → World → Prop, (
    Run Try.prog (sOp (.load 50 (.const t2)) 50) w2 fun t8 w4 =>
    Run Try.prog (sCall (Value.func (.func 86) #[] #[]) [t8]) w4 fun t9 w5 =>
    Run Try.prog (sOp (.unOp .not 4 (.const t9)) 4) w5 fun t10 w6 =>
    GuardV t10 false (
      Run Try.prog (sOp (.load 50 (.const t3)) 50) w6 fun t12 w7 =>
      Run Try.prog (sCall (Value.func (.func 86) #[] #[]) [t12]) w7 fun t13 w8 =>
      Run Try.prog (sOp (.unOp .not 4 (.const t13)) 4) w8 fun t14 w9 =>
      Run Try.prog (sOp (.pick (.const t10) (.const (Value.bool true)) (.const t14)) 4) w9 fun t15 w10 =>
      GuardV t15 false (
        Run Try.prog (sOp (.fieldAddr 50 (.const t3) 1) 0) w10 fun t17 w11 =>
        Run Try.prog (sOp (.load 27 (.const t17)) 27) w11 fun t18 w12 =>
        Run Try.prog (sBuiltin .len #[27] 3 [false] [t18]) w12 fun t19 w13 =>
        Run Try.prog (sOp (.fieldAddr 50 (.const t2) 1) 0) w13 fun t20 w14 =>
        Run Try.prog (sOp (.load 27 (.const t20)) 27) w14 fun t21 w15 =>
        Run Try.prog (sBuiltin .len #[27] 3 [false] [t21]) w15 fun t22 w16 =>
        Run Try.prog (sBin .gtr 3 false false t19 t22) w16 fun t23 w17 =>
        Run Try.prog (sOp (.pick (.const t15) (.const (Value.bool true)) (.const t23)) 4) w17 fun t24 w18 =>
        J3 t24 w18) (
        Run Try.prog (sOp (.pick (.const t15) (.const (Value.bool true)) (.const undef)) 4) w10 fun t24_2 w19 =>
        J3 t24_2 w19)) (
      Run Try.prog (sOp (.pick (.const t10) (.const (Value.bool true)) (.const undef)) 4) w6 fun t15_2 w20 =>
      GuardV t15_2 false (
        Run Try.prog (sOp (.fieldAddr 50 (.const t3) 1) 0) w20 fun t17_2 w21 =>
        Run Try.prog (sOp (.load 27 (.const t17_2)) 27) w21 fun t18_2 w22 =>
        Run Try.prog (sBuiltin .len #[27] 3 [false] [t18_2]) w22 fun t19_2 w23 =>
        Run Try.prog (sOp (.fieldAddr 50 (.const t2) 1) 0) w23 fun t20_2 w24 =>
        Run Try.prog (sOp (.load 27 (.const t20_2)) 27) w24 fun t21_2 w25 =>
        Run Try.prog (sBuiltin .len #[27] 3 [false] [t21_2]) w25 fun t22_2 w26 =>
        Run Try.prog (sBin .gtr 3 false false t19_2 t22_2) w26 fun t23_2 w27 =>
        Run Try.prog (sOp (.pick (.const t15_2) (.const (Value.bool true)) (.const t23_2)) 4) w27 fun t24_3 w28 =>
        J3 t24_3 w28) (
        Run Try.prog (sOp (.pick (.const t15_2) (.const (Value.bool true)) (.const undef)) 4) w20 fun t24_4 w29 =>
        J3 t24_4 w29))) ∧
  ∀ t24_5 _ _ _ _ _ _ _ _ _ _ _ _ _ _ _ _ : Value, ∀ w30 : World, J3 t24_5 w30 →
  CondV t24_5 (
    R (.returned (Value.bool false)) w30) (
    Run Try.prog (sOp (.makeMap 93 none) 93) w30 fun t25 w31 =>
  Run Try.prog (sOp (.fieldAddr 50 (.const t2) 0) 0) w31 fun t26 w32 =>
  Run Try.prog (sOp (.load 31 (.const t26)) 31) w32 fun t27 w33 =>
  Run Try.prog (sOp (.fieldAddr 50 (.const t3) 0) 0) w33 fun t28 w34 =>
  Run Try.prog (sOp (.load 31 (.const t28)) 31) w34 fun t29 w35 =>
  Run Try.prog (sCall (Value.func (.func 87) #[] #[]) [t27, t29, t25]) w35 fun t31 w36 =>
  Run Try.prog (sOp (.unOp .not 4 (.const t31)) 4) w36 fun t32 w37 =>
  CondV t32 (
    R (.returned (Value.bool false)) w37) (
    Run Try.prog (sOp (.fieldAddr 50 (.const t3) 1) 0) w37 fun t33 w38 =>
  Run Try.prog (sOp (.load 27 (.const t33)) 27) w38 fun t34 w39 =>
  Run Try.prog (sBuiltin .len #[27] 3 [false] [t34]) w39 fun t35 w40 =>
  (∃ (I41 : Value → World → Prop) (m42 : Value → World → Nat), I41 (Value.int .i64 0) w40 ∧
  ∀ t36 _ _ t49 t48 t47 t46 t45 t44 t43 t42 t41 _ _ _ _ _ _ : Value, ∀ w43 : World, I41 t36 w43 →
  Run Try.prog (sBin .lss 3 false false t36 t35) w43 fun t37_2 w44 =>
  CondV t37_2 (
    Run Try.prog (sOp (.indexAddr 27 (.const t34) (.const t36)) 0) w44 fun t39_2 w45 =>
  Run Try.prog (sOp (.load 31 (.const t39_2)) 31) w45 fun t40_2 w46 =>
  Run Try.prog (sOp (.alloc 31) 0) w46 fun t7_2 w47 =>
  Run Try.prog (sOp (.store 31 (.const t7_2) (.const t40_2)) 0) w47 fun _ w48 =>
  (∃ A49 : (Nat → Bool) → Value → Value → Value → Value → Value → Value → Value → Value → Value → World → Prop, A49 (fun _ => false) t49 t48 t47 t46 t45 t44 t43 t42 t41 { w48 with drawn := w48.drawn + 1 } ∧ (
    (∀ D50 : Nat → Bool, D50 0 = false → ∀ t49_2 t48_2 t47_2 t46_2 t45_2 t44_2 t43_2 t42_2 t41_2 : Value, ∀ w51 : World, A49 D50 t49_2 t48_2 t47_2 t46_2 t45_2 t44_2 t43_2 t42_2 t41_2 w51 →
      Run Try.prog (sOp (.fieldAddr 50 (.const t2) 1) 0) w51 fun t41_3 w52 =>
      A49 (setD D50 0) t49_2 t48_2 t47_2 t46_2 t45_2 t44_2 t43_2 t42_2 t41_3 w52) ∧
    (∀ D50 : Nat → Bool, D50 1 = false → D50 0 = true → ∀ t49_2 t48_2 t47_2 t46_2 t45_2 t44_2 t43_2 t42_2 t41_2 : Value, ∀ w53 : World, A49 D50 t49_2 t48_2 t47_2 t46_2 t45_2 t44_2 t43_2 t42_2 t41_2 w53 →
      Run Try.prog (sOp (.load 27 (.const t41_2)) 27) w53 fun t42_3 w54 =>
      A49 (setD D50 1) t49_2 t48_2 t47_2 t46_2 t45_2 t44_2 t43_2 t42_3 t41_2 w54) ∧
    (∀ D50 : Nat → Bool, D50 2 = false → ∀ t49_2 t48_2 t47_2 t46_2 t45_2 t44_2 t43_2 t42_2 t41_2 : Value, ∀ w55 : World, A49 D50 t49_2 t48_2 t47_2 t46_2 t45_2 t44_2 t43_2 t42_2 t41_2 w55 →
      A49 (setD D50 2) t49_2 t48_2 t47_2 t46_2 t45_2 t44_2 t36 t42_2 t41_2 w55) ∧
    (∀ D50 : Nat → Bool, D50 3 = false → D50 1 = true → D50 2 = true → ∀ t49_2 t48_2 t47_2 t46_2 t45_2 t44_2 t43_2 t42_2 t41_2 : Value, ∀ w56 : World, A49 D50 t49_2 t48_2 t47_2 t46_2 t45_2 t44_2 t43_2 t42_2 t41_2 w56 →
      Run Try.prog (sOp (.indexAddr 27 (.const t42_2) (.const t43_2)) 0) w56 fun t44_3 w57 =>
      A49 (setD D50 3) t49_2 t48_2 t47_2 t46_2 t45_2 t44_3 t43_2 t42_2 t41_2 w57) ∧
    (∀ D50 : Nat → Bool, D50 4 = false → D50 3 = true → ∀ t49_2 t48_2 t47_2 t46_2 t45_2 t44_2 t43_2 t42_2 t41_2 : Value, ∀ w58 : World, A49 D50 t49_2 t48_2 t47_2 t46_2 t45_2 t44_2 t43_2 t42_2 t41_2 w58 →
      Run Try.prog (sOp (.load 31 (.const t44_2)) 31) w58 fun t45_3 w59 =>
      A49 (setD D50 4) t49_2 t48_2 t47_2 t46_2 t45_3 t44_2 t43_2 t42_2 t41_2 w59) ∧
    (∀ D50 : Nat → Bool, D50 5 = false → ∀ t49_2 t48_2 t47_2 t46_2 t45_2 t44_2 t43_2 t42_2 t41_2 : Value, ∀ w60 : World, A49 D50 t49_2 t48_2 t47_2 t46_2 t45_2 t44_2 t43_2 t42_2 t41_2 w60 →
      Run Try.prog (sOp (.load 31 (.const t7_2)) 31) w60 fun t46_3 w61 =>
      A49 (setD D50 5) t49_2 t48_2 t47_2 t46_3 t45_2 t44_2 t43_2 t42_2 t41_2 w61) ∧
    (∀ D50 : Nat → Bool, D50 6 = false → ∀ t49_2 t48_2 t47_2 t46_2 t45_2 t44_2 t43_2 t42_2 t41_2 : Value, ∀ w62 : World, A49 D50 t49_2 t48_2 t47_2 t46_2 t45_2 t44_2 t43_2 t42_2 t41_2 w62 →
      A49 (setD D50 6) t49_2 t48_2 t25 t46_2 t45_2 t44_2 t43_2 t42_2 t41_2 w62) ∧
    (∀ D50 : Nat → Bool, D50 7 = false → D50 4 = true → D50 5 = true → D50 6 = true → ∀ t49_2 t48_2 t47_2 t46_2 t45_2 t44_2 t43_2 t42_2 t41_2 : Value, ∀ w63 : World, A49 D50 t49_2 t48_2 t47_2 t46_2 t45_2 t44_2 t43_2 t42_2 t41_2 w63 →
      Run Try.prog (sCall (Value.func (.func 87) #[] #[]) [t45_2, t46_2, t47_2]) w63 fun t48_3 w64 =>
      A49 (setD D50 7) t49_2 t48_3 t47_2 t46_2 t45_2 t44_2 t43_2 t42_2 t41_2 w64) ∧
    (∀ D50 : Nat → Bool, D50 8 = false → D50 7 = true → ∀ t49_2 t48_2 t47_2 t46_2 t45_2 t44_2 t43_2 t42_2 t41_2 : Value, ∀ w65 : World, A49 D50 t49_2 t48_2 t47_2 t46_2 t45_2 t44_2 t43_2 t42_2 t41_2 w65 →
      Run Try.prog (sOp (.unOp .not 4 (.const t48_2)) 4) w65 fun t49_3 w66 =>
      A49 (setD D50 8) t49_3 t48_2 t47_2 t46_2 t45_2 t44_2 t43_2 t42_2 t41_2 w66) ∧
    True) ∧
  ∀ D50 : Nat → Bool, D50 8 = true → D50 7 = true → D50 6 = true → D50 5 = true → D50 4 = true → D50 3 = true → D50 2 = true → D50 1 = true → D50 0 = true → ∀ t49_2 t48_2 t47_2 t46_2 t45_2 t44_2 t43_2 t42_2 t41_2 : Value, ∀ w67 : World, A49 D50 t49_2 t48_2 t47_2 t46_2 t45_2 t44_2 t43_2 t42_2 t41_2 w67 →
  CondV t49_2 (
    R (.returned (Value.bool false)) w67) (
    Run Try.prog (sBin .add 3 false true t36 (Value.int .i64 1)) w67 fun t50_2 w68 =>
  I41 t50_2 w68 ∧ m42 t50_2 w68 < m42 t36 w43))) (
    R (.returned (Value.bool true)) w44)))))
theorem calls_i_SubsumedClause {p0 p1 : Value} {w : World} {R : Ending → World → Prop} (h : sh_i_SubsumedClause p0 p1 w R) : Calls Try.prog 34 #[p0, p1] w R :=
  calls_sh (.seq none .leaf (.seq none (.seq (some [24]) .leaf .leaf) (.seq none .leaf (.seq none .leaf (.seq none (.seq none .leaf (.one (.loop [36] .leaf))) .leaf))))) [p0, p1] mixed Try.func34 (by kernel_rfl) (by kernel_rfl) h

/- loop.example/prologserver/laws.eqClause : function 35 -/
def sh_l_eqClause (p0 p1 : Value) (w : World) (R : Ending → World → Prop) : Prop :=
  Run Try.prog (sOp (.box 50 (.const p0)) 0) w fun t2 w1 =>
  Run Try.prog (sOp (.box 50 (.const p1)) 0) w1 fun t3 w2 =>
  Run Try.prog (sOp (.fieldAddr 50 (.const t2) 0) 0) w2 fun t5 w3 =>
  Run Try.prog (sOp (.load 31 (.const t5)) 31) w3 fun t6 w4 =>
  Run Try.prog (sOp (.fieldAddr 50 (.const t3) 0) 0) w4 fun t7 w5 =>
  Run Try.prog (sOp (.load 31 (.const t7)) 31) w5 fun t8 w6 =>
  Run Try.prog (sCall (Value.func (.func 22) #[] #[]) [t6, t8]) w6 fun t9 w7 =>
  Run Try.prog (sOp (.unOp .not 4 (.const t9)) 4) w7 fun t10 w8 =>
  CondV t10 (
    R (.returned (Value.bool false)) w8) (
    Run Try.prog (sOp (.fieldAddr 50 (.const t2) 1) 0) w8 fun t11 w9 =>
  Run Try.prog (sOp (.load 27 (.const t11)) 27) w9 fun t12 w10 =>
  Run Try.prog (sOp (.fieldAddr 50 (.const t3) 1) 0) w10 fun t13 w11 =>
  Run Try.prog (sOp (.load 27 (.const t13)) 27) w11 fun t14 w12 =>
  Run Try.prog (sCall (Value.func (.func 21) #[] #[]) [t12, t14]) w12 fun t15 w13 =>
  Run Try.prog (sOp (.unOp .not 4 (.const t15)) 4) w13 fun t16 w14 =>
  CondV t16 (
    R (.returned (Value.bool false)) w14) (
    R (.returned (Value.bool true)) w14))
theorem calls_l_eqClause {p0 p1 : Value} {w : World} {R : Ending → World → Prop} (h : sh_l_eqClause p0 p1 w R) : Calls Try.prog 35 #[p0, p1] w R :=
  calls_sh .leaf [p0, p1] mixed Try.func35 (by kernel_rfl) (by kernel_rfl) h

/- loop.example/prologserver/spec.FlatProgram : function 36 -/
def sh_s_FlatProgram (p0 : Value) (w : World) (R : Ending → World → Prop) : Prop :=
  (∃ (I1 : Value → World → Prop) (m2 : Value → World → Nat), I1 (Value.int .i64 0) w ∧
  ∀ t3 _ _ _ _ _ _ _ _ _ _ _ _ _ _ _ _ _ : Value, ∀ w3 : World, I1 t3 w3 →
  (∃ J4 : Value → World → Prop, (
    Run Try.prog (sBuiltin .len #[41] 3 [false] [p0]) w3 fun t6_2 w5 =>
    Run Try.prog (sBin .lss 3 false false t3 t6_2) w5 fun t7_2 w6 =>
    GuardV t7_2 true (
      Run Try.prog (sCall (Value.func (.func 71) #[] #[]) [p0]) w6 fun t10_2 w7 =>
      Run Try.prog (sOp (.pick (.const t7_2) (.const t10_2) (.const (Value.bool false))) 4) w7 fun t11_2 w8 =>
      J4 t11_2 w8) (
      Run Try.prog (sOp (.pick (.const t7_2) (.const undef) (.const (Value.bool false))) 4) w6 fun t11_3 w9 =>
      J4 t11_3 w9)) ∧
  ∀ t11_4 _ _ _ _ _ _ _ : Value, ∀ w10 : World, J4 t11_4 w10 →
  CondV t11_4 (
    Run Try.prog (sOp (.indexAddr 41 (.const p0) (.const t3)) 0) w10 fun t16_2 w11 =>
  Run Try.prog (sOp (.load 50 (.const t16_2)) 50) w11 fun t17_2 w12 =>
  Run Try.prog (sCall (Value.func (.func 88) #[] #[]) [t17_2]) w12 fun t18_2 w13 =>
  Run Try.prog (sOp (.unOp .not 4 (.const t18_2)) 4) w13 fun t19_2 w14 =>
  CondV t19_2 (
    R (.returned (Value.bool false)) w14) (
    Run Try.prog (sBin .add 3 false true t3 (Value.int .i64 1)) w14 fun t13_2 w15 =>
  I1 t13_2 w15 ∧ m2 t13_2 w15 < m2 t3 w3)) (
    Run Try.prog (sCall (Value.func (.func 71) #[] #[]) [p0]) w10 fun t21 w16 =>
  R (.returned t21) w16)))
theorem calls_s_FlatProgram {p0 : Value} {w : World} {R : Ending → World → Prop} (h : sh_s_FlatProgram p0 w R) : Calls Try.prog 36 #[p0] w R :=
  calls_sh (.seq none .leaf (.seq none (.seq none .leaf (.one (.loop [3] (.seq none (.seq (some [11]) .leaf .leaf) .leaf)))) .leaf)) [p0] mixed Try.func36 (by kernel_rfl) (by kernel_rfl) h

/- loop.example/prologserver/impl.FlatProgram : function 37 -/
def sh_i_FlatProgram (p0 : Value) (w : World) (R : Ending → World → Prop) : Prop :=
  Run Try.prog (sCall (Value.func (.func 75) #[] #[]) [p0]) w fun t4 w1 =>
  GuardV t4 true (
    Run Try.prog (sCall (Value.func (.func 89) #[] #[]) [p0, (Value.func (.func 90) #[] #[])]) w1 fun t7 w2 =>
    Run Try.prog (sOp (.unOp .not 4 (.const t7)) 4) w2 fun t8 w3 =>
    Run Try.prog (sOp (.pick (.const t4) (.const t8) (.const (Value.bool false))) 4) w3 fun t9 w4 =>
    R (.returned t9) w4) (
    Run Try.prog (sOp (.pick (.const t4) (.const undef) (.const (Value.bool false))) 4) w1 fun t9_2 w5 =>
    R (.returned t9_2) w5)
theorem calls_i_FlatProgram {p0 : Value} {w : World} {R : Ending → World → Prop} (h : sh_i_FlatProgram p0 w R) : Calls Try.prog 37 #[p0] w R :=
  calls_sh .leaf [p0] mixed Try.func37 (by kernel_rfl) (by kernel_rfl) h

/- loop.example/prologserver/laws.szPred : function 38 -/
def sh_l_szPred (p0 p1 : Value) (w : World) (R : Ending → World → Prop) : Prop :=
  Run Try.prog (sOp (.box 56 (.const p0)) 0) w fun t2 w1 =>
  Run Try.prog (sOp (.fieldAddr 56 (.const t2) 0) 0) w1 fun t6 w2 =>
  Run Try.prog (sOp (.load 9 (.const t6)) 9) w2 fun t7 w3 =>
  Run Try.prog (sBuiltin .len #[9] 3 [false] [t7]) w3 fun t8 w4 =>
  Run Try.prog (sBin .sub 3 false false p1 t8) w4 fun t9 w5 =>
  Run Try.prog (sBin .lss 3 false true t9 (Value.int .i64 0)) w5 fun t11 w6 =>
  CondV t11 (
    R (.returned (Value.int .i64 (-1))) w6) (
    R (.returned t9) w6)
theorem calls_l_szPred {p0 p1 : Value} {w : World} {R : Ending → World → Prop} (h : sh_l_szPred p0 p1 w R) : Calls Try.prog 38 #[p0, p1] w R :=
  calls_sh .leaf [p0, p1] mixed Try.func38 (by kernel_rfl) (by kernel_rfl) h

/- loop.example/prologserver/spec.RecursivePred : function 39 -/
def sh_s_RecursivePred (p0 p1 : Value) (w : World) (R : Ending → World → Prop) : Prop :=
  Run Try.prog (sOp (.box 59 (.const p1)) 0) w fun t3 w1 =>
  (∃ A2 : (Nat → Bool) → Value → Value → Value → Value → Value → Value → Value → Value → Value → Value → Value → Value → World → Prop, A2 (fun _ => false) (Value.bool false) undef undef undef undef undef undef undef undef undef undef undef { w1 with drawn := w1.drawn + 1 } ∧ (
    (∀ D3 : Nat → Bool, D3 0 = false → ∀ t4 t15 t14 t13 t12 t11 t10 t9 t8 t7 t6 t5 : Value, ∀ w4 : World, A2 D3 t4 t15 t14 t13 t12 t11 t10 t9 t8 t7 t6 t5 w4 →
      A2 (setD D3 0) t4 t15 t14 t13 t12 t11 t10 t9 t8 t7 t6 p0 w4) ∧
    (∀ D3 : Nat → Bool, D3 1 = false → D3 0 = true → ∀ t4 t15 t14 t13 t12 t11 t10 t9 t8 t7 t6 t5 : Value, ∀ w5 : World, A2 D3 t4 t15 t14 t13 t12 t11 t10 t9 t8 t7 t6 t5 w5 →
      Run Try.prog (sCall (Value.func (.func 71) #[] #[]) [t5]) w5 fun t6_2 w6 =>
      A2 (setD D3 1) t4 t15 t14 t13 t12 t11 t10 t9 t8 t7 t6_2 t5 w6) ∧
    (∀ D3 : Nat → Bool, D3 2 = false → D3 1 = true → D3 1 = true → ∀ t4 t15 t14 t13 t12 t11 t10 t9 t8 t7 t6 t5 : Value, ∀ w7 : World, A2 D3 t4 t15 t14 t13 t12 t11 t10 t9 t8 t7 t6 t5 w7 →
      A2 (setD D3 2) t4 t15 t14 t13 t12 t11 t10 t9 t8 t6 t6 t5 w7) ∧
    (∀ D3 : Nat → Bool, D3 3 = false → D3 2 = true → ∀ t4 t15 t14 t13 t12 t11 t10 t9 t8 t7 t6 t5 : Value, ∀ w8 : World, A2 D3 t4 t15 t14 t13 t12 t11 t10 t9 t8 t7 t6 t5 w8 →
      GuardV t7 true (A2 (setD D3 3) t4 t15 t14 t13 t12 t11 t10 t9 p0 t7 t6 t5 w8) (A2 (setD D3 3) t4 t15 t14 t13 t12 t11 t10 t9 undef t7 t6 t5 w8)) ∧
    (∀ D3 : Nat → Bool, D3 4 = false → D3 2 = true → ∀ t4 t15 t14 t13 t12 t11 t10 t9 t8 t7 t6 t5 : Value, ∀ w9 : World, A2 D3 t4 t15 t14 t13 t12 t11 t10 t9 t8 t7 t6 t5 w9 →
      GuardV t7 true (A2 (setD D3 4) t4 t15 t14 t13 t12 t11 t10 p0 t8 t7 t6 t5 w9) (A2 (setD D3 4) t4 t15 t14 t13 t12 t11 t10 undef t8 t7 t6 t5 w9)) ∧
    (∀ D3 : Nat → Bool, D3 5 = false → D3 2 = true → ∀ t4 t15 t14 t13 t12 t11 t10 t9 t8 t7 t6 t5 : Value, ∀ w10 : World, A2 D3 t4 t15 t14 t13 t12 t11 t10 t9 t8 t7 t6 t5 w10 →
      GuardV t7 true (Run Try.prog (sOp (.load 59 (.const t3)) 59) w10 fun t10_2 w11 =>
      A2 (setD D3 5) t4 t15 t14 t13 t12 t11 t10_2 t9 t8 t7 t6 t5 w11) (A2 (setD D3 5) t4 t15 t14 t13 t12 t11 undef t9 t8 t7 t6 t5 w10)) ∧
    (∀ D3 : Nat → Bool, D3 6 = false → D3 4 = true → D3 5 = true → D3 2 = true → D3 2 = true → ∀ t4 t15 t14 t13 t12 t11 t10 t9 t8 t7 t6 t5 : Value, ∀ w12 : World, A2 D3 t4 t15 t14 t13 t12 t11 t10 t9 t8 t7 t6 t5 w12 →
      GuardV t7 true (Run Try.prog (sCall (Value.func (.func 94) #[] #[]) [t9, t10]) w12 fun t11_2 w13 =>
      A2 (setD D3 6) t4 t15 t14 t13 t12 t11_2 t10 t9 t8 t7 t6 t5 w13) (A2 (setD D3 6) t4 t15 t14 t13 t12 undef t10 t9 t8 t7 t6 t5 w12)) ∧
    (∀ D3 : Nat → Bool, D3 7 = false → D3 3 = true → D3 6 = true → D3 6 = true → D3 2 = true → ∀ t4 t15 t14 t13 t12 t11 t10 t9 t8 t7 t6 t5 : Value, ∀ w14 : World, A2 D3 t4 t15 t14 t13 t12 t11 t10 t9 t8 t7 t6 t5 w14 →
      GuardV t7 true (Run Try.prog (sCall (Value.func (.func 93) #[] #[]) [t8, t11]) w14 fun t12_2 w15 =>
      A2 (setD D3 7) t4 t15 t14 t13 t12_2 t11 t10 t9 t8 t7 t6 t5 w15) (A2 (setD D3 7) t4 t15 t14 t13 undef t11 t10 t9 t8 t7 t6 t5 w14)) ∧
    (∀ D3 : Nat → Bool, D3 8 = false → D3 2 = true → ∀ t4 t15 t14 t13 t12 t11 t10 t9 t8 t7 t6 t5 : Value, ∀ w16 : World, A2 D3 t4 t15 t14 t13 t12 t11 t10 t9 t8 t7 t6 t5 w16 →
      GuardV t7 true (Run Try.prog (sOp (.load 59 (.const t3)) 59) w16 fun t13_2 w17 =>
      A2 (setD D3 8) t4 t15 t14 t13_2 t12 t11 t10 t9 t8 t7 t6 t5 w17) (A2 (setD D3 8) t4 t15 t14 undef t12 t11 t10 t9 t8 t7 t6 t5 w16)) ∧
    (∀ D3 : Nat → Bool, D3 9 = false → D3 7 = true → D3 8 = true → D3 7 = true → D3 2 = true → ∀ t4 t15 t14 t13 t12 t11 t10 t9 t8 t7 t6 t5 : Value, ∀ w18 : World, A2 D3 t4 t15 t14 t13 t12 t11 t10 t9 t8 t7 t6 t5 w18 →
      GuardV t7 true (Run Try.prog (sCall (Value.func (.func 92) #[] #[]) [t12, t13]) w18 fun t14_2 w19 =>
      A2 (setD D3 9) t4 t15 t14_2 t13 t12 t11 t10 t9 t8 t7 t6 t5 w19) (A2 (setD D3 9) t4 t15 undef t13 t12 t11 t10 t9 t8 t7 t6 t5 w18)) ∧
    (∀ D3 : Nat → Bool, D3 10 = false → D3 2 = true → D3 9 = true → ∀ t4 t15 t14 t13 t12 t11 t10 t9 t8 t7 t6 t5 : Value, ∀ w20 : World, A2 D3 t4 t15 t14 t13 t12 t11 t10 t9 t8 t7 t6 t5 w20 →
      Run Try.prog (sOp (.pick (.const t7) (.const t14) (.const (Value.bool false))) 4) w20 fun t15_2 w21 =>
      A2 (setD D3 10) t4 t15_2 t14 t13 t12 t11 t10 t9 t8 t7 t6 t5 w21) ∧
    (∀ D3 : Nat → Bool, D3 11 = false → D3 10 = true → D3 9 = true → D3 0 = true → D3 1 = true → D3 2 = true → D3 3 = true → D3 4 = true → D3 5 = true → D3 6 = true → D3 7 = true → D3 8 = true → D3 9 = true → D3 10 = true → ∀ t4 t15 t14 t13 t12 t11 t10 t9 t8 t7 t6 t5 : Value, ∀ w22 : World, A2 D3 t4 t15 t14 t13 t12 t11 t10 t9 t8 t7 t6 t5 w22 →
      A2 (setD D3 11) t15 t15 t14 t13 t12 t11 t10 t9 t8 t7 t6 t5 w22) ∧
    True) ∧
  ∀ D3 : Nat → Bool, D3 11 = true → D3 10 = true → D3 9 = true → D3 8 = true → D3 7 = true → D3 6 = true → D3 5 = true → D3 4 = true → D3 3 = true → D3 2 = true → D3 1 = true → D3 0 = true → ∀ t4 t15 t14 t13 t12 t11 t10 t9 t8 t7 t6 t5 : Value, ∀ w23 : World, A2 D3 t4 t15 t14 t13 t12 t11 t10 t9 t8 t7 t6 t5 w23 →
  R (.returned t4) w23)
theorem calls_s_RecursivePred {p0 p1 : Value} {w : World} {R : Ending → World → Prop} (h : sh_s_RecursivePred p0 p1 w R) : Calls Try.prog 39 #[p0, p1] w R :=
  calls_sh .leaf [p0, p1] mixed Try.func39 (by kernel_rfl) (by kernel_rfl) h

/- loop.example/prologserver/laws.toPred : function 40 -/
def sh_l_toPred (p0 : Value) (w : World) (R : Ending → World → Prop) : Prop :=
  Run Try.prog (sOp (.box 56 (.const p0)) 0) w fun t1 w1 =>
  Run Try.prog (sOp (.alloc 59) 0) w1 fun t2 w2 =>
  Run Try.prog (sOp (.alloc 59) 0) w2 fun t3 w3 =>
  Run Try.prog (sOp (.fieldAddr 56 (.const t1) 0) 0) w3 fun t4 w4 =>
  Run Try.prog (sOp (.load 9 (.const t4)) 9) w4 fun t5 w5 =>
  Run Try.prog (sOp (.fieldAddr 59 (.const t3) 0) 0) w5 fun t6 w6 =>
  Run Try.prog (sOp (.store 9 (.const t6) (.const t5)) 0) w6 fun _u w7 =>
  Run Try.prog (sOp (.fieldAddr 56 (.const t1) 1) 0) w7 fun t7 w8 =>
  Run Try.prog (sOp (.load 3 (.const t7)) 3) w8 fun t8 w9 =>
  Run Try.prog (sOp (.fieldAddr 59 (.const t3) 1) 0) w9 fun t9 w10 =>
  Run Try.prog (sOp (.store 3 (.const t9) (.const t8)) 0) w10 fun _u w11 =>
  Run Try.prog (sOp (.load 59 (.const t3)) 59) w11 fun t10 w12 =>
  Run Try.prog (sOp (.store 59 (.const t2) (.const t10)) 0) w12 fun _ w13 =>
  (LoadV Try.prog 59 t2 w13 fun r0 => R (.returned r0) w13)
theorem calls_l_toPred {p0 : Value} {w : World} {R : Ending → World → Prop} (h : sh_l_toPred p0 w R) : Calls Try.prog 40 #[p0] w R :=
  calls_sh .leaf [p0] mixed Try.func40 (by kernel_rfl) (by kernel_rfl) h

/- loop.example/prologserver/impl.RecursivePred : function 41 -/
def sh_i_RecursivePred (p0 p1 : Value) (w : World) (R : Ending → World → Prop) : Prop :=
  Run Try.prog (sOp (.box 59 (.const p1)) 0) w fun t3 w1 =>
  (∃ A2 : (Nat → Bool) → Value → Value → Value → Value → Value → Value → Value → Value → Value → Value → Value → Value → World → Prop, A2 (fun _ => false) (Value.bool false) undef undef undef undef undef undef undef undef undef undef undef { w1 with drawn := w1.drawn + 1 } ∧ (
    (∀ D3 : Nat → Bool, D3 0 = false → ∀ t4 t15 t14 t13 t12 t11 t10 t9 t8 t7 t6 t5 : Value, ∀ w4 : World, A2 D3 t4 t15 t14 t13 t12 t11 t10 t9 t8 t7 t6 t5 w4 →
      A2 (setD D3 0) t4 t15 t14 t13 t12 t11 t10 t9 t8 t7 t6 p0 w4) ∧
    (∀ D3 : Nat → Bool, D3 1 = false → D3 0 = true → ∀ t4 t15 t14 t13 t12 t11 t10 t9 t8 t7 t6 t5 : Value, ∀ w5 : World, A2 D3 t4 t15 t14 t13 t12 t11 t10 t9 t8 t7 t6 t5 w5 →
      Run Try.prog (sCall (Value.func (.func 75) #[] #[]) [t5]) w5 fun t6_2 w6 =>
      A2 (setD D3 1) t4 t15 t14 t13 t12 t11 t10 t9 t8 t7 t6_2 t5 w6) ∧
    (∀ D3 : Nat → Bool, D3 2 = false → D3 1 = true → D3 1 = true → ∀ t4 t15 t14 t13 t12 t11 t10 t9 t8 t7 t6 t5 : Value, ∀ w7 : World, A2 D3 t4 t15 t14 t13 t12 t11 t10 t9 t8 t7 t6 t5 w7 →
      A2 (setD D3 2) t4 t15 t14 t13 t12 t11 t10 t9 t8 t6 t6 t5 w7) ∧
    (∀ D3 : Nat → Bool, D3 3 = false → D3 2 = true → ∀ t4 t15 t14 t13 t12 t11 t10 t9 t8 t7 t6 t5 : Value, ∀ w8 : World, A2 D3 t4 t15 t14 t13 t12 t11 t10 t9 t8 t7 t6 t5 w8 →
      GuardV t7 true (A2 (setD D3 3) t4 t15 t14 t13 t12 t11 t10 t9 p0 t7 t6 t5 w8) (A2 (setD D3 3) t4 t15 t14 t13 t12 t11 t10 t9 undef t7 t6 t5 w8)) ∧
    (∀ D3 : Nat → Bool, D3 4 = false → D3 2 = true → ∀ t4 t15 t14 t13 t12 t11 t10 t9 t8 t7 t6 t5 : Value, ∀ w9 : World, A2 D3 t4 t15 t14 t13 t12 t11 t10 t9 t8 t7 t6 t5 w9 →
      GuardV t7 true (A2 (setD D3 4) t4 t15 t14 t13 t12 t11 t10 p0 t8 t7 t6 t5 w9) (A2 (setD D3 4) t4 t15 t14 t13 t12 t11 t10 undef t8 t7 t6 t5 w9)) ∧
    (∀ D3 : Nat → Bool, D3 5 = false → D3 2 = true → ∀ t4 t15 t14 t13 t12 t11 t10 t9 t8 t7 t6 t5 : Value, ∀ w10 : World, A2 D3 t4 t15 t14 t13 t12 t11 t10 t9 t8 t7 t6 t5 w10 →
      GuardV t7 true (Run Try.prog (sOp (.load 59 (.const t3)) 59) w10 fun t10_2 w11 =>
      A2 (setD D3 5) t4 t15 t14 t13 t12 t11 t10_2 t9 t8 t7 t6 t5 w11) (A2 (setD D3 5) t4 t15 t14 t13 t12 t11 undef t9 t8 t7 t6 t5 w10)) ∧
    (∀ D3 : Nat → Bool, D3 6 = false → D3 4 = true → D3 5 = true → D3 2 = true → D3 2 = true → ∀ t4 t15 t14 t13 t12 t11 t10 t9 t8 t7 t6 t5 : Value, ∀ w12 : World, A2 D3 t4 t15 t14 t13 t12 t11 t10 t9 t8 t7 t6 t5 w12 →
      GuardV t7 true (Run Try.prog (sCall (Value.func (.func 97) #[] #[]) [t9, t10]) w12 fun t11_2 w13 =>
      A2 (setD D3 6) t4 t15 t14 t13 t12 t11_2 t10 t9 t8 t7 t6 t5 w13) (A2 (setD D3 6) t4 t15 t14 t13 t12 undef t10 t9 t8 t7 t6 t5 w12)) ∧
    (∀ D3 : Nat → Bool, D3 7 = false → D3 3 = true → D3 6 = true → D3 6 = true → D3 2 = true → ∀ t4 t15 t14 t13 t12 t11 t10 t9 t8 t7 t6 t5 : Value, ∀ w14 : World, A2 D3 t4 t15 t14 t13 t12 t11 t10 t9 t8 t7 t6 t5 w14 →
      GuardV t7 true (Run Try.prog (sCall (Value.func (.func 96) #[] #[]) [t8, t11]) w14 fun t12_2 w15 =>
      A2 (setD D3 7) t4 t15 t14 t13 t12_2 t11 t10 t9 t8 t7 t6 t5 w15) (A2 (setD D3 7) t4 t15 t14 t13 undef t11 t10 t9 t8 t7 t6 t5 w14)) ∧
    (∀ D3 : Nat → Bool, D3 8 = false → D3 2 = true → ∀ t4 t15 t14 t13 t12 t11 t10 t9 t8 t7 t6 t5 : Value, ∀ w16 : World, A2 D3 t4 t15 t14 t13 t12 t11 t10 t9 t8 t7 t6 t5 w16 →
      GuardV t7 true (Run Try.prog (sOp (.load 59 (.const t3)) 59) w16 fun t13_2 w17 =>
      A2 (setD D3 8) t4 t15 t14 t13_2 t12 t11 t10 t9 t8 t7 t6 t5 w17) (A2 (setD D3 8) t4 t15 t14 undef t12 t11 t10 t9 t8 t7 t6 t5 w16)) ∧
    (∀ D3 : Nat → Bool, D3 9 = false → D3 7 = true → D3 8 = true → D3 7 = true → D3 2 = true → ∀ t4 t15 t14 t13 t12 t11 t10 t9 t8 t7 t6 t5 : Value, ∀ w18 : World, A2 D3 t4 t15 t14 t13 t12 t11 t10 t9 t8 t7 t6 t5 w18 →
      GuardV t7 true (Run Try.prog (sCall (Value.func (.func 95) #[] #[]) [t12, t13]) w18 fun t14_2 w19 =>
      A2 (setD D3 9) t4 t15 t14_2 t13 t12 t11 t10 t9 t8 t7 t6 t5 w19) (A2 (setD D3 9) t4 t15 undef t13 t12 t11 t10 t9 t8 t7 t6 t5 w18)) ∧
    (∀ D3 : Nat → Bool, D3 10 = false → D3 2 = true → D3 9 = true → ∀ t4 t15 t14 t13 t12 t11 t10 t9 t8 t7 t6 t5 : Value, ∀ w20 : World, A2 D3 t4 t15 t14 t13 t12 t11 t10 t9 t8 t7 t6 t5 w20 →
      Run Try.prog (sOp (.pick (.const t7) (.const t14) (.const (Value.bool false))) 4) w20 fun t15_2 w21 =>
      A2 (setD D3 10) t4 t15_2 t14 t13 t12 t11 t10 t9 t8 t7 t6 t5 w21) ∧
    (∀ D3 : Nat → Bool, D3 11 = false → D3 10 = true → D3 9 = true → D3 0 = true → D3 1 = true → D3 2 = true → D3 3 = true → D3 4 = true → D3 5 = true → D3 6 = true → D3 7 = true → D3 8 = true → D3 9 = true → D3 10 = true → ∀ t4 t15 t14 t13 t12 t11 t10 t9 t8 t7 t6 t5 : Value, ∀ w22 : World, A2 D3 t4 t15 t14 t13 t12 t11 t10 t9 t8 t7 t6 t5 w22 →
      A2 (setD D3 11) t15 t15 t14 t13 t12 t11 t10 t9 t8 t7 t6 t5 w22) ∧
    True) ∧
  ∀ D3 : Nat → Bool, D3 11 = true → D3 10 = true → D3 9 = true → D3 8 = true → D3 7 = true → D3 6 = true → D3 5 = true → D3 4 = true → D3 3 = true → D3 2 = true → D3 1 = true → D3 0 = true → ∀ t4 t15 t14 t13 t12 t11 t10 t9 t8 t7 t6 t5 : Value, ∀ w23 : World, A2 D3 t4 t15 t14 t13 t12 t11 t10 t9 t8 t7 t6 t5 w23 →
  R (.returned t4) w23)
theorem calls_i_RecursivePred {p0 p1 : Value} {w : World} {R : Ending → World → Prop} (h : sh_i_RecursivePred p0 p1 w R) : Calls Try.prog 41 #[p0, p1] w R :=
  calls_sh .leaf [p0, p1] mixed Try.func41 (by kernel_rfl) (by kernel_rfl) h

/- loop.example/prologserver/spec.PredsOf : function 42 -/
def sh_s_PredsOf (p0 : Value) (w : World) (R : Ending → World → Prop) : Prop :=
  Run Try.prog (sCall (Value.func (.func 71) #[] #[]) [p0]) w fun t4 w1 =>
  Run Try.prog (sOp (.unOp .not 4 (.const t4)) 4) w1 fun t5 w2 =>
  CondV t5 (
    Run Try.prog (sBuildSlice 62 0 []) w2 fun t6 w3 =>
    R (.returned t6) w3) (
    Run Try.prog (sCall (Value.func (.func 98) #[] #[]) [p0]) w2 fun t8 w4 =>
  R (.returned t8) w4)
theorem calls_s_PredsOf {p0 : Value} {w : World} {R : Ending → World → Prop} (h : sh_s_PredsOf p0 w R) : Calls Try.prog 42 #[p0] w R :=
  calls_sh .leaf [p0] mixed Try.func42 (by kernel_rfl) (by kernel_rfl) h

/- loop.example/prologserver/impl.PredsOf : function 43 -/
def sh_i_PredsOf (p0 : Value) (w : World) (R : Ending → World → Prop) : Prop :=
  Run Try.prog (sCall (Value.func (.func 75) #[] #[]) [p0]) w fun t7 w1 =>
  Run Try.prog (sOp (.unOp .not 4 (.const t7)) 4) w1 fun t8 w2 =>
  CondV t8 (
    R (.returned (Value.slice none 0 0)) w2) (
    Run Try.prog (sBuiltin .len #[41] 3 [false] [p0]) w2 fun t10 w3 =>
  (∃ (I4 : Value → Value → World → Prop) (m5 : Value → Value → World → Nat), I4 (Value.int .i64 0) (Value.slice none 0 0) w3 ∧
  ∀ t11 _ t3 _ _ _ _ _ _ _ _ _ : Value, ∀ w6 : World, I4 t11 t3 w6 →
  Run Try.prog (sBin .lss 3 false false t11 t10) w6 fun t12_2 w7 =>
  CondV t12_2 (
    Run Try.prog (sOp (.indexAddr 41 (.const p0) (.const t11)) 0) w7 fun t13_2 w8 =>
  Run Try.prog (sOp (.load 50 (.const t13_2)) 50) w8 fun t14_2 w9 =>
  Run Try.prog (sOp (.alloc 50) 0) w9 fun t5_2 w10 =>
  Run Try.prog (sOp (.store 50 (.const t5_2) (.const t14_2)) 0) w10 fun _ w11 =>
  Run Try.prog (sOp (.fieldAddr 50 (.const t5_2) 0) 0) w11 fun t16_2 w12 =>
  Run Try.prog (sOp (.load 31 (.const t16_2)) 31) w12 fun t17_2 w13 =>
  Run Try.prog (sCall (Value.func (.func 80) #[] #[]) [t17_2]) w13 fun t18_2 w14 =>
  Run Try.prog (sCall (Value.func (.func 99) #[] #[]) [t3, t18_2]) w14 fun t19_2 w15 =>
  Run Try.prog (sBin .add 3 false true t11 (Value.int .i64 1)) w15 fun t20_2 w16 =>
  I4 t20_2 t19_2 w16 ∧ m5 t20_2 t19_2 w16 < m5 t11 t3 w6) (
    R (.returned t3) w7)))
theorem calls_i_PredsOf {p0 : Value} {w : World} {R : Ending → World → Prop} (h : sh_i_PredsOf p0 w R) : Calls Try.prog 43 #[p0] w R :=
  calls_sh (.seq none .leaf (.seq none .leaf (.seq none .leaf (.seq none (.seq none .leaf (.one (.loop [11, 3] .leaf))) .leaf)))) [p0] mixed Try.func43 (by kernel_rfl) (by kernel_rfl) h

/- loop.example/prologserver/laws.eqPredS : function 44 -/
def sh_l_eqPredS (p0 p1 : Value) (w : World) (R : Ending → World → Prop) : Prop :=
  Run Try.prog (sBuiltin .len #[62] 3 [false] [p0]) w fun t7 w1 =>
  Run Try.prog (sBuiltin .len #[62] 3 [false] [p1]) w1 fun t9 w2 =>
  Run Try.prog (sBin .neq 3 false false t7 t9) w2 fun t10 w3 =>
  CondV t10 (
    R (.returned (Value.bool false)) w3) (
    (∃ (I4 : Value → World → Prop) (m5 : Value → World → Nat), I4 (Value.int .i64 0) w3 ∧
  ∀ t5 _ _ _ t26 t25 t24 t23 t22 t21 t20 t19 t18 t17 _ _ _ _ : Value, ∀ w6 : World, I4 t5 w6 →
  Run Try.prog (sBuiltin .len #[62] 3 [false] [p0]) w6 fun t13_2 w7 =>
  Run Try.prog (sBin .lss 3 false false t5 t13_2) w7 fun t14_2 w8 =>
  CondV t14_2 (
    (∃ A9 : (Nat → Bool) → Value → Value → Value → Value → Value → Value → Value → Value → Value → Value → World → Prop, A9 (fun _ => false) t26 t25 t24 t23 t22 t21 t20 t19 t18 t17 { w8 with drawn := w8.drawn + 1 } ∧ (
    (∀ D10 : Nat → Bool, D10 0 = false → ∀ t26_2 t25_2 t24_2 t23_2 t22_2 t21_2 t20_2 t19_2 t18_2 t17_2 : Value, ∀ w11 : World, A9 D10 t26_2 t25_2 t24_2 t23_2 t22_2 t21_2 t20_2 t19_2 t18_2 t17_2 w11 →
      A9 (setD D10 0) t26_2 t25_2 t24_2 t23_2 t22_2 t21_2 t20_2 t19_2 t18_2 p0 w11) ∧
    (∀ D10 : Nat → Bool, D10 1 = false → ∀ t26_2 t25_2 t24_2 t23_2 t22_2 t21_2 t20_2 t19_2 t18_2 t17_2 : Value, ∀ w12 : World, A9 D10 t26_2 t25_2 t24_2 t23_2 t22_2 t21_2 t20_2 t19_2 t18_2 t17_2 w12 →
      A9 (setD D10 1) t26_2 t25_2 t24_2 t23_2 t22_2 t21_2 t20_2 t19_2 t5 t17_2 w12) ∧
    (∀ D10 : Nat → Bool, D10 2 = false → D10 0 = true → D10 1 = true → ∀ t26_2 t25_2 t24_2 t23_2 t22_2 t21_2 t20_2 t19_2 t18_2 t17_2 : Value, ∀ w13 : World, A9 D10 t26_2 t25_2 t24_2 t23_2 t22_2 t21_2 t20_2 t19_2 t18_2 t17_2 w13 →
      Run Try.prog (sOp (.indexAddr 62 (.const t17_2) (.const t18_2)) 0) w13 fun t19_3 w14 =>
      A9 (setD D10 2) t26_2 t25_2 t24_2 t23_2 t22_2 t21_2 t20_2 t19_3 t18_2 t17_2 w14) ∧
    (∀ D10 : Nat → Bool, D10 3 = false → D10 2 = true → ∀ t26_2 t25_2 t24_2 t23_2 t22_2 t21_2 t20_2 t19_2 t18_2 t17_2 : Value, ∀ w15 : World, A9 D10 t26_2 t25_2 t24_2 t23_2 t22_2 t21_2 t20_2 t19_2 t18_2 t17_2 w15 →
      Run Try.prog (sOp (.load 59 (.const t19_2)) 59) w15 fun t20_3 w16 =>
      A9 (setD D10 3) t26_2 t25_2 t24_2 t23_2 t22_2 t21_2 t20_3 t19_2 t18_2 t17_2 w16) ∧
    (∀ D10 : Nat → Bool, D10 4 = false → ∀ t26_2 t25_2 t24_2 t23_2 t22_2 t21_2 t20_2 t19_2 t18_2 t17_2 : Value, ∀ w17 : World, A9 D10 t26_2 t25_2 t24_2 t23_2 t22_2 t21_2 t20_2 t19_2 t18_2 t17_2 w17 →
      A9 (setD D10 4) t26_2 t25_2 t24_2 t23_2 t22_2 p1 t20_2 t19_2 t18_2 t17_2 w17) ∧
    (∀ D10 : Nat → Bool, D10 5 = false → ∀ t26_2 t25_2 t24_2 t23_2 t22_2 t21_2 t20_2 t19_2 t18_2 t17_2 : Value, ∀ w18 : World, A9 D10 t26_2 t25_2 t24_2 t23_2 t22_2 t21_2 t20_2 t19_2 t18_2 t17_2 w18 →
      A9 (setD D10 5) t26_2 t25_2 t24_2 t23_2 t5 t21_2 t20_2 t19_2 t18_2 t17_2 w18) ∧
    (∀ D10 : Nat → Bool, D10 6 = false → D10 4 = true → D10 5 = true → ∀ t26_2 t25_2 t24_2 t23_2 t22_2 t21_2 t20_2 t19_2 t18_2 t17_2 : Value, ∀ w19 : World, A9 D10 t26_2 t25_2 t24_2 t23_2 t22_2 t21_2 t20_2 t19_2 t18_2 t17_2 w19 →
      Run Try.prog (sOp (.indexAddr 62 (.const t21_2) (.const t22_2)) 0) w19 fun t23_3 w20 =>
      A9 (setD D10 6) t26_2 t25_2 t24_2 t23_3 t22_2 t21_2 t20_2 t19_2 t18_2 t17_2 w20) ∧
    (∀ D10 : Nat → Bool, D10 7 = false → D10 6 = true → ∀ t26_2 t25_2 t24_2 t23_2 t22_2 t21_2 t20_2 t19_2 t18_2 t17_2 : Value, ∀ w21 : World, A9 D10 t26_2 t25_2 t24_2 t23_2 t22_2 t21_2 t20_2 t19_2 t18_2 t17_2 w21 →
      Run Try.prog (sOp (.load 59 (.const t23_2)) 59) w21 fun t24_3 w22 =>
      A9 (setD D10 7) t26_2 t25_2 t24_3 t23_2 t22_2 t21_2 t20_2 t19_2 t18_2 t17_2 w22) ∧
    (∀ D10 : Nat → Bool, D10 8 = false → D10 3 = true → D10 7 = true → ∀ t26_2 t25_2 t24_2 t23_2 t22_2 t21_2 t20_2 t19_2 t18_2 t17_2 : Value, ∀ w23 : World, A9 D10 t26_2 t25_2 t24_2 t23_2 t22_2 t21_2 t20_2 t19_2 t18_2 t17_2 w23 →
      Run Try.prog (sCall (Value.func (.func 100) #[] #[]) [t20_2, t24_2]) w23 fun t25_3 w24 =>
      A9 (setD D10 8) t26_2 t25_3 t24_2 t23_2 t22_2 t21_2 t20_2 t19_2 t18_2 t17_2 w24) ∧
    (∀ D10 : Nat → Bool, D10 9 = false → D10 8 = true → ∀ t26_2 t25_2 t24_2 t23_2 t22_2 t21_2 t20_2 t19_2 t18_2 t17_2 : Value, ∀ w25 : World, A9 D10 t26_2 t25_2 t24_2 t23_2 t22_2 t21_2 t20_2 t19_2 t18_2 t17_2 w25 →
      Run Try.prog (sOp (.unOp .not 4 (.const t25_2)) 4) w25 fun t26_3 w26 =>
      A9 (setD D10 9) t26_3 t25_2 t24_2 t23_2 t22_2 t21_2 t20_2 t19_2 t18_2 t17_2 w26) ∧
    True) ∧
  ∀ D10 : Nat → Bool, D10 9 = true → D10 8 = true → D10 7 = true → D10 6 = true → D10 5 = true → D10 4 = true → D10 3 = true → D10 2 = true → D10 1 = true → D10 0 = true → ∀ t26_2 t25_2 t24_2 t23_2 t22_2 t21_2 t20_2 t19_2 t18_2 t17_2 : Value, ∀ w27 : World, A9 D10 t26_2 t25_2 t24_2 t23_2 t22_2 t21_2 t20_2 t19_2 t18_2 t17_2 w27 →
  CondV t26_2 (
    R (.returned (Value.bool false)) w27) (
    Run Try.prog (sBin .add 3 false true t5 (Value.int .i64 1)) w27 fun t16_2 w28 =>
  I4 t16_2 w28 ∧ m5 t16_2 w28 < m5 t5 w6))) (
    R (.returned (Value.bool true)) w8)))
theorem calls_l_eqPredS {p0 p1 : Value} {w : World} {R : Ending → World → Prop} (h : sh_l_eqPredS p0 p1 w R) : Calls Try.prog 44 #[p0, p1] w R :=
  calls_sh (.seq none .leaf (.seq none .leaf (.seq none (.seq none .leaf (.one (.loop [5] .leaf))) .leaf))) [p0, p1] mixed Try.func44 (by kernel_rfl) (by kernel_rfl) h

/- loop.example/prologserver/laws.markClauseS : function 45 -/
def sh_l_markClauseS (p0 p1 : Value) (w : World) (R : Ending → World → Prop) : Prop :=
  (∃ (I1 : Value → Value → World → Prop) (m2 : Value → Value → World → Nat), I1 (Value.int .i64 0) p1 w ∧
  ∀ t5 _ _ _ _ _ _ _ _ _ _ _ _ _ _ _ _ _ _ _ _ _ _ _ _ _ _ _ _ _ _ _ _ _ _ t1 _ _ _ _ _ _ _ _ _ _ _ _ : Value, ∀ w3 : World, I1 t5 t1 w3 →
  Run Try.prog (sBuiltin .len #[41] 3 [false] [p0]) w3 fun t8_2 w4 =>
  Run Try.prog (sBin .lss 3 false false t5 t8_2) w4 fun t9_2 w5 =>
  CondV t9_2 (
    Run Try.prog (sOp (.indexAddr 41 (.const p0) (.const t5)) 0) w5 fun t15_2 w6 =>
  Run Try.prog (sOp (.fieldAddr 50 (.const t15_2) 0) 0) w6 fun t16_2 w7 =>
  Run Try.prog (sOp (.fieldAddr 31 (.const t16_2) 0) 0) w7 fun t17_2 w8 =>
  Run Try.prog (sOp (.store 3 (.const t17_2) (.const t1)) 0) w8 fun _u w9 =>
  Run Try.prog (sBin .add 3 false true t1 (Value.int .i64 1)) w9 fun t19_2 w10 =>
  Run Try.prog (sOp (.indexAddr 41 (.const p0) (.const t5)) 0) w10 fun t23_2 w11 =>
  Run Try.prog (sOp (.fieldAddr 50 (.const t23_2) 0) 0) w11 fun t24_2 w12 =>
  Run Try.prog (sOp (.fieldAddr 31 (.const t24_2) 1) 0) w12 fun t25_2 w13 =>
  Run Try.prog (sOp (.store 3 (.const t25_2) (.const t19_2)) 0) w13 fun _u w14 =>
  Run Try.prog (sBin .add 3 false true t19_2 (Value.int .i64 1)) w14 fun t27_2 w15 =>
  Run Try.prog (sCall (Value.func (.func 70) #[] #[]) [t27_2]) w15 fun t31_2 w16 =>
  Run Try.prog (sOp (.indexAddr 41 (.const p0) (.const t5)) 0) w16 fun t32_2 w17 =>
  Run Try.prog (sOp (.fieldAddr 50 (.const t32_2) 0) 0) w17 fun t33_2 w18 =>
  Run Try.prog (sOp (.fieldAddr 31 (.const t33_2) 2) 0) w18 fun t34_2 w19 =>
  Run Try.prog (sOp (.store 9 (.const t34_2) (.const t31_2)) 0) w19 fun _ w20 =>
  Run Try.prog (sBin .add 3 false true t27_2 (Value.int .i64 1)) w20 fun t36_2 w21 =>
  Run Try.prog (sOp (.indexAddr 41 (.const p0) (.const t5)) 0) w21 fun t39_2 w22 =>
  Run Try.prog (sOp (.fieldAddr 50 (.const t39_2) 0) 0) w22 fun t40_2 w23 =>
  Run Try.prog (sOp (.fieldAddr 31 (.const t40_2) 3) 0) w23 fun t41_2 w24 =>
  Run Try.prog (sOp (.load 27 (.const t41_2)) 27) w24 fun t42_2 w25 =>
  Run Try.prog (sCall (Value.func (.func 23) #[] #[]) [t42_2, t36_2]) w25 fun t44_2 w26 =>
  Run Try.prog (sOp (.indexAddr 41 (.const p0) (.const t5)) 0) w26 fun t47_2 w27 =>
  Run Try.prog (sOp (.fieldAddr 50 (.const t47_2) 1) 0) w27 fun t48_2 w28 =>
  Run Try.prog (sOp (.load 27 (.const t48_2)) 27) w28 fun t49_2 w29 =>
  Run Try.prog (sCall (Value.func (.func 23) #[] #[]) [t49_2, t44_2]) w29 fun t51_2 w30 =>
  Run Try.prog (sBin .add 3 false true t5 (Value.int .i64 1)) w30 fun t11_2 w31 =>
  I1 t11_2 t51_2 w31 ∧ m2 t11_2 t51_2 w31 < m2 t5 t1 w3) (
    R (.returned t1) w5))
theorem calls_l_markClauseS {p0 p1 : Value} {w : World} {R : Ending → World → Prop} (h : sh_l_markClauseS p0 p1 w R) : Calls Try.prog 45 #[p0, p1] w R :=
  calls_sh (.seq none .leaf (.seq none (.seq none .leaf (.one (.loop [5, 1] .leaf))) .leaf)) [p0, p1] mixed Try.func45 (by kernel_rfl) (by kernel_rfl) h

/- loop.example/prologserver/laws.markPredS : function 46 -/
def sh_l_markPredS (p0 p1 : Value) (w : World) (R : Ending → World → Prop) : Prop :=
  (∃ (I1 : Value → Value → World → Prop) (m2 : Value → Value → World → Nat), I1 (Value.int .i64 0) p1 w ∧
  ∀ t5 _ _ _ _ _ _ _ _ _ t1 _ _ _ _ _ _ _ _ _ _ _ _ : Value, ∀ w3 : World, I1 t5 t1 w3 →
  Run Try.prog (sBuiltin .len #[62] 3 [false] [p0]) w3 fun t8_2 w4 =>
  Run Try.prog (sBin .lss 3 false false t5 t8_2) w4 fun t9_2 w5 =>
  CondV t9_2 (
    Run Try.prog (sCall (Value.func (.func 70) #[] #[]) [t1]) w5 fun t15_2 w6 =>
  Run Try.prog (sOp (.indexAddr 62 (.const p0) (.const t5)) 0) w6 fun t16_2 w7 =>
  Run Try.prog (sOp (.fieldAddr 59 (.const t16_2) 0) 0) w7 fun t17_2 w8 =>
  Run Try.prog (sOp (.store 9 (.const t17_2) (.const t15_2)) 0) w8 fun _u w9 =>
  Run Try.prog (sBin .add 3 false true t1 (Value.int .i64 1)) w9 fun t19_2 w10 =>
  Run Try.prog (sOp (.indexAddr 62 (.const p0) (.const t5)) 0) w10 fun t23_2 w11 =>
  Run Try.prog (sOp (.fieldAddr 59 (.const t23_2) 1) 0) w11 fun t24_2 w12 =>
  Run Try.prog (sOp (.store 3 (.const t24_2) (.const t19_2)) 0) w12 fun _ w13 =>
  Run Try.prog (sBin .add 3 false true t19_2 (Value.int .i64 1)) w13 fun t26_2 w14 =>
  Run Try.prog (sBin .add 3 false true t5 (Value.int .i64 1)) w14 fun t11_2 w15 =>
  I1 t11_2 t26_2 w15 ∧ m2 t11_2 t26_2 w15 < m2 t5 t1 w3) (
    R (.returned t1) w5))
theorem calls_l_markPredS {p0 p1 : Value} {w : World} {R : Ending → World → Prop} (h : sh_l_markPredS p0 p1 w R) : Calls Try.prog 46 #[p0, p1] w R :=
  calls_sh (.seq none .leaf (.seq none (.seq none .leaf (.one (.loop [5, 1] .leaf))) .leaf)) [p0, p1] mixed Try.func46 (by kernel_rfl) (by kernel_rfl) h

/- loop.example/prologserver/laws.heldPredS : function 47 -/
def sh_l_heldPredS (p0 p1 : Value) (w : World) (R : Ending → World → Prop) : Prop :=
  (∃ (I1 : Value → Value → World → Prop) (m2 : Value → Value → World → Nat), I1 (Value.int .i64 0) p1 w ∧
  ∀ t5 _ _ _ _ _ _ _ _ _ _ _ t1 _ _ _ t19 t18 t17 t16 t15 t14 t13 t12 _ _ _ _ : Value, ∀ w3 : World, I1 t5 t1 w3 →
  Run Try.prog (sBuiltin .len #[62] 3 [false] [p0]) w3 fun t8_2 w4 =>
  Run Try.prog (sBin .lss 3 false false t5 t8_2) w4 fun t9_2 w5 =>
  CondV t9_2 (
    (∃ A6 : (Nat → Bool) → Value → Value → Value → Value → Value → Value → Value → Value → World → Prop, A6 (fun _ => false) t19 t18 t17 t16 t15 t14 t13 t12 { w5 with drawn := w5.drawn + 1 } ∧ (
    (∀ D7 : Nat → Bool, D7 0 = false → ∀ t19_2 t18_2 t17_2 t16_2 t15_2 t14_2 t13_2 t12_2 : Value, ∀ w8 : World, A6 D7 t19_2 t18_2 t17_2 t16_2 t15_2 t14_2 t13_2 t12_2 w8 →
      A6 (setD D7 0) t19_2 t18_2 t17_2 t16_2 t15_2 t14_2 t13_2 p0 w8) ∧
    (∀ D7 : Nat → Bool, D7 1 = false → ∀ t19_2 t18_2 t17_2 t16_2 t15_2 t14_2 t13_2 t12_2 : Value, ∀ w9 : World, A6 D7 t19_2 t18_2 t17_2 t16_2 t15_2 t14_2 t13_2 t12_2 w9 →
      A6 (setD D7 1) t19_2 t18_2 t17_2 t16_2 t15_2 t14_2 t5 t12_2 w9) ∧
    (∀ D7 : Nat → Bool, D7 2 = false → D7 0 = true → D7 1 = true → ∀ t19_2 t18_2 t17_2 t16_2 t15_2 t14_2 t13_2 t12_2 : Value, ∀ w10 : World, A6 D7 t19_2 t18_2 t17_2 t16_2 t15_2 t14_2 t13_2 t12_2 w10 →
      Run Try.prog (sOp (.indexAddr 62 (.const t12_2) (.const t13_2)) 0) w10 fun t14_3 w11 =>
      A6 (setD D7 2) t19_2 t18_2 t17_2 t16_2 t15_2 t14_3 t13_2 t12_2 w11) ∧
    (∀ D7 : Nat → Bool, D7 3 = false → D7 2 = true → ∀ t19_2 t18_2 t17_2 t16_2 t15_2 t14_2 t13_2 t12_2 : Value, ∀ w12 : World, A6 D7 t19_2 t18_2 t17_2 t16_2 t15_2 t14_2 t13_2 t12_2 w12 →
      Run Try.prog (sOp (.fieldAddr 59 (.const t14_2) 0) 0) w12 fun t15_3 w13 =>
      A6 (setD D7 3) t19_2 t18_2 t17_2 t16_2 t15_3 t14_2 t13_2 t12_2 w13) ∧
    (∀ D7 : Nat → Bool, D7 4 = false → D7 3 = true → ∀ t19_2 t18_2 t17_2 t16_2 t15_2 t14_2 t13_2 t12_2 : Value, ∀ w14 : World, A6 D7 t19_2 t18_2 t17_2 t16_2 t15_2 t14_2 t13_2 t12_2 w14 →
      Run Try.prog (sOp (.load 9 (.const t15_2)) 9) w14 fun t16_3 w15 =>
      A6 (setD D7 4) t19_2 t18_2 t17_2 t16_3 t15_2 t14_2 t13_2 t12_2 w15) ∧
    (∀ D7 : Nat → Bool, D7 5 = false → ∀ t19_2 t18_2 t17_2 t16_2 t15_2 t14_2 t13_2 t12_2 : Value, ∀ w16 : World, A6 D7 t19_2 t18_2 t17_2 t16_2 t15_2 t14_2 t13_2 t12_2 w16 →
      A6 (setD D7 5) t19_2 t18_2 t1 t16_2 t15_2 t14_2 t13_2 t12_2 w16) ∧
    (∀ D7 : Nat → Bool, D7 6 = false → D7 5 = true → ∀ t19_2 t18_2 t17_2 t16_2 t15_2 t14_2 t13_2 t12_2 : Value, ∀ w17 : World, A6 D7 t19_2 t18_2 t17_2 t16_2 t15_2 t14_2 t13_2 t12_2 w17 →
      Run Try.prog (sCall (Value.func (.func 70) #[] #[]) [t17_2]) w17 fun t18_3 w18 =>
      A6 (setD D7 6) t19_2 t18_3 t17_2 t16_2 t15_2 t14_2 t13_2 t12_2 w18) ∧
    (∀ D7 : Nat → Bool, D7 7 = false → D7 4 = true → D7 6 = true → ∀ t19_2 t18_2 t17_2 t16_2 t15_2 t14_2 t13_2 t12_2 : Value, ∀ w19 : World, A6 D7 t19_2 t18_2 t17_2 t16_2 t15_2 t14_2 t13_2 t12_2 w19 →
      Run Try.prog (sBin .neq 9 false false t16_2 t18_2) w19 fun t19_3 w20 =>
      A6 (setD D7 7) t19_3 t18_2 t17_2 t16_2 t15_2 t14_2 t13_2 t12_2 w20) ∧
    True) ∧
  ∀ D7 : Nat → Bool, D7 7 = true → D7 6 = true → D7 5 = true → D7 4 = true → D7 3 = true → D7 2 = true → D7 1 = true → D7 0 = true → ∀ t19_2 t18_2 t17_2 t16_2 t15_2 t14_2 t13_2 t12_2 : Value, ∀ w21 : World, A6 D7 t19_2 t18_2 t17_2 t16_2 t15_2 t14_2 t13_2 t12_2 w21 →
  CondV t19_2 (
    R (.returned (Value.int .i64 (-1))) w21) (
    Run Try.prog (sBin .add 3 false true t1 (Value.int .i64 1)) w21 fun t21_2 w22 =>
  Run Try.prog (sOp (.indexAddr 62 (.const p0) (.const t5)) 0) w22 fun t24_2 w23 =>
  Run Try.prog (sOp (.fieldAddr 59 (.const t24_2) 1) 0) w23 fun t25_2 w24 =>
  Run Try.prog (sOp (.load 3 (.const t25_2)) 3) w24 fun t26_2 w25 =>
  Run Try.prog (sBin .neq 3 false false t26_2 t21_2) w25 fun t28_2 w26 =>
  CondV t28_2 (
    R (.returned (Value.int .i64 (-1))) w26) (
    Run Try.prog (sBin .add 3 false true t21_2 (Value.int .i64 1)) w26 fun t30_2 w27 =>
  Run Try.prog (sBin .add 3 false true t5 (Value.int .i64 1)) w27 fun t11_2 w28 =>
  I1 t11_2 t30_2 w28 ∧ m2 t11_2 t30_2 w28 < m2 t5 t1 w3)))) (
    R (.returned t1) w5))
theorem calls_l_heldPredS {p0 p1 : Value} {w : World} {R : Ending → World → Prop} (h : sh_l_heldPredS p0 p1 w R) : Calls Try.prog 47 #[p0, p1] w R :=
  calls_sh (.seq none .leaf (.seq none (.seq none .leaf (.one (.loop [5, 1] .leaf))) .leaf)) [p0, p1] mixed Try.func47 (by kernel_rfl) (by kernel_rfl) h

/- loop.example/prologserver/spec.RenumberClause : function 48 -/
def sh_s_RenumberClause (p0 : Value) (w : World) (R : Ending → World → Prop) : Prop :=
  Run Try.prog (sOp (.box 50 (.const p0)) 0) w fun t1 w1 =>
  Run Try.prog (sOp (.alloc 50) 0) w1 fun t2 w2 =>
  Run Try.prog (sOp (.load 50 (.const t1)) 50) w2 fun t4 w3 =>
  Run Try.prog (sCall (Value.func (.func 84) #[] #[]) [t4]) w3 fun t5 w4 =>
  Run Try.prog (sOp (.unOp .not 4 (.const t5)) 4) w4 fun t6 w5 =>
  CondV t6 (
    Run Try.prog (sBuild 50 []) w5 fun t7 w6 =>
    Run Try.prog (sOp (.store 50 (.const t2) (.const t7)) 0) w6 fun _u w7 =>
    (LoadV Try.prog 50 t2 w7 fun r0 => R (.returned (.tuple #[r0, (Value.bool false)])) w7)) (
    Run Try.prog (sOp (.load 50 (.const t1)) 50) w5 fun t8 w8 =>
  Run Try.prog (sCall (Value.func (.func 101) #[] #[]) [t8]) w8 fun t9 w9 =>
  Run Try.prog (sOp (.store 50 (.const t2) (.const t9)) 0) w9 fun _ w10 =>
  (LoadV Try.prog 50 t2 w10 fun r0 => R (.returned (.tuple #[r0, (Value.bool true)])) w10))
theorem calls_s_RenumberClause {p0 : Value} {w : World} {R : Ending → World → Prop} (h : sh_s_RenumberClause p0 w R) : Calls Try.prog 48 #[p0] w R :=
  calls_sh .leaf [p0] mixed Try.func48 (by kernel_rfl) (by kernel_rfl) h

/- loop.example/prologserver/impl.RenumberClause : function 49 -/
def sh_i_RenumberClause (p0 : Value) (w : World) (R : Ending → World → Prop) : Prop :=
  Run Try.prog (sOp (.box 50 (.const p0)) 0) w fun t1 w1 =>
  Run Try.prog (sOp (.alloc 50) 0) w1 fun t2 w2 =>
  Run Try.prog (sOp (.load 50 (.const t1)) 50) w2 fun t4 w3 =>
  Run Try.prog (sCall (Value.func (.func 86) #[] #[]) [t4]) w3 fun t5 w4 =>
  Run Try.prog (sOp (.unOp .not 4 (.const t5)) 4) w4 fun t6 w5 =>
  CondV t6 (
    Run Try.prog (sBuild 50 []) w5 fun t7 w6 =>
    Run Try.prog (sOp (.store 50 (.const t2) (.const t7)) 0) w6 fun _u w7 =>
    (LoadV Try.prog 50 t2 w7 fun r0 => R (.returned (.tuple #[r0, (Value.bool false)])) w7)) (
    Run Try.prog (sOp (.load 50 (.const t1)) 50) w5 fun t8 w8 =>
  Run Try.prog (sCall (Value.func (.func 103) #[] #[]) [t8]) w8 fun t9 w9 =>
  Run Try.prog (sCall (Value.func (.func 102) #[] #[]) [t9]) w9 fun t10 w10 =>
  Run Try.prog (sOp (.store 50 (.const t2) (.const t10)) 0) w10 fun _ w11 =>
  (LoadV Try.prog 50 t2 w11 fun r0 => R (.returned (.tuple #[r0, (Value.bool true)])) w11))
theorem calls_i_RenumberClause {p0 : Value} {w : World} {R : Ending → World → Prop} (h : sh_i_RenumberClause p0 w R) : Calls Try.prog 49 #[p0] w R :=
  calls_sh .leaf [p0] mixed Try.func49 (by kernel_rfl) (by kernel_rfl) h

/- loop.example/prologserver/laws.markClause : function 50 -/
def sh_l_markClause (p0 p1 : Value) (w : World) (R : Ending → World → Prop) : Prop :=
  Run Try.prog (sOp (.box 50 (.const p0)) 0) w fun t2 w1 =>
  Run Try.prog (sOp (.fieldAddr 50 (.const t2) 0) 0) w1 fun t5 w2 =>
  Run Try.prog (sOp (.load 31 (.const t5)) 31) w2 fun t6 w3 =>
  Run Try.prog (sCall (Value.func (.func 24) #[] #[]) [t6, p1]) w3 fun t8 w4 =>
  Run Try.prog (sOp (.fieldAddr 50 (.const t2) 1) 0) w4 fun t9 w5 =>
  Run Try.prog (sOp (.load 27 (.const t9)) 27) w5 fun t10 w6 =>
  Run Try.prog (sCall (Value.func (.func 23) #[] #[]) [t10, t8]) w6 fun t12 w7 =>
  R (.returned t12) w7
theorem calls_l_markClause {p0 p1 : Value} {w : World} {R : Ending → World → Prop} (h : sh_l_markClause p0 p1 w R) : Calls Try.prog 50 #[p0, p1] w R :=
  calls_sh .leaf [p0, p1] mixed Try.func50 (by kernel_rfl) (by kernel_rfl) h

/- loop.example/prologserver/laws.heldClause : function 51 -/
def sh_l_heldClause (p0 p1 : Value) (w : World) (R : Ending → World → Prop) : Prop :=
  Run Try.prog (sOp (.box 50 (.const p0)) 0) w fun t2 w1 =>
  Run Try.prog (sOp (.fieldAddr 50 (.const t2) 0) 0) w1 fun t5 w2 =>
  Run Try.prog (sOp (.load 31 (.const t5)) 31) w2 fun t6 w3 =>
  Run Try.prog (sCall (Value.func (.func 104) #[] #[]) [t6, p1]) w3 fun t8 w4 =>
  Run Try.prog (sBin .lss 3 false true t8 (Value.int .i64 0)) w4 fun t10 w5 =>
  CondV t10 (
    R (.returned (Value.int .i64 (-1))) w5) (
    Run Try.prog (sOp (.fieldAddr 50 (.const t2) 1) 0) w5 fun t11 w6 =>
  Run Try.prog (sOp (.load 27 (.const t11)) 27) w6 fun t12 w7 =>
  Run Try.prog (sCall (Value.func (.func 25) #[] #[]) [t12, t8]) w7 fun t14 w8 =>
  Run Try.prog (sBin .lss 3 false true t14 (Value.int .i64 0)) w8 fun t16 w9 =>
  CondV t16 (
    R (.returned (Value.int .i64 (-1))) w9) (
    R (.returned t14) w9))
theorem calls_l_heldClause {p0 p1 : Value} {w : World} {R : Ending → World → Prop} (h : sh_l_heldClause p0 p1 w R) : Calls Try.prog 51 #[p0, p1] w R :=
  calls_sh .leaf [p0, p1] mixed Try.func51 (by kernel_rfl) (by kernel_rfl) h

/- loop.example/prologserver/spec.DropClause : function 52 -/
def sh_s_DropClause (p0 p1 : Value) (w : World) (R : Ending → World → Prop) : Prop :=
  (∃ J1 : Value → World → Prop, (
    Run Try.prog (sCall (Value.func (.func 71) #[] #[]) [p0]) w fun t7 w2 =>
    Run Try.prog (sOp (.unOp .not 4 (.const t7)) 4) w2 fun t8 w3 =>
    GuardV t8 false (
      Run Try.prog (sBin .lss 3 false true p1 (Value.int .i64 0)) w3 fun t11 w4 =>
      Run Try.prog (sOp (.pick (.const t8) (.const (Value.bool true)) (.const t11)) 4) w4 fun t12 w5 =>
      GuardV t12 false (
        Run Try.prog (sBuiltin .len #[41] 3 [false] [p0]) w5 fun t16 w6 =>
        Run Try.prog (sBin .geq 3 false false p1 t16) w6 fun t17 w7 =>
        Run Try.prog (sOp (.pick (.const t12) (.const (Value.bool true)) (.const t17)) 4) w7 fun t18 w8 =>
        J1 t18 w8) (
        Run Try.prog (sOp (.pick (.const t12) (.const (Value.bool true)) (.const undef)) 4) w5 fun t18_2 w9 =>
        J1 t18_2 w9)) (
      Run Try.prog (sOp (.pick (.const t8) (.const (Value.bool true)) (.const undef)) 4) w3 fun t12_2 w10 =>
      GuardV t12_2 false (
        Run Try.prog (sBuiltin .len #[41] 3 [false] [p0]) w10 fun t16_2 w11 =>
        Run Try.prog (sBin .geq 3 false false p1 t16_2) w11 fun t17_2 w12 =>
        Run Try.prog (sOp (.pick (.const t12_2) (.const (Value.bool true)) (.const t17_2)) 4) w12 fun t18_3 w13 =>
        J1 t18_3 w13) (
        Run Try.prog (sOp (.pick (.const t12_2) (.const (Value.bool true)) (.const undef)) 4) w10 fun t18_4 w14 =>
        J1 t18_4 w14))) ∧
  ∀ t18_5 _ _ _ _ _ _ _ _ _ _ _ _ : Value, ∀ w15 : World, J1 t18_5 w15 →
  CondV t18_5 (
    Run Try.prog (sBuildSlice 41 0 []) w15 fun t19 w16 =>
    R (.returned (.tuple #[t19, (Value.bool false)])) w16) (
    (∃ A17 : (Nat → Bool) → Value → Value → Value → Value → Value → Value → Value → Value → Value → Value → Value → Value → Value → World → Prop, A17 (fun _ => false) (Value.bool false) (Value.slice none 0 0) undef undef undef undef undef undef undef undef undef undef undef { w15 with drawn := w15.drawn + 1 } ∧ (
    (∀ D18 : Nat → Bool, D18 0 = false → ∀ t5 t4 t30 t29 t28 t27 t26 t25 t24 t23 t22 t21 t20 : Value, ∀ w19 : World, A17 D18 t5 t4 t30 t29 t28 t27 t26 t25 t24 t23 t22 t21 t20 w19 →
      Run Try.prog (sBuildSlice 41 0 []) w19 fun t20_2 w20 =>
      A17 (setD D18 0) t5 t4 t30 t29 t28 t27 t26 t25 t24 t23 t22 t21 t20_2 w20) ∧
    (∀ D18 : Nat → Bool, D18 1 = false → ∀ t5 t4 t30 t29 t28 t27 t26 t25 t24 t23 t22 t21 t20 : Value, ∀ w21 : World, A17 D18 t5 t4 t30 t29 t28 t27 t26 t25 t24 t23 t22 t21 t20 w21 →
      A17 (setD D18 1) t5 t4 t30 t29 t28 t27 t26 t25 t24 t23 t22 p0 t20 w21) ∧
    (∀ D18 : Nat → Bool, D18 2 = false → ∀ t5 t4 t30 t29 t28 t27 t26 t25 t24 t23 t22 t21 t20 : Value, ∀ w22 : World, A17 D18 t5 t4 t30 t29 t28 t27 t26 t25 t24 t23 t22 t21 t20 w22 →
      A17 (setD D18 2) t5 t4 t30 t29 t28 t27 t26 t25 t24 t23 p1 t21 t20 w22) ∧
    (∀ D18 : Nat → Bool, D18 3 = false → D18 1 = true → D18 2 = true → ∀ t5 t4 t30 t29 t28 t27 t26 t25 t24 t23 t22 t21 t20 : Value, ∀ w23 : World, A17 D18 t5 t4 t30 t29 t28 t27 t26 t25 t24 t23 t22 t21 t20 w23 →
      Run Try.prog (sOp (.slice 41 (.const t21) none (some (.const t22)) none) 41) w23 fun t23_2 w24 =>
      A17 (setD D18 3) t5 t4 t30 t29 t28 t27 t26 t25 t24 t23_2 t22 t21 t20 w24) ∧
    (∀ D18 : Nat → Bool, D18 4 = false → D18 0 = true → D18 3 = true → ∀ t5 t4 t30 t29 t28 t27 t26 t25 t24 t23 t22 t21 t20 : Value, ∀ w25 : World, A17 D18 t5 t4 t30 t29 t28 t27 t26 t25 t24 t23 t22 t21 t20 w25 →
      Run Try.prog (sBuiltin .append #[41, 41] 41 [false, false] [t20, t23]) w25 fun t24_2 w26 =>
      A17 (setD D18 4) t5 t4 t30 t29 t28 t27 t26 t25 t24_2 t23 t22 t21 t20 w26) ∧
    (∀ D18 : Nat → Bool, D18 5 = false → ∀ t5 t4 t30 t29 t28 t27 t26 t25 t24 t23 t22 t21 t20 : Value, ∀ w27 : World, A17 D18 t5 t4 t30 t29 t28 t27 t26 t25 t24 t23 t22 t21 t20 w27 →
      A17 (setD D18 5) t5 t4 t30 t29 t28 t27 t26 p0 t24 t23 t22 t21 t20 w27) ∧
    (∀ D18 : Nat → Bool, D18 6 = false → ∀ t5 t4 t30 t29 t28 t27 t26 t25 t24 t23 t22 t21 t20 : Value, ∀ w28 : World, A17 D18 t5 t4 t30 t29 t28 t27 t26 t25 t24 t23 t22 t21 t20 w28 →
      A17 (setD D18 6) t5 t4 t30 t29 t28 t27 p1 t25 t24 t23 t22 t21 t20 w28) ∧
    (∀ D18 : Nat → Bool, D18 7 = false → D18 6 = true → ∀ t5 t4 t30 t29 t28 t27 t26 t25 t24 t23 t22 t21 t20 : Value, ∀ w29 : World, A17 D18 t5 t4 t30 t29 t28 t27 t26 t25 t24 t23 t22 t21 t20 w29 →
      Run Try.prog (sBin .add 3 false true t26 (Value.int .i64 1)) w29 fun t27_2 w30 =>
      A17 (setD D18 7) t5 t4 t30 t29 t28 t27_2 t26 t25 t24 t23 t22 t21 t20 w30) ∧
    (∀ D18 : Nat → Bool, D18 8 = false → D18 5 = true → D18 7 = true → ∀ t5 t4 t30 t29 t28 t27 t26 t25 t24 t23 t22 t21 t20 : Value, ∀ w31 : World, A17 D18 t5 t4 t30 t29 t28 t27 t26 t25 t24 t23 t22 t21 t20 w31 →
      Run Try.prog (sOp (.slice 41 (.const t25) (some (.const t27)) none none) 41) w31 fun t28_2 w32 =>
      A17 (setD D18 8) t5 t4 t30 t29 t28_2 t27 t26 t25 t24 t23 t22 t21 t20 w32) ∧
    (∀ D18 : Nat → Bool, D18 9 = false → D18 4 = true → D18 8 = true → D18 4 = true → ∀ t5 t4 t30 t29 t28 t27 t26 t25 t24 t23 t22 t21 t20 : Value, ∀ w33 : World, A17 D18 t5 t4 t30 t29 t28 t27 t26 t25 t24 t23 t22 t21 t20 w33 →
      Run Try.prog (sBuiltin .append #[41, 41] 41 [false, false] [t24, t28]) w33 fun t29_2 w34 =>
      A17 (setD D18 9) t5 t4 t30 t29_2 t28 t27 t26 t25 t24 t23 t22 t21 t20 w34) ∧
    (∀ D18 : Nat → Bool, D18 10 = false → D18 9 = true → D18 9 = true → ∀ t5 t4 t30 t29 t28 t27 t26 t25 t24 t23 t22 t21 t20 : Value, ∀ w35 : World, A17 D18 t5 t4 t30 t29 t28 t27 t26 t25 t24 t23 t22 t21 t20 w35 →
      Run Try.prog (sCall (Value.func (.func 105) #[] #[]) [t29]) w35 fun t30_2 w36 =>
      A17 (setD D18 10) t5 t4 t30_2 t29 t28 t27 t26 t25 t24 t23 t22 t21 t20 w36) ∧
    (∀ D18 : Nat → Bool, D18 11 = false → D18 10 = true → D18 10 = true → D18 0 = true → D18 1 = true → D18 2 = true → D18 3 = true → D18 4 = true → D18 5 = true → D18 6 = true → D18 7 = true → D18 8 = true → D18 9 = true → D18 10 = true → ∀ t5 t4 t30 t29 t28 t27 t26 t25 t24 t23 t22 t21 t20 : Value, ∀ w37 : World, A17 D18 t5 t4 t30 t29 t28 t27 t26 t25 t24 t23 t22 t21 t20 w37 →
      A17 (setD D18 11) t5 t30 t30 t29 t28 t27 t26 t25 t24 t23 t22 t21 t20 w37) ∧
    (∀ D18 : Nat → Bool, D18 12 = false → D18 11 = true → D18 0 = true → D18 1 = true → D18 2 = true → D18 3 = true → D18 4 = true → D18 5 = true → D18 6 = true → D18 7 = true → D18 8 = true → D18 9 = true → D18 10 = true → D18 11 = true → ∀ t5 t4 t30 t29 t28 t27 t26 t25 t24 t23 t22 t21 t20 : Value, ∀ w38 : World, A17 D18 t5 t4 t30 t29 t28 t27 t26 t25 t24 t23 t22 t21 t20 w38 →
      A17 (setD D18 12) (Value.bool true) t4 t30 t29 t28 t27 t26 t25 t24 t23 t22 t21 t20 w38) ∧
    True) ∧
  ∀ D18 : Nat → Bool, D18 12 = true → D18 11 = true → D18 10 = true → D18 9 = true → D18 8 = true → D18 7 = true → D18 6 = true → D18 5 = true → D18 4 = true → D18 3 = true → D18 2 = true → D18 1 = true → D18 0 = true → ∀ t5 t4 t30 t29 t28 t27 t26 t25 t24 t23 t22 t21 t20 : Value, ∀ w39 : World, A17 D18 t5 t4 t30 t29 t28 t27 t26 t25 t24 t23 t22 t21 t20 w39 →
  R (.returned (.tuple #[t4, t5])) w39)))
theorem calls_s_DropClause {p0 p1 : Value} {w : World} {R : Ending → World → Prop} (h : sh_s_DropClause p0 p1 w R) : Calls Try.prog 52 #[p0, p1] w R :=
  calls_sh (.seq none .leaf (.seq none (.seq (some [18]) .leaf .leaf) .leaf)) [p0, p1] mixed Try.func52 (by kernel_rfl) (by kernel_rfl) h

/- loop.example/prologserver/impl.DropClause : function 53 -/
def sh_i_DropClause (p0 p1 : Value) (w : World) (R : Ending → World → Prop) : Prop :=
  (∃ J1 : Value → World → Prop, (
    Run Try.prog (sCall (Value.func (.func 75) #[] #[]) [p0]) w fun t7 w2 =>
    Run Try.prog (sOp (.unOp .not 4 (.const t7)) 4) w2 fun t8 w3 =>
    GuardV t8 false (
      Run Try.prog (sBuiltin .len #[41] 3 [false] [p0]) w3 fun t12 w4 =>
      Run Try.prog (sBin .sub 3 false true t12 (Value.int .i64 1)) w4 fun t13 w5 =>
      Run Try.prog (sCall (Value.func (.func 76) #[] #[]) [p1, (Value.int .i64 0), t13]) w5 fun t14 w6 =>
      Run Try.prog (sOp (.unOp .not 4 (.const t14)) 4) w6 fun t15 w7 =>
      Run Try.prog (sOp (.pick (.const t8) (.const (Value.bool true)) (.const t15)) 4) w7 fun t16 w8 =>
      J1 t16 w8) (
      Run Try.prog (sOp (.pick (.const t8) (.const (Value.bool true)) (.const undef)) 4) w3 fun t16_2 w9 =>
      J1 t16_2 w9)) ∧
  ∀ t16_3 _ _ _ _ _ _ _ _ _ _ : Value, ∀ w10 : World, J1 t16_3 w10 →
  CondV t16_3 (
    R (.returned (.tuple #[(Value.slice none 0 0), (Value.bool false)])) w10) (
    Run Try.prog (sCall (Value.func (.func 107) #[] #[]) [p0]) w10 fun t18 w11 =>
  Run Try.prog (sBin .add 3 false true p1 (Value.int .i64 1)) w11 fun t21 w12 =>
  Run Try.prog (sCall (Value.func (.func 106) #[] #[]) [t18, p1, t21]) w12 fun t22 w13 =>
  R (.returned (.tuple #[t22, (Value.bool true)])) w13))
theorem calls_i_DropClause {p0 p1 : Value} {w : World} {R : Ending → World → Prop} (h : sh_i_DropClause p0 p1 w R) : Calls Try.prog 53 #[p0, p1] w R :=
  calls_sh (.seq none .leaf (.seq none (.seq (some [16]) .leaf .leaf) .leaf)) [p0, p1] mixed Try.func53 (by kernel_rfl) (by kernel_rfl) h

/- loop.example/prologserver/laws.heldClauseS : function 54 -/
def sh_l_heldClauseS (p0 p1 : Value) (w : World) (R : Ending → World → Prop) : Prop :=
  (∃ (I1 : Value → Value → World → Prop) (m2 : Value → Value → World → Nat), I1 (Value.int .i64 0) p1 w ∧
  ∀ t5 _ _ _ _ _ _ _ _ _ _ _ _ _ _ _ _ _ _ _ _ _ _ _ t40 t39 t38 t37 t36 t35 t34 t33 t32 _ _ _ _ _ _ _ _ _ _ t1 _ _ _ _ _ _ _ _ _ _ _ _ _ _ _ : Value, ∀ w3 : World, I1 t5 t1 w3 →
  Run Try.prog (sBuiltin .len #[41] 3 [false] [p0]) w3 fun t8_2 w4 =>
  Run Try.prog (sBin .lss 3 false false t5 t8_2) w4 fun t9_2 w5 =>
  CondV t9_2 (
    Run Try.prog (sOp (.indexAddr 41 (.const p0) (.const t5)) 0) w5 fun t14_2 w6 =>
  Run Try.prog (sOp (.fieldAddr 50 (.const t14_2) 0) 0) w6 fun t15_2 w7 =>
  Run Try.prog (sOp (.fieldAddr 31 (.const t15_2) 0) 0) w7 fun t16_2 w8 =>
  Run Try.prog (sOp (.load 3 (.const t16_2)) 3) w8 fun t17_2 w9 =>
  Run Try.prog (sBin .neq 3 false false t17_2 t1) w9 fun t19_2 w10 =>
  CondV t19_2 (
    R (.returned (Value.int .i64 (-1))) w10) (
    Run Try.prog (sBin .add 3 false true t1 (Value.int .i64 1)) w10 fun t21_2 w11 =>
  Run Try.prog (sOp (.indexAddr 41 (.const p0) (.const t5)) 0) w11 fun t24_2 w12 =>
  Run Try.prog (sOp (.fieldAddr 50 (.const t24_2) 0) 0) w12 fun t25_2 w13 =>
  Run Try.prog (sOp (.fieldAddr 31 (.const t25_2) 1) 0) w13 fun t26_2 w14 =>
  Run Try.prog (sOp (.load 3 (.const t26_2)) 3) w14 fun t27_2 w15 =>
  Run Try.prog (sBin .neq 3 false false t27_2 t21_2) w15 fun t29_2 w16 =>
  CondV t29_2 (
    R (.returned (Value.int .i64 (-1))) w16) (
    Run Try.prog (sBin .add 3 false true t21_2 (Value.int .i64 1)) w16 fun t31_2 w17 =>
  (∃ A18 : (Nat → Bool) → Value → Value → Value → Value → Value → Value → Value → Value → Value → World → Prop, A18 (fun _ => false) t40 t39 t38 t37 t36 t35 t34 t33 t32 { w17 with drawn := w17.drawn + 1 } ∧ (
    (∀ D19 : Nat → Bool, D19 0 = false → ∀ t40_2 t39_2 t38_2 t37_2 t36_2 t35_2 t34_2 t33_2 t32_2 : Value, ∀ w20 : World, A18 D19 t40_2 t39_2 t38_2 t37_2 t36_2 t35_2 t34_2 t33_2 t32_2 w20 →
      A18 (setD D19 0) t40_2 t39_2 t38_2 t37_2 t36_2 t35_2 t34_2 t33_2 p0 w20) ∧
    (∀ D19 : Nat → Bool, D19 1 = false → ∀ t40_2 t39_2 t38_2 t37_2 t36_2 t35_2 t34_2 t33_2 t32_2 : Value, ∀ w21 : World, A18 D19 t40_2 t39_2 t38_2 t37_2 t36_2 t35_2 t34_2 t33_2 t32_2 w21 →
      A18 (setD D19 1) t40_2 t39_2 t38_2 t37_2 t36_2 t35_2 t34_2 t5 t32_2 w21) ∧
    (∀ D19 : Nat → Bool, D19 2 = false → D19 0 = true → D19 1 = true → ∀ t40_2 t39_2 t38_2 t37_2 t36_2 t35_2 t34_2 t33_2 t32_2 : Value, ∀ w22 : World, A18 D19 t40_2 t39_2 t38_2 t37_2 t36_2 t35_2 t34_2 t33_2 t32_2 w22 →
      Run Try.prog (sOp (.indexAddr 41 (.const t32_2) (.const t33_2)) 0) w22 fun t34_3 w23 =>
      A18 (setD D19 2) t40_2 t39_2 t38_2 t37_2 t36_2 t35_2 t34_3 t33_2 t32_2 w23) ∧
    (∀ D19 : Nat → Bool, D19 3 = false → D19 2 = true → ∀ t40_2 t39_2 t38_2 t37_2 t36_2 t35_2 t34_2 t33_2 t32_2 : Value, ∀ w24 : World, A18 D19 t40_2 t39_2 t38_2 t37_2 t36_2 t35_2 t34_2 t33_2 t32_2 w24 →
      Run Try.prog (sOp (.fieldAddr 50 (.const t34_2) 0) 0) w24 fun t35_3 w25 =>
      A18 (setD D19 3) t40_2 t39_2 t38_2 t37_2 t36_2 t35_3 t34_2 t33_2 t32_2 w25) ∧
    (∀ D19 : Nat → Bool, D19 4 = false → D19 3 = true → ∀ t40_2 t39_2 t38_2 t37_2 t36_2 t35_2 t34_2 t33_2 t32_2 : Value, ∀ w26 : World, A18 D19 t40_2 t39_2 t38_2 t37_2 t36_2 t35_2 t34_2 t33_2 t32_2 w26 →
      Run Try.prog (sOp (.fieldAddr 31 (.const t35_2) 2) 0) w26 fun t36_3 w27 =>
      A18 (setD D19 4) t40_2 t39_2 t38_2 t37_2 t36_3 t35_2 t34_2 t33_2 t32_2 w27) ∧
    (∀ D19 : Nat → Bool, D19 5 = false → D19 4 = true → ∀ t40_2 t39_2 t38_2 t37_2 t36_2 t35_2 t34_2 t33_2 t32_2 : Value, ∀ w28 : World, A18 D19 t40_2 t39_2 t38_2 t37_2 t36_2 t35_2 t34_2 t33_2 t32_2 w28 →
      Run Try.prog (sOp (.load 9 (.const t36_2)) 9) w28 fun t37_3 w29 =>
      A18 (setD D19 5) t40_2 t39_2 t38_2 t37_3 t36_2 t35_2 t34_2 t33_2 t32_2 w29) ∧
    (∀ D19 : Nat → Bool, D19 6 = false → ∀ t40_2 t39_2 t38_2 t37_2 t36_2 t35_2 t34_2 t33_2 t32_2 : Value, ∀ w30 : World, A18 D19 t40_2 t39_2 t38_2 t37_2 t36_2 t35_2 t34_2 t33_2 t32_2 w30 →
      A18 (setD D19 6) t40_2 t39_2 t31_2 t37_2 t36_2 t35_2 t34_2 t33_2 t32_2 w30) ∧
    (∀ D19 : Nat → Bool, D19 7 = false → D19 6 = true → ∀ t40_2 t39_2 t38_2 t37_2 t36_2 t35_2 t34_2 t33_2 t32_2 : Value, ∀ w31 : World, A18 D19 t40_2 t39_2 t38_2 t37_2 t36_2 t35_2 t34_2 t33_2 t32_2 w31 →
      Run Try.prog (sCall (Value.func (.func 70) #[] #[]) [t38_2]) w31 fun t39_3 w32 =>
      A18 (setD D19 7) t40_2 t39_3 t38_2 t37_2 t36_2 t35_2 t34_2 t33_2 t32_2 w32) ∧
    (∀ D19 : Nat → Bool, D19 8 = false → D19 5 = true → D19 7 = true → ∀ t40_2 t39_2 t38_2 t37_2 t36_2 t35_2 t34_2 t33_2 t32_2 : Value, ∀ w33 : World, A18 D19 t40_2 t39_2 t38_2 t37_2 t36_2 t35_2 t34_2 t33_2 t32_2 w33 →
      Run Try.prog (sBin .neq 9 false false t37_2 t39_2) w33 fun t40_3 w34 =>
      A18 (setD D19 8) t40_3 t39_2 t38_2 t37_2 t36_2 t35_2 t34_2 t33_2 t32_2 w34) ∧
    True) ∧
  ∀ D19 : Nat → Bool, D19 8 = true → D19 7 = true → D19 6 = true → D19 5 = true → D19 4 = true → D19 3 = true → D19 2 = true → D19 1 = true → D19 0 = true → ∀ t40_2 t39_2 t38_2 t37_2 t36_2 t35_2 t34_2 t33_2 t32_2 : Value, ∀ w35 : World, A18 D19 t40_2 t39_2 t38_2 t37_2 t36_2 t35_2 t34_2 t33_2 t32_2 w35 →
  CondV t40_2 (
    R (.returned (Value.int .i64 (-1))) w35) (
    Run Try.prog (sBin .add 3 false true t31_2 (Value.int .i64 1)) w35 fun t42_2 w36 =>
  Run Try.prog (sOp (.indexAddr 41 (.const p0) (.const t5)) 0) w36 fun t45_2 w37 =>
  Run Try.prog (sOp (.fieldAddr 50 (.const t45_2) 0) 0) w37 fun t46_2 w38 =>
  Run Try.prog (sOp (.fieldAddr 31 (.const t46_2) 3) 0) w38 fun t47_2 w39 =>
  Run Try.prog (sOp (.load 27 (.const t47_2)) 27) w39 fun t48_2 w40 =>
  Run Try.prog (sCall (Value.func (.func 25) #[] #[]) [t48_2, t42_2]) w40 fun t50_2 w41 =>
  Run Try.prog (sBin .lss 3 false true t50_2 (Value.int .i64 0)) w41 fun t52_2 w42 =>
  CondV t52_2 (
    R (.returned (Value.int .i64 (-1))) w42) (
    Run Try.prog (sOp (.indexAddr 41 (.const p0) (.const t5)) 0) w42 fun t55_2 w43 =>
  Run Try.prog (sOp (.fieldAddr 50 (.const t55_2) 1) 0) w43 fun t56_2 w44 =>
  Run Try.prog (sOp (.load 27 (.const t56_2)) 27) w44 fun t57_2 w45 =>
  Run Try.prog (sCall (Value.func (.func 25) #[] #[]) [t57_2, t50_2]) w45 fun t59_2 w46 =>
  Run Try.prog (sBin .lss 3 false true t59_2 (Value.int .i64 0)) w46 fun t61_2 w47 =>
  CondV t61_2 (
    R (.returned (Value.int .i64 (-1))) w47) (
    Run Try.prog (sBin .add 3 false true t5 (Value.int .i64 1)) w47 fun t11_2 w48 =>
  I1 t11_2 t59_2 w48 ∧ m2 t11_2 t59_2 w48 < m2 t5 t1 w3))))))) (
    R (.returned t1) w5))
theorem calls_l_heldClauseS {p0 p1 : Value} {w : World} {R : Ending → World → Prop} (h : sh_l_heldClauseS p0 p1 w R) : Calls Try.prog 54 #[p0, p1] w R :=
  calls_sh (.seq none .leaf (.seq none (.seq none .leaf (.one (.loop [5, 1] .leaf))) .leaf)) [p0, p1] mixed Try.func54 (by kernel_rfl) (by kernel_rfl) h

/- loop.example/prologserver/spec.MovePred : function 55 -/
def sh_s_MovePred (p0 p1 : Value) (w : World) (R : Ending → World → Prop) : Prop :=
  Run Try.prog (sOp (.box 59 (.const p1)) 0) w fun t3 w1 =>
  Run Try.prog (sCall (Value.func (.func 71) #[] #[]) [p0]) w1 fun t10 w2 =>
  Run Try.prog (sOp (.unOp .not 4 (.const t10)) 4) w2 fun t11 w3 =>
  CondV t11 (
    Run Try.prog (sBuildSlice 41 0 []) w3 fun t12 w4 =>
    R (.returned (.tuple #[t12, (Value.bool false)])) w4) (
    Run Try.prog (sBuildSlice 41 0 []) w3 fun t13 w5 =>
  Run Try.prog (sBuildSlice 41 0 []) w5 fun t14 w6 =>
  (∃ (I7 : Value → Value → Value → World → Prop) (m8 : Value → Value → Value → World → Nat), I7 (Value.int .i64 0) t13 t14 w6 ∧
  ∀ t8 _ _ t6 _ _ _ _ _ _ _ t7 _ _ _ _ _ _ _ t28 t27 t26 t25 t24 t23 t22 t21 _ _ _ _ : Value, ∀ w9 : World, I7 t8 t6 t7 w9 →
  Run Try.prog (sBuiltin .len #[41] 3 [false] [p0]) w9 fun t17_2 w10 =>
  Run Try.prog (sBin .lss 3 false false t8 t17_2) w10 fun t18_2 w11 =>
  CondV t18_2 (
    (∃ J12 : Value → Value → World → Prop, (
    (∃ A13 : (Nat → Bool) → Value → Value → Value → Value → Value → Value → Value → Value → World → Prop, A13 (fun _ => false) t28 t27 t26 t25 t24 t23 t22 t21 { w11 with drawn := w11.drawn + 1 } ∧ (
      (∀ D14 : Nat → Bool, D14 0 = false → ∀ t28_2 t27_2 t26_2 t25_2 t24_2 t23_2 t22_2 t21_2 : Value, ∀ w15 : World, A13 D14 t28_2 t27_2 t26_2 t25_2 t24_2 t23_2 t22_2 t21_2 w15 →
        A13 (setD D14 0) t28_2 t27_2 t26_2 t25_2 t24_2 t23_2 t22_2 p0 w15) ∧
      (∀ D14 : Nat → Bool, D14 1 = false → ∀ t28_2 t27_2 t26_2 t25_2 t24_2 t23_2 t22_2 t21_2 : Value, ∀ w16 : World, A13 D14 t28_2 t27_2 t26_2 t25_2 t24_2 t23_2 t22_2 t21_2 w16 →
        A13 (setD D14 1) t28_2 t27_2 t26_2 t25_2 t24_2 t23_2 t8 t21_2 w16) ∧
      (∀ D14 : Nat → Bool, D14 2 = false → D14 0 = true → D14 1 = true → ∀ t28_2 t27_2 t26_2 t25_2 t24_2 t23_2 t22_2 t21_2 : Value, ∀ w17 : World, A13 D14 t28_2 t27_2 t26_2 t25_2 t24_2 t23_2 t22_2 t21_2 w17 →
        Run Try.prog (sOp (.indexAddr 41 (.const t21_2) (.const t22_2)) 0) w17 fun t23_3 w18 =>
        A13 (setD D14 2) t28_2 t27_2 t26_2 t25_2 t24_2 t23_3 t22_2 t21_2 w18) ∧
      (∀ D14 : Nat → Bool, D14 3 = false → D14 2 = true → ∀ t28_2 t27_2 t26_2 t25_2 t24_2 t23_2 t22_2 t21_2 : Value, ∀ w19 : World, A13 D14 t28_2 t27_2 t26_2 t25_2 t24_2 t23_2 t22_2 t21_2 w19 →
        Run Try.prog (sOp (.fieldAddr 50 (.const t23_2) 0) 0) w19 fun t24_3 w20 =>
        A13 (setD D14 3) t28_2 t27_2 t26_2 t25_2 t24_3 t23_2 t22_2 t21_2 w20) ∧
      (∀ D14 : Nat → Bool, D14 4 = false → D14 3 = true → ∀ t28_2 t27_2 t26_2 t25_2 t24_2 t23_2 t22_2 t21_2 : Value, ∀ w21 : World, A13 D14 t28_2 t27_2 t26_2 t25_2 t24_2 t23_2 t22_2 t21_2 w21 →
        Run Try.prog (sOp (.load 31 (.const t24_2)) 31) w21 fun t25_3 w22 =>
        A13 (setD D14 4) t28_2 t27_2 t26_2 t25_3 t24_2 t23_2 t22_2 t21_2 w22) ∧
      (∀ D14 : Nat → Bool, D14 5 = false → D14 4 = true → ∀ t28_2 t27_2 t26_2 t25_2 t24_2 t23_2 t22_2 t21_2 : Value, ∀ w23 : World, A13 D14 t28_2 t27_2 t26_2 t25_2 t24_2 t23_2 t22_2 t21_2 w23 →
        Run Try.prog (sCall (Value.func (.func 108) #[] #[]) [t25_2]) w23 fun t26_3 w24 =>
        A13 (setD D14 5) t28_2 t27_2 t26_3 t25_2 t24_2 t23_2 t22_2 t21_2 w24) ∧
      (∀ D14 : Nat → Bool, D14 6 = false → ∀ t28_2 t27_2 t26_2 t25_2 t24_2 t23_2 t22_2 t21_2 : Value, ∀ w25 : World, A13 D14 t28_2 t27_2 t26_2 t25_2 t24_2 t23_2 t22_2 t21_2 w25 →
        Run Try.prog (sOp (.load 59 (.const t3)) 59) w25 fun t27_3 w26 =>
        A13 (setD D14 6) t28_2 t27_3 t26_2 t25_2 t24_2 t23_2 t22_2 t21_2 w26) ∧
      (∀ D14 : Nat → Bool, D14 7 = false → D14 5 = true → D14 6 = true → ∀ t28_2 t27_2 t26_2 t25_2 t24_2 t23_2 t22_2 t21_2 : Value, ∀ w27 : World, A13 D14 t28_2 t27_2 t26_2 t25_2 t24_2 t23_2 t22_2 t21_2 w27 →
        Run Try.prog (sBin .eql 59 false false t26_2 t27_2) w27 fun t28_3 w28 =>
        A13 (setD D14 7) t28_3 t27_2 t26_2 t25_2 t24_2 t23_2 t22_2 t21_2 w28) ∧
      True) ∧
    ∀ D14 : Nat → Bool, D14 7 = true → D14 6 = true → D14 5 = true → D14 4 = true → D14 3 = true → D14 2 = true → D14 1 = true → D14 0 = true → ∀ t28_2 t27_2 t26_2 t25_2 t24_2 t23_2 t22_2 t21_2 : Value, ∀ w29 : World, A13 D14 t28_2 t27_2 t26_2 t25_2 t24_2 t23_2 t22_2 t21_2 w29 →
    CondV t28_2 (
      Run Try.prog (sOp (.indexAddr 41 (.const p0) (.const t8)) 0) w29 fun t32_2 w30 =>
      Run Try.prog (sOp (.load 50 (.const t32_2)) 50) w30 fun t33_2 w31 =>
      Run Try.prog (sBuildSlice 41 1 [(0, t33_2)]) w31 fun t34_2 w32 =>
      Run Try.prog (sBuiltin .append #[41, 41] 41 [false, false] [t7, t34_2]) w32 fun t35_2 w33 =>
      J12 t6 t35_2 w33) (
      Run Try.prog (sOp (.indexAddr 41 (.const p0) (.const t8)) 0) w29 fun t39_2 w34 =>
      Run Try.prog (sOp (.load 50 (.const t39_2)) 50) w34 fun t40_2 w35 =>
      Run Try.prog (sBuildSlice 41 1 [(0, t40_2)]) w35 fun t41_2 w36 =>
      Run Try.prog (sBuiltin .append #[41, 41] 41 [false, false] [t6, t41_2]) w36 fun t42_2 w37 =>
      J12 t42_2 t7 w37))) ∧
  ∀ t6_2 _ _ _ _ _ _ _ t7_2 _ _ _ _ _ _ _ _ _ _ _ _ _ _ _ : Value, ∀ w38 : World, J12 t6_2 t7_2 w38 →
  Run Try.prog (sBin .add 3 false true t8 (Value.int .i64 1)) w38 fun t20_2 w39 =>
  I7 t20_2 t6_2 t7_2 w39 ∧ m8 t20_2 t6_2 t7_2 w39 < m8 t8 t6 t7 w9)) (
    Run Try.prog (sBuiltin .append #[41, 41] 41 [false, false] [t6, t7]) w11 fun t45 w40 =>
  Run Try.prog (sCall (Value.func (.func 105) #[] #[]) [t45]) w40 fun t46 w41 =>
  R (.returned (.tuple #[t46, (Value.bool true)])) w41)))
theorem calls_s_MovePred {p0 p1 : Value} {w : World} {R : Ending → World → Prop} (h : sh_s_MovePred p0 p1 w R) : Calls Try.prog 55 #[p0, p1] w R :=
  calls_sh (.seq none .leaf (.seq none .leaf (.seq none .leaf (.seq none .leaf (.seq none (.seq none .leaf (.one (.loop [8, 6, 7] (.seq none .leaf (.seq (some [6, 7]) .leaf .leaf))))) .leaf))))) [p0, p1] mixed Try.func55 (by kernel_rfl) (by kernel_rfl) h

/- loop.example/prologserver/impl.MovePred : function 56 -/
def sh_i_MovePred (p0 p1 : Value) (w : World) (R : Ending → World → Prop) : Prop :=
  Run Try.prog (sOp (.box 59 (.const p1)) 0) w fun t3 w1 =>
  Run Try.prog (sCall (Value.func (.func 75) #[] #[]) [p0]) w1 fun t11 w2 =>
  Run Try.prog (sOp (.unOp .not 4 (.const t11)) 4) w2 fun t12 w3 =>
  CondV t12 (
    R (.returned (.tuple #[(Value.slice none 0 0), (Value.bool false)])) w3) (
    Run Try.prog (sBuiltin .len #[41] 3 [false] [p0]) w3 fun t14 w4 =>
  (∃ (I5 : Value → Value → Value → World → Prop) (m6 : Value → Value → Value → World → Nat), I5 (Value.int .i64 0) (Value.slice none 0 0) (Value.slice none 0 0) w4 ∧
  ∀ t15 _ t6 _ _ _ _ t7 _ _ _ _ t23 t22 t21 t20 t19 _ _ _ _ : Value, ∀ w7 : World, I5 t15 t6 t7 w7 →
  Run Try.prog (sBin .lss 3 false false t15 t14) w7 fun t16_2 w8 =>
  CondV t16_2 (
    (∃ J9 : Value → Value → World → Prop, (
    Run Try.prog (sOp (.indexAddr 41 (.const p0) (.const t15)) 0) w8 fun t17_2 w10 =>
    Run Try.prog (sOp (.load 50 (.const t17_2)) 50) w10 fun t18_2 w11 =>
    Run Try.prog (sOp (.alloc 50) 0) w11 fun t9_2 w12 =>
    Run Try.prog (sOp (.store 50 (.const t9_2) (.const t18_2)) 0) w12 fun _ w13 =>
    (∃ A14 : (Nat → Bool) → Value → Value → Value → Value → Value → World → Prop, A14 (fun _ => false) t23 t22 t21 t20 t19 { w13 with drawn := w13.drawn + 1 } ∧ (
      (∀ D15 : Nat → Bool, D15 0 = false → ∀ t23_2 t22_2 t21_2 t20_2 t19_2 : Value, ∀ w16 : World, A14 D15 t23_2 t22_2 t21_2 t20_2 t19_2 w16 →
        Run Try.prog (sOp (.fieldAddr 50 (.const t9_2) 0) 0) w16 fun t19_3 w17 =>
        A14 (setD D15 0) t23_2 t22_2 t21_2 t20_2 t19_3 w17) ∧
      (∀ D15 : Nat → Bool, D15 1 = false → D15 0 = true → ∀ t23_2 t22_2 t21_2 t20_2 t19_2 : Value, ∀ w18 : World, A14 D15 t23_2 t22_2 t21_2 t20_2 t19_2 w18 →
        Run Try.prog (sOp (.load 31 (.const t19_2)) 31) w18 fun t20_3 w19 =>
        A14 (setD D15 1) t23_2 t22_2 t21_2 t20_3 t19_2 w19) ∧
      (∀ D15 : Nat → Bool, D15 2 = false → D15 1 = true → ∀ t23_2 t22_2 t21_2 t20_2 t19_2 : Value, ∀ w20 : World, A14 D15 t23_2 t22_2 t21_2 t20_2 t19_2 w20 →
        Run Try.prog (sCall (Value.func (.func 80) #[] #[]) [t20_2]) w20 fun t21_3 w21 =>
        A14 (setD D15 2) t23_2 t22_2 t21_3 t20_2 t19_2 w21) ∧
      (∀ D15 : Nat → Bool, D15 3 = false → ∀ t23_2 t22_2 t21_2 t20_2 t19_2 : Value, ∀ w22 : World, A14 D15 t23_2 t22_2 t21_2 t20_2 t19_2 w22 →
        Run Try.prog (sOp (.load 59 (.const t3)) 59) w22 fun t22_3 w23 =>
        A14 (setD D15 3) t23_2 t22_3 t21_2 t20_2 t19_2 w23) ∧
      (∀ D15 : Nat → Bool, D15 4 = false → D15 2 = true → D15 3 = true → ∀ t23_2 t22_2 t21_2 t20_2 t19_2 : Value, ∀ w24 : World, A14 D15 t23_2 t22_2 t21_2 t20_2 t19_2 w24 →
        Run Try.prog (sBin .eql 59 false false t21_2 t22_2) w24 fun t23_3 w25 =>
        A14 (setD D15 4) t23_3 t22_2 t21_2 t20_2 t19_2 w25) ∧
      True) ∧
    ∀ D15 : Nat → Bool, D15 4 = true → D15 3 = true → D15 2 = true → D15 1 = true → D15 0 = true → ∀ t23_2 t22_2 t21_2 t20_2 t19_2 : Value, ∀ w26 : World, A14 D15 t23_2 t22_2 t21_2 t20_2 t19_2 w26 →
    CondV t23_2 (
      Run Try.prog (sOp (.load 50 (.const t9_2)) 50) w26 fun t25_2 w27 =>
      Run Try.prog (sBuildSlice 41 1 [(0, t25_2)]) w27 fun t26_2 w28 =>
      Run Try.prog (sBuiltin .append #[41, 41] 41 [false, false] [t7, t26_2]) w28 fun t27_2 w29 =>
      J9 t6 t27_2 w29) (
      Run Try.prog (sOp (.load 50 (.const t9_2)) 50) w26 fun t29_2 w30 =>
      Run Try.prog (sBuildSlice 41 1 [(0, t29_2)]) w30 fun t30_2 w31 =>
      Run Try.prog (sBuiltin .append #[41, 41] 41 [false, false] [t6, t30_2]) w31 fun t31_2 w32 =>
      J9 t31_2 t7 w32))) ∧
  ∀ t6_2 _ _ _ _ t7_2 _ _ _ _ _ _ _ _ _ _ _ _ : Value, ∀ w33 : World, J9 t6_2 t7_2 w33 →
  Run Try.prog (sBin .add 3 false true t15 (Value.int .i64 1)) w33 fun t32_2 w34 =>
  I5 t32_2 t6_2 t7_2 w34 ∧ m6 t32_2 t6_2 t7_2 w34 < m6 t15 t6 t7 w7)) (
    Run Try.prog (sBuiltin .append #[41, 41] 41 [false, false] [t6, t7]) w8 fun t35 w35 =>
  Run Try.prog (sCall (Value.func (.func 107) #[] #[]) [t35]) w35 fun t36 w36 =>
  R (.returned (.tuple #[t36, (Value.bool true)])) w36)))
theorem calls_i_MovePred {p0 p1 : Value} {w : World} {R : Ending → World → Prop} (h : sh_i_MovePred p0 p1 w R) : Calls Try.prog 56 #[p0, p1] w R :=
  calls_sh (.seq none .leaf (.seq none .leaf (.seq none .leaf (.seq none (.seq none .leaf (.one (.loop [15, 6, 7] (.seq none .leaf (.seq none .leaf (.seq (some [6, 7]) .leaf .leaf)))))) .leaf)))) [p0, p1] mixed Try.func56 (by kernel_rfl) (by kernel_rfl) h

/- loop.example/prologserver/spec.CallsOf : function 57 -/
def sh_s_CallsOf (p0 p1 : Value) (w : World) (R : Ending → World → Prop) : Prop :=
  Run Try.prog (sOp (.box 59 (.const p1)) 0) w fun t3 w1 =>
  Run Try.prog (sCall (Value.func (.func 71) #[] #[]) [p0]) w1 fun t6 w2 =>
  Run Try.prog (sOp (.unOp .not 4 (.const t6)) 4) w2 fun t7 w3 =>
  CondV t7 (
    Run Try.prog (sBuildSlice 62 0 []) w3 fun t8 w4 =>
    R (.returned t8) w4) (
    Run Try.prog (sOp (.load 59 (.const t3)) 59) w3 fun t10 w5 =>
  Run Try.prog (sCall (Value.func (.func 94) #[] #[]) [p0, t10]) w5 fun t11 w6 =>
  R (.returned t11) w6)
theorem calls_s_CallsOf {p0 p1 : Value} {w : World} {R : Ending → World → Prop} (h : sh_s_CallsOf p0 p1 w R) : Calls Try.prog 57 #[p0, p1] w R :=
  calls_sh .leaf [p0, p1] mixed Try.func57 (by kernel_rfl) (by kernel_rfl) h

/- loop.example/prologserver/impl.CallsOf : function 58 -/
def sh_i_CallsOf (p0 p1 : Value) (w : World) (R : Ending → World → Prop) : Prop :=
  Run Try.prog (sOp (.box 59 (.const p1)) 0) w fun t3 w1 =>
  Run Try.prog (sCall (Value.func (.func 75) #[] #[]) [p0]) w1 fun t6 w2 =>
  Run Try.prog (sOp (.unOp .not 4 (.const t6)) 4) w2 fun t7 w3 =>
  CondV t7 (
    R (.returned (Value.slice none 0 0)) w3) (
    Run Try.prog (sOp (.load 59 (.const t3)) 59) w3 fun t9 w4 =>
  Run Try.prog (sCall (Value.func (.func 97) #[] #[]) [p0, t9]) w4 fun t10 w5 =>
  R (.returned t10) w5)
theorem calls_i_CallsOf {p0 p1 : Value} {w : World} {R : Ending → World → Prop} (h : sh_i_CallsOf p0 p1 w R) : Calls Try.prog 58 #[p0, p1] w R :=
  calls_sh .leaf [p0, p1] mixed Try.func58 (by kernel_rfl) (by kernel_rfl) h

/- loop.example/prologserver/spec.ReachOf : function 59 -/
def sh_s_ReachOf (p0 p1 : Value) (w : World) (R : Ending → World → Prop) : Prop :=
  (∃ J1 : Value → World → Prop, (
    Run Try.prog (sCall (Value.func (.func 71) #[] #[]) [p0]) w fun t6 w2 =>
    Run Try.prog (sOp (.unOp .not 4 (.const t6)) 4) w2 fun t7 w3 =>
    GuardV t7 false (
      Run Try.prog (sCall (Value.func (.func 109) #[] #[]) [p1]) w3 fun t10 w4 =>
      Run Try.prog (sOp (.unOp .not 4 (.const t10)) 4) w4 fun t11 w5 =>
      Run Try.prog (sOp (.pick (.const t7) (.const (Value.bool true)) (.const t11)) 4) w5 fun t12 w6 =>
      J1 t12 w6) (
      Run Try.prog (sOp (.pick (.const t7) (.const (Value.bool true)) (.const undef)) 4) w3 fun t12_2 w7 =>
      J1 t12_2 w7)) ∧
  ∀ t12_3 _ _ _ _ _ _ _ : Value, ∀ w8 : World, J1 t12_3 w8 →
  CondV t12_3 (
    Run Try.prog (sBuildSlice 62 0 []) w8 fun t13 w9 =>
    R (.returned t13) w9) (
    Run Try.prog (sBuildSlice 62 0 []) w8 fun t15 w10 =>
  Run Try.prog (sCall (Value.func (.func 110) #[] #[]) [t15, p1]) w10 fun t17 w11 =>
  Run Try.prog (sCall (Value.func (.func 93) #[] #[]) [p0, t17]) w11 fun t18 w12 =>
  R (.returned t18) w12))
theorem calls_s_ReachOf {p0 p1 : Value} {w : World} {R : Ending → World → Prop} (h : sh_s_ReachOf p0 p1 w R) : Calls Try.prog 59 #[p0, p1] w R :=
  calls_sh (.seq none .leaf (.seq none (.seq (some [12]) .leaf .leaf) .leaf)) [p0, p1] mixed Try.func59 (by kernel_rfl) (by kernel_rfl) h

/- loop.example/prologserver/impl.ReachOf : function 60 -/
def sh_i_ReachOf (p0 p1 : Value) (w : World) (R : Ending → World → Prop) : Prop :=
  (∃ J1 : Value → World → Prop, (
    Run Try.prog (sCall (Value.func (.func 75) #[] #[]) [p0]) w fun t6 w2 =>
    Run Try.prog (sOp (.unOp .not 4 (.const t6)) 4) w2 fun t7 w3 =>
    GuardV t7 false (
      Run Try.prog (sCall (Value.func (.func 111) #[] #[]) [p1]) w3 fun t10 w4 =>
      Run Try.prog (sOp (.unOp .not 4 (.const t10)) 4) w4 fun t11 w5 =>
      Run Try.prog (sOp (.pick (.const t7) (.const (Value.bool true)) (.const t11)) 4) w5 fun t12 w6 =>
      J1 t12 w6) (
      Run Try.prog (sOp (.pick (.const t7) (.const (Value.bool true)) (.const undef)) 4) w3 fun t12_2 w7 =>
      J1 t12_2 w7)) ∧
  ∀ t12_3 _ _ _ _ _ _ _ : Value, ∀ w8 : World, J1 t12_3 w8 →
  CondV t12_3 (
    R (.returned (Value.slice none 0 0)) w8) (
    Run Try.prog (sCall (Value.func (.func 112) #[] #[]) [p1, (Value.slice none 0 0)]) w8 fun t15 w9 =>
  Run Try.prog (sCall (Value.func (.func 96) #[] #[]) [p0, t15]) w9 fun t16 w10 =>
  R (.returned t16) w10))
theorem calls_i_ReachOf {p0 p1 : Value} {w : World} {R : Ending → World → Prop} (h : sh_i_ReachOf p0 p1 w R) : Calls Try.prog 60 #[p0, p1] w R :=
  calls_sh (.seq none .leaf (.seq none (.seq (some [12]) .leaf .leaf) .leaf)) [p0, p1] mixed Try.func60 (by kernel_rfl) (by kernel_rfl) h

/- loop.example/prologserver/spec.SliceProgram : function 61 -/
def sh_s_SliceProgram (p0 p1 : Value) (w : World) (R : Ending → World → Prop) : Prop :=
  (∃ J1 : Value → World → Prop, (
    Run Try.prog (sCall (Value.func (.func 71) #[] #[]) [p0]) w fun t10 w2 =>
    Run Try.prog (sOp (.unOp .not 4 (.const t10)) 4) w2 fun t11 w3 =>
    GuardV t11 false (
      Run Try.prog (sCall (Value.func (.func 109) #[] #[]) [p1]) w3 fun t14 w4 =>
      Run Try.prog (sOp (.unOp .not 4 (.const t14)) 4) w4 fun t15 w5 =>
      Run Try.prog (sOp (.pick (.const t11) (.const (Value.bool true)) (.const t15)) 4) w5 fun t16 w6 =>
      J1 t16 w6) (
      Run Try.prog (sOp (.pick (.const t11) (.const (Value.bool true)) (.const undef)) 4) w3 fun t16_2 w7 =>
      J1 t16_2 w7)) ∧
  ∀ t16_3 _ _ _ _ _ _ _ : Value, ∀ w8 : World, J1 t16_3 w8 →
  CondV t16_3 (
    Run Try.prog (sBuildSlice 41 0 []) w8 fun t17 w9 =>
    R (.returned (.tuple #[t17, (Value.bool false)])) w9) (
    Run Try.prog (sBuildSlice 62 0 []) w8 fun t19 w10 =>
  Run Try.prog (sCall (Value.func (.func 110) #[] #[]) [t19, p1]) w10 fun t21 w11 =>
  Run Try.prog (sCall (Value.func (.func 93) #[] #[]) [p0, t21]) w11 fun t22 w12 =>
  Run Try.prog (sBuildSlice 41 0 []) w12 fun t23 w13 =>
  (∃ (I14 : Value → Value → World → Prop) (m15 : Value → Value → World → Nat), I14 (Value.int .i64 0) t23 w13 ∧
  ∀ t8 _ _ t7 _ _ _ _ _ _ _ _ _ _ _ _ _ _ _ _ _ _ _ : Value, ∀ w16 : World, I14 t8 t7 w16 →
  Run Try.prog (sBuiltin .len #[41] 3 [false] [p0]) w16 fun t26_2 w17 =>
  Run Try.prog (sBin .lss 3 false false t8 t26_2) w17 fun t27_2 w18 =>
  CondV t27_2 (
    (∃ J19 : Value → World → Prop, (
    Run Try.prog (sOp (.indexAddr 41 (.const p0) (.const t8)) 0) w18 fun t33_2 w20 =>
    Run Try.prog (sOp (.fieldAddr 50 (.const t33_2) 0) 0) w20 fun t34_2 w21 =>
    Run Try.prog (sOp (.load 31 (.const t34_2)) 31) w21 fun t35_2 w22 =>
    Run Try.prog (sCall (Value.func (.func 108) #[] #[]) [t35_2]) w22 fun t36_2 w23 =>
    Run Try.prog (sCall (Value.func (.func 92) #[] #[]) [t22, t36_2]) w23 fun t37_2 w24 =>
    CondV t37_2 (
      Run Try.prog (sOp (.indexAddr 41 (.const p0) (.const t8)) 0) w24 fun t41_2 w25 =>
      Run Try.prog (sOp (.load 50 (.const t41_2)) 50) w25 fun t42_2 w26 =>
      Run Try.prog (sBuildSlice 41 1 [(0, t42_2)]) w26 fun t43_2 w27 =>
      Run Try.prog (sBuiltin .append #[41, 41] 41 [false, false] [t7, t43_2]) w27 fun t44_2 w28 =>
      J19 t44_2 w28) (
      J19 t7 w24)) ∧
  ∀ t7_2 _ _ _ _ _ _ _ _ _ _ _ _ _ _ _ : Value, ∀ w29 : World, J19 t7_2 w29 →
  Run Try.prog (sBin .add 3 false true t8 (Value.int .i64 1)) w29 fun t29_2 w30 =>
  I14 t29_2 t7_2 w30 ∧ m15 t29_2 t7_2 w30 < m15 t8 t7 w16)) (
    Run Try.prog (sCall (Value.func (.func 105) #[] #[]) [t7]) w18 fun t46 w31 =>
  R (.returned (.tuple #[t46, (Value.bool true)])) w31))))
theorem calls_s_SliceProgram {p0 p1 : Value} {w : World} {R : Ending → World → Prop} (h : sh_s_SliceProgram p0 p1 w R) : Calls Try.prog 61 #[p0, p1] w R :=
  calls_sh (.seq none .leaf (.seq none (.seq (some [16]) .leaf .leaf) (.seq none .leaf (.seq none .leaf (.seq none (.seq none .leaf (.one (.loop [8, 7] (.seq none .leaf (.seq (some [7]) .leaf .leaf))))) .leaf))))) [p0, p1] mixed Try.func61 (by kernel_rfl) (by kernel_rfl) h

/- loop.example/prologserver/impl.SliceProgram : function 62 -/
def sh_i_SliceProgram (p0 p1 : Value) (w : World) (R : Ending → World → Prop) : Prop :=
  (∃ J1 : Value → World → Prop, (
    Run Try.prog (sCall (Value.func (.func 75) #[] #[]) [p0]) w fun t11 w2 =>
    Run Try.prog (sOp (.unOp .not 4 (.const t11)) 4) w2 fun t12 w3 =>
    GuardV t12 false (
      Run Try.prog (sCall (Value.func (.func 111) #[] #[]) [p1]) w3 fun t15 w4 =>
      Run Try.prog (sOp (.unOp .not 4 (.const t15)) 4) w4 fun t16 w5 =>
      Run Try.prog (sOp (.pick (.const t12) (.const (Value.bool true)) (.const t16)) 4) w5 fun t17 w6 =>
      J1 t17 w6) (
      Run Try.prog (sOp (.pick (.const t12) (.const (Value.bool true)) (.const undef)) 4) w3 fun t17_2 w7 =>
      J1 t17_2 w7)) ∧
  ∀ t17_3 _ _ _ _ _ _ _ : Value, ∀ w8 : World, J1 t17_3 w8 →
  CondV t17_3 (
    R (.returned (.tuple #[(Value.slice none 0 0), (Value.bool false)])) w8) (
    Run Try.prog (sCall (Value.func (.func 60) #[] #[]) [p0, p1]) w8 fun t20 w9 =>
  Run Try.prog (sBuiltin .len #[41] 3 [false] [p0]) w9 fun t22 w10 =>
  (∃ (I11 : Value → Value → World → Prop) (m12 : Value → Value → World → Nat), I11 (Value.int .i64 0) (Value.slice none 0 0) w10 ∧
  ∀ t23 _ t7 _ _ _ _ _ _ _ _ _ _ _ _ _ : Value, ∀ w13 : World, I11 t23 t7 w13 →
  Run Try.prog (sBin .lss 3 false false t23 t22) w13 fun t24_2 w14 =>
  CondV t24_2 (
    (∃ J15 : Value → World → Prop, (
    Run Try.prog (sOp (.indexAddr 41 (.const p0) (.const t23)) 0) w14 fun t25_2 w16 =>
    Run Try.prog (sOp (.load 50 (.const t25_2)) 50) w16 fun t26_2 w17 =>
    Run Try.prog (sOp (.alloc 50) 0) w17 fun t9_2 w18 =>
    Run Try.prog (sOp (.store 50 (.const t9_2) (.const t26_2)) 0) w18 fun _ w19 =>
    Run Try.prog (sOp (.fieldAddr 50 (.const t9_2) 0) 0) w19 fun t28_2 w20 =>
    Run Try.prog (sOp (.load 31 (.const t28_2)) 31) w20 fun t29_2 w21 =>
    Run Try.prog (sCall (Value.func (.func 80) #[] #[]) [t29_2]) w21 fun t30_2 w22 =>
    Run Try.prog (sCall (Value.func (.func 95) #[] #[]) [t20, t30_2]) w22 fun t31_2 w23 =>
    CondV t31_2 (
      Run Try.prog (sOp (.load 50 (.const t9_2)) 50) w23 fun t33_2 w24 =>
      Run Try.prog (sBuildSlice 41 1 [(0, t33_2)]) w24 fun t34_2 w25 =>
      Run Try.prog (sBuiltin .append #[41, 41] 41 [false, false] [t7, t34_2]) w25 fun t35_2 w26 =>
      J15 t35_2 w26) (
      J15 t7 w23)) ∧
  ∀ t7_2 _ _ _ _ _ _ _ _ _ _ _ _ : Value, ∀ w27 : World, J15 t7_2 w27 →
  Run Try.prog (sBin .add 3 false true t23 (Value.int .i64 1)) w27 fun t36_2 w28 =>
  I11 t36_2 t7_2 w28 ∧ m12 t36_2 t7_2 w28 < m12 t23 t7 w13)) (
    Run Try.prog (sCall (Value.func (.func 107) #[] #[]) [t7]) w14 fun t38 w29 =>
  R (.returned (.tuple #[t38, (Value.bool true)])) w29))))
theorem calls_i_SliceProgram {p0 p1 : Value} {w : World} {R : Ending → World → Prop} (h : sh_i_SliceProgram p0 p1 w R) : Calls Try.prog 62 #[p0, p1] w R :=
  calls_sh (.seq none .leaf (.seq none (.seq (some [17]) .leaf .leaf) (.seq none .leaf (.seq none .leaf (.seq none (.seq none .leaf (.one (.loop [23, 7] (.seq none .leaf (.seq none .leaf (.seq (some [7]) .leaf .leaf)))))) .leaf))))) [p0, p1] mixed Try.func62 (by kernel_rfl) (by kernel_rfl) h

/- loop.example/prologserver/spec.InstanceOf : function 63 -/
def sh_s_InstanceOf (p0 p1 : Value) (w : World) (R : Ending → World → Prop) : Prop :=
  Run Try.prog (sOp (.box 31 (.const p0)) 0) w fun t2 w1 =>
  Run Try.prog (sOp (.box 31 (.const p1)) 0) w1 fun t3 w2 =>
  (∃ J3 : Value → World → Prop, (
    Run Try.prog (sOp (.load 31 (.const t2)) 31) w2 fun t5 w4 =>
    Run Try.prog (sCall (Value.func (.func 113) #[] #[]) [t5]) w4 fun t6 w5 =>
    Run Try.prog (sOp (.unOp .not 4 (.const t6)) 4) w5 fun t7 w6 =>
    GuardV t7 false (
      Run Try.prog (sOp (.load 31 (.const t3)) 31) w6 fun t9 w7 =>
      Run Try.prog (sCall (Value.func (.func 113) #[] #[]) [t9]) w7 fun t10 w8 =>
      Run Try.prog (sOp (.unOp .not 4 (.const t10)) 4) w8 fun t11 w9 =>
      Run Try.prog (sOp (.pick (.const t7) (.const (Value.bool true)) (.const t11)) 4) w9 fun t12 w10 =>
      J3 t12 w10) (
      Run Try.prog (sOp (.pick (.const t7) (.const (Value.bool true)) (.const undef)) 4) w6 fun t12_2 w11 =>
      J3 t12_2 w11)) ∧
  ∀ t12_3 _ _ _ _ _ _ _ : Value, ∀ w12 : World, J3 t12_3 w12 →
  CondV t12_3 (
    R (.returned (Value.bool false)) w12) (
    (∃ A13 : (Nat → Bool) → Value → Value → Value → Value → Value → World → Prop, A13 (fun _ => false) (Value.bool false) undef undef undef undef { w12 with drawn := w12.drawn + 1 } ∧ (
    (∀ D14 : Nat → Bool, D14 0 = false → ∀ t4 t16 t15 t14 t13 : Value, ∀ w15 : World, A13 D14 t4 t16 t15 t14 t13 w15 →
      Run Try.prog (sOp (.load 31 (.const t3)) 31) w15 fun t13_2 w16 =>
      A13 (setD D14 0) t4 t16 t15 t14 t13_2 w16) ∧
    (∀ D14 : Nat → Bool, D14 1 = false → ∀ t4 t16 t15 t14 t13 : Value, ∀ w17 : World, A13 D14 t4 t16 t15 t14 t13 w17 →
      Run Try.prog (sOp (.load 31 (.const t2)) 31) w17 fun t14_2 w18 =>
      A13 (setD D14 1) t4 t16 t15 t14_2 t13 w18) ∧
    (∀ D14 : Nat → Bool, D14 2 = false → ∀ t4 t16 t15 t14 t13 : Value, ∀ w19 : World, A13 D14 t4 t16 t15 t14 t13 w19 →
      Run Try.prog (sOp (.makeSlice 27 (.const (Value.int .i64 26)) (.const (Value.int .i64 26))) 27) w19 fun t15_2 w20 =>
      A13 (setD D14 2) t4 t16 t15_2 t14 t13 w20) ∧
    (∀ D14 : Nat → Bool, D14 3 = false → D14 0 = true → D14 1 = true → D14 2 = true → ∀ t4 t16 t15 t14 t13 : Value, ∀ w21 : World, A13 D14 t4 t16 t15 t14 t13 w21 →
      Run Try.prog (sCall (Value.func (.func 85) #[] #[]) [t13, t14, t15]) w21 fun t16_2 w22 =>
      A13 (setD D14 3) t4 t16_2 t15 t14 t13 w22) ∧
    (∀ D14 : Nat → Bool, D14 4 = false → D14 3 = true → D14 3 = true → D14 0 = true → D14 1 = true → D14 2 = true → D14 3 = true → ∀ t4 t16 t15 t14 t13 : Value, ∀ w23 : World, A13 D14 t4 t16 t15 t14 t13 w23 →
      A13 (setD D14 4) t16 t16 t15 t14 t13 w23) ∧
    True) ∧
  ∀ D14 : Nat → Bool, D14 4 = true → D14 3 = true → D14 2 = true → D14 1 = true → D14 0 = true → ∀ t4 t16 t15 t14 t13 : Value, ∀ w24 : World, A13 D14 t4 t16 t15 t14 t13 w24 →
  R (.returned t4) w24)))
theorem calls_s_InstanceOf {p0 p1 : Value} {w : World} {R : Ending → World → Prop} (h : sh_s_InstanceOf p0 p1 w R) : Calls Try.prog 63 #[p0, p1] w R :=
  calls_sh (.seq none .leaf (.seq none (.seq (some [12]) .leaf .leaf) .leaf)) [p0, p1] mixed Try.func63 (by kernel_rfl) (by kernel_rfl) h

end Go.Proofs.Ytnoieadimkgjcaa

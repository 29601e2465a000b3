/- Made by program: the functions in a shallow form; each form gives Calls. -/
import Derived.Test.YtgdibnmabnimaaaVcCalls
import Derived.Test.YtgdibnmabnimaaaProg
import Derived.KernelRfl
set_option maxRecDepth 100000
namespace Go.Proofs.Ytgdibnmabnimaaa
open Go
theorem mixed : Try.prog.follows .mixedOrders = true := by kernel_rfl
/- loop.example/prologserver/laws.FnExactModelClosed : function 3 -/
def sh_l_FnExactModelClosed (p0 p1 : Value) (w : World) (R : Ending → World → Prop) : Prop :=
  Run Try.prog (sCall (Value.func (.func 4) #[] #[]) [p0, (Value.int .i64 1048576)]) w fun t12 w1 =>
  Run Try.prog (sBin .lss 3 false true t12 (Value.int .i64 0)) w1 fun t14 w2 =>
  CondV t14 (
    R (.returned (Value.bool true)) w2) (
    Run Try.prog (sCall (Value.func (.func 5) #[] #[]) [p1, t12]) w2 fun t17 w3 =>
  Run Try.prog (sBin .lss 3 false true t17 (Value.int .i64 0)) w3 fun t19 w4 =>
  CondV t19 (
    R (.returned (Value.bool true)) w4) (
    Run Try.prog (sCall (Value.func (.func 7) #[] #[]) [p0]) w4 fun t21 w5 =>
  Run Try.prog (sCall (Value.func (.func 8) #[] #[]) [p1]) w5 fun t23 w6 =>
  Run Try.prog (sCall (Value.func (.func 6) #[] #[]) [t21, t23]) w6 fun t24 w7 =>
  Run Try.prog (sCall (Value.func (.func 7) #[] #[]) [p0]) w7 fun t26 w8 =>
  Run Try.prog (sCall (Value.func (.func 8) #[] #[]) [p1]) w8 fun t28 w9 =>
  Run Try.prog (sCall (Value.func (.func 9) #[] #[]) [t26, t28]) w9 fun t31 w10 =>
  Run Try.prog (sBin .neq 4 false false t31 t24) w10 fun t34 w11 =>
  CondV t34 (
    R (.returned (Value.bool false)) w11) (
    Run Try.prog (sCall (Value.func (.func 7) #[] #[]) [p0]) w11 fun t37 w12 =>
  Run Try.prog (sCall (Value.func (.func 10) #[] #[]) [t26, t37]) w12 fun t38 w13 =>
  Run Try.prog (sOp (.unOp .not 4 (.const t38)) 4) w13 fun t39 w14 =>
  CondV t39 (
    R (.returned (Value.bool false)) w14) (
    Run Try.prog (sCall (Value.func (.func 8) #[] #[]) [p1]) w14 fun t42 w15 =>
  Run Try.prog (sCall (Value.func (.func 11) #[] #[]) [t28, t42]) w15 fun t43 w16 =>
  Run Try.prog (sOp (.unOp .not 4 (.const t43)) 4) w16 fun t44 w17 =>
  CondV t44 (
    R (.returned (Value.bool false)) w17) (
    R (.returned (Value.bool true)) w17)))))
theorem calls_l_FnExactModelClosed {p0 p1 : Value} {w : World} {R : Ending → World → Prop} (h : sh_l_FnExactModelClosed p0 p1 w R) : Calls Try.prog 3 #[p0, p1] w R :=
  calls_sh .leaf [p0, p1] mixed Try.func3 (by kernel_rfl) (by kernel_rfl) h


/- loop.example/prologserver/laws.szClauseS : function 4 -/
def sh_l_szClauseS (p0 p1 : Value) (w : World) (R : Ending → World → Prop) : Prop :=
  Run Try.prog (sBuiltin .len #[22] 3 [false] [p0]) w fun t8 w1 =>
  Run Try.prog (sBin .sub 3 false false p1 t8) w1 fun t9 w2 =>
  Run Try.prog (sBin .lss 3 false true t9 (Value.int .i64 0)) w2 fun t11 w3 =>
  CondV t11 (
    R (.returned (Value.int .i64 (-1))) w3) (
    (∃ (I4 : Value → Value → World → Prop) (m5 : Value → Value → World → Nat), I4 (Value.int .i64 0) t9 w3 ∧
  ∀ t5 _ _ _ _ _ t1 _ _ _ _ _ _ _ _ _ _ : Value, ∀ w6 : World, I4 t5 t1 w6 →
  Run Try.prog (sBuiltin .len #[22] 3 [false] [p0]) w6 fun t14_2 w7 =>
  Run Try.prog (sBin .lss 3 false false t5 t14_2) w7 fun t15_2 w8 =>
  CondV t15_2 (
    Run Try.prog (sOp (.indexAddr 22 (.const p0) (.const t5)) 0) w8 fun t20_2 w9 =>
  Run Try.prog (sOp (.load 38 (.const t20_2)) 38) w9 fun t21_2 w10 =>
  Run Try.prog (sCall (Value.func (.func 12) #[] #[]) [t21_2, t1]) w10 fun t23_2 w11 =>
  Run Try.prog (sBin .lss 3 false true t23_2 (Value.int .i64 0)) w11 fun t25_2 w12 =>
  CondV t25_2 (
    R (.returned (Value.int .i64 (-1))) w12) (
    Run Try.prog (sBin .add 3 false true t5 (Value.int .i64 1)) w12 fun t17_2 w13 =>
  I4 t17_2 t23_2 w13 ∧ m5 t17_2 t23_2 w13 < m5 t5 t1 w6)) (
    R (.returned t1) w8)))
theorem calls_l_szClauseS {p0 p1 : Value} {w : World} {R : Ending → World → Prop} (h : sh_l_szClauseS p0 p1 w R) : Calls Try.prog 4 #[p0, p1] w R :=
  calls_sh (.seq none .leaf (.seq none .leaf (.seq none .leaf (.seq none (.seq none .leaf (.one (.loop [5, 1] .leaf))) .leaf)))) [p0, p1] mixed Try.func4 (by kernel_rfl) (by kernel_rfl) h


/- loop.example/prologserver/laws.szTermS : function 5 -/
def sh_l_szTermS (p0 p1 : Value) (w : World) (R : Ending → World → Prop) : Prop :=
  Run Try.prog (sBuiltin .len #[23] 3 [false] [p0]) w fun t8 w1 =>
  Run Try.prog (sBin .sub 3 false false p1 t8) w1 fun t9 w2 =>
  Run Try.prog (sBin .lss 3 false true t9 (Value.int .i64 0)) w2 fun t11 w3 =>
  CondV t11 (
    R (.returned (Value.int .i64 (-1))) w3) (
    (∃ (I4 : Value → Value → World → Prop) (m5 : Value → Value → World → Nat), I4 (Value.int .i64 0) t9 w3 ∧
  ∀ t5 _ _ _ _ _ t1 _ _ _ _ _ _ _ _ _ _ : Value, ∀ w6 : World, I4 t5 t1 w6 →
  Run Try.prog (sBuiltin .len #[23] 3 [false] [p0]) w6 fun t14_2 w7 =>
  Run Try.prog (sBin .lss 3 false false t5 t14_2) w7 fun t15_2 w8 =>
  CondV t15_2 (
    Run Try.prog (sOp (.indexAddr 23 (.const p0) (.const t5)) 0) w8 fun t20_2 w9 =>
  Run Try.prog (sOp (.load 36 (.const t20_2)) 36) w9 fun t21_2 w10 =>
  Run Try.prog (sCall (Value.func (.func 13) #[] #[]) [t21_2, t1]) w10 fun t23_2 w11 =>
  Run Try.prog (sBin .lss 3 false true t23_2 (Value.int .i64 0)) w11 fun t25_2 w12 =>
  CondV t25_2 (
    R (.returned (Value.int .i64 (-1))) w12) (
    Run Try.prog (sBin .add 3 false true t5 (Value.int .i64 1)) w12 fun t17_2 w13 =>
  I4 t17_2 t23_2 w13 ∧ m5 t17_2 t23_2 w13 < m5 t5 t1 w6)) (
    R (.returned t1) w8)))
theorem calls_l_szTermS {p0 p1 : Value} {w : World} {R : Ending → World → Prop} (h : sh_l_szTermS p0 p1 w R) : Calls Try.prog 5 #[p0, p1] w R :=
  calls_sh (.seq none .leaf (.seq none .leaf (.seq none .leaf (.seq none (.seq none .leaf (.one (.loop [5, 1] .leaf))) .leaf)))) [p0, p1] mixed Try.func5 (by kernel_rfl) (by kernel_rfl) h


/- loop.example/prologserver/spec.ModelClosed : function 6 -/
def sh_s_ModelClosed (p0 p1 : Value) (w : World) (R : Ending → World → Prop) : Prop :=
  (∃ J1 : Value → World → Prop, (
    Run Try.prog (sCall (Value.func (.func 14) #[] #[]) [p0]) w fun t9 w2 =>
    Run Try.prog (sOp (.unOp .not 4 (.const t9)) 4) w2 fun t10 w3 =>
    GuardV t10 false (
      Run Try.prog (sCall (Value.func (.func 15) #[] #[]) [p1]) w3 fun t13 w4 =>
      Run Try.prog (sOp (.unOp .not 4 (.const t13)) 4) w4 fun t14 w5 =>
      Run Try.prog (sOp (.pick (.const t10) (.const (Value.bool true)) (.const t14)) 4) w5 fun t15 w6 =>
      J1 t15 w6) (
      Run Try.prog (sOp (.pick (.const t10) (.const (Value.bool true)) (.const undef)) 4) w3 fun t15_2 w7 =>
      J1 t15_2 w7)) ∧
  ∀ t15_3 _ _ _ _ _ _ _ : Value, ∀ w8 : World, J1 t15_3 w8 →
  CondV t15_3 (
    R (.returned (Value.bool false)) w8) (
    (∃ (I9 : Value → World → Prop) (m10 : Value → World → Nat), I9 (Value.int .i64 0) w8 ∧
  ∀ t5 _ _ _ _ _ _ _ _ _ _ _ _ _ _ _ _ _ t6 t29 t28 t27 t26 t25 t24 t23 t22 _ _ _ _ : Value, ∀ w11 : World, I9 t5 w11 →
  Run Try.prog (sBuiltin .len #[27] 3 [false] [p0]) w11 fun t18_2 w12 =>
  Run Try.prog (sBin .lss 3 false false t5 t18_2) w12 fun t19_2 w13 =>
  CondV t19_2 (
    (∃ A14 : (Nat → Bool) → Value → Value → Value → Value → Value → Value → Value → Value → Value → World → Prop, A14 (fun _ => false) t6 t29 t28 t27 t26 t25 t24 t23 t22 { w13 with drawn := w13.drawn + 1 } ∧ (
    (∀ D15 : Nat → Bool, D15 0 = false → ∀ t6_2 t29_2 t28_2 t27_2 t26_2 t25_2 t24_2 t23_2 t22_2 : Value, ∀ w16 : World, A14 D15 t6_2 t29_2 t28_2 t27_2 t26_2 t25_2 t24_2 t23_2 t22_2 w16 →
      Run Try.prog (sBuildSlice 29 0 []) w16 fun t22_3 w17 =>
      A14 (setD D15 0) t6_2 t29_2 t28_2 t27_2 t26_2 t25_2 t24_2 t23_2 t22_3 w17) ∧
    (∀ D15 : Nat → Bool, D15 1 = false → ∀ t6_2 t29_2 t28_2 t27_2 t26_2 t25_2 t24_2 t23_2 t22_2 : Value, ∀ w18 : World, A14 D15 t6_2 t29_2 t28_2 t27_2 t26_2 t25_2 t24_2 t23_2 t22_2 w18 →
      A14 (setD D15 1) t6_2 t29_2 t28_2 t27_2 t26_2 t25_2 t24_2 p0 t22_2 w18) ∧
    (∀ D15 : Nat → Bool, D15 2 = false → ∀ t6_2 t29_2 t28_2 t27_2 t26_2 t25_2 t24_2 t23_2 t22_2 : Value, ∀ w19 : World, A14 D15 t6_2 t29_2 t28_2 t27_2 t26_2 t25_2 t24_2 t23_2 t22_2 w19 →
      A14 (setD D15 2) t6_2 t29_2 t28_2 t27_2 t26_2 t25_2 t5 t23_2 t22_2 w19) ∧
    (∀ D15 : Nat → Bool, D15 3 = false → D15 1 = true → D15 2 = true → ∀ t6_2 t29_2 t28_2 t27_2 t26_2 t25_2 t24_2 t23_2 t22_2 : Value, ∀ w20 : World, A14 D15 t6_2 t29_2 t28_2 t27_2 t26_2 t25_2 t24_2 t23_2 t22_2 w20 →
      Run Try.prog (sOp (.indexAddr 27 (.const t23_2) (.const t24_2)) 0) w20 fun t25_3 w21 =>
      A14 (setD D15 3) t6_2 t29_2 t28_2 t27_2 t26_2 t25_3 t24_2 t23_2 t22_2 w21) ∧
    (∀ D15 : Nat → Bool, D15 4 = false → D15 3 = true → ∀ t6_2 t29_2 t28_2 t27_2 t26_2 t25_2 t24_2 t23_2 t22_2 : Value, ∀ w22 : World, A14 D15 t6_2 t29_2 t28_2 t27_2 t26_2 t25_2 t24_2 t23_2 t22_2 w22 →
      Run Try.prog (sOp (.load 46 (.const t25_2)) 46) w22 fun t26_3 w23 =>
      A14 (setD D15 4) t6_2 t29_2 t28_2 t27_2 t26_3 t25_2 t24_2 t23_2 t22_2 w23) ∧
    (∀ D15 : Nat → Bool, D15 5 = false → ∀ t6_2 t29_2 t28_2 t27_2 t26_2 t25_2 t24_2 t23_2 t22_2 : Value, ∀ w24 : World, A14 D15 t6_2 t29_2 t28_2 t27_2 t26_2 t25_2 t24_2 t23_2 t22_2 w24 →
      A14 (setD D15 5) t6_2 t29_2 t28_2 p1 t26_2 t25_2 t24_2 t23_2 t22_2 w24) ∧
    (∀ D15 : Nat → Bool, D15 6 = false → ∀ t6_2 t29_2 t28_2 t27_2 t26_2 t25_2 t24_2 t23_2 t22_2 : Value, ∀ w25 : World, A14 D15 t6_2 t29_2 t28_2 t27_2 t26_2 t25_2 t24_2 t23_2 t22_2 w25 →
      Run Try.prog (sOp (.makeSlice 29 (.const (Value.int .i64 26)) (.const (Value.int .i64 26))) 29) w25 fun t28_3 w26 =>
      A14 (setD D15 6) t6_2 t29_2 t28_3 t27_2 t26_2 t25_2 t24_2 t23_2 t22_2 w26) ∧
    (∀ D15 : Nat → Bool, D15 7 = false → D15 0 = true → D15 4 = true → D15 5 = true → D15 6 = true → ∀ t6_2 t29_2 t28_2 t27_2 t26_2 t25_2 t24_2 t23_2 t22_2 : Value, ∀ w27 : World, A14 D15 t6_2 t29_2 t28_2 t27_2 t26_2 t25_2 t24_2 t23_2 t22_2 w27 →
      Run Try.prog (sCall (Value.func (.func 16) #[] #[]) [t22_2, t26_2, (Value.int .i64 0), t27_2, t28_2]) w27 fun t29_3 w28 =>
      A14 (setD D15 7) t6_2 t29_3 t28_2 t27_2 t26_2 t25_2 t24_2 t23_2 t22_2 w28) ∧
    (∀ D15 : Nat → Bool, D15 8 = false → D15 7 = true → D15 7 = true → D15 0 = true → D15 1 = true → D15 2 = true → D15 3 = true → D15 4 = true → D15 5 = true → D15 6 = true → D15 7 = true → ∀ t6_2 t29_2 t28_2 t27_2 t26_2 t25_2 t24_2 t23_2 t22_2 : Value, ∀ w29 : World, A14 D15 t6_2 t29_2 t28_2 t27_2 t26_2 t25_2 t24_2 t23_2 t22_2 w29 →
      A14 (setD D15 8) t29_2 t29_2 t28_2 t27_2 t26_2 t25_2 t24_2 t23_2 t22_2 w29) ∧
    True) ∧
  ∀ D15 : Nat → Bool, D15 8 = true → D15 7 = true → D15 6 = true → D15 5 = true → D15 4 = true → D15 3 = true → D15 2 = true → D15 1 = true → D15 0 = true → ∀ t6_2 t29_2 t28_2 t27_2 t26_2 t25_2 t24_2 t23_2 t22_2 : Value, ∀ w30 : World, A14 D15 t6_2 t29_2 t28_2 t27_2 t26_2 t25_2 t24_2 t23_2 t22_2 w30 →
  (∃ (I31 : Value → World → Prop) (m32 : Value → World → Nat), I31 (Value.int .i64 0) w30 ∧
  ∀ t7_2 _ _ _ _ _ _ _ _ _ _ _ _ _ _ : Value, ∀ w33 : World, I31 t7_2 w33 →
  Run Try.prog (sBuiltin .len #[29] 3 [false] [t6_2]) w33 fun t32_3 w34 =>
  Run Try.prog (sBin .lss 3 false false t7_2 t32_3) w34 fun t33_3 w35 =>
  CondV t33_3 (
    Run Try.prog (sOp (.indexAddr 29 (.const t6_2) (.const t7_2)) 0) w35 fun t39_3 w36 =>
  Run Try.prog (sOp (.load 44 (.const t39_3)) 44) w36 fun t40_3 w37 =>
  Run Try.prog (sCall (Value.func (.func 17) #[] #[]) [p1, t40_3]) w37 fun t41_3 w38 =>
  Run Try.prog (sOp (.unOp .not 4 (.const t41_3)) 4) w38 fun t42_3 w39 =>
  CondV t42_3 (
    R (.returned (Value.bool false)) w39) (
    Run Try.prog (sBin .add 3 false true t7_2 (Value.int .i64 1)) w39 fun t35_3 w40 =>
  I31 t35_3 w40 ∧ m32 t35_3 w40 < m32 t7_2 w33)) (
    Run Try.prog (sBin .add 3 false true t5 (Value.int .i64 1)) w35 fun t21_2 w41 =>
  I9 t21_2 w41 ∧ m10 t21_2 w41 < m10 t5 w11)))) (
    R (.returned (Value.bool true)) w13))))
theorem calls_s_ModelClosed {p0 p1 : Value} {w : World} {R : Ending → World → Prop} (h : sh_s_ModelClosed p0 p1 w R) : Calls Try.prog 6 #[p0, p1] w R :=
  calls_sh (.seq none .leaf (.seq none (.seq (some [15]) .leaf .leaf) (.seq none (.seq none .leaf (.one (.loop [5] (.seq none .leaf (.seq none (.one (.seq none .leaf (.seq none .leaf (.one (.loop [7] .leaf))))) .leaf))))) .leaf))) [p0, p1] mixed Try.func6 (by kernel_rfl) (by kernel_rfl) h


/- loop.example/prologserver/laws.toClauseS : function 7 -/
def sh_l_toClauseS (p0 : Value) (w : World) (R : Ending → World → Prop) : Prop :=
  Run Try.prog (sBuiltin .len #[22] 3 [false] [p0]) w fun t6 w1 =>
  Run Try.prog (sOp (.makeSlice 27 (.const t6) (.const t6)) 27) w1 fun t7 w2 =>
  (∃ (I3 : Value → World → Prop) (m4 : Value → World → Nat), I3 (Value.int .i64 0) w2 ∧
  ∀ t4 _ _ _ _ _ _ _ _ _ _ _ _ _ _ : Value, ∀ w5 : World, I3 t4 w5 →
  Run Try.prog (sBuiltin .len #[22] 3 [false] [p0]) w5 fun t10_2 w6 =>
  Run Try.prog (sBin .lss 3 false false t4 t10_2) w6 fun t11_2 w7 =>
  CondV t11_2 (
    Run Try.prog (sOp (.indexAddr 22 (.const p0) (.const t4)) 0) w7 fun t18_2 w8 =>
  Run Try.prog (sOp (.load 38 (.const t18_2)) 38) w8 fun t19_2 w9 =>
  Run Try.prog (sCall (Value.func (.func 18) #[] #[]) [t19_2]) w9 fun t20_2 w10 =>
  Run Try.prog (sOp (.indexAddr 27 (.const t7) (.const t4)) 0) w10 fun t21_2 w11 =>
  Run Try.prog (sOp (.store 46 (.const t21_2) (.const t20_2)) 0) w11 fun _ w12 =>
  Run Try.prog (sBin .add 3 false true t4 (Value.int .i64 1)) w12 fun t13_2 w13 =>
  I3 t13_2 w13 ∧ m4 t13_2 w13 < m4 t4 w5) (
    R (.returned t7) w7))
theorem calls_l_toClauseS {p0 : Value} {w : World} {R : Ending → World → Prop} (h : sh_l_toClauseS p0 w R) : Calls Try.prog 7 #[p0] w R :=
  calls_sh (.seq none .leaf (.seq none .leaf (.seq none (.seq none .leaf (.one (.loop [4] .leaf))) .leaf))) [p0] mixed Try.func7 (by kernel_rfl) (by kernel_rfl) h


/- loop.example/prologserver/laws.toTermS : function 8 -/
def sh_l_toTermS (p0 : Value) (w : World) (R : Ending → World → Prop) : Prop :=
  Run Try.prog (sBuiltin .len #[23] 3 [false] [p0]) w fun t6 w1 =>
  Run Try.prog (sOp (.makeSlice 29 (.const t6) (.const t6)) 29) w1 fun t7 w2 =>
  (∃ (I3 : Value → World → Prop) (m4 : Value → World → Nat), I3 (Value.int .i64 0) w2 ∧
  ∀ t4 _ _ _ _ _ _ _ _ _ _ _ _ _ _ : Value, ∀ w5 : World, I3 t4 w5 →
  Run Try.prog (sBuiltin .len #[23] 3 [false] [p0]) w5 fun t10_2 w6 =>
  Run Try.prog (sBin .lss 3 false false t4 t10_2) w6 fun t11_2 w7 =>
  CondV t11_2 (
    Run Try.prog (sOp (.indexAddr 23 (.const p0) (.const t4)) 0) w7 fun t18_2 w8 =>
  Run Try.prog (sOp (.load 36 (.const t18_2)) 36) w8 fun t19_2 w9 =>
  Run Try.prog (sCall (Value.func (.func 19) #[] #[]) [t19_2]) w9 fun t20_2 w10 =>
  Run Try.prog (sOp (.indexAddr 29 (.const t7) (.const t4)) 0) w10 fun t21_2 w11 =>
  Run Try.prog (sOp (.store 44 (.const t21_2) (.const t20_2)) 0) w11 fun _ w12 =>
  Run Try.prog (sBin .add 3 false true t4 (Value.int .i64 1)) w12 fun t13_2 w13 =>
  I3 t13_2 w13 ∧ m4 t13_2 w13 < m4 t4 w5) (
    R (.returned t7) w7))
theorem calls_l_toTermS {p0 : Value} {w : World} {R : Ending → World → Prop} (h : sh_l_toTermS p0 w R) : Calls Try.prog 8 #[p0] w R :=
  calls_sh (.seq none .leaf (.seq none .leaf (.seq none (.seq none .leaf (.one (.loop [4] .leaf))) .leaf))) [p0] mixed Try.func8 (by kernel_rfl) (by kernel_rfl) h


/- loop.example/prologserver/impl.ModelClosed : function 9 -/
def sh_i_ModelClosed (p0 p1 : Value) (w : World) (R : Ending → World → Prop) : Prop :=
  Run Try.prog (sOp (.box 29 (.const p1)) 0) w fun t3 w1 =>
  (∃ J2 : Value → World → Prop, (
    Run Try.prog (sCall (Value.func (.func 20) #[] #[]) [p0]) w1 fun t9 w3 =>
    Run Try.prog (sOp (.unOp .not 4 (.const t9)) 4) w3 fun t10 w4 =>
    GuardV t10 false (
      Run Try.prog (sOp (.load 29 (.const t3)) 29) w4 fun t12 w5 =>
      Run Try.prog (sBuiltin .len #[29] 3 [false] [t12]) w5 fun t13 w6 =>
      Run Try.prog (sBin .gtr 3 false true t13 (Value.int .i64 60)) w6 fun t14 w7 =>
      Run Try.prog (sOp (.pick (.const t10) (.const (Value.bool true)) (.const t14)) 4) w7 fun t15 w8 =>
      GuardV t15 false (
        Run Try.prog (sOp (.load 29 (.const t3)) 29) w8 fun t17 w9 =>
        Run Try.prog (sCall (Value.func (.func 21) #[] #[]) [t17, (Value.func (.func 22) #[] #[])]) w9 fun t18 w10 =>
        Run Try.prog (sOp (.pick (.const t15) (.const (Value.bool true)) (.const t18)) 4) w10 fun t19 w11 =>
        J2 t19 w11) (
        Run Try.prog (sOp (.pick (.const t15) (.const (Value.bool true)) (.const undef)) 4) w8 fun t19_2 w12 =>
        J2 t19_2 w12)) (
      Run Try.prog (sOp (.pick (.const t10) (.const (Value.bool true)) (.const undef)) 4) w4 fun t15_2 w13 =>
      GuardV t15_2 false (
        Run Try.prog (sOp (.load 29 (.const t3)) 29) w13 fun t17_2 w14 =>
        Run Try.prog (sCall (Value.func (.func 21) #[] #[]) [t17_2, (Value.func (.func 22) #[] #[])]) w14 fun t18_2 w15 =>
        Run Try.prog (sOp (.pick (.const t15_2) (.const (Value.bool true)) (.const t18_2)) 4) w15 fun t19_3 w16 =>
        J2 t19_3 w16) (
        Run Try.prog (sOp (.pick (.const t15_2) (.const (Value.bool true)) (.const undef)) 4) w13 fun t19_4 w17 =>
        J2 t19_4 w17))) ∧
  ∀ t19_5 _ _ _ _ _ _ _ _ _ _ _ : Value, ∀ w18 : World, J2 t19_5 w18 →
  CondV t19_5 (
    R (.returned (Value.bool false)) w18) (
    Run Try.prog (sOp (.alloc 4) 0) w18 fun t5 w19 =>
  Run Try.prog (sOp (.store 4 (.const t5) (.const (Value.bool true))) 0) w19 fun _u w20 =>
  Run Try.prog (sBuiltin .len #[27] 3 [false] [p0]) w20 fun t21 w21 =>
  (∃ (I22 : Value → World → Prop) (m23 : Value → World → Nat), I22 (Value.int .i64 0) w21 ∧
  ∀ t22 _ _ _ _ _ _ _ _ _ _ : Value, ∀ w24 : World, I22 t22 w24 →
  Run Try.prog (sBin .lss 3 false false t22 t21) w24 fun t23_2 w25 =>
  CondV t23_2 (
    Run Try.prog (sOp (.indexAddr 27 (.const p0) (.const t22)) 0) w25 fun t24_2 w26 =>
  Run Try.prog (sOp (.load 46 (.const t24_2)) 46) w26 fun t25_2 w27 =>
  Run Try.prog (sOp (.alloc 46) 0) w27 fun t7_2 w28 =>
  Run Try.prog (sOp (.store 46 (.const t7_2) (.const t25_2)) 0) w28 fun _ w29 =>
  Run Try.prog (sOp (.load 46 (.const t7_2)) 46) w29 fun t26_2 w30 =>
  Run Try.prog (sOp (.load 29 (.const t3)) 29) w30 fun t27_2 w31 =>
  Run Try.prog (sOp (.makeMap 53 none) 53) w31 fun t28_2 w32 =>
  Run Try.prog (sMakeFunc (.func 25) [] [t5, t3]) w32 fun t29_2 w33 =>
  Run Try.prog (sCall (Value.func (.func 24) #[] #[]) [t26_2, (Value.int .i64 0), t27_2, t28_2, t29_2]) w33 fun _ w34 =>
  Run Try.prog (sBin .add 3 false true t22 (Value.int .i64 1)) w34 fun t31_2 w35 =>
  I22 t31_2 w35 ∧ m23 t31_2 w35 < m23 t22 w24) (
    Run Try.prog (sOp (.load 4 (.const t5)) 4) w25 fun t32 w36 =>
  R (.returned t32) w36))))
theorem calls_i_ModelClosed {p0 p1 : Value} {w : World} {R : Ending → World → Prop} (h : sh_i_ModelClosed p0 p1 w R) : Calls Try.prog 9 #[p0, p1] w R :=
  calls_sh (.seq none .leaf (.seq none (.seq (some [19]) .leaf .leaf) (.seq none .leaf (.seq none (.seq none .leaf (.one (.loop [22] .leaf))) .leaf)))) [p0, p1] mixed Try.func9 (by kernel_rfl) (by kernel_rfl) h


/- loop.example/prologserver/laws.eqClauseS : function 10 -/
def sh_l_eqClauseS (p0 p1 : Value) (w : World) (R : Ending → World → Prop) : Prop :=
  Run Try.prog (sBuiltin .len #[27] 3 [false] [p0]) w fun t7 w1 =>
  Run Try.prog (sBuiltin .len #[27] 3 [false] [p1]) w1 fun t9 w2 =>
  Run Try.prog (sBin .neq 3 false false t7 t9) w2 fun t10 w3 =>
  CondV t10 (
    R (.returned (Value.bool false)) w3) (
    (∃ (I4 : Value → World → Prop) (m5 : Value → World → Nat), I4 (Value.int .i64 0) w3 ∧
  ∀ t5 _ _ _ t26 t25 t24 t23 t22 t21 t20 t19 t18 t17 _ _ _ _ : Value, ∀ w6 : World, I4 t5 w6 →
  Run Try.prog (sBuiltin .len #[27] 3 [false] [p0]) w6 fun t13_2 w7 =>
  Run Try.prog (sBin .lss 3 false false t5 t13_2) w7 fun t14_2 w8 =>
  CondV t14_2 (
    (∃ A9 : (Nat → Bool) → Value → Value → Value → Value → Value → Value → Value → Value → Value → Value → World → Prop, A9 (fun _ => false) t26 t25 t24 t23 t22 t21 t20 t19 t18 t17 { w8 with drawn := w8.drawn + 1 } ∧ (
    (∀ D10 : Nat → Bool, D10 0 = false → ∀ t26_2 t25_2 t24_2 t23_2 t22_2 t21_2 t20_2 t19_2 t18_2 t17_2 : Value, ∀ w11 : World, A9 D10 t26_2 t25_2 t24_2 t23_2 t22_2 t21_2 t20_2 t19_2 t18_2 t17_2 w11 →
      A9 (setD D10 0) t26_2 t25_2 t24_2 t23_2 t22_2 t21_2 t20_2 t19_2 t18_2 p0 w11) ∧
    (∀ D10 : Nat → Bool, D10 1 = false → ∀ t26_2 t25_2 t24_2 t23_2 t22_2 t21_2 t20_2 t19_2 t18_2 t17_2 : Value, ∀ w12 : World, A9 D10 t26_2 t25_2 t24_2 t23_2 t22_2 t21_2 t20_2 t19_2 t18_2 t17_2 w12 →
      A9 (setD D10 1) t26_2 t25_2 t24_2 t23_2 t22_2 t21_2 t20_2 t19_2 t5 t17_2 w12) ∧
    (∀ D10 : Nat → Bool, D10 2 = false → D10 0 = true → D10 1 = true → ∀ t26_2 t25_2 t24_2 t23_2 t22_2 t21_2 t20_2 t19_2 t18_2 t17_2 : Value, ∀ w13 : World, A9 D10 t26_2 t25_2 t24_2 t23_2 t22_2 t21_2 t20_2 t19_2 t18_2 t17_2 w13 →
      Run Try.prog (sOp (.indexAddr 27 (.const t17_2) (.const t18_2)) 0) w13 fun t19_3 w14 =>
      A9 (setD D10 2) t26_2 t25_2 t24_2 t23_2 t22_2 t21_2 t20_2 t19_3 t18_2 t17_2 w14) ∧
    (∀ D10 : Nat → Bool, D10 3 = false → D10 2 = true → ∀ t26_2 t25_2 t24_2 t23_2 t22_2 t21_2 t20_2 t19_2 t18_2 t17_2 : Value, ∀ w15 : World, A9 D10 t26_2 t25_2 t24_2 t23_2 t22_2 t21_2 t20_2 t19_2 t18_2 t17_2 w15 →
      Run Try.prog (sOp (.load 46 (.const t19_2)) 46) w15 fun t20_3 w16 =>
      A9 (setD D10 3) t26_2 t25_2 t24_2 t23_2 t22_2 t21_2 t20_3 t19_2 t18_2 t17_2 w16) ∧
    (∀ D10 : Nat → Bool, D10 4 = false → ∀ t26_2 t25_2 t24_2 t23_2 t22_2 t21_2 t20_2 t19_2 t18_2 t17_2 : Value, ∀ w17 : World, A9 D10 t26_2 t25_2 t24_2 t23_2 t22_2 t21_2 t20_2 t19_2 t18_2 t17_2 w17 →
      A9 (setD D10 4) t26_2 t25_2 t24_2 t23_2 t22_2 p1 t20_2 t19_2 t18_2 t17_2 w17) ∧
    (∀ D10 : Nat → Bool, D10 5 = false → ∀ t26_2 t25_2 t24_2 t23_2 t22_2 t21_2 t20_2 t19_2 t18_2 t17_2 : Value, ∀ w18 : World, A9 D10 t26_2 t25_2 t24_2 t23_2 t22_2 t21_2 t20_2 t19_2 t18_2 t17_2 w18 →
      A9 (setD D10 5) t26_2 t25_2 t24_2 t23_2 t5 t21_2 t20_2 t19_2 t18_2 t17_2 w18) ∧
    (∀ D10 : Nat → Bool, D10 6 = false → D10 4 = true → D10 5 = true → ∀ t26_2 t25_2 t24_2 t23_2 t22_2 t21_2 t20_2 t19_2 t18_2 t17_2 : Value, ∀ w19 : World, A9 D10 t26_2 t25_2 t24_2 t23_2 t22_2 t21_2 t20_2 t19_2 t18_2 t17_2 w19 →
      Run Try.prog (sOp (.indexAddr 27 (.const t21_2) (.const t22_2)) 0) w19 fun t23_3 w20 =>
      A9 (setD D10 6) t26_2 t25_2 t24_2 t23_3 t22_2 t21_2 t20_2 t19_2 t18_2 t17_2 w20) ∧
    (∀ D10 : Nat → Bool, D10 7 = false → D10 6 = true → ∀ t26_2 t25_2 t24_2 t23_2 t22_2 t21_2 t20_2 t19_2 t18_2 t17_2 : Value, ∀ w21 : World, A9 D10 t26_2 t25_2 t24_2 t23_2 t22_2 t21_2 t20_2 t19_2 t18_2 t17_2 w21 →
      Run Try.prog (sOp (.load 46 (.const t23_2)) 46) w21 fun t24_3 w22 =>
      A9 (setD D10 7) t26_2 t25_2 t24_3 t23_2 t22_2 t21_2 t20_2 t19_2 t18_2 t17_2 w22) ∧
    (∀ D10 : Nat → Bool, D10 8 = false → D10 3 = true → D10 7 = true → ∀ t26_2 t25_2 t24_2 t23_2 t22_2 t21_2 t20_2 t19_2 t18_2 t17_2 : Value, ∀ w23 : World, A9 D10 t26_2 t25_2 t24_2 t23_2 t22_2 t21_2 t20_2 t19_2 t18_2 t17_2 w23 →
      Run Try.prog (sCall (Value.func (.func 28) #[] #[]) [t20_2, t24_2]) w23 fun t25_3 w24 =>
      A9 (setD D10 8) t26_2 t25_3 t24_2 t23_2 t22_2 t21_2 t20_2 t19_2 t18_2 t17_2 w24) ∧
    (∀ D10 : Nat → Bool, D10 9 = false → D10 8 = true → ∀ t26_2 t25_2 t24_2 t23_2 t22_2 t21_2 t20_2 t19_2 t18_2 t17_2 : Value, ∀ w25 : World, A9 D10 t26_2 t25_2 t24_2 t23_2 t22_2 t21_2 t20_2 t19_2 t18_2 t17_2 w25 →
      Run Try.prog (sOp (.unOp .not 4 (.const t25_2)) 4) w25 fun t26_3 w26 =>
      A9 (setD D10 9) t26_3 t25_2 t24_2 t23_2 t22_2 t21_2 t20_2 t19_2 t18_2 t17_2 w26) ∧
    True) ∧
  ∀ D10 : Nat → Bool, D10 9 = true → D10 8 = true → D10 7 = true → D10 6 = true → D10 5 = true → D10 4 = true → D10 3 = true → D10 2 = true → D10 1 = true → D10 0 = true → ∀ t26_2 t25_2 t24_2 t23_2 t22_2 t21_2 t20_2 t19_2 t18_2 t17_2 : Value, ∀ w27 : World, A9 D10 t26_2 t25_2 t24_2 t23_2 t22_2 t21_2 t20_2 t19_2 t18_2 t17_2 w27 →
  CondV t26_2 (
    R (.returned (Value.bool false)) w27) (
    Run Try.prog (sBin .add 3 false true t5 (Value.int .i64 1)) w27 fun t16_2 w28 =>
  I4 t16_2 w28 ∧ m5 t16_2 w28 < m5 t5 w6))) (
    R (.returned (Value.bool true)) w8)))
theorem calls_l_eqClauseS {p0 p1 : Value} {w : World} {R : Ending → World → Prop} (h : sh_l_eqClauseS p0 p1 w R) : Calls Try.prog 10 #[p0, p1] w R :=
  calls_sh (.seq none .leaf (.seq none .leaf (.seq none (.seq none .leaf (.one (.loop [5] .leaf))) .leaf))) [p0, p1] mixed Try.func10 (by kernel_rfl) (by kernel_rfl) h


/- loop.example/prologserver/laws.eqTermS : function 11 -/
def sh_l_eqTermS (p0 p1 : Value) (w : World) (R : Ending → World → Prop) : Prop :=
  Run Try.prog (sBuiltin .len #[29] 3 [false] [p0]) w fun t7 w1 =>
  Run Try.prog (sBuiltin .len #[29] 3 [false] [p1]) w1 fun t9 w2 =>
  Run Try.prog (sBin .neq 3 false false t7 t9) w2 fun t10 w3 =>
  CondV t10 (
    R (.returned (Value.bool false)) w3) (
    (∃ (I4 : Value → World → Prop) (m5 : Value → World → Nat), I4 (Value.int .i64 0) w3 ∧
  ∀ t5 _ _ _ t26 t25 t24 t23 t22 t21 t20 t19 t18 t17 _ _ _ _ : Value, ∀ w6 : World, I4 t5 w6 →
  Run Try.prog (sBuiltin .len #[29] 3 [false] [p0]) w6 fun t13_2 w7 =>
  Run Try.prog (sBin .lss 3 false false t5 t13_2) w7 fun t14_2 w8 =>
  CondV t14_2 (
    (∃ A9 : (Nat → Bool) → Value → Value → Value → Value → Value → Value → Value → Value → Value → Value → World → Prop, A9 (fun _ => false) t26 t25 t24 t23 t22 t21 t20 t19 t18 t17 { w8 with drawn := w8.drawn + 1 } ∧ (
    (∀ D10 : Nat → Bool, D10 0 = false → ∀ t26_2 t25_2 t24_2 t23_2 t22_2 t21_2 t20_2 t19_2 t18_2 t17_2 : Value, ∀ w11 : World, A9 D10 t26_2 t25_2 t24_2 t23_2 t22_2 t21_2 t20_2 t19_2 t18_2 t17_2 w11 →
      A9 (setD D10 0) t26_2 t25_2 t24_2 t23_2 t22_2 t21_2 t20_2 t19_2 t18_2 p0 w11) ∧
    (∀ D10 : Nat → Bool, D10 1 = false → ∀ t26_2 t25_2 t24_2 t23_2 t22_2 t21_2 t20_2 t19_2 t18_2 t17_2 : Value, ∀ w12 : World, A9 D10 t26_2 t25_2 t24_2 t23_2 t22_2 t21_2 t20_2 t19_2 t18_2 t17_2 w12 →
      A9 (setD D10 1) t26_2 t25_2 t24_2 t23_2 t22_2 t21_2 t20_2 t19_2 t5 t17_2 w12) ∧
    (∀ D10 : Nat → Bool, D10 2 = false → D10 0 = true → D10 1 = true → ∀ t26_2 t25_2 t24_2 t23_2 t22_2 t21_2 t20_2 t19_2 t18_2 t17_2 : Value, ∀ w13 : World, A9 D10 t26_2 t25_2 t24_2 t23_2 t22_2 t21_2 t20_2 t19_2 t18_2 t17_2 w13 →
      Run Try.prog (sOp (.indexAddr 29 (.const t17_2) (.const t18_2)) 0) w13 fun t19_3 w14 =>
      A9 (setD D10 2) t26_2 t25_2 t24_2 t23_2 t22_2 t21_2 t20_2 t19_3 t18_2 t17_2 w14) ∧
    (∀ D10 : Nat → Bool, D10 3 = false → D10 2 = true → ∀ t26_2 t25_2 t24_2 t23_2 t22_2 t21_2 t20_2 t19_2 t18_2 t17_2 : Value, ∀ w15 : World, A9 D10 t26_2 t25_2 t24_2 t23_2 t22_2 t21_2 t20_2 t19_2 t18_2 t17_2 w15 →
      Run Try.prog (sOp (.load 44 (.const t19_2)) 44) w15 fun t20_3 w16 =>
      A9 (setD D10 3) t26_2 t25_2 t24_2 t23_2 t22_2 t21_2 t20_3 t19_2 t18_2 t17_2 w16) ∧
    (∀ D10 : Nat → Bool, D10 4 = false → ∀ t26_2 t25_2 t24_2 t23_2 t22_2 t21_2 t20_2 t19_2 t18_2 t17_2 : Value, ∀ w17 : World, A9 D10 t26_2 t25_2 t24_2 t23_2 t22_2 t21_2 t20_2 t19_2 t18_2 t17_2 w17 →
      A9 (setD D10 4) t26_2 t25_2 t24_2 t23_2 t22_2 p1 t20_2 t19_2 t18_2 t17_2 w17) ∧
    (∀ D10 : Nat → Bool, D10 5 = false → ∀ t26_2 t25_2 t24_2 t23_2 t22_2 t21_2 t20_2 t19_2 t18_2 t17_2 : Value, ∀ w18 : World, A9 D10 t26_2 t25_2 t24_2 t23_2 t22_2 t21_2 t20_2 t19_2 t18_2 t17_2 w18 →
      A9 (setD D10 5) t26_2 t25_2 t24_2 t23_2 t5 t21_2 t20_2 t19_2 t18_2 t17_2 w18) ∧
    (∀ D10 : Nat → Bool, D10 6 = false → D10 4 = true → D10 5 = true → ∀ t26_2 t25_2 t24_2 t23_2 t22_2 t21_2 t20_2 t19_2 t18_2 t17_2 : Value, ∀ w19 : World, A9 D10 t26_2 t25_2 t24_2 t23_2 t22_2 t21_2 t20_2 t19_2 t18_2 t17_2 w19 →
      Run Try.prog (sOp (.indexAddr 29 (.const t21_2) (.const t22_2)) 0) w19 fun t23_3 w20 =>
      A9 (setD D10 6) t26_2 t25_2 t24_2 t23_3 t22_2 t21_2 t20_2 t19_2 t18_2 t17_2 w20) ∧
    (∀ D10 : Nat → Bool, D10 7 = false → D10 6 = true → ∀ t26_2 t25_2 t24_2 t23_2 t22_2 t21_2 t20_2 t19_2 t18_2 t17_2 : Value, ∀ w21 : World, A9 D10 t26_2 t25_2 t24_2 t23_2 t22_2 t21_2 t20_2 t19_2 t18_2 t17_2 w21 →
      Run Try.prog (sOp (.load 44 (.const t23_2)) 44) w21 fun t24_3 w22 =>
      A9 (setD D10 7) t26_2 t25_2 t24_3 t23_2 t22_2 t21_2 t20_2 t19_2 t18_2 t17_2 w22) ∧
    (∀ D10 : Nat → Bool, D10 8 = false → D10 3 = true → D10 7 = true → ∀ t26_2 t25_2 t24_2 t23_2 t22_2 t21_2 t20_2 t19_2 t18_2 t17_2 : Value, ∀ w23 : World, A9 D10 t26_2 t25_2 t24_2 t23_2 t22_2 t21_2 t20_2 t19_2 t18_2 t17_2 w23 →
      Run Try.prog (sCall (Value.func (.func 29) #[] #[]) [t20_2, t24_2]) w23 fun t25_3 w24 =>
      A9 (setD D10 8) t26_2 t25_3 t24_2 t23_2 t22_2 t21_2 t20_2 t19_2 t18_2 t17_2 w24) ∧
    (∀ D10 : Nat → Bool, D10 9 = false → D10 8 = true → ∀ t26_2 t25_2 t24_2 t23_2 t22_2 t21_2 t20_2 t19_2 t18_2 t17_2 : Value, ∀ w25 : World, A9 D10 t26_2 t25_2 t24_2 t23_2 t22_2 t21_2 t20_2 t19_2 t18_2 t17_2 w25 →
      Run Try.prog (sOp (.unOp .not 4 (.const t25_2)) 4) w25 fun t26_3 w26 =>
      A9 (setD D10 9) t26_3 t25_2 t24_2 t23_2 t22_2 t21_2 t20_2 t19_2 t18_2 t17_2 w26) ∧
    True) ∧
  ∀ D10 : Nat → Bool, D10 9 = true → D10 8 = true → D10 7 = true → D10 6 = true → D10 5 = true → D10 4 = true → D10 3 = true → D10 2 = true → D10 1 = true → D10 0 = true → ∀ t26_2 t25_2 t24_2 t23_2 t22_2 t21_2 t20_2 t19_2 t18_2 t17_2 : Value, ∀ w27 : World, A9 D10 t26_2 t25_2 t24_2 t23_2 t22_2 t21_2 t20_2 t19_2 t18_2 t17_2 w27 →
  CondV t26_2 (
    R (.returned (Value.bool false)) w27) (
    Run Try.prog (sBin .add 3 false true t5 (Value.int .i64 1)) w27 fun t16_2 w28 =>
  I4 t16_2 w28 ∧ m5 t16_2 w28 < m5 t5 w6))) (
    R (.returned (Value.bool true)) w8)))
theorem calls_l_eqTermS {p0 p1 : Value} {w : World} {R : Ending → World → Prop} (h : sh_l_eqTermS p0 p1 w R) : Calls Try.prog 11 #[p0, p1] w R :=
  calls_sh (.seq none .leaf (.seq none .leaf (.seq none (.seq none .leaf (.one (.loop [5] .leaf))) .leaf))) [p0, p1] mixed Try.func11 (by kernel_rfl) (by kernel_rfl) h


/- loop.example/prologserver/laws.szClause : function 12 -/
def sh_l_szClause (p0 p1 : Value) (w : World) (R : Ending → World → Prop) : Prop :=
  Run Try.prog (sOp (.box 38 (.const p0)) 0) w fun t2 w1 =>
  Run Try.prog (sOp (.fieldAddr 38 (.const t2) 0) 0) w1 fun t5 w2 =>
  Run Try.prog (sOp (.load 36 (.const t5)) 36) w2 fun t6 w3 =>
  Run Try.prog (sCall (Value.func (.func 13) #[] #[]) [t6, p1]) w3 fun t8 w4 =>
  Run Try.prog (sBin .lss 3 false true t8 (Value.int .i64 0)) w4 fun t10 w5 =>
  CondV t10 (
    R (.returned (Value.int .i64 (-1))) w5) (
    Run Try.prog (sOp (.fieldAddr 38 (.const t2) 1) 0) w5 fun t11 w6 =>
  Run Try.prog (sOp (.load 23 (.const t11)) 23) w6 fun t12 w7 =>
  Run Try.prog (sCall (Value.func (.func 5) #[] #[]) [t12, t8]) w7 fun t14 w8 =>
  Run Try.prog (sBin .lss 3 false true t14 (Value.int .i64 0)) w8 fun t16 w9 =>
  CondV t16 (
    R (.returned (Value.int .i64 (-1))) w9) (
    R (.returned t14) w9))
theorem calls_l_szClause {p0 p1 : Value} {w : World} {R : Ending → World → Prop} (h : sh_l_szClause p0 p1 w R) : Calls Try.prog 12 #[p0, p1] w R :=
  calls_sh .leaf [p0, p1] mixed Try.func12 (by kernel_rfl) (by kernel_rfl) h


/- loop.example/prologserver/laws.szTerm : function 13 -/
def sh_l_szTerm (p0 p1 : Value) (w : World) (R : Ending → World → Prop) : Prop :=
  Run Try.prog (sOp (.box 36 (.const p0)) 0) w fun t2 w1 =>
  Run Try.prog (sOp (.fieldAddr 36 (.const t2) 2) 0) w1 fun t6 w2 =>
  Run Try.prog (sOp (.load 9 (.const t6)) 9) w2 fun t7 w3 =>
  Run Try.prog (sBuiltin .len #[9] 3 [false] [t7]) w3 fun t8 w4 =>
  Run Try.prog (sBin .sub 3 false false p1 t8) w4 fun t9 w5 =>
  Run Try.prog (sBin .lss 3 false true t9 (Value.int .i64 0)) w5 fun t11 w6 =>
  CondV t11 (
    R (.returned (Value.int .i64 (-1))) w6) (
    Run Try.prog (sOp (.fieldAddr 36 (.const t2) 3) 0) w6 fun t12 w7 =>
  Run Try.prog (sOp (.load 23 (.const t12)) 23) w7 fun t13 w8 =>
  Run Try.prog (sCall (Value.func (.func 5) #[] #[]) [t13, t9]) w8 fun t15 w9 =>
  Run Try.prog (sBin .lss 3 false true t15 (Value.int .i64 0)) w9 fun t17 w10 =>
  CondV t17 (
    R (.returned (Value.int .i64 (-1))) w10) (
    R (.returned t15) w10))
theorem calls_l_szTerm {p0 p1 : Value} {w : World} {R : Ending → World → Prop} (h : sh_l_szTerm p0 p1 w R) : Calls Try.prog 13 #[p0, p1] w R :=
  calls_sh .leaf [p0, p1] mixed Try.func13 (by kernel_rfl) (by kernel_rfl) h


/- loop.example/prologserver/spec.FlatProgram : function 14 -/
def sh_s_FlatProgram (p0 : Value) (w : World) (R : Ending → World → Prop) : Prop :=
  (∃ (I1 : Value → World → Prop) (m2 : Value → World → Nat), I1 (Value.int .i64 0) w ∧
  ∀ t3 _ _ _ _ _ _ _ _ _ _ _ _ _ _ _ _ _ : Value, ∀ w3 : World, I1 t3 w3 →
  (∃ J4 : Value → World → Prop, (
    Run Try.prog (sBuiltin .len #[27] 3 [false] [p0]) w3 fun t6_2 w5 =>
    Run Try.prog (sBin .lss 3 false false t3 t6_2) w5 fun t7_2 w6 =>
    GuardV t7_2 true (
      Run Try.prog (sCall (Value.func (.func 30) #[] #[]) [p0]) w6 fun t10_2 w7 =>
      Run Try.prog (sOp (.pick (.const t7_2) (.const t10_2) (.const (Value.bool false))) 4) w7 fun t11_2 w8 =>
      J4 t11_2 w8) (
      Run Try.prog (sOp (.pick (.const t7_2) (.const undef) (.const (Value.bool false))) 4) w6 fun t11_3 w9 =>
      J4 t11_3 w9)) ∧
  ∀ t11_4 _ _ _ _ _ _ _ : Value, ∀ w10 : World, J4 t11_4 w10 →
  CondV t11_4 (
    Run Try.prog (sOp (.indexAddr 27 (.const p0) (.const t3)) 0) w10 fun t16_2 w11 =>
  Run Try.prog (sOp (.load 46 (.const t16_2)) 46) w11 fun t17_2 w12 =>
  Run Try.prog (sCall (Value.func (.func 31) #[] #[]) [t17_2]) w12 fun t18_2 w13 =>
  Run Try.prog (sOp (.unOp .not 4 (.const t18_2)) 4) w13 fun t19_2 w14 =>
  CondV t19_2 (
    R (.returned (Value.bool false)) w14) (
    Run Try.prog (sBin .add 3 false true t3 (Value.int .i64 1)) w14 fun t13_2 w15 =>
  I1 t13_2 w15 ∧ m2 t13_2 w15 < m2 t3 w3)) (
    Run Try.prog (sCall (Value.func (.func 30) #[] #[]) [p0]) w10 fun t21 w16 =>
  R (.returned t21) w16)))
theorem calls_s_FlatProgram {p0 : Value} {w : World} {R : Ending → World → Prop} (h : sh_s_FlatProgram p0 w R) : Calls Try.prog 14 #[p0] w R :=
  calls_sh (.seq none .leaf (.seq none (.seq none .leaf (.one (.loop [3] (.seq none (.seq (some [11]) .leaf .leaf) .leaf)))) .leaf)) [p0] mixed Try.func14 (by kernel_rfl) (by kernel_rfl) h


/- loop.example/prologserver/spec.l16Facts : function 15 -/
def sh_s_l16Facts (p0 : Value) (w : World) (R : Ending → World → Prop) : Prop :=
  (∃ (I1 : Value → World → Prop) (m2 : Value → World → Nat), I1 (Value.int .i64 0) w ∧
  ∀ t3 _ _ _ _ _ _ _ _ _ _ _ _ _ _ _ _ _ _ _ _ _ _ _ _ _ _ _ _ _ _ : Value, ∀ w3 : World, I1 t3 w3 →
  Run Try.prog (sBuiltin .len #[29] 3 [false] [p0]) w3 fun t6_2 w4 =>
  Run Try.prog (sBin .lss 3 false false t3 t6_2) w4 fun t7_2 w5 =>
  CondV t7_2 (
    (∃ J6 : Value → World → Prop, (
    Run Try.prog (sOp (.indexAddr 29 (.const p0) (.const t3)) 0) w5 fun t12_2 w7 =>
    Run Try.prog (sOp (.load 44 (.const t12_2)) 44) w7 fun t13_2 w8 =>
    Run Try.prog (sCall (Value.func (.func 32) #[] #[]) [t13_2]) w8 fun t14_2 w9 =>
    Run Try.prog (sOp (.unOp .not 4 (.const t14_2)) 4) w9 fun t15_2 w10 =>
    GuardV t15_2 false (
      Run Try.prog (sOp (.indexAddr 29 (.const p0) (.const t3)) 0) w10 fun t19_2 w11 =>
      Run Try.prog (sOp (.load 44 (.const t19_2)) 44) w11 fun t20_2 w12 =>
      Run Try.prog (sCall (Value.func (.func 33) #[] #[]) [t20_2]) w12 fun t21_2 w13 =>
      Run Try.prog (sOp (.unOp .not 4 (.const t21_2)) 4) w13 fun t22_2 w14 =>
      Run Try.prog (sOp (.pick (.const t15_2) (.const (Value.bool true)) (.const t22_2)) 4) w14 fun t23_2 w15 =>
      GuardV t23_2 false (
        Run Try.prog (sOp (.indexAddr 29 (.const p0) (.const t3)) 0) w15 fun t27_2 w16 =>
        Run Try.prog (sOp (.load 44 (.const t27_2)) 44) w16 fun t28_2 w17 =>
        Run Try.prog (sCall (Value.func (.func 34) #[] #[]) [(Value.slice none 0 0), t28_2]) w17 fun t29_2 w18 =>
        Run Try.prog (sBuiltin .len #[58] 3 [false] [t29_2]) w18 fun t30_2 w19 =>
        Run Try.prog (sBin .gtr 3 false true t30_2 (Value.int .i64 0)) w19 fun t31_2 w20 =>
        Run Try.prog (sOp (.pick (.const t23_2) (.const (Value.bool true)) (.const t31_2)) 4) w20 fun t32_2 w21 =>
        J6 t32_2 w21) (
        Run Try.prog (sOp (.pick (.const t23_2) (.const (Value.bool true)) (.const undef)) 4) w15 fun t32_3 w22 =>
        J6 t32_3 w22)) (
      Run Try.prog (sOp (.pick (.const t15_2) (.const (Value.bool true)) (.const undef)) 4) w10 fun t23_3 w23 =>
      GuardV t23_3 false (
        Run Try.prog (sOp (.indexAddr 29 (.const p0) (.const t3)) 0) w23 fun t27_3 w24 =>
        Run Try.prog (sOp (.load 44 (.const t27_3)) 44) w24 fun t28_3 w25 =>
        Run Try.prog (sCall (Value.func (.func 34) #[] #[]) [(Value.slice none 0 0), t28_3]) w25 fun t29_3 w26 =>
        Run Try.prog (sBuiltin .len #[58] 3 [false] [t29_3]) w26 fun t30_3 w27 =>
        Run Try.prog (sBin .gtr 3 false true t30_3 (Value.int .i64 0)) w27 fun t31_3 w28 =>
        Run Try.prog (sOp (.pick (.const t23_3) (.const (Value.bool true)) (.const t31_3)) 4) w28 fun t32_4 w29 =>
        J6 t32_4 w29) (
        Run Try.prog (sOp (.pick (.const t23_3) (.const (Value.bool true)) (.const undef)) 4) w23 fun t32_5 w30 =>
        J6 t32_5 w30))) ∧
  ∀ t32_6 _ _ _ _ _ _ _ _ _ _ _ _ _ _ _ _ _ _ _ _ _ _ : Value, ∀ w31 : World, J6 t32_6 w31 →
  CondV t32_6 (
    R (.returned (Value.bool false)) w31) (
    Run Try.prog (sBin .add 3 false true t3 (Value.int .i64 1)) w31 fun t9_2 w32 =>
  I1 t9_2 w32 ∧ m2 t9_2 w32 < m2 t3 w3))) (
    Run Try.prog (sBuiltin .len #[29] 3 [false] [p0]) w5 fun t34 w33 =>
  Run Try.prog (sBin .leq 3 false true t34 (Value.int .i64 60)) w33 fun t35 w34 =>
  R (.returned t35) w34))
theorem calls_s_l16Facts {p0 : Value} {w : World} {R : Ending → World → Prop} (h : sh_s_l16Facts p0 w R) : Calls Try.prog 15 #[p0] w R :=
  calls_sh (.seq none .leaf (.seq none (.seq none .leaf (.one (.loop [3] (.seq none .leaf (.seq none (.one (.seq (some [32]) .leaf .leaf)) .leaf))))) .leaf)) [p0] mixed Try.func15 (by kernel_rfl) (by kernel_rfl) h


/- loop.example/prologserver/spec.l16Body : function 16 -/
def sh_s_l16Body (p0 p1 p2 p3 p4 : Value) (w : World) (R : Ending → World → Prop) : Prop :=
  Run Try.prog (sOp (.box 46 (.const p1)) 0) w fun t6 w1 =>
  Run Try.prog (sBuiltin .len #[29] 3 [false] [p0]) w1 fun t15 w2 =>
  Run Try.prog (sBin .gtr 3 false true t15 (Value.int .i64 60)) w2 fun t16 w3 =>
  CondV t16 (
    R (.returned p0) w3) (
    Run Try.prog (sOp (.fieldAddr 46 (.const t6) 1) 0) w3 fun t19 w4 =>
  Run Try.prog (sOp (.load 29 (.const t19)) 29) w4 fun t20 w5 =>
  Run Try.prog (sBuiltin .len #[29] 3 [false] [t20]) w5 fun t21 w6 =>
  Run Try.prog (sBin .eql 3 false false p2 t21) w6 fun t22 w7 =>
  CondV t22 (
    Run Try.prog (sOp (.fieldAddr 46 (.const t6) 0) 0) w7 fun t24 w8 =>
    Run Try.prog (sOp (.load 44 (.const t24)) 44) w8 fun t25 w9 =>
    Run Try.prog (sCall (Value.func (.func 36) #[] #[]) [t25, p4]) w9 fun t27 w10 =>
    Run Try.prog (sCall (Value.func (.func 35) #[] #[]) [p0, t27]) w10 fun t28 w11 =>
    R (.returned t28) w11) (
    (∃ (I12 : Value → Value → World → Prop) (m13 : Value → Value → World → Nat), I12 (Value.int .i64 0) p0 w7 ∧
  ∀ t11 _ _ t0 _ _ _ _ _ _ _ _ t13 t12 t48 t47 t35 t46 t45 t44 t43 t42 t41 t40 t39 t38 t37 t36 _ _ _ _ : Value, ∀ w14 : World, I12 t11 t0 w14 →
  Run Try.prog (sBuiltin .len #[29] 3 [false] [p3]) w14 fun t31_2 w15 =>
  Run Try.prog (sBin .lss 3 false false t11 t31_2) w15 fun t32_2 w16 =>
  CondV t32_2 (
    (∃ J17 : Value → World → Prop, (
    (∃ A18 : (Nat → Bool) → Value → Value → Value → Value → Value → Value → Value → Value → Value → Value → Value → Value → Value → Value → Value → Value → World → Prop, A18 (fun _ => false) t13 t12 t48 t47 t35 t46 t45 t44 t43 t42 t41 t40 t39 t38 t37 t36 { w16 with drawn := w16.drawn + 1 } ∧ (
      (∀ D19 : Nat → Bool, D19 0 = false → ∀ t13_2 t12_2 t48_2 t47_2 t35_2 t46_2 t45_2 t44_2 t43_2 t42_2 t41_2 t40_2 t39_2 t38_2 t37_2 t36_2 : Value, ∀ w20 : World, A18 D19 t13_2 t12_2 t48_2 t47_2 t35_2 t46_2 t45_2 t44_2 t43_2 t42_2 t41_2 t40_2 t39_2 t38_2 t37_2 t36_2 w20 →
        Run Try.prog (sOp (.fieldAddr 46 (.const t6) 1) 0) w20 fun t36_3 w21 =>
        A18 (setD D19 0) t13_2 t12_2 t48_2 t47_2 t35_2 t46_2 t45_2 t44_2 t43_2 t42_2 t41_2 t40_2 t39_2 t38_2 t37_2 t36_3 w21) ∧
      (∀ D19 : Nat → Bool, D19 1 = false → D19 0 = true → ∀ t13_2 t12_2 t48_2 t47_2 t35_2 t46_2 t45_2 t44_2 t43_2 t42_2 t41_2 t40_2 t39_2 t38_2 t37_2 t36_2 : Value, ∀ w22 : World, A18 D19 t13_2 t12_2 t48_2 t47_2 t35_2 t46_2 t45_2 t44_2 t43_2 t42_2 t41_2 t40_2 t39_2 t38_2 t37_2 t36_2 w22 →
        Run Try.prog (sOp (.load 29 (.const t36_2)) 29) w22 fun t37_3 w23 =>
        A18 (setD D19 1) t13_2 t12_2 t48_2 t47_2 t35_2 t46_2 t45_2 t44_2 t43_2 t42_2 t41_2 t40_2 t39_2 t38_2 t37_3 t36_2 w23) ∧
      (∀ D19 : Nat → Bool, D19 2 = false → ∀ t13_2 t12_2 t48_2 t47_2 t35_2 t46_2 t45_2 t44_2 t43_2 t42_2 t41_2 t40_2 t39_2 t38_2 t37_2 t36_2 : Value, ∀ w24 : World, A18 D19 t13_2 t12_2 t48_2 t47_2 t35_2 t46_2 t45_2 t44_2 t43_2 t42_2 t41_2 t40_2 t39_2 t38_2 t37_2 t36_2 w24 →
        A18 (setD D19 2) t13_2 t12_2 t48_2 t47_2 t35_2 t46_2 t45_2 t44_2 t43_2 t42_2 t41_2 t40_2 t39_2 p2 t37_2 t36_2 w24) ∧
      (∀ D19 : Nat → Bool, D19 3 = false → D19 1 = true → D19 2 = true → ∀ t13_2 t12_2 t48_2 t47_2 t35_2 t46_2 t45_2 t44_2 t43_2 t42_2 t41_2 t40_2 t39_2 t38_2 t37_2 t36_2 : Value, ∀ w25 : World, A18 D19 t13_2 t12_2 t48_2 t47_2 t35_2 t46_2 t45_2 t44_2 t43_2 t42_2 t41_2 t40_2 t39_2 t38_2 t37_2 t36_2 w25 →
        Run Try.prog (sOp (.indexAddr 29 (.const t37_2) (.const t38_2)) 0) w25 fun t39_3 w26 =>
        A18 (setD D19 3) t13_2 t12_2 t48_2 t47_2 t35_2 t46_2 t45_2 t44_2 t43_2 t42_2 t41_2 t40_2 t39_3 t38_2 t37_2 t36_2 w26) ∧
      (∀ D19 : Nat → Bool, D19 4 = false → D19 3 = true → ∀ t13_2 t12_2 t48_2 t47_2 t35_2 t46_2 t45_2 t44_2 t43_2 t42_2 t41_2 t40_2 t39_2 t38_2 t37_2 t36_2 : Value, ∀ w27 : World, A18 D19 t13_2 t12_2 t48_2 t47_2 t35_2 t46_2 t45_2 t44_2 t43_2 t42_2 t41_2 t40_2 t39_2 t38_2 t37_2 t36_2 w27 →
        Run Try.prog (sOp (.load 44 (.const t39_2)) 44) w27 fun t40_3 w28 =>
        A18 (setD D19 4) t13_2 t12_2 t48_2 t47_2 t35_2 t46_2 t45_2 t44_2 t43_2 t42_2 t41_2 t40_3 t39_2 t38_2 t37_2 t36_2 w28) ∧
      (∀ D19 : Nat → Bool, D19 5 = false → ∀ t13_2 t12_2 t48_2 t47_2 t35_2 t46_2 t45_2 t44_2 t43_2 t42_2 t41_2 t40_2 t39_2 t38_2 t37_2 t36_2 : Value, ∀ w29 : World, A18 D19 t13_2 t12_2 t48_2 t47_2 t35_2 t46_2 t45_2 t44_2 t43_2 t42_2 t41_2 t40_2 t39_2 t38_2 t37_2 t36_2 w29 →
        A18 (setD D19 5) t13_2 t12_2 t48_2 t47_2 t35_2 t46_2 t45_2 t44_2 t43_2 t42_2 p3 t40_2 t39_2 t38_2 t37_2 t36_2 w29) ∧
      (∀ D19 : Nat → Bool, D19 6 = false → ∀ t13_2 t12_2 t48_2 t47_2 t35_2 t46_2 t45_2 t44_2 t43_2 t42_2 t41_2 t40_2 t39_2 t38_2 t37_2 t36_2 : Value, ∀ w30 : World, A18 D19 t13_2 t12_2 t48_2 t47_2 t35_2 t46_2 t45_2 t44_2 t43_2 t42_2 t41_2 t40_2 t39_2 t38_2 t37_2 t36_2 w30 →
        A18 (setD D19 6) t13_2 t12_2 t48_2 t47_2 t35_2 t46_2 t45_2 t44_2 t43_2 t11 t41_2 t40_2 t39_2 t38_2 t37_2 t36_2 w30) ∧
      (∀ D19 : Nat → Bool, D19 7 = false → D19 5 = true → D19 6 = true → ∀ t13_2 t12_2 t48_2 t47_2 t35_2 t46_2 t45_2 t44_2 t43_2 t42_2 t41_2 t40_2 t39_2 t38_2 t37_2 t36_2 : Value, ∀ w31 : World, A18 D19 t13_2 t12_2 t48_2 t47_2 t35_2 t46_2 t45_2 t44_2 t43_2 t42_2 t41_2 t40_2 t39_2 t38_2 t37_2 t36_2 w31 →
        Run Try.prog (sOp (.indexAddr 29 (.const t41_2) (.const t42_2)) 0) w31 fun t43_3 w32 =>
        A18 (setD D19 7) t13_2 t12_2 t48_2 t47_2 t35_2 t46_2 t45_2 t44_2 t43_3 t42_2 t41_2 t40_2 t39_2 t38_2 t37_2 t36_2 w32) ∧
      (∀ D19 : Nat → Bool, D19 8 = false → D19 7 = true → ∀ t13_2 t12_2 t48_2 t47_2 t35_2 t46_2 t45_2 t44_2 t43_2 t42_2 t41_2 t40_2 t39_2 t38_2 t37_2 t36_2 : Value, ∀ w33 : World, A18 D19 t13_2 t12_2 t48_2 t47_2 t35_2 t46_2 t45_2 t44_2 t43_2 t42_2 t41_2 t40_2 t39_2 t38_2 t37_2 t36_2 w33 →
        Run Try.prog (sOp (.load 44 (.const t43_2)) 44) w33 fun t44_3 w34 =>
        A18 (setD D19 8) t13_2 t12_2 t48_2 t47_2 t35_2 t46_2 t45_2 t44_3 t43_2 t42_2 t41_2 t40_2 t39_2 t38_2 t37_2 t36_2 w34) ∧
      (∀ D19 : Nat → Bool, D19 9 = false → ∀ t13_2 t12_2 t48_2 t47_2 t35_2 t46_2 t45_2 t44_2 t43_2 t42_2 t41_2 t40_2 t39_2 t38_2 t37_2 t36_2 : Value, ∀ w35 : World, A18 D19 t13_2 t12_2 t48_2 t47_2 t35_2 t46_2 t45_2 t44_2 t43_2 t42_2 t41_2 t40_2 t39_2 t38_2 t37_2 t36_2 w35 →
        A18 (setD D19 9) t13_2 t12_2 t48_2 t47_2 t35_2 t46_2 p4 t44_2 t43_2 t42_2 t41_2 t40_2 t39_2 t38_2 t37_2 t36_2 w35) ∧
      (∀ D19 : Nat → Bool, D19 10 = false → D19 4 = true → D19 8 = true → D19 9 = true → ∀ t13_2 t12_2 t48_2 t47_2 t35_2 t46_2 t45_2 t44_2 t43_2 t42_2 t41_2 t40_2 t39_2 t38_2 t37_2 t36_2 : Value, ∀ w36 : World, A18 D19 t13_2 t12_2 t48_2 t47_2 t35_2 t46_2 t45_2 t44_2 t43_2 t42_2 t41_2 t40_2 t39_2 t38_2 t37_2 t36_2 w36 →
        Run Try.prog (sCall (Value.func (.func 37) #[] #[]) [t40_2, t44_2, t45_2]) w36 fun t46_3 w37 =>
        A18 (setD D19 10) t13_2 t12_2 t48_2 t47_2 t35_2 t46_3 t45_2 t44_2 t43_2 t42_2 t41_2 t40_2 t39_2 t38_2 t37_2 t36_2 w37) ∧
      (∀ D19 : Nat → Bool, D19 11 = false → D19 10 = true → ∀ t13_2 t12_2 t48_2 t47_2 t35_2 t46_2 t45_2 t44_2 t43_2 t42_2 t41_2 t40_2 t39_2 t38_2 t37_2 t36_2 : Value, ∀ w38 : World, A18 D19 t13_2 t12_2 t48_2 t47_2 t35_2 t46_2 t45_2 t44_2 t43_2 t42_2 t41_2 t40_2 t39_2 t38_2 t37_2 t36_2 w38 →
        A18 (setD D19 11) t13_2 t12_2 t48_2 t47_2 t46_2 t46_2 t45_2 t44_2 t43_2 t42_2 t41_2 t40_2 t39_2 t38_2 t37_2 t36_2 w38) ∧
      (∀ D19 : Nat → Bool, D19 12 = false → D19 11 = true → ∀ t13_2 t12_2 t48_2 t47_2 t35_2 t46_2 t45_2 t44_2 t43_2 t42_2 t41_2 t40_2 t39_2 t38_2 t37_2 t36_2 : Value, ∀ w39 : World, A18 D19 t13_2 t12_2 t48_2 t47_2 t35_2 t46_2 t45_2 t44_2 t43_2 t42_2 t41_2 t40_2 t39_2 t38_2 t37_2 t36_2 w39 →
        Run Try.prog (sOp (.extract (.const t35_2) 0) 29) w39 fun t47_3 w40 =>
        A18 (setD D19 12) t13_2 t12_2 t48_2 t47_3 t35_2 t46_2 t45_2 t44_2 t43_2 t42_2 t41_2 t40_2 t39_2 t38_2 t37_2 t36_2 w40) ∧
      (∀ D19 : Nat → Bool, D19 13 = false → D19 11 = true → ∀ t13_2 t12_2 t48_2 t47_2 t35_2 t46_2 t45_2 t44_2 t43_2 t42_2 t41_2 t40_2 t39_2 t38_2 t37_2 t36_2 : Value, ∀ w41 : World, A18 D19 t13_2 t12_2 t48_2 t47_2 t35_2 t46_2 t45_2 t44_2 t43_2 t42_2 t41_2 t40_2 t39_2 t38_2 t37_2 t36_2 w41 →
        Run Try.prog (sOp (.extract (.const t35_2) 1) 4) w41 fun t48_3 w42 =>
        A18 (setD D19 13) t13_2 t12_2 t48_3 t47_2 t35_2 t46_2 t45_2 t44_2 t43_2 t42_2 t41_2 t40_2 t39_2 t38_2 t37_2 t36_2 w42) ∧
      (∀ D19 : Nat → Bool, D19 14 = false → D19 12 = true → D19 10 = true → D19 0 = true → D19 1 = true → D19 2 = true → D19 3 = true → D19 4 = true → D19 5 = true → D19 6 = true → D19 7 = true → D19 8 = true → D19 9 = true → D19 10 = true → D19 11 = true → D19 12 = true → ∀ t13_2 t12_2 t48_2 t47_2 t35_2 t46_2 t45_2 t44_2 t43_2 t42_2 t41_2 t40_2 t39_2 t38_2 t37_2 t36_2 : Value, ∀ w43 : World, A18 D19 t13_2 t12_2 t48_2 t47_2 t35_2 t46_2 t45_2 t44_2 t43_2 t42_2 t41_2 t40_2 t39_2 t38_2 t37_2 t36_2 w43 →
        A18 (setD D19 14) t13_2 t47_2 t48_2 t47_2 t35_2 t46_2 t45_2 t44_2 t43_2 t42_2 t41_2 t40_2 t39_2 t38_2 t37_2 t36_2 w43) ∧
      (∀ D19 : Nat → Bool, D19 15 = false → D19 13 = true → D19 14 = true → D19 0 = true → D19 1 = true → D19 2 = true → D19 3 = true → D19 4 = true → D19 5 = true → D19 6 = true → D19 7 = true → D19 8 = true → D19 9 = true → D19 10 = true → D19 11 = true → D19 12 = true → D19 13 = true → D19 14 = true → ∀ t13_2 t12_2 t48_2 t47_2 t35_2 t46_2 t45_2 t44_2 t43_2 t42_2 t41_2 t40_2 t39_2 t38_2 t37_2 t36_2 : Value, ∀ w44 : World, A18 D19 t13_2 t12_2 t48_2 t47_2 t35_2 t46_2 t45_2 t44_2 t43_2 t42_2 t41_2 t40_2 t39_2 t38_2 t37_2 t36_2 w44 →
        A18 (setD D19 15) t48_2 t12_2 t48_2 t47_2 t35_2 t46_2 t45_2 t44_2 t43_2 t42_2 t41_2 t40_2 t39_2 t38_2 t37_2 t36_2 w44) ∧
      True) ∧
    ∀ D19 : Nat → Bool, D19 15 = true → D19 14 = true → D19 13 = true → D19 12 = true → D19 11 = true → D19 10 = true → D19 9 = true → D19 8 = true → D19 7 = true → D19 6 = true → D19 5 = true → D19 4 = true → D19 3 = true → D19 2 = true → D19 1 = true → D19 0 = true → ∀ t13_2 t12_2 t48_2 t47_2 t35_2 t46_2 t45_2 t44_2 t43_2 t42_2 t41_2 t40_2 t39_2 t38_2 t37_2 t36_2 : Value, ∀ w45 : World, A18 D19 t13_2 t12_2 t48_2 t47_2 t35_2 t46_2 t45_2 t44_2 t43_2 t42_2 t41_2 t40_2 t39_2 t38_2 t37_2 t36_2 w45 →
    CondV t13_2 (
      Run Try.prog (sOp (.load 46 (.const t6)) 46) w45 fun t51_2 w46 =>
      Run Try.prog (sBin .add 3 false true p2 (Value.int .i64 1)) w46 fun t53_2 w47 =>
      Run Try.prog (sCall (Value.func (.func 16) #[] #[]) [t0, t51_2, t53_2, p3, t12_2]) w47 fun t56_2 w48 =>
      J17 t56_2 w48) (
      J17 t0 w45))) ∧
  ∀ t0_2 _ _ _ _ _ _ _ _ _ _ _ _ _ _ _ _ _ _ _ _ _ _ _ _ : Value, ∀ w49 : World, J17 t0_2 w49 →
  Run Try.prog (sBin .add 3 false true t11 (Value.int .i64 1)) w49 fun t34_2 w50 =>
  I12 t34_2 t0_2 w50 ∧ m13 t34_2 t0_2 w50 < m13 t11 t0 w14)) (
    R (.returned t0) w16))))
theorem calls_s_l16Body {p0 p1 p2 p3 p4 : Value} {w : World} {R : Ending → World → Prop} (h : sh_s_l16Body p0 p1 p2 p3 p4 w R) : Calls Try.prog 16 #[p0, p1, p2, p3, p4] w R :=
  calls_sh (.seq none .leaf (.seq none .leaf (.seq none .leaf (.seq none (.seq none .leaf (.one (.loop [11, 0] (.seq none .leaf (.seq (some [0]) .leaf .leaf))))) .leaf)))) [p0, p1, p2, p3, p4] mixed Try.func16 (by kernel_rfl) (by kernel_rfl) h


/- loop.example/prologserver/spec.l16Has : function 17 -/
def sh_s_l16Has (p0 p1 : Value) (w : World) (R : Ending → World → Prop) : Prop :=
  Run Try.prog (sOp (.box 44 (.const p1)) 0) w fun t3 w1 =>
  (∃ (I2 : Value → World → Prop) (m3 : Value → World → Nat), I2 (Value.int .i64 0) w1 ∧
  ∀ t5 _ _ _ t17 t16 t15 t14 t13 t12 _ _ _ _ : Value, ∀ w4 : World, I2 t5 w4 →
  Run Try.prog (sBuiltin .len #[29] 3 [false] [p0]) w4 fun t8_2 w5 =>
  Run Try.prog (sBin .lss 3 false false t5 t8_2) w5 fun t9_2 w6 =>
  CondV t9_2 (
    (∃ A7 : (Nat → Bool) → Value → Value → Value → Value → Value → Value → World → Prop, A7 (fun _ => false) t17 t16 t15 t14 t13 t12 { w6 with drawn := w6.drawn + 1 } ∧ (
    (∀ D8 : Nat → Bool, D8 0 = false → ∀ t17_2 t16_2 t15_2 t14_2 t13_2 t12_2 : Value, ∀ w9 : World, A7 D8 t17_2 t16_2 t15_2 t14_2 t13_2 t12_2 w9 →
      A7 (setD D8 0) t17_2 t16_2 t15_2 t14_2 t13_2 p0 w9) ∧
    (∀ D8 : Nat → Bool, D8 1 = false → ∀ t17_2 t16_2 t15_2 t14_2 t13_2 t12_2 : Value, ∀ w10 : World, A7 D8 t17_2 t16_2 t15_2 t14_2 t13_2 t12_2 w10 →
      A7 (setD D8 1) t17_2 t16_2 t15_2 t14_2 t5 t12_2 w10) ∧
    (∀ D8 : Nat → Bool, D8 2 = false → D8 0 = true → D8 1 = true → ∀ t17_2 t16_2 t15_2 t14_2 t13_2 t12_2 : Value, ∀ w11 : World, A7 D8 t17_2 t16_2 t15_2 t14_2 t13_2 t12_2 w11 →
      Run Try.prog (sOp (.indexAddr 29 (.const t12_2) (.const t13_2)) 0) w11 fun t14_3 w12 =>
      A7 (setD D8 2) t17_2 t16_2 t15_2 t14_3 t13_2 t12_2 w12) ∧
    (∀ D8 : Nat → Bool, D8 3 = false → D8 2 = true → ∀ t17_2 t16_2 t15_2 t14_2 t13_2 t12_2 : Value, ∀ w13 : World, A7 D8 t17_2 t16_2 t15_2 t14_2 t13_2 t12_2 w13 →
      Run Try.prog (sOp (.load 44 (.const t14_2)) 44) w13 fun t15_3 w14 =>
      A7 (setD D8 3) t17_2 t16_2 t15_3 t14_2 t13_2 t12_2 w14) ∧
    (∀ D8 : Nat → Bool, D8 4 = false → ∀ t17_2 t16_2 t15_2 t14_2 t13_2 t12_2 : Value, ∀ w15 : World, A7 D8 t17_2 t16_2 t15_2 t14_2 t13_2 t12_2 w15 →
      Run Try.prog (sOp (.load 44 (.const t3)) 44) w15 fun t16_3 w16 =>
      A7 (setD D8 4) t17_2 t16_3 t15_2 t14_2 t13_2 t12_2 w16) ∧
    (∀ D8 : Nat → Bool, D8 5 = false → D8 3 = true → D8 4 = true → ∀ t17_2 t16_2 t15_2 t14_2 t13_2 t12_2 : Value, ∀ w17 : World, A7 D8 t17_2 t16_2 t15_2 t14_2 t13_2 t12_2 w17 →
      Run Try.prog (sCall (Value.func (.func 38) #[] #[]) [t15_2, t16_2]) w17 fun t17_3 w18 =>
      A7 (setD D8 5) t17_3 t16_2 t15_2 t14_2 t13_2 t12_2 w18) ∧
    True) ∧
  ∀ D8 : Nat → Bool, D8 5 = true → D8 4 = true → D8 3 = true → D8 2 = true → D8 1 = true → D8 0 = true → ∀ t17_2 t16_2 t15_2 t14_2 t13_2 t12_2 : Value, ∀ w19 : World, A7 D8 t17_2 t16_2 t15_2 t14_2 t13_2 t12_2 w19 →
  CondV t17_2 (
    R (.returned (Value.bool true)) w19) (
    Run Try.prog (sBin .add 3 false true t5 (Value.int .i64 1)) w19 fun t11_2 w20 =>
  I2 t11_2 w20 ∧ m3 t11_2 w20 < m3 t5 w4))) (
    R (.returned (Value.bool false)) w6))
theorem calls_s_l16Has {p0 p1 : Value} {w : World} {R : Ending → World → Prop} (h : sh_s_l16Has p0 p1 w R) : Calls Try.prog 17 #[p0, p1] w R :=
  calls_sh (.seq none .leaf (.seq none (.seq none .leaf (.one (.loop [5] .leaf))) .leaf)) [p0, p1] mixed Try.func17 (by kernel_rfl) (by kernel_rfl) h


/- loop.example/prologserver/laws.toClause : function 18 -/
def sh_l_toClause (p0 : Value) (w : World) (R : Ending → World → Prop) : Prop :=
  Run Try.prog (sOp (.box 38 (.const p0)) 0) w fun t1 w1 =>
  Run Try.prog (sOp (.alloc 46) 0) w1 fun t2 w2 =>
  Run Try.prog (sOp (.alloc 46) 0) w2 fun t3 w3 =>
  Run Try.prog (sOp (.fieldAddr 38 (.const t1) 0) 0) w3 fun t4 w4 =>
  Run Try.prog (sOp (.load 36 (.const t4)) 36) w4 fun t5 w5 =>
  Run Try.prog (sCall (Value.func (.func 19) #[] #[]) [t5]) w5 fun t6 w6 =>
  Run Try.prog (sOp (.fieldAddr 46 (.const t3) 0) 0) w6 fun t7 w7 =>
  Run Try.prog (sOp (.store 44 (.const t7) (.const t6)) 0) w7 fun _u w8 =>
  Run Try.prog (sOp (.fieldAddr 38 (.const t1) 1) 0) w8 fun t8 w9 =>
  Run Try.prog (sOp (.load 23 (.const t8)) 23) w9 fun t9 w10 =>
  Run Try.prog (sCall (Value.func (.func 8) #[] #[]) [t9]) w10 fun t10 w11 =>
  Run Try.prog (sOp (.fieldAddr 46 (.const t3) 1) 0) w11 fun t11 w12 =>
  Run Try.prog (sOp (.store 29 (.const t11) (.const t10)) 0) w12 fun _u w13 =>
  Run Try.prog (sOp (.load 46 (.const t3)) 46) w13 fun t12 w14 =>
  Run Try.prog (sOp (.store 46 (.const t2) (.const t12)) 0) w14 fun _ w15 =>
  (LoadV Try.prog 46 t2 w15 fun r0 => R (.returned r0) w15)
theorem calls_l_toClause {p0 : Value} {w : World} {R : Ending → World → Prop} (h : sh_l_toClause p0 w R) : Calls Try.prog 18 #[p0] w R :=
  calls_sh .leaf [p0] mixed Try.func18 (by kernel_rfl) (by kernel_rfl) h


/- loop.example/prologserver/laws.toTerm : function 19 -/
def sh_l_toTerm (p0 : Value) (w : World) (R : Ending → World → Prop) : Prop :=
  Run Try.prog (sOp (.box 36 (.const p0)) 0) w fun t1 w1 =>
  Run Try.prog (sOp (.alloc 44) 0) w1 fun t2 w2 =>
  Run Try.prog (sOp (.alloc 44) 0) w2 fun t3 w3 =>
  Run Try.prog (sOp (.fieldAddr 36 (.const t1) 0) 0) w3 fun t4 w4 =>
  Run Try.prog (sOp (.load 3 (.const t4)) 3) w4 fun t5 w5 =>
  Run Try.prog (sOp (.fieldAddr 44 (.const t3) 0) 0) w5 fun t6 w6 =>
  Run Try.prog (sOp (.store 3 (.const t6) (.const t5)) 0) w6 fun _u w7 =>
  Run Try.prog (sOp (.fieldAddr 36 (.const t1) 1) 0) w7 fun t7 w8 =>
  Run Try.prog (sOp (.load 3 (.const t7)) 3) w8 fun t8 w9 =>
  Run Try.prog (sOp (.fieldAddr 44 (.const t3) 1) 0) w9 fun t9 w10 =>
  Run Try.prog (sOp (.store 3 (.const t9) (.const t8)) 0) w10 fun _u w11 =>
  Run Try.prog (sOp (.fieldAddr 36 (.const t1) 2) 0) w11 fun t10 w12 =>
  Run Try.prog (sOp (.load 9 (.const t10)) 9) w12 fun t11 w13 =>
  Run Try.prog (sOp (.fieldAddr 44 (.const t3) 2) 0) w13 fun t12 w14 =>
  Run Try.prog (sOp (.store 9 (.const t12) (.const t11)) 0) w14 fun _u w15 =>
  Run Try.prog (sOp (.fieldAddr 36 (.const t1) 3) 0) w15 fun t13 w16 =>
  Run Try.prog (sOp (.load 23 (.const t13)) 23) w16 fun t14 w17 =>
  Run Try.prog (sCall (Value.func (.func 8) #[] #[]) [t14]) w17 fun t15 w18 =>
  Run Try.prog (sOp (.fieldAddr 44 (.const t3) 3) 0) w18 fun t16 w19 =>
  Run Try.prog (sOp (.store 29 (.const t16) (.const t15)) 0) w19 fun _u w20 =>
  Run Try.prog (sOp (.load 44 (.const t3)) 44) w20 fun t17 w21 =>
  Run Try.prog (sOp (.store 44 (.const t2) (.const t17)) 0) w21 fun _ w22 =>
  (LoadV Try.prog 44 t2 w22 fun r0 => R (.returned r0) w22)
theorem calls_l_toTerm {p0 : Value} {w : World} {R : Ending → World → Prop} (h : sh_l_toTerm p0 w R) : Calls Try.prog 19 #[p0] w R :=
  calls_sh .leaf [p0] mixed Try.func19 (by kernel_rfl) (by kernel_rfl) h


/- loop.example/prologserver/impl.FlatProgram : function 20 -/
def sh_i_FlatProgram (p0 : Value) (w : World) (R : Ending → World → Prop) : Prop :=
  Run Try.prog (sCall (Value.func (.func 39) #[] #[]) [p0]) w fun t4 w1 =>
  GuardV t4 true (
    Run Try.prog (sCall (Value.func (.func 40) #[] #[]) [p0, (Value.func (.func 41) #[] #[])]) w1 fun t7 w2 =>
    Run Try.prog (sOp (.unOp .not 4 (.const t7)) 4) w2 fun t8 w3 =>
    Run Try.prog (sOp (.pick (.const t4) (.const t8) (.const (Value.bool false))) 4) w3 fun t9 w4 =>
    R (.returned t9) w4) (
    Run Try.prog (sOp (.pick (.const t4) (.const undef) (.const (Value.bool false))) 4) w1 fun t9_2 w5 =>
    R (.returned t9_2) w5)
theorem calls_i_FlatProgram {p0 : Value} {w : World} {R : Ending → World → Prop} (h : sh_i_FlatProgram p0 w R) : Calls Try.prog 20 #[p0] w R :=
  calls_sh .leaf [p0] mixed Try.func20 (by kernel_rfl) (by kernel_rfl) h


/- slices.ContainsFunc[[]loop.example/prologserver/impl.Term,loop.example/prologserver/impl.Term] : function 21 -/
def sh_x_ContainsFunc_Term (p0 p1 : Value) (w : World) (R : Ending → World → Prop) : Prop :=
  Run Try.prog (sCall (Value.func (.func 43) #[] #[]) [p0, p1]) w fun t7 w1 =>
  Run Try.prog (sBin .geq 3 false true t7 (Value.int .i64 0)) w1 fun t8 w2 =>
  R (.returned t8) w2
theorem calls_x_ContainsFunc_Term {p0 p1 : Value} {w : World} {R : Ending → World → Prop} (h : sh_x_ContainsFunc_Term p0 p1 w R) : Calls Try.prog 21 #[p0, p1] w R :=
  calls_sh .leaf [p0, p1] mixed Try.func21 (by kernel_rfl) (by kernel_rfl) h


/- loop.example/prologserver/impl.ModelClosed$1 : function 22 -/
def sh_i_ModelClosed_1 (p0 : Value) (w : World) (R : Ending → World → Prop) : Prop :=
  Run Try.prog (sOp (.box 44 (.const p0)) 0) w fun t1 w1 =>
  Run Try.prog (sOp (.load 44 (.const t1)) 44) w1 fun t3 w2 =>
  Run Try.prog (sCall (Value.func (.func 23) #[] #[]) [t3]) w2 fun t4 w3 =>
  Run Try.prog (sOp (.unOp .not 4 (.const t4)) 4) w3 fun t5 w4 =>
  R (.returned t5) w4
theorem calls_i_ModelClosed_1 {p0 : Value} {w : World} {R : Ending → World → Prop} (h : sh_i_ModelClosed_1 p0 w R) : Calls Try.prog 22 #[p0] w R :=
  calls_sh .leaf [p0] mixed Try.func22 (by kernel_rfl) (by kernel_rfl) h


/- loop.example/prologserver/impl.isFact : function 23 -/
def sh_i_isFact (p0 : Value) (w : World) (R : Ending → World → Prop) : Prop :=
  Run Try.prog (sOp (.box 44 (.const p0)) 0) w fun t1 w1 =>
  Run Try.prog (sOp (.load 44 (.const t1)) 44) w1 fun t3 w2 =>
  Run Try.prog (sCall (Value.func (.func 44) #[] #[]) [t3]) w2 fun t4 w3 =>
  GuardV t4 true (
    Run Try.prog (sOp (.load 44 (.const t1)) 44) w3 fun t6 w4 =>
    Run Try.prog (sCall (Value.func (.func 45) #[] #[]) [t6]) w4 fun t7 w5 =>
    Run Try.prog (sOp (.pick (.const t4) (.const t7) (.const (Value.bool false))) 4) w5 fun t8 w6 =>
    GuardV t8 true (
      Run Try.prog (sOp (.load 44 (.const t1)) 44) w6 fun t10 w7 =>
      Run Try.prog (sCall (Value.func (.func 46) #[] #[]) [t10, (Value.slice none 0 0)]) w7 fun t11 w8 =>
      Run Try.prog (sBuiltin .len #[58] 3 [false] [t11]) w8 fun t12 w9 =>
      Run Try.prog (sBin .eql 3 false true t12 (Value.int .i64 0)) w9 fun t13 w10 =>
      Run Try.prog (sOp (.pick (.const t8) (.const t13) (.const (Value.bool false))) 4) w10 fun t14 w11 =>
      R (.returned t14) w11) (
      Run Try.prog (sOp (.pick (.const t8) (.const undef) (.const (Value.bool false))) 4) w6 fun t14_2 w12 =>
      R (.returned t14_2) w12)) (
    Run Try.prog (sOp (.pick (.const t4) (.const undef) (.const (Value.bool false))) 4) w3 fun t8_2 w13 =>
    GuardV t8_2 true (
      Run Try.prog (sOp (.load 44 (.const t1)) 44) w13 fun t10_2 w14 =>
      Run Try.prog (sCall (Value.func (.func 46) #[] #[]) [t10_2, (Value.slice none 0 0)]) w14 fun t11_2 w15 =>
      Run Try.prog (sBuiltin .len #[58] 3 [false] [t11_2]) w15 fun t12_2 w16 =>
      Run Try.prog (sBin .eql 3 false true t12_2 (Value.int .i64 0)) w16 fun t13_2 w17 =>
      Run Try.prog (sOp (.pick (.const t8_2) (.const t13_2) (.const (Value.bool false))) 4) w17 fun t14_3 w18 =>
      R (.returned t14_3) w18) (
      Run Try.prog (sOp (.pick (.const t8_2) (.const undef) (.const (Value.bool false))) 4) w13 fun t14_4 w19 =>
      R (.returned t14_4) w19))
theorem calls_i_isFact {p0 : Value} {w : World} {R : Ending → World → Prop} (h : sh_i_isFact p0 w R) : Calls Try.prog 23 #[p0] w R :=
  calls_sh .leaf [p0] mixed Try.func23 (by kernel_rfl) (by kernel_rfl) h


/- loop.example/prologserver/impl.follows : function 24 -/
def sh_i_follows (p0 p1 p2 p3 p4 : Value) (w : World) (R : Ending → World → Prop) : Prop :=
  Run Try.prog (sOp (.box 46 (.const p0)) 0) w fun t5 w1 =>
  Run Try.prog (sOp (.box 53 (.const p3)) 0) w1 fun t8 w2 =>
  Run Try.prog (sOp (.fieldAddr 46 (.const t5) 1) 0) w2 fun t14 w3 =>
  Run Try.prog (sOp (.load 29 (.const t14)) 29) w3 fun t15 w4 =>
  Run Try.prog (sBuiltin .len #[29] 3 [false] [t15]) w4 fun t16 w5 =>
  Run Try.prog (sBin .eql 3 false false p1 t16) w5 fun t17 w6 =>
  CondV t17 (
    Run Try.prog (sOp (.fieldAddr 46 (.const t5) 0) 0) w6 fun t19 w7 =>
    Run Try.prog (sOp (.load 44 (.const t19)) 44) w7 fun t20 w8 =>
    Run Try.prog (sMakeFunc (.func 48) [] [t8]) w8 fun t21 w9 =>
    Run Try.prog (sCall (Value.func (.func 47) #[] #[]) [t20, t21]) w9 fun t22 w10 =>
    Run Try.prog (sCall p4 [t22]) w10 fun _ w11 =>
    R (.returned (.tuple #[])) w11) (
    Run Try.prog (sBuiltin .len #[29] 3 [false] [p2]) w6 fun t25 w12 =>
  (∃ (I13 : Value → World → Prop) (m14 : Value → World → Nat), I13 (Value.int .i64 0) w12 ∧
  ∀ t26 _ _ _ _ _ _ _ _ t39 t38 t37 t36 t35 t34 t33 t32 _ _ _ _ _ _ _ : Value, ∀ w15 : World, I13 t26 w15 →
  Run Try.prog (sBin .lss 3 false false t26 t25) w15 fun t27_2 w16 =>
  CondV t27_2 (
    (∃ J17 : World → Prop, (
    Run Try.prog (sOp (.indexAddr 29 (.const p2) (.const t26)) 0) w16 fun t28_2 w18 =>
    Run Try.prog (sOp (.load 44 (.const t28_2)) 44) w18 fun t29_2 w19 =>
    Run Try.prog (sOp (.alloc 44) 0) w19 fun t11_2 w20 =>
    Run Try.prog (sOp (.store 44 (.const t11_2) (.const t29_2)) 0) w20 fun _ w21 =>
    Run Try.prog (sOp (.load 53 (.const t8)) 53) w21 fun t30_2 w22 =>
    Run Try.prog (sCall (Value.func (.func 49) #[] #[]) [t30_2]) w22 fun t31_2 w23 =>
    (∃ A24 : (Nat → Bool) → Value → Value → Value → Value → Value → Value → Value → Value → World → Prop, A24 (fun _ => false) t39 t38 t37 t36 t35 t34 t33 t32 { w23 with drawn := w23.drawn + 1 } ∧ (
      (∀ D25 : Nat → Bool, D25 0 = false → ∀ t39_2 t38_2 t37_2 t36_2 t35_2 t34_2 t33_2 t32_2 : Value, ∀ w26 : World, A24 D25 t39_2 t38_2 t37_2 t36_2 t35_2 t34_2 t33_2 t32_2 w26 →
        Run Try.prog (sOp (.load 44 (.const t11_2)) 44) w26 fun t32_3 w27 =>
        A24 (setD D25 0) t39_2 t38_2 t37_2 t36_2 t35_2 t34_2 t33_2 t32_3 w27) ∧
      (∀ D25 : Nat → Bool, D25 1 = false → ∀ t39_2 t38_2 t37_2 t36_2 t35_2 t34_2 t33_2 t32_2 : Value, ∀ w28 : World, A24 D25 t39_2 t38_2 t37_2 t36_2 t35_2 t34_2 t33_2 t32_2 w28 →
        Run Try.prog (sOp (.fieldAddr 46 (.const t5) 1) 0) w28 fun t33_3 w29 =>
        A24 (setD D25 1) t39_2 t38_2 t37_2 t36_2 t35_2 t34_2 t33_3 t32_2 w29) ∧
      (∀ D25 : Nat → Bool, D25 2 = false → D25 1 = true → ∀ t39_2 t38_2 t37_2 t36_2 t35_2 t34_2 t33_2 t32_2 : Value, ∀ w30 : World, A24 D25 t39_2 t38_2 t37_2 t36_2 t35_2 t34_2 t33_2 t32_2 w30 →
        Run Try.prog (sOp (.load 29 (.const t33_2)) 29) w30 fun t34_3 w31 =>
        A24 (setD D25 2) t39_2 t38_2 t37_2 t36_2 t35_2 t34_3 t33_2 t32_2 w31) ∧
      (∀ D25 : Nat → Bool, D25 3 = false → ∀ t39_2 t38_2 t37_2 t36_2 t35_2 t34_2 t33_2 t32_2 : Value, ∀ w32 : World, A24 D25 t39_2 t38_2 t37_2 t36_2 t35_2 t34_2 t33_2 t32_2 w32 →
        A24 (setD D25 3) t39_2 t38_2 t37_2 t36_2 p1 t34_2 t33_2 t32_2 w32) ∧
      (∀ D25 : Nat → Bool, D25 4 = false → D25 2 = true → D25 3 = true → ∀ t39_2 t38_2 t37_2 t36_2 t35_2 t34_2 t33_2 t32_2 : Value, ∀ w33 : World, A24 D25 t39_2 t38_2 t37_2 t36_2 t35_2 t34_2 t33_2 t32_2 w33 →
        Run Try.prog (sOp (.indexAddr 29 (.const t34_2) (.const t35_2)) 0) w33 fun t36_3 w34 =>
        A24 (setD D25 4) t39_2 t38_2 t37_2 t36_3 t35_2 t34_2 t33_2 t32_2 w34) ∧
      (∀ D25 : Nat → Bool, D25 5 = false → D25 4 = true → ∀ t39_2 t38_2 t37_2 t36_2 t35_2 t34_2 t33_2 t32_2 : Value, ∀ w35 : World, A24 D25 t39_2 t38_2 t37_2 t36_2 t35_2 t34_2 t33_2 t32_2 w35 →
        Run Try.prog (sOp (.load 44 (.const t36_2)) 44) w35 fun t37_3 w36 =>
        A24 (setD D25 5) t39_2 t38_2 t37_3 t36_2 t35_2 t34_2 t33_2 t32_2 w36) ∧
      (∀ D25 : Nat → Bool, D25 6 = false → ∀ t39_2 t38_2 t37_2 t36_2 t35_2 t34_2 t33_2 t32_2 : Value, ∀ w37 : World, A24 D25 t39_2 t38_2 t37_2 t36_2 t35_2 t34_2 t33_2 t32_2 w37 →
        A24 (setD D25 6) t39_2 t31_2 t37_2 t36_2 t35_2 t34_2 t33_2 t32_2 w37) ∧
      (∀ D25 : Nat → Bool, D25 7 = false → D25 0 = true → D25 5 = true → D25 6 = true → ∀ t39_2 t38_2 t37_2 t36_2 t35_2 t34_2 t33_2 t32_2 : Value, ∀ w38 : World, A24 D25 t39_2 t38_2 t37_2 t36_2 t35_2 t34_2 t33_2 t32_2 w38 →
        Run Try.prog (sCall (Value.func (.func 50) #[] #[]) [t32_2, t37_2, t38_2]) w38 fun t39_3 w39 =>
        A24 (setD D25 7) t39_3 t38_2 t37_2 t36_2 t35_2 t34_2 t33_2 t32_2 w39) ∧
      True) ∧
    ∀ D25 : Nat → Bool, D25 7 = true → D25 6 = true → D25 5 = true → D25 4 = true → D25 3 = true → D25 2 = true → D25 1 = true → D25 0 = true → ∀ t39_2 t38_2 t37_2 t36_2 t35_2 t34_2 t33_2 t32_2 : Value, ∀ w40 : World, A24 D25 t39_2 t38_2 t37_2 t36_2 t35_2 t34_2 t33_2 t32_2 w40 →
    CondV t39_2 (
      Run Try.prog (sOp (.load 46 (.const t5)) 46) w40 fun t40_2 w41 =>
      Run Try.prog (sBin .add 3 false true p1 (Value.int .i64 1)) w41 fun t42_2 w42 =>
      Run Try.prog (sCall (Value.func (.func 24) #[] #[]) [t40_2, t42_2, p2, t31_2, p4]) w42 fun _ w43 =>
      J17 w43) (
      J17 w40))) ∧
  ∀ _ _ _ _ _ _ _ _ _ _ _ _ _ _ _ _ _ _ _ _ _ : Value, ∀ w44 : World, J17 w44 →
  Run Try.prog (sBin .add 3 false true t26 (Value.int .i64 1)) w44 fun t47_2 w45 =>
  I13 t47_2 w45 ∧ m14 t47_2 w45 < m14 t26 w15)) (
    R (.returned (.tuple #[])) w16)))
theorem calls_i_follows {p0 p1 p2 p3 p4 : Value} {w : World} {R : Ending → World → Prop} (h : sh_i_follows p0 p1 p2 p3 p4 w R) : Calls Try.prog 24 #[p0, p1, p2, p3, p4] w R :=
  calls_sh (.seq none .leaf (.seq none .leaf (.seq none .leaf (.one (.loop [26] (.seq none .leaf (.seq none .leaf (.seq (some []) .leaf .leaf)))))))) [p0, p1, p2, p3, p4] mixed Try.func24 (by kernel_rfl) (by kernel_rfl) h


/- loop.example/prologserver/impl.ModelClosed$2 : function 25 -/
def sh_i_ModelClosed_2 (p0 p1 p2 : Value) (w : World) (R : Ending → World → Prop) : Prop :=
  Run Try.prog (sOp (.box 44 (.const p0)) 0) w fun t3 w1 =>
  Run Try.prog (sOp (.load 4 (.const p1)) 4) w1 fun t4 w2 =>
  GuardV t4 true (
    Run Try.prog (sOp (.load 29 (.const p2)) 29) w2 fun t6 w3 =>
    Run Try.prog (sMakeFunc (.func 26) [] [t3]) w3 fun t7 w4 =>
    Run Try.prog (sCall (Value.func (.func 21) #[] #[]) [t6, t7]) w4 fun t8 w5 =>
    Run Try.prog (sOp (.pick (.const t4) (.const t8) (.const (Value.bool false))) 4) w5 fun t9 w6 =>
    Run Try.prog (sOp (.store 4 (.const p1) (.const t9)) 0) w6 fun _u w7 =>
    R (.returned (.tuple #[])) w7) (
    Run Try.prog (sOp (.pick (.const t4) (.const undef) (.const (Value.bool false))) 4) w2 fun t9_2 w8 =>
    Run Try.prog (sOp (.store 4 (.const p1) (.const t9_2)) 0) w8 fun _ w9 =>
    R (.returned (.tuple #[])) w9)
theorem calls_i_ModelClosed_2 {p0 p1 p2 : Value} {w : World} {R : Ending → World → Prop} (h : sh_i_ModelClosed_2 p0 p1 p2 w R) : Calls Try.prog 25 #[p0, p1, p2] w R :=
  calls_sh .leaf [p0, p1, p2] mixed Try.func25 (by kernel_rfl) (by kernel_rfl) h


/- loop.example/prologserver/impl.ModelClosed$2$1 : function 26 -/
def sh_i_ModelClosed_2_1 (p0 p1 : Value) (w : World) (R : Ending → World → Prop) : Prop :=
  Run Try.prog (sOp (.box 44 (.const p0)) 0) w fun t2 w1 =>
  Run Try.prog (sOp (.load 44 (.const t2)) 44) w1 fun t4 w2 =>
  Run Try.prog (sOp (.load 44 (.const p1)) 44) w2 fun t5 w3 =>
  Run Try.prog (sCall (Value.func (.func 27) #[] #[]) [t4, t5]) w3 fun t6 w4 =>
  R (.returned t6) w4
theorem calls_i_ModelClosed_2_1 {p0 p1 : Value} {w : World} {R : Ending → World → Prop} (h : sh_i_ModelClosed_2_1 p0 p1 w R) : Calls Try.prog 26 #[p0, p1] w R :=
  calls_sh .leaf [p0, p1] mixed Try.func26 (by kernel_rfl) (by kernel_rfl) h


/- loop.example/prologserver/impl.TermSame : function 27 -/
def sh_i_TermSame (p0 p1 : Value) (w : World) (R : Ending → World → Prop) : Prop :=
  Run Try.prog (sOp (.box 44 (.const p0)) 0) w fun t2 w1 =>
  Run Try.prog (sOp (.box 44 (.const p1)) 0) w1 fun t3 w2 =>
  Run Try.prog (sOp (.fieldAddr 44 (.const t2) 0) 0) w2 fun t5 w3 =>
  Run Try.prog (sOp (.load 3 (.const t5)) 3) w3 fun t6 w4 =>
  Run Try.prog (sOp (.fieldAddr 44 (.const t3) 0) 0) w4 fun t7 w5 =>
  Run Try.prog (sOp (.load 3 (.const t7)) 3) w5 fun t8 w6 =>
  Run Try.prog (sBin .eql 3 false false t6 t8) w6 fun t9 w7 =>
  GuardV t9 true (
    Run Try.prog (sOp (.fieldAddr 44 (.const t2) 1) 0) w7 fun t11 w8 =>
    Run Try.prog (sOp (.load 3 (.const t11)) 3) w8 fun t12 w9 =>
    Run Try.prog (sOp (.fieldAddr 44 (.const t3) 1) 0) w9 fun t13 w10 =>
    Run Try.prog (sOp (.load 3 (.const t13)) 3) w10 fun t14 w11 =>
    Run Try.prog (sBin .eql 3 false false t12 t14) w11 fun t15 w12 =>
    Run Try.prog (sOp (.pick (.const t9) (.const t15) (.const (Value.bool false))) 4) w12 fun t16 w13 =>
    GuardV t16 true (
      Run Try.prog (sOp (.fieldAddr 44 (.const t2) 2) 0) w13 fun t18 w14 =>
      Run Try.prog (sOp (.load 9 (.const t18)) 9) w14 fun t19 w15 =>
      Run Try.prog (sOp (.fieldAddr 44 (.const t3) 2) 0) w15 fun t20 w16 =>
      Run Try.prog (sOp (.load 9 (.const t20)) 9) w16 fun t21 w17 =>
      Run Try.prog (sBin .eql 9 false false t19 t21) w17 fun t22 w18 =>
      Run Try.prog (sOp (.pick (.const t16) (.const t22) (.const (Value.bool false))) 4) w18 fun t23 w19 =>
      GuardV t23 true (
        Run Try.prog (sOp (.fieldAddr 44 (.const t2) 3) 0) w19 fun t25 w20 =>
        Run Try.prog (sOp (.load 29 (.const t25)) 29) w20 fun t26 w21 =>
        Run Try.prog (sOp (.fieldAddr 44 (.const t3) 3) 0) w21 fun t27 w22 =>
        Run Try.prog (sOp (.load 29 (.const t27)) 29) w22 fun t28 w23 =>
        Run Try.prog (sCall (Value.func (.func 51) #[] #[]) [t26, t28, (Value.func (.func 27) #[] #[])]) w23 fun t29 w24 =>
        Run Try.prog (sOp (.pick (.const t23) (.const t29) (.const (Value.bool false))) 4) w24 fun t30 w25 =>
        R (.returned t30) w25) (
        Run Try.prog (sOp (.pick (.const t23) (.const undef) (.const (Value.bool false))) 4) w19 fun t30_2 w26 =>
        R (.returned t30_2) w26)) (
      Run Try.prog (sOp (.pick (.const t16) (.const undef) (.const (Value.bool false))) 4) w13 fun t23_2 w27 =>
      GuardV t23_2 true (
        Run Try.prog (sOp (.fieldAddr 44 (.const t2) 3) 0) w27 fun t25_2 w28 =>
        Run Try.prog (sOp (.load 29 (.const t25_2)) 29) w28 fun t26_2 w29 =>
        Run Try.prog (sOp (.fieldAddr 44 (.const t3) 3) 0) w29 fun t27_2 w30 =>
        Run Try.prog (sOp (.load 29 (.const t27_2)) 29) w30 fun t28_2 w31 =>
        Run Try.prog (sCall (Value.func (.func 51) #[] #[]) [t26_2, t28_2, (Value.func (.func 27) #[] #[])]) w31 fun t29_2 w32 =>
        Run Try.prog (sOp (.pick (.const t23_2) (.const t29_2) (.const (Value.bool false))) 4) w32 fun t30_3 w33 =>
        R (.returned t30_3) w33) (
        Run Try.prog (sOp (.pick (.const t23_2) (.const undef) (.const (Value.bool false))) 4) w27 fun t30_4 w34 =>
        R (.returned t30_4) w34))) (
    Run Try.prog (sOp (.pick (.const t9) (.const undef) (.const (Value.bool false))) 4) w7 fun t16_2 w35 =>
    GuardV t16_2 true (
      Run Try.prog (sOp (.fieldAddr 44 (.const t2) 2) 0) w35 fun t18_2 w36 =>
      Run Try.prog (sOp (.load 9 (.const t18_2)) 9) w36 fun t19_2 w37 =>
      Run Try.prog (sOp (.fieldAddr 44 (.const t3) 2) 0) w37 fun t20_2 w38 =>
      Run Try.prog (sOp (.load 9 (.const t20_2)) 9) w38 fun t21_2 w39 =>
      Run Try.prog (sBin .eql 9 false false t19_2 t21_2) w39 fun t22_2 w40 =>
      Run Try.prog (sOp (.pick (.const t16_2) (.const t22_2) (.const (Value.bool false))) 4) w40 fun t23_3 w41 =>
      GuardV t23_3 true (
        Run Try.prog (sOp (.fieldAddr 44 (.const t2) 3) 0) w41 fun t25_3 w42 =>
        Run Try.prog (sOp (.load 29 (.const t25_3)) 29) w42 fun t26_3 w43 =>
        Run Try.prog (sOp (.fieldAddr 44 (.const t3) 3) 0) w43 fun t27_3 w44 =>
        Run Try.prog (sOp (.load 29 (.const t27_3)) 29) w44 fun t28_3 w45 =>
        Run Try.prog (sCall (Value.func (.func 51) #[] #[]) [t26_3, t28_3, (Value.func (.func 27) #[] #[])]) w45 fun t29_3 w46 =>
        Run Try.prog (sOp (.pick (.const t23_3) (.const t29_3) (.const (Value.bool false))) 4) w46 fun t30_5 w47 =>
        R (.returned t30_5) w47) (
        Run Try.prog (sOp (.pick (.const t23_3) (.const undef) (.const (Value.bool false))) 4) w41 fun t30_6 w48 =>
        R (.returned t30_6) w48)) (
      Run Try.prog (sOp (.pick (.const t16_2) (.const undef) (.const (Value.bool false))) 4) w35 fun t23_4 w49 =>
      GuardV t23_4 true (
        Run Try.prog (sOp (.fieldAddr 44 (.const t2) 3) 0) w49 fun t25_4 w50 =>
        Run Try.prog (sOp (.load 29 (.const t25_4)) 29) w50 fun t26_4 w51 =>
        Run Try.prog (sOp (.fieldAddr 44 (.const t3) 3) 0) w51 fun t27_4 w52 =>
        Run Try.prog (sOp (.load 29 (.const t27_4)) 29) w52 fun t28_4 w53 =>
        Run Try.prog (sCall (Value.func (.func 51) #[] #[]) [t26_4, t28_4, (Value.func (.func 27) #[] #[])]) w53 fun t29_4 w54 =>
        Run Try.prog (sOp (.pick (.const t23_4) (.const t29_4) (.const (Value.bool false))) 4) w54 fun t30_7 w55 =>
        R (.returned t30_7) w55) (
        Run Try.prog (sOp (.pick (.const t23_4) (.const undef) (.const (Value.bool false))) 4) w49 fun t30_8 w56 =>
        R (.returned t30_8) w56)))
theorem calls_i_TermSame {p0 p1 : Value} {w : World} {R : Ending → World → Prop} (h : sh_i_TermSame p0 p1 w R) : Calls Try.prog 27 #[p0, p1] w R :=
  calls_sh .leaf [p0, p1] mixed Try.func27 (by kernel_rfl) (by kernel_rfl) h


/- loop.example/prologserver/laws.eqClause : function 28 -/
def sh_l_eqClause (p0 p1 : Value) (w : World) (R : Ending → World → Prop) : Prop :=
  Run Try.prog (sOp (.box 46 (.const p0)) 0) w fun t2 w1 =>
  Run Try.prog (sOp (.box 46 (.const p1)) 0) w1 fun t3 w2 =>
  Run Try.prog (sOp (.fieldAddr 46 (.const t2) 0) 0) w2 fun t5 w3 =>
  Run Try.prog (sOp (.load 44 (.const t5)) 44) w3 fun t6 w4 =>
  Run Try.prog (sOp (.fieldAddr 46 (.const t3) 0) 0) w4 fun t7 w5 =>
  Run Try.prog (sOp (.load 44 (.const t7)) 44) w5 fun t8 w6 =>
  Run Try.prog (sCall (Value.func (.func 29) #[] #[]) [t6, t8]) w6 fun t9 w7 =>
  Run Try.prog (sOp (.unOp .not 4 (.const t9)) 4) w7 fun t10 w8 =>
  CondV t10 (
    R (.returned (Value.bool false)) w8) (
    Run Try.prog (sOp (.fieldAddr 46 (.const t2) 1) 0) w8 fun t11 w9 =>
  Run Try.prog (sOp (.load 29 (.const t11)) 29) w9 fun t12 w10 =>
  Run Try.prog (sOp (.fieldAddr 46 (.const t3) 1) 0) w10 fun t13 w11 =>
  Run Try.prog (sOp (.load 29 (.const t13)) 29) w11 fun t14 w12 =>
  Run Try.prog (sCall (Value.func (.func 11) #[] #[]) [t12, t14]) w12 fun t15 w13 =>
  Run Try.prog (sOp (.unOp .not 4 (.const t15)) 4) w13 fun t16 w14 =>
  CondV t16 (
    R (.returned (Value.bool false)) w14) (
    R (.returned (Value.bool true)) w14))
theorem calls_l_eqClause {p0 p1 : Value} {w : World} {R : Ending → World → Prop} (h : sh_l_eqClause p0 p1 w R) : Calls Try.prog 28 #[p0, p1] w R :=
  calls_sh .leaf [p0, p1] mixed Try.func28 (by kernel_rfl) (by kernel_rfl) h


/- loop.example/prologserver/laws.eqTerm : function 29 -/
def sh_l_eqTerm (p0 p1 : Value) (w : World) (R : Ending → World → Prop) : Prop :=
  Run Try.prog (sOp (.box 44 (.const p0)) 0) w fun t2 w1 =>
  Run Try.prog (sOp (.box 44 (.const p1)) 0) w1 fun t3 w2 =>
  Run Try.prog (sOp (.fieldAddr 44 (.const t2) 0) 0) w2 fun t5 w3 =>
  Run Try.prog (sOp (.load 3 (.const t5)) 3) w3 fun t6 w4 =>
  Run Try.prog (sOp (.fieldAddr 44 (.const t3) 0) 0) w4 fun t7 w5 =>
  Run Try.prog (sOp (.load 3 (.const t7)) 3) w5 fun t8 w6 =>
  Run Try.prog (sBin .neq 3 false false t6 t8) w6 fun t9 w7 =>
  CondV t9 (
    R (.returned (Value.bool false)) w7) (
    Run Try.prog (sOp (.fieldAddr 44 (.const t2) 1) 0) w7 fun t10 w8 =>
  Run Try.prog (sOp (.load 3 (.const t10)) 3) w8 fun t11 w9 =>
  Run Try.prog (sOp (.fieldAddr 44 (.const t3) 1) 0) w9 fun t12 w10 =>
  Run Try.prog (sOp (.load 3 (.const t12)) 3) w10 fun t13 w11 =>
  Run Try.prog (sBin .neq 3 false false t11 t13) w11 fun t14 w12 =>
  CondV t14 (
    R (.returned (Value.bool false)) w12) (
    Run Try.prog (sOp (.fieldAddr 44 (.const t2) 2) 0) w12 fun t15 w13 =>
  Run Try.prog (sOp (.load 9 (.const t15)) 9) w13 fun t16 w14 =>
  Run Try.prog (sOp (.fieldAddr 44 (.const t3) 2) 0) w14 fun t17 w15 =>
  Run Try.prog (sOp (.load 9 (.const t17)) 9) w15 fun t18 w16 =>
  Run Try.prog (sBin .neq 9 false false t16 t18) w16 fun t19 w17 =>
  CondV t19 (
    R (.returned (Value.bool false)) w17) (
    Run Try.prog (sOp (.fieldAddr 44 (.const t2) 3) 0) w17 fun t20 w18 =>
  Run Try.prog (sOp (.load 29 (.const t20)) 29) w18 fun t21 w19 =>
  Run Try.prog (sOp (.fieldAddr 44 (.const t3) 3) 0) w19 fun t22 w20 =>
  Run Try.prog (sOp (.load 29 (.const t22)) 29) w20 fun t23 w21 =>
  Run Try.prog (sCall (Value.func (.func 11) #[] #[]) [t21, t23]) w21 fun t24 w22 =>
  Run Try.prog (sOp (.unOp .not 4 (.const t24)) 4) w22 fun t25 w23 =>
  CondV t25 (
    R (.returned (Value.bool false)) w23) (
    R (.returned (Value.bool true)) w23))))
theorem calls_l_eqTerm {p0 p1 : Value} {w : World} {R : Ending → World → Prop} (h : sh_l_eqTerm p0 p1 w R) : Calls Try.prog 29 #[p0, p1] w R :=
  calls_sh .leaf [p0, p1] mixed Try.func29 (by kernel_rfl) (by kernel_rfl) h


/- loop.example/prologserver/spec.ProgramValid : function 30 -/
def sh_s_ProgramValid (p0 : Value) (w : World) (R : Ending → World → Prop) : Prop :=
  (∃ (I1 : Value → World → Prop) (m2 : Value → World → Nat), I1 (Value.int .i64 0) w ∧
  ∀ t3 _ _ _ _ _ _ _ _ _ _ _ _ _ _ _ _ _ : Value, ∀ w3 : World, I1 t3 w3 →
  (∃ J4 : Value → World → Prop, (
    Run Try.prog (sBuiltin .len #[27] 3 [false] [p0]) w3 fun t6_2 w5 =>
    Run Try.prog (sBin .lss 3 false false t3 t6_2) w5 fun t7_2 w6 =>
    GuardV t7_2 true (
      Run Try.prog (sBin .leq 3 false true t3 (Value.int .i64 20)) w6 fun t10_2 w7 =>
      Run Try.prog (sOp (.pick (.const t7_2) (.const t10_2) (.const (Value.bool false))) 4) w7 fun t11_2 w8 =>
      J4 t11_2 w8) (
      Run Try.prog (sOp (.pick (.const t7_2) (.const undef) (.const (Value.bool false))) 4) w6 fun t11_3 w9 =>
      J4 t11_3 w9)) ∧
  ∀ t11_4 _ _ _ _ _ _ _ : Value, ∀ w10 : World, J4 t11_4 w10 →
  CondV t11_4 (
    Run Try.prog (sOp (.indexAddr 27 (.const p0) (.const t3)) 0) w10 fun t16_2 w11 =>
  Run Try.prog (sOp (.load 46 (.const t16_2)) 46) w11 fun t17_2 w12 =>
  Run Try.prog (sCall (Value.func (.func 52) #[] #[]) [t17_2]) w12 fun t18_2 w13 =>
  Run Try.prog (sOp (.unOp .not 4 (.const t18_2)) 4) w13 fun t19_2 w14 =>
  CondV t19_2 (
    R (.returned (Value.bool false)) w14) (
    Run Try.prog (sBin .add 3 false true t3 (Value.int .i64 1)) w14 fun t13_2 w15 =>
  I1 t13_2 w15 ∧ m2 t13_2 w15 < m2 t3 w3)) (
    Run Try.prog (sBuiltin .len #[27] 3 [false] [p0]) w10 fun t21 w16 =>
  Run Try.prog (sBin .leq 3 false true t21 (Value.int .i64 20)) w16 fun t22 w17 =>
  R (.returned t22) w17)))
theorem calls_s_ProgramValid {p0 : Value} {w : World} {R : Ending → World → Prop} (h : sh_s_ProgramValid p0 w R) : Calls Try.prog 30 #[p0] w R :=
  calls_sh (.seq none .leaf (.seq none (.seq none .leaf (.one (.loop [3] (.seq none (.seq (some [11]) .leaf .leaf) .leaf)))) .leaf)) [p0] mixed Try.func30 (by kernel_rfl) (by kernel_rfl) h


/- loop.example/prologserver/spec.l16Clause : function 31 -/
def sh_s_l16Clause (p0 : Value) (w : World) (R : Ending → World → Prop) : Prop :=
  Run Try.prog (sOp (.box 46 (.const p0)) 0) w fun t1 w1 =>
  (∃ J2 : Value → World → Prop, (
    Run Try.prog (sOp (.fieldAddr 46 (.const t1) 0) 0) w1 fun t7 w3 =>
    Run Try.prog (sOp (.load 44 (.const t7)) 44) w3 fun t8 w4 =>
    Run Try.prog (sCall (Value.func (.func 33) #[] #[]) [t8]) w4 fun t9 w5 =>
    Run Try.prog (sOp (.unOp .not 4 (.const t9)) 4) w5 fun t10 w6 =>
    GuardV t10 false (
      Run Try.prog (sOp (.fieldAddr 46 (.const t1) 1) 0) w6 fun t12 w7 =>
      Run Try.prog (sOp (.load 29 (.const t12)) 29) w7 fun t13 w8 =>
      Run Try.prog (sBuiltin .len #[29] 3 [false] [t13]) w8 fun t14 w9 =>
      Run Try.prog (sBin .gtr 3 false true t14 (Value.int .i64 3)) w9 fun t15 w10 =>
      Run Try.prog (sOp (.pick (.const t10) (.const (Value.bool true)) (.const t15)) 4) w10 fun t16 w11 =>
      J2 t16 w11) (
      Run Try.prog (sOp (.pick (.const t10) (.const (Value.bool true)) (.const undef)) 4) w6 fun t16_2 w12 =>
      J2 t16_2 w12)) ∧
  ∀ t16_3 _ _ _ _ _ _ _ _ _ : Value, ∀ w13 : World, J2 t16_3 w13 →
  CondV t16_3 (
    R (.returned (Value.bool false)) w13) (
    Run Try.prog (sBuildSlice 58 0 []) w13 fun t17 w14 =>
  (∃ (I15 : Value → Value → World → Prop) (m16 : Value → Value → World → Nat), I15 (Value.int .i64 0) t17 w14 ∧
  ∀ t4 _ _ t3 _ _ _ _ _ _ _ _ _ _ _ _ _ _ _ _ _ _ _ _ : Value, ∀ w17 : World, I15 t4 t3 w17 →
  Run Try.prog (sOp (.fieldAddr 46 (.const t1) 1) 0) w17 fun t19_2 w18 =>
  Run Try.prog (sOp (.load 29 (.const t19_2)) 29) w18 fun t20_2 w19 =>
  Run Try.prog (sBuiltin .len #[29] 3 [false] [t20_2]) w19 fun t21_2 w20 =>
  Run Try.prog (sBin .lss 3 false false t4 t21_2) w20 fun t22_2 w21 =>
  CondV t22_2 (
    Run Try.prog (sOp (.fieldAddr 46 (.const t1) 1) 0) w21 fun t25_2 w22 =>
  Run Try.prog (sOp (.load 29 (.const t25_2)) 29) w22 fun t26_2 w23 =>
  Run Try.prog (sOp (.indexAddr 29 (.const t26_2) (.const t4)) 0) w23 fun t28_2 w24 =>
  Run Try.prog (sOp (.load 44 (.const t28_2)) 44) w24 fun t29_2 w25 =>
  Run Try.prog (sCall (Value.func (.func 33) #[] #[]) [t29_2]) w25 fun t30_2 w26 =>
  Run Try.prog (sOp (.unOp .not 4 (.const t30_2)) 4) w26 fun t31_2 w27 =>
  CondV t31_2 (
    R (.returned (Value.bool false)) w27) (
    Run Try.prog (sOp (.fieldAddr 46 (.const t1) 1) 0) w27 fun t33_2 w28 =>
  Run Try.prog (sOp (.load 29 (.const t33_2)) 29) w28 fun t34_2 w29 =>
  Run Try.prog (sOp (.indexAddr 29 (.const t34_2) (.const t4)) 0) w29 fun t36_2 w30 =>
  Run Try.prog (sOp (.load 44 (.const t36_2)) 44) w30 fun t37_2 w31 =>
  Run Try.prog (sCall (Value.func (.func 34) #[] #[]) [t3, t37_2]) w31 fun t38_2 w32 =>
  Run Try.prog (sBin .add 3 false true t4 (Value.int .i64 1)) w32 fun t24_2 w33 =>
  I15 t24_2 t38_2 w33 ∧ m16 t24_2 t38_2 w33 < m16 t4 t3 w17)) (
    Run Try.prog (sOp (.fieldAddr 46 (.const t1) 0) 0) w21 fun t39 w34 =>
  Run Try.prog (sOp (.load 44 (.const t39)) 44) w34 fun t40 w35 =>
  Run Try.prog (sCall (Value.func (.func 34) #[] #[]) [(Value.slice none 0 0), t40]) w35 fun t41 w36 =>
  (∃ (I37 : Value → World → Prop) (m38 : Value → World → Nat), I37 (Value.int .i64 0) w36 ∧
  ∀ t6 _ _ _ _ _ _ _ _ _ _ _ _ _ _ : Value, ∀ w39 : World, I37 t6 w39 →
  Run Try.prog (sBuiltin .len #[58] 3 [false] [t41]) w39 fun t44_2 w40 =>
  Run Try.prog (sBin .lss 3 false false t6 t44_2) w40 fun t45_2 w41 =>
  CondV t45_2 (
    Run Try.prog (sOp (.indexAddr 58 (.const t41) (.const t6)) 0) w41 fun t51_2 w42 =>
  Run Try.prog (sOp (.load 3 (.const t51_2)) 3) w42 fun t52_2 w43 =>
  Run Try.prog (sCall (Value.func (.func 53) #[] #[]) [t3, t52_2]) w43 fun t53_2 w44 =>
  Run Try.prog (sOp (.unOp .not 4 (.const t53_2)) 4) w44 fun t54_2 w45 =>
  CondV t54_2 (
    R (.returned (Value.bool false)) w45) (
    Run Try.prog (sBin .add 3 false true t6 (Value.int .i64 1)) w45 fun t47_2 w46 =>
  I37 t47_2 w46 ∧ m38 t47_2 w46 < m38 t6 w39)) (
    R (.returned (Value.bool true)) w41))))))
theorem calls_s_l16Clause {p0 : Value} {w : World} {R : Ending → World → Prop} (h : sh_s_l16Clause p0 w R) : Calls Try.prog 31 #[p0] w R :=
  calls_sh (.seq none .leaf (.seq none (.seq (some [16]) .leaf .leaf) (.seq none .leaf (.seq none (.seq none .leaf (.one (.loop [4, 3] .leaf))) (.seq none .leaf (.seq none (.seq none .leaf (.one (.loop [6] .leaf))) .leaf)))))) [p0] mixed Try.func31 (by kernel_rfl) (by kernel_rfl) h


/- loop.example/prologserver/spec.TermValid : function 32 -/
def sh_s_TermValid (p0 : Value) (w : World) (R : Ending → World → Prop) : Prop :=
  Run Try.prog (sOp (.box 44 (.const p0)) 0) w fun t1 w1 =>
  Run Try.prog (sOp (.load 44 (.const t1)) 44) w1 fun t3 w2 =>
  Run Try.prog (sCall (Value.func (.func 54) #[] #[]) [t3, (Value.int .i64 30)]) w2 fun t4 w3 =>
  GuardV t4 true (
    Run Try.prog (sOp (.load 44 (.const t1)) 44) w3 fun t6 w4 =>
    Run Try.prog (sCall (Value.func (.func 55) #[] #[]) [t6, (Value.int .i64 120)]) w4 fun t7 w5 =>
    Run Try.prog (sBin .leq 3 false true t7 (Value.int .i64 120)) w5 fun t8 w6 =>
    Run Try.prog (sOp (.pick (.const t4) (.const t8) (.const (Value.bool false))) 4) w6 fun t9 w7 =>
    R (.returned t9) w7) (
    Run Try.prog (sOp (.pick (.const t4) (.const undef) (.const (Value.bool false))) 4) w3 fun t9_2 w8 =>
    R (.returned t9_2) w8)
theorem calls_s_TermValid {p0 : Value} {w : World} {R : Ending → World → Prop} (h : sh_s_TermValid p0 w R) : Calls Try.prog 32 #[p0] w R :=
  calls_sh .leaf [p0] mixed Try.func32 (by kernel_rfl) (by kernel_rfl) h


/- loop.example/prologserver/spec.l16Flat : function 33 -/
def sh_s_l16Flat (p0 : Value) (w : World) (R : Ending → World → Prop) : Prop :=
  Run Try.prog (sOp (.box 44 (.const p0)) 0) w fun t1 w1 =>
  (∃ (I2 : Value → World → Prop) (m3 : Value → World → Nat), I2 (Value.int .i64 0) w1 ∧
  ∀ t3 _ _ _ _ _ _ _ _ _ _ _ _ _ _ _ _ : Value, ∀ w4 : World, I2 t3 w4 →
  Run Try.prog (sOp (.fieldAddr 44 (.const t1) 3) 0) w4 fun t5_2 w5 =>
  Run Try.prog (sOp (.load 29 (.const t5_2)) 29) w5 fun t6_2 w6 =>
  Run Try.prog (sBuiltin .len #[29] 3 [false] [t6_2]) w6 fun t7_2 w7 =>
  Run Try.prog (sBin .lss 3 false false t3 t7_2) w7 fun t8_2 w8 =>
  CondV t8_2 (
    Run Try.prog (sOp (.fieldAddr 44 (.const t1) 3) 0) w8 fun t11_2 w9 =>
  Run Try.prog (sOp (.load 29 (.const t11_2)) 29) w9 fun t12_2 w10 =>
  Run Try.prog (sOp (.indexAddr 29 (.const t12_2) (.const t3)) 0) w10 fun t14_2 w11 =>
  Run Try.prog (sOp (.fieldAddr 44 (.const t14_2) 3) 0) w11 fun t15_2 w12 =>
  Run Try.prog (sOp (.load 29 (.const t15_2)) 29) w12 fun t16_2 w13 =>
  Run Try.prog (sBuiltin .len #[29] 3 [false] [t16_2]) w13 fun t17_2 w14 =>
  Run Try.prog (sBin .gtr 3 false true t17_2 (Value.int .i64 0)) w14 fun t18_2 w15 =>
  CondV t18_2 (
    R (.returned (Value.bool false)) w15) (
    Run Try.prog (sBin .add 3 false true t3 (Value.int .i64 1)) w15 fun t10_2 w16 =>
  I2 t10_2 w16 ∧ m3 t10_2 w16 < m3 t3 w4)) (
    Run Try.prog (sOp (.load 44 (.const t1)) 44) w8 fun t19 w17 =>
  Run Try.prog (sCall (Value.func (.func 56) #[] #[]) [t19]) w17 fun t20 w18 =>
  R (.returned t20) w18))
theorem calls_s_l16Flat {p0 : Value} {w : World} {R : Ending → World → Prop} (h : sh_s_l16Flat p0 w R) : Calls Try.prog 33 #[p0] w R :=
  calls_sh (.seq none .leaf (.seq none (.seq none .leaf (.one (.loop [3] .leaf))) .leaf)) [p0] mixed Try.func33 (by kernel_rfl) (by kernel_rfl) h


/- loop.example/prologserver/spec.l1Vars : function 34 -/
def sh_s_l1Vars (p0 p1 : Value) (w : World) (R : Ending → World → Prop) : Prop :=
  Run Try.prog (sOp (.box 44 (.const p1)) 0) w fun t3 w1 =>
  Run Try.prog (sOp (.fieldAddr 44 (.const t3) 0) 0) w1 fun t7 w2 =>
  Run Try.prog (sOp (.load 3 (.const t7)) 3) w2 fun t8 w3 =>
  Run Try.prog (sBin .eql 3 false true t8 (Value.int .i64 1)) w3 fun t9 w4 =>
  CondV t9 (
    (∃ (I5 : Value → World → Prop) (m6 : Value → World → Nat), I5 (Value.int .i64 0) w4 ∧
    ∀ t5 _ _ _ _ t22 t21 t20 t19 t18 t17 t16 _ _ _ _ : Value, ∀ w7 : World, I5 t5 w7 →
    Run Try.prog (sBuiltin .len #[58] 3 [false] [p0]) w7 fun t12_2 w8 =>
    Run Try.prog (sBin .lss 3 false false t5 t12_2) w8 fun t13_2 w9 =>
    CondV t13_2 (
      (∃ A10 : (Nat → Bool) → Value → Value → Value → Value → Value → Value → Value → World → Prop, A10 (fun _ => false) t22 t21 t20 t19 t18 t17 t16 { w9 with drawn := w9.drawn + 1 } ∧ (
      (∀ D11 : Nat → Bool, D11 0 = false → ∀ t22_2 t21_2 t20_2 t19_2 t18_2 t17_2 t16_2 : Value, ∀ w12 : World, A10 D11 t22_2 t21_2 t20_2 t19_2 t18_2 t17_2 t16_2 w12 →
        A10 (setD D11 0) t22_2 t21_2 t20_2 t19_2 t18_2 t17_2 p0 w12) ∧
      (∀ D11 : Nat → Bool, D11 1 = false → ∀ t22_2 t21_2 t20_2 t19_2 t18_2 t17_2 t16_2 : Value, ∀ w13 : World, A10 D11 t22_2 t21_2 t20_2 t19_2 t18_2 t17_2 t16_2 w13 →
        A10 (setD D11 1) t22_2 t21_2 t20_2 t19_2 t18_2 t5 t16_2 w13) ∧
      (∀ D11 : Nat → Bool, D11 2 = false → D11 0 = true → D11 1 = true → ∀ t22_2 t21_2 t20_2 t19_2 t18_2 t17_2 t16_2 : Value, ∀ w14 : World, A10 D11 t22_2 t21_2 t20_2 t19_2 t18_2 t17_2 t16_2 w14 →
        Run Try.prog (sOp (.indexAddr 58 (.const t16_2) (.const t17_2)) 0) w14 fun t18_3 w15 =>
        A10 (setD D11 2) t22_2 t21_2 t20_2 t19_2 t18_3 t17_2 t16_2 w15) ∧
      (∀ D11 : Nat → Bool, D11 3 = false → D11 2 = true → ∀ t22_2 t21_2 t20_2 t19_2 t18_2 t17_2 t16_2 : Value, ∀ w16 : World, A10 D11 t22_2 t21_2 t20_2 t19_2 t18_2 t17_2 t16_2 w16 →
        Run Try.prog (sOp (.load 3 (.const t18_2)) 3) w16 fun t19_3 w17 =>
        A10 (setD D11 3) t22_2 t21_2 t20_2 t19_3 t18_2 t17_2 t16_2 w17) ∧
      (∀ D11 : Nat → Bool, D11 4 = false → ∀ t22_2 t21_2 t20_2 t19_2 t18_2 t17_2 t16_2 : Value, ∀ w18 : World, A10 D11 t22_2 t21_2 t20_2 t19_2 t18_2 t17_2 t16_2 w18 →
        Run Try.prog (sOp (.fieldAddr 44 (.const t3) 1) 0) w18 fun t20_3 w19 =>
        A10 (setD D11 4) t22_2 t21_2 t20_3 t19_2 t18_2 t17_2 t16_2 w19) ∧
      (∀ D11 : Nat → Bool, D11 5 = false → D11 4 = true → ∀ t22_2 t21_2 t20_2 t19_2 t18_2 t17_2 t16_2 : Value, ∀ w20 : World, A10 D11 t22_2 t21_2 t20_2 t19_2 t18_2 t17_2 t16_2 w20 →
        Run Try.prog (sOp (.load 3 (.const t20_2)) 3) w20 fun t21_3 w21 =>
        A10 (setD D11 5) t22_2 t21_3 t20_2 t19_2 t18_2 t17_2 t16_2 w21) ∧
      (∀ D11 : Nat → Bool, D11 6 = false → D11 3 = true → D11 5 = true → ∀ t22_2 t21_2 t20_2 t19_2 t18_2 t17_2 t16_2 : Value, ∀ w22 : World, A10 D11 t22_2 t21_2 t20_2 t19_2 t18_2 t17_2 t16_2 w22 →
        Run Try.prog (sBin .eql 3 false false t19_2 t21_2) w22 fun t22_3 w23 =>
        A10 (setD D11 6) t22_3 t21_2 t20_2 t19_2 t18_2 t17_2 t16_2 w23) ∧
      True) ∧
    ∀ D11 : Nat → Bool, D11 6 = true → D11 5 = true → D11 4 = true → D11 3 = true → D11 2 = true → D11 1 = true → D11 0 = true → ∀ t22_2 t21_2 t20_2 t19_2 t18_2 t17_2 t16_2 : Value, ∀ w24 : World, A10 D11 t22_2 t21_2 t20_2 t19_2 t18_2 t17_2 t16_2 w24 →
    CondV t22_2 (
      R (.returned p0) w24) (
      Run Try.prog (sBin .add 3 false true t5 (Value.int .i64 1)) w24 fun t15_2 w25 =>
    I5 t15_2 w25 ∧ m6 t15_2 w25 < m6 t5 w7))) (
      Run Try.prog (sOp (.fieldAddr 44 (.const t3) 1) 0) w9 fun t25 w26 =>
    Run Try.prog (sOp (.load 3 (.const t25)) 3) w26 fun t26 w27 =>
    Run Try.prog (sBuildSlice 58 1 [(0, t26)]) w27 fun t27 w28 =>
    Run Try.prog (sBuiltin .append #[58, 58] 58 [false, false] [p0, t27]) w28 fun t28 w29 =>
    R (.returned t28) w29))) (
    (∃ (I30 : Value → Value → World → Prop) (m31 : Value → Value → World → Nat), I30 (Value.int .i64 0) p0 w4 ∧
  ∀ t6 _ _ t0 _ _ _ _ _ _ _ _ _ _ _ _ : Value, ∀ w32 : World, I30 t6 t0 w32 →
  Run Try.prog (sOp (.fieldAddr 44 (.const t3) 3) 0) w32 fun t30_2 w33 =>
  Run Try.prog (sOp (.load 29 (.const t30_2)) 29) w33 fun t31_2 w34 =>
  Run Try.prog (sBuiltin .len #[29] 3 [false] [t31_2]) w34 fun t32_2 w35 =>
  Run Try.prog (sBin .lss 3 false false t6 t32_2) w35 fun t33_2 w36 =>
  CondV t33_2 (
    Run Try.prog (sOp (.fieldAddr 44 (.const t3) 3) 0) w36 fun t37_2 w37 =>
  Run Try.prog (sOp (.load 29 (.const t37_2)) 29) w37 fun t38_2 w38 =>
  Run Try.prog (sOp (.indexAddr 29 (.const t38_2) (.const t6)) 0) w38 fun t40_2 w39 =>
  Run Try.prog (sOp (.load 44 (.const t40_2)) 44) w39 fun t41_2 w40 =>
  Run Try.prog (sCall (Value.func (.func 34) #[] #[]) [t0, t41_2]) w40 fun t42_2 w41 =>
  Run Try.prog (sBin .add 3 false true t6 (Value.int .i64 1)) w41 fun t35_2 w42 =>
  I30 t35_2 t42_2 w42 ∧ m31 t35_2 t42_2 w42 < m31 t6 t0 w32) (
    R (.returned t0) w36)))
theorem calls_s_l1Vars {p0 p1 : Value} {w : World} {R : Ending → World → Prop} (h : sh_s_l1Vars p0 p1 w R) : Calls Try.prog 34 #[p0, p1] w R :=
  calls_sh (.seq none .leaf (.seq none (.seq none .leaf (.two (.seq none (.seq none .leaf (.one (.loop [5] .leaf))) .leaf) .leaf)) (.seq none (.seq none .leaf (.one (.loop [6, 0] .leaf))) .leaf))) [p0, p1] mixed Try.func34 (by kernel_rfl) (by kernel_rfl) h


/- loop.example/prologserver/spec.l16Put : function 35 -/
def sh_s_l16Put (p0 p1 : Value) (w : World) (R : Ending → World → Prop) : Prop :=
  Run Try.prog (sOp (.box 44 (.const p1)) 0) w fun t3 w1 =>
  (∃ (I2 : Value → World → Prop) (m3 : Value → World → Nat), I2 (Value.int .i64 0) w1 ∧
  ∀ t5 _ _ t19 t18 t17 t16 t15 t14 t13 t12 t11 t10 t9 t8 t7 : Value, ∀ w4 : World, I2 t5 w4 →
  (∃ A5 : (Nat → Bool) → Value → Value → Value → Value → Value → Value → Value → Value → Value → Value → Value → Value → Value → World → Prop, A5 (fun _ => false) t19 t18 t17 t16 t15 t14 t13 t12 t11 t10 t9 t8 t7 { w4 with drawn := w4.drawn + 1 } ∧ (
    (∀ D6 : Nat → Bool, D6 0 = false → ∀ t19_2 t18_2 t17_2 t16_2 t15_2 t14_2 t13_2 t12_2 t11_2 t10_2 t9_2 t8_2 t7_2 : Value, ∀ w7 : World, A5 D6 t19_2 t18_2 t17_2 t16_2 t15_2 t14_2 t13_2 t12_2 t11_2 t10_2 t9_2 t8_2 t7_2 w7 →
      A5 (setD D6 0) t19_2 t18_2 t17_2 t16_2 t15_2 t14_2 t13_2 t12_2 t11_2 t10_2 t9_2 t8_2 t5 w7) ∧
    (∀ D6 : Nat → Bool, D6 1 = false → ∀ t19_2 t18_2 t17_2 t16_2 t15_2 t14_2 t13_2 t12_2 t11_2 t10_2 t9_2 t8_2 t7_2 : Value, ∀ w8 : World, A5 D6 t19_2 t18_2 t17_2 t16_2 t15_2 t14_2 t13_2 t12_2 t11_2 t10_2 t9_2 t8_2 t7_2 w8 →
      A5 (setD D6 1) t19_2 t18_2 t17_2 t16_2 t15_2 t14_2 t13_2 t12_2 t11_2 t10_2 t9_2 p0 t7_2 w8) ∧
    (∀ D6 : Nat → Bool, D6 2 = false → D6 1 = true → ∀ t19_2 t18_2 t17_2 t16_2 t15_2 t14_2 t13_2 t12_2 t11_2 t10_2 t9_2 t8_2 t7_2 : Value, ∀ w9 : World, A5 D6 t19_2 t18_2 t17_2 t16_2 t15_2 t14_2 t13_2 t12_2 t11_2 t10_2 t9_2 t8_2 t7_2 w9 →
      Run Try.prog (sBuiltin .len #[29] 3 [false] [t8_2]) w9 fun t9_3 w10 =>
      A5 (setD D6 2) t19_2 t18_2 t17_2 t16_2 t15_2 t14_2 t13_2 t12_2 t11_2 t10_2 t9_3 t8_2 t7_2 w10) ∧
    (∀ D6 : Nat → Bool, D6 3 = false → D6 0 = true → D6 2 = true → ∀ t19_2 t18_2 t17_2 t16_2 t15_2 t14_2 t13_2 t12_2 t11_2 t10_2 t9_2 t8_2 t7_2 : Value, ∀ w11 : World, A5 D6 t19_2 t18_2 t17_2 t16_2 t15_2 t14_2 t13_2 t12_2 t11_2 t10_2 t9_2 t8_2 t7_2 w11 →
      Run Try.prog (sBin .lss 3 false false t7_2 t9_2) w11 fun t10_3 w12 =>
      A5 (setD D6 3) t19_2 t18_2 t17_2 t16_2 t15_2 t14_2 t13_2 t12_2 t11_2 t10_3 t9_2 t8_2 t7_2 w12) ∧
    (∀ D6 : Nat → Bool, D6 4 = false → D6 3 = true → ∀ t19_2 t18_2 t17_2 t16_2 t15_2 t14_2 t13_2 t12_2 t11_2 t10_2 t9_2 t8_2 t7_2 : Value, ∀ w13 : World, A5 D6 t19_2 t18_2 t17_2 t16_2 t15_2 t14_2 t13_2 t12_2 t11_2 t10_2 t9_2 t8_2 t7_2 w13 →
      A5 (setD D6 4) t19_2 t18_2 t17_2 t16_2 t15_2 t14_2 t13_2 t12_2 t10_2 t10_2 t9_2 t8_2 t7_2 w13) ∧
    (∀ D6 : Nat → Bool, D6 5 = false → D6 4 = true → ∀ t19_2 t18_2 t17_2 t16_2 t15_2 t14_2 t13_2 t12_2 t11_2 t10_2 t9_2 t8_2 t7_2 : Value, ∀ w14 : World, A5 D6 t19_2 t18_2 t17_2 t16_2 t15_2 t14_2 t13_2 t12_2 t11_2 t10_2 t9_2 t8_2 t7_2 w14 →
      GuardV t11_2 true (A5 (setD D6 5) t19_2 t18_2 t17_2 t16_2 t15_2 t14_2 t13_2 p0 t11_2 t10_2 t9_2 t8_2 t7_2 w14) (A5 (setD D6 5) t19_2 t18_2 t17_2 t16_2 t15_2 t14_2 t13_2 undef t11_2 t10_2 t9_2 t8_2 t7_2 w14)) ∧
    (∀ D6 : Nat → Bool, D6 6 = false → D6 4 = true → ∀ t19_2 t18_2 t17_2 t16_2 t15_2 t14_2 t13_2 t12_2 t11_2 t10_2 t9_2 t8_2 t7_2 : Value, ∀ w15 : World, A5 D6 t19_2 t18_2 t17_2 t16_2 t15_2 t14_2 t13_2 t12_2 t11_2 t10_2 t9_2 t8_2 t7_2 w15 →
      GuardV t11_2 true (A5 (setD D6 6) t19_2 t18_2 t17_2 t16_2 t15_2 t14_2 t5 t12_2 t11_2 t10_2 t9_2 t8_2 t7_2 w15) (A5 (setD D6 6) t19_2 t18_2 t17_2 t16_2 t15_2 t14_2 undef t12_2 t11_2 t10_2 t9_2 t8_2 t7_2 w15)) ∧
    (∀ D6 : Nat → Bool, D6 7 = false → D6 5 = true → D6 6 = true → D6 4 = true → ∀ t19_2 t18_2 t17_2 t16_2 t15_2 t14_2 t13_2 t12_2 t11_2 t10_2 t9_2 t8_2 t7_2 : Value, ∀ w16 : World, A5 D6 t19_2 t18_2 t17_2 t16_2 t15_2 t14_2 t13_2 t12_2 t11_2 t10_2 t9_2 t8_2 t7_2 w16 →
      GuardV t11_2 true (Run Try.prog (sOp (.indexAddr 29 (.const t12_2) (.const t13_2)) 0) w16 fun t14_3 w17 =>
      A5 (setD D6 7) t19_2 t18_2 t17_2 t16_2 t15_2 t14_3 t13_2 t12_2 t11_2 t10_2 t9_2 t8_2 t7_2 w17) (A5 (setD D6 7) t19_2 t18_2 t17_2 t16_2 t15_2 undef t13_2 t12_2 t11_2 t10_2 t9_2 t8_2 t7_2 w16)) ∧
    (∀ D6 : Nat → Bool, D6 8 = false → D6 7 = true → D6 4 = true → ∀ t19_2 t18_2 t17_2 t16_2 t15_2 t14_2 t13_2 t12_2 t11_2 t10_2 t9_2 t8_2 t7_2 : Value, ∀ w18 : World, A5 D6 t19_2 t18_2 t17_2 t16_2 t15_2 t14_2 t13_2 t12_2 t11_2 t10_2 t9_2 t8_2 t7_2 w18 →
      GuardV t11_2 true (Run Try.prog (sOp (.load 44 (.const t14_2)) 44) w18 fun t15_3 w19 =>
      A5 (setD D6 8) t19_2 t18_2 t17_2 t16_2 t15_3 t14_2 t13_2 t12_2 t11_2 t10_2 t9_2 t8_2 t7_2 w19) (A5 (setD D6 8) t19_2 t18_2 t17_2 t16_2 undef t14_2 t13_2 t12_2 t11_2 t10_2 t9_2 t8_2 t7_2 w18)) ∧
    (∀ D6 : Nat → Bool, D6 9 = false → D6 4 = true → ∀ t19_2 t18_2 t17_2 t16_2 t15_2 t14_2 t13_2 t12_2 t11_2 t10_2 t9_2 t8_2 t7_2 : Value, ∀ w20 : World, A5 D6 t19_2 t18_2 t17_2 t16_2 t15_2 t14_2 t13_2 t12_2 t11_2 t10_2 t9_2 t8_2 t7_2 w20 →
      GuardV t11_2 true (Run Try.prog (sOp (.load 44 (.const t3)) 44) w20 fun t16_3 w21 =>
      A5 (setD D6 9) t19_2 t18_2 t17_2 t16_3 t15_2 t14_2 t13_2 t12_2 t11_2 t10_2 t9_2 t8_2 t7_2 w21) (A5 (setD D6 9) t19_2 t18_2 t17_2 undef t15_2 t14_2 t13_2 t12_2 t11_2 t10_2 t9_2 t8_2 t7_2 w20)) ∧
    (∀ D6 : Nat → Bool, D6 10 = false → D6 8 = true → D6 9 = true → D6 4 = true → D6 4 = true → ∀ t19_2 t18_2 t17_2 t16_2 t15_2 t14_2 t13_2 t12_2 t11_2 t10_2 t9_2 t8_2 t7_2 : Value, ∀ w22 : World, A5 D6 t19_2 t18_2 t17_2 t16_2 t15_2 t14_2 t13_2 t12_2 t11_2 t10_2 t9_2 t8_2 t7_2 w22 →
      GuardV t11_2 true (Run Try.prog (sCall (Value.func (.func 57) #[] #[]) [t15_2, t16_2]) w22 fun t17_3 w23 =>
      A5 (setD D6 10) t19_2 t18_2 t17_3 t16_2 t15_2 t14_2 t13_2 t12_2 t11_2 t10_2 t9_2 t8_2 t7_2 w23) (A5 (setD D6 10) t19_2 t18_2 undef t16_2 t15_2 t14_2 t13_2 t12_2 t11_2 t10_2 t9_2 t8_2 t7_2 w22)) ∧
    (∀ D6 : Nat → Bool, D6 11 = false → D6 10 = true → D6 4 = true → ∀ t19_2 t18_2 t17_2 t16_2 t15_2 t14_2 t13_2 t12_2 t11_2 t10_2 t9_2 t8_2 t7_2 : Value, ∀ w24 : World, A5 D6 t19_2 t18_2 t17_2 t16_2 t15_2 t14_2 t13_2 t12_2 t11_2 t10_2 t9_2 t8_2 t7_2 w24 →
      GuardV t11_2 true (Run Try.prog (sBin .lss 3 false true t17_2 (Value.int .i64 0)) w24 fun t18_3 w25 =>
      A5 (setD D6 11) t19_2 t18_3 t17_2 t16_2 t15_2 t14_2 t13_2 t12_2 t11_2 t10_2 t9_2 t8_2 t7_2 w25) (A5 (setD D6 11) t19_2 undef t17_2 t16_2 t15_2 t14_2 t13_2 t12_2 t11_2 t10_2 t9_2 t8_2 t7_2 w24)) ∧
    (∀ D6 : Nat → Bool, D6 12 = false → D6 4 = true → D6 11 = true → ∀ t19_2 t18_2 t17_2 t16_2 t15_2 t14_2 t13_2 t12_2 t11_2 t10_2 t9_2 t8_2 t7_2 : Value, ∀ w26 : World, A5 D6 t19_2 t18_2 t17_2 t16_2 t15_2 t14_2 t13_2 t12_2 t11_2 t10_2 t9_2 t8_2 t7_2 w26 →
      Run Try.prog (sOp (.pick (.const t11_2) (.const t18_2) (.const (Value.bool false))) 4) w26 fun t19_3 w27 =>
      A5 (setD D6 12) t19_3 t18_2 t17_2 t16_2 t15_2 t14_2 t13_2 t12_2 t11_2 t10_2 t9_2 t8_2 t7_2 w27) ∧
    True) ∧
  ∀ D6 : Nat → Bool, D6 12 = true → D6 11 = true → D6 10 = true → D6 9 = true → D6 8 = true → D6 7 = true → D6 6 = true → D6 5 = true → D6 4 = true → D6 3 = true → D6 2 = true → D6 1 = true → D6 0 = true → ∀ t19_2 t18_2 t17_2 t16_2 t15_2 t14_2 t13_2 t12_2 t11_2 t10_2 t9_2 t8_2 t7_2 : Value, ∀ w28 : World, A5 D6 t19_2 t18_2 t17_2 t16_2 t15_2 t14_2 t13_2 t12_2 t11_2 t10_2 t9_2 t8_2 t7_2 w28 →
  CondV t19_2 (
    Run Try.prog (sBin .add 3 false true t5 (Value.int .i64 1)) w28 fun t21_2 w29 =>
  I2 t21_2 w29 ∧ m3 t21_2 w29 < m3 t5 w4) (
    (∃ A30 : (Nat → Bool) → Value → Value → Value → Value → Value → Value → Value → Value → Value → Value → Value → Value → World → Prop, A30 (fun _ => false) undef undef undef undef undef undef undef undef undef undef undef undef { w28 with drawn := w28.drawn + 1 } ∧ (
    (∀ D31 : Nat → Bool, D31 0 = false → ∀ t33 t32 t31 t30 t29 t28 t27 t26 t25 t24 t23 t22 : Value, ∀ w32 : World, A30 D31 t33 t32 t31 t30 t29 t28 t27 t26 t25 t24 t23 t22 w32 →
      A30 (setD D31 0) t33 t32 t31 t30 t29 t28 t27 t26 t25 t24 t23 t5 w32) ∧
    (∀ D31 : Nat → Bool, D31 1 = false → ∀ t33 t32 t31 t30 t29 t28 t27 t26 t25 t24 t23 t22 : Value, ∀ w33 : World, A30 D31 t33 t32 t31 t30 t29 t28 t27 t26 t25 t24 t23 t22 w33 →
      A30 (setD D31 1) t33 t32 t31 t30 t29 t28 t27 t26 t25 t24 p0 t22 w33) ∧
    (∀ D31 : Nat → Bool, D31 2 = false → D31 1 = true → ∀ t33 t32 t31 t30 t29 t28 t27 t26 t25 t24 t23 t22 : Value, ∀ w34 : World, A30 D31 t33 t32 t31 t30 t29 t28 t27 t26 t25 t24 t23 t22 w34 →
      Run Try.prog (sBuiltin .len #[29] 3 [false] [t23]) w34 fun t24_2 w35 =>
      A30 (setD D31 2) t33 t32 t31 t30 t29 t28 t27 t26 t25 t24_2 t23 t22 w35) ∧
    (∀ D31 : Nat → Bool, D31 3 = false → D31 0 = true → D31 2 = true → ∀ t33 t32 t31 t30 t29 t28 t27 t26 t25 t24 t23 t22 : Value, ∀ w36 : World, A30 D31 t33 t32 t31 t30 t29 t28 t27 t26 t25 t24 t23 t22 w36 →
      Run Try.prog (sBin .lss 3 false false t22 t24) w36 fun t25_2 w37 =>
      A30 (setD D31 3) t33 t32 t31 t30 t29 t28 t27 t26 t25_2 t24 t23 t22 w37) ∧
    (∀ D31 : Nat → Bool, D31 4 = false → D31 3 = true → ∀ t33 t32 t31 t30 t29 t28 t27 t26 t25 t24 t23 t22 : Value, ∀ w38 : World, A30 D31 t33 t32 t31 t30 t29 t28 t27 t26 t25 t24 t23 t22 w38 →
      A30 (setD D31 4) t33 t32 t31 t30 t29 t28 t27 t25 t25 t24 t23 t22 w38) ∧
    (∀ D31 : Nat → Bool, D31 5 = false → D31 4 = true → ∀ t33 t32 t31 t30 t29 t28 t27 t26 t25 t24 t23 t22 : Value, ∀ w39 : World, A30 D31 t33 t32 t31 t30 t29 t28 t27 t26 t25 t24 t23 t22 w39 →
      GuardV t26 true (A30 (setD D31 5) t33 t32 t31 t30 t29 t28 p0 t26 t25 t24 t23 t22 w39) (A30 (setD D31 5) t33 t32 t31 t30 t29 t28 undef t26 t25 t24 t23 t22 w39)) ∧
    (∀ D31 : Nat → Bool, D31 6 = false → D31 4 = true → ∀ t33 t32 t31 t30 t29 t28 t27 t26 t25 t24 t23 t22 : Value, ∀ w40 : World, A30 D31 t33 t32 t31 t30 t29 t28 t27 t26 t25 t24 t23 t22 w40 →
      GuardV t26 true (A30 (setD D31 6) t33 t32 t31 t30 t29 t5 t27 t26 t25 t24 t23 t22 w40) (A30 (setD D31 6) t33 t32 t31 t30 t29 undef t27 t26 t25 t24 t23 t22 w40)) ∧
    (∀ D31 : Nat → Bool, D31 7 = false → D31 5 = true → D31 6 = true → D31 4 = true → ∀ t33 t32 t31 t30 t29 t28 t27 t26 t25 t24 t23 t22 : Value, ∀ w41 : World, A30 D31 t33 t32 t31 t30 t29 t28 t27 t26 t25 t24 t23 t22 w41 →
      GuardV t26 true (Run Try.prog (sOp (.indexAddr 29 (.const t27) (.const t28)) 0) w41 fun t29_2 w42 =>
      A30 (setD D31 7) t33 t32 t31 t30 t29_2 t28 t27 t26 t25 t24 t23 t22 w42) (A30 (setD D31 7) t33 t32 t31 t30 undef t28 t27 t26 t25 t24 t23 t22 w41)) ∧
    (∀ D31 : Nat → Bool, D31 8 = false → D31 7 = true → D31 4 = true → ∀ t33 t32 t31 t30 t29 t28 t27 t26 t25 t24 t23 t22 : Value, ∀ w43 : World, A30 D31 t33 t32 t31 t30 t29 t28 t27 t26 t25 t24 t23 t22 w43 →
      GuardV t26 true (Run Try.prog (sOp (.load 44 (.const t29)) 44) w43 fun t30_2 w44 =>
      A30 (setD D31 8) t33 t32 t31 t30_2 t29 t28 t27 t26 t25 t24 t23 t22 w44) (A30 (setD D31 8) t33 t32 t31 undef t29 t28 t27 t26 t25 t24 t23 t22 w43)) ∧
    (∀ D31 : Nat → Bool, D31 9 = false → D31 4 = true → ∀ t33 t32 t31 t30 t29 t28 t27 t26 t25 t24 t23 t22 : Value, ∀ w45 : World, A30 D31 t33 t32 t31 t30 t29 t28 t27 t26 t25 t24 t23 t22 w45 →
      GuardV t26 true (Run Try.prog (sOp (.load 44 (.const t3)) 44) w45 fun t31_2 w46 =>
      A30 (setD D31 9) t33 t32 t31_2 t30 t29 t28 t27 t26 t25 t24 t23 t22 w46) (A30 (setD D31 9) t33 t32 undef t30 t29 t28 t27 t26 t25 t24 t23 t22 w45)) ∧
    (∀ D31 : Nat → Bool, D31 10 = false → D31 8 = true → D31 9 = true → D31 4 = true → D31 4 = true → ∀ t33 t32 t31 t30 t29 t28 t27 t26 t25 t24 t23 t22 : Value, ∀ w47 : World, A30 D31 t33 t32 t31 t30 t29 t28 t27 t26 t25 t24 t23 t22 w47 →
      GuardV t26 true (Run Try.prog (sCall (Value.func (.func 38) #[] #[]) [t30, t31]) w47 fun t32_2 w48 =>
      A30 (setD D31 10) t33 t32_2 t31 t30 t29 t28 t27 t26 t25 t24 t23 t22 w48) (A30 (setD D31 10) t33 undef t31 t30 t29 t28 t27 t26 t25 t24 t23 t22 w47)) ∧
    (∀ D31 : Nat → Bool, D31 11 = false → D31 4 = true → D31 10 = true → ∀ t33 t32 t31 t30 t29 t28 t27 t26 t25 t24 t23 t22 : Value, ∀ w49 : World, A30 D31 t33 t32 t31 t30 t29 t28 t27 t26 t25 t24 t23 t22 w49 →
      Run Try.prog (sOp (.pick (.const t26) (.const t32) (.const (Value.bool false))) 4) w49 fun t33_2 w50 =>
      A30 (setD D31 11) t33_2 t32 t31 t30 t29 t28 t27 t26 t25 t24 t23 t22 w50) ∧
    True) ∧
  ∀ D31 : Nat → Bool, D31 11 = true → D31 10 = true → D31 9 = true → D31 8 = true → D31 7 = true → D31 6 = true → D31 5 = true → D31 4 = true → D31 3 = true → D31 2 = true → D31 1 = true → D31 0 = true → ∀ t33 t32 t31 t30 t29 t28 t27 t26 t25 t24 t23 t22 : Value, ∀ w51 : World, A30 D31 t33 t32 t31 t30 t29 t28 t27 t26 t25 t24 t23 t22 w51 →
  CondV t33 (
    R (.returned p0) w51) (
    Run Try.prog (sBuildSlice 29 0 []) w51 fun t35 w52 =>
  Run Try.prog (sOp (.slice 29 (.const p0) none (some (.const t5)) none) 29) w52 fun t38 w53 =>
  Run Try.prog (sBuiltin .append #[29, 29] 29 [false, false] [t35, t38]) w53 fun t39 w54 =>
  Run Try.prog (sOp (.load 44 (.const t3)) 44) w54 fun t41 w55 =>
  Run Try.prog (sBuildSlice 29 1 [(0, t41)]) w55 fun t42 w56 =>
  Run Try.prog (sBuiltin .append #[29, 29] 29 [false, false] [t39, t42]) w56 fun t43 w57 =>
  Run Try.prog (sOp (.slice 29 (.const p0) (some (.const t5)) none none) 29) w57 fun t47 w58 =>
  Run Try.prog (sBuiltin .append #[29, 29] 29 [false, false] [t43, t47]) w58 fun t48 w59 =>
  R (.returned t48) w59)))))
theorem calls_s_l16Put {p0 p1 : Value} {w : World} {R : Ending → World → Prop} (h : sh_s_l16Put p0 p1 w R) : Calls Try.prog 35 #[p0, p1] w R :=
  calls_sh (.seq none .leaf (.seq none .leaf (.seq none (.one (.loop [5] .leaf)) .leaf))) [p0, p1] mixed Try.func35 (by kernel_rfl) (by kernel_rfl) h


/- loop.example/prologserver/spec.l16Full : function 36 -/
def sh_s_l16Full (p0 p1 : Value) (w : World) (R : Ending → World → Prop) : Prop :=
  Run Try.prog (sOp (.box 44 (.const p0)) 0) w fun t2 w1 =>
  Run Try.prog (sOp (.alloc 44) 0) w1 fun t4 w2 =>
  Run Try.prog (sOp (.fieldAddr 44 (.const t2) 0) 0) w2 fun t8 w3 =>
  Run Try.prog (sOp (.load 3 (.const t8)) 3) w3 fun t9 w4 =>
  Run Try.prog (sOp (.fieldAddr 44 (.const t2) 2) 0) w4 fun t10 w5 =>
  Run Try.prog (sOp (.load 9 (.const t10)) 9) w5 fun t11 w6 =>
  Run Try.prog (sBuild 44 [(0, t9), (2, t11)]) w6 fun t12 w7 =>
  Run Try.prog (sOp (.alloc 44) 0) w7 fun t5 w8 =>
  Run Try.prog (sOp (.store 44 (.const t5) (.const t12)) 0) w8 fun _u w9 =>
  (∃ (I10 : Value → World → Prop) (m11 : Value → World → Nat), I10 (Value.int .i64 0) w9 ∧
  ∀ t6 _ _ t39 t38 t37 t36 t35 t34 t33 _ _ _ _ _ _ _ _ _ _ _ _ _ _ _ _ _ _ _ : Value, ∀ w12 : World, I10 t6 w12 →
  Run Try.prog (sOp (.fieldAddr 44 (.const t2) 3) 0) w12 fun t14_2 w13 =>
  Run Try.prog (sOp (.load 29 (.const t14_2)) 29) w13 fun t15_2 w14 =>
  Run Try.prog (sBuiltin .len #[29] 3 [false] [t15_2]) w14 fun t16_2 w15 =>
  Run Try.prog (sBin .lss 3 false false t6 t16_2) w15 fun t17_2 w16 =>
  CondV t17_2 (
    Run Try.prog (sOp (.fieldAddr 44 (.const t2) 3) 0) w16 fun t20_2 w17 =>
  Run Try.prog (sOp (.load 29 (.const t20_2)) 29) w17 fun t21_2 w18 =>
  Run Try.prog (sOp (.indexAddr 29 (.const t21_2) (.const t6)) 0) w18 fun t23_2 w19 =>
  Run Try.prog (sOp (.load 44 (.const t23_2)) 44) w19 fun t24_2 w20 =>
  Run Try.prog (sOp (.alloc 44) 0) w20 fun t7_2 w21 =>
  Run Try.prog (sOp (.store 44 (.const t7_2) (.const t24_2)) 0) w21 fun _u w22 =>
  (∃ J23 : World → Prop, (
    Run Try.prog (sOp (.fieldAddr 44 (.const t7_2) 0) 0) w22 fun t25_2 w24 =>
    Run Try.prog (sOp (.load 3 (.const t25_2)) 3) w24 fun t26_2 w25 =>
    Run Try.prog (sBin .eql 3 false true t26_2 (Value.int .i64 1)) w25 fun t27_2 w26 =>
    CondV t27_2 (
      Run Try.prog (sOp (.fieldAddr 44 (.const t7_2) 1) 0) w26 fun t29_2 w27 =>
      Run Try.prog (sOp (.load 3 (.const t29_2)) 3) w27 fun t30_2 w28 =>
      Run Try.prog (sOp (.indexAddr 29 (.const p1) (.const t30_2)) 0) w28 fun t31_2 w29 =>
      Run Try.prog (sOp (.load 44 (.const t31_2)) 44) w29 fun t32_2 w30 =>
      Run Try.prog (sOp (.store 44 (.const t7_2) (.const t32_2)) 0) w30 fun _u w31 =>
      J23 w31) (
      J23 w26)) ∧
  ∀ _ _ _ _ _ _ _ _ : Value, ∀ w32 : World, J23 w32 →
  (∃ A33 : (Nat → Bool) → Value → Value → Value → Value → Value → Value → Value → World → Prop, A33 (fun _ => false) t39 t38 t37 t36 t35 t34 t33 { w32 with drawn := w32.drawn + 1 } ∧ (
    (∀ D34 : Nat → Bool, D34 0 = false → ∀ t39_2 t38_2 t37_2 t36_2 t35_2 t34_2 t33_2 : Value, ∀ w35 : World, A33 D34 t39_2 t38_2 t37_2 t36_2 t35_2 t34_2 t33_2 w35 →
      Run Try.prog (sOp (.fieldAddr 44 (.const t5) 3) 0) w35 fun t33_3 w36 =>
      A33 (setD D34 0) t39_2 t38_2 t37_2 t36_2 t35_2 t34_2 t33_3 w36) ∧
    (∀ D34 : Nat → Bool, D34 1 = false → D34 0 = true → ∀ t39_2 t38_2 t37_2 t36_2 t35_2 t34_2 t33_2 : Value, ∀ w37 : World, A33 D34 t39_2 t38_2 t37_2 t36_2 t35_2 t34_2 t33_2 w37 →
      Run Try.prog (sOp (.load 29 (.const t33_2)) 29) w37 fun t34_3 w38 =>
      A33 (setD D34 1) t39_2 t38_2 t37_2 t36_2 t35_2 t34_3 t33_2 w38) ∧
    (∀ D34 : Nat → Bool, D34 2 = false → ∀ t39_2 t38_2 t37_2 t36_2 t35_2 t34_2 t33_2 : Value, ∀ w39 : World, A33 D34 t39_2 t38_2 t37_2 t36_2 t35_2 t34_2 t33_2 w39 →
      Run Try.prog (sOp (.load 44 (.const t7_2)) 44) w39 fun t35_3 w40 =>
      A33 (setD D34 2) t39_2 t38_2 t37_2 t36_2 t35_3 t34_2 t33_2 w40) ∧
    (∀ D34 : Nat → Bool, D34 3 = false → D34 2 = true → ∀ t39_2 t38_2 t37_2 t36_2 t35_2 t34_2 t33_2 : Value, ∀ w41 : World, A33 D34 t39_2 t38_2 t37_2 t36_2 t35_2 t34_2 t33_2 w41 →
      Run Try.prog (sCall (Value.func (.func 58) #[] #[]) [t35_2]) w41 fun t36_3 w42 =>
      A33 (setD D34 3) t39_2 t38_2 t37_2 t36_3 t35_2 t34_2 t33_2 w42) ∧
    (∀ D34 : Nat → Bool, D34 4 = false → D34 3 = true → ∀ t39_2 t38_2 t37_2 t36_2 t35_2 t34_2 t33_2 : Value, ∀ w43 : World, A33 D34 t39_2 t38_2 t37_2 t36_2 t35_2 t34_2 t33_2 w43 →
      Run Try.prog (sBuildSlice 29 1 [(0, t36_2)]) w43 fun t37_3 w44 =>
      A33 (setD D34 4) t39_2 t38_2 t37_3 t36_2 t35_2 t34_2 t33_2 w44) ∧
    (∀ D34 : Nat → Bool, D34 5 = false → D34 1 = true → D34 4 = true → D34 3 = true → ∀ t39_2 t38_2 t37_2 t36_2 t35_2 t34_2 t33_2 : Value, ∀ w45 : World, A33 D34 t39_2 t38_2 t37_2 t36_2 t35_2 t34_2 t33_2 w45 →
      Run Try.prog (sBuiltin .append #[29, 29] 29 [false, false] [t34_2, t37_2]) w45 fun t38_3 w46 =>
      A33 (setD D34 5) t39_2 t38_3 t37_2 t36_2 t35_2 t34_2 t33_2 w46) ∧
    (∀ D34 : Nat → Bool, D34 6 = false → D34 0 = true → D34 1 = true → D34 2 = true → D34 3 = true → D34 4 = true → D34 5 = true → ∀ t39_2 t38_2 t37_2 t36_2 t35_2 t34_2 t33_2 : Value, ∀ w47 : World, A33 D34 t39_2 t38_2 t37_2 t36_2 t35_2 t34_2 t33_2 w47 →
      Run Try.prog (sOp (.fieldAddr 44 (.const t5) 3) 0) w47 fun t39_3 w48 =>
      A33 (setD D34 6) t39_3 t38_2 t37_2 t36_2 t35_2 t34_2 t33_2 w48) ∧
    (∀ D34 : Nat → Bool, D34 7 = false → D34 6 = true → D34 5 = true → D34 5 = true → D34 0 = true → D34 1 = true → D34 2 = true → D34 3 = true → D34 4 = true → D34 5 = true → ∀ t39_2 t38_2 t37_2 t36_2 t35_2 t34_2 t33_2 : Value, ∀ w49 : World, A33 D34 t39_2 t38_2 t37_2 t36_2 t35_2 t34_2 t33_2 w49 →
      Run Try.prog (sOp (.store 29 (.const t39_2) (.const t38_2)) 0) w49 fun _u w50 =>
      A33 (setD D34 7) t39_2 t38_2 t37_2 t36_2 t35_2 t34_2 t33_2 w50) ∧
    True) ∧
  ∀ D34 : Nat → Bool, D34 7 = true → D34 6 = true → D34 5 = true → D34 4 = true → D34 3 = true → D34 2 = true → D34 1 = true → D34 0 = true → ∀ t39_2 t38_2 t37_2 t36_2 t35_2 t34_2 t33_2 : Value, ∀ w51 : World, A33 D34 t39_2 t38_2 t37_2 t36_2 t35_2 t34_2 t33_2 w51 →
  Run Try.prog (sBin .add 3 false true t6 (Value.int .i64 1)) w51 fun t19_2 w52 =>
  I10 t19_2 w52 ∧ m11 t19_2 w52 < m11 t6 w12))) (
    Run Try.prog (sOp (.load 44 (.const t5)) 44) w16 fun t40 w53 =>
  Run Try.prog (sOp (.store 44 (.const t4) (.const t40)) 0) w53 fun _ w54 =>
  (LoadV Try.prog 44 t4 w54 fun r0 => R (.returned r0) w54)))
theorem calls_s_l16Full {p0 p1 : Value} {w : World} {R : Ending → World → Prop} (h : sh_s_l16Full p0 p1 w R) : Calls Try.prog 36 #[p0, p1] w R :=
  calls_sh (.seq none .leaf (.seq none .leaf (.seq none (.seq none .leaf (.one (.loop [6] (.seq none .leaf (.seq none (.one (.seq none .leaf (.seq (some []) .leaf .leaf))) .leaf))))) .leaf))) [p0, p1] mixed Try.func36 (by kernel_rfl) (by kernel_rfl) h


/- loop.example/prologserver/spec.l16Match : function 37 -/
def sh_s_l16Match (p0 p1 p2 : Value) (w : World) (R : Ending → World → Prop) : Prop :=
  Run Try.prog (sOp (.box 44 (.const p0)) 0) w fun t3 w1 =>
  Run Try.prog (sOp (.box 44 (.const p1)) 0) w1 fun t4 w2 =>
  Run Try.prog (sBuildSlice 29 0 []) w2 fun t9 w3 =>
  Run Try.prog (sBuiltin .append #[29, 29] 29 [false, false] [t9, p2]) w3 fun t11 w4 =>
  Run Try.prog (sOp (.load 44 (.const t3)) 44) w4 fun t13 w5 =>
  Run Try.prog (sOp (.load 44 (.const t4)) 44) w5 fun t14 w6 =>
  Run Try.prog (sCall (Value.func (.func 59) #[] #[]) [t13, t14, t11]) w6 fun t16 w7 =>
  R (.returned (.tuple #[t11, t16])) w7
theorem calls_s_l16Match {p0 p1 p2 : Value} {w : World} {R : Ending → World → Prop} (h : sh_s_l16Match p0 p1 p2 w R) : Calls Try.prog 37 #[p0, p1, p2] w R :=
  calls_sh .leaf [p0, p1, p2] mixed Try.func37 (by kernel_rfl) (by kernel_rfl) h


/- loop.example/prologserver/spec.TermSame : function 38 -/
def sh_s_TermSame (p0 p1 : Value) (w : World) (R : Ending → World → Prop) : Prop :=
  Run Try.prog (sOp (.box 44 (.const p0)) 0) w fun t2 w1 =>
  Run Try.prog (sOp (.box 44 (.const p1)) 0) w1 fun t3 w2 =>
  (∃ J3 : Value → World → Prop, (
    Run Try.prog (sOp (.fieldAddr 44 (.const t2) 0) 0) w2 fun t6 w4 =>
    Run Try.prog (sOp (.load 3 (.const t6)) 3) w4 fun t7 w5 =>
    Run Try.prog (sOp (.fieldAddr 44 (.const t3) 0) 0) w5 fun t8 w6 =>
    Run Try.prog (sOp (.load 3 (.const t8)) 3) w6 fun t9 w7 =>
    Run Try.prog (sBin .neq 3 false false t7 t9) w7 fun t10 w8 =>
    GuardV t10 false (
      Run Try.prog (sOp (.fieldAddr 44 (.const t2) 1) 0) w8 fun t12 w9 =>
      Run Try.prog (sOp (.load 3 (.const t12)) 3) w9 fun t13 w10 =>
      Run Try.prog (sOp (.fieldAddr 44 (.const t3) 1) 0) w10 fun t14 w11 =>
      Run Try.prog (sOp (.load 3 (.const t14)) 3) w11 fun t15 w12 =>
      Run Try.prog (sBin .neq 3 false false t13 t15) w12 fun t16 w13 =>
      Run Try.prog (sOp (.pick (.const t10) (.const (Value.bool true)) (.const t16)) 4) w13 fun t17 w14 =>
      GuardV t17 false (
        Run Try.prog (sOp (.fieldAddr 44 (.const t2) 2) 0) w14 fun t19 w15 =>
        Run Try.prog (sOp (.load 9 (.const t19)) 9) w15 fun t20 w16 =>
        Run Try.prog (sOp (.fieldAddr 44 (.const t3) 2) 0) w16 fun t21 w17 =>
        Run Try.prog (sOp (.load 9 (.const t21)) 9) w17 fun t22 w18 =>
        Run Try.prog (sBin .neq 9 false false t20 t22) w18 fun t23 w19 =>
        Run Try.prog (sOp (.pick (.const t17) (.const (Value.bool true)) (.const t23)) 4) w19 fun t24 w20 =>
        GuardV t24 false (
          Run Try.prog (sOp (.fieldAddr 44 (.const t2) 3) 0) w20 fun t26 w21 =>
          Run Try.prog (sOp (.load 29 (.const t26)) 29) w21 fun t27 w22 =>
          Run Try.prog (sBuiltin .len #[29] 3 [false] [t27]) w22 fun t28 w23 =>
          Run Try.prog (sOp (.fieldAddr 44 (.const t3) 3) 0) w23 fun t29 w24 =>
          Run Try.prog (sOp (.load 29 (.const t29)) 29) w24 fun t30 w25 =>
          Run Try.prog (sBuiltin .len #[29] 3 [false] [t30]) w25 fun t31 w26 =>
          Run Try.prog (sBin .neq 3 false false t28 t31) w26 fun t32 w27 =>
          Run Try.prog (sOp (.pick (.const t24) (.const (Value.bool true)) (.const t32)) 4) w27 fun t33 w28 =>
          J3 t33 w28) (
          Run Try.prog (sOp (.pick (.const t24) (.const (Value.bool true)) (.const undef)) 4) w20 fun t33_2 w29 =>
          J3 t33_2 w29)) (
        Run Try.prog (sOp (.pick (.const t17) (.const (Value.bool true)) (.const undef)) 4) w14 fun t24_2 w30 =>
        GuardV t24_2 false (
          Run Try.prog (sOp (.fieldAddr 44 (.const t2) 3) 0) w30 fun t26_2 w31 =>
          Run Try.prog (sOp (.load 29 (.const t26_2)) 29) w31 fun t27_2 w32 =>
          Run Try.prog (sBuiltin .len #[29] 3 [false] [t27_2]) w32 fun t28_2 w33 =>
          Run Try.prog (sOp (.fieldAddr 44 (.const t3) 3) 0) w33 fun t29_2 w34 =>
          Run Try.prog (sOp (.load 29 (.const t29_2)) 29) w34 fun t30_2 w35 =>
          Run Try.prog (sBuiltin .len #[29] 3 [false] [t30_2]) w35 fun t31_2 w36 =>
          Run Try.prog (sBin .neq 3 false false t28_2 t31_2) w36 fun t32_2 w37 =>
          Run Try.prog (sOp (.pick (.const t24_2) (.const (Value.bool true)) (.const t32_2)) 4) w37 fun t33_3 w38 =>
          J3 t33_3 w38) (
          Run Try.prog (sOp (.pick (.const t24_2) (.const (Value.bool true)) (.const undef)) 4) w30 fun t33_4 w39 =>
          J3 t33_4 w39))) (
      Run Try.prog (sOp (.pick (.const t10) (.const (Value.bool true)) (.const undef)) 4) w8 fun t17_2 w40 =>
      GuardV t17_2 false (
        Run Try.prog (sOp (.fieldAddr 44 (.const t2) 2) 0) w40 fun t19_2 w41 =>
        Run Try.prog (sOp (.load 9 (.const t19_2)) 9) w41 fun t20_2 w42 =>
        Run Try.prog (sOp (.fieldAddr 44 (.const t3) 2) 0) w42 fun t21_2 w43 =>
        Run Try.prog (sOp (.load 9 (.const t21_2)) 9) w43 fun t22_2 w44 =>
        Run Try.prog (sBin .neq 9 false false t20_2 t22_2) w44 fun t23_2 w45 =>
        Run Try.prog (sOp (.pick (.const t17_2) (.const (Value.bool true)) (.const t23_2)) 4) w45 fun t24_3 w46 =>
        GuardV t24_3 false (
          Run Try.prog (sOp (.fieldAddr 44 (.const t2) 3) 0) w46 fun t26_3 w47 =>
          Run Try.prog (sOp (.load 29 (.const t26_3)) 29) w47 fun t27_3 w48 =>
          Run Try.prog (sBuiltin .len #[29] 3 [false] [t27_3]) w48 fun t28_3 w49 =>
          Run Try.prog (sOp (.fieldAddr 44 (.const t3) 3) 0) w49 fun t29_3 w50 =>
          Run Try.prog (sOp (.load 29 (.const t29_3)) 29) w50 fun t30_3 w51 =>
          Run Try.prog (sBuiltin .len #[29] 3 [false] [t30_3]) w51 fun t31_3 w52 =>
          Run Try.prog (sBin .neq 3 false false t28_3 t31_3) w52 fun t32_3 w53 =>
          Run Try.prog (sOp (.pick (.const t24_3) (.const (Value.bool true)) (.const t32_3)) 4) w53 fun t33_5 w54 =>
          J3 t33_5 w54) (
          Run Try.prog (sOp (.pick (.const t24_3) (.const (Value.bool true)) (.const undef)) 4) w46 fun t33_6 w55 =>
          J3 t33_6 w55)) (
        Run Try.prog (sOp (.pick (.const t17_2) (.const (Value.bool true)) (.const undef)) 4) w40 fun t24_4 w56 =>
        GuardV t24_4 false (
          Run Try.prog (sOp (.fieldAddr 44 (.const t2) 3) 0) w56 fun t26_4 w57 =>
          Run Try.prog (sOp (.load 29 (.const t26_4)) 29) w57 fun t27_4 w58 =>
          Run Try.prog (sBuiltin .len #[29] 3 [false] [t27_4]) w58 fun t28_4 w59 =>
          Run Try.prog (sOp (.fieldAddr 44 (.const t3) 3) 0) w59 fun t29_4 w60 =>
          Run Try.prog (sOp (.load 29 (.const t29_4)) 29) w60 fun t30_4 w61 =>
          Run Try.prog (sBuiltin .len #[29] 3 [false] [t30_4]) w61 fun t31_4 w62 =>
          Run Try.prog (sBin .neq 3 false false t28_4 t31_4) w62 fun t32_4 w63 =>
          Run Try.prog (sOp (.pick (.const t24_4) (.const (Value.bool true)) (.const t32_4)) 4) w63 fun t33_7 w64 =>
          J3 t33_7 w64) (
          Run Try.prog (sOp (.pick (.const t24_4) (.const (Value.bool true)) (.const undef)) 4) w56 fun t33_8 w65 =>
          J3 t33_8 w65)))) ∧
  ∀ t33_9 _ _ _ _ _ _ _ _ _ _ _ _ _ _ _ _ _ _ _ _ _ _ _ _ _ _ _ : Value, ∀ w66 : World, J3 t33_9 w66 →
  CondV t33_9 (
    R (.returned (Value.bool false)) w66) (
    (∃ (I67 : Value → World → Prop) (m68 : Value → World → Nat), I67 (Value.int .i64 0) w66 ∧
  ∀ t5 _ _ _ t52 t51 t50 t49 t48 t47 t46 t45 t44 t43 t42 t41 _ _ _ _ _ : Value, ∀ w69 : World, I67 t5 w69 →
  Run Try.prog (sOp (.fieldAddr 44 (.const t2) 3) 0) w69 fun t35_2 w70 =>
  Run Try.prog (sOp (.load 29 (.const t35_2)) 29) w70 fun t36_2 w71 =>
  Run Try.prog (sBuiltin .len #[29] 3 [false] [t36_2]) w71 fun t37_2 w72 =>
  Run Try.prog (sBin .lss 3 false false t5 t37_2) w72 fun t38_2 w73 =>
  CondV t38_2 (
    (∃ A74 : (Nat → Bool) → Value → Value → Value → Value → Value → Value → Value → Value → Value → Value → Value → Value → World → Prop, A74 (fun _ => false) t52 t51 t50 t49 t48 t47 t46 t45 t44 t43 t42 t41 { w73 with drawn := w73.drawn + 1 } ∧ (
    (∀ D75 : Nat → Bool, D75 0 = false → ∀ t52_2 t51_2 t50_2 t49_2 t48_2 t47_2 t46_2 t45_2 t44_2 t43_2 t42_2 t41_2 : Value, ∀ w76 : World, A74 D75 t52_2 t51_2 t50_2 t49_2 t48_2 t47_2 t46_2 t45_2 t44_2 t43_2 t42_2 t41_2 w76 →
      Run Try.prog (sOp (.fieldAddr 44 (.const t2) 3) 0) w76 fun t41_3 w77 =>
      A74 (setD D75 0) t52_2 t51_2 t50_2 t49_2 t48_2 t47_2 t46_2 t45_2 t44_2 t43_2 t42_2 t41_3 w77) ∧
    (∀ D75 : Nat → Bool, D75 1 = false → D75 0 = true → ∀ t52_2 t51_2 t50_2 t49_2 t48_2 t47_2 t46_2 t45_2 t44_2 t43_2 t42_2 t41_2 : Value, ∀ w78 : World, A74 D75 t52_2 t51_2 t50_2 t49_2 t48_2 t47_2 t46_2 t45_2 t44_2 t43_2 t42_2 t41_2 w78 →
      Run Try.prog (sOp (.load 29 (.const t41_2)) 29) w78 fun t42_3 w79 =>
      A74 (setD D75 1) t52_2 t51_2 t50_2 t49_2 t48_2 t47_2 t46_2 t45_2 t44_2 t43_2 t42_3 t41_2 w79) ∧
    (∀ D75 : Nat → Bool, D75 2 = false → ∀ t52_2 t51_2 t50_2 t49_2 t48_2 t47_2 t46_2 t45_2 t44_2 t43_2 t42_2 t41_2 : Value, ∀ w80 : World, A74 D75 t52_2 t51_2 t50_2 t49_2 t48_2 t47_2 t46_2 t45_2 t44_2 t43_2 t42_2 t41_2 w80 →
      A74 (setD D75 2) t52_2 t51_2 t50_2 t49_2 t48_2 t47_2 t46_2 t45_2 t44_2 t5 t42_2 t41_2 w80) ∧
    (∀ D75 : Nat → Bool, D75 3 = false → D75 1 = true → D75 2 = true → ∀ t52_2 t51_2 t50_2 t49_2 t48_2 t47_2 t46_2 t45_2 t44_2 t43_2 t42_2 t41_2 : Value, ∀ w81 : World, A74 D75 t52_2 t51_2 t50_2 t49_2 t48_2 t47_2 t46_2 t45_2 t44_2 t43_2 t42_2 t41_2 w81 →
      Run Try.prog (sOp (.indexAddr 29 (.const t42_2) (.const t43_2)) 0) w81 fun t44_3 w82 =>
      A74 (setD D75 3) t52_2 t51_2 t50_2 t49_2 t48_2 t47_2 t46_2 t45_2 t44_3 t43_2 t42_2 t41_2 w82) ∧
    (∀ D75 : Nat → Bool, D75 4 = false → D75 3 = true → ∀ t52_2 t51_2 t50_2 t49_2 t48_2 t47_2 t46_2 t45_2 t44_2 t43_2 t42_2 t41_2 : Value, ∀ w83 : World, A74 D75 t52_2 t51_2 t50_2 t49_2 t48_2 t47_2 t46_2 t45_2 t44_2 t43_2 t42_2 t41_2 w83 →
      Run Try.prog (sOp (.load 44 (.const t44_2)) 44) w83 fun t45_3 w84 =>
      A74 (setD D75 4) t52_2 t51_2 t50_2 t49_2 t48_2 t47_2 t46_2 t45_3 t44_2 t43_2 t42_2 t41_2 w84) ∧
    (∀ D75 : Nat → Bool, D75 5 = false → ∀ t52_2 t51_2 t50_2 t49_2 t48_2 t47_2 t46_2 t45_2 t44_2 t43_2 t42_2 t41_2 : Value, ∀ w85 : World, A74 D75 t52_2 t51_2 t50_2 t49_2 t48_2 t47_2 t46_2 t45_2 t44_2 t43_2 t42_2 t41_2 w85 →
      Run Try.prog (sOp (.fieldAddr 44 (.const t3) 3) 0) w85 fun t46_3 w86 =>
      A74 (setD D75 5) t52_2 t51_2 t50_2 t49_2 t48_2 t47_2 t46_3 t45_2 t44_2 t43_2 t42_2 t41_2 w86) ∧
    (∀ D75 : Nat → Bool, D75 6 = false → D75 5 = true → ∀ t52_2 t51_2 t50_2 t49_2 t48_2 t47_2 t46_2 t45_2 t44_2 t43_2 t42_2 t41_2 : Value, ∀ w87 : World, A74 D75 t52_2 t51_2 t50_2 t49_2 t48_2 t47_2 t46_2 t45_2 t44_2 t43_2 t42_2 t41_2 w87 →
      Run Try.prog (sOp (.load 29 (.const t46_2)) 29) w87 fun t47_3 w88 =>
      A74 (setD D75 6) t52_2 t51_2 t50_2 t49_2 t48_2 t47_3 t46_2 t45_2 t44_2 t43_2 t42_2 t41_2 w88) ∧
    (∀ D75 : Nat → Bool, D75 7 = false → ∀ t52_2 t51_2 t50_2 t49_2 t48_2 t47_2 t46_2 t45_2 t44_2 t43_2 t42_2 t41_2 : Value, ∀ w89 : World, A74 D75 t52_2 t51_2 t50_2 t49_2 t48_2 t47_2 t46_2 t45_2 t44_2 t43_2 t42_2 t41_2 w89 →
      A74 (setD D75 7) t52_2 t51_2 t50_2 t49_2 t5 t47_2 t46_2 t45_2 t44_2 t43_2 t42_2 t41_2 w89) ∧
    (∀ D75 : Nat → Bool, D75 8 = false → D75 6 = true → D75 7 = true → ∀ t52_2 t51_2 t50_2 t49_2 t48_2 t47_2 t46_2 t45_2 t44_2 t43_2 t42_2 t41_2 : Value, ∀ w90 : World, A74 D75 t52_2 t51_2 t50_2 t49_2 t48_2 t47_2 t46_2 t45_2 t44_2 t43_2 t42_2 t41_2 w90 →
      Run Try.prog (sOp (.indexAddr 29 (.const t47_2) (.const t48_2)) 0) w90 fun t49_3 w91 =>
      A74 (setD D75 8) t52_2 t51_2 t50_2 t49_3 t48_2 t47_2 t46_2 t45_2 t44_2 t43_2 t42_2 t41_2 w91) ∧
    (∀ D75 : Nat → Bool, D75 9 = false → D75 8 = true → ∀ t52_2 t51_2 t50_2 t49_2 t48_2 t47_2 t46_2 t45_2 t44_2 t43_2 t42_2 t41_2 : Value, ∀ w92 : World, A74 D75 t52_2 t51_2 t50_2 t49_2 t48_2 t47_2 t46_2 t45_2 t44_2 t43_2 t42_2 t41_2 w92 →
      Run Try.prog (sOp (.load 44 (.const t49_2)) 44) w92 fun t50_3 w93 =>
      A74 (setD D75 9) t52_2 t51_2 t50_3 t49_2 t48_2 t47_2 t46_2 t45_2 t44_2 t43_2 t42_2 t41_2 w93) ∧
    (∀ D75 : Nat → Bool, D75 10 = false → D75 4 = true → D75 9 = true → ∀ t52_2 t51_2 t50_2 t49_2 t48_2 t47_2 t46_2 t45_2 t44_2 t43_2 t42_2 t41_2 : Value, ∀ w94 : World, A74 D75 t52_2 t51_2 t50_2 t49_2 t48_2 t47_2 t46_2 t45_2 t44_2 t43_2 t42_2 t41_2 w94 →
      Run Try.prog (sCall (Value.func (.func 38) #[] #[]) [t45_2, t50_2]) w94 fun t51_3 w95 =>
      A74 (setD D75 10) t52_2 t51_3 t50_2 t49_2 t48_2 t47_2 t46_2 t45_2 t44_2 t43_2 t42_2 t41_2 w95) ∧
    (∀ D75 : Nat → Bool, D75 11 = false → D75 10 = true → ∀ t52_2 t51_2 t50_2 t49_2 t48_2 t47_2 t46_2 t45_2 t44_2 t43_2 t42_2 t41_2 : Value, ∀ w96 : World, A74 D75 t52_2 t51_2 t50_2 t49_2 t48_2 t47_2 t46_2 t45_2 t44_2 t43_2 t42_2 t41_2 w96 →
      Run Try.prog (sOp (.unOp .not 4 (.const t51_2)) 4) w96 fun t52_3 w97 =>
      A74 (setD D75 11) t52_3 t51_2 t50_2 t49_2 t48_2 t47_2 t46_2 t45_2 t44_2 t43_2 t42_2 t41_2 w97) ∧
    True) ∧
  ∀ D75 : Nat → Bool, D75 11 = true → D75 10 = true → D75 9 = true → D75 8 = true → D75 7 = true → D75 6 = true → D75 5 = true → D75 4 = true → D75 3 = true → D75 2 = true → D75 1 = true → D75 0 = true → ∀ t52_2 t51_2 t50_2 t49_2 t48_2 t47_2 t46_2 t45_2 t44_2 t43_2 t42_2 t41_2 : Value, ∀ w98 : World, A74 D75 t52_2 t51_2 t50_2 t49_2 t48_2 t47_2 t46_2 t45_2 t44_2 t43_2 t42_2 t41_2 w98 →
  CondV t52_2 (
    R (.returned (Value.bool false)) w98) (
    Run Try.prog (sBin .add 3 false true t5 (Value.int .i64 1)) w98 fun t40_2 w99 =>
  I67 t40_2 w99 ∧ m68 t40_2 w99 < m68 t5 w69))) (
    R (.returned (Value.bool true)) w73))))
theorem calls_s_TermSame {p0 p1 : Value} {w : World} {R : Ending → World → Prop} (h : sh_s_TermSame p0 p1 w R) : Calls Try.prog 38 #[p0, p1] w R :=
  calls_sh (.seq none .leaf (.seq none (.seq (some [33]) .leaf .leaf) (.seq none (.seq none .leaf (.one (.loop [5] .leaf))) .leaf))) [p0, p1] mixed Try.func38 (by kernel_rfl) (by kernel_rfl) h


/- loop.example/prologserver/impl.ProgramValid : function 39 -/
def sh_i_ProgramValid (p0 : Value) (w : World) (R : Ending → World → Prop) : Prop :=
  Run Try.prog (sBuiltin .len #[27] 3 [false] [p0]) w fun t4 w1 =>
  Run Try.prog (sBin .leq 3 false true t4 (Value.int .i64 20)) w1 fun t5 w2 =>
  GuardV t5 true (
    Run Try.prog (sCall (Value.func (.func 40) #[] #[]) [p0, (Value.func (.func 60) #[] #[])]) w2 fun t8 w3 =>
    Run Try.prog (sOp (.unOp .not 4 (.const t8)) 4) w3 fun t9 w4 =>
    Run Try.prog (sOp (.pick (.const t5) (.const t9) (.const (Value.bool false))) 4) w4 fun t10 w5 =>
    R (.returned t10) w5) (
    Run Try.prog (sOp (.pick (.const t5) (.const undef) (.const (Value.bool false))) 4) w2 fun t10_2 w6 =>
    R (.returned t10_2) w6)
theorem calls_i_ProgramValid {p0 : Value} {w : World} {R : Ending → World → Prop} (h : sh_i_ProgramValid p0 w R) : Calls Try.prog 39 #[p0] w R :=
  calls_sh .leaf [p0] mixed Try.func39 (by kernel_rfl) (by kernel_rfl) h


/- slices.ContainsFunc[[]loop.example/prologserver/impl.Clause,loop.example/prologserver/impl.Clause] : function 40 -/
def sh_x_ContainsFunc_Clause (p0 p1 : Value) (w : World) (R : Ending → World → Prop) : Prop :=
  Run Try.prog (sCall (Value.func (.func 62) #[] #[]) [p0, p1]) w fun t7 w1 =>
  Run Try.prog (sBin .geq 3 false true t7 (Value.int .i64 0)) w1 fun t8 w2 =>
  R (.returned t8) w2
theorem calls_x_ContainsFunc_Clause {p0 p1 : Value} {w : World} {R : Ending → World → Prop} (h : sh_x_ContainsFunc_Clause p0 p1 w R) : Calls Try.prog 40 #[p0, p1] w R :=
  calls_sh .leaf [p0, p1] mixed Try.func40 (by kernel_rfl) (by kernel_rfl) h


/- loop.example/prologserver/impl.FlatProgram$1 : function 41 -/
def sh_i_FlatProgram_1 (p0 : Value) (w : World) (R : Ending → World → Prop) : Prop :=
  Run Try.prog (sOp (.box 46 (.const p0)) 0) w fun t1 w1 =>
  Run Try.prog (sOp (.load 46 (.const t1)) 46) w1 fun t3 w2 =>
  Run Try.prog (sCall (Value.func (.func 42) #[] #[]) [t3]) w2 fun t4 w3 =>
  Run Try.prog (sOp (.unOp .not 4 (.const t4)) 4) w3 fun t5 w4 =>
  R (.returned t5) w4
theorem calls_i_FlatProgram_1 {p0 : Value} {w : World} {R : Ending → World → Prop} (h : sh_i_FlatProgram_1 p0 w R) : Calls Try.prog 41 #[p0] w R :=
  calls_sh .leaf [p0] mixed Try.func41 (by kernel_rfl) (by kernel_rfl) h


/- loop.example/prologserver/impl.flatClause : function 42 -/
def sh_i_flatClause (p0 : Value) (w : World) (R : Ending → World → Prop) : Prop :=
  Run Try.prog (sOp (.box 46 (.const p0)) 0) w fun t1 w1 =>
  (∃ J2 : Value → World → Prop, (
    Run Try.prog (sOp (.fieldAddr 46 (.const t1) 0) 0) w1 fun t4 w3 =>
    Run Try.prog (sOp (.load 44 (.const t4)) 44) w3 fun t5 w4 =>
    Run Try.prog (sCall (Value.func (.func 45) #[] #[]) [t5]) w4 fun t6 w5 =>
    Run Try.prog (sOp (.unOp .not 4 (.const t6)) 4) w5 fun t7 w6 =>
    GuardV t7 false (
      Run Try.prog (sOp (.fieldAddr 46 (.const t1) 1) 0) w6 fun t9 w7 =>
      Run Try.prog (sOp (.load 29 (.const t9)) 29) w7 fun t10 w8 =>
      Run Try.prog (sBuiltin .len #[29] 3 [false] [t10]) w8 fun t11 w9 =>
      Run Try.prog (sBin .gtr 3 false true t11 (Value.int .i64 3)) w9 fun t12 w10 =>
      Run Try.prog (sOp (.pick (.const t7) (.const (Value.bool true)) (.const t12)) 4) w10 fun t13 w11 =>
      GuardV t13 false (
        Run Try.prog (sOp (.fieldAddr 46 (.const t1) 1) 0) w11 fun t15 w12 =>
        Run Try.prog (sOp (.load 29 (.const t15)) 29) w12 fun t16 w13 =>
        Run Try.prog (sCall (Value.func (.func 21) #[] #[]) [t16, (Value.func (.func 63) #[] #[])]) w13 fun t17 w14 =>
        Run Try.prog (sOp (.pick (.const t13) (.const (Value.bool true)) (.const t17)) 4) w14 fun t18 w15 =>
        J2 t18 w15) (
        Run Try.prog (sOp (.pick (.const t13) (.const (Value.bool true)) (.const undef)) 4) w11 fun t18_2 w16 =>
        J2 t18_2 w16)) (
      Run Try.prog (sOp (.pick (.const t7) (.const (Value.bool true)) (.const undef)) 4) w6 fun t13_2 w17 =>
      GuardV t13_2 false (
        Run Try.prog (sOp (.fieldAddr 46 (.const t1) 1) 0) w17 fun t15_2 w18 =>
        Run Try.prog (sOp (.load 29 (.const t15_2)) 29) w18 fun t16_2 w19 =>
        Run Try.prog (sCall (Value.func (.func 21) #[] #[]) [t16_2, (Value.func (.func 63) #[] #[])]) w19 fun t17_2 w20 =>
        Run Try.prog (sOp (.pick (.const t13_2) (.const (Value.bool true)) (.const t17_2)) 4) w20 fun t18_3 w21 =>
        J2 t18_3 w21) (
        Run Try.prog (sOp (.pick (.const t13_2) (.const (Value.bool true)) (.const undef)) 4) w17 fun t18_4 w22 =>
        J2 t18_4 w22))) ∧
  ∀ t18_5 _ _ _ _ _ _ _ _ _ _ _ _ _ _ : Value, ∀ w23 : World, J2 t18_5 w23 →
  CondV t18_5 (
    R (.returned (Value.bool false)) w23) (
    Run Try.prog (sOp (.fieldAddr 46 (.const t1) 1) 0) w23 fun t19 w24 =>
  Run Try.prog (sOp (.load 29 (.const t19)) 29) w24 fun t20 w25 =>
  Run Try.prog (sCall (Value.func (.func 64) #[] #[]) [t20]) w25 fun t21 w26 =>
  Run Try.prog (sOp (.alloc 58) 0) w26 fun t3 w27 =>
  Run Try.prog (sOp (.store 58 (.const t3) (.const t21)) 0) w27 fun _ w28 =>
  Run Try.prog (sOp (.fieldAddr 46 (.const t1) 0) 0) w28 fun t22 w29 =>
  Run Try.prog (sOp (.load 44 (.const t22)) 44) w29 fun t23 w30 =>
  Run Try.prog (sCall (Value.func (.func 46) #[] #[]) [t23, (Value.slice none 0 0)]) w30 fun t24 w31 =>
  Run Try.prog (sMakeFunc (.func 66) [] [t3]) w31 fun t25 w32 =>
  Run Try.prog (sCall (Value.func (.func 65) #[] #[]) [t24, t25]) w32 fun t26 w33 =>
  Run Try.prog (sOp (.unOp .not 4 (.const t26)) 4) w33 fun t27 w34 =>
  R (.returned t27) w34))
theorem calls_i_flatClause {p0 : Value} {w : World} {R : Ending → World → Prop} (h : sh_i_flatClause p0 w R) : Calls Try.prog 42 #[p0] w R :=
  calls_sh (.seq none .leaf (.seq none (.seq (some [18]) .leaf .leaf) .leaf)) [p0] mixed Try.func42 (by kernel_rfl) (by kernel_rfl) h


/- slices.IndexFunc[[]loop.example/prologserver/impl.Term,loop.example/prologserver/impl.Term] : function 43 -/
def sh_x_IndexFunc_Term (p0 p1 : Value) (w : World) (R : Ending → World → Prop) : Prop :=
  Run Try.prog (sBuiltin .len #[29] 3 [false] [p0]) w fun t7 w1 =>
  (∃ (I2 : Value → World → Prop) (m3 : Value → World → Nat), I2 (Value.int .i64 0) w1 ∧
  ∀ t8 _ _ _ _ _ _ _ _ _ _ _ _ : Value, ∀ w4 : World, I2 t8 w4 →
  Run Try.prog (sBin .lss 3 false false t8 t7) w4 fun t9_2 w5 =>
  CondV t9_2 (
    Run Try.prog (sOp (.indexAddr 29 (.const p0) (.const t8)) 0) w5 fun t14_2 w6 =>
  Run Try.prog (sOp (.load 44 (.const t14_2)) 44) w6 fun t15_2 w7 =>
  Run Try.prog (sCall p1 [t15_2]) w7 fun t16_2 w8 =>
  CondV t16_2 (
    R (.returned t8) w8) (
    Run Try.prog (sBin .add 3 false true t8 (Value.int .i64 1)) w8 fun t18_2 w9 =>
  I2 t18_2 w9 ∧ m3 t18_2 w9 < m3 t8 w4)) (
    R (.returned (Value.int .i64 (-1))) w5))
theorem calls_x_IndexFunc_Term {p0 p1 : Value} {w : World} {R : Ending → World → Prop} (h : sh_x_IndexFunc_Term p0 p1 w R) : Calls Try.prog 43 #[p0, p1] w R :=
  calls_sh (.seq none .leaf (.seq none (.seq none .leaf (.one (.loop [8] .leaf))) .leaf)) [p0, p1] mixed Try.func43 (by kernel_rfl) (by kernel_rfl) h


/- loop.example/prologserver/impl.TermValid : function 44 -/
def sh_i_TermValid (p0 : Value) (w : World) (R : Ending → World → Prop) : Prop :=
  Run Try.prog (sOp (.box 44 (.const p0)) 0) w fun t1 w1 =>
  Run Try.prog (sOp (.alloc 3) 0) w1 fun t3 w2 =>
  Run Try.prog (sOp (.store 3 (.const t3) (.const (Value.int .i64 0))) 0) w2 fun _ w3 =>
  Run Try.prog (sOp (.load 44 (.const t1)) 44) w3 fun t4 w4 =>
  Run Try.prog (sCall (Value.func (.func 68) #[] #[]) [t4, (Value.int .i64 1), t3]) w4 fun t5 w5 =>
  R (.returned t5) w5
theorem calls_i_TermValid {p0 : Value} {w : World} {R : Ending → World → Prop} (h : sh_i_TermValid p0 w R) : Calls Try.prog 44 #[p0] w R :=
  calls_sh .leaf [p0] mixed Try.func44 (by kernel_rfl) (by kernel_rfl) h


/- loop.example/prologserver/impl.isFlat : function 45 -/
def sh_i_isFlat (p0 : Value) (w : World) (R : Ending → World → Prop) : Prop :=
  Run Try.prog (sOp (.box 44 (.const p0)) 0) w fun t1 w1 =>
  Run Try.prog (sOp (.load 44 (.const t1)) 44) w1 fun t3 w2 =>
  Run Try.prog (sCall (Value.func (.func 69) #[] #[]) [t3]) w2 fun t4 w3 =>
  GuardV t4 true (
    Run Try.prog (sOp (.fieldAddr 44 (.const t1) 3) 0) w3 fun t6 w4 =>
    Run Try.prog (sOp (.load 29 (.const t6)) 29) w4 fun t7 w5 =>
    Run Try.prog (sCall (Value.func (.func 21) #[] #[]) [t7, (Value.func (.func 70) #[] #[])]) w5 fun t8 w6 =>
    Run Try.prog (sOp (.unOp .not 4 (.const t8)) 4) w6 fun t9 w7 =>
    Run Try.prog (sOp (.pick (.const t4) (.const t9) (.const (Value.bool false))) 4) w7 fun t10 w8 =>
    R (.returned t10) w8) (
    Run Try.prog (sOp (.pick (.const t4) (.const undef) (.const (Value.bool false))) 4) w3 fun t10_2 w9 =>
    R (.returned t10_2) w9)
theorem calls_i_isFlat {p0 : Value} {w : World} {R : Ending → World → Prop} (h : sh_i_isFlat p0 w R) : Calls Try.prog 45 #[p0] w R :=
  calls_sh .leaf [p0] mixed Try.func45 (by kernel_rfl) (by kernel_rfl) h


/- loop.example/prologserver/impl.addVars : function 46 -/
def sh_i_addVars (p0 p1 : Value) (w : World) (R : Ending → World → Prop) : Prop :=
  Run Try.prog (sOp (.box 44 (.const p0)) 0) w fun t2 w1 =>
  (∃ J2 : Value → World → Prop, (
    (∃ J3 : Value → World → Prop, (
      Run Try.prog (sOp (.fieldAddr 44 (.const t2) 0) 0) w1 fun t7 w4 =>
      Run Try.prog (sOp (.load 3 (.const t7)) 3) w4 fun t8 w5 =>
      Run Try.prog (sBin .eql 3 false true t8 (Value.int .i64 1)) w5 fun t9 w6 =>
      GuardV t9 true (
        Run Try.prog (sOp (.fieldAddr 44 (.const t2) 1) 0) w6 fun t12 w7 =>
        Run Try.prog (sOp (.load 3 (.const t12)) 3) w7 fun t13 w8 =>
        Run Try.prog (sCall (Value.func (.func 67) #[] #[]) [p1, t13]) w8 fun t14 w9 =>
        Run Try.prog (sOp (.unOp .not 4 (.const t14)) 4) w9 fun t15 w10 =>
        Run Try.prog (sOp (.pick (.const t9) (.const t15) (.const (Value.bool false))) 4) w10 fun t16 w11 =>
        J3 t16 w11) (
        Run Try.prog (sOp (.pick (.const t9) (.const undef) (.const (Value.bool false))) 4) w6 fun t16_2 w12 =>
        J3 t16_2 w12)) ∧
    ∀ t16_3 _ _ _ _ _ _ _ _ _ : Value, ∀ w13 : World, J3 t16_3 w13 →
    CondV t16_3 (
      Run Try.prog (sOp (.fieldAddr 44 (.const t2) 1) 0) w13 fun t18 w14 =>
      Run Try.prog (sOp (.load 3 (.const t18)) 3) w14 fun t19 w15 =>
      Run Try.prog (sBuildSlice 58 1 [(0, t19)]) w15 fun t20 w16 =>
      Run Try.prog (sBuiltin .append #[58, 58] 58 [false, false] [p1, t20]) w16 fun t21 w17 =>
      J2 t21 w17) (
      J2 p1 w13))) ∧
  ∀ t1 _ _ _ _ _ _ _ _ _ _ _ _ _ _ _ : Value, ∀ w18 : World, J2 t1 w18 →
  Run Try.prog (sOp (.fieldAddr 44 (.const t2) 3) 0) w18 fun t22 w19 =>
  Run Try.prog (sOp (.load 29 (.const t22)) 29) w19 fun t23 w20 =>
  Run Try.prog (sBuiltin .len #[29] 3 [false] [t23]) w20 fun t24 w21 =>
  (∃ (I22 : Value → Value → World → Prop) (m23 : Value → Value → World → Nat), I22 (Value.int .i64 0) t1 w21 ∧
  ∀ t25 _ t1_2 _ _ _ _ _ _ _ : Value, ∀ w24 : World, I22 t25 t1_2 w24 →
  Run Try.prog (sBin .lss 3 false false t25 t24) w24 fun t26_2 w25 =>
  CondV t26_2 (
    Run Try.prog (sOp (.indexAddr 29 (.const t23) (.const t25)) 0) w25 fun t27_2 w26 =>
  Run Try.prog (sOp (.load 44 (.const t27_2)) 44) w26 fun t28_2 w27 =>
  Run Try.prog (sOp (.alloc 44) 0) w27 fun t6_2 w28 =>
  Run Try.prog (sOp (.store 44 (.const t6_2) (.const t28_2)) 0) w28 fun _ w29 =>
  Run Try.prog (sOp (.load 44 (.const t6_2)) 44) w29 fun t29_2 w30 =>
  Run Try.prog (sCall (Value.func (.func 46) #[] #[]) [t29_2, t1_2]) w30 fun t31_2 w31 =>
  Run Try.prog (sBin .add 3 false true t25 (Value.int .i64 1)) w31 fun t32_2 w32 =>
  I22 t32_2 t31_2 w32 ∧ m23 t32_2 t31_2 w32 < m23 t25 t1_2 w24) (
    R (.returned t1_2) w25)))
theorem calls_i_addVars {p0 p1 : Value} {w : World} {R : Ending → World → Prop} (h : sh_i_addVars p0 p1 w R) : Calls Try.prog 46 #[p0, p1] w R :=
  calls_sh (.seq none .leaf (.seq (some [1]) (.seq (some [16]) .leaf .leaf) (.seq none (.seq none .leaf (.one (.loop [25, 1] .leaf))) .leaf))) [p0, p1] mixed Try.func46 (by kernel_rfl) (by kernel_rfl) h


/- loop.example/prologserver/impl.mapVars : function 47 -/
def sh_i_mapVars (p0 p1 : Value) (w : World) (R : Ending → World → Prop) : Prop :=
  Run Try.prog (sOp (.box 44 (.const p0)) 0) w fun t2 w1 =>
  Run Try.prog (sOp (.alloc 44) 0) w1 fun t4 w2 =>
  Run Try.prog (sOp (.fieldAddr 44 (.const t2) 0) 0) w2 fun t8 w3 =>
  Run Try.prog (sOp (.load 3 (.const t8)) 3) w3 fun t9 w4 =>
  Run Try.prog (sBin .eql 3 false true t9 (Value.int .i64 1)) w4 fun t10 w5 =>
  CondV t10 (
    Run Try.prog (sOp (.fieldAddr 44 (.const t2) 1) 0) w5 fun t12 w6 =>
    Run Try.prog (sOp (.load 3 (.const t12)) 3) w6 fun t13 w7 =>
    Run Try.prog (sCall p1 [t13]) w7 fun t14 w8 =>
    Run Try.prog (sOp (.store 44 (.const t4) (.const t14)) 0) w8 fun _u w9 =>
    (LoadV Try.prog 44 t4 w9 fun r0 => R (.returned r0) w9)) (
    Run Try.prog (sOp (.fieldAddr 44 (.const t2) 3) 0) w5 fun t15 w10 =>
  Run Try.prog (sOp (.load 29 (.const t15)) 29) w10 fun t16 w11 =>
  Run Try.prog (sOp (.fieldAddr 44 (.const t2) 3) 0) w11 fun t17 w12 =>
  Run Try.prog (sOp (.store 29 (.const t17) (.const (Value.slice none 0 0))) 0) w12 fun _u w13 =>
  Run Try.prog (sBuiltin .len #[29] 3 [false] [t16]) w13 fun t19 w14 =>
  (∃ (I15 : Value → World → Prop) (m16 : Value → World → Nat), I15 (Value.int .i64 0) w14 ∧
  ∀ t20 _ t31 t30 t29 t28 t27 t26 t25 t24 _ _ _ _ : Value, ∀ w17 : World, I15 t20 w17 →
  Run Try.prog (sBin .lss 3 false false t20 t19) w17 fun t21_2 w18 =>
  CondV t21_2 (
    Run Try.prog (sOp (.indexAddr 29 (.const t16) (.const t20)) 0) w18 fun t22_2 w19 =>
  Run Try.prog (sOp (.load 44 (.const t22_2)) 44) w19 fun t23_2 w20 =>
  Run Try.prog (sOp (.alloc 44) 0) w20 fun t7_2 w21 =>
  Run Try.prog (sOp (.store 44 (.const t7_2) (.const t23_2)) 0) w21 fun _u w22 =>
  (∃ A23 : (Nat → Bool) → Value → Value → Value → Value → Value → Value → Value → Value → World → Prop, A23 (fun _ => false) t31 t30 t29 t28 t27 t26 t25 t24 { w22 with drawn := w22.drawn + 1 } ∧ (
    (∀ D24 : Nat → Bool, D24 0 = false → ∀ t31_2 t30_2 t29_2 t28_2 t27_2 t26_2 t25_2 t24_2 : Value, ∀ w25 : World, A23 D24 t31_2 t30_2 t29_2 t28_2 t27_2 t26_2 t25_2 t24_2 w25 →
      Run Try.prog (sOp (.fieldAddr 44 (.const t2) 3) 0) w25 fun t24_3 w26 =>
      A23 (setD D24 0) t31_2 t30_2 t29_2 t28_2 t27_2 t26_2 t25_2 t24_3 w26) ∧
    (∀ D24 : Nat → Bool, D24 1 = false → D24 0 = true → ∀ t31_2 t30_2 t29_2 t28_2 t27_2 t26_2 t25_2 t24_2 : Value, ∀ w27 : World, A23 D24 t31_2 t30_2 t29_2 t28_2 t27_2 t26_2 t25_2 t24_2 w27 →
      Run Try.prog (sOp (.load 29 (.const t24_2)) 29) w27 fun t25_3 w28 =>
      A23 (setD D24 1) t31_2 t30_2 t29_2 t28_2 t27_2 t26_2 t25_3 t24_2 w28) ∧
    (∀ D24 : Nat → Bool, D24 2 = false → ∀ t31_2 t30_2 t29_2 t28_2 t27_2 t26_2 t25_2 t24_2 : Value, ∀ w29 : World, A23 D24 t31_2 t30_2 t29_2 t28_2 t27_2 t26_2 t25_2 t24_2 w29 →
      Run Try.prog (sOp (.load 44 (.const t7_2)) 44) w29 fun t26_3 w30 =>
      A23 (setD D24 2) t31_2 t30_2 t29_2 t28_2 t27_2 t26_3 t25_2 t24_2 w30) ∧
    (∀ D24 : Nat → Bool, D24 3 = false → ∀ t31_2 t30_2 t29_2 t28_2 t27_2 t26_2 t25_2 t24_2 : Value, ∀ w31 : World, A23 D24 t31_2 t30_2 t29_2 t28_2 t27_2 t26_2 t25_2 t24_2 w31 →
      A23 (setD D24 3) t31_2 t30_2 t29_2 t28_2 p1 t26_2 t25_2 t24_2 w31) ∧
    (∀ D24 : Nat → Bool, D24 4 = false → D24 2 = true → D24 3 = true → ∀ t31_2 t30_2 t29_2 t28_2 t27_2 t26_2 t25_2 t24_2 : Value, ∀ w32 : World, A23 D24 t31_2 t30_2 t29_2 t28_2 t27_2 t26_2 t25_2 t24_2 w32 →
      Run Try.prog (sCall (Value.func (.func 47) #[] #[]) [t26_2, t27_2]) w32 fun t28_3 w33 =>
      A23 (setD D24 4) t31_2 t30_2 t29_2 t28_3 t27_2 t26_2 t25_2 t24_2 w33) ∧
    (∀ D24 : Nat → Bool, D24 5 = false → D24 4 = true → ∀ t31_2 t30_2 t29_2 t28_2 t27_2 t26_2 t25_2 t24_2 : Value, ∀ w34 : World, A23 D24 t31_2 t30_2 t29_2 t28_2 t27_2 t26_2 t25_2 t24_2 w34 →
      Run Try.prog (sBuildSlice 29 1 [(0, t28_2)]) w34 fun t29_3 w35 =>
      A23 (setD D24 5) t31_2 t30_2 t29_3 t28_2 t27_2 t26_2 t25_2 t24_2 w35) ∧
    (∀ D24 : Nat → Bool, D24 6 = false → D24 1 = true → D24 5 = true → D24 4 = true → ∀ t31_2 t30_2 t29_2 t28_2 t27_2 t26_2 t25_2 t24_2 : Value, ∀ w36 : World, A23 D24 t31_2 t30_2 t29_2 t28_2 t27_2 t26_2 t25_2 t24_2 w36 →
      Run Try.prog (sBuiltin .append #[29, 29] 29 [false, false] [t25_2, t29_2]) w36 fun t30_3 w37 =>
      A23 (setD D24 6) t31_2 t30_3 t29_2 t28_2 t27_2 t26_2 t25_2 t24_2 w37) ∧
    (∀ D24 : Nat → Bool, D24 7 = false → D24 0 = true → D24 1 = true → D24 2 = true → D24 3 = true → D24 4 = true → D24 5 = true → D24 6 = true → ∀ t31_2 t30_2 t29_2 t28_2 t27_2 t26_2 t25_2 t24_2 : Value, ∀ w38 : World, A23 D24 t31_2 t30_2 t29_2 t28_2 t27_2 t26_2 t25_2 t24_2 w38 →
      Run Try.prog (sOp (.fieldAddr 44 (.const t2) 3) 0) w38 fun t31_3 w39 =>
      A23 (setD D24 7) t31_3 t30_2 t29_2 t28_2 t27_2 t26_2 t25_2 t24_2 w39) ∧
    (∀ D24 : Nat → Bool, D24 8 = false → D24 7 = true → D24 6 = true → D24 6 = true → D24 0 = true → D24 1 = true → D24 2 = true → D24 3 = true → D24 4 = true → D24 5 = true → D24 6 = true → ∀ t31_2 t30_2 t29_2 t28_2 t27_2 t26_2 t25_2 t24_2 : Value, ∀ w40 : World, A23 D24 t31_2 t30_2 t29_2 t28_2 t27_2 t26_2 t25_2 t24_2 w40 →
      Run Try.prog (sOp (.store 29 (.const t31_2) (.const t30_2)) 0) w40 fun _u w41 =>
      A23 (setD D24 8) t31_2 t30_2 t29_2 t28_2 t27_2 t26_2 t25_2 t24_2 w41) ∧
    True) ∧
  ∀ D24 : Nat → Bool, D24 8 = true → D24 7 = true → D24 6 = true → D24 5 = true → D24 4 = true → D24 3 = true → D24 2 = true → D24 1 = true → D24 0 = true → ∀ t31_2 t30_2 t29_2 t28_2 t27_2 t26_2 t25_2 t24_2 : Value, ∀ w42 : World, A23 D24 t31_2 t30_2 t29_2 t28_2 t27_2 t26_2 t25_2 t24_2 w42 →
  Run Try.prog (sBin .add 3 false true t20 (Value.int .i64 1)) w42 fun t32_2 w43 =>
  I15 t32_2 w43 ∧ m16 t32_2 w43 < m16 t20 w17)) (
    Run Try.prog (sOp (.load 44 (.const t2)) 44) w18 fun t33 w44 =>
  Run Try.prog (sOp (.store 44 (.const t4) (.const t33)) 0) w44 fun _ w45 =>
  (LoadV Try.prog 44 t4 w45 fun r0 => R (.returned r0) w45))))
theorem calls_i_mapVars {p0 p1 : Value} {w : World} {R : Ending → World → Prop} (h : sh_i_mapVars p0 p1 w R) : Calls Try.prog 47 #[p0, p1] w R :=
  calls_sh (.seq none .leaf (.seq none .leaf (.seq none .leaf (.seq none .leaf (.seq none (.seq none .leaf (.one (.loop [20] .leaf))) .leaf))))) [p0, p1] mixed Try.func47 (by kernel_rfl) (by kernel_rfl) h


/- loop.example/prologserver/impl.follows$1 : function 48 -/
def sh_i_follows_1 (p0 p1 : Value) (w : World) (R : Ending → World → Prop) : Prop :=
  Run Try.prog (sOp (.alloc 44) 0) w fun t3 w1 =>
  Run Try.prog (sOp (.load 53 (.const p1)) 53) w1 fun t4 w2 =>
  Run Try.prog (sOp (.lookup 53 (.const t4) (.const p0) false) 44) w2 fun t6 w3 =>
  Run Try.prog (sOp (.store 44 (.const t3) (.const t6)) 0) w3 fun _ w4 =>
  (LoadV Try.prog 44 t3 w4 fun r0 => R (.returned r0) w4)
theorem calls_i_follows_1 {p0 p1 : Value} {w : World} {R : Ending → World → Prop} (h : sh_i_follows_1 p0 p1 w R) : Calls Try.prog 48 #[p0, p1] w R :=
  calls_sh .leaf [p0, p1] mixed Try.func48 (by kernel_rfl) (by kernel_rfl) h


/- maps.Clone[map[int]loop.example/prologserver/impl.Term,int,loop.example/prologserver/impl.Term] : function 49 -/
def sh_x_mClone_Term (p0 : Value) (w : World) (R : Ending → World → Prop) : Prop :=
  Run Try.prog (sBin .eql 53 false true p0 (Value.map none)) w fun t4 w1 =>
  CondV t4 (
    R (.returned (Value.map none)) w1) (
    Run Try.prog (sOp (.makeInterface 53 (.const p0)) 20) w1 fun t6 w2 =>
  Run Try.prog (sCall (Value.func (.func 71) #[] #[]) [t6]) w2 fun t7 w3 =>
  Run Try.prog (sOp (.typeAssert (.const t7) 20 53 false) 53) w3 fun t8 w4 =>
  R (.returned t8) w4)
theorem calls_x_mClone_Term {p0 : Value} {w : World} {R : Ending → World → Prop} (h : sh_x_mClone_Term p0 w R) : Calls Try.prog 49 #[p0] w R :=
  calls_sh .leaf [p0] mixed Try.func49 (by kernel_rfl) (by kernel_rfl) h


/- loop.example/prologserver/impl.instance : function 50 -/
def sh_i_instance (p0 p1 p2 : Value) (w : World) (R : Ending → World → Prop) : Prop :=
  Run Try.prog (sOp (.box 44 (.const p0)) 0) w fun t3 w1 =>
  Run Try.prog (sOp (.box 44 (.const p1)) 0) w1 fun t4 w2 =>
  Run Try.prog (sOp (.fieldAddr 44 (.const t4) 0) 0) w2 fun t10 w3 =>
  Run Try.prog (sOp (.load 3 (.const t10)) 3) w3 fun t11 w4 =>
  Run Try.prog (sBin .eql 3 false true t11 (Value.int .i64 1)) w4 fun t12 w5 =>
  CondV t12 (
    Run Try.prog (sOp (.fieldAddr 44 (.const t4) 1) 0) w5 fun t15 w6 =>
    Run Try.prog (sOp (.load 3 (.const t15)) 3) w6 fun t16 w7 =>
    Run Try.prog (sOp (.lookup 53 (.const p2) (.const t16) true) 85) w7 fun t17 w8 =>
    Run Try.prog (sOp (.extract (.const t17) 0) 44) w8 fun t18 w9 =>
    Run Try.prog (sOp (.extract (.const t17) 1) 4) w9 fun t19 w10 =>
    Run Try.prog (sOp (.alloc 44) 0) w10 fun t7 w11 =>
    Run Try.prog (sOp (.store 44 (.const t7) (.const t18)) 0) w11 fun _u w12 =>
    Run Try.prog (sOp (.unOp .not 4 (.const t19)) 4) w12 fun t21 w13 =>
    CondV t21 (
      Run Try.prog (sOp (.fieldAddr 44 (.const t4) 1) 0) w13 fun t23 w14 =>
      Run Try.prog (sOp (.load 3 (.const t23)) 3) w14 fun t24 w15 =>
      Run Try.prog (sOp (.load 44 (.const t3)) 44) w15 fun t25 w16 =>
      Run Try.prog (sOp (.mapUpdate 53 (.const p2) (.const t24) (.const t25)) 0) w16 fun _ w17 =>
      R (.returned (Value.bool true)) w17) (
      Run Try.prog (sOp (.load 44 (.const t7)) 44) w13 fun t26 w18 =>
    Run Try.prog (sOp (.load 44 (.const t3)) 44) w18 fun t27 w19 =>
    Run Try.prog (sCall (Value.func (.func 27) #[] #[]) [t26, t27]) w19 fun t28 w20 =>
    R (.returned t28) w20)) (
    (∃ J21 : Value → World → Prop, (
    Run Try.prog (sOp (.fieldAddr 44 (.const t3) 0) 0) w5 fun t29 w22 =>
    Run Try.prog (sOp (.load 3 (.const t29)) 3) w22 fun t30 w23 =>
    Run Try.prog (sOp (.fieldAddr 44 (.const t4) 0) 0) w23 fun t31 w24 =>
    Run Try.prog (sOp (.load 3 (.const t31)) 3) w24 fun t32 w25 =>
    Run Try.prog (sBin .neq 3 false false t30 t32) w25 fun t33 w26 =>
    GuardV t33 false (
      Run Try.prog (sOp (.fieldAddr 44 (.const t3) 1) 0) w26 fun t35 w27 =>
      Run Try.prog (sOp (.load 3 (.const t35)) 3) w27 fun t36 w28 =>
      Run Try.prog (sOp (.fieldAddr 44 (.const t4) 1) 0) w28 fun t37 w29 =>
      Run Try.prog (sOp (.load 3 (.const t37)) 3) w29 fun t38 w30 =>
      Run Try.prog (sBin .neq 3 false false t36 t38) w30 fun t39 w31 =>
      Run Try.prog (sOp (.pick (.const t33) (.const (Value.bool true)) (.const t39)) 4) w31 fun t40 w32 =>
      GuardV t40 false (
        Run Try.prog (sOp (.fieldAddr 44 (.const t3) 2) 0) w32 fun t42 w33 =>
        Run Try.prog (sOp (.load 9 (.const t42)) 9) w33 fun t43 w34 =>
        Run Try.prog (sOp (.fieldAddr 44 (.const t4) 2) 0) w34 fun t44 w35 =>
        Run Try.prog (sOp (.load 9 (.const t44)) 9) w35 fun t45 w36 =>
        Run Try.prog (sBin .neq 9 false false t43 t45) w36 fun t46 w37 =>
        Run Try.prog (sOp (.pick (.const t40) (.const (Value.bool true)) (.const t46)) 4) w37 fun t47 w38 =>
        GuardV t47 false (
          Run Try.prog (sOp (.fieldAddr 44 (.const t3) 3) 0) w38 fun t49 w39 =>
          Run Try.prog (sOp (.load 29 (.const t49)) 29) w39 fun t50 w40 =>
          Run Try.prog (sBuiltin .len #[29] 3 [false] [t50]) w40 fun t51 w41 =>
          Run Try.prog (sOp (.fieldAddr 44 (.const t4) 3) 0) w41 fun t52 w42 =>
          Run Try.prog (sOp (.load 29 (.const t52)) 29) w42 fun t53 w43 =>
          Run Try.prog (sBuiltin .len #[29] 3 [false] [t53]) w43 fun t54 w44 =>
          Run Try.prog (sBin .neq 3 false false t51 t54) w44 fun t55 w45 =>
          Run Try.prog (sOp (.pick (.const t47) (.const (Value.bool true)) (.const t55)) 4) w45 fun t56 w46 =>
          J21 t56 w46) (
          Run Try.prog (sOp (.pick (.const t47) (.const (Value.bool true)) (.const undef)) 4) w38 fun t56_2 w47 =>
          J21 t56_2 w47)) (
        Run Try.prog (sOp (.pick (.const t40) (.const (Value.bool true)) (.const undef)) 4) w32 fun t47_2 w48 =>
        GuardV t47_2 false (
          Run Try.prog (sOp (.fieldAddr 44 (.const t3) 3) 0) w48 fun t49_2 w49 =>
          Run Try.prog (sOp (.load 29 (.const t49_2)) 29) w49 fun t50_2 w50 =>
          Run Try.prog (sBuiltin .len #[29] 3 [false] [t50_2]) w50 fun t51_2 w51 =>
          Run Try.prog (sOp (.fieldAddr 44 (.const t4) 3) 0) w51 fun t52_2 w52 =>
          Run Try.prog (sOp (.load 29 (.const t52_2)) 29) w52 fun t53_2 w53 =>
          Run Try.prog (sBuiltin .len #[29] 3 [false] [t53_2]) w53 fun t54_2 w54 =>
          Run Try.prog (sBin .neq 3 false false t51_2 t54_2) w54 fun t55_2 w55 =>
          Run Try.prog (sOp (.pick (.const t47_2) (.const (Value.bool true)) (.const t55_2)) 4) w55 fun t56_3 w56 =>
          J21 t56_3 w56) (
          Run Try.prog (sOp (.pick (.const t47_2) (.const (Value.bool true)) (.const undef)) 4) w48 fun t56_4 w57 =>
          J21 t56_4 w57))) (
      Run Try.prog (sOp (.pick (.const t33) (.const (Value.bool true)) (.const undef)) 4) w26 fun t40_2 w58 =>
      GuardV t40_2 false (
        Run Try.prog (sOp (.fieldAddr 44 (.const t3) 2) 0) w58 fun t42_2 w59 =>
        Run Try.prog (sOp (.load 9 (.const t42_2)) 9) w59 fun t43_2 w60 =>
        Run Try.prog (sOp (.fieldAddr 44 (.const t4) 2) 0) w60 fun t44_2 w61 =>
        Run Try.prog (sOp (.load 9 (.const t44_2)) 9) w61 fun t45_2 w62 =>
        Run Try.prog (sBin .neq 9 false false t43_2 t45_2) w62 fun t46_2 w63 =>
        Run Try.prog (sOp (.pick (.const t40_2) (.const (Value.bool true)) (.const t46_2)) 4) w63 fun t47_3 w64 =>
        GuardV t47_3 false (
          Run Try.prog (sOp (.fieldAddr 44 (.const t3) 3) 0) w64 fun t49_3 w65 =>
          Run Try.prog (sOp (.load 29 (.const t49_3)) 29) w65 fun t50_3 w66 =>
          Run Try.prog (sBuiltin .len #[29] 3 [false] [t50_3]) w66 fun t51_3 w67 =>
          Run Try.prog (sOp (.fieldAddr 44 (.const t4) 3) 0) w67 fun t52_3 w68 =>
          Run Try.prog (sOp (.load 29 (.const t52_3)) 29) w68 fun t53_3 w69 =>
          Run Try.prog (sBuiltin .len #[29] 3 [false] [t53_3]) w69 fun t54_3 w70 =>
          Run Try.prog (sBin .neq 3 false false t51_3 t54_3) w70 fun t55_3 w71 =>
          Run Try.prog (sOp (.pick (.const t47_3) (.const (Value.bool true)) (.const t55_3)) 4) w71 fun t56_5 w72 =>
          J21 t56_5 w72) (
          Run Try.prog (sOp (.pick (.const t47_3) (.const (Value.bool true)) (.const undef)) 4) w64 fun t56_6 w73 =>
          J21 t56_6 w73)) (
        Run Try.prog (sOp (.pick (.const t40_2) (.const (Value.bool true)) (.const undef)) 4) w58 fun t47_4 w74 =>
        GuardV t47_4 false (
          Run Try.prog (sOp (.fieldAddr 44 (.const t3) 3) 0) w74 fun t49_4 w75 =>
          Run Try.prog (sOp (.load 29 (.const t49_4)) 29) w75 fun t50_4 w76 =>
          Run Try.prog (sBuiltin .len #[29] 3 [false] [t50_4]) w76 fun t51_4 w77 =>
          Run Try.prog (sOp (.fieldAddr 44 (.const t4) 3) 0) w77 fun t52_4 w78 =>
          Run Try.prog (sOp (.load 29 (.const t52_4)) 29) w78 fun t53_4 w79 =>
          Run Try.prog (sBuiltin .len #[29] 3 [false] [t53_4]) w79 fun t54_4 w80 =>
          Run Try.prog (sBin .neq 3 false false t51_4 t54_4) w80 fun t55_4 w81 =>
          Run Try.prog (sOp (.pick (.const t47_4) (.const (Value.bool true)) (.const t55_4)) 4) w81 fun t56_7 w82 =>
          J21 t56_7 w82) (
          Run Try.prog (sOp (.pick (.const t47_4) (.const (Value.bool true)) (.const undef)) 4) w74 fun t56_8 w83 =>
          J21 t56_8 w83)))) ∧
  ∀ t56_9 _ _ _ _ _ _ _ _ _ _ _ _ _ _ _ _ _ _ _ _ _ _ _ _ _ _ _ : Value, ∀ w84 : World, J21 t56_9 w84 →
  CondV t56_9 (
    R (.returned (Value.bool false)) w84) (
    Run Try.prog (sOp (.fieldAddr 44 (.const t4) 3) 0) w84 fun t57 w85 =>
  Run Try.prog (sOp (.load 29 (.const t57)) 29) w85 fun t58 w86 =>
  Run Try.prog (sBuiltin .len #[29] 3 [false] [t58]) w86 fun t59 w87 =>
  (∃ (I88 : Value → World → Prop) (m89 : Value → World → Nat), I88 (Value.int .i64 0) w87 ∧
  ∀ t60 _ _ t75 t74 t73 t72 t71 t70 t69 t68 t67 t66 t65 t64 t63 _ _ _ : Value, ∀ w90 : World, I88 t60 w90 →
  Run Try.prog (sBin .lss 3 false false t60 t59) w90 fun t61_2 w91 =>
  CondV t61_2 (
    (∃ A92 : (Nat → Bool) → Value → Value → Value → Value → Value → Value → Value → Value → Value → Value → Value → Value → Value → World → Prop, A92 (fun _ => false) t75 t74 t73 t72 t71 t70 t69 t68 t67 t66 t65 t64 t63 { w91 with drawn := w91.drawn + 1 } ∧ (
    (∀ D93 : Nat → Bool, D93 0 = false → ∀ t75_2 t74_2 t73_2 t72_2 t71_2 t70_2 t69_2 t68_2 t67_2 t66_2 t65_2 t64_2 t63_2 : Value, ∀ w94 : World, A92 D93 t75_2 t74_2 t73_2 t72_2 t71_2 t70_2 t69_2 t68_2 t67_2 t66_2 t65_2 t64_2 t63_2 w94 →
      Run Try.prog (sOp (.fieldAddr 44 (.const t3) 3) 0) w94 fun t63_3 w95 =>
      A92 (setD D93 0) t75_2 t74_2 t73_2 t72_2 t71_2 t70_2 t69_2 t68_2 t67_2 t66_2 t65_2 t64_2 t63_3 w95) ∧
    (∀ D93 : Nat → Bool, D93 1 = false → D93 0 = true → ∀ t75_2 t74_2 t73_2 t72_2 t71_2 t70_2 t69_2 t68_2 t67_2 t66_2 t65_2 t64_2 t63_2 : Value, ∀ w96 : World, A92 D93 t75_2 t74_2 t73_2 t72_2 t71_2 t70_2 t69_2 t68_2 t67_2 t66_2 t65_2 t64_2 t63_2 w96 →
      Run Try.prog (sOp (.load 29 (.const t63_2)) 29) w96 fun t64_3 w97 =>
      A92 (setD D93 1) t75_2 t74_2 t73_2 t72_2 t71_2 t70_2 t69_2 t68_2 t67_2 t66_2 t65_2 t64_3 t63_2 w97) ∧
    (∀ D93 : Nat → Bool, D93 2 = false → ∀ t75_2 t74_2 t73_2 t72_2 t71_2 t70_2 t69_2 t68_2 t67_2 t66_2 t65_2 t64_2 t63_2 : Value, ∀ w98 : World, A92 D93 t75_2 t74_2 t73_2 t72_2 t71_2 t70_2 t69_2 t68_2 t67_2 t66_2 t65_2 t64_2 t63_2 w98 →
      A92 (setD D93 2) t75_2 t74_2 t73_2 t72_2 t71_2 t70_2 t69_2 t68_2 t67_2 t66_2 t60 t64_2 t63_2 w98) ∧
    (∀ D93 : Nat → Bool, D93 3 = false → D93 1 = true → D93 2 = true → ∀ t75_2 t74_2 t73_2 t72_2 t71_2 t70_2 t69_2 t68_2 t67_2 t66_2 t65_2 t64_2 t63_2 : Value, ∀ w99 : World, A92 D93 t75_2 t74_2 t73_2 t72_2 t71_2 t70_2 t69_2 t68_2 t67_2 t66_2 t65_2 t64_2 t63_2 w99 →
      Run Try.prog (sOp (.indexAddr 29 (.const t64_2) (.const t65_2)) 0) w99 fun t66_3 w100 =>
      A92 (setD D93 3) t75_2 t74_2 t73_2 t72_2 t71_2 t70_2 t69_2 t68_2 t67_2 t66_3 t65_2 t64_2 t63_2 w100) ∧
    (∀ D93 : Nat → Bool, D93 4 = false → D93 3 = true → ∀ t75_2 t74_2 t73_2 t72_2 t71_2 t70_2 t69_2 t68_2 t67_2 t66_2 t65_2 t64_2 t63_2 : Value, ∀ w101 : World, A92 D93 t75_2 t74_2 t73_2 t72_2 t71_2 t70_2 t69_2 t68_2 t67_2 t66_2 t65_2 t64_2 t63_2 w101 →
      Run Try.prog (sOp (.load 44 (.const t66_2)) 44) w101 fun t67_3 w102 =>
      A92 (setD D93 4) t75_2 t74_2 t73_2 t72_2 t71_2 t70_2 t69_2 t68_2 t67_3 t66_2 t65_2 t64_2 t63_2 w102) ∧
    (∀ D93 : Nat → Bool, D93 5 = false → ∀ t75_2 t74_2 t73_2 t72_2 t71_2 t70_2 t69_2 t68_2 t67_2 t66_2 t65_2 t64_2 t63_2 : Value, ∀ w103 : World, A92 D93 t75_2 t74_2 t73_2 t72_2 t71_2 t70_2 t69_2 t68_2 t67_2 t66_2 t65_2 t64_2 t63_2 w103 →
      Run Try.prog (sOp (.fieldAddr 44 (.const t4) 3) 0) w103 fun t68_3 w104 =>
      A92 (setD D93 5) t75_2 t74_2 t73_2 t72_2 t71_2 t70_2 t69_2 t68_3 t67_2 t66_2 t65_2 t64_2 t63_2 w104) ∧
    (∀ D93 : Nat → Bool, D93 6 = false → D93 5 = true → ∀ t75_2 t74_2 t73_2 t72_2 t71_2 t70_2 t69_2 t68_2 t67_2 t66_2 t65_2 t64_2 t63_2 : Value, ∀ w105 : World, A92 D93 t75_2 t74_2 t73_2 t72_2 t71_2 t70_2 t69_2 t68_2 t67_2 t66_2 t65_2 t64_2 t63_2 w105 →
      Run Try.prog (sOp (.load 29 (.const t68_2)) 29) w105 fun t69_3 w106 =>
      A92 (setD D93 6) t75_2 t74_2 t73_2 t72_2 t71_2 t70_2 t69_3 t68_2 t67_2 t66_2 t65_2 t64_2 t63_2 w106) ∧
    (∀ D93 : Nat → Bool, D93 7 = false → ∀ t75_2 t74_2 t73_2 t72_2 t71_2 t70_2 t69_2 t68_2 t67_2 t66_2 t65_2 t64_2 t63_2 : Value, ∀ w107 : World, A92 D93 t75_2 t74_2 t73_2 t72_2 t71_2 t70_2 t69_2 t68_2 t67_2 t66_2 t65_2 t64_2 t63_2 w107 →
      A92 (setD D93 7) t75_2 t74_2 t73_2 t72_2 t71_2 t60 t69_2 t68_2 t67_2 t66_2 t65_2 t64_2 t63_2 w107) ∧
    (∀ D93 : Nat → Bool, D93 8 = false → D93 6 = true → D93 7 = true → ∀ t75_2 t74_2 t73_2 t72_2 t71_2 t70_2 t69_2 t68_2 t67_2 t66_2 t65_2 t64_2 t63_2 : Value, ∀ w108 : World, A92 D93 t75_2 t74_2 t73_2 t72_2 t71_2 t70_2 t69_2 t68_2 t67_2 t66_2 t65_2 t64_2 t63_2 w108 →
      Run Try.prog (sOp (.indexAddr 29 (.const t69_2) (.const t70_2)) 0) w108 fun t71_3 w109 =>
      A92 (setD D93 8) t75_2 t74_2 t73_2 t72_2 t71_3 t70_2 t69_2 t68_2 t67_2 t66_2 t65_2 t64_2 t63_2 w109) ∧
    (∀ D93 : Nat → Bool, D93 9 = false → D93 8 = true → ∀ t75_2 t74_2 t73_2 t72_2 t71_2 t70_2 t69_2 t68_2 t67_2 t66_2 t65_2 t64_2 t63_2 : Value, ∀ w110 : World, A92 D93 t75_2 t74_2 t73_2 t72_2 t71_2 t70_2 t69_2 t68_2 t67_2 t66_2 t65_2 t64_2 t63_2 w110 →
      Run Try.prog (sOp (.load 44 (.const t71_2)) 44) w110 fun t72_3 w111 =>
      A92 (setD D93 9) t75_2 t74_2 t73_2 t72_3 t71_2 t70_2 t69_2 t68_2 t67_2 t66_2 t65_2 t64_2 t63_2 w111) ∧
    (∀ D93 : Nat → Bool, D93 10 = false → ∀ t75_2 t74_2 t73_2 t72_2 t71_2 t70_2 t69_2 t68_2 t67_2 t66_2 t65_2 t64_2 t63_2 : Value, ∀ w112 : World, A92 D93 t75_2 t74_2 t73_2 t72_2 t71_2 t70_2 t69_2 t68_2 t67_2 t66_2 t65_2 t64_2 t63_2 w112 →
      A92 (setD D93 10) t75_2 t74_2 p2 t72_2 t71_2 t70_2 t69_2 t68_2 t67_2 t66_2 t65_2 t64_2 t63_2 w112) ∧
    (∀ D93 : Nat → Bool, D93 11 = false → D93 4 = true → D93 9 = true → D93 10 = true → ∀ t75_2 t74_2 t73_2 t72_2 t71_2 t70_2 t69_2 t68_2 t67_2 t66_2 t65_2 t64_2 t63_2 : Value, ∀ w113 : World, A92 D93 t75_2 t74_2 t73_2 t72_2 t71_2 t70_2 t69_2 t68_2 t67_2 t66_2 t65_2 t64_2 t63_2 w113 →
      Run Try.prog (sCall (Value.func (.func 50) #[] #[]) [t67_2, t72_2, t73_2]) w113 fun t74_3 w114 =>
      A92 (setD D93 11) t75_2 t74_3 t73_2 t72_2 t71_2 t70_2 t69_2 t68_2 t67_2 t66_2 t65_2 t64_2 t63_2 w114) ∧
    (∀ D93 : Nat → Bool, D93 12 = false → D93 11 = true → ∀ t75_2 t74_2 t73_2 t72_2 t71_2 t70_2 t69_2 t68_2 t67_2 t66_2 t65_2 t64_2 t63_2 : Value, ∀ w115 : World, A92 D93 t75_2 t74_2 t73_2 t72_2 t71_2 t70_2 t69_2 t68_2 t67_2 t66_2 t65_2 t64_2 t63_2 w115 →
      Run Try.prog (sOp (.unOp .not 4 (.const t74_2)) 4) w115 fun t75_3 w116 =>
      A92 (setD D93 12) t75_3 t74_2 t73_2 t72_2 t71_2 t70_2 t69_2 t68_2 t67_2 t66_2 t65_2 t64_2 t63_2 w116) ∧
    True) ∧
  ∀ D93 : Nat → Bool, D93 12 = true → D93 11 = true → D93 10 = true → D93 9 = true → D93 8 = true → D93 7 = true → D93 6 = true → D93 5 = true → D93 4 = true → D93 3 = true → D93 2 = true → D93 1 = true → D93 0 = true → ∀ t75_2 t74_2 t73_2 t72_2 t71_2 t70_2 t69_2 t68_2 t67_2 t66_2 t65_2 t64_2 t63_2 : Value, ∀ w117 : World, A92 D93 t75_2 t74_2 t73_2 t72_2 t71_2 t70_2 t69_2 t68_2 t67_2 t66_2 t65_2 t64_2 t63_2 w117 →
  CondV t75_2 (
    R (.returned (Value.bool false)) w117) (
    Run Try.prog (sBin .add 3 false true t60 (Value.int .i64 1)) w117 fun t76_2 w118 =>
  I88 t76_2 w118 ∧ m89 t76_2 w118 < m89 t60 w90))) (
    R (.returned (Value.bool true)) w91)))))
theorem calls_i_instance {p0 p1 p2 : Value} {w : World} {R : Ending → World → Prop} (h : sh_i_instance p0 p1 p2 w R) : Calls Try.prog 50 #[p0, p1, p2] w R :=
  calls_sh (.seq none .leaf (.seq none .leaf (.seq none (.seq (some [56]) .leaf .leaf) (.seq none (.seq none .leaf (.one (.loop [60] .leaf))) .leaf)))) [p0, p1, p2] mixed Try.func50 (by kernel_rfl) (by kernel_rfl) h


/- slices.EqualFunc[[]loop.example/prologserver/impl.Term,[]loop.example/prologserver/impl.Term,loop.example/prologserver/impl.Term,loop.example/prologserver/impl.Term] : function 51 -/
def sh_x_EqualFunc_Term (p0 p1 p2 : Value) (w : World) (R : Ending → World → Prop) : Prop :=
  Run Try.prog (sBuiltin .len #[29] 3 [false] [p0]) w fun t11 w1 =>
  Run Try.prog (sBuiltin .len #[29] 3 [false] [p1]) w1 fun t13 w2 =>
  Run Try.prog (sBin .neq 3 false false t11 t13) w2 fun t14 w3 =>
  CondV t14 (
    R (.returned (Value.bool false)) w3) (
    Run Try.prog (sBuiltin .len #[29] 3 [false] [p0]) w3 fun t16 w4 =>
  (∃ (I5 : Value → World → Prop) (m6 : Value → World → Nat), I5 (Value.int .i64 0) w4 ∧
  ∀ t17 _ _ _ _ _ _ _ _ _ _ _ _ _ _ _ _ _ _ : Value, ∀ w7 : World, I5 t17 w7 →
  Run Try.prog (sBin .lss 3 false false t17 t16) w7 fun t18_2 w8 =>
  CondV t18_2 (
    Run Try.prog (sOp (.indexAddr 29 (.const p0) (.const t17)) 0) w8 fun t20_2 w9 =>
  Run Try.prog (sOp (.load 44 (.const t20_2)) 44) w9 fun t21_2 w10 =>
  Run Try.prog (sOp (.alloc 44) 0) w10 fun t8_2 w11 =>
  Run Try.prog (sOp (.store 44 (.const t8_2) (.const t21_2)) 0) w11 fun _u w12 =>
  Run Try.prog (sOp (.indexAddr 29 (.const p1) (.const t17)) 0) w12 fun t24_2 w13 =>
  Run Try.prog (sOp (.load 44 (.const t24_2)) 44) w13 fun t25_2 w14 =>
  Run Try.prog (sOp (.alloc 44) 0) w14 fun t9_2 w15 =>
  Run Try.prog (sOp (.store 44 (.const t9_2) (.const t25_2)) 0) w15 fun _ w16 =>
  Run Try.prog (sOp (.load 44 (.const t8_2)) 44) w16 fun t27_2 w17 =>
  Run Try.prog (sOp (.load 44 (.const t9_2)) 44) w17 fun t28_2 w18 =>
  Run Try.prog (sCall p2 [t27_2, t28_2]) w18 fun t29_2 w19 =>
  Run Try.prog (sOp (.unOp .not 4 (.const t29_2)) 4) w19 fun t30_2 w20 =>
  CondV t30_2 (
    R (.returned (Value.bool false)) w20) (
    Run Try.prog (sBin .add 3 false true t17 (Value.int .i64 1)) w20 fun t31_2 w21 =>
  I5 t31_2 w21 ∧ m6 t31_2 w21 < m6 t17 w7)) (
    R (.returned (Value.bool true)) w8)))
theorem calls_x_EqualFunc_Term {p0 p1 p2 : Value} {w : World} {R : Ending → World → Prop} (h : sh_x_EqualFunc_Term p0 p1 p2 w R) : Calls Try.prog 51 #[p0, p1, p2] w R :=
  calls_sh (.seq none .leaf (.seq none .leaf (.seq none (.seq none .leaf (.one (.loop [17] .leaf))) .leaf))) [p0, p1, p2] mixed Try.func51 (by kernel_rfl) (by kernel_rfl) h


/- loop.example/prologserver/spec.ClauseValid : function 52 -/
def sh_s_ClauseValid (p0 : Value) (w : World) (R : Ending → World → Prop) : Prop :=
  Run Try.prog (sOp (.box 46 (.const p0)) 0) w fun t1 w1 =>
  (∃ (I2 : Value → World → Prop) (m3 : Value → World → Nat), I2 (Value.int .i64 0) w1 ∧
  ∀ t3 _ _ _ _ _ _ _ _ _ _ _ _ _ _ _ _ _ _ _ : Value, ∀ w4 : World, I2 t3 w4 →
  (∃ J5 : Value → World → Prop, (
    Run Try.prog (sOp (.fieldAddr 46 (.const t1) 1) 0) w4 fun t5_2 w6 =>
    Run Try.prog (sOp (.load 29 (.const t5_2)) 29) w6 fun t6_2 w7 =>
    Run Try.prog (sBuiltin .len #[29] 3 [false] [t6_2]) w7 fun t7_2 w8 =>
    Run Try.prog (sBin .lss 3 false false t3 t7_2) w8 fun t8_2 w9 =>
    GuardV t8_2 true (
      Run Try.prog (sBin .leq 3 false true t3 (Value.int .i64 6)) w9 fun t11_2 w10 =>
      Run Try.prog (sOp (.pick (.const t8_2) (.const t11_2) (.const (Value.bool false))) 4) w10 fun t12_2 w11 =>
      J5 t12_2 w11) (
      Run Try.prog (sOp (.pick (.const t8_2) (.const undef) (.const (Value.bool false))) 4) w9 fun t12_3 w12 =>
      J5 t12_3 w12)) ∧
  ∀ t12_4 _ _ _ _ _ _ _ _ : Value, ∀ w13 : World, J5 t12_4 w13 →
  CondV t12_4 (
    Run Try.prog (sOp (.fieldAddr 46 (.const t1) 1) 0) w13 fun t15_2 w14 =>
  Run Try.prog (sOp (.load 29 (.const t15_2)) 29) w14 fun t16_2 w15 =>
  Run Try.prog (sOp (.indexAddr 29 (.const t16_2) (.const t3)) 0) w15 fun t18_2 w16 =>
  Run Try.prog (sOp (.load 44 (.const t18_2)) 44) w16 fun t19_2 w17 =>
  Run Try.prog (sCall (Value.func (.func 72) #[] #[]) [t19_2]) w17 fun t20_2 w18 =>
  Run Try.prog (sOp (.unOp .not 4 (.const t20_2)) 4) w18 fun t21_2 w19 =>
  CondV t21_2 (
    R (.returned (Value.bool false)) w19) (
    Run Try.prog (sBin .add 3 false true t3 (Value.int .i64 1)) w19 fun t14_2 w20 =>
  I2 t14_2 w20 ∧ m3 t14_2 w20 < m3 t3 w4)) (
    Run Try.prog (sOp (.fieldAddr 46 (.const t1) 1) 0) w13 fun t22 w21 =>
  Run Try.prog (sOp (.load 29 (.const t22)) 29) w21 fun t23 w22 =>
  Run Try.prog (sBuiltin .len #[29] 3 [false] [t23]) w22 fun t24 w23 =>
  Run Try.prog (sBin .leq 3 false true t24 (Value.int .i64 6)) w23 fun t25 w24 =>
  GuardV t25 true (
    Run Try.prog (sOp (.fieldAddr 46 (.const t1) 0) 0) w24 fun t27 w25 =>
    Run Try.prog (sOp (.load 44 (.const t27)) 44) w25 fun t28 w26 =>
    Run Try.prog (sCall (Value.func (.func 32) #[] #[]) [t28]) w26 fun t29 w27 =>
    Run Try.prog (sOp (.pick (.const t25) (.const t29) (.const (Value.bool false))) 4) w27 fun t30 w28 =>
    GuardV t30 true (
      Run Try.prog (sOp (.fieldAddr 46 (.const t1) 0) 0) w28 fun t32 w29 =>
      Run Try.prog (sOp (.load 44 (.const t32)) 44) w29 fun t33 w30 =>
      Run Try.prog (sCall (Value.func (.func 56) #[] #[]) [t33]) w30 fun t34 w31 =>
      Run Try.prog (sOp (.pick (.const t30) (.const t34) (.const (Value.bool false))) 4) w31 fun t35 w32 =>
      R (.returned t35) w32) (
      Run Try.prog (sOp (.pick (.const t30) (.const undef) (.const (Value.bool false))) 4) w28 fun t35_2 w33 =>
      R (.returned t35_2) w33)) (
    Run Try.prog (sOp (.pick (.const t25) (.const undef) (.const (Value.bool false))) 4) w24 fun t30_2 w34 =>
    GuardV t30_2 true (
      Run Try.prog (sOp (.fieldAddr 46 (.const t1) 0) 0) w34 fun t32_2 w35 =>
      Run Try.prog (sOp (.load 44 (.const t32_2)) 44) w35 fun t33_2 w36 =>
      Run Try.prog (sCall (Value.func (.func 56) #[] #[]) [t33_2]) w36 fun t34_2 w37 =>
      Run Try.prog (sOp (.pick (.const t30_2) (.const t34_2) (.const (Value.bool false))) 4) w37 fun t35_3 w38 =>
      R (.returned t35_3) w38) (
      Run Try.prog (sOp (.pick (.const t30_2) (.const undef) (.const (Value.bool false))) 4) w34 fun t35_4 w39 =>
      R (.returned t35_4) w39)))))
theorem calls_s_ClauseValid {p0 : Value} {w : World} {R : Ending → World → Prop} (h : sh_s_ClauseValid p0 w R) : Calls Try.prog 52 #[p0] w R :=
  calls_sh (.seq none .leaf (.seq none (.seq none .leaf (.one (.loop [3] (.seq none (.seq (some [12]) .leaf .leaf) .leaf)))) .leaf)) [p0] mixed Try.func52 (by kernel_rfl) (by kernel_rfl) h


/- loop.example/prologserver/spec.l16In : function 53 -/
def sh_s_l16In (p0 p1 : Value) (w : World) (R : Ending → World → Prop) : Prop :=
  (∃ (I1 : Value → World → Prop) (m2 : Value → World → Nat), I1 (Value.int .i64 0) w ∧
  ∀ t5 _ _ _ _ _ _ _ _ _ _ _ _ _ : Value, ∀ w3 : World, I1 t5 w3 →
  Run Try.prog (sBuiltin .len #[58] 3 [false] [p0]) w3 fun t8_2 w4 =>
  Run Try.prog (sBin .lss 3 false false t5 t8_2) w4 fun t9_2 w5 =>
  CondV t9_2 (
    Run Try.prog (sOp (.indexAddr 58 (.const p0) (.const t5)) 0) w5 fun t14_2 w6 =>
  Run Try.prog (sOp (.load 3 (.const t14_2)) 3) w6 fun t15_2 w7 =>
  Run Try.prog (sBin .eql 3 false false t15_2 p1) w7 fun t17_2 w8 =>
  CondV t17_2 (
    R (.returned (Value.bool true)) w8) (
    Run Try.prog (sBin .add 3 false true t5 (Value.int .i64 1)) w8 fun t11_2 w9 =>
  I1 t11_2 w9 ∧ m2 t11_2 w9 < m2 t5 w3)) (
    R (.returned (Value.bool false)) w5))
theorem calls_s_l16In {p0 p1 : Value} {w : World} {R : Ending → World → Prop} (h : sh_s_l16In p0 p1 w R) : Calls Try.prog 53 #[p0, p1] w R :=
  calls_sh (.seq none .leaf (.seq none (.seq none .leaf (.one (.loop [5] .leaf))) .leaf)) [p0, p1] mixed Try.func53 (by kernel_rfl) (by kernel_rfl) h


/- loop.example/prologserver/spec.l1Shape : function 54 -/
def sh_s_l1Shape (p0 p1 : Value) (w : World) (R : Ending → World → Prop) : Prop :=
  Run Try.prog (sOp (.box 44 (.const p0)) 0) w fun t2 w1 =>
  (∃ J2 : Value → World → Prop, (
    Run Try.prog (sBin .lss 3 false true p1 (Value.int .i64 1)) w1 fun t7 w3 =>
    GuardV t7 false (
      Run Try.prog (sOp (.load 44 (.const t2)) 44) w3 fun t9 w4 =>
      Run Try.prog (sCall (Value.func (.func 73) #[] #[]) [t9]) w4 fun t10 w5 =>
      Run Try.prog (sOp (.unOp .not 4 (.const t10)) 4) w5 fun t11 w6 =>
      Run Try.prog (sOp (.pick (.const t7) (.const (Value.bool true)) (.const t11)) 4) w6 fun t12 w7 =>
      J2 t12 w7) (
      Run Try.prog (sOp (.pick (.const t7) (.const (Value.bool true)) (.const undef)) 4) w3 fun t12_2 w8 =>
      J2 t12_2 w8)) ∧
  ∀ t12_3 _ _ _ _ _ _ : Value, ∀ w9 : World, J2 t12_3 w9 →
  CondV t12_3 (
    R (.returned (Value.bool false)) w9) (
    (∃ (I10 : Value → World → Prop) (m11 : Value → World → Nat), I10 (Value.int .i64 0) w9 ∧
  ∀ t5 _ _ _ _ _ _ _ _ _ _ _ _ _ _ _ _ _ : Value, ∀ w12 : World, I10 t5 w12 →
  Run Try.prog (sOp (.fieldAddr 44 (.const t2) 3) 0) w12 fun t14_2 w13 =>
  Run Try.prog (sOp (.load 29 (.const t14_2)) 29) w13 fun t15_2 w14 =>
  Run Try.prog (sBuiltin .len #[29] 3 [false] [t15_2]) w14 fun t16_2 w15 =>
  Run Try.prog (sBin .lss 3 false false t5 t16_2) w15 fun t17_2 w16 =>
  CondV t17_2 (
    Run Try.prog (sOp (.fieldAddr 44 (.const t2) 3) 0) w16 fun t20_2 w17 =>
  Run Try.prog (sOp (.load 29 (.const t20_2)) 29) w17 fun t21_2 w18 =>
  Run Try.prog (sOp (.indexAddr 29 (.const t21_2) (.const t5)) 0) w18 fun t23_2 w19 =>
  Run Try.prog (sOp (.load 44 (.const t23_2)) 44) w19 fun t24_2 w20 =>
  Run Try.prog (sBin .sub 3 false true p1 (Value.int .i64 1)) w20 fun t26_2 w21 =>
  Run Try.prog (sCall (Value.func (.func 54) #[] #[]) [t24_2, t26_2]) w21 fun t27_2 w22 =>
  Run Try.prog (sOp (.unOp .not 4 (.const t27_2)) 4) w22 fun t28_2 w23 =>
  CondV t28_2 (
    R (.returned (Value.bool false)) w23) (
    Run Try.prog (sBin .add 3 false true t5 (Value.int .i64 1)) w23 fun t19_2 w24 =>
  I10 t19_2 w24 ∧ m11 t19_2 w24 < m11 t5 w12)) (
    R (.returned (Value.bool true)) w16))))
theorem calls_s_l1Shape {p0 p1 : Value} {w : World} {R : Ending → World → Prop} (h : sh_s_l1Shape p0 p1 w R) : Calls Try.prog 54 #[p0, p1] w R :=
  calls_sh (.seq none .leaf (.seq none (.seq (some [12]) .leaf .leaf) (.seq none (.seq none .leaf (.one (.loop [5] .leaf))) .leaf))) [p0, p1] mixed Try.func54 (by kernel_rfl) (by kernel_rfl) h


/- loop.example/prologserver/spec.l1Count : function 55 -/
def sh_s_l1Count (p0 p1 : Value) (w : World) (R : Ending → World → Prop) : Prop :=
  Run Try.prog (sOp (.box 44 (.const p0)) 0) w fun t2 w1 =>
  (∃ (I2 : Value → Value → World → Prop) (m3 : Value → Value → World → Nat), I2 (Value.int .i64 0) (Value.int .i64 1) w1 ∧
  ∀ t6 _ _ t5 _ _ _ _ _ _ _ _ _ _ _ _ _ _ _ _ _ _ _ _ _ : Value, ∀ w4 : World, I2 t6 t5 w4 →
  (∃ J5 : Value → World → Prop, (
    Run Try.prog (sOp (.fieldAddr 44 (.const t2) 3) 0) w4 fun t8_2 w6 =>
    Run Try.prog (sOp (.load 29 (.const t8_2)) 29) w6 fun t9_2 w7 =>
    Run Try.prog (sBuiltin .len #[29] 3 [false] [t9_2]) w7 fun t10_2 w8 =>
    Run Try.prog (sBin .lss 3 false false t6 t10_2) w8 fun t11_2 w9 =>
    GuardV t11_2 true (
      Run Try.prog (sBin .leq 3 false false t5 p1) w9 fun t15_2 w10 =>
      Run Try.prog (sOp (.pick (.const t11_2) (.const t15_2) (.const (Value.bool false))) 4) w10 fun t16_2 w11 =>
      J5 t16_2 w11) (
      Run Try.prog (sOp (.pick (.const t11_2) (.const undef) (.const (Value.bool false))) 4) w9 fun t16_3 w12 =>
      J5 t16_3 w12)) ∧
  ∀ t16_4 _ _ _ _ _ _ _ _ _ : Value, ∀ w13 : World, J5 t16_4 w13 →
  CondV t16_4 (
    Run Try.prog (sOp (.fieldAddr 44 (.const t2) 3) 0) w13 fun t20_2 w14 =>
  Run Try.prog (sOp (.load 29 (.const t20_2)) 29) w14 fun t21_2 w15 =>
  Run Try.prog (sOp (.indexAddr 29 (.const t21_2) (.const t6)) 0) w15 fun t23_2 w16 =>
  Run Try.prog (sOp (.load 44 (.const t23_2)) 44) w16 fun t24_2 w17 =>
  Run Try.prog (sBin .sub 3 false false p1 t5) w17 fun t27_2 w18 =>
  Run Try.prog (sCall (Value.func (.func 55) #[] #[]) [t24_2, t27_2]) w18 fun t28_2 w19 =>
  Run Try.prog (sBin .add 3 false false t5 t28_2) w19 fun t29_2 w20 =>
  Run Try.prog (sBin .add 3 false true t6 (Value.int .i64 1)) w20 fun t18_2 w21 =>
  I2 t18_2 t29_2 w21 ∧ m3 t18_2 t29_2 w21 < m3 t6 t5 w4) (
    R (.returned t5) w13)))
theorem calls_s_l1Count {p0 p1 : Value} {w : World} {R : Ending → World → Prop} (h : sh_s_l1Count p0 p1 w R) : Calls Try.prog 55 #[p0, p1] w R :=
  calls_sh (.seq none .leaf (.seq none .leaf (.seq none (.seq none .leaf (.one (.loop [6, 5] (.seq none (.seq (some [16]) .leaf .leaf) .leaf)))) .leaf))) [p0, p1] mixed Try.func55 (by kernel_rfl) (by kernel_rfl) h


/- loop.example/prologserver/spec.l4Plain : function 56 -/
def sh_s_l4Plain (p0 : Value) (w : World) (R : Ending → World → Prop) : Prop :=
  Run Try.prog (sOp (.box 44 (.const p0)) 0) w fun t1 w1 =>
  Run Try.prog (sOp (.fieldAddr 44 (.const t1) 0) 0) w1 fun t3 w2 =>
  Run Try.prog (sOp (.load 3 (.const t3)) 3) w2 fun t4 w3 =>
  Run Try.prog (sBin .eql 3 false true t4 (Value.int .i64 3)) w3 fun t5 w4 =>
  GuardV t5 true (
    Run Try.prog (sOp (.fieldAddr 44 (.const t1) 2) 0) w4 fun t7 w5 =>
    Run Try.prog (sOp (.load 9 (.const t7)) 9) w5 fun t8 w6 =>
    Run Try.prog (sCall (Value.func (.func 74) #[] #[]) [t8]) w6 fun t9 w7 =>
    Run Try.prog (sOp (.pick (.const t5) (.const t9) (.const (Value.bool false))) 4) w7 fun t10 w8 =>
    GuardV t10 true (
      Run Try.prog (sOp (.fieldAddr 44 (.const t1) 2) 0) w8 fun t12 w9 =>
      Run Try.prog (sOp (.load 9 (.const t12)) 9) w9 fun t13 w10 =>
      Run Try.prog (sOp (.fieldAddr 44 (.const t1) 3) 0) w10 fun t14 w11 =>
      Run Try.prog (sOp (.load 29 (.const t14)) 29) w11 fun t15 w12 =>
      Run Try.prog (sBuiltin .len #[29] 3 [false] [t15]) w12 fun t16 w13 =>
      Run Try.prog (sCall (Value.func (.func 75) #[] #[]) [t13, t16]) w13 fun t17 w14 =>
      Run Try.prog (sOp (.unOp .not 4 (.const t17)) 4) w14 fun t18 w15 =>
      Run Try.prog (sOp (.pick (.const t10) (.const t18) (.const (Value.bool false))) 4) w15 fun t19 w16 =>
      GuardV t19 true (
        Run Try.prog (sOp (.fieldAddr 44 (.const t1) 2) 0) w16 fun t21 w17 =>
        Run Try.prog (sOp (.load 9 (.const t21)) 9) w17 fun t22 w18 =>
        Run Try.prog (sCall (Value.func (.func 76) #[] #[]) [t22]) w18 fun t23 w19 =>
        Run Try.prog (sBin .eql 3 false true t23 (Value.int .i64 0)) w19 fun t24 w20 =>
        Run Try.prog (sOp (.pick (.const t19) (.const t24) (.const (Value.bool false))) 4) w20 fun t25 w21 =>
        R (.returned t25) w21) (
        Run Try.prog (sOp (.pick (.const t19) (.const undef) (.const (Value.bool false))) 4) w16 fun t25_2 w22 =>
        R (.returned t25_2) w22)) (
      Run Try.prog (sOp (.pick (.const t10) (.const undef) (.const (Value.bool false))) 4) w8 fun t19_2 w23 =>
      GuardV t19_2 true (
        Run Try.prog (sOp (.fieldAddr 44 (.const t1) 2) 0) w23 fun t21_2 w24 =>
        Run Try.prog (sOp (.load 9 (.const t21_2)) 9) w24 fun t22_2 w25 =>
        Run Try.prog (sCall (Value.func (.func 76) #[] #[]) [t22_2]) w25 fun t23_2 w26 =>
        Run Try.prog (sBin .eql 3 false true t23_2 (Value.int .i64 0)) w26 fun t24_2 w27 =>
        Run Try.prog (sOp (.pick (.const t19_2) (.const t24_2) (.const (Value.bool false))) 4) w27 fun t25_3 w28 =>
        R (.returned t25_3) w28) (
        Run Try.prog (sOp (.pick (.const t19_2) (.const undef) (.const (Value.bool false))) 4) w23 fun t25_4 w29 =>
        R (.returned t25_4) w29))) (
    Run Try.prog (sOp (.pick (.const t5) (.const undef) (.const (Value.bool false))) 4) w4 fun t10_2 w30 =>
    GuardV t10_2 true (
      Run Try.prog (sOp (.fieldAddr 44 (.const t1) 2) 0) w30 fun t12_2 w31 =>
      Run Try.prog (sOp (.load 9 (.const t12_2)) 9) w31 fun t13_2 w32 =>
      Run Try.prog (sOp (.fieldAddr 44 (.const t1) 3) 0) w32 fun t14_2 w33 =>
      Run Try.prog (sOp (.load 29 (.const t14_2)) 29) w33 fun t15_2 w34 =>
      Run Try.prog (sBuiltin .len #[29] 3 [false] [t15_2]) w34 fun t16_2 w35 =>
      Run Try.prog (sCall (Value.func (.func 75) #[] #[]) [t13_2, t16_2]) w35 fun t17_2 w36 =>
      Run Try.prog (sOp (.unOp .not 4 (.const t17_2)) 4) w36 fun t18_2 w37 =>
      Run Try.prog (sOp (.pick (.const t10_2) (.const t18_2) (.const (Value.bool false))) 4) w37 fun t19_3 w38 =>
      GuardV t19_3 true (
        Run Try.prog (sOp (.fieldAddr 44 (.const t1) 2) 0) w38 fun t21_3 w39 =>
        Run Try.prog (sOp (.load 9 (.const t21_3)) 9) w39 fun t22_3 w40 =>
        Run Try.prog (sCall (Value.func (.func 76) #[] #[]) [t22_3]) w40 fun t23_3 w41 =>
        Run Try.prog (sBin .eql 3 false true t23_3 (Value.int .i64 0)) w41 fun t24_3 w42 =>
        Run Try.prog (sOp (.pick (.const t19_3) (.const t24_3) (.const (Value.bool false))) 4) w42 fun t25_5 w43 =>
        R (.returned t25_5) w43) (
        Run Try.prog (sOp (.pick (.const t19_3) (.const undef) (.const (Value.bool false))) 4) w38 fun t25_6 w44 =>
        R (.returned t25_6) w44)) (
      Run Try.prog (sOp (.pick (.const t10_2) (.const undef) (.const (Value.bool false))) 4) w30 fun t19_4 w45 =>
      GuardV t19_4 true (
        Run Try.prog (sOp (.fieldAddr 44 (.const t1) 2) 0) w45 fun t21_4 w46 =>
        Run Try.prog (sOp (.load 9 (.const t21_4)) 9) w46 fun t22_4 w47 =>
        Run Try.prog (sCall (Value.func (.func 76) #[] #[]) [t22_4]) w47 fun t23_4 w48 =>
        Run Try.prog (sBin .eql 3 false true t23_4 (Value.int .i64 0)) w48 fun t24_4 w49 =>
        Run Try.prog (sOp (.pick (.const t19_4) (.const t24_4) (.const (Value.bool false))) 4) w49 fun t25_7 w50 =>
        R (.returned t25_7) w50) (
        Run Try.prog (sOp (.pick (.const t19_4) (.const undef) (.const (Value.bool false))) 4) w45 fun t25_8 w51 =>
        R (.returned t25_8) w51)))
theorem calls_s_l4Plain {p0 : Value} {w : World} {R : Ending → World → Prop} (h : sh_s_l4Plain p0 w R) : Calls Try.prog 56 #[p0] w R :=
  calls_sh .leaf [p0] mixed Try.func56 (by kernel_rfl) (by kernel_rfl) h


/- loop.example/prologserver/spec.l1Compare : function 57 -/
def sh_s_l1Compare (p0 p1 : Value) (w : World) (R : Ending → World → Prop) : Prop :=
  Run Try.prog (sOp (.box 44 (.const p0)) 0) w fun t2 w1 =>
  Run Try.prog (sOp (.box 44 (.const p1)) 0) w1 fun t3 w2 =>
  (∃ A3 : (Nat → Bool) → Value → Value → Value → Value → Value → World → Prop, A3 (fun _ => false) undef undef undef undef undef { w2 with drawn := w2.drawn + 1 } ∧ (
    (∀ D4 : Nat → Bool, D4 0 = false → ∀ t11 t10 t9 t8 t7 : Value, ∀ w5 : World, A3 D4 t11 t10 t9 t8 t7 w5 →
      Run Try.prog (sOp (.load 44 (.const t2)) 44) w5 fun t7_2 w6 =>
      A3 (setD D4 0) t11 t10 t9 t8 t7_2 w6) ∧
    (∀ D4 : Nat → Bool, D4 1 = false → D4 0 = true → ∀ t11 t10 t9 t8 t7 : Value, ∀ w7 : World, A3 D4 t11 t10 t9 t8 t7 w7 →
      Run Try.prog (sCall (Value.func (.func 77) #[] #[]) [t7]) w7 fun t8_2 w8 =>
      A3 (setD D4 1) t11 t10 t9 t8_2 t7 w8) ∧
    (∀ D4 : Nat → Bool, D4 2 = false → ∀ t11 t10 t9 t8 t7 : Value, ∀ w9 : World, A3 D4 t11 t10 t9 t8 t7 w9 →
      Run Try.prog (sOp (.load 44 (.const t3)) 44) w9 fun t9_2 w10 =>
      A3 (setD D4 2) t11 t10 t9_2 t8 t7 w10) ∧
    (∀ D4 : Nat → Bool, D4 3 = false → D4 2 = true → D4 1 = true → ∀ t11 t10 t9 t8 t7 : Value, ∀ w11 : World, A3 D4 t11 t10 t9 t8 t7 w11 →
      Run Try.prog (sCall (Value.func (.func 77) #[] #[]) [t9]) w11 fun t10_2 w12 =>
      A3 (setD D4 3) t11 t10_2 t9 t8 t7 w12) ∧
    (∀ D4 : Nat → Bool, D4 4 = false → D4 1 = true → D4 3 = true → ∀ t11 t10 t9 t8 t7 : Value, ∀ w13 : World, A3 D4 t11 t10 t9 t8 t7 w13 →
      Run Try.prog (sBin .neq 3 false false t8 t10) w13 fun t11_2 w14 =>
      A3 (setD D4 4) t11_2 t10 t9 t8 t7 w14) ∧
    True) ∧
  ∀ D4 : Nat → Bool, D4 4 = true → D4 3 = true → D4 2 = true → D4 1 = true → D4 0 = true → ∀ t11 t10 t9 t8 t7 : Value, ∀ w15 : World, A3 D4 t11 t10 t9 t8 t7 w15 →
  CondV t11 (
    (∃ A16 : (Nat → Bool) → Value → Value → Value → Value → Value → Value → World → Prop, A16 (fun _ => false) (Value.int .i64 0) undef undef undef undef undef { w15 with drawn := w15.drawn + 1 } ∧ (
      (∀ D17 : Nat → Bool, D17 0 = false → ∀ t4 t16 t15 t14 t13 t12 : Value, ∀ w18 : World, A16 D17 t4 t16 t15 t14 t13 t12 w18 →
        Run Try.prog (sOp (.load 44 (.const t2)) 44) w18 fun t12_2 w19 =>
        A16 (setD D17 0) t4 t16 t15 t14 t13 t12_2 w19) ∧
      (∀ D17 : Nat → Bool, D17 1 = false → D17 0 = true → ∀ t4 t16 t15 t14 t13 t12 : Value, ∀ w20 : World, A16 D17 t4 t16 t15 t14 t13 t12 w20 →
        Run Try.prog (sCall (Value.func (.func 77) #[] #[]) [t12]) w20 fun t13_2 w21 =>
        A16 (setD D17 1) t4 t16 t15 t14 t13_2 t12 w21) ∧
      (∀ D17 : Nat → Bool, D17 2 = false → ∀ t4 t16 t15 t14 t13 t12 : Value, ∀ w22 : World, A16 D17 t4 t16 t15 t14 t13 t12 w22 →
        Run Try.prog (sOp (.load 44 (.const t3)) 44) w22 fun t14_2 w23 =>
        A16 (setD D17 2) t4 t16 t15 t14_2 t13 t12 w23) ∧
      (∀ D17 : Nat → Bool, D17 3 = false → D17 2 = true → D17 1 = true → ∀ t4 t16 t15 t14 t13 t12 : Value, ∀ w24 : World, A16 D17 t4 t16 t15 t14 t13 t12 w24 →
        Run Try.prog (sCall (Value.func (.func 77) #[] #[]) [t14]) w24 fun t15_2 w25 =>
        A16 (setD D17 3) t4 t16 t15_2 t14 t13 t12 w25) ∧
      (∀ D17 : Nat → Bool, D17 4 = false → D17 1 = true → D17 3 = true → D17 3 = true → ∀ t4 t16 t15 t14 t13 t12 : Value, ∀ w26 : World, A16 D17 t4 t16 t15 t14 t13 t12 w26 →
        Run Try.prog (sCall (Value.func (.func 78) #[] #[]) [t13, t15]) w26 fun t16_2 w27 =>
        A16 (setD D17 4) t4 t16_2 t15 t14 t13 t12 w27) ∧
      (∀ D17 : Nat → Bool, D17 5 = false → D17 4 = true → D17 4 = true → D17 0 = true → D17 1 = true → D17 2 = true → D17 3 = true → D17 4 = true → ∀ t4 t16 t15 t14 t13 t12 : Value, ∀ w28 : World, A16 D17 t4 t16 t15 t14 t13 t12 w28 →
        A16 (setD D17 5) t16 t16 t15 t14 t13 t12 w28) ∧
      True) ∧
    ∀ D17 : Nat → Bool, D17 5 = true → D17 4 = true → D17 3 = true → D17 2 = true → D17 1 = true → D17 0 = true → ∀ t4 t16 t15 t14 t13 t12 : Value, ∀ w29 : World, A16 D17 t4 t16 t15 t14 t13 t12 w29 →
    R (.returned t4) w29)) (
    Run Try.prog (sOp (.fieldAddr 44 (.const t2) 0) 0) w15 fun t17 w30 =>
  Run Try.prog (sOp (.load 3 (.const t17)) 3) w30 fun t18 w31 =>
  Run Try.prog (sBin .neq 3 false true t18 (Value.int .i64 3)) w31 fun t19 w32 =>
  CondV t19 (
    Run Try.prog (sOp (.fieldAddr 44 (.const t2) 1) 0) w32 fun t20 w33 =>
    Run Try.prog (sOp (.load 3 (.const t20)) 3) w33 fun t21 w34 =>
    Run Try.prog (sOp (.fieldAddr 44 (.const t3) 1) 0) w34 fun t22 w35 =>
    Run Try.prog (sOp (.load 3 (.const t22)) 3) w35 fun t23 w36 =>
    Run Try.prog (sCall (Value.func (.func 78) #[] #[]) [t21, t23]) w36 fun t24 w37 =>
    R (.returned t24) w37) (
    Run Try.prog (sOp (.fieldAddr 44 (.const t2) 3) 0) w32 fun t25 w38 =>
  Run Try.prog (sOp (.load 29 (.const t25)) 29) w38 fun t26 w39 =>
  Run Try.prog (sBuiltin .len #[29] 3 [false] [t26]) w39 fun t27 w40 =>
  Run Try.prog (sOp (.fieldAddr 44 (.const t3) 3) 0) w40 fun t28 w41 =>
  Run Try.prog (sOp (.load 29 (.const t28)) 29) w41 fun t29 w42 =>
  Run Try.prog (sBuiltin .len #[29] 3 [false] [t29]) w42 fun t30 w43 =>
  Run Try.prog (sBin .neq 3 false false t27 t30) w43 fun t31 w44 =>
  CondV t31 (
    Run Try.prog (sOp (.fieldAddr 44 (.const t2) 3) 0) w44 fun t32 w45 =>
    Run Try.prog (sOp (.load 29 (.const t32)) 29) w45 fun t33 w46 =>
    Run Try.prog (sBuiltin .len #[29] 3 [false] [t33]) w46 fun t34 w47 =>
    Run Try.prog (sOp (.fieldAddr 44 (.const t3) 3) 0) w47 fun t35 w48 =>
    Run Try.prog (sOp (.load 29 (.const t35)) 29) w48 fun t36 w49 =>
    Run Try.prog (sBuiltin .len #[29] 3 [false] [t36]) w49 fun t37 w50 =>
    Run Try.prog (sCall (Value.func (.func 78) #[] #[]) [t34, t37]) w50 fun t38 w51 =>
    R (.returned t38) w51) (
    Run Try.prog (sOp (.fieldAddr 44 (.const t2) 2) 0) w44 fun t39 w52 =>
  Run Try.prog (sOp (.load 9 (.const t39)) 9) w52 fun t40 w53 =>
  Run Try.prog (sOp (.fieldAddr 44 (.const t3) 2) 0) w53 fun t41 w54 =>
  Run Try.prog (sOp (.load 9 (.const t41)) 9) w54 fun t42 w55 =>
  Run Try.prog (sBin .neq 9 false false t40 t42) w55 fun t43 w56 =>
  CondV t43 (
    Run Try.prog (sOp (.fieldAddr 44 (.const t2) 2) 0) w56 fun t44 w57 =>
    Run Try.prog (sOp (.load 9 (.const t44)) 9) w57 fun t45 w58 =>
    Run Try.prog (sOp (.fieldAddr 44 (.const t3) 2) 0) w58 fun t46 w59 =>
    Run Try.prog (sOp (.load 9 (.const t46)) 9) w59 fun t47 w60 =>
    Run Try.prog (sCall (Value.func (.func 79) #[] #[]) [t45, t47]) w60 fun t48 w61 =>
    R (.returned t48) w61) (
    (∃ (I62 : Value → World → Prop) (m63 : Value → World → Nat), I62 (Value.int .i64 0) w56 ∧
  ∀ t5 _ _ _ _ _ _ t6 t66 t65 t64 t63 t62 t61 t60 t59 t58 t57 t56 _ _ _ _ _ : Value, ∀ w64 : World, I62 t5 w64 →
  Run Try.prog (sOp (.fieldAddr 44 (.const t2) 3) 0) w64 fun t50_2 w65 =>
  Run Try.prog (sOp (.load 29 (.const t50_2)) 29) w65 fun t51_2 w66 =>
  Run Try.prog (sBuiltin .len #[29] 3 [false] [t51_2]) w66 fun t52_2 w67 =>
  Run Try.prog (sBin .lss 3 false false t5 t52_2) w67 fun t53_2 w68 =>
  CondV t53_2 (
    (∃ A69 : (Nat → Bool) → Value → Value → Value → Value → Value → Value → Value → Value → Value → Value → Value → Value → World → Prop, A69 (fun _ => false) t6 t66 t65 t64 t63 t62 t61 t60 t59 t58 t57 t56 { w68 with drawn := w68.drawn + 1 } ∧ (
    (∀ D70 : Nat → Bool, D70 0 = false → ∀ t6_2 t66_2 t65_2 t64_2 t63_2 t62_2 t61_2 t60_2 t59_2 t58_2 t57_2 t56_2 : Value, ∀ w71 : World, A69 D70 t6_2 t66_2 t65_2 t64_2 t63_2 t62_2 t61_2 t60_2 t59_2 t58_2 t57_2 t56_2 w71 →
      Run Try.prog (sOp (.fieldAddr 44 (.const t2) 3) 0) w71 fun t56_3 w72 =>
      A69 (setD D70 0) t6_2 t66_2 t65_2 t64_2 t63_2 t62_2 t61_2 t60_2 t59_2 t58_2 t57_2 t56_3 w72) ∧
    (∀ D70 : Nat → Bool, D70 1 = false → D70 0 = true → ∀ t6_2 t66_2 t65_2 t64_2 t63_2 t62_2 t61_2 t60_2 t59_2 t58_2 t57_2 t56_2 : Value, ∀ w73 : World, A69 D70 t6_2 t66_2 t65_2 t64_2 t63_2 t62_2 t61_2 t60_2 t59_2 t58_2 t57_2 t56_2 w73 →
      Run Try.prog (sOp (.load 29 (.const t56_2)) 29) w73 fun t57_3 w74 =>
      A69 (setD D70 1) t6_2 t66_2 t65_2 t64_2 t63_2 t62_2 t61_2 t60_2 t59_2 t58_2 t57_3 t56_2 w74) ∧
    (∀ D70 : Nat → Bool, D70 2 = false → ∀ t6_2 t66_2 t65_2 t64_2 t63_2 t62_2 t61_2 t60_2 t59_2 t58_2 t57_2 t56_2 : Value, ∀ w75 : World, A69 D70 t6_2 t66_2 t65_2 t64_2 t63_2 t62_2 t61_2 t60_2 t59_2 t58_2 t57_2 t56_2 w75 →
      A69 (setD D70 2) t6_2 t66_2 t65_2 t64_2 t63_2 t62_2 t61_2 t60_2 t59_2 t5 t57_2 t56_2 w75) ∧
    (∀ D70 : Nat → Bool, D70 3 = false → D70 1 = true → D70 2 = true → ∀ t6_2 t66_2 t65_2 t64_2 t63_2 t62_2 t61_2 t60_2 t59_2 t58_2 t57_2 t56_2 : Value, ∀ w76 : World, A69 D70 t6_2 t66_2 t65_2 t64_2 t63_2 t62_2 t61_2 t60_2 t59_2 t58_2 t57_2 t56_2 w76 →
      Run Try.prog (sOp (.indexAddr 29 (.const t57_2) (.const t58_2)) 0) w76 fun t59_3 w77 =>
      A69 (setD D70 3) t6_2 t66_2 t65_2 t64_2 t63_2 t62_2 t61_2 t60_2 t59_3 t58_2 t57_2 t56_2 w77) ∧
    (∀ D70 : Nat → Bool, D70 4 = false → D70 3 = true → ∀ t6_2 t66_2 t65_2 t64_2 t63_2 t62_2 t61_2 t60_2 t59_2 t58_2 t57_2 t56_2 : Value, ∀ w78 : World, A69 D70 t6_2 t66_2 t65_2 t64_2 t63_2 t62_2 t61_2 t60_2 t59_2 t58_2 t57_2 t56_2 w78 →
      Run Try.prog (sOp (.load 44 (.const t59_2)) 44) w78 fun t60_3 w79 =>
      A69 (setD D70 4) t6_2 t66_2 t65_2 t64_2 t63_2 t62_2 t61_2 t60_3 t59_2 t58_2 t57_2 t56_2 w79) ∧
    (∀ D70 : Nat → Bool, D70 5 = false → ∀ t6_2 t66_2 t65_2 t64_2 t63_2 t62_2 t61_2 t60_2 t59_2 t58_2 t57_2 t56_2 : Value, ∀ w80 : World, A69 D70 t6_2 t66_2 t65_2 t64_2 t63_2 t62_2 t61_2 t60_2 t59_2 t58_2 t57_2 t56_2 w80 →
      Run Try.prog (sOp (.fieldAddr 44 (.const t3) 3) 0) w80 fun t61_3 w81 =>
      A69 (setD D70 5) t6_2 t66_2 t65_2 t64_2 t63_2 t62_2 t61_3 t60_2 t59_2 t58_2 t57_2 t56_2 w81) ∧
    (∀ D70 : Nat → Bool, D70 6 = false → D70 5 = true → ∀ t6_2 t66_2 t65_2 t64_2 t63_2 t62_2 t61_2 t60_2 t59_2 t58_2 t57_2 t56_2 : Value, ∀ w82 : World, A69 D70 t6_2 t66_2 t65_2 t64_2 t63_2 t62_2 t61_2 t60_2 t59_2 t58_2 t57_2 t56_2 w82 →
      Run Try.prog (sOp (.load 29 (.const t61_2)) 29) w82 fun t62_3 w83 =>
      A69 (setD D70 6) t6_2 t66_2 t65_2 t64_2 t63_2 t62_3 t61_2 t60_2 t59_2 t58_2 t57_2 t56_2 w83) ∧
    (∀ D70 : Nat → Bool, D70 7 = false → ∀ t6_2 t66_2 t65_2 t64_2 t63_2 t62_2 t61_2 t60_2 t59_2 t58_2 t57_2 t56_2 : Value, ∀ w84 : World, A69 D70 t6_2 t66_2 t65_2 t64_2 t63_2 t62_2 t61_2 t60_2 t59_2 t58_2 t57_2 t56_2 w84 →
      A69 (setD D70 7) t6_2 t66_2 t65_2 t64_2 t5 t62_2 t61_2 t60_2 t59_2 t58_2 t57_2 t56_2 w84) ∧
    (∀ D70 : Nat → Bool, D70 8 = false → D70 6 = true → D70 7 = true → ∀ t6_2 t66_2 t65_2 t64_2 t63_2 t62_2 t61_2 t60_2 t59_2 t58_2 t57_2 t56_2 : Value, ∀ w85 : World, A69 D70 t6_2 t66_2 t65_2 t64_2 t63_2 t62_2 t61_2 t60_2 t59_2 t58_2 t57_2 t56_2 w85 →
      Run Try.prog (sOp (.indexAddr 29 (.const t62_2) (.const t63_2)) 0) w85 fun t64_3 w86 =>
      A69 (setD D70 8) t6_2 t66_2 t65_2 t64_3 t63_2 t62_2 t61_2 t60_2 t59_2 t58_2 t57_2 t56_2 w86) ∧
    (∀ D70 : Nat → Bool, D70 9 = false → D70 8 = true → ∀ t6_2 t66_2 t65_2 t64_2 t63_2 t62_2 t61_2 t60_2 t59_2 t58_2 t57_2 t56_2 : Value, ∀ w87 : World, A69 D70 t6_2 t66_2 t65_2 t64_2 t63_2 t62_2 t61_2 t60_2 t59_2 t58_2 t57_2 t56_2 w87 →
      Run Try.prog (sOp (.load 44 (.const t64_2)) 44) w87 fun t65_3 w88 =>
      A69 (setD D70 9) t6_2 t66_2 t65_3 t64_2 t63_2 t62_2 t61_2 t60_2 t59_2 t58_2 t57_2 t56_2 w88) ∧
    (∀ D70 : Nat → Bool, D70 10 = false → D70 4 = true → D70 9 = true → ∀ t6_2 t66_2 t65_2 t64_2 t63_2 t62_2 t61_2 t60_2 t59_2 t58_2 t57_2 t56_2 : Value, ∀ w89 : World, A69 D70 t6_2 t66_2 t65_2 t64_2 t63_2 t62_2 t61_2 t60_2 t59_2 t58_2 t57_2 t56_2 w89 →
      Run Try.prog (sCall (Value.func (.func 57) #[] #[]) [t60_2, t65_2]) w89 fun t66_3 w90 =>
      A69 (setD D70 10) t6_2 t66_3 t65_2 t64_2 t63_2 t62_2 t61_2 t60_2 t59_2 t58_2 t57_2 t56_2 w90) ∧
    (∀ D70 : Nat → Bool, D70 11 = false → D70 10 = true → D70 10 = true → D70 0 = true → D70 1 = true → D70 2 = true → D70 3 = true → D70 4 = true → D70 5 = true → D70 6 = true → D70 7 = true → D70 8 = true → D70 9 = true → D70 10 = true → ∀ t6_2 t66_2 t65_2 t64_2 t63_2 t62_2 t61_2 t60_2 t59_2 t58_2 t57_2 t56_2 : Value, ∀ w91 : World, A69 D70 t6_2 t66_2 t65_2 t64_2 t63_2 t62_2 t61_2 t60_2 t59_2 t58_2 t57_2 t56_2 w91 →
      A69 (setD D70 11) t66_2 t66_2 t65_2 t64_2 t63_2 t62_2 t61_2 t60_2 t59_2 t58_2 t57_2 t56_2 w91) ∧
    True) ∧
  ∀ D70 : Nat → Bool, D70 11 = true → D70 10 = true → D70 9 = true → D70 8 = true → D70 7 = true → D70 6 = true → D70 5 = true → D70 4 = true → D70 3 = true → D70 2 = true → D70 1 = true → D70 0 = true → ∀ t6_2 t66_2 t65_2 t64_2 t63_2 t62_2 t61_2 t60_2 t59_2 t58_2 t57_2 t56_2 : Value, ∀ w92 : World, A69 D70 t6_2 t66_2 t65_2 t64_2 t63_2 t62_2 t61_2 t60_2 t59_2 t58_2 t57_2 t56_2 w92 →
  Run Try.prog (sBin .neq 3 false true t6_2 (Value.int .i64 0)) w92 fun t68_2 w93 =>
  CondV t68_2 (
    R (.returned t6_2) w93) (
    Run Try.prog (sBin .add 3 false true t5 (Value.int .i64 1)) w93 fun t55_2 w94 =>
  I62 t55_2 w94 ∧ m63 t55_2 w94 < m63 t5 w64))) (
    R (.returned (Value.int .i64 0)) w68)))))))
theorem calls_s_l1Compare {p0 p1 : Value} {w : World} {R : Ending → World → Prop} (h : sh_s_l1Compare p0 p1 w R) : Calls Try.prog 57 #[p0, p1] w R :=
  calls_sh (.seq none .leaf (.seq none .leaf (.seq none .leaf (.seq none .leaf (.seq none .leaf (.seq none (.seq none .leaf (.one (.loop [5] .leaf))) .leaf)))))) [p0, p1] mixed Try.func57 (by kernel_rfl) (by kernel_rfl) h


/- loop.example/prologserver/spec.l1Copy : function 58 -/
def sh_s_l1Copy (p0 : Value) (w : World) (R : Ending → World → Prop) : Prop :=
  Run Try.prog (sOp (.box 44 (.const p0)) 0) w fun t1 w1 =>
  Run Try.prog (sOp (.alloc 44) 0) w1 fun t2 w2 =>
  Run Try.prog (sOp (.fieldAddr 44 (.const t1) 0) 0) w2 fun t5 w3 =>
  Run Try.prog (sOp (.load 3 (.const t5)) 3) w3 fun t6 w4 =>
  Run Try.prog (sOp (.fieldAddr 44 (.const t1) 1) 0) w4 fun t7 w5 =>
  Run Try.prog (sOp (.load 3 (.const t7)) 3) w5 fun t8 w6 =>
  Run Try.prog (sOp (.fieldAddr 44 (.const t1) 2) 0) w6 fun t9 w7 =>
  Run Try.prog (sOp (.load 9 (.const t9)) 9) w7 fun t10 w8 =>
  Run Try.prog (sBuild 44 [(0, t6), (1, t8), (2, t10)]) w8 fun t11 w9 =>
  Run Try.prog (sOp (.alloc 44) 0) w9 fun t3 w10 =>
  Run Try.prog (sOp (.store 44 (.const t3) (.const t11)) 0) w10 fun _u w11 =>
  (∃ (I12 : Value → World → Prop) (m13 : Value → World → Nat), I12 (Value.int .i64 0) w11 ∧
  ∀ t4 _ _ t29 t28 t27 t26 t25 t24 t23 t22 t21 t20 t19 _ _ _ _ _ : Value, ∀ w14 : World, I12 t4 w14 →
  Run Try.prog (sOp (.fieldAddr 44 (.const t1) 3) 0) w14 fun t13_2 w15 =>
  Run Try.prog (sOp (.load 29 (.const t13_2)) 29) w15 fun t14_2 w16 =>
  Run Try.prog (sBuiltin .len #[29] 3 [false] [t14_2]) w16 fun t15_2 w17 =>
  Run Try.prog (sBin .lss 3 false false t4 t15_2) w17 fun t16_2 w18 =>
  CondV t16_2 (
    (∃ A19 : (Nat → Bool) → Value → Value → Value → Value → Value → Value → Value → Value → Value → Value → Value → World → Prop, A19 (fun _ => false) t29 t28 t27 t26 t25 t24 t23 t22 t21 t20 t19 { w18 with drawn := w18.drawn + 1 } ∧ (
    (∀ D20 : Nat → Bool, D20 0 = false → ∀ t29_2 t28_2 t27_2 t26_2 t25_2 t24_2 t23_2 t22_2 t21_2 t20_2 t19_2 : Value, ∀ w21 : World, A19 D20 t29_2 t28_2 t27_2 t26_2 t25_2 t24_2 t23_2 t22_2 t21_2 t20_2 t19_2 w21 →
      Run Try.prog (sOp (.fieldAddr 44 (.const t3) 3) 0) w21 fun t19_3 w22 =>
      A19 (setD D20 0) t29_2 t28_2 t27_2 t26_2 t25_2 t24_2 t23_2 t22_2 t21_2 t20_2 t19_3 w22) ∧
    (∀ D20 : Nat → Bool, D20 1 = false → D20 0 = true → ∀ t29_2 t28_2 t27_2 t26_2 t25_2 t24_2 t23_2 t22_2 t21_2 t20_2 t19_2 : Value, ∀ w23 : World, A19 D20 t29_2 t28_2 t27_2 t26_2 t25_2 t24_2 t23_2 t22_2 t21_2 t20_2 t19_2 w23 →
      Run Try.prog (sOp (.load 29 (.const t19_2)) 29) w23 fun t20_3 w24 =>
      A19 (setD D20 1) t29_2 t28_2 t27_2 t26_2 t25_2 t24_2 t23_2 t22_2 t21_2 t20_3 t19_2 w24) ∧
    (∀ D20 : Nat → Bool, D20 2 = false → ∀ t29_2 t28_2 t27_2 t26_2 t25_2 t24_2 t23_2 t22_2 t21_2 t20_2 t19_2 : Value, ∀ w25 : World, A19 D20 t29_2 t28_2 t27_2 t26_2 t25_2 t24_2 t23_2 t22_2 t21_2 t20_2 t19_2 w25 →
      Run Try.prog (sOp (.fieldAddr 44 (.const t1) 3) 0) w25 fun t21_3 w26 =>
      A19 (setD D20 2) t29_2 t28_2 t27_2 t26_2 t25_2 t24_2 t23_2 t22_2 t21_3 t20_2 t19_2 w26) ∧
    (∀ D20 : Nat → Bool, D20 3 = false → D20 2 = true → ∀ t29_2 t28_2 t27_2 t26_2 t25_2 t24_2 t23_2 t22_2 t21_2 t20_2 t19_2 : Value, ∀ w27 : World, A19 D20 t29_2 t28_2 t27_2 t26_2 t25_2 t24_2 t23_2 t22_2 t21_2 t20_2 t19_2 w27 →
      Run Try.prog (sOp (.load 29 (.const t21_2)) 29) w27 fun t22_3 w28 =>
      A19 (setD D20 3) t29_2 t28_2 t27_2 t26_2 t25_2 t24_2 t23_2 t22_3 t21_2 t20_2 t19_2 w28) ∧
    (∀ D20 : Nat → Bool, D20 4 = false → ∀ t29_2 t28_2 t27_2 t26_2 t25_2 t24_2 t23_2 t22_2 t21_2 t20_2 t19_2 : Value, ∀ w29 : World, A19 D20 t29_2 t28_2 t27_2 t26_2 t25_2 t24_2 t23_2 t22_2 t21_2 t20_2 t19_2 w29 →
      A19 (setD D20 4) t29_2 t28_2 t27_2 t26_2 t25_2 t24_2 t4 t22_2 t21_2 t20_2 t19_2 w29) ∧
    (∀ D20 : Nat → Bool, D20 5 = false → D20 3 = true → D20 4 = true → ∀ t29_2 t28_2 t27_2 t26_2 t25_2 t24_2 t23_2 t22_2 t21_2 t20_2 t19_2 : Value, ∀ w30 : World, A19 D20 t29_2 t28_2 t27_2 t26_2 t25_2 t24_2 t23_2 t22_2 t21_2 t20_2 t19_2 w30 →
      Run Try.prog (sOp (.indexAddr 29 (.const t22_2) (.const t23_2)) 0) w30 fun t24_3 w31 =>
      A19 (setD D20 5) t29_2 t28_2 t27_2 t26_2 t25_2 t24_3 t23_2 t22_2 t21_2 t20_2 t19_2 w31) ∧
    (∀ D20 : Nat → Bool, D20 6 = false → D20 5 = true → ∀ t29_2 t28_2 t27_2 t26_2 t25_2 t24_2 t23_2 t22_2 t21_2 t20_2 t19_2 : Value, ∀ w32 : World, A19 D20 t29_2 t28_2 t27_2 t26_2 t25_2 t24_2 t23_2 t22_2 t21_2 t20_2 t19_2 w32 →
      Run Try.prog (sOp (.load 44 (.const t24_2)) 44) w32 fun t25_3 w33 =>
      A19 (setD D20 6) t29_2 t28_2 t27_2 t26_2 t25_3 t24_2 t23_2 t22_2 t21_2 t20_2 t19_2 w33) ∧
    (∀ D20 : Nat → Bool, D20 7 = false → D20 6 = true → ∀ t29_2 t28_2 t27_2 t26_2 t25_2 t24_2 t23_2 t22_2 t21_2 t20_2 t19_2 : Value, ∀ w34 : World, A19 D20 t29_2 t28_2 t27_2 t26_2 t25_2 t24_2 t23_2 t22_2 t21_2 t20_2 t19_2 w34 →
      Run Try.prog (sCall (Value.func (.func 58) #[] #[]) [t25_2]) w34 fun t26_3 w35 =>
      A19 (setD D20 7) t29_2 t28_2 t27_2 t26_3 t25_2 t24_2 t23_2 t22_2 t21_2 t20_2 t19_2 w35) ∧
    (∀ D20 : Nat → Bool, D20 8 = false → D20 7 = true → ∀ t29_2 t28_2 t27_2 t26_2 t25_2 t24_2 t23_2 t22_2 t21_2 t20_2 t19_2 : Value, ∀ w36 : World, A19 D20 t29_2 t28_2 t27_2 t26_2 t25_2 t24_2 t23_2 t22_2 t21_2 t20_2 t19_2 w36 →
      Run Try.prog (sBuildSlice 29 1 [(0, t26_2)]) w36 fun t27_3 w37 =>
      A19 (setD D20 8) t29_2 t28_2 t27_3 t26_2 t25_2 t24_2 t23_2 t22_2 t21_2 t20_2 t19_2 w37) ∧
    (∀ D20 : Nat → Bool, D20 9 = false → D20 1 = true → D20 8 = true → D20 7 = true → ∀ t29_2 t28_2 t27_2 t26_2 t25_2 t24_2 t23_2 t22_2 t21_2 t20_2 t19_2 : Value, ∀ w38 : World, A19 D20 t29_2 t28_2 t27_2 t26_2 t25_2 t24_2 t23_2 t22_2 t21_2 t20_2 t19_2 w38 →
      Run Try.prog (sBuiltin .append #[29, 29] 29 [false, false] [t20_2, t27_2]) w38 fun t28_3 w39 =>
      A19 (setD D20 9) t29_2 t28_3 t27_2 t26_2 t25_2 t24_2 t23_2 t22_2 t21_2 t20_2 t19_2 w39) ∧
    (∀ D20 : Nat → Bool, D20 10 = false → D20 0 = true → D20 1 = true → D20 2 = true → D20 3 = true → D20 4 = true → D20 5 = true → D20 6 = true → D20 7 = true → D20 8 = true → D20 9 = true → ∀ t29_2 t28_2 t27_2 t26_2 t25_2 t24_2 t23_2 t22_2 t21_2 t20_2 t19_2 : Value, ∀ w40 : World, A19 D20 t29_2 t28_2 t27_2 t26_2 t25_2 t24_2 t23_2 t22_2 t21_2 t20_2 t19_2 w40 →
      Run Try.prog (sOp (.fieldAddr 44 (.const t3) 3) 0) w40 fun t29_3 w41 =>
      A19 (setD D20 10) t29_3 t28_2 t27_2 t26_2 t25_2 t24_2 t23_2 t22_2 t21_2 t20_2 t19_2 w41) ∧
    (∀ D20 : Nat → Bool, D20 11 = false → D20 10 = true → D20 9 = true → D20 9 = true → D20 0 = true → D20 1 = true → D20 2 = true → D20 3 = true → D20 4 = true → D20 5 = true → D20 6 = true → D20 7 = true → D20 8 = true → D20 9 = true → ∀ t29_2 t28_2 t27_2 t26_2 t25_2 t24_2 t23_2 t22_2 t21_2 t20_2 t19_2 : Value, ∀ w42 : World, A19 D20 t29_2 t28_2 t27_2 t26_2 t25_2 t24_2 t23_2 t22_2 t21_2 t20_2 t19_2 w42 →
      Run Try.prog (sOp (.store 29 (.const t29_2) (.const t28_2)) 0) w42 fun _u w43 =>
      A19 (setD D20 11) t29_2 t28_2 t27_2 t26_2 t25_2 t24_2 t23_2 t22_2 t21_2 t20_2 t19_2 w43) ∧
    True) ∧
  ∀ D20 : Nat → Bool, D20 11 = true → D20 10 = true → D20 9 = true → D20 8 = true → D20 7 = true → D20 6 = true → D20 5 = true → D20 4 = true → D20 3 = true → D20 2 = true → D20 1 = true → D20 0 = true → ∀ t29_2 t28_2 t27_2 t26_2 t25_2 t24_2 t23_2 t22_2 t21_2 t20_2 t19_2 : Value, ∀ w44 : World, A19 D20 t29_2 t28_2 t27_2 t26_2 t25_2 t24_2 t23_2 t22_2 t21_2 t20_2 t19_2 w44 →
  Run Try.prog (sBin .add 3 false true t4 (Value.int .i64 1)) w44 fun t18_2 w45 =>
  I12 t18_2 w45 ∧ m13 t18_2 w45 < m13 t4 w14)) (
    Run Try.prog (sOp (.load 44 (.const t3)) 44) w18 fun t30 w46 =>
  Run Try.prog (sOp (.store 44 (.const t2) (.const t30)) 0) w46 fun _ w47 =>
  (LoadV Try.prog 44 t2 w47 fun r0 => R (.returned r0) w47)))
theorem calls_s_l1Copy {p0 : Value} {w : World} {R : Ending → World → Prop} (h : sh_s_l1Copy p0 w R) : Calls Try.prog 58 #[p0] w R :=
  calls_sh (.seq none .leaf (.seq none .leaf (.seq none (.seq none .leaf (.one (.loop [4] .leaf))) .leaf))) [p0] mixed Try.func58 (by kernel_rfl) (by kernel_rfl) h


/- loop.example/prologserver/spec.l3Match : function 59 -/
def sh_s_l3Match (p0 p1 p2 : Value) (w : World) (R : Ending → World → Prop) : Prop :=
  Run Try.prog (sOp (.box 44 (.const p0)) 0) w fun t3 w1 =>
  Run Try.prog (sOp (.box 44 (.const p1)) 0) w1 fun t4 w2 =>
  Run Try.prog (sOp (.fieldAddr 44 (.const t3) 0) 0) w2 fun t8 w3 =>
  Run Try.prog (sOp (.load 3 (.const t8)) 3) w3 fun t9 w4 =>
  Run Try.prog (sBin .eql 3 false true t9 (Value.int .i64 1)) w4 fun t10 w5 =>
  CondV t10 (
    Run Try.prog (sOp (.fieldAddr 44 (.const t3) 1) 0) w5 fun t12 w6 =>
    Run Try.prog (sOp (.load 3 (.const t12)) 3) w6 fun t13 w7 =>
    Run Try.prog (sOp (.indexAddr 29 (.const p2) (.const t13)) 0) w7 fun t14 w8 =>
    Run Try.prog (sOp (.fieldAddr 44 (.const t14) 0) 0) w8 fun t15 w9 =>
    Run Try.prog (sOp (.load 3 (.const t15)) 3) w9 fun t16 w10 =>
    Run Try.prog (sBin .neq 3 false true t16 (Value.int .i64 0)) w10 fun t17 w11 =>
    CondV t17 (
      (∃ A12 : (Nat → Bool) → Value → Value → Value → Value → Value → Value → Value → Value → World → Prop, A12 (fun _ => false) (Value.bool false) undef undef undef undef undef undef undef { w11 with drawn := w11.drawn + 1 } ∧ (
        (∀ D13 : Nat → Bool, D13 0 = false → ∀ t6 t24 t23 t22 t21 t20 t19 t18 : Value, ∀ w14 : World, A12 D13 t6 t24 t23 t22 t21 t20 t19 t18 w14 →
          A12 (setD D13 0) t6 t24 t23 t22 t21 t20 t19 p2 w14) ∧
        (∀ D13 : Nat → Bool, D13 1 = false → ∀ t6 t24 t23 t22 t21 t20 t19 t18 : Value, ∀ w15 : World, A12 D13 t6 t24 t23 t22 t21 t20 t19 t18 w15 →
          Run Try.prog (sOp (.fieldAddr 44 (.const t3) 1) 0) w15 fun t19_2 w16 =>
          A12 (setD D13 1) t6 t24 t23 t22 t21 t20 t19_2 t18 w16) ∧
        (∀ D13 : Nat → Bool, D13 2 = false → D13 1 = true → ∀ t6 t24 t23 t22 t21 t20 t19 t18 : Value, ∀ w17 : World, A12 D13 t6 t24 t23 t22 t21 t20 t19 t18 w17 →
          Run Try.prog (sOp (.load 3 (.const t19)) 3) w17 fun t20_2 w18 =>
          A12 (setD D13 2) t6 t24 t23 t22 t21 t20_2 t19 t18 w18) ∧
        (∀ D13 : Nat → Bool, D13 3 = false → D13 0 = true → D13 2 = true → ∀ t6 t24 t23 t22 t21 t20 t19 t18 : Value, ∀ w19 : World, A12 D13 t6 t24 t23 t22 t21 t20 t19 t18 w19 →
          Run Try.prog (sOp (.indexAddr 29 (.const t18) (.const t20)) 0) w19 fun t21_2 w20 =>
          A12 (setD D13 3) t6 t24 t23 t22 t21_2 t20 t19 t18 w20) ∧
        (∀ D13 : Nat → Bool, D13 4 = false → D13 3 = true → ∀ t6 t24 t23 t22 t21 t20 t19 t18 : Value, ∀ w21 : World, A12 D13 t6 t24 t23 t22 t21 t20 t19 t18 w21 →
          Run Try.prog (sOp (.load 44 (.const t21)) 44) w21 fun t22_2 w22 =>
          A12 (setD D13 4) t6 t24 t23 t22_2 t21 t20 t19 t18 w22) ∧
        (∀ D13 : Nat → Bool, D13 5 = false → ∀ t6 t24 t23 t22 t21 t20 t19 t18 : Value, ∀ w23 : World, A12 D13 t6 t24 t23 t22 t21 t20 t19 t18 w23 →
          Run Try.prog (sOp (.load 44 (.const t4)) 44) w23 fun t23_2 w24 =>
          A12 (setD D13 5) t6 t24 t23_2 t22 t21 t20 t19 t18 w24) ∧
        (∀ D13 : Nat → Bool, D13 6 = false → D13 4 = true → D13 5 = true → ∀ t6 t24 t23 t22 t21 t20 t19 t18 : Value, ∀ w25 : World, A12 D13 t6 t24 t23 t22 t21 t20 t19 t18 w25 →
          Run Try.prog (sCall (Value.func (.func 38) #[] #[]) [t22, t23]) w25 fun t24_2 w26 =>
          A12 (setD D13 6) t6 t24_2 t23 t22 t21 t20 t19 t18 w26) ∧
        (∀ D13 : Nat → Bool, D13 7 = false → D13 6 = true → D13 6 = true → D13 0 = true → D13 1 = true → D13 2 = true → D13 3 = true → D13 4 = true → D13 5 = true → D13 6 = true → ∀ t6 t24 t23 t22 t21 t20 t19 t18 : Value, ∀ w27 : World, A12 D13 t6 t24 t23 t22 t21 t20 t19 t18 w27 →
          A12 (setD D13 7) t24 t24 t23 t22 t21 t20 t19 t18 w27) ∧
        True) ∧
      ∀ D13 : Nat → Bool, D13 7 = true → D13 6 = true → D13 5 = true → D13 4 = true → D13 3 = true → D13 2 = true → D13 1 = true → D13 0 = true → ∀ t6 t24 t23 t22 t21 t20 t19 t18 : Value, ∀ w28 : World, A12 D13 t6 t24 t23 t22 t21 t20 t19 t18 w28 →
      R (.returned t6) w28)) (
      Run Try.prog (sOp (.fieldAddr 44 (.const t3) 1) 0) w11 fun t26 w29 =>
    Run Try.prog (sOp (.load 3 (.const t26)) 3) w29 fun t27 w30 =>
    Run Try.prog (sOp (.load 44 (.const t4)) 44) w30 fun t28 w31 =>
    Run Try.prog (sOp (.indexAddr 29 (.const p2) (.const t27)) 0) w31 fun t29 w32 =>
    Run Try.prog (sOp (.store 44 (.const t29) (.const t28)) 0) w32 fun _ w33 =>
    R (.returned (Value.bool true)) w33)) (
    (∃ J34 : Value → World → Prop, (
    Run Try.prog (sOp (.fieldAddr 44 (.const t3) 0) 0) w5 fun t30 w35 =>
    Run Try.prog (sOp (.load 3 (.const t30)) 3) w35 fun t31 w36 =>
    Run Try.prog (sOp (.fieldAddr 44 (.const t4) 0) 0) w36 fun t32 w37 =>
    Run Try.prog (sOp (.load 3 (.const t32)) 3) w37 fun t33 w38 =>
    Run Try.prog (sBin .neq 3 false false t31 t33) w38 fun t34 w39 =>
    GuardV t34 false (
      Run Try.prog (sOp (.fieldAddr 44 (.const t3) 1) 0) w39 fun t36 w40 =>
      Run Try.prog (sOp (.load 3 (.const t36)) 3) w40 fun t37 w41 =>
      Run Try.prog (sOp (.fieldAddr 44 (.const t4) 1) 0) w41 fun t38 w42 =>
      Run Try.prog (sOp (.load 3 (.const t38)) 3) w42 fun t39 w43 =>
      Run Try.prog (sBin .neq 3 false false t37 t39) w43 fun t40 w44 =>
      Run Try.prog (sOp (.pick (.const t34) (.const (Value.bool true)) (.const t40)) 4) w44 fun t41 w45 =>
      GuardV t41 false (
        Run Try.prog (sOp (.fieldAddr 44 (.const t3) 2) 0) w45 fun t43 w46 =>
        Run Try.prog (sOp (.load 9 (.const t43)) 9) w46 fun t44 w47 =>
        Run Try.prog (sOp (.fieldAddr 44 (.const t4) 2) 0) w47 fun t45 w48 =>
        Run Try.prog (sOp (.load 9 (.const t45)) 9) w48 fun t46 w49 =>
        Run Try.prog (sBin .neq 9 false false t44 t46) w49 fun t47 w50 =>
        Run Try.prog (sOp (.pick (.const t41) (.const (Value.bool true)) (.const t47)) 4) w50 fun t48 w51 =>
        GuardV t48 false (
          Run Try.prog (sOp (.fieldAddr 44 (.const t3) 3) 0) w51 fun t50 w52 =>
          Run Try.prog (sOp (.load 29 (.const t50)) 29) w52 fun t51 w53 =>
          Run Try.prog (sBuiltin .len #[29] 3 [false] [t51]) w53 fun t52 w54 =>
          Run Try.prog (sOp (.fieldAddr 44 (.const t4) 3) 0) w54 fun t53 w55 =>
          Run Try.prog (sOp (.load 29 (.const t53)) 29) w55 fun t54 w56 =>
          Run Try.prog (sBuiltin .len #[29] 3 [false] [t54]) w56 fun t55 w57 =>
          Run Try.prog (sBin .neq 3 false false t52 t55) w57 fun t56 w58 =>
          Run Try.prog (sOp (.pick (.const t48) (.const (Value.bool true)) (.const t56)) 4) w58 fun t57 w59 =>
          J34 t57 w59) (
          Run Try.prog (sOp (.pick (.const t48) (.const (Value.bool true)) (.const undef)) 4) w51 fun t57_2 w60 =>
          J34 t57_2 w60)) (
        Run Try.prog (sOp (.pick (.const t41) (.const (Value.bool true)) (.const undef)) 4) w45 fun t48_2 w61 =>
        GuardV t48_2 false (
          Run Try.prog (sOp (.fieldAddr 44 (.const t3) 3) 0) w61 fun t50_2 w62 =>
          Run Try.prog (sOp (.load 29 (.const t50_2)) 29) w62 fun t51_2 w63 =>
          Run Try.prog (sBuiltin .len #[29] 3 [false] [t51_2]) w63 fun t52_2 w64 =>
          Run Try.prog (sOp (.fieldAddr 44 (.const t4) 3) 0) w64 fun t53_2 w65 =>
          Run Try.prog (sOp (.load 29 (.const t53_2)) 29) w65 fun t54_2 w66 =>
          Run Try.prog (sBuiltin .len #[29] 3 [false] [t54_2]) w66 fun t55_2 w67 =>
          Run Try.prog (sBin .neq 3 false false t52_2 t55_2) w67 fun t56_2 w68 =>
          Run Try.prog (sOp (.pick (.const t48_2) (.const (Value.bool true)) (.const t56_2)) 4) w68 fun t57_3 w69 =>
          J34 t57_3 w69) (
          Run Try.prog (sOp (.pick (.const t48_2) (.const (Value.bool true)) (.const undef)) 4) w61 fun t57_4 w70 =>
          J34 t57_4 w70))) (
      Run Try.prog (sOp (.pick (.const t34) (.const (Value.bool true)) (.const undef)) 4) w39 fun t41_2 w71 =>
      GuardV t41_2 false (
        Run Try.prog (sOp (.fieldAddr 44 (.const t3) 2) 0) w71 fun t43_2 w72 =>
        Run Try.prog (sOp (.load 9 (.const t43_2)) 9) w72 fun t44_2 w73 =>
        Run Try.prog (sOp (.fieldAddr 44 (.const t4) 2) 0) w73 fun t45_2 w74 =>
        Run Try.prog (sOp (.load 9 (.const t45_2)) 9) w74 fun t46_2 w75 =>
        Run Try.prog (sBin .neq 9 false false t44_2 t46_2) w75 fun t47_2 w76 =>
        Run Try.prog (sOp (.pick (.const t41_2) (.const (Value.bool true)) (.const t47_2)) 4) w76 fun t48_3 w77 =>
        GuardV t48_3 false (
          Run Try.prog (sOp (.fieldAddr 44 (.const t3) 3) 0) w77 fun t50_3 w78 =>
          Run Try.prog (sOp (.load 29 (.const t50_3)) 29) w78 fun t51_3 w79 =>
          Run Try.prog (sBuiltin .len #[29] 3 [false] [t51_3]) w79 fun t52_3 w80 =>
          Run Try.prog (sOp (.fieldAddr 44 (.const t4) 3) 0) w80 fun t53_3 w81 =>
          Run Try.prog (sOp (.load 29 (.const t53_3)) 29) w81 fun t54_3 w82 =>
          Run Try.prog (sBuiltin .len #[29] 3 [false] [t54_3]) w82 fun t55_3 w83 =>
          Run Try.prog (sBin .neq 3 false false t52_3 t55_3) w83 fun t56_3 w84 =>
          Run Try.prog (sOp (.pick (.const t48_3) (.const (Value.bool true)) (.const t56_3)) 4) w84 fun t57_5 w85 =>
          J34 t57_5 w85) (
          Run Try.prog (sOp (.pick (.const t48_3) (.const (Value.bool true)) (.const undef)) 4) w77 fun t57_6 w86 =>
          J34 t57_6 w86)) (
        Run Try.prog (sOp (.pick (.const t41_2) (.const (Value.bool true)) (.const undef)) 4) w71 fun t48_4 w87 =>
        GuardV t48_4 false (
          Run Try.prog (sOp (.fieldAddr 44 (.const t3) 3) 0) w87 fun t50_4 w88 =>
          Run Try.prog (sOp (.load 29 (.const t50_4)) 29) w88 fun t51_4 w89 =>
          Run Try.prog (sBuiltin .len #[29] 3 [false] [t51_4]) w89 fun t52_4 w90 =>
          Run Try.prog (sOp (.fieldAddr 44 (.const t4) 3) 0) w90 fun t53_4 w91 =>
          Run Try.prog (sOp (.load 29 (.const t53_4)) 29) w91 fun t54_4 w92 =>
          Run Try.prog (sBuiltin .len #[29] 3 [false] [t54_4]) w92 fun t55_4 w93 =>
          Run Try.prog (sBin .neq 3 false false t52_4 t55_4) w93 fun t56_4 w94 =>
          Run Try.prog (sOp (.pick (.const t48_4) (.const (Value.bool true)) (.const t56_4)) 4) w94 fun t57_7 w95 =>
          J34 t57_7 w95) (
          Run Try.prog (sOp (.pick (.const t48_4) (.const (Value.bool true)) (.const undef)) 4) w87 fun t57_8 w96 =>
          J34 t57_8 w96)))) ∧
  ∀ t57_9 _ _ _ _ _ _ _ _ _ _ _ _ _ _ _ _ _ _ _ _ _ _ _ _ _ _ _ : Value, ∀ w97 : World, J34 t57_9 w97 →
  CondV t57_9 (
    R (.returned (Value.bool false)) w97) (
    (∃ (I98 : Value → World → Prop) (m99 : Value → World → Nat), I98 (Value.int .i64 0) w97 ∧
  ∀ t7 _ _ _ t77 t76 t75 t74 t73 t72 t71 t70 t69 t68 t67 t66 t65 _ _ _ _ _ : Value, ∀ w100 : World, I98 t7 w100 →
  Run Try.prog (sOp (.fieldAddr 44 (.const t3) 3) 0) w100 fun t59_2 w101 =>
  Run Try.prog (sOp (.load 29 (.const t59_2)) 29) w101 fun t60_2 w102 =>
  Run Try.prog (sBuiltin .len #[29] 3 [false] [t60_2]) w102 fun t61_2 w103 =>
  Run Try.prog (sBin .lss 3 false false t7 t61_2) w103 fun t62_2 w104 =>
  CondV t62_2 (
    (∃ A105 : (Nat → Bool) → Value → Value → Value → Value → Value → Value → Value → Value → Value → Value → Value → Value → Value → World → Prop, A105 (fun _ => false) t77 t76 t75 t74 t73 t72 t71 t70 t69 t68 t67 t66 t65 { w104 with drawn := w104.drawn + 1 } ∧ (
    (∀ D106 : Nat → Bool, D106 0 = false → ∀ t77_2 t76_2 t75_2 t74_2 t73_2 t72_2 t71_2 t70_2 t69_2 t68_2 t67_2 t66_2 t65_2 : Value, ∀ w107 : World, A105 D106 t77_2 t76_2 t75_2 t74_2 t73_2 t72_2 t71_2 t70_2 t69_2 t68_2 t67_2 t66_2 t65_2 w107 →
      Run Try.prog (sOp (.fieldAddr 44 (.const t3) 3) 0) w107 fun t65_3 w108 =>
      A105 (setD D106 0) t77_2 t76_2 t75_2 t74_2 t73_2 t72_2 t71_2 t70_2 t69_2 t68_2 t67_2 t66_2 t65_3 w108) ∧
    (∀ D106 : Nat → Bool, D106 1 = false → D106 0 = true → ∀ t77_2 t76_2 t75_2 t74_2 t73_2 t72_2 t71_2 t70_2 t69_2 t68_2 t67_2 t66_2 t65_2 : Value, ∀ w109 : World, A105 D106 t77_2 t76_2 t75_2 t74_2 t73_2 t72_2 t71_2 t70_2 t69_2 t68_2 t67_2 t66_2 t65_2 w109 →
      Run Try.prog (sOp (.load 29 (.const t65_2)) 29) w109 fun t66_3 w110 =>
      A105 (setD D106 1) t77_2 t76_2 t75_2 t74_2 t73_2 t72_2 t71_2 t70_2 t69_2 t68_2 t67_2 t66_3 t65_2 w110) ∧
    (∀ D106 : Nat → Bool, D106 2 = false → ∀ t77_2 t76_2 t75_2 t74_2 t73_2 t72_2 t71_2 t70_2 t69_2 t68_2 t67_2 t66_2 t65_2 : Value, ∀ w111 : World, A105 D106 t77_2 t76_2 t75_2 t74_2 t73_2 t72_2 t71_2 t70_2 t69_2 t68_2 t67_2 t66_2 t65_2 w111 →
      A105 (setD D106 2) t77_2 t76_2 t75_2 t74_2 t73_2 t72_2 t71_2 t70_2 t69_2 t68_2 t7 t66_2 t65_2 w111) ∧
    (∀ D106 : Nat → Bool, D106 3 = false → D106 1 = true → D106 2 = true → ∀ t77_2 t76_2 t75_2 t74_2 t73_2 t72_2 t71_2 t70_2 t69_2 t68_2 t67_2 t66_2 t65_2 : Value, ∀ w112 : World, A105 D106 t77_2 t76_2 t75_2 t74_2 t73_2 t72_2 t71_2 t70_2 t69_2 t68_2 t67_2 t66_2 t65_2 w112 →
      Run Try.prog (sOp (.indexAddr 29 (.const t66_2) (.const t67_2)) 0) w112 fun t68_3 w113 =>
      A105 (setD D106 3) t77_2 t76_2 t75_2 t74_2 t73_2 t72_2 t71_2 t70_2 t69_2 t68_3 t67_2 t66_2 t65_2 w113) ∧
    (∀ D106 : Nat → Bool, D106 4 = false → D106 3 = true → ∀ t77_2 t76_2 t75_2 t74_2 t73_2 t72_2 t71_2 t70_2 t69_2 t68_2 t67_2 t66_2 t65_2 : Value, ∀ w114 : World, A105 D106 t77_2 t76_2 t75_2 t74_2 t73_2 t72_2 t71_2 t70_2 t69_2 t68_2 t67_2 t66_2 t65_2 w114 →
      Run Try.prog (sOp (.load 44 (.const t68_2)) 44) w114 fun t69_3 w115 =>
      A105 (setD D106 4) t77_2 t76_2 t75_2 t74_2 t73_2 t72_2 t71_2 t70_2 t69_3 t68_2 t67_2 t66_2 t65_2 w115) ∧
    (∀ D106 : Nat → Bool, D106 5 = false → ∀ t77_2 t76_2 t75_2 t74_2 t73_2 t72_2 t71_2 t70_2 t69_2 t68_2 t67_2 t66_2 t65_2 : Value, ∀ w116 : World, A105 D106 t77_2 t76_2 t75_2 t74_2 t73_2 t72_2 t71_2 t70_2 t69_2 t68_2 t67_2 t66_2 t65_2 w116 →
      Run Try.prog (sOp (.fieldAddr 44 (.const t4) 3) 0) w116 fun t70_3 w117 =>
      A105 (setD D106 5) t77_2 t76_2 t75_2 t74_2 t73_2 t72_2 t71_2 t70_3 t69_2 t68_2 t67_2 t66_2 t65_2 w117) ∧
    (∀ D106 : Nat → Bool, D106 6 = false → D106 5 = true → ∀ t77_2 t76_2 t75_2 t74_2 t73_2 t72_2 t71_2 t70_2 t69_2 t68_2 t67_2 t66_2 t65_2 : Value, ∀ w118 : World, A105 D106 t77_2 t76_2 t75_2 t74_2 t73_2 t72_2 t71_2 t70_2 t69_2 t68_2 t67_2 t66_2 t65_2 w118 →
      Run Try.prog (sOp (.load 29 (.const t70_2)) 29) w118 fun t71_3 w119 =>
      A105 (setD D106 6) t77_2 t76_2 t75_2 t74_2 t73_2 t72_2 t71_3 t70_2 t69_2 t68_2 t67_2 t66_2 t65_2 w119) ∧
    (∀ D106 : Nat → Bool, D106 7 = false → ∀ t77_2 t76_2 t75_2 t74_2 t73_2 t72_2 t71_2 t70_2 t69_2 t68_2 t67_2 t66_2 t65_2 : Value, ∀ w120 : World, A105 D106 t77_2 t76_2 t75_2 t74_2 t73_2 t72_2 t71_2 t70_2 t69_2 t68_2 t67_2 t66_2 t65_2 w120 →
      A105 (setD D106 7) t77_2 t76_2 t75_2 t74_2 t73_2 t7 t71_2 t70_2 t69_2 t68_2 t67_2 t66_2 t65_2 w120) ∧
    (∀ D106 : Nat → Bool, D106 8 = false → D106 6 = true → D106 7 = true → ∀ t77_2 t76_2 t75_2 t74_2 t73_2 t72_2 t71_2 t70_2 t69_2 t68_2 t67_2 t66_2 t65_2 : Value, ∀ w121 : World, A105 D106 t77_2 t76_2 t75_2 t74_2 t73_2 t72_2 t71_2 t70_2 t69_2 t68_2 t67_2 t66_2 t65_2 w121 →
      Run Try.prog (sOp (.indexAddr 29 (.const t71_2) (.const t72_2)) 0) w121 fun t73_3 w122 =>
      A105 (setD D106 8) t77_2 t76_2 t75_2 t74_2 t73_3 t72_2 t71_2 t70_2 t69_2 t68_2 t67_2 t66_2 t65_2 w122) ∧
    (∀ D106 : Nat → Bool, D106 9 = false → D106 8 = true → ∀ t77_2 t76_2 t75_2 t74_2 t73_2 t72_2 t71_2 t70_2 t69_2 t68_2 t67_2 t66_2 t65_2 : Value, ∀ w123 : World, A105 D106 t77_2 t76_2 t75_2 t74_2 t73_2 t72_2 t71_2 t70_2 t69_2 t68_2 t67_2 t66_2 t65_2 w123 →
      Run Try.prog (sOp (.load 44 (.const t73_2)) 44) w123 fun t74_3 w124 =>
      A105 (setD D106 9) t77_2 t76_2 t75_2 t74_3 t73_2 t72_2 t71_2 t70_2 t69_2 t68_2 t67_2 t66_2 t65_2 w124) ∧
    (∀ D106 : Nat → Bool, D106 10 = false → ∀ t77_2 t76_2 t75_2 t74_2 t73_2 t72_2 t71_2 t70_2 t69_2 t68_2 t67_2 t66_2 t65_2 : Value, ∀ w125 : World, A105 D106 t77_2 t76_2 t75_2 t74_2 t73_2 t72_2 t71_2 t70_2 t69_2 t68_2 t67_2 t66_2 t65_2 w125 →
      A105 (setD D106 10) t77_2 t76_2 p2 t74_2 t73_2 t72_2 t71_2 t70_2 t69_2 t68_2 t67_2 t66_2 t65_2 w125) ∧
    (∀ D106 : Nat → Bool, D106 11 = false → D106 4 = true → D106 9 = true → D106 10 = true → ∀ t77_2 t76_2 t75_2 t74_2 t73_2 t72_2 t71_2 t70_2 t69_2 t68_2 t67_2 t66_2 t65_2 : Value, ∀ w126 : World, A105 D106 t77_2 t76_2 t75_2 t74_2 t73_2 t72_2 t71_2 t70_2 t69_2 t68_2 t67_2 t66_2 t65_2 w126 →
      Run Try.prog (sCall (Value.func (.func 59) #[] #[]) [t69_2, t74_2, t75_2]) w126 fun t76_3 w127 =>
      A105 (setD D106 11) t77_2 t76_3 t75_2 t74_2 t73_2 t72_2 t71_2 t70_2 t69_2 t68_2 t67_2 t66_2 t65_2 w127) ∧
    (∀ D106 : Nat → Bool, D106 12 = false → D106 11 = true → ∀ t77_2 t76_2 t75_2 t74_2 t73_2 t72_2 t71_2 t70_2 t69_2 t68_2 t67_2 t66_2 t65_2 : Value, ∀ w128 : World, A105 D106 t77_2 t76_2 t75_2 t74_2 t73_2 t72_2 t71_2 t70_2 t69_2 t68_2 t67_2 t66_2 t65_2 w128 →
      Run Try.prog (sOp (.unOp .not 4 (.const t76_2)) 4) w128 fun t77_3 w129 =>
      A105 (setD D106 12) t77_3 t76_2 t75_2 t74_2 t73_2 t72_2 t71_2 t70_2 t69_2 t68_2 t67_2 t66_2 t65_2 w129) ∧
    True) ∧
  ∀ D106 : Nat → Bool, D106 12 = true → D106 11 = true → D106 10 = true → D106 9 = true → D106 8 = true → D106 7 = true → D106 6 = true → D106 5 = true → D106 4 = true → D106 3 = true → D106 2 = true → D106 1 = true → D106 0 = true → ∀ t77_2 t76_2 t75_2 t74_2 t73_2 t72_2 t71_2 t70_2 t69_2 t68_2 t67_2 t66_2 t65_2 : Value, ∀ w130 : World, A105 D106 t77_2 t76_2 t75_2 t74_2 t73_2 t72_2 t71_2 t70_2 t69_2 t68_2 t67_2 t66_2 t65_2 w130 →
  CondV t77_2 (
    R (.returned (Value.bool false)) w130) (
    Run Try.prog (sBin .add 3 false true t7 (Value.int .i64 1)) w130 fun t64_2 w131 =>
  I98 t64_2 w131 ∧ m99 t64_2 w131 < m99 t7 w100))) (
    R (.returned (Value.bool true)) w104)))))
theorem calls_s_l3Match {p0 p1 p2 : Value} {w : World} {R : Ending → World → Prop} (h : sh_s_l3Match p0 p1 p2 w R) : Calls Try.prog 59 #[p0, p1, p2] w R :=
  calls_sh (.seq none .leaf (.seq none .leaf (.seq none (.seq (some [57]) .leaf .leaf) (.seq none (.seq none .leaf (.one (.loop [7] .leaf))) .leaf)))) [p0, p1, p2] mixed Try.func59 (by kernel_rfl) (by kernel_rfl) h


/- loop.example/prologserver/impl.ProgramValid$1 : function 60 -/
def sh_i_ProgramValid_1 (p0 : Value) (w : World) (R : Ending → World → Prop) : Prop :=
  Run Try.prog (sOp (.box 46 (.const p0)) 0) w fun t1 w1 =>
  Run Try.prog (sOp (.load 46 (.const t1)) 46) w1 fun t3 w2 =>
  Run Try.prog (sCall (Value.func (.func 61) #[] #[]) [t3]) w2 fun t4 w3 =>
  Run Try.prog (sOp (.unOp .not 4 (.const t4)) 4) w3 fun t5 w4 =>
  R (.returned t5) w4
theorem calls_i_ProgramValid_1 {p0 : Value} {w : World} {R : Ending → World → Prop} (h : sh_i_ProgramValid_1 p0 w R) : Calls Try.prog 60 #[p0] w R :=
  calls_sh .leaf [p0] mixed Try.func60 (by kernel_rfl) (by kernel_rfl) h


/- loop.example/prologserver/impl.ClauseValid : function 61 -/
def sh_i_ClauseValid (p0 : Value) (w : World) (R : Ending → World → Prop) : Prop :=
  Run Try.prog (sOp (.box 46 (.const p0)) 0) w fun t1 w1 =>
  Run Try.prog (sOp (.fieldAddr 46 (.const t1) 0) 0) w1 fun t3 w2 =>
  Run Try.prog (sOp (.load 44 (.const t3)) 44) w2 fun t4 w3 =>
  Run Try.prog (sCall (Value.func (.func 44) #[] #[]) [t4]) w3 fun t5 w4 =>
  GuardV t5 true (
    Run Try.prog (sOp (.fieldAddr 46 (.const t1) 0) 0) w4 fun t7 w5 =>
    Run Try.prog (sOp (.load 44 (.const t7)) 44) w5 fun t8 w6 =>
    Run Try.prog (sCall (Value.func (.func 69) #[] #[]) [t8]) w6 fun t9 w7 =>
    Run Try.prog (sOp (.pick (.const t5) (.const t9) (.const (Value.bool false))) 4) w7 fun t10 w8 =>
    GuardV t10 true (
      Run Try.prog (sOp (.fieldAddr 46 (.const t1) 1) 0) w8 fun t12 w9 =>
      Run Try.prog (sOp (.load 29 (.const t12)) 29) w9 fun t13 w10 =>
      Run Try.prog (sCall (Value.func (.func 80) #[] #[]) [t13]) w10 fun t14 w11 =>
      Run Try.prog (sOp (.pick (.const t10) (.const t14) (.const (Value.bool false))) 4) w11 fun t15 w12 =>
      R (.returned t15) w12) (
      Run Try.prog (sOp (.pick (.const t10) (.const undef) (.const (Value.bool false))) 4) w8 fun t15_2 w13 =>
      R (.returned t15_2) w13)) (
    Run Try.prog (sOp (.pick (.const t5) (.const undef) (.const (Value.bool false))) 4) w4 fun t10_2 w14 =>
    GuardV t10_2 true (
      Run Try.prog (sOp (.fieldAddr 46 (.const t1) 1) 0) w14 fun t12_2 w15 =>
      Run Try.prog (sOp (.load 29 (.const t12_2)) 29) w15 fun t13_2 w16 =>
      Run Try.prog (sCall (Value.func (.func 80) #[] #[]) [t13_2]) w16 fun t14_2 w17 =>
      Run Try.prog (sOp (.pick (.const t10_2) (.const t14_2) (.const (Value.bool false))) 4) w17 fun t15_3 w18 =>
      R (.returned t15_3) w18) (
      Run Try.prog (sOp (.pick (.const t10_2) (.const undef) (.const (Value.bool false))) 4) w14 fun t15_4 w19 =>
      R (.returned t15_4) w19))
theorem calls_i_ClauseValid {p0 : Value} {w : World} {R : Ending → World → Prop} (h : sh_i_ClauseValid p0 w R) : Calls Try.prog 61 #[p0] w R :=
  calls_sh .leaf [p0] mixed Try.func61 (by kernel_rfl) (by kernel_rfl) h


/- slices.IndexFunc[[]loop.example/prologserver/impl.Clause,loop.example/prologserver/impl.Clause] : function 62 -/
def sh_x_IndexFunc_Clause (p0 p1 : Value) (w : World) (R : Ending → World → Prop) : Prop :=
  Run Try.prog (sBuiltin .len #[27] 3 [false] [p0]) w fun t7 w1 =>
  (∃ (I2 : Value → World → Prop) (m3 : Value → World → Nat), I2 (Value.int .i64 0) w1 ∧
  ∀ t8 _ _ _ _ _ _ _ _ _ _ _ _ : Value, ∀ w4 : World, I2 t8 w4 →
  Run Try.prog (sBin .lss 3 false false t8 t7) w4 fun t9_2 w5 =>
  CondV t9_2 (
    Run Try.prog (sOp (.indexAddr 27 (.const p0) (.const t8)) 0) w5 fun t14_2 w6 =>
  Run Try.prog (sOp (.load 46 (.const t14_2)) 46) w6 fun t15_2 w7 =>
  Run Try.prog (sCall p1 [t15_2]) w7 fun t16_2 w8 =>
  CondV t16_2 (
    R (.returned t8) w8) (
    Run Try.prog (sBin .add 3 false true t8 (Value.int .i64 1)) w8 fun t18_2 w9 =>
  I2 t18_2 w9 ∧ m3 t18_2 w9 < m3 t8 w4)) (
    R (.returned (Value.int .i64 (-1))) w5))
theorem calls_x_IndexFunc_Clause {p0 p1 : Value} {w : World} {R : Ending → World → Prop} (h : sh_x_IndexFunc_Clause p0 p1 w R) : Calls Try.prog 62 #[p0, p1] w R :=
  calls_sh (.seq none .leaf (.seq none (.seq none .leaf (.one (.loop [8] .leaf))) .leaf)) [p0, p1] mixed Try.func62 (by kernel_rfl) (by kernel_rfl) h


/- loop.example/prologserver/impl.flatClause$1 : function 63 -/
def sh_i_flatClause_1 (p0 : Value) (w : World) (R : Ending → World → Prop) : Prop :=
  Run Try.prog (sOp (.box 44 (.const p0)) 0) w fun t1 w1 =>
  Run Try.prog (sOp (.load 44 (.const t1)) 44) w1 fun t3 w2 =>
  Run Try.prog (sCall (Value.func (.func 45) #[] #[]) [t3]) w2 fun t4 w3 =>
  Run Try.prog (sOp (.unOp .not 4 (.const t4)) 4) w3 fun t5 w4 =>
  R (.returned t5) w4
theorem calls_i_flatClause_1 {p0 : Value} {w : World} {R : Ending → World → Prop} (h : sh_i_flatClause_1 p0 w R) : Calls Try.prog 63 #[p0] w R :=
  calls_sh .leaf [p0] mixed Try.func63 (by kernel_rfl) (by kernel_rfl) h


/- loop.example/prologserver/impl.varsOf : function 64 -/
def sh_i_varsOf (p0 : Value) (w : World) (R : Ending → World → Prop) : Prop :=
  Run Try.prog (sBuiltin .len #[29] 3 [false] [p0]) w fun t7 w1 =>
  (∃ (I2 : Value → Value → World → Prop) (m3 : Value → Value → World → Nat), I2 (Value.int .i64 0) (Value.slice none 0 0) w1 ∧
  ∀ t8 _ t3 _ _ _ _ _ _ _ : Value, ∀ w4 : World, I2 t8 t3 w4 →
  Run Try.prog (sBin .lss 3 false false t8 t7) w4 fun t9_2 w5 =>
  CondV t9_2 (
    Run Try.prog (sOp (.indexAddr 29 (.const p0) (.const t8)) 0) w5 fun t10_2 w6 =>
  Run Try.prog (sOp (.load 44 (.const t10_2)) 44) w6 fun t11_2 w7 =>
  Run Try.prog (sOp (.alloc 44) 0) w7 fun t5_2 w8 =>
  Run Try.prog (sOp (.store 44 (.const t5_2) (.const t11_2)) 0) w8 fun _ w9 =>
  Run Try.prog (sOp (.load 44 (.const t5_2)) 44) w9 fun t12_2 w10 =>
  Run Try.prog (sCall (Value.func (.func 46) #[] #[]) [t12_2, t3]) w10 fun t14_2 w11 =>
  Run Try.prog (sBin .add 3 false true t8 (Value.int .i64 1)) w11 fun t15_2 w12 =>
  I2 t15_2 t14_2 w12 ∧ m3 t15_2 t14_2 w12 < m3 t8 t3 w4) (
    R (.returned t3) w5))
theorem calls_i_varsOf {p0 : Value} {w : World} {R : Ending → World → Prop} (h : sh_i_varsOf p0 w R) : Calls Try.prog 64 #[p0] w R :=
  calls_sh (.seq none .leaf (.seq none .leaf (.seq none (.seq none .leaf (.one (.loop [8, 3] .leaf))) .leaf))) [p0] mixed Try.func64 (by kernel_rfl) (by kernel_rfl) h


/- slices.ContainsFunc[[]int,int] : function 65 -/
def sh_x_ContainsFunc_int (p0 p1 : Value) (w : World) (R : Ending → World → Prop) : Prop :=
  Run Try.prog (sCall (Value.func (.func 81) #[] #[]) [p0, p1]) w fun t7 w1 =>
  Run Try.prog (sBin .geq 3 false true t7 (Value.int .i64 0)) w1 fun t8 w2 =>
  R (.returned t8) w2
theorem calls_x_ContainsFunc_int {p0 p1 : Value} {w : World} {R : Ending → World → Prop} (h : sh_x_ContainsFunc_int p0 p1 w R) : Calls Try.prog 65 #[p0, p1] w R :=
  calls_sh .leaf [p0, p1] mixed Try.func65 (by kernel_rfl) (by kernel_rfl) h


/- loop.example/prologserver/impl.flatClause$2 : function 66 -/
def sh_i_flatClause_2 (p0 p1 : Value) (w : World) (R : Ending → World → Prop) : Prop :=
  Run Try.prog (sOp (.load 58 (.const p1)) 58) w fun t4 w1 =>
  Run Try.prog (sCall (Value.func (.func 67) #[] #[]) [t4, p0]) w1 fun t6 w2 =>
  Run Try.prog (sOp (.unOp .not 4 (.const t6)) 4) w2 fun t7 w3 =>
  R (.returned t7) w3
theorem calls_i_flatClause_2 {p0 p1 : Value} {w : World} {R : Ending → World → Prop} (h : sh_i_flatClause_2 p0 p1 w R) : Calls Try.prog 66 #[p0, p1] w R :=
  calls_sh .leaf [p0, p1] mixed Try.func66 (by kernel_rfl) (by kernel_rfl) h


/- slices.Contains[[]int,int] : function 67 -/
def sh_x_Contains_int (p0 p1 : Value) (w : World) (R : Ending → World → Prop) : Prop :=
  Run Try.prog (sCall (Value.func (.func 82) #[] #[]) [p0, p1]) w fun t7 w1 =>
  Run Try.prog (sBin .geq 3 false true t7 (Value.int .i64 0)) w1 fun t8 w2 =>
  R (.returned t8) w2
theorem calls_x_Contains_int {p0 p1 : Value} {w : World} {R : Ending → World → Prop} (h : sh_x_Contains_int p0 p1 w R) : Calls Try.prog 67 #[p0, p1] w R :=
  calls_sh .leaf [p0, p1] mixed Try.func67 (by kernel_rfl) (by kernel_rfl) h


/- loop.example/prologserver/impl.scan : function 68 -/
def sh_i_scan (p0 p1 p2 : Value) (w : World) (R : Ending → World → Prop) : Prop :=
  Run Try.prog (sOp (.box 44 (.const p0)) 0) w fun t3 w1 =>
  Run Try.prog (sOp (.box 3 (.const p1)) 0) w1 fun t4 w2 =>
  Run Try.prog (sOp (.box 83 (.const p2)) 0) w2 fun t5 w3 =>
  Run Try.prog (sOp (.load 83 (.const t5)) 83) w3 fun t7 w4 =>
  Run Try.prog (sOp (.nilCheck (.const t7)) 0) w4 fun t8 w5 =>
  Run Try.prog (sOp (.load 3 (.const t8)) 3) w5 fun t9 w6 =>
  Run Try.prog (sBin .add 3 false true t9 (Value.int .i64 1)) w6 fun t10 w7 =>
  Run Try.prog (sOp (.nilCheck (.const t7)) 0) w7 fun t11 w8 =>
  Run Try.prog (sOp (.store 3 (.const t11) (.const t10)) 0) w8 fun _ w9 =>
  (∃ J10 : Value → World → Prop, (
    Run Try.prog (sOp (.load 83 (.const t5)) 83) w9 fun t12 w11 =>
    Run Try.prog (sOp (.nilCheck (.const t12)) 0) w11 fun t13 w12 =>
    Run Try.prog (sOp (.load 3 (.const t13)) 3) w12 fun t14 w13 =>
    Run Try.prog (sBin .gtr 3 false true t14 (Value.int .i64 120)) w13 fun t15 w14 =>
    GuardV t15 false (
      Run Try.prog (sOp (.load 3 (.const t4)) 3) w14 fun t17 w15 =>
      Run Try.prog (sBin .gtr 3 false true t17 (Value.int .i64 30)) w15 fun t18 w16 =>
      Run Try.prog (sOp (.pick (.const t15) (.const (Value.bool true)) (.const t18)) 4) w16 fun t19 w17 =>
      J10 t19 w17) (
      Run Try.prog (sOp (.pick (.const t15) (.const (Value.bool true)) (.const undef)) 4) w14 fun t19_2 w18 =>
      J10 t19_2 w18)) ∧
  ∀ t19_3 _ _ _ _ _ _ _ : Value, ∀ w19 : World, J10 t19_3 w19 →
  CondV t19_3 (
    R (.returned (Value.bool false)) w19) (
    Run Try.prog (sOp (.fieldAddr 44 (.const t3) 0) 0) w19 fun t20 w20 =>
  Run Try.prog (sOp (.load 3 (.const t20)) 3) w20 fun t21 w21 =>
  Run Try.prog (sBin .eql 3 false true t21 (Value.int .i64 1)) w21 fun t23 w22 =>
  CondV t23 (
    Run Try.prog (sOp (.fieldAddr 44 (.const t3) 1) 0) w22 fun t24 w23 =>
    Run Try.prog (sOp (.load 3 (.const t24)) 3) w23 fun t25 w24 =>
    Run Try.prog (sCall (Value.func (.func 83) #[] #[]) [t25, (Value.int .i64 0), (Value.int .i64 25)]) w24 fun t26 w25 =>
    GuardV t26 true (
      Run Try.prog (sOp (.fieldAddr 44 (.const t3) 2) 0) w25 fun t28 w26 =>
      Run Try.prog (sOp (.load 9 (.const t28)) 9) w26 fun t29 w27 =>
      Run Try.prog (sBin .eql 9 false true t29 (Value.string ⟨#[]⟩)) w27 fun t30 w28 =>
      Run Try.prog (sOp (.pick (.const t26) (.const t30) (.const (Value.bool false))) 4) w28 fun t31 w29 =>
      GuardV t31 true (
        Run Try.prog (sOp (.fieldAddr 44 (.const t3) 3) 0) w29 fun t33 w30 =>
        Run Try.prog (sOp (.load 29 (.const t33)) 29) w30 fun t34 w31 =>
        Run Try.prog (sBuiltin .len #[29] 3 [false] [t34]) w31 fun t35 w32 =>
        Run Try.prog (sBin .eql 3 false true t35 (Value.int .i64 0)) w32 fun t36 w33 =>
        Run Try.prog (sOp (.pick (.const t31) (.const t36) (.const (Value.bool false))) 4) w33 fun t37 w34 =>
        R (.returned t37) w34) (
        Run Try.prog (sOp (.pick (.const t31) (.const undef) (.const (Value.bool false))) 4) w29 fun t37_2 w35 =>
        R (.returned t37_2) w35)) (
      Run Try.prog (sOp (.pick (.const t26) (.const undef) (.const (Value.bool false))) 4) w25 fun t31_2 w36 =>
      GuardV t31_2 true (
        Run Try.prog (sOp (.fieldAddr 44 (.const t3) 3) 0) w36 fun t33_2 w37 =>
        Run Try.prog (sOp (.load 29 (.const t33_2)) 29) w37 fun t34_2 w38 =>
        Run Try.prog (sBuiltin .len #[29] 3 [false] [t34_2]) w38 fun t35_2 w39 =>
        Run Try.prog (sBin .eql 3 false true t35_2 (Value.int .i64 0)) w39 fun t36_2 w40 =>
        Run Try.prog (sOp (.pick (.const t31_2) (.const t36_2) (.const (Value.bool false))) 4) w40 fun t37_3 w41 =>
        R (.returned t37_3) w41) (
        Run Try.prog (sOp (.pick (.const t31_2) (.const undef) (.const (Value.bool false))) 4) w36 fun t37_4 w42 =>
        R (.returned t37_4) w42))) (
    Run Try.prog (sBin .eql 3 false true t21 (Value.int .i64 2)) w22 fun t39 w43 =>
    CondV t39 (
      Run Try.prog (sOp (.fieldAddr 44 (.const t3) 1) 0) w43 fun t40 w44 =>
      Run Try.prog (sOp (.load 3 (.const t40)) 3) w44 fun t41 w45 =>
      Run Try.prog (sCall (Value.func (.func 83) #[] #[]) [t41, (Value.int .i64 (-999)), (Value.int .i64 999)]) w45 fun t42 w46 =>
      GuardV t42 true (
        Run Try.prog (sOp (.fieldAddr 44 (.const t3) 2) 0) w46 fun t44 w47 =>
        Run Try.prog (sOp (.load 9 (.const t44)) 9) w47 fun t45 w48 =>
        Run Try.prog (sBin .eql 9 false true t45 (Value.string ⟨#[]⟩)) w48 fun t46 w49 =>
        Run Try.prog (sOp (.pick (.const t42) (.const t46) (.const (Value.bool false))) 4) w49 fun t47 w50 =>
        GuardV t47 true (
          Run Try.prog (sOp (.fieldAddr 44 (.const t3) 3) 0) w50 fun t49 w51 =>
          Run Try.prog (sOp (.load 29 (.const t49)) 29) w51 fun t50 w52 =>
          Run Try.prog (sBuiltin .len #[29] 3 [false] [t50]) w52 fun t51 w53 =>
          Run Try.prog (sBin .eql 3 false true t51 (Value.int .i64 0)) w53 fun t52 w54 =>
          Run Try.prog (sOp (.pick (.const t47) (.const t52) (.const (Value.bool false))) 4) w54 fun t53 w55 =>
          R (.returned t53) w55) (
          Run Try.prog (sOp (.pick (.const t47) (.const undef) (.const (Value.bool false))) 4) w50 fun t53_2 w56 =>
          R (.returned t53_2) w56)) (
        Run Try.prog (sOp (.pick (.const t42) (.const undef) (.const (Value.bool false))) 4) w46 fun t47_2 w57 =>
        GuardV t47_2 true (
          Run Try.prog (sOp (.fieldAddr 44 (.const t3) 3) 0) w57 fun t49_2 w58 =>
          Run Try.prog (sOp (.load 29 (.const t49_2)) 29) w58 fun t50_2 w59 =>
          Run Try.prog (sBuiltin .len #[29] 3 [false] [t50_2]) w59 fun t51_2 w60 =>
          Run Try.prog (sBin .eql 3 false true t51_2 (Value.int .i64 0)) w60 fun t52_2 w61 =>
          Run Try.prog (sOp (.pick (.const t47_2) (.const t52_2) (.const (Value.bool false))) 4) w61 fun t53_3 w62 =>
          R (.returned t53_3) w62) (
          Run Try.prog (sOp (.pick (.const t47_2) (.const undef) (.const (Value.bool false))) 4) w57 fun t53_4 w63 =>
          R (.returned t53_4) w63))) (
      Run Try.prog (sBin .eql 3 false true t21 (Value.int .i64 3)) w43 fun t55 w64 =>
      CondV t55 (
        (∃ J65 : Value → World → Prop, (
          Run Try.prog (sOp (.fieldAddr 44 (.const t3) 1) 0) w64 fun t56 w66 =>
          Run Try.prog (sOp (.load 3 (.const t56)) 3) w66 fun t57 w67 =>
          Run Try.prog (sBin .neq 3 false true t57 (Value.int .i64 0)) w67 fun t58 w68 =>
          GuardV t58 false (
            Run Try.prog (sOp (.fieldAddr 44 (.const t3) 2) 0) w68 fun t60 w69 =>
            Run Try.prog (sOp (.load 9 (.const t60)) 9) w69 fun t61 w70 =>
            Run Try.prog (sCall (Value.func (.func 84) #[] #[]) [t61]) w70 fun t62 w71 =>
            Run Try.prog (sOp (.unOp .not 4 (.const t62)) 4) w71 fun t63 w72 =>
            Run Try.prog (sOp (.pick (.const t58) (.const (Value.bool true)) (.const t63)) 4) w72 fun t64 w73 =>
            GuardV t64 false (
              Run Try.prog (sOp (.fieldAddr 44 (.const t3) 3) 0) w73 fun t66 w74 =>
              Run Try.prog (sOp (.load 29 (.const t66)) 29) w74 fun t67 w75 =>
              Run Try.prog (sBuiltin .len #[29] 3 [false] [t67]) w75 fun t68 w76 =>
              Run Try.prog (sBin .gtr 3 false true t68 (Value.int .i64 4)) w76 fun t69 w77 =>
              Run Try.prog (sOp (.pick (.const t64) (.const (Value.bool true)) (.const t69)) 4) w77 fun t70 w78 =>
              J65 t70 w78) (
              Run Try.prog (sOp (.pick (.const t64) (.const (Value.bool true)) (.const undef)) 4) w73 fun t70_2 w79 =>
              J65 t70_2 w79)) (
            Run Try.prog (sOp (.pick (.const t58) (.const (Value.bool true)) (.const undef)) 4) w68 fun t64_2 w80 =>
            GuardV t64_2 false (
              Run Try.prog (sOp (.fieldAddr 44 (.const t3) 3) 0) w80 fun t66_2 w81 =>
              Run Try.prog (sOp (.load 29 (.const t66_2)) 29) w81 fun t67_2 w82 =>
              Run Try.prog (sBuiltin .len #[29] 3 [false] [t67_2]) w82 fun t68_2 w83 =>
              Run Try.prog (sBin .gtr 3 false true t68_2 (Value.int .i64 4)) w83 fun t69_2 w84 =>
              Run Try.prog (sOp (.pick (.const t64_2) (.const (Value.bool true)) (.const t69_2)) 4) w84 fun t70_3 w85 =>
              J65 t70_3 w85) (
              Run Try.prog (sOp (.pick (.const t64_2) (.const (Value.bool true)) (.const undef)) 4) w80 fun t70_4 w86 =>
              J65 t70_4 w86))) ∧
        ∀ t70_5 _ _ _ _ _ _ _ _ _ _ _ _ _ _ : Value, ∀ w87 : World, J65 t70_5 w87 →
        CondV t70_5 (
          R (.returned (Value.bool false)) w87) (
          Run Try.prog (sOp (.fieldAddr 44 (.const t3) 3) 0) w87 fun t71 w88 =>
        Run Try.prog (sOp (.load 29 (.const t71)) 29) w88 fun t72 w89 =>
        Run Try.prog (sMakeFunc (.func 85) [] [t4, t5]) w89 fun t73 w90 =>
        Run Try.prog (sCall (Value.func (.func 21) #[] #[]) [t72, t73]) w90 fun t74 w91 =>
        Run Try.prog (sOp (.unOp .not 4 (.const t74)) 4) w91 fun t75 w92 =>
        R (.returned t75) w92))) (
        R (.returned (Value.bool false)) w64)))))
theorem calls_i_scan {p0 p1 p2 : Value} {w : World} {R : Ending → World → Prop} (h : sh_i_scan p0 p1 p2 w R) : Calls Try.prog 68 #[p0, p1, p2] w R :=
  calls_sh (.seq none .leaf (.seq none .leaf (.seq none (.seq (some [19]) .leaf .leaf) (.seq none (.seq none .leaf (.one (.seq none .leaf (.two .leaf (.seq none .leaf (.two .leaf (.seq none .leaf (.two (.seq none (.seq (some [70]) .leaf .leaf) .leaf) .leaf)))))))) .leaf)))) [p0, p1, p2] mixed Try.func68 (by kernel_rfl) (by kernel_rfl) h

end Go.Proofs.Ytgdibnmabnimaaa

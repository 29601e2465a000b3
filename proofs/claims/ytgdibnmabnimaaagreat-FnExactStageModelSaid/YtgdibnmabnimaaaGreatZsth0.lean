/- Made by program: the functions in a shallow form; each form gives Calls. -/
import Derived.Test.YtgdibnmabnimaaaGreatVcCalls
import Derived.Test.YtgdibnmabnimaaaGreatProg
import Derived.KernelRfl
set_option maxRecDepth 100000
namespace Go.Proofs.YtgdibnmabnimaaaGreat
open Go
theorem mixed : Tryz.prog.follows .mixedOrders = true := by kernel_rfl
/- loop.example/prologserver/laws.FnExactStageModel : function 4 -/
def sh_l_FnExactStageModel (p0 p1 : Value) (w : World) (R : Ending → World → Prop) : Prop :=
  Run Tryz.prog (sCall (Value.func (.func 6) #[] #[]) [p0, (Value.int .i64 1048576)]) w fun t18 w1 =>
  Run Tryz.prog (sBin .lss 3 false true t18 (Value.int .i64 0)) w1 fun t20 w2 =>
  CondV t20 (
    R (.returned (Value.bool true)) w2) (
    Run Tryz.prog (sCall (Value.func (.func 8) #[] #[]) [p0]) w2 fun t23 w3 =>
  Run Tryz.prog (sCall (Value.func (.func 11) #[] #[]) [t23, p1]) w3 fun t25 w4 =>
  Run Tryz.prog (sOp (.extract (.const t25) 0) 29) w4 fun t26 w5 =>
  Run Tryz.prog (sOp (.extract (.const t25) 1) 4) w5 fun t27 w6 =>
  Run Tryz.prog (sCall (Value.func (.func 8) #[] #[]) [p0]) w6 fun t29 w7 =>
  Run Tryz.prog (sCall (Value.func (.func 12) #[] #[]) [t29, p1]) w7 fun t33 w8 =>
  Run Tryz.prog (sOp (.extract (.const t33) 0) 29) w8 fun t34 w9 =>
  Run Tryz.prog (sOp (.extract (.const t33) 1) 4) w9 fun t35 w10 =>
  (∃ J11 : Value → World → Prop, (
    Run Tryz.prog (sCall (Value.func (.func 13) #[] #[]) [t34, t26]) w10 fun t38 w12 =>
    Run Tryz.prog (sOp (.unOp .not 4 (.const t38)) 4) w12 fun t39 w13 =>
    GuardV t39 false (
      Run Tryz.prog (sBin .neq 4 false false t35 t27) w13 fun t43 w14 =>
      Run Tryz.prog (sOp (.pick (.const t39) (.const (Value.bool true)) (.const t43)) 4) w14 fun t44 w15 =>
      J11 t44 w15) (
      Run Tryz.prog (sOp (.pick (.const t39) (.const (Value.bool true)) (.const undef)) 4) w13 fun t44_2 w16 =>
      J11 t44_2 w16)) ∧
  ∀ t44_3 _ _ _ _ _ _ _ _ : Value, ∀ w17 : World, J11 t44_3 w17 →
  CondV t44_3 (
    R (.returned (Value.bool false)) w17) (
    Run Tryz.prog (sCall (Value.func (.func 8) #[] #[]) [p0]) w17 fun t47 w18 =>
  Run Tryz.prog (sCall (Value.func (.func 10) #[] #[]) [t29, t47]) w18 fun t48 w19 =>
  Run Tryz.prog (sOp (.unOp .not 4 (.const t48)) 4) w19 fun t49 w20 =>
  CondV t49 (
    R (.returned (Value.bool false)) w20) (
    Run Tryz.prog (sCall (Value.func (.func 14) #[] #[]) [t29, (Value.int .i64 1)]) w20 fun t52 w21 =>
  (∃ J22 : Value → World → Prop, (
    Run Tryz.prog (sBin .lss 3 false true t52 (Value.int .i64 0)) w21 fun t54 w23 =>
    GuardV t54 false (
      Run Tryz.prog (sCall (Value.func (.func 13) #[] #[]) [t34, t26]) w23 fun t58 w24 =>
      Run Tryz.prog (sOp (.unOp .not 4 (.const t58)) 4) w24 fun t59 w25 =>
      Run Tryz.prog (sOp (.pick (.const t54) (.const (Value.bool true)) (.const t59)) 4) w25 fun t60 w26 =>
      GuardV t60 false (
        Run Tryz.prog (sBin .neq 4 false false t35 t27) w26 fun t64 w27 =>
        Run Tryz.prog (sOp (.pick (.const t60) (.const (Value.bool true)) (.const t64)) 4) w27 fun t65 w28 =>
        J22 t65 w28) (
        Run Tryz.prog (sOp (.pick (.const t60) (.const (Value.bool true)) (.const undef)) 4) w26 fun t65_2 w29 =>
        J22 t65_2 w29)) (
      Run Tryz.prog (sOp (.pick (.const t54) (.const (Value.bool true)) (.const undef)) 4) w23 fun t60_2 w30 =>
      GuardV t60_2 false (
        Run Tryz.prog (sBin .neq 4 false false t35 t27) w30 fun t64_2 w31 =>
        Run Tryz.prog (sOp (.pick (.const t60_2) (.const (Value.bool true)) (.const t64_2)) 4) w31 fun t65_3 w32 =>
        J22 t65_3 w32) (
        Run Tryz.prog (sOp (.pick (.const t60_2) (.const (Value.bool true)) (.const undef)) 4) w30 fun t65_4 w33 =>
        J22 t65_4 w33))) ∧
  ∀ t65_5 _ _ _ _ _ _ _ _ _ _ _ _ : Value, ∀ w34 : World, J22 t65_5 w34 →
  CondV t65_5 (
    R (.returned (Value.bool false)) w34) (
    Run Tryz.prog (sCall (Value.func (.func 15) #[] #[]) [t34, (Value.int .i64 1)]) w34 fun t68 w35 =>
  Run Tryz.prog (sCall (Value.func (.func 16) #[] #[]) [t34, (Value.int .i64 1)]) w35 fun t71 w36 =>
  Run Tryz.prog (sBin .lss 3 false true t71 (Value.int .i64 0)) w36 fun t73 w37 =>
  CondV t73 (
    R (.returned (Value.bool false)) w37) (
    Run Tryz.prog (sBin .neq 3 false false t71 t68) w37 fun t76 w38 =>
  CondV t76 (
    R (.returned (Value.bool false)) w38) (
    Run Tryz.prog (sCall (Value.func (.func 8) #[] #[]) [p0]) w38 fun t79 w39 =>
  Run Tryz.prog (sCall (Value.func (.func 12) #[] #[]) [t79, p1]) w39 fun t81 w40 =>
  Run Tryz.prog (sOp (.extract (.const t81) 0) 29) w40 fun t82 w41 =>
  Run Tryz.prog (sOp (.extract (.const t81) 1) 4) w41 fun t83 w42 =>
  (∃ J43 : Value → World → Prop, (
    Run Tryz.prog (sCall (Value.func (.func 13) #[] #[]) [t82, t26]) w42 fun t86 w44 =>
    Run Tryz.prog (sOp (.unOp .not 4 (.const t86)) 4) w44 fun t87 w45 =>
    GuardV t87 false (
      Run Tryz.prog (sBin .neq 4 false false t83 t27) w45 fun t91 w46 =>
      Run Tryz.prog (sOp (.pick (.const t87) (.const (Value.bool true)) (.const t91)) 4) w46 fun t92 w47 =>
      J43 t92 w47) (
      Run Tryz.prog (sOp (.pick (.const t87) (.const (Value.bool true)) (.const undef)) 4) w45 fun t92_2 w48 =>
      J43 t92_2 w48)) ∧
  ∀ t92_3 _ _ _ _ _ _ _ _ : Value, ∀ w49 : World, J43 t92_3 w49 →
  CondV t92_3 (
    R (.returned (Value.bool false)) w49) (
    Run Tryz.prog (sCall (Value.func (.func 16) #[] #[]) [t34, (Value.int .i64 1)]) w49 fun t95 w50 =>
  Run Tryz.prog (sBin .lss 3 false true t95 (Value.int .i64 0)) w50 fun t97 w51 =>
  CondV t97 (
    R (.returned (Value.bool false)) w51) (
    Run Tryz.prog (sBin .neq 3 false false t95 t68) w51 fun t100 w52 =>
  CondV t100 (
    R (.returned (Value.bool false)) w52) (
    R (.returned (Value.bool true)) w52))))))))))))
theorem calls_l_FnExactStageModel {p0 p1 : Value} {w : World} {R : Ending → World → Prop} (h : sh_l_FnExactStageModel p0 p1 w R) : Calls Tryz.prog 4 #[p0, p1] w R :=
  calls_sh (.seq none .leaf (.seq none .leaf (.seq none .leaf (.seq none .leaf (.seq none .leaf (.seq none .leaf (.seq none .leaf (.seq none (.seq (some [44]) .leaf .leaf) (.seq none .leaf (.seq none .leaf (.seq none .leaf (.seq none (.seq (some [65]) .leaf .leaf) (.seq none .leaf (.seq none .leaf (.seq none .leaf (.seq none .leaf (.seq none .leaf (.seq none .leaf (.seq none .leaf (.seq none (.seq (some [92]) .leaf .leaf) .leaf)))))))))))))))))))) [p0, p1] mixed Tryz.func4 (by kernel_rfl) (by kernel_rfl) h


/- loop.example/prologserver/laws.szClauseS : function 6 -/
def sh_l_szClauseS (p0 p1 : Value) (w : World) (R : Ending → World → Prop) : Prop :=
  Run Tryz.prog (sBuiltin .len #[22] 3 [false] [p0]) w fun t8 w1 =>
  Run Tryz.prog (sBin .sub 3 false false p1 t8) w1 fun t9 w2 =>
  Run Tryz.prog (sBin .lss 3 false true t9 (Value.int .i64 0)) w2 fun t11 w3 =>
  CondV t11 (
    R (.returned (Value.int .i64 (-1))) w3) (
    (∃ (I4 : Value → Value → World → Prop) (m5 : Value → Value → World → Nat), I4 (Value.int .i64 0) t9 w3 ∧
  ∀ t5 _ _ _ _ _ t1 _ _ _ _ _ _ _ _ _ _ : Value, ∀ w6 : World, I4 t5 t1 w6 →
  Run Tryz.prog (sBuiltin .len #[22] 3 [false] [p0]) w6 fun t14_2 w7 =>
  Run Tryz.prog (sBin .lss 3 false false t5 t14_2) w7 fun t15_2 w8 =>
  CondV t15_2 (
    Run Tryz.prog (sOp (.indexAddr 22 (.const p0) (.const t5)) 0) w8 fun t20_2 w9 =>
  Run Tryz.prog (sOp (.load 42 (.const t20_2)) 42) w9 fun t21_2 w10 =>
  Run Tryz.prog (sCall (Value.func (.func 19) #[] #[]) [t21_2, t1]) w10 fun t23_2 w11 =>
  Run Tryz.prog (sBin .lss 3 false true t23_2 (Value.int .i64 0)) w11 fun t25_2 w12 =>
  CondV t25_2 (
    R (.returned (Value.int .i64 (-1))) w12) (
    Run Tryz.prog (sBin .add 3 false true t5 (Value.int .i64 1)) w12 fun t17_2 w13 =>
  I4 t17_2 t23_2 w13 ∧ m5 t17_2 t23_2 w13 < m5 t5 t1 w6)) (
    R (.returned t1) w8)))
theorem calls_l_szClauseS {p0 p1 : Value} {w : World} {R : Ending → World → Prop} (h : sh_l_szClauseS p0 p1 w R) : Calls Tryz.prog 6 #[p0, p1] w R :=
  calls_sh (.seq none .leaf (.seq none .leaf (.seq none .leaf (.seq none (.seq none .leaf (.one (.loop [5, 1] .leaf))) .leaf)))) [p0, p1] mixed Tryz.func6 (by kernel_rfl) (by kernel_rfl) h


/- loop.example/prologserver/spec.RoundsOf : function 7 -/
def sh_s_RoundsOf (p0 : Value) (w : World) (R : Ending → World → Prop) : Prop :=
  Run Tryz.prog (sCall (Value.func (.func 20) #[] #[]) [p0]) w fun t6 w1 =>
  Run Tryz.prog (sOp (.unOp .not 4 (.const t6)) 4) w1 fun t7 w2 =>
  CondV t7 (
    R (.returned (Value.int .i64 (-1))) w2) (
    Run Tryz.prog (sCall (Value.func (.func 21) #[] #[]) [p0, (Value.int .i64 61)]) w2 fun t10 w3 =>
  Run Tryz.prog (sOp (.extract (.const t10) 0) 29) w3 fun t11 w4 =>
  Run Tryz.prog (sOp (.extract (.const t10) 1) 3) w4 fun t12 w5 =>
  Run Tryz.prog (sBuiltin .len #[29] 3 [false] [t11]) w5 fun t14 w6 =>
  Run Tryz.prog (sBin .gtr 3 false true t14 (Value.int .i64 60)) w6 fun t15 w7 =>
  CondV t15 (
    R (.returned (Value.int .i64 (-1))) w7) (
    R (.returned t12) w7))
theorem calls_s_RoundsOf {p0 : Value} {w : World} {R : Ending → World → Prop} (h : sh_s_RoundsOf p0 w R) : Calls Tryz.prog 7 #[p0] w R :=
  calls_sh .leaf [p0] mixed Tryz.func7 (by kernel_rfl) (by kernel_rfl) h


/- loop.example/prologserver/laws.toClauseS : function 8 -/
def sh_l_toClauseS (p0 : Value) (w : World) (R : Ending → World → Prop) : Prop :=
  Run Tryz.prog (sBuiltin .len #[22] 3 [false] [p0]) w fun t6 w1 =>
  Run Tryz.prog (sOp (.makeSlice 25 (.const t6) (.const t6)) 25) w1 fun t7 w2 =>
  (∃ (I3 : Value → World → Prop) (m4 : Value → World → Nat), I3 (Value.int .i64 0) w2 ∧
  ∀ t4 _ _ _ _ _ _ _ _ _ _ _ _ _ _ : Value, ∀ w5 : World, I3 t4 w5 →
  Run Tryz.prog (sBuiltin .len #[22] 3 [false] [p0]) w5 fun t10_2 w6 =>
  Run Tryz.prog (sBin .lss 3 false false t4 t10_2) w6 fun t11_2 w7 =>
  CondV t11_2 (
    Run Tryz.prog (sOp (.indexAddr 22 (.const p0) (.const t4)) 0) w7 fun t18_2 w8 =>
  Run Tryz.prog (sOp (.load 42 (.const t18_2)) 42) w8 fun t19_2 w9 =>
  Run Tryz.prog (sCall (Value.func (.func 22) #[] #[]) [t19_2]) w9 fun t20_2 w10 =>
  Run Tryz.prog (sOp (.indexAddr 25 (.const t7) (.const t4)) 0) w10 fun t21_2 w11 =>
  Run Tryz.prog (sOp (.store 49 (.const t21_2) (.const t20_2)) 0) w11 fun _ w12 =>
  Run Tryz.prog (sBin .add 3 false true t4 (Value.int .i64 1)) w12 fun t13_2 w13 =>
  I3 t13_2 w13 ∧ m4 t13_2 w13 < m4 t4 w5) (
    R (.returned t7) w7))
theorem calls_l_toClauseS {p0 : Value} {w : World} {R : Ending → World → Prop} (h : sh_l_toClauseS p0 w R) : Calls Tryz.prog 8 #[p0] w R :=
  calls_sh (.seq none .leaf (.seq none .leaf (.seq none (.seq none .leaf (.one (.loop [4] .leaf))) .leaf))) [p0] mixed Tryz.func8 (by kernel_rfl) (by kernel_rfl) h


/- loop.example/prologserver/impl.RoundsOf : function 9 -/
def sh_i_RoundsOf (p0 : Value) (w : World) (R : Ending → World → Prop) : Prop :=
  Run Tryz.prog (sCall (Value.func (.func 23) #[] #[]) [p0, (Value.int .i64 61)]) w fun t8 w1 =>
  Run Tryz.prog (sOp (.extract (.const t8) 0) 29) w1 fun _ w2 =>
  Run Tryz.prog (sOp (.extract (.const t8) 1) 3) w2 fun t10 w3 =>
  Run Tryz.prog (sOp (.extract (.const t8) 2) 4) w3 fun t11 w4 =>
  Run Tryz.prog (sOp (.unOp .not 4 (.const t11)) 4) w4 fun t13 w5 =>
  CondV t13 (
    R (.returned (Value.int .i64 (-1))) w5) (
    R (.returned t10) w5)
theorem calls_i_RoundsOf {p0 : Value} {w : World} {R : Ending → World → Prop} (h : sh_i_RoundsOf p0 w R) : Calls Tryz.prog 9 #[p0] w R :=
  calls_sh .leaf [p0] mixed Tryz.func9 (by kernel_rfl) (by kernel_rfl) h


/- loop.example/prologserver/laws.eqClauseS : function 10 -/
def sh_l_eqClauseS (p0 p1 : Value) (w : World) (R : Ending → World → Prop) : Prop :=
  Run Tryz.prog (sBuiltin .len #[25] 3 [false] [p0]) w fun t7 w1 =>
  Run Tryz.prog (sBuiltin .len #[25] 3 [false] [p1]) w1 fun t9 w2 =>
  Run Tryz.prog (sBin .neq 3 false false t7 t9) w2 fun t10 w3 =>
  CondV t10 (
    R (.returned (Value.bool false)) w3) (
    (∃ (I4 : Value → World → Prop) (m5 : Value → World → Nat), I4 (Value.int .i64 0) w3 ∧
  ∀ t5 _ _ _ t26 t25 t24 t23 t22 t21 t20 t19 t18 t17 _ _ _ _ : Value, ∀ w6 : World, I4 t5 w6 →
  Run Tryz.prog (sBuiltin .len #[25] 3 [false] [p0]) w6 fun t13_2 w7 =>
  Run Tryz.prog (sBin .lss 3 false false t5 t13_2) w7 fun t14_2 w8 =>
  CondV t14_2 (
    (∃ A9 : (Nat → Bool) → Value → Value → Value → Value → Value → Value → Value → Value → Value → Value → World → Prop, A9 (fun _ => false) t26 t25 t24 t23 t22 t21 t20 t19 t18 t17 { w8 with drawn := w8.drawn + 1 } ∧ (
    (∀ D10 : Nat → Bool, D10 0 = false → ∀ t26_2 t25_2 t24_2 t23_2 t22_2 t21_2 t20_2 t19_2 t18_2 t17_2 : Value, ∀ w11 : World, A9 D10 t26_2 t25_2 t24_2 t23_2 t22_2 t21_2 t20_2 t19_2 t18_2 t17_2 w11 →
      A9 (setD D10 0) t26_2 t25_2 t24_2 t23_2 t22_2 t21_2 t20_2 t19_2 t18_2 p0 w11) ∧
    (∀ D10 : Nat → Bool, D10 1 = false → ∀ t26_2 t25_2 t24_2 t23_2 t22_2 t21_2 t20_2 t19_2 t18_2 t17_2 : Value, ∀ w12 : World, A9 D10 t26_2 t25_2 t24_2 t23_2 t22_2 t21_2 t20_2 t19_2 t18_2 t17_2 w12 →
      A9 (setD D10 1) t26_2 t25_2 t24_2 t23_2 t22_2 t21_2 t20_2 t19_2 t5 t17_2 w12) ∧
    (∀ D10 : Nat → Bool, D10 2 = false → D10 0 = true → D10 1 = true → ∀ t26_2 t25_2 t24_2 t23_2 t22_2 t21_2 t20_2 t19_2 t18_2 t17_2 : Value, ∀ w13 : World, A9 D10 t26_2 t25_2 t24_2 t23_2 t22_2 t21_2 t20_2 t19_2 t18_2 t17_2 w13 →
      Run Tryz.prog (sOp (.indexAddr 25 (.const t17_2) (.const t18_2)) 0) w13 fun t19_3 w14 =>
      A9 (setD D10 2) t26_2 t25_2 t24_2 t23_2 t22_2 t21_2 t20_2 t19_3 t18_2 t17_2 w14) ∧
    (∀ D10 : Nat → Bool, D10 3 = false → D10 2 = true → ∀ t26_2 t25_2 t24_2 t23_2 t22_2 t21_2 t20_2 t19_2 t18_2 t17_2 : Value, ∀ w15 : World, A9 D10 t26_2 t25_2 t24_2 t23_2 t22_2 t21_2 t20_2 t19_2 t18_2 t17_2 w15 →
      Run Tryz.prog (sOp (.load 49 (.const t19_2)) 49) w15 fun t20_3 w16 =>
      A9 (setD D10 3) t26_2 t25_2 t24_2 t23_2 t22_2 t21_2 t20_3 t19_2 t18_2 t17_2 w16) ∧
    (∀ D10 : Nat → Bool, D10 4 = false → ∀ t26_2 t25_2 t24_2 t23_2 t22_2 t21_2 t20_2 t19_2 t18_2 t17_2 : Value, ∀ w17 : World, A9 D10 t26_2 t25_2 t24_2 t23_2 t22_2 t21_2 t20_2 t19_2 t18_2 t17_2 w17 →
      A9 (setD D10 4) t26_2 t25_2 t24_2 t23_2 t22_2 p1 t20_2 t19_2 t18_2 t17_2 w17) ∧
    (∀ D10 : Nat → Bool, D10 5 = false → ∀ t26_2 t25_2 t24_2 t23_2 t22_2 t21_2 t20_2 t19_2 t18_2 t17_2 : Value, ∀ w18 : World, A9 D10 t26_2 t25_2 t24_2 t23_2 t22_2 t21_2 t20_2 t19_2 t18_2 t17_2 w18 →
      A9 (setD D10 5) t26_2 t25_2 t24_2 t23_2 t5 t21_2 t20_2 t19_2 t18_2 t17_2 w18) ∧
    (∀ D10 : Nat → Bool, D10 6 = false → D10 4 = true → D10 5 = true → ∀ t26_2 t25_2 t24_2 t23_2 t22_2 t21_2 t20_2 t19_2 t18_2 t17_2 : Value, ∀ w19 : World, A9 D10 t26_2 t25_2 t24_2 t23_2 t22_2 t21_2 t20_2 t19_2 t18_2 t17_2 w19 →
      Run Tryz.prog (sOp (.indexAddr 25 (.const t21_2) (.const t22_2)) 0) w19 fun t23_3 w20 =>
      A9 (setD D10 6) t26_2 t25_2 t24_2 t23_3 t22_2 t21_2 t20_2 t19_2 t18_2 t17_2 w20) ∧
    (∀ D10 : Nat → Bool, D10 7 = false → D10 6 = true → ∀ t26_2 t25_2 t24_2 t23_2 t22_2 t21_2 t20_2 t19_2 t18_2 t17_2 : Value, ∀ w21 : World, A9 D10 t26_2 t25_2 t24_2 t23_2 t22_2 t21_2 t20_2 t19_2 t18_2 t17_2 w21 →
      Run Tryz.prog (sOp (.load 49 (.const t23_2)) 49) w21 fun t24_3 w22 =>
      A9 (setD D10 7) t26_2 t25_2 t24_3 t23_2 t22_2 t21_2 t20_2 t19_2 t18_2 t17_2 w22) ∧
    (∀ D10 : Nat → Bool, D10 8 = false → D10 3 = true → D10 7 = true → ∀ t26_2 t25_2 t24_2 t23_2 t22_2 t21_2 t20_2 t19_2 t18_2 t17_2 : Value, ∀ w23 : World, A9 D10 t26_2 t25_2 t24_2 t23_2 t22_2 t21_2 t20_2 t19_2 t18_2 t17_2 w23 →
      Run Tryz.prog (sCall (Value.func (.func 24) #[] #[]) [t20_2, t24_2]) w23 fun t25_3 w24 =>
      A9 (setD D10 8) t26_2 t25_3 t24_2 t23_2 t22_2 t21_2 t20_2 t19_2 t18_2 t17_2 w24) ∧
    (∀ D10 : Nat → Bool, D10 9 = false → D10 8 = true → ∀ t26_2 t25_2 t24_2 t23_2 t22_2 t21_2 t20_2 t19_2 t18_2 t17_2 : Value, ∀ w25 : World, A9 D10 t26_2 t25_2 t24_2 t23_2 t22_2 t21_2 t20_2 t19_2 t18_2 t17_2 w25 →
      Run Tryz.prog (sOp (.unOp .not 4 (.const t25_2)) 4) w25 fun t26_3 w26 =>
      A9 (setD D10 9) t26_3 t25_2 t24_2 t23_2 t22_2 t21_2 t20_2 t19_2 t18_2 t17_2 w26) ∧
    True) ∧
  ∀ D10 : Nat → Bool, D10 9 = true → D10 8 = true → D10 7 = true → D10 6 = true → D10 5 = true → D10 4 = true → D10 3 = true → D10 2 = true → D10 1 = true → D10 0 = true → ∀ t26_2 t25_2 t24_2 t23_2 t22_2 t21_2 t20_2 t19_2 t18_2 t17_2 : Value, ∀ w27 : World, A9 D10 t26_2 t25_2 t24_2 t23_2 t22_2 t21_2 t20_2 t19_2 t18_2 t17_2 w27 →
  CondV t26_2 (
    R (.returned (Value.bool false)) w27) (
    Run Tryz.prog (sBin .add 3 false true t5 (Value.int .i64 1)) w27 fun t16_2 w28 =>
  I4 t16_2 w28 ∧ m5 t16_2 w28 < m5 t5 w6))) (
    R (.returned (Value.bool true)) w8)))
theorem calls_l_eqClauseS {p0 p1 : Value} {w : World} {R : Ending → World → Prop} (h : sh_l_eqClauseS p0 p1 w R) : Calls Tryz.prog 10 #[p0, p1] w R :=
  calls_sh (.seq none .leaf (.seq none .leaf (.seq none (.seq none .leaf (.one (.loop [5] .leaf))) .leaf))) [p0, p1] mixed Tryz.func10 (by kernel_rfl) (by kernel_rfl) h


/- loop.example/prologserver/spec.StageModel : function 11 -/
def sh_s_StageModel (p0 p1 : Value) (w : World) (R : Ending → World → Prop) : Prop :=
  (∃ J1 : Value → World → Prop, (
    Run Tryz.prog (sCall (Value.func (.func 20) #[] #[]) [p0]) w fun t9 w2 =>
    Run Tryz.prog (sOp (.unOp .not 4 (.const t9)) 4) w2 fun t10 w3 =>
    GuardV t10 false (
      Run Tryz.prog (sBin .lss 3 false true p1 (Value.int .i64 0)) w3 fun t13 w4 =>
      Run Tryz.prog (sOp (.pick (.const t10) (.const (Value.bool true)) (.const t13)) 4) w4 fun t14 w5 =>
      J1 t14 w5) (
      Run Tryz.prog (sOp (.pick (.const t10) (.const (Value.bool true)) (.const undef)) 4) w3 fun t14_2 w6 =>
      J1 t14_2 w6)) ∧
  ∀ t14_3 _ _ _ _ _ _ : Value, ∀ w7 : World, J1 t14_3 w7 →
  CondV t14_3 (
    Run Tryz.prog (sBuildSlice 29 0 []) w7 fun t15 w8 =>
    R (.returned (.tuple #[t15, (Value.bool false)])) w8) (
    (∃ J9 : Value → World → Prop, (
    Run Tryz.prog (sBin .gtr 3 false true p1 (Value.int .i64 60)) w7 fun t17 w10 =>
    CondV t17 (
      J9 (Value.int .i64 61) w10) (
      J9 p1 w10)) ∧
  ∀ t1 _ _ : Value, ∀ w11 : World, J9 t1 w11 →
  Run Tryz.prog (sCall (Value.func (.func 21) #[] #[]) [p0, t1]) w11 fun t21 w12 =>
  Run Tryz.prog (sOp (.extract (.const t21) 0) 29) w12 fun t22 w13 =>
  Run Tryz.prog (sOp (.extract (.const t21) 1) 3) w13 fun _ w14 =>
  Run Tryz.prog (sBuiltin .len #[29] 3 [false] [t22]) w14 fun t25 w15 =>
  Run Tryz.prog (sBin .gtr 3 false true t25 (Value.int .i64 60)) w15 fun t26 w16 =>
  CondV t26 (
    Run Tryz.prog (sBuildSlice 29 0 []) w16 fun t27 w17 =>
    R (.returned (.tuple #[t27, (Value.bool false)])) w17) (
    Run Tryz.prog (sCall (Value.func (.func 25) #[] #[]) [t22]) w16 fun t29 w18 =>
  R (.returned (.tuple #[t29, (Value.bool true)])) w18))))
theorem calls_s_StageModel {p0 p1 : Value} {w : World} {R : Ending → World → Prop} (h : sh_s_StageModel p0 p1 w R) : Calls Tryz.prog 11 #[p0, p1] w R :=
  calls_sh (.seq none .leaf (.seq none (.seq (some [14]) .leaf .leaf) (.seq (some [1]) .leaf .leaf))) [p0, p1] mixed Tryz.func11 (by kernel_rfl) (by kernel_rfl) h


/- loop.example/prologserver/impl.StageModel : function 12 -/
def sh_i_StageModel (p0 p1 : Value) (w : World) (R : Ending → World → Prop) : Prop :=
  Run Tryz.prog (sBin .lss 3 false true p1 (Value.int .i64 0)) w fun t10 w1 =>
  CondV t10 (
    R (.returned (.tuple #[(Value.slice none 0 0), (Value.bool false)])) w1) (
    Run Tryz.prog (sCall (Value.func (.func 23) #[] #[]) [p0, p1]) w1 fun t14 w2 =>
  Run Tryz.prog (sOp (.extract (.const t14) 0) 29) w2 fun t15 w3 =>
  Run Tryz.prog (sOp (.extract (.const t14) 1) 3) w3 fun _ w4 =>
  Run Tryz.prog (sOp (.extract (.const t14) 2) 4) w4 fun t17 w5 =>
  Run Tryz.prog (sCall (Value.func (.func 26) #[] #[]) [t15]) w5 fun t19 w6 =>
  R (.returned (.tuple #[t19, t17])) w6)
theorem calls_i_StageModel {p0 p1 : Value} {w : World} {R : Ending → World → Prop} (h : sh_i_StageModel p0 p1 w R) : Calls Tryz.prog 12 #[p0, p1] w R :=
  calls_sh .leaf [p0, p1] mixed Tryz.func12 (by kernel_rfl) (by kernel_rfl) h


/- loop.example/prologserver/laws.eqTermS : function 13 -/
def sh_l_eqTermS (p0 p1 : Value) (w : World) (R : Ending → World → Prop) : Prop :=
  Run Tryz.prog (sBuiltin .len #[29] 3 [false] [p0]) w fun t7 w1 =>
  Run Tryz.prog (sBuiltin .len #[29] 3 [false] [p1]) w1 fun t9 w2 =>
  Run Tryz.prog (sBin .neq 3 false false t7 t9) w2 fun t10 w3 =>
  CondV t10 (
    R (.returned (Value.bool false)) w3) (
    (∃ (I4 : Value → World → Prop) (m5 : Value → World → Nat), I4 (Value.int .i64 0) w3 ∧
  ∀ t5 _ _ _ t26 t25 t24 t23 t22 t21 t20 t19 t18 t17 _ _ _ _ : Value, ∀ w6 : World, I4 t5 w6 →
  Run Tryz.prog (sBuiltin .len #[29] 3 [false] [p0]) w6 fun t13_2 w7 =>
  Run Tryz.prog (sBin .lss 3 false false t5 t13_2) w7 fun t14_2 w8 =>
  CondV t14_2 (
    (∃ A9 : (Nat → Bool) → Value → Value → Value → Value → Value → Value → Value → Value → Value → Value → World → Prop, A9 (fun _ => false) t26 t25 t24 t23 t22 t21 t20 t19 t18 t17 { w8 with drawn := w8.drawn + 1 } ∧ (
    (∀ D10 : Nat → Bool, D10 0 = false → ∀ t26_2 t25_2 t24_2 t23_2 t22_2 t21_2 t20_2 t19_2 t18_2 t17_2 : Value, ∀ w11 : World, A9 D10 t26_2 t25_2 t24_2 t23_2 t22_2 t21_2 t20_2 t19_2 t18_2 t17_2 w11 →
      A9 (setD D10 0) t26_2 t25_2 t24_2 t23_2 t22_2 t21_2 t20_2 t19_2 t18_2 p0 w11) ∧
    (∀ D10 : Nat → Bool, D10 1 = false → ∀ t26_2 t25_2 t24_2 t23_2 t22_2 t21_2 t20_2 t19_2 t18_2 t17_2 : Value, ∀ w12 : World, A9 D10 t26_2 t25_2 t24_2 t23_2 t22_2 t21_2 t20_2 t19_2 t18_2 t17_2 w12 →
      A9 (setD D10 1) t26_2 t25_2 t24_2 t23_2 t22_2 t21_2 t20_2 t19_2 t5 t17_2 w12) ∧
    (∀ D10 : Nat → Bool, D10 2 = false → D10 0 = true → D10 1 = true → ∀ t26_2 t25_2 t24_2 t23_2 t22_2 t21_2 t20_2 t19_2 t18_2 t17_2 : Value, ∀ w13 : World, A9 D10 t26_2 t25_2 t24_2 t23_2 t22_2 t21_2 t20_2 t19_2 t18_2 t17_2 w13 →
      Run Tryz.prog (sOp (.indexAddr 29 (.const t17_2) (.const t18_2)) 0) w13 fun t19_3 w14 =>
      A9 (setD D10 2) t26_2 t25_2 t24_2 t23_2 t22_2 t21_2 t20_2 t19_3 t18_2 t17_2 w14) ∧
    (∀ D10 : Nat → Bool, D10 3 = false → D10 2 = true → ∀ t26_2 t25_2 t24_2 t23_2 t22_2 t21_2 t20_2 t19_2 t18_2 t17_2 : Value, ∀ w15 : World, A9 D10 t26_2 t25_2 t24_2 t23_2 t22_2 t21_2 t20_2 t19_2 t18_2 t17_2 w15 →
      Run Tryz.prog (sOp (.load 47 (.const t19_2)) 47) w15 fun t20_3 w16 =>
      A9 (setD D10 3) t26_2 t25_2 t24_2 t23_2 t22_2 t21_2 t20_3 t19_2 t18_2 t17_2 w16) ∧
    (∀ D10 : Nat → Bool, D10 4 = false → ∀ t26_2 t25_2 t24_2 t23_2 t22_2 t21_2 t20_2 t19_2 t18_2 t17_2 : Value, ∀ w17 : World, A9 D10 t26_2 t25_2 t24_2 t23_2 t22_2 t21_2 t20_2 t19_2 t18_2 t17_2 w17 →
      A9 (setD D10 4) t26_2 t25_2 t24_2 t23_2 t22_2 p1 t20_2 t19_2 t18_2 t17_2 w17) ∧
    (∀ D10 : Nat → Bool, D10 5 = false → ∀ t26_2 t25_2 t24_2 t23_2 t22_2 t21_2 t20_2 t19_2 t18_2 t17_2 : Value, ∀ w18 : World, A9 D10 t26_2 t25_2 t24_2 t23_2 t22_2 t21_2 t20_2 t19_2 t18_2 t17_2 w18 →
      A9 (setD D10 5) t26_2 t25_2 t24_2 t23_2 t5 t21_2 t20_2 t19_2 t18_2 t17_2 w18) ∧
    (∀ D10 : Nat → Bool, D10 6 = false → D10 4 = true → D10 5 = true → ∀ t26_2 t25_2 t24_2 t23_2 t22_2 t21_2 t20_2 t19_2 t18_2 t17_2 : Value, ∀ w19 : World, A9 D10 t26_2 t25_2 t24_2 t23_2 t22_2 t21_2 t20_2 t19_2 t18_2 t17_2 w19 →
      Run Tryz.prog (sOp (.indexAddr 29 (.const t21_2) (.const t22_2)) 0) w19 fun t23_3 w20 =>
      A9 (setD D10 6) t26_2 t25_2 t24_2 t23_3 t22_2 t21_2 t20_2 t19_2 t18_2 t17_2 w20) ∧
    (∀ D10 : Nat → Bool, D10 7 = false → D10 6 = true → ∀ t26_2 t25_2 t24_2 t23_2 t22_2 t21_2 t20_2 t19_2 t18_2 t17_2 : Value, ∀ w21 : World, A9 D10 t26_2 t25_2 t24_2 t23_2 t22_2 t21_2 t20_2 t19_2 t18_2 t17_2 w21 →
      Run Tryz.prog (sOp (.load 47 (.const t23_2)) 47) w21 fun t24_3 w22 =>
      A9 (setD D10 7) t26_2 t25_2 t24_3 t23_2 t22_2 t21_2 t20_2 t19_2 t18_2 t17_2 w22) ∧
    (∀ D10 : Nat → Bool, D10 8 = false → D10 3 = true → D10 7 = true → ∀ t26_2 t25_2 t24_2 t23_2 t22_2 t21_2 t20_2 t19_2 t18_2 t17_2 : Value, ∀ w23 : World, A9 D10 t26_2 t25_2 t24_2 t23_2 t22_2 t21_2 t20_2 t19_2 t18_2 t17_2 w23 →
      Run Tryz.prog (sCall (Value.func (.func 27) #[] #[]) [t20_2, t24_2]) w23 fun t25_3 w24 =>
      A9 (setD D10 8) t26_2 t25_3 t24_2 t23_2 t22_2 t21_2 t20_2 t19_2 t18_2 t17_2 w24) ∧
    (∀ D10 : Nat → Bool, D10 9 = false → D10 8 = true → ∀ t26_2 t25_2 t24_2 t23_2 t22_2 t21_2 t20_2 t19_2 t18_2 t17_2 : Value, ∀ w25 : World, A9 D10 t26_2 t25_2 t24_2 t23_2 t22_2 t21_2 t20_2 t19_2 t18_2 t17_2 w25 →
      Run Tryz.prog (sOp (.unOp .not 4 (.const t25_2)) 4) w25 fun t26_3 w26 =>
      A9 (setD D10 9) t26_3 t25_2 t24_2 t23_2 t22_2 t21_2 t20_2 t19_2 t18_2 t17_2 w26) ∧
    True) ∧
  ∀ D10 : Nat → Bool, D10 9 = true → D10 8 = true → D10 7 = true → D10 6 = true → D10 5 = true → D10 4 = true → D10 3 = true → D10 2 = true → D10 1 = true → D10 0 = true → ∀ t26_2 t25_2 t24_2 t23_2 t22_2 t21_2 t20_2 t19_2 t18_2 t17_2 : Value, ∀ w27 : World, A9 D10 t26_2 t25_2 t24_2 t23_2 t22_2 t21_2 t20_2 t19_2 t18_2 t17_2 w27 →
  CondV t26_2 (
    R (.returned (Value.bool false)) w27) (
    Run Tryz.prog (sBin .add 3 false true t5 (Value.int .i64 1)) w27 fun t16_2 w28 =>
  I4 t16_2 w28 ∧ m5 t16_2 w28 < m5 t5 w6))) (
    R (.returned (Value.bool true)) w8)))
theorem calls_l_eqTermS {p0 p1 : Value} {w : World} {R : Ending → World → Prop} (h : sh_l_eqTermS p0 p1 w R) : Calls Tryz.prog 13 #[p0, p1] w R :=
  calls_sh (.seq none .leaf (.seq none .leaf (.seq none (.seq none .leaf (.one (.loop [5] .leaf))) .leaf))) [p0, p1] mixed Tryz.func13 (by kernel_rfl) (by kernel_rfl) h


/- loop.example/prologserver/laws.markClauseS : function 14 -/
def sh_l_markClauseS (p0 p1 : Value) (w : World) (R : Ending → World → Prop) : Prop :=
  (∃ (I1 : Value → Value → World → Prop) (m2 : Value → Value → World → Nat), I1 (Value.int .i64 0) p1 w ∧
  ∀ t5 _ _ _ _ _ _ _ _ _ _ _ _ _ _ _ _ _ _ _ _ _ _ _ _ _ _ _ _ _ _ _ _ _ _ t1 _ _ _ _ _ _ _ _ _ _ _ _ : Value, ∀ w3 : World, I1 t5 t1 w3 →
  Run Tryz.prog (sBuiltin .len #[25] 3 [false] [p0]) w3 fun t8_2 w4 =>
  Run Tryz.prog (sBin .lss 3 false false t5 t8_2) w4 fun t9_2 w5 =>
  CondV t9_2 (
    Run Tryz.prog (sOp (.indexAddr 25 (.const p0) (.const t5)) 0) w5 fun t15_2 w6 =>
  Run Tryz.prog (sOp (.fieldAddr 49 (.const t15_2) 0) 0) w6 fun t16_2 w7 =>
  Run Tryz.prog (sOp (.fieldAddr 47 (.const t16_2) 0) 0) w7 fun t17_2 w8 =>
  Run Tryz.prog (sOp (.store 3 (.const t17_2) (.const t1)) 0) w8 fun _u w9 =>
  Run Tryz.prog (sBin .add 3 false true t1 (Value.int .i64 1)) w9 fun t19_2 w10 =>
  Run Tryz.prog (sOp (.indexAddr 25 (.const p0) (.const t5)) 0) w10 fun t23_2 w11 =>
  Run Tryz.prog (sOp (.fieldAddr 49 (.const t23_2) 0) 0) w11 fun t24_2 w12 =>
  Run Tryz.prog (sOp (.fieldAddr 47 (.const t24_2) 1) 0) w12 fun t25_2 w13 =>
  Run Tryz.prog (sOp (.store 3 (.const t25_2) (.const t19_2)) 0) w13 fun _u w14 =>
  Run Tryz.prog (sBin .add 3 false true t19_2 (Value.int .i64 1)) w14 fun t27_2 w15 =>
  Run Tryz.prog (sCall (Value.func (.func 28) #[] #[]) [t27_2]) w15 fun t31_2 w16 =>
  Run Tryz.prog (sOp (.indexAddr 25 (.const p0) (.const t5)) 0) w16 fun t32_2 w17 =>
  Run Tryz.prog (sOp (.fieldAddr 49 (.const t32_2) 0) 0) w17 fun t33_2 w18 =>
  Run Tryz.prog (sOp (.fieldAddr 47 (.const t33_2) 2) 0) w18 fun t34_2 w19 =>
  Run Tryz.prog (sOp (.store 9 (.const t34_2) (.const t31_2)) 0) w19 fun _ w20 =>
  Run Tryz.prog (sBin .add 3 false true t27_2 (Value.int .i64 1)) w20 fun t36_2 w21 =>
  Run Tryz.prog (sOp (.indexAddr 25 (.const p0) (.const t5)) 0) w21 fun t39_2 w22 =>
  Run Tryz.prog (sOp (.fieldAddr 49 (.const t39_2) 0) 0) w22 fun t40_2 w23 =>
  Run Tryz.prog (sOp (.fieldAddr 47 (.const t40_2) 3) 0) w23 fun t41_2 w24 =>
  Run Tryz.prog (sOp (.load 29 (.const t41_2)) 29) w24 fun t42_2 w25 =>
  Run Tryz.prog (sCall (Value.func (.func 15) #[] #[]) [t42_2, t36_2]) w25 fun t44_2 w26 =>
  Run Tryz.prog (sOp (.indexAddr 25 (.const p0) (.const t5)) 0) w26 fun t47_2 w27 =>
  Run Tryz.prog (sOp (.fieldAddr 49 (.const t47_2) 1) 0) w27 fun t48_2 w28 =>
  Run Tryz.prog (sOp (.load 29 (.const t48_2)) 29) w28 fun t49_2 w29 =>
  Run Tryz.prog (sCall (Value.func (.func 15) #[] #[]) [t49_2, t44_2]) w29 fun t51_2 w30 =>
  Run Tryz.prog (sBin .add 3 false true t5 (Value.int .i64 1)) w30 fun t11_2 w31 =>
  I1 t11_2 t51_2 w31 ∧ m2 t11_2 t51_2 w31 < m2 t5 t1 w3) (
    R (.returned t1) w5))
theorem calls_l_markClauseS {p0 p1 : Value} {w : World} {R : Ending → World → Prop} (h : sh_l_markClauseS p0 p1 w R) : Calls Tryz.prog 14 #[p0, p1] w R :=
  calls_sh (.seq none .leaf (.seq none (.seq none .leaf (.one (.loop [5, 1] .leaf))) .leaf)) [p0, p1] mixed Tryz.func14 (by kernel_rfl) (by kernel_rfl) h


/- loop.example/prologserver/laws.markTermS : function 15 -/
def sh_l_markTermS (p0 p1 : Value) (w : World) (R : Ending → World → Prop) : Prop :=
  (∃ (I1 : Value → Value → World → Prop) (m2 : Value → Value → World → Nat), I1 (Value.int .i64 0) p1 w ∧
  ∀ t5 _ _ _ _ _ _ _ _ _ _ _ _ _ _ _ _ _ _ _ _ _ _ _ _ t1 _ _ _ _ _ _ _ _ _ _ _ : Value, ∀ w3 : World, I1 t5 t1 w3 →
  Run Tryz.prog (sBuiltin .len #[29] 3 [false] [p0]) w3 fun t8_2 w4 =>
  Run Tryz.prog (sBin .lss 3 false false t5 t8_2) w4 fun t9_2 w5 =>
  CondV t9_2 (
    Run Tryz.prog (sOp (.indexAddr 29 (.const p0) (.const t5)) 0) w5 fun t15_2 w6 =>
  Run Tryz.prog (sOp (.fieldAddr 47 (.const t15_2) 0) 0) w6 fun t16_2 w7 =>
  Run Tryz.prog (sOp (.store 3 (.const t16_2) (.const t1)) 0) w7 fun _u w8 =>
  Run Tryz.prog (sBin .add 3 false true t1 (Value.int .i64 1)) w8 fun t18_2 w9 =>
  Run Tryz.prog (sOp (.indexAddr 29 (.const p0) (.const t5)) 0) w9 fun t22_2 w10 =>
  Run Tryz.prog (sOp (.fieldAddr 47 (.const t22_2) 1) 0) w10 fun t23_2 w11 =>
  Run Tryz.prog (sOp (.store 3 (.const t23_2) (.const t18_2)) 0) w11 fun _u w12 =>
  Run Tryz.prog (sBin .add 3 false true t18_2 (Value.int .i64 1)) w12 fun t25_2 w13 =>
  Run Tryz.prog (sCall (Value.func (.func 28) #[] #[]) [t25_2]) w13 fun t29_2 w14 =>
  Run Tryz.prog (sOp (.indexAddr 29 (.const p0) (.const t5)) 0) w14 fun t30_2 w15 =>
  Run Tryz.prog (sOp (.fieldAddr 47 (.const t30_2) 2) 0) w15 fun t31_2 w16 =>
  Run Tryz.prog (sOp (.store 9 (.const t31_2) (.const t29_2)) 0) w16 fun _ w17 =>
  Run Tryz.prog (sBin .add 3 false true t25_2 (Value.int .i64 1)) w17 fun t33_2 w18 =>
  Run Tryz.prog (sOp (.indexAddr 29 (.const p0) (.const t5)) 0) w18 fun t36_2 w19 =>
  Run Tryz.prog (sOp (.fieldAddr 47 (.const t36_2) 3) 0) w19 fun t37_2 w20 =>
  Run Tryz.prog (sOp (.load 29 (.const t37_2)) 29) w20 fun t38_2 w21 =>
  Run Tryz.prog (sCall (Value.func (.func 15) #[] #[]) [t38_2, t33_2]) w21 fun t40_2 w22 =>
  Run Tryz.prog (sBin .add 3 false true t5 (Value.int .i64 1)) w22 fun t11_2 w23 =>
  I1 t11_2 t40_2 w23 ∧ m2 t11_2 t40_2 w23 < m2 t5 t1 w3) (
    R (.returned t1) w5))
theorem calls_l_markTermS {p0 p1 : Value} {w : World} {R : Ending → World → Prop} (h : sh_l_markTermS p0 p1 w R) : Calls Tryz.prog 15 #[p0, p1] w R :=
  calls_sh (.seq none .leaf (.seq none (.seq none .leaf (.one (.loop [5, 1] .leaf))) .leaf)) [p0, p1] mixed Tryz.func15 (by kernel_rfl) (by kernel_rfl) h


/- loop.example/prologserver/laws.heldTermS : function 16 -/
def sh_l_heldTermS (p0 p1 : Value) (w : World) (R : Ending → World → Prop) : Prop :=
  (∃ (I1 : Value → Value → World → Prop) (m2 : Value → Value → World → Nat), I1 (Value.int .i64 0) p1 w ∧
  ∀ t5 _ _ _ _ _ _ _ _ _ _ _ _ _ t37 t36 t35 t34 t33 t32 t31 t30 _ _ _ _ _ _ _ _ _ t1 _ _ _ _ _ _ _ _ _ _ _ _ _ _ : Value, ∀ w3 : World, I1 t5 t1 w3 →
  Run Tryz.prog (sBuiltin .len #[29] 3 [false] [p0]) w3 fun t8_2 w4 =>
  Run Tryz.prog (sBin .lss 3 false false t5 t8_2) w4 fun t9_2 w5 =>
  CondV t9_2 (
    Run Tryz.prog (sOp (.indexAddr 29 (.const p0) (.const t5)) 0) w5 fun t14_2 w6 =>
  Run Tryz.prog (sOp (.fieldAddr 47 (.const t14_2) 0) 0) w6 fun t15_2 w7 =>
  Run Tryz.prog (sOp (.load 3 (.const t15_2)) 3) w7 fun t16_2 w8 =>
  Run Tryz.prog (sBin .neq 3 false false t16_2 t1) w8 fun t18_2 w9 =>
  CondV t18_2 (
    R (.returned (Value.int .i64 (-1))) w9) (
    Run Tryz.prog (sBin .add 3 false true t1 (Value.int .i64 1)) w9 fun t20_2 w10 =>
  Run Tryz.prog (sOp (.indexAddr 29 (.const p0) (.const t5)) 0) w10 fun t23_2 w11 =>
  Run Tryz.prog (sOp (.fieldAddr 47 (.const t23_2) 1) 0) w11 fun t24_2 w12 =>
  Run Tryz.prog (sOp (.load 3 (.const t24_2)) 3) w12 fun t25_2 w13 =>
  Run Tryz.prog (sBin .neq 3 false false t25_2 t20_2) w13 fun t27_2 w14 =>
  CondV t27_2 (
    R (.returned (Value.int .i64 (-1))) w14) (
    Run Tryz.prog (sBin .add 3 false true t20_2 (Value.int .i64 1)) w14 fun t29_2 w15 =>
  (∃ A16 : (Nat → Bool) → Value → Value → Value → Value → Value → Value → Value → Value → World → Prop, A16 (fun _ => false) t37 t36 t35 t34 t33 t32 t31 t30 { w15 with drawn := w15.drawn + 1 } ∧ (
    (∀ D17 : Nat → Bool, D17 0 = false → ∀ t37_2 t36_2 t35_2 t34_2 t33_2 t32_2 t31_2 t30_2 : Value, ∀ w18 : World, A16 D17 t37_2 t36_2 t35_2 t34_2 t33_2 t32_2 t31_2 t30_2 w18 →
      A16 (setD D17 0) t37_2 t36_2 t35_2 t34_2 t33_2 t32_2 t31_2 p0 w18) ∧
    (∀ D17 : Nat → Bool, D17 1 = false → ∀ t37_2 t36_2 t35_2 t34_2 t33_2 t32_2 t31_2 t30_2 : Value, ∀ w19 : World, A16 D17 t37_2 t36_2 t35_2 t34_2 t33_2 t32_2 t31_2 t30_2 w19 →
      A16 (setD D17 1) t37_2 t36_2 t35_2 t34_2 t33_2 t32_2 t5 t30_2 w19) ∧
    (∀ D17 : Nat → Bool, D17 2 = false → D17 0 = true → D17 1 = true → ∀ t37_2 t36_2 t35_2 t34_2 t33_2 t32_2 t31_2 t30_2 : Value, ∀ w20 : World, A16 D17 t37_2 t36_2 t35_2 t34_2 t33_2 t32_2 t31_2 t30_2 w20 →
      Run Tryz.prog (sOp (.indexAddr 29 (.const t30_2) (.const t31_2)) 0) w20 fun t32_3 w21 =>
      A16 (setD D17 2) t37_2 t36_2 t35_2 t34_2 t33_2 t32_3 t31_2 t30_2 w21) ∧
    (∀ D17 : Nat → Bool, D17 3 = false → D17 2 = true → ∀ t37_2 t36_2 t35_2 t34_2 t33_2 t32_2 t31_2 t30_2 : Value, ∀ w22 : World, A16 D17 t37_2 t36_2 t35_2 t34_2 t33_2 t32_2 t31_2 t30_2 w22 →
      Run Tryz.prog (sOp (.fieldAddr 47 (.const t32_2) 2) 0) w22 fun t33_3 w23 =>
      A16 (setD D17 3) t37_2 t36_2 t35_2 t34_2 t33_3 t32_2 t31_2 t30_2 w23) ∧
    (∀ D17 : Nat → Bool, D17 4 = false → D17 3 = true → ∀ t37_2 t36_2 t35_2 t34_2 t33_2 t32_2 t31_2 t30_2 : Value, ∀ w24 : World, A16 D17 t37_2 t36_2 t35_2 t34_2 t33_2 t32_2 t31_2 t30_2 w24 →
      Run Tryz.prog (sOp (.load 9 (.const t33_2)) 9) w24 fun t34_3 w25 =>
      A16 (setD D17 4) t37_2 t36_2 t35_2 t34_3 t33_2 t32_2 t31_2 t30_2 w25) ∧
    (∀ D17 : Nat → Bool, D17 5 = false → ∀ t37_2 t36_2 t35_2 t34_2 t33_2 t32_2 t31_2 t30_2 : Value, ∀ w26 : World, A16 D17 t37_2 t36_2 t35_2 t34_2 t33_2 t32_2 t31_2 t30_2 w26 →
      A16 (setD D17 5) t37_2 t36_2 t29_2 t34_2 t33_2 t32_2 t31_2 t30_2 w26) ∧
    (∀ D17 : Nat → Bool, D17 6 = false → D17 5 = true → ∀ t37_2 t36_2 t35_2 t34_2 t33_2 t32_2 t31_2 t30_2 : Value, ∀ w27 : World, A16 D17 t37_2 t36_2 t35_2 t34_2 t33_2 t32_2 t31_2 t30_2 w27 →
      Run Tryz.prog (sCall (Value.func (.func 28) #[] #[]) [t35_2]) w27 fun t36_3 w28 =>
      A16 (setD D17 6) t37_2 t36_3 t35_2 t34_2 t33_2 t32_2 t31_2 t30_2 w28) ∧
    (∀ D17 : Nat → Bool, D17 7 = false → D17 4 = true → D17 6 = true → ∀ t37_2 t36_2 t35_2 t34_2 t33_2 t32_2 t31_2 t30_2 : Value, ∀ w29 : World, A16 D17 t37_2 t36_2 t35_2 t34_2 t33_2 t32_2 t31_2 t30_2 w29 →
      Run Tryz.prog (sBin .neq 9 false false t34_2 t36_2) w29 fun t37_3 w30 =>
      A16 (setD D17 7) t37_3 t36_2 t35_2 t34_2 t33_2 t32_2 t31_2 t30_2 w30) ∧
    True) ∧
  ∀ D17 : Nat → Bool, D17 7 = true → D17 6 = true → D17 5 = true → D17 4 = true → D17 3 = true → D17 2 = true → D17 1 = true → D17 0 = true → ∀ t37_2 t36_2 t35_2 t34_2 t33_2 t32_2 t31_2 t30_2 : Value, ∀ w31 : World, A16 D17 t37_2 t36_2 t35_2 t34_2 t33_2 t32_2 t31_2 t30_2 w31 →
  CondV t37_2 (
    R (.returned (Value.int .i64 (-1))) w31) (
    Run Tryz.prog (sBin .add 3 false true t29_2 (Value.int .i64 1)) w31 fun t39_2 w32 =>
  Run Tryz.prog (sOp (.indexAddr 29 (.const p0) (.const t5)) 0) w32 fun t42_2 w33 =>
  Run Tryz.prog (sOp (.fieldAddr 47 (.const t42_2) 3) 0) w33 fun t43_2 w34 =>
  Run Tryz.prog (sOp (.load 29 (.const t43_2)) 29) w34 fun t44_2 w35 =>
  Run Tryz.prog (sCall (Value.func (.func 16) #[] #[]) [t44_2, t39_2]) w35 fun t46_2 w36 =>
  Run Tryz.prog (sBin .lss 3 false true t46_2 (Value.int .i64 0)) w36 fun t48_2 w37 =>
  CondV t48_2 (
    R (.returned (Value.int .i64 (-1))) w37) (
    Run Tryz.prog (sBin .add 3 false true t5 (Value.int .i64 1)) w37 fun t11_2 w38 =>
  I1 t11_2 t46_2 w38 ∧ m2 t11_2 t46_2 w38 < m2 t5 t1 w3)))))) (
    R (.returned t1) w5))
theorem calls_l_heldTermS {p0 p1 : Value} {w : World} {R : Ending → World → Prop} (h : sh_l_heldTermS p0 p1 w R) : Calls Tryz.prog 16 #[p0, p1] w R :=
  calls_sh (.seq none .leaf (.seq none (.seq none .leaf (.one (.loop [5, 1] .leaf))) .leaf)) [p0, p1] mixed Tryz.func16 (by kernel_rfl) (by kernel_rfl) h


/- loop.example/prologserver/spec.LeastModel : function 17 -/
def sh_s_LeastModel (p0 : Value) (w : World) (R : Ending → World → Prop) : Prop :=
  Run Tryz.prog (sCall (Value.func (.func 11) #[] #[]) [p0, (Value.int .i64 61)]) w fun t5 w1 =>
  Run Tryz.prog (sOp (.extract (.const t5) 0) 29) w1 fun t6 w2 =>
  Run Tryz.prog (sOp (.extract (.const t5) 1) 4) w2 fun t7 w3 =>
  R (.returned (.tuple #[t6, t7])) w3
theorem calls_s_LeastModel {p0 : Value} {w : World} {R : Ending → World → Prop} (h : sh_s_LeastModel p0 w R) : Calls Tryz.prog 17 #[p0] w R :=
  calls_sh .leaf [p0] mixed Tryz.func17 (by kernel_rfl) (by kernel_rfl) h


/- loop.example/prologserver/impl.LeastModel : function 18 -/
def sh_i_LeastModel (p0 : Value) (w : World) (R : Ending → World → Prop) : Prop :=
  Run Tryz.prog (sCall (Value.func (.func 12) #[] #[]) [p0, (Value.int .i64 61)]) w fun t5 w1 =>
  Run Tryz.prog (sOp (.extract (.const t5) 0) 29) w1 fun t6 w2 =>
  Run Tryz.prog (sOp (.extract (.const t5) 1) 4) w2 fun t7 w3 =>
  R (.returned (.tuple #[t6, t7])) w3
theorem calls_i_LeastModel {p0 : Value} {w : World} {R : Ending → World → Prop} (h : sh_i_LeastModel p0 w R) : Calls Tryz.prog 18 #[p0] w R :=
  calls_sh .leaf [p0] mixed Tryz.func18 (by kernel_rfl) (by kernel_rfl) h


/- loop.example/prologserver/laws.szClause : function 19 -/
def sh_l_szClause (p0 p1 : Value) (w : World) (R : Ending → World → Prop) : Prop :=
  Run Tryz.prog (sOp (.box 42 (.const p0)) 0) w fun t2 w1 =>
  Run Tryz.prog (sOp (.fieldAddr 42 (.const t2) 0) 0) w1 fun t5 w2 =>
  Run Tryz.prog (sOp (.load 40 (.const t5)) 40) w2 fun t6 w3 =>
  Run Tryz.prog (sCall (Value.func (.func 29) #[] #[]) [t6, p1]) w3 fun t8 w4 =>
  Run Tryz.prog (sBin .lss 3 false true t8 (Value.int .i64 0)) w4 fun t10 w5 =>
  CondV t10 (
    R (.returned (Value.int .i64 (-1))) w5) (
    Run Tryz.prog (sOp (.fieldAddr 42 (.const t2) 1) 0) w5 fun t11 w6 =>
  Run Tryz.prog (sOp (.load 38 (.const t11)) 38) w6 fun t12 w7 =>
  Run Tryz.prog (sCall (Value.func (.func 30) #[] #[]) [t12, t8]) w7 fun t14 w8 =>
  Run Tryz.prog (sBin .lss 3 false true t14 (Value.int .i64 0)) w8 fun t16 w9 =>
  CondV t16 (
    R (.returned (Value.int .i64 (-1))) w9) (
    R (.returned t14) w9))
theorem calls_l_szClause {p0 p1 : Value} {w : World} {R : Ending → World → Prop} (h : sh_l_szClause p0 p1 w R) : Calls Tryz.prog 19 #[p0, p1] w R :=
  calls_sh .leaf [p0, p1] mixed Tryz.func19 (by kernel_rfl) (by kernel_rfl) h


/- loop.example/prologserver/spec.FlatProgram : function 20 -/
def sh_s_FlatProgram (p0 : Value) (w : World) (R : Ending → World → Prop) : Prop :=
  (∃ (I1 : Value → World → Prop) (m2 : Value → World → Nat), I1 (Value.int .i64 0) w ∧
  ∀ t3 _ _ _ _ _ _ _ _ _ _ _ _ _ _ _ _ _ : Value, ∀ w3 : World, I1 t3 w3 →
  (∃ J4 : Value → World → Prop, (
    Run Tryz.prog (sBuiltin .len #[25] 3 [false] [p0]) w3 fun t6_2 w5 =>
    Run Tryz.prog (sBin .lss 3 false false t3 t6_2) w5 fun t7_2 w6 =>
    GuardV t7_2 true (
      Run Tryz.prog (sCall (Value.func (.func 31) #[] #[]) [p0]) w6 fun t10_2 w7 =>
      Run Tryz.prog (sOp (.pick (.const t7_2) (.const t10_2) (.const (Value.bool false))) 4) w7 fun t11_2 w8 =>
      J4 t11_2 w8) (
      Run Tryz.prog (sOp (.pick (.const t7_2) (.const undef) (.const (Value.bool false))) 4) w6 fun t11_3 w9 =>
      J4 t11_3 w9)) ∧
  ∀ t11_4 _ _ _ _ _ _ _ : Value, ∀ w10 : World, J4 t11_4 w10 →
  CondV t11_4 (
    Run Tryz.prog (sOp (.indexAddr 25 (.const p0) (.const t3)) 0) w10 fun t16_2 w11 =>
  Run Tryz.prog (sOp (.load 49 (.const t16_2)) 49) w11 fun t17_2 w12 =>
  Run Tryz.prog (sCall (Value.func (.func 32) #[] #[]) [t17_2]) w12 fun t18_2 w13 =>
  Run Tryz.prog (sOp (.unOp .not 4 (.const t18_2)) 4) w13 fun t19_2 w14 =>
  CondV t19_2 (
    R (.returned (Value.bool false)) w14) (
    Run Tryz.prog (sBin .add 3 false true t3 (Value.int .i64 1)) w14 fun t13_2 w15 =>
  I1 t13_2 w15 ∧ m2 t13_2 w15 < m2 t3 w3)) (
    Run Tryz.prog (sCall (Value.func (.func 31) #[] #[]) [p0]) w10 fun t21 w16 =>
  R (.returned t21) w16)))
theorem calls_s_FlatProgram {p0 : Value} {w : World} {R : Ending → World → Prop} (h : sh_s_FlatProgram p0 w R) : Calls Tryz.prog 20 #[p0] w R :=
  calls_sh (.seq none .leaf (.seq none (.seq none .leaf (.one (.loop [3] (.seq none (.seq (some [11]) .leaf .leaf) .leaf)))) .leaf)) [p0] mixed Tryz.func20 (by kernel_rfl) (by kernel_rfl) h


/- loop.example/prologserver/spec.l16Stage : function 21 -/
def sh_s_l16Stage (p0 p1 : Value) (w : World) (R : Ending → World → Prop) : Prop :=
  Run Tryz.prog (sBuildSlice 29 0 []) w fun t9 w1 =>
  (∃ (I2 : Value → Value → World → Prop) (m3 : Value → Value → World → Nat), I2 (Value.int .i64 0) t9 w1 ∧
  ∀ t7 _ _ t6 _ _ _ _ _ _ _ _ _ _ _ _ _ _ _ _ _ _ _ _ _ _ : Value, ∀ w4 : World, I2 t7 t6 w4 →
  Run Tryz.prog (sBin .lss 3 false false t7 p1) w4 fun t12_2 w5 =>
  CondV t12_2 (
    Run Tryz.prog (sCall (Value.func (.func 33) #[] #[]) [p0, t6]) w5 fun t17_2 w6 =>
  (∃ J7 : Value → World → Prop, (
    Run Tryz.prog (sBuiltin .len #[29] 3 [false] [t17_2]) w6 fun t19_2 w8 =>
    Run Tryz.prog (sBuiltin .len #[29] 3 [false] [t6]) w8 fun t21_2 w9 =>
    Run Tryz.prog (sBin .eql 3 false false t19_2 t21_2) w9 fun t22_2 w10 =>
    GuardV t22_2 false (
      Run Tryz.prog (sBuiltin .len #[29] 3 [false] [t6]) w10 fun t25_2 w11 =>
      Run Tryz.prog (sBin .gtr 3 false true t25_2 (Value.int .i64 60)) w11 fun t26_2 w12 =>
      Run Tryz.prog (sOp (.pick (.const t22_2) (.const (Value.bool true)) (.const t26_2)) 4) w12 fun t27_2 w13 =>
      J7 t27_2 w13) (
      Run Tryz.prog (sOp (.pick (.const t22_2) (.const (Value.bool true)) (.const undef)) 4) w10 fun t27_3 w14 =>
      J7 t27_3 w14)) ∧
  ∀ t27_4 _ _ _ _ _ _ _ _ _ : Value, ∀ w15 : World, J7 t27_4 w15 →
  CondV t27_4 (
    R (.returned (.tuple #[t6, t7])) w15) (
    Run Tryz.prog (sBin .add 3 false true t7 (Value.int .i64 1)) w15 fun t14_2 w16 =>
  I2 t14_2 t17_2 w16 ∧ m3 t14_2 t17_2 w16 < m3 t7 t6 w4))) (
    R (.returned (.tuple #[t6, p1])) w5))
theorem calls_s_l16Stage {p0 p1 : Value} {w : World} {R : Ending → World → Prop} (h : sh_s_l16Stage p0 p1 w R) : Calls Tryz.prog 21 #[p0, p1] w R :=
  calls_sh (.seq none .leaf (.seq none .leaf (.seq none (.seq none .leaf (.one (.loop [7, 6] (.seq none .leaf (.seq none (.one (.seq none .leaf (.seq none (.seq (some [27]) .leaf .leaf) .leaf))) .leaf))))) .leaf))) [p0, p1] mixed Tryz.func21 (by kernel_rfl) (by kernel_rfl) h


/- loop.example/prologserver/laws.toClause : function 22 -/
def sh_l_toClause (p0 : Value) (w : World) (R : Ending → World → Prop) : Prop :=
  Run Tryz.prog (sOp (.box 42 (.const p0)) 0) w fun t1 w1 =>
  Run Tryz.prog (sOp (.alloc 49) 0) w1 fun t2 w2 =>
  Run Tryz.prog (sOp (.alloc 49) 0) w2 fun t3 w3 =>
  Run Tryz.prog (sOp (.fieldAddr 42 (.const t1) 0) 0) w3 fun t4 w4 =>
  Run Tryz.prog (sOp (.load 40 (.const t4)) 40) w4 fun t5 w5 =>
  Run Tryz.prog (sCall (Value.func (.func 34) #[] #[]) [t5]) w5 fun t6 w6 =>
  Run Tryz.prog (sOp (.fieldAddr 49 (.const t3) 0) 0) w6 fun t7 w7 =>
  Run Tryz.prog (sOp (.store 47 (.const t7) (.const t6)) 0) w7 fun _u w8 =>
  Run Tryz.prog (sOp (.fieldAddr 42 (.const t1) 1) 0) w8 fun t8 w9 =>
  Run Tryz.prog (sOp (.load 38 (.const t8)) 38) w9 fun t9 w10 =>
  Run Tryz.prog (sCall (Value.func (.func 35) #[] #[]) [t9]) w10 fun t10 w11 =>
  Run Tryz.prog (sOp (.fieldAddr 49 (.const t3) 1) 0) w11 fun t11 w12 =>
  Run Tryz.prog (sOp (.store 29 (.const t11) (.const t10)) 0) w12 fun _u w13 =>
  Run Tryz.prog (sOp (.load 49 (.const t3)) 49) w13 fun t12 w14 =>
  Run Tryz.prog (sOp (.store 49 (.const t2) (.const t12)) 0) w14 fun _ w15 =>
  (LoadV Tryz.prog 49 t2 w15 fun r0 => R (.returned r0) w15)
theorem calls_l_toClause {p0 : Value} {w : World} {R : Ending → World → Prop} (h : sh_l_toClause p0 w R) : Calls Tryz.prog 22 #[p0] w R :=
  calls_sh .leaf [p0] mixed Tryz.func22 (by kernel_rfl) (by kernel_rfl) h


/- loop.example/prologserver/impl.stages : function 23 -/
def sh_i_stages (p0 p1 : Value) (w : World) (R : Ending → World → Prop) : Prop :=
  Run Tryz.prog (sCall (Value.func (.func 36) #[] #[]) [p0]) w fun t12 w1 =>
  Run Tryz.prog (sOp (.unOp .not 4 (.const t12)) 4) w1 fun t13 w2 =>
  CondV t13 (
    R (.returned (.tuple #[(Value.slice none 0 0), (Value.int .i64 0), (Value.bool false)])) w2) (
    (∃ J3 : Value → Value → World → Prop, (
    (∃ (I4 : Value → Value → World → Prop) (m5 : Value → Value → World → Nat), I4 (Value.int .i64 0) (Value.slice none 0 0) w2 ∧
    ∀ t8 _ _ t7 _ _ _ _ _ _ _ _ _ _ _ _ _ _ _ _ _ _ _ _ _ _ : Value, ∀ w6 : World, I4 t8 t7 w6 →
    Run Tryz.prog (sBin .lss 3 false false t8 p1) w6 fun t16_2 w7 =>
    CondV t16_2 (
      Run Tryz.prog (sCall (Value.func (.func 37) #[] #[]) [p0, t7]) w7 fun t20_2 w8 =>
    Run Tryz.prog (sOp (.extract (.const t20_2) 0) 29) w8 fun t21_2 w9 =>
    Run Tryz.prog (sOp (.extract (.const t20_2) 1) 4) w9 fun t22_2 w10 =>
    Run Tryz.prog (sOp (.unOp .not 4 (.const t22_2)) 4) w10 fun t24_2 w11 =>
    CondV t24_2 (
      R (.returned (.tuple #[(Value.slice none 0 0), (Value.int .i64 0), (Value.bool false)])) w11) (
      Run Tryz.prog (sBuiltin .len #[29] 3 [false] [t21_2]) w11 fun t26_2 w12 =>
    Run Tryz.prog (sBuiltin .len #[29] 3 [false] [t7]) w12 fun t28_2 w13 =>
    Run Tryz.prog (sBin .eql 3 false false t26_2 t28_2) w13 fun t29_2 w14 =>
    CondV t29_2 (
      J3 t8 t7 w14) (
      Run Tryz.prog (sBin .add 3 false true t8 (Value.int .i64 1)) w14 fun t32_2 w15 =>
    I4 t32_2 t21_2 w15 ∧ m5 t32_2 t21_2 w15 < m5 t8 t7 w6))) (
      J3 t8 t7 w7))) ∧
  ∀ t8_2 _ _ t7_2 _ _ _ _ _ _ _ _ _ _ _ _ _ _ _ _ _ _ _ _ _ _ : Value, ∀ w16 : World, J3 t8_2 t7_2 w16 →
  R (.returned (.tuple #[t7_2, t8_2, (Value.bool true)])) w16))
theorem calls_i_stages {p0 p1 : Value} {w : World} {R : Ending → World → Prop} (h : sh_i_stages p0 p1 w R) : Calls Tryz.prog 23 #[p0, p1] w R :=
  calls_sh (.seq none .leaf (.seq none .leaf (.seq none .leaf (.seq none .leaf (.seq (some [8, 7]) (.one (.loop [8, 7] .leaf)) .leaf))))) [p0, p1] mixed Tryz.func23 (by kernel_rfl) (by kernel_rfl) h


/- loop.example/prologserver/laws.eqClause : function 24 -/
def sh_l_eqClause (p0 p1 : Value) (w : World) (R : Ending → World → Prop) : Prop :=
  Run Tryz.prog (sOp (.box 49 (.const p0)) 0) w fun t2 w1 =>
  Run Tryz.prog (sOp (.box 49 (.const p1)) 0) w1 fun t3 w2 =>
  Run Tryz.prog (sOp (.fieldAddr 49 (.const t2) 0) 0) w2 fun t5 w3 =>
  Run Tryz.prog (sOp (.load 47 (.const t5)) 47) w3 fun t6 w4 =>
  Run Tryz.prog (sOp (.fieldAddr 49 (.const t3) 0) 0) w4 fun t7 w5 =>
  Run Tryz.prog (sOp (.load 47 (.const t7)) 47) w5 fun t8 w6 =>
  Run Tryz.prog (sCall (Value.func (.func 27) #[] #[]) [t6, t8]) w6 fun t9 w7 =>
  Run Tryz.prog (sOp (.unOp .not 4 (.const t9)) 4) w7 fun t10 w8 =>
  CondV t10 (
    R (.returned (Value.bool false)) w8) (
    Run Tryz.prog (sOp (.fieldAddr 49 (.const t2) 1) 0) w8 fun t11 w9 =>
  Run Tryz.prog (sOp (.load 29 (.const t11)) 29) w9 fun t12 w10 =>
  Run Tryz.prog (sOp (.fieldAddr 49 (.const t3) 1) 0) w10 fun t13 w11 =>
  Run Tryz.prog (sOp (.load 29 (.const t13)) 29) w11 fun t14 w12 =>
  Run Tryz.prog (sCall (Value.func (.func 13) #[] #[]) [t12, t14]) w12 fun t15 w13 =>
  Run Tryz.prog (sOp (.unOp .not 4 (.const t15)) 4) w13 fun t16 w14 =>
  CondV t16 (
    R (.returned (Value.bool false)) w14) (
    R (.returned (Value.bool true)) w14))
theorem calls_l_eqClause {p0 p1 : Value} {w : World} {R : Ending → World → Prop} (h : sh_l_eqClause p0 p1 w R) : Calls Tryz.prog 24 #[p0, p1] w R :=
  calls_sh .leaf [p0, p1] mixed Tryz.func24 (by kernel_rfl) (by kernel_rfl) h


/- loop.example/prologserver/spec.l16Copy : function 25 -/
def sh_s_l16Copy (p0 : Value) (w : World) (R : Ending → World → Prop) : Prop :=
  Run Tryz.prog (sBuildSlice 29 0 []) w fun t5 w1 =>
  (∃ (I2 : Value → Value → World → Prop) (m3 : Value → Value → World → Nat), I2 (Value.int .i64 0) t5 w1 ∧
  ∀ t4 _ _ t3 _ _ _ _ _ _ _ _ _ _ _ _ : Value, ∀ w4 : World, I2 t4 t3 w4 →
  Run Tryz.prog (sBuiltin .len #[29] 3 [false] [p0]) w4 fun t8_2 w5 =>
  Run Tryz.prog (sBin .lss 3 false false t4 t8_2) w5 fun t9_2 w6 =>
  CondV t9_2 (
    Run Tryz.prog (sOp (.indexAddr 29 (.const p0) (.const t4)) 0) w6 fun t15_2 w7 =>
  Run Tryz.prog (sOp (.load 47 (.const t15_2)) 47) w7 fun t16_2 w8 =>
  Run Tryz.prog (sCall (Value.func (.func 38) #[] #[]) [t16_2]) w8 fun t17_2 w9 =>
  Run Tryz.prog (sBuildSlice 29 1 [(0, t17_2)]) w9 fun t18_2 w10 =>
  Run Tryz.prog (sBuiltin .append #[29, 29] 29 [false, false] [t3, t18_2]) w10 fun t19_2 w11 =>
  Run Tryz.prog (sBin .add 3 false true t4 (Value.int .i64 1)) w11 fun t11_2 w12 =>
  I2 t11_2 t19_2 w12 ∧ m3 t11_2 t19_2 w12 < m3 t4 t3 w4) (
    R (.returned t3) w6))
theorem calls_s_l16Copy {p0 : Value} {w : World} {R : Ending → World → Prop} (h : sh_s_l16Copy p0 w R) : Calls Tryz.prog 25 #[p0] w R :=
  calls_sh (.seq none .leaf (.seq none .leaf (.seq none (.seq none .leaf (.one (.loop [4, 3] .leaf))) .leaf))) [p0] mixed Tryz.func25 (by kernel_rfl) (by kernel_rfl) h


/- loop.example/prologserver/impl.ownList : function 26 -/
def sh_i_ownList (p0 : Value) (w : World) (R : Ending → World → Prop) : Prop :=
  Run Tryz.prog (sBuiltin .len #[29] 3 [false] [p0]) w fun t7 w1 =>
  (∃ (I2 : Value → Value → World → Prop) (m3 : Value → Value → World → Nat), I2 (Value.int .i64 0) (Value.slice none 0 0) w1 ∧
  ∀ t8 _ t3 _ _ _ _ _ _ _ _ _ : Value, ∀ w4 : World, I2 t8 t3 w4 →
  Run Tryz.prog (sBin .lss 3 false false t8 t7) w4 fun t9_2 w5 =>
  CondV t9_2 (
    Run Tryz.prog (sOp (.indexAddr 29 (.const p0) (.const t8)) 0) w5 fun t10_2 w6 =>
  Run Tryz.prog (sOp (.load 47 (.const t10_2)) 47) w6 fun t11_2 w7 =>
  Run Tryz.prog (sOp (.alloc 47) 0) w7 fun t5_2 w8 =>
  Run Tryz.prog (sOp (.store 47 (.const t5_2) (.const t11_2)) 0) w8 fun _ w9 =>
  Run Tryz.prog (sOp (.load 47 (.const t5_2)) 47) w9 fun t13_2 w10 =>
  Run Tryz.prog (sCall (Value.func (.func 39) #[] #[]) [t13_2]) w10 fun t14_2 w11 =>
  Run Tryz.prog (sBuildSlice 29 1 [(0, t14_2)]) w11 fun t15_2 w12 =>
  Run Tryz.prog (sBuiltin .append #[29, 29] 29 [false, false] [t3, t15_2]) w12 fun t16_2 w13 =>
  Run Tryz.prog (sBin .add 3 false true t8 (Value.int .i64 1)) w13 fun t17_2 w14 =>
  I2 t17_2 t16_2 w14 ∧ m3 t17_2 t16_2 w14 < m3 t8 t3 w4) (
    R (.returned t3) w5))
theorem calls_i_ownList {p0 : Value} {w : World} {R : Ending → World → Prop} (h : sh_i_ownList p0 w R) : Calls Tryz.prog 26 #[p0] w R :=
  calls_sh (.seq none .leaf (.seq none .leaf (.seq none (.seq none .leaf (.one (.loop [8, 3] .leaf))) .leaf))) [p0] mixed Tryz.func26 (by kernel_rfl) (by kernel_rfl) h


/- loop.example/prologserver/laws.eqTerm : function 27 -/
def sh_l_eqTerm (p0 p1 : Value) (w : World) (R : Ending → World → Prop) : Prop :=
  Run Tryz.prog (sOp (.box 47 (.const p0)) 0) w fun t2 w1 =>
  Run Tryz.prog (sOp (.box 47 (.const p1)) 0) w1 fun t3 w2 =>
  Run Tryz.prog (sOp (.fieldAddr 47 (.const t2) 0) 0) w2 fun t5 w3 =>
  Run Tryz.prog (sOp (.load 3 (.const t5)) 3) w3 fun t6 w4 =>
  Run Tryz.prog (sOp (.fieldAddr 47 (.const t3) 0) 0) w4 fun t7 w5 =>
  Run Tryz.prog (sOp (.load 3 (.const t7)) 3) w5 fun t8 w6 =>
  Run Tryz.prog (sBin .neq 3 false false t6 t8) w6 fun t9 w7 =>
  CondV t9 (
    R (.returned (Value.bool false)) w7) (
    Run Tryz.prog (sOp (.fieldAddr 47 (.const t2) 1) 0) w7 fun t10 w8 =>
  Run Tryz.prog (sOp (.load 3 (.const t10)) 3) w8 fun t11 w9 =>
  Run Tryz.prog (sOp (.fieldAddr 47 (.const t3) 1) 0) w9 fun t12 w10 =>
  Run Tryz.prog (sOp (.load 3 (.const t12)) 3) w10 fun t13 w11 =>
  Run Tryz.prog (sBin .neq 3 false false t11 t13) w11 fun t14 w12 =>
  CondV t14 (
    R (.returned (Value.bool false)) w12) (
    Run Tryz.prog (sOp (.fieldAddr 47 (.const t2) 2) 0) w12 fun t15 w13 =>
  Run Tryz.prog (sOp (.load 9 (.const t15)) 9) w13 fun t16 w14 =>
  Run Tryz.prog (sOp (.fieldAddr 47 (.const t3) 2) 0) w14 fun t17 w15 =>
  Run Tryz.prog (sOp (.load 9 (.const t17)) 9) w15 fun t18 w16 =>
  Run Tryz.prog (sBin .neq 9 false false t16 t18) w16 fun t19 w17 =>
  CondV t19 (
    R (.returned (Value.bool false)) w17) (
    Run Tryz.prog (sOp (.fieldAddr 47 (.const t2) 3) 0) w17 fun t20 w18 =>
  Run Tryz.prog (sOp (.load 29 (.const t20)) 29) w18 fun t21 w19 =>
  Run Tryz.prog (sOp (.fieldAddr 47 (.const t3) 3) 0) w19 fun t22 w20 =>
  Run Tryz.prog (sOp (.load 29 (.const t22)) 29) w20 fun t23 w21 =>
  Run Tryz.prog (sCall (Value.func (.func 13) #[] #[]) [t21, t23]) w21 fun t24 w22 =>
  Run Tryz.prog (sOp (.unOp .not 4 (.const t24)) 4) w22 fun t25 w23 =>
  CondV t25 (
    R (.returned (Value.bool false)) w23) (
    R (.returned (Value.bool true)) w23))))
theorem calls_l_eqTerm {p0 p1 : Value} {w : World} {R : Ending → World → Prop} (h : sh_l_eqTerm p0 p1 w R) : Calls Tryz.prog 27 #[p0, p1] w R :=
  calls_sh .leaf [p0, p1] mixed Tryz.func27 (by kernel_rfl) (by kernel_rfl) h


/- loop.example/prologserver/laws.markText : function 28 -/
def sh_l_markText (p0 : Value) (w : World) (R : Ending → World → Prop) : Prop :=
  Run Tryz.prog (sBin .leq 3 false true p0 (Value.int .i64 0)) w fun t5 w1 =>
  CondV t5 (
    R (.returned (Value.string ⟨#[109, 48]⟩)) w1) (
    (∃ (I2 : Value → Value → World → Prop) (m3 : Value → Value → World → Nat), I2 p0 (Value.string ⟨#[]⟩) w1 ∧
  ∀ t0 _ _ t3 _ _ _ _ _ _ _ _ _ _ : Value, ∀ w4 : World, I2 t0 t3 w4 →
  Run Tryz.prog (sBin .gtr 3 false true t0 (Value.int .i64 0)) w4 fun t7_2 w5 =>
  CondV t7_2 (
    Run Tryz.prog (sBin .rem 3 false true t0 (Value.int .i64 10)) w5 fun t9_2 w6 =>
  Run Tryz.prog (sBin .add 3 true false (Value.int .i64 48) t9_2) w6 fun t10_2 w7 =>
  Run Tryz.prog (sOp (.convert 3 5 (.const t10_2)) 5) w7 fun t11_2 w8 =>
  Run Tryz.prog (sBuildSlice 65 1 [(0, t11_2)]) w8 fun t12_2 w9 =>
  Run Tryz.prog (sOp (.convert 65 9 (.const t12_2)) 9) w9 fun t13_2 w10 =>
  Run Tryz.prog (sBin .add 9 false false t13_2 t3) w10 fun t15_2 w11 =>
  Run Tryz.prog (sBin .quo 3 false true t0 (Value.int .i64 10)) w11 fun t17_2 w12 =>
  I2 t17_2 t15_2 w12 ∧ m3 t17_2 t15_2 w12 < m3 t0 t3 w4) (
    Run Tryz.prog (sBin .add 9 true false (Value.string ⟨#[109]⟩) t3) w5 fun t19 w13 =>
  R (.returned t19) w13)))
theorem calls_l_markText {p0 : Value} {w : World} {R : Ending → World → Prop} (h : sh_l_markText p0 w R) : Calls Tryz.prog 28 #[p0] w R :=
  calls_sh (.seq none .leaf (.seq none .leaf (.seq none .leaf (.seq none (.one (.loop [0, 3] .leaf)) .leaf)))) [p0] mixed Tryz.func28 (by kernel_rfl) (by kernel_rfl) h


/- loop.example/prologserver/laws.szTerm : function 29 -/
def sh_l_szTerm (p0 p1 : Value) (w : World) (R : Ending → World → Prop) : Prop :=
  Run Tryz.prog (sOp (.box 40 (.const p0)) 0) w fun t2 w1 =>
  Run Tryz.prog (sOp (.fieldAddr 40 (.const t2) 2) 0) w1 fun t6 w2 =>
  Run Tryz.prog (sOp (.load 9 (.const t6)) 9) w2 fun t7 w3 =>
  Run Tryz.prog (sBuiltin .len #[9] 3 [false] [t7]) w3 fun t8 w4 =>
  Run Tryz.prog (sBin .sub 3 false false p1 t8) w4 fun t9 w5 =>
  Run Tryz.prog (sBin .lss 3 false true t9 (Value.int .i64 0)) w5 fun t11 w6 =>
  CondV t11 (
    R (.returned (Value.int .i64 (-1))) w6) (
    Run Tryz.prog (sOp (.fieldAddr 40 (.const t2) 3) 0) w6 fun t12 w7 =>
  Run Tryz.prog (sOp (.load 38 (.const t12)) 38) w7 fun t13 w8 =>
  Run Tryz.prog (sCall (Value.func (.func 30) #[] #[]) [t13, t9]) w8 fun t15 w9 =>
  Run Tryz.prog (sBin .lss 3 false true t15 (Value.int .i64 0)) w9 fun t17 w10 =>
  CondV t17 (
    R (.returned (Value.int .i64 (-1))) w10) (
    R (.returned t15) w10))
theorem calls_l_szTerm {p0 p1 : Value} {w : World} {R : Ending → World → Prop} (h : sh_l_szTerm p0 p1 w R) : Calls Tryz.prog 29 #[p0, p1] w R :=
  calls_sh .leaf [p0, p1] mixed Tryz.func29 (by kernel_rfl) (by kernel_rfl) h


/- loop.example/prologserver/laws.szTermS : function 30 -/
def sh_l_szTermS (p0 p1 : Value) (w : World) (R : Ending → World → Prop) : Prop :=
  Run Tryz.prog (sBuiltin .len #[38] 3 [false] [p0]) w fun t8 w1 =>
  Run Tryz.prog (sBin .sub 3 false false p1 t8) w1 fun t9 w2 =>
  Run Tryz.prog (sBin .lss 3 false true t9 (Value.int .i64 0)) w2 fun t11 w3 =>
  CondV t11 (
    R (.returned (Value.int .i64 (-1))) w3) (
    (∃ (I4 : Value → Value → World → Prop) (m5 : Value → Value → World → Nat), I4 (Value.int .i64 0) t9 w3 ∧
  ∀ t5 _ _ _ _ _ t1 _ _ _ _ _ _ _ _ _ _ : Value, ∀ w6 : World, I4 t5 t1 w6 →
  Run Tryz.prog (sBuiltin .len #[38] 3 [false] [p0]) w6 fun t14_2 w7 =>
  Run Tryz.prog (sBin .lss 3 false false t5 t14_2) w7 fun t15_2 w8 =>
  CondV t15_2 (
    Run Tryz.prog (sOp (.indexAddr 38 (.const p0) (.const t5)) 0) w8 fun t20_2 w9 =>
  Run Tryz.prog (sOp (.load 40 (.const t20_2)) 40) w9 fun t21_2 w10 =>
  Run Tryz.prog (sCall (Value.func (.func 29) #[] #[]) [t21_2, t1]) w10 fun t23_2 w11 =>
  Run Tryz.prog (sBin .lss 3 false true t23_2 (Value.int .i64 0)) w11 fun t25_2 w12 =>
  CondV t25_2 (
    R (.returned (Value.int .i64 (-1))) w12) (
    Run Tryz.prog (sBin .add 3 false true t5 (Value.int .i64 1)) w12 fun t17_2 w13 =>
  I4 t17_2 t23_2 w13 ∧ m5 t17_2 t23_2 w13 < m5 t5 t1 w6)) (
    R (.returned t1) w8)))
theorem calls_l_szTermS {p0 p1 : Value} {w : World} {R : Ending → World → Prop} (h : sh_l_szTermS p0 p1 w R) : Calls Tryz.prog 30 #[p0, p1] w R :=
  calls_sh (.seq none .leaf (.seq none .leaf (.seq none .leaf (.seq none (.seq none .leaf (.one (.loop [5, 1] .leaf))) .leaf)))) [p0, p1] mixed Tryz.func30 (by kernel_rfl) (by kernel_rfl) h


/- loop.example/prologserver/spec.ProgramValid : function 31 -/
def sh_s_ProgramValid (p0 : Value) (w : World) (R : Ending → World → Prop) : Prop :=
  (∃ (I1 : Value → World → Prop) (m2 : Value → World → Nat), I1 (Value.int .i64 0) w ∧
  ∀ t3 _ _ _ _ _ _ _ _ _ _ _ _ _ _ _ _ _ : Value, ∀ w3 : World, I1 t3 w3 →
  (∃ J4 : Value → World → Prop, (
    Run Tryz.prog (sBuiltin .len #[25] 3 [false] [p0]) w3 fun t6_2 w5 =>
    Run Tryz.prog (sBin .lss 3 false false t3 t6_2) w5 fun t7_2 w6 =>
    GuardV t7_2 true (
      Run Tryz.prog (sBin .leq 3 false true t3 (Value.int .i64 20)) w6 fun t10_2 w7 =>
      Run Tryz.prog (sOp (.pick (.const t7_2) (.const t10_2) (.const (Value.bool false))) 4) w7 fun t11_2 w8 =>
      J4 t11_2 w8) (
      Run Tryz.prog (sOp (.pick (.const t7_2) (.const undef) (.const (Value.bool false))) 4) w6 fun t11_3 w9 =>
      J4 t11_3 w9)) ∧
  ∀ t11_4 _ _ _ _ _ _ _ : Value, ∀ w10 : World, J4 t11_4 w10 →
  CondV t11_4 (
    Run Tryz.prog (sOp (.indexAddr 25 (.const p0) (.const t3)) 0) w10 fun t16_2 w11 =>
  Run Tryz.prog (sOp (.load 49 (.const t16_2)) 49) w11 fun t17_2 w12 =>
  Run Tryz.prog (sCall (Value.func (.func 40) #[] #[]) [t17_2]) w12 fun t18_2 w13 =>
  Run Tryz.prog (sOp (.unOp .not 4 (.const t18_2)) 4) w13 fun t19_2 w14 =>
  CondV t19_2 (
    R (.returned (Value.bool false)) w14) (
    Run Tryz.prog (sBin .add 3 false true t3 (Value.int .i64 1)) w14 fun t13_2 w15 =>
  I1 t13_2 w15 ∧ m2 t13_2 w15 < m2 t3 w3)) (
    Run Tryz.prog (sBuiltin .len #[25] 3 [false] [p0]) w10 fun t21 w16 =>
  Run Tryz.prog (sBin .leq 3 false true t21 (Value.int .i64 20)) w16 fun t22 w17 =>
  R (.returned t22) w17)))
theorem calls_s_ProgramValid {p0 : Value} {w : World} {R : Ending → World → Prop} (h : sh_s_ProgramValid p0 w R) : Calls Tryz.prog 31 #[p0] w R :=
  calls_sh (.seq none .leaf (.seq none (.seq none .leaf (.one (.loop [3] (.seq none (.seq (some [11]) .leaf .leaf) .leaf)))) .leaf)) [p0] mixed Tryz.func31 (by kernel_rfl) (by kernel_rfl) h


/- loop.example/prologserver/spec.l16Clause : function 32 -/
def sh_s_l16Clause (p0 : Value) (w : World) (R : Ending → World → Prop) : Prop :=
  Run Tryz.prog (sOp (.box 49 (.const p0)) 0) w fun t1 w1 =>
  (∃ J2 : Value → World → Prop, (
    Run Tryz.prog (sOp (.fieldAddr 49 (.const t1) 0) 0) w1 fun t7 w3 =>
    Run Tryz.prog (sOp (.load 47 (.const t7)) 47) w3 fun t8 w4 =>
    Run Tryz.prog (sCall (Value.func (.func 41) #[] #[]) [t8]) w4 fun t9 w5 =>
    Run Tryz.prog (sOp (.unOp .not 4 (.const t9)) 4) w5 fun t10 w6 =>
    GuardV t10 false (
      Run Tryz.prog (sOp (.fieldAddr 49 (.const t1) 1) 0) w6 fun t12 w7 =>
      Run Tryz.prog (sOp (.load 29 (.const t12)) 29) w7 fun t13 w8 =>
      Run Tryz.prog (sBuiltin .len #[29] 3 [false] [t13]) w8 fun t14 w9 =>
      Run Tryz.prog (sBin .gtr 3 false true t14 (Value.int .i64 3)) w9 fun t15 w10 =>
      Run Tryz.prog (sOp (.pick (.const t10) (.const (Value.bool true)) (.const t15)) 4) w10 fun t16 w11 =>
      J2 t16 w11) (
      Run Tryz.prog (sOp (.pick (.const t10) (.const (Value.bool true)) (.const undef)) 4) w6 fun t16_2 w12 =>
      J2 t16_2 w12)) ∧
  ∀ t16_3 _ _ _ _ _ _ _ _ _ : Value, ∀ w13 : World, J2 t16_3 w13 →
  CondV t16_3 (
    R (.returned (Value.bool false)) w13) (
    Run Tryz.prog (sBuildSlice 67 0 []) w13 fun t17 w14 =>
  (∃ (I15 : Value → Value → World → Prop) (m16 : Value → Value → World → Nat), I15 (Value.int .i64 0) t17 w14 ∧
  ∀ t4 _ _ t3 _ _ _ _ _ _ _ _ _ _ _ _ _ _ _ _ _ _ _ _ : Value, ∀ w17 : World, I15 t4 t3 w17 →
  Run Tryz.prog (sOp (.fieldAddr 49 (.const t1) 1) 0) w17 fun t19_2 w18 =>
  Run Tryz.prog (sOp (.load 29 (.const t19_2)) 29) w18 fun t20_2 w19 =>
  Run Tryz.prog (sBuiltin .len #[29] 3 [false] [t20_2]) w19 fun t21_2 w20 =>
  Run Tryz.prog (sBin .lss 3 false false t4 t21_2) w20 fun t22_2 w21 =>
  CondV t22_2 (
    Run Tryz.prog (sOp (.fieldAddr 49 (.const t1) 1) 0) w21 fun t25_2 w22 =>
  Run Tryz.prog (sOp (.load 29 (.const t25_2)) 29) w22 fun t26_2 w23 =>
  Run Tryz.prog (sOp (.indexAddr 29 (.const t26_2) (.const t4)) 0) w23 fun t28_2 w24 =>
  Run Tryz.prog (sOp (.load 47 (.const t28_2)) 47) w24 fun t29_2 w25 =>
  Run Tryz.prog (sCall (Value.func (.func 41) #[] #[]) [t29_2]) w25 fun t30_2 w26 =>
  Run Tryz.prog (sOp (.unOp .not 4 (.const t30_2)) 4) w26 fun t31_2 w27 =>
  CondV t31_2 (
    R (.returned (Value.bool false)) w27) (
    Run Tryz.prog (sOp (.fieldAddr 49 (.const t1) 1) 0) w27 fun t33_2 w28 =>
  Run Tryz.prog (sOp (.load 29 (.const t33_2)) 29) w28 fun t34_2 w29 =>
  Run Tryz.prog (sOp (.indexAddr 29 (.const t34_2) (.const t4)) 0) w29 fun t36_2 w30 =>
  Run Tryz.prog (sOp (.load 47 (.const t36_2)) 47) w30 fun t37_2 w31 =>
  Run Tryz.prog (sCall (Value.func (.func 42) #[] #[]) [t3, t37_2]) w31 fun t38_2 w32 =>
  Run Tryz.prog (sBin .add 3 false true t4 (Value.int .i64 1)) w32 fun t24_2 w33 =>
  I15 t24_2 t38_2 w33 ∧ m16 t24_2 t38_2 w33 < m16 t4 t3 w17)) (
    Run Tryz.prog (sOp (.fieldAddr 49 (.const t1) 0) 0) w21 fun t39 w34 =>
  Run Tryz.prog (sOp (.load 47 (.const t39)) 47) w34 fun t40 w35 =>
  Run Tryz.prog (sCall (Value.func (.func 42) #[] #[]) [(Value.slice none 0 0), t40]) w35 fun t41 w36 =>
  (∃ (I37 : Value → World → Prop) (m38 : Value → World → Nat), I37 (Value.int .i64 0) w36 ∧
  ∀ t6 _ _ _ _ _ _ _ _ _ _ _ _ _ _ : Value, ∀ w39 : World, I37 t6 w39 →
  Run Tryz.prog (sBuiltin .len #[67] 3 [false] [t41]) w39 fun t44_2 w40 =>
  Run Tryz.prog (sBin .lss 3 false false t6 t44_2) w40 fun t45_2 w41 =>
  CondV t45_2 (
    Run Tryz.prog (sOp (.indexAddr 67 (.const t41) (.const t6)) 0) w41 fun t51_2 w42 =>
  Run Tryz.prog (sOp (.load 3 (.const t51_2)) 3) w42 fun t52_2 w43 =>
  Run Tryz.prog (sCall (Value.func (.func 43) #[] #[]) [t3, t52_2]) w43 fun t53_2 w44 =>
  Run Tryz.prog (sOp (.unOp .not 4 (.const t53_2)) 4) w44 fun t54_2 w45 =>
  CondV t54_2 (
    R (.returned (Value.bool false)) w45) (
    Run Tryz.prog (sBin .add 3 false true t6 (Value.int .i64 1)) w45 fun t47_2 w46 =>
  I37 t47_2 w46 ∧ m38 t47_2 w46 < m38 t6 w39)) (
    R (.returned (Value.bool true)) w41))))))
theorem calls_s_l16Clause {p0 : Value} {w : World} {R : Ending → World → Prop} (h : sh_s_l16Clause p0 w R) : Calls Tryz.prog 32 #[p0] w R :=
  calls_sh (.seq none .leaf (.seq none (.seq (some [16]) .leaf .leaf) (.seq none .leaf (.seq none (.seq none .leaf (.one (.loop [4, 3] .leaf))) (.seq none .leaf (.seq none (.seq none .leaf (.one (.loop [6] .leaf))) .leaf)))))) [p0] mixed Tryz.func32 (by kernel_rfl) (by kernel_rfl) h


/- loop.example/prologserver/spec.l16Round : function 33 -/
def sh_s_l16Round (p0 p1 : Value) (w : World) (R : Ending → World → Prop) : Prop :=
  (∃ (I1 : Value → Value → World → Prop) (m2 : Value → Value → World → Nat), I1 (Value.int .i64 0) p1 w ∧
  ∀ t6 _ _ t5 t21 t20 t19 t18 t17 t16 t15 t14 _ _ _ _ : Value, ∀ w3 : World, I1 t6 t5 w3 →
  Run Tryz.prog (sBuiltin .len #[25] 3 [false] [p0]) w3 fun t10_2 w4 =>
  Run Tryz.prog (sBin .lss 3 false false t6 t10_2) w4 fun t11_2 w5 =>
  CondV t11_2 (
    (∃ A6 : (Nat → Bool) → Value → Value → Value → Value → Value → Value → Value → Value → Value → World → Prop, A6 (fun _ => false) t5 t21 t20 t19 t18 t17 t16 t15 t14 { w5 with drawn := w5.drawn + 1 } ∧ (
    (∀ D7 : Nat → Bool, D7 0 = false → ∀ t5_2 t21_2 t20_2 t19_2 t18_2 t17_2 t16_2 t15_2 t14_2 : Value, ∀ w8 : World, A6 D7 t5_2 t21_2 t20_2 t19_2 t18_2 t17_2 t16_2 t15_2 t14_2 w8 →
      A6 (setD D7 0) t5_2 t21_2 t20_2 t19_2 t18_2 t17_2 t16_2 t15_2 t5_2 w8) ∧
    (∀ D7 : Nat → Bool, D7 1 = false → ∀ t5_2 t21_2 t20_2 t19_2 t18_2 t17_2 t16_2 t15_2 t14_2 : Value, ∀ w9 : World, A6 D7 t5_2 t21_2 t20_2 t19_2 t18_2 t17_2 t16_2 t15_2 t14_2 w9 →
      A6 (setD D7 1) t5_2 t21_2 t20_2 t19_2 t18_2 t17_2 t16_2 p0 t14_2 w9) ∧
    (∀ D7 : Nat → Bool, D7 2 = false → ∀ t5_2 t21_2 t20_2 t19_2 t18_2 t17_2 t16_2 t15_2 t14_2 : Value, ∀ w10 : World, A6 D7 t5_2 t21_2 t20_2 t19_2 t18_2 t17_2 t16_2 t15_2 t14_2 w10 →
      A6 (setD D7 2) t5_2 t21_2 t20_2 t19_2 t18_2 t17_2 t6 t15_2 t14_2 w10) ∧
    (∀ D7 : Nat → Bool, D7 3 = false → D7 1 = true → D7 2 = true → ∀ t5_2 t21_2 t20_2 t19_2 t18_2 t17_2 t16_2 t15_2 t14_2 : Value, ∀ w11 : World, A6 D7 t5_2 t21_2 t20_2 t19_2 t18_2 t17_2 t16_2 t15_2 t14_2 w11 →
      Run Tryz.prog (sOp (.indexAddr 25 (.const t15_2) (.const t16_2)) 0) w11 fun t17_3 w12 =>
      A6 (setD D7 3) t5_2 t21_2 t20_2 t19_2 t18_2 t17_3 t16_2 t15_2 t14_2 w12) ∧
    (∀ D7 : Nat → Bool, D7 4 = false → D7 3 = true → ∀ t5_2 t21_2 t20_2 t19_2 t18_2 t17_2 t16_2 t15_2 t14_2 : Value, ∀ w13 : World, A6 D7 t5_2 t21_2 t20_2 t19_2 t18_2 t17_2 t16_2 t15_2 t14_2 w13 →
      Run Tryz.prog (sOp (.load 49 (.const t17_2)) 49) w13 fun t18_3 w14 =>
      A6 (setD D7 4) t5_2 t21_2 t20_2 t19_2 t18_3 t17_2 t16_2 t15_2 t14_2 w14) ∧
    (∀ D7 : Nat → Bool, D7 5 = false → ∀ t5_2 t21_2 t20_2 t19_2 t18_2 t17_2 t16_2 t15_2 t14_2 : Value, ∀ w15 : World, A6 D7 t5_2 t21_2 t20_2 t19_2 t18_2 t17_2 t16_2 t15_2 t14_2 w15 →
      A6 (setD D7 5) t5_2 t21_2 t20_2 p1 t18_2 t17_2 t16_2 t15_2 t14_2 w15) ∧
    (∀ D7 : Nat → Bool, D7 6 = false → ∀ t5_2 t21_2 t20_2 t19_2 t18_2 t17_2 t16_2 t15_2 t14_2 : Value, ∀ w16 : World, A6 D7 t5_2 t21_2 t20_2 t19_2 t18_2 t17_2 t16_2 t15_2 t14_2 w16 →
      Run Tryz.prog (sOp (.makeSlice 29 (.const (Value.int .i64 26)) (.const (Value.int .i64 26))) 29) w16 fun t20_3 w17 =>
      A6 (setD D7 6) t5_2 t21_2 t20_3 t19_2 t18_2 t17_2 t16_2 t15_2 t14_2 w17) ∧
    (∀ D7 : Nat → Bool, D7 7 = false → D7 0 = true → D7 4 = true → D7 5 = true → D7 6 = true → ∀ t5_2 t21_2 t20_2 t19_2 t18_2 t17_2 t16_2 t15_2 t14_2 : Value, ∀ w18 : World, A6 D7 t5_2 t21_2 t20_2 t19_2 t18_2 t17_2 t16_2 t15_2 t14_2 w18 →
      Run Tryz.prog (sCall (Value.func (.func 44) #[] #[]) [t14_2, t18_2, (Value.int .i64 0), t19_2, t20_2]) w18 fun t21_3 w19 =>
      A6 (setD D7 7) t5_2 t21_3 t20_2 t19_2 t18_2 t17_2 t16_2 t15_2 t14_2 w19) ∧
    (∀ D7 : Nat → Bool, D7 8 = false → D7 7 = true → D7 7 = true → D7 0 = true → D7 1 = true → D7 2 = true → D7 3 = true → D7 4 = true → D7 5 = true → D7 6 = true → D7 7 = true → ∀ t5_2 t21_2 t20_2 t19_2 t18_2 t17_2 t16_2 t15_2 t14_2 : Value, ∀ w20 : World, A6 D7 t5_2 t21_2 t20_2 t19_2 t18_2 t17_2 t16_2 t15_2 t14_2 w20 →
      A6 (setD D7 8) t21_2 t21_2 t20_2 t19_2 t18_2 t17_2 t16_2 t15_2 t14_2 w20) ∧
    True) ∧
  ∀ D7 : Nat → Bool, D7 8 = true → D7 7 = true → D7 6 = true → D7 5 = true → D7 4 = true → D7 3 = true → D7 2 = true → D7 1 = true → D7 0 = true → ∀ t5_2 t21_2 t20_2 t19_2 t18_2 t17_2 t16_2 t15_2 t14_2 : Value, ∀ w21 : World, A6 D7 t5_2 t21_2 t20_2 t19_2 t18_2 t17_2 t16_2 t15_2 t14_2 w21 →
  Run Tryz.prog (sBin .add 3 false true t6 (Value.int .i64 1)) w21 fun t13_2 w22 =>
  I1 t13_2 t5_2 w22 ∧ m2 t13_2 t5_2 w22 < m2 t6 t5 w3)) (
    R (.returned t5) w5))
theorem calls_s_l16Round {p0 p1 : Value} {w : World} {R : Ending → World → Prop} (h : sh_s_l16Round p0 p1 w R) : Calls Tryz.prog 33 #[p0, p1] w R :=
  calls_sh (.seq none .leaf (.seq none .leaf (.seq none (.seq none .leaf (.one (.loop [6, 5] .leaf))) .leaf))) [p0, p1] mixed Tryz.func33 (by kernel_rfl) (by kernel_rfl) h


/- loop.example/prologserver/laws.toTerm : function 34 -/
def sh_l_toTerm (p0 : Value) (w : World) (R : Ending → World → Prop) : Prop :=
  Run Tryz.prog (sOp (.box 40 (.const p0)) 0) w fun t1 w1 =>
  Run Tryz.prog (sOp (.alloc 47) 0) w1 fun t2 w2 =>
  Run Tryz.prog (sOp (.alloc 47) 0) w2 fun t3 w3 =>
  Run Tryz.prog (sOp (.fieldAddr 40 (.const t1) 0) 0) w3 fun t4 w4 =>
  Run Tryz.prog (sOp (.load 3 (.const t4)) 3) w4 fun t5 w5 =>
  Run Tryz.prog (sOp (.fieldAddr 47 (.const t3) 0) 0) w5 fun t6 w6 =>
  Run Tryz.prog (sOp (.store 3 (.const t6) (.const t5)) 0) w6 fun _u w7 =>
  Run Tryz.prog (sOp (.fieldAddr 40 (.const t1) 1) 0) w7 fun t7 w8 =>
  Run Tryz.prog (sOp (.load 3 (.const t7)) 3) w8 fun t8 w9 =>
  Run Tryz.prog (sOp (.fieldAddr 47 (.const t3) 1) 0) w9 fun t9 w10 =>
  Run Tryz.prog (sOp (.store 3 (.const t9) (.const t8)) 0) w10 fun _u w11 =>
  Run Tryz.prog (sOp (.fieldAddr 40 (.const t1) 2) 0) w11 fun t10 w12 =>
  Run Tryz.prog (sOp (.load 9 (.const t10)) 9) w12 fun t11 w13 =>
  Run Tryz.prog (sOp (.fieldAddr 47 (.const t3) 2) 0) w13 fun t12 w14 =>
  Run Tryz.prog (sOp (.store 9 (.const t12) (.const t11)) 0) w14 fun _u w15 =>
  Run Tryz.prog (sOp (.fieldAddr 40 (.const t1) 3) 0) w15 fun t13 w16 =>
  Run Tryz.prog (sOp (.load 38 (.const t13)) 38) w16 fun t14 w17 =>
  Run Tryz.prog (sCall (Value.func (.func 35) #[] #[]) [t14]) w17 fun t15 w18 =>
  Run Tryz.prog (sOp (.fieldAddr 47 (.const t3) 3) 0) w18 fun t16 w19 =>
  Run Tryz.prog (sOp (.store 29 (.const t16) (.const t15)) 0) w19 fun _u w20 =>
  Run Tryz.prog (sOp (.load 47 (.const t3)) 47) w20 fun t17 w21 =>
  Run Tryz.prog (sOp (.store 47 (.const t2) (.const t17)) 0) w21 fun _ w22 =>
  (LoadV Tryz.prog 47 t2 w22 fun r0 => R (.returned r0) w22)
theorem calls_l_toTerm {p0 : Value} {w : World} {R : Ending → World → Prop} (h : sh_l_toTerm p0 w R) : Calls Tryz.prog 34 #[p0] w R :=
  calls_sh .leaf [p0] mixed Tryz.func34 (by kernel_rfl) (by kernel_rfl) h


/- loop.example/prologserver/laws.toTermS : function 35 -/
def sh_l_toTermS (p0 : Value) (w : World) (R : Ending → World → Prop) : Prop :=
  Run Tryz.prog (sBuiltin .len #[38] 3 [false] [p0]) w fun t6 w1 =>
  Run Tryz.prog (sOp (.makeSlice 29 (.const t6) (.const t6)) 29) w1 fun t7 w2 =>
  (∃ (I3 : Value → World → Prop) (m4 : Value → World → Nat), I3 (Value.int .i64 0) w2 ∧
  ∀ t4 _ _ _ _ _ _ _ _ _ _ _ _ _ _ : Value, ∀ w5 : World, I3 t4 w5 →
  Run Tryz.prog (sBuiltin .len #[38] 3 [false] [p0]) w5 fun t10_2 w6 =>
  Run Tryz.prog (sBin .lss 3 false false t4 t10_2) w6 fun t11_2 w7 =>
  CondV t11_2 (
    Run Tryz.prog (sOp (.indexAddr 38 (.const p0) (.const t4)) 0) w7 fun t18_2 w8 =>
  Run Tryz.prog (sOp (.load 40 (.const t18_2)) 40) w8 fun t19_2 w9 =>
  Run Tryz.prog (sCall (Value.func (.func 34) #[] #[]) [t19_2]) w9 fun t20_2 w10 =>
  Run Tryz.prog (sOp (.indexAddr 29 (.const t7) (.const t4)) 0) w10 fun t21_2 w11 =>
  Run Tryz.prog (sOp (.store 47 (.const t21_2) (.const t20_2)) 0) w11 fun _ w12 =>
  Run Tryz.prog (sBin .add 3 false true t4 (Value.int .i64 1)) w12 fun t13_2 w13 =>
  I3 t13_2 w13 ∧ m4 t13_2 w13 < m4 t4 w5) (
    R (.returned t7) w7))
theorem calls_l_toTermS {p0 : Value} {w : World} {R : Ending → World → Prop} (h : sh_l_toTermS p0 w R) : Calls Tryz.prog 35 #[p0] w R :=
  calls_sh (.seq none .leaf (.seq none .leaf (.seq none (.seq none .leaf (.one (.loop [4] .leaf))) .leaf))) [p0] mixed Tryz.func35 (by kernel_rfl) (by kernel_rfl) h


/- loop.example/prologserver/impl.FlatProgram : function 36 -/
def sh_i_FlatProgram (p0 : Value) (w : World) (R : Ending → World → Prop) : Prop :=
  Run Tryz.prog (sCall (Value.func (.func 45) #[] #[]) [p0]) w fun t4 w1 =>
  GuardV t4 true (
    Run Tryz.prog (sCall (Value.func (.func 46) #[] #[]) [p0, (Value.func (.func 47) #[] #[])]) w1 fun t7 w2 =>
    Run Tryz.prog (sOp (.unOp .not 4 (.const t7)) 4) w2 fun t8 w3 =>
    Run Tryz.prog (sOp (.pick (.const t4) (.const t8) (.const (Value.bool false))) 4) w3 fun t9 w4 =>
    R (.returned t9) w4) (
    Run Tryz.prog (sOp (.pick (.const t4) (.const undef) (.const (Value.bool false))) 4) w1 fun t9_2 w5 =>
    R (.returned t9_2) w5)
theorem calls_i_FlatProgram {p0 : Value} {w : World} {R : Ending → World → Prop} (h : sh_i_FlatProgram p0 w R) : Calls Tryz.prog 36 #[p0] w R :=
  calls_sh .leaf [p0] mixed Tryz.func36 (by kernel_rfl) (by kernel_rfl) h


/- loop.example/prologserver/impl.round : function 37 -/
def sh_i_round (p0 p1 : Value) (w : World) (R : Ending → World → Prop) : Prop :=
  Run Tryz.prog (sCall (Value.func (.func 49) #[] #[]) [p1]) w fun t10 w1 =>
  Run Tryz.prog (sOp (.alloc 29) 0) w1 fun t6 w2 =>
  Run Tryz.prog (sOp (.store 29 (.const t6) (.const t10)) 0) w2 fun _u w3 =>
  Run Tryz.prog (sBuiltin .len #[25] 3 [false] [p0]) w3 fun t12 w4 =>
  (∃ (I5 : Value → World → Prop) (m6 : Value → World → Nat), I5 (Value.int .i64 0) w4 ∧
  ∀ t13 _ _ _ _ _ _ _ _ _ _ : Value, ∀ w7 : World, I5 t13 w7 →
  Run Tryz.prog (sBin .lss 3 false false t13 t12) w7 fun t14_2 w8 =>
  CondV t14_2 (
    Run Tryz.prog (sOp (.indexAddr 25 (.const p0) (.const t13)) 0) w8 fun t15_2 w9 =>
  Run Tryz.prog (sOp (.load 49 (.const t15_2)) 49) w9 fun t16_2 w10 =>
  Run Tryz.prog (sOp (.alloc 49) 0) w10 fun t8_2 w11 =>
  Run Tryz.prog (sOp (.store 49 (.const t8_2) (.const t16_2)) 0) w11 fun _ w12 =>
  Run Tryz.prog (sOp (.load 49 (.const t8_2)) 49) w12 fun t17_2 w13 =>
  Run Tryz.prog (sOp (.makeMap 73 none) 73) w13 fun t19_2 w14 =>
  Run Tryz.prog (sMakeFunc (.func 51) [] [t6]) w14 fun t20_2 w15 =>
  Run Tryz.prog (sCall (Value.func (.func 50) #[] #[]) [t17_2, (Value.int .i64 0), p1, t19_2, t20_2]) w15 fun _ w16 =>
  Run Tryz.prog (sBin .add 3 false true t13 (Value.int .i64 1)) w16 fun t22_2 w17 =>
  I5 t22_2 w17 ∧ m6 t22_2 w17 < m6 t13 w7) (
    (∃ A18 : (Nat → Bool) → Value → Value → Value → Value → Value → Value → World → Prop, A18 (fun _ => false) (Value.bool false) (Value.slice none 0 0) undef undef undef undef { w8 with drawn := w8.drawn + 1 } ∧ (
    (∀ D19 : Nat → Bool, D19 0 = false → ∀ t5 t4 t26 t25 t24 t23 : Value, ∀ w20 : World, A18 D19 t5 t4 t26 t25 t24 t23 w20 →
      Run Tryz.prog (sOp (.load 29 (.const t6)) 29) w20 fun t23_2 w21 =>
      A18 (setD D19 0) t5 t4 t26 t25 t24 t23_2 w21) ∧
    (∀ D19 : Nat → Bool, D19 1 = false → ∀ t5 t4 t26 t25 t24 t23 : Value, ∀ w22 : World, A18 D19 t5 t4 t26 t25 t24 t23 w22 →
      Run Tryz.prog (sOp (.load 29 (.const t6)) 29) w22 fun t24_2 w23 =>
      A18 (setD D19 1) t5 t4 t26 t25 t24_2 t23 w23) ∧
    (∀ D19 : Nat → Bool, D19 2 = false → D19 1 = true → ∀ t5 t4 t26 t25 t24 t23 : Value, ∀ w24 : World, A18 D19 t5 t4 t26 t25 t24 t23 w24 →
      Run Tryz.prog (sBuiltin .len #[29] 3 [false] [t24]) w24 fun t25_2 w25 =>
      A18 (setD D19 2) t5 t4 t26 t25_2 t24 t23 w25) ∧
    (∀ D19 : Nat → Bool, D19 3 = false → D19 2 = true → ∀ t5 t4 t26 t25 t24 t23 : Value, ∀ w26 : World, A18 D19 t5 t4 t26 t25 t24 t23 w26 →
      Run Tryz.prog (sBin .leq 3 false true t25 (Value.int .i64 60)) w26 fun t26_2 w27 =>
      A18 (setD D19 3) t5 t4 t26_2 t25 t24 t23 w27) ∧
    (∀ D19 : Nat → Bool, D19 4 = false → D19 0 = true → D19 0 = true → ∀ t5 t4 t26 t25 t24 t23 : Value, ∀ w28 : World, A18 D19 t5 t4 t26 t25 t24 t23 w28 →
      A18 (setD D19 4) t5 t23 t26 t25 t24 t23 w28) ∧
    (∀ D19 : Nat → Bool, D19 5 = false → D19 3 = true → D19 4 = true → D19 0 = true → D19 1 = true → D19 2 = true → D19 3 = true → D19 4 = true → ∀ t5 t4 t26 t25 t24 t23 : Value, ∀ w29 : World, A18 D19 t5 t4 t26 t25 t24 t23 w29 →
      A18 (setD D19 5) t26 t4 t26 t25 t24 t23 w29) ∧
    True) ∧
  ∀ D19 : Nat → Bool, D19 5 = true → D19 4 = true → D19 3 = true → D19 2 = true → D19 1 = true → D19 0 = true → ∀ t5 t4 t26 t25 t24 t23 : Value, ∀ w30 : World, A18 D19 t5 t4 t26 t25 t24 t23 w30 →
  R (.returned (.tuple #[t4, t5])) w30)))
theorem calls_i_round {p0 p1 : Value} {w : World} {R : Ending → World → Prop} (h : sh_i_round p0 p1 w R) : Calls Tryz.prog 37 #[p0, p1] w R :=
  calls_sh (.seq none .leaf (.seq none .leaf (.seq none (.seq none .leaf (.one (.loop [13] .leaf))) .leaf))) [p0, p1] mixed Tryz.func37 (by kernel_rfl) (by kernel_rfl) h


/- loop.example/prologserver/spec.l1Copy : function 38 -/
def sh_s_l1Copy (p0 : Value) (w : World) (R : Ending → World → Prop) : Prop :=
  Run Tryz.prog (sOp (.box 47 (.const p0)) 0) w fun t1 w1 =>
  Run Tryz.prog (sOp (.alloc 47) 0) w1 fun t2 w2 =>
  Run Tryz.prog (sOp (.fieldAddr 47 (.const t1) 0) 0) w2 fun t5 w3 =>
  Run Tryz.prog (sOp (.load 3 (.const t5)) 3) w3 fun t6 w4 =>
  Run Tryz.prog (sOp (.fieldAddr 47 (.const t1) 1) 0) w4 fun t7 w5 =>
  Run Tryz.prog (sOp (.load 3 (.const t7)) 3) w5 fun t8 w6 =>
  Run Tryz.prog (sOp (.fieldAddr 47 (.const t1) 2) 0) w6 fun t9 w7 =>
  Run Tryz.prog (sOp (.load 9 (.const t9)) 9) w7 fun t10 w8 =>
  Run Tryz.prog (sBuild 47 [(0, t6), (1, t8), (2, t10)]) w8 fun t11 w9 =>
  Run Tryz.prog (sOp (.alloc 47) 0) w9 fun t3 w10 =>
  Run Tryz.prog (sOp (.store 47 (.const t3) (.const t11)) 0) w10 fun _u w11 =>
  (∃ (I12 : Value → World → Prop) (m13 : Value → World → Nat), I12 (Value.int .i64 0) w11 ∧
  ∀ t4 _ _ t29 t28 t27 t26 t25 t24 t23 t22 t21 t20 t19 _ _ _ _ _ : Value, ∀ w14 : World, I12 t4 w14 →
  Run Tryz.prog (sOp (.fieldAddr 47 (.const t1) 3) 0) w14 fun t13_2 w15 =>
  Run Tryz.prog (sOp (.load 29 (.const t13_2)) 29) w15 fun t14_2 w16 =>
  Run Tryz.prog (sBuiltin .len #[29] 3 [false] [t14_2]) w16 fun t15_2 w17 =>
  Run Tryz.prog (sBin .lss 3 false false t4 t15_2) w17 fun t16_2 w18 =>
  CondV t16_2 (
    (∃ A19 : (Nat → Bool) → Value → Value → Value → Value → Value → Value → Value → Value → Value → Value → Value → World → Prop, A19 (fun _ => false) t29 t28 t27 t26 t25 t24 t23 t22 t21 t20 t19 { w18 with drawn := w18.drawn + 1 } ∧ (
    (∀ D20 : Nat → Bool, D20 0 = false → ∀ t29_2 t28_2 t27_2 t26_2 t25_2 t24_2 t23_2 t22_2 t21_2 t20_2 t19_2 : Value, ∀ w21 : World, A19 D20 t29_2 t28_2 t27_2 t26_2 t25_2 t24_2 t23_2 t22_2 t21_2 t20_2 t19_2 w21 →
      Run Tryz.prog (sOp (.fieldAddr 47 (.const t3) 3) 0) w21 fun t19_3 w22 =>
      A19 (setD D20 0) t29_2 t28_2 t27_2 t26_2 t25_2 t24_2 t23_2 t22_2 t21_2 t20_2 t19_3 w22) ∧
    (∀ D20 : Nat → Bool, D20 1 = false → D20 0 = true → ∀ t29_2 t28_2 t27_2 t26_2 t25_2 t24_2 t23_2 t22_2 t21_2 t20_2 t19_2 : Value, ∀ w23 : World, A19 D20 t29_2 t28_2 t27_2 t26_2 t25_2 t24_2 t23_2 t22_2 t21_2 t20_2 t19_2 w23 →
      Run Tryz.prog (sOp (.load 29 (.const t19_2)) 29) w23 fun t20_3 w24 =>
      A19 (setD D20 1) t29_2 t28_2 t27_2 t26_2 t25_2 t24_2 t23_2 t22_2 t21_2 t20_3 t19_2 w24) ∧
    (∀ D20 : Nat → Bool, D20 2 = false → ∀ t29_2 t28_2 t27_2 t26_2 t25_2 t24_2 t23_2 t22_2 t21_2 t20_2 t19_2 : Value, ∀ w25 : World, A19 D20 t29_2 t28_2 t27_2 t26_2 t25_2 t24_2 t23_2 t22_2 t21_2 t20_2 t19_2 w25 →
      Run Tryz.prog (sOp (.fieldAddr 47 (.const t1) 3) 0) w25 fun t21_3 w26 =>
      A19 (setD D20 2) t29_2 t28_2 t27_2 t26_2 t25_2 t24_2 t23_2 t22_2 t21_3 t20_2 t19_2 w26) ∧
    (∀ D20 : Nat → Bool, D20 3 = false → D20 2 = true → ∀ t29_2 t28_2 t27_2 t26_2 t25_2 t24_2 t23_2 t22_2 t21_2 t20_2 t19_2 : Value, ∀ w27 : World, A19 D20 t29_2 t28_2 t27_2 t26_2 t25_2 t24_2 t23_2 t22_2 t21_2 t20_2 t19_2 w27 →
      Run Tryz.prog (sOp (.load 29 (.const t21_2)) 29) w27 fun t22_3 w28 =>
      A19 (setD D20 3) t29_2 t28_2 t27_2 t26_2 t25_2 t24_2 t23_2 t22_3 t21_2 t20_2 t19_2 w28) ∧
    (∀ D20 : Nat → Bool, D20 4 = false → ∀ t29_2 t28_2 t27_2 t26_2 t25_2 t24_2 t23_2 t22_2 t21_2 t20_2 t19_2 : Value, ∀ w29 : World, A19 D20 t29_2 t28_2 t27_2 t26_2 t25_2 t24_2 t23_2 t22_2 t21_2 t20_2 t19_2 w29 →
      A19 (setD D20 4) t29_2 t28_2 t27_2 t26_2 t25_2 t24_2 t4 t22_2 t21_2 t20_2 t19_2 w29) ∧
    (∀ D20 : Nat → Bool, D20 5 = false → D20 3 = true → D20 4 = true → ∀ t29_2 t28_2 t27_2 t26_2 t25_2 t24_2 t23_2 t22_2 t21_2 t20_2 t19_2 : Value, ∀ w30 : World, A19 D20 t29_2 t28_2 t27_2 t26_2 t25_2 t24_2 t23_2 t22_2 t21_2 t20_2 t19_2 w30 →
      Run Tryz.prog (sOp (.indexAddr 29 (.const t22_2) (.const t23_2)) 0) w30 fun t24_3 w31 =>
      A19 (setD D20 5) t29_2 t28_2 t27_2 t26_2 t25_2 t24_3 t23_2 t22_2 t21_2 t20_2 t19_2 w31) ∧
    (∀ D20 : Nat → Bool, D20 6 = false → D20 5 = true → ∀ t29_2 t28_2 t27_2 t26_2 t25_2 t24_2 t23_2 t22_2 t21_2 t20_2 t19_2 : Value, ∀ w32 : World, A19 D20 t29_2 t28_2 t27_2 t26_2 t25_2 t24_2 t23_2 t22_2 t21_2 t20_2 t19_2 w32 →
      Run Tryz.prog (sOp (.load 47 (.const t24_2)) 47) w32 fun t25_3 w33 =>
      A19 (setD D20 6) t29_2 t28_2 t27_2 t26_2 t25_3 t24_2 t23_2 t22_2 t21_2 t20_2 t19_2 w33) ∧
    (∀ D20 : Nat → Bool, D20 7 = false → D20 6 = true → ∀ t29_2 t28_2 t27_2 t26_2 t25_2 t24_2 t23_2 t22_2 t21_2 t20_2 t19_2 : Value, ∀ w34 : World, A19 D20 t29_2 t28_2 t27_2 t26_2 t25_2 t24_2 t23_2 t22_2 t21_2 t20_2 t19_2 w34 →
      Run Tryz.prog (sCall (Value.func (.func 38) #[] #[]) [t25_2]) w34 fun t26_3 w35 =>
      A19 (setD D20 7) t29_2 t28_2 t27_2 t26_3 t25_2 t24_2 t23_2 t22_2 t21_2 t20_2 t19_2 w35) ∧
    (∀ D20 : Nat → Bool, D20 8 = false → D20 7 = true → ∀ t29_2 t28_2 t27_2 t26_2 t25_2 t24_2 t23_2 t22_2 t21_2 t20_2 t19_2 : Value, ∀ w36 : World, A19 D20 t29_2 t28_2 t27_2 t26_2 t25_2 t24_2 t23_2 t22_2 t21_2 t20_2 t19_2 w36 →
      Run Tryz.prog (sBuildSlice 29 1 [(0, t26_2)]) w36 fun t27_3 w37 =>
      A19 (setD D20 8) t29_2 t28_2 t27_3 t26_2 t25_2 t24_2 t23_2 t22_2 t21_2 t20_2 t19_2 w37) ∧
    (∀ D20 : Nat → Bool, D20 9 = false → D20 1 = true → D20 8 = true → D20 7 = true → ∀ t29_2 t28_2 t27_2 t26_2 t25_2 t24_2 t23_2 t22_2 t21_2 t20_2 t19_2 : Value, ∀ w38 : World, A19 D20 t29_2 t28_2 t27_2 t26_2 t25_2 t24_2 t23_2 t22_2 t21_2 t20_2 t19_2 w38 →
      Run Tryz.prog (sBuiltin .append #[29, 29] 29 [false, false] [t20_2, t27_2]) w38 fun t28_3 w39 =>
      A19 (setD D20 9) t29_2 t28_3 t27_2 t26_2 t25_2 t24_2 t23_2 t22_2 t21_2 t20_2 t19_2 w39) ∧
    (∀ D20 : Nat → Bool, D20 10 = false → D20 0 = true → D20 1 = true → D20 2 = true → D20 3 = true → D20 4 = true → D20 5 = true → D20 6 = true → D20 7 = true → D20 8 = true → D20 9 = true → ∀ t29_2 t28_2 t27_2 t26_2 t25_2 t24_2 t23_2 t22_2 t21_2 t20_2 t19_2 : Value, ∀ w40 : World, A19 D20 t29_2 t28_2 t27_2 t26_2 t25_2 t24_2 t23_2 t22_2 t21_2 t20_2 t19_2 w40 →
      Run Tryz.prog (sOp (.fieldAddr 47 (.const t3) 3) 0) w40 fun t29_3 w41 =>
      A19 (setD D20 10) t29_3 t28_2 t27_2 t26_2 t25_2 t24_2 t23_2 t22_2 t21_2 t20_2 t19_2 w41) ∧
    (∀ D20 : Nat → Bool, D20 11 = false → D20 10 = true → D20 9 = true → D20 9 = true → D20 0 = true → D20 1 = true → D20 2 = true → D20 3 = true → D20 4 = true → D20 5 = true → D20 6 = true → D20 7 = true → D20 8 = true → D20 9 = true → ∀ t29_2 t28_2 t27_2 t26_2 t25_2 t24_2 t23_2 t22_2 t21_2 t20_2 t19_2 : Value, ∀ w42 : World, A19 D20 t29_2 t28_2 t27_2 t26_2 t25_2 t24_2 t23_2 t22_2 t21_2 t20_2 t19_2 w42 →
      Run Tryz.prog (sOp (.store 29 (.const t29_2) (.const t28_2)) 0) w42 fun _u w43 =>
      A19 (setD D20 11) t29_2 t28_2 t27_2 t26_2 t25_2 t24_2 t23_2 t22_2 t21_2 t20_2 t19_2 w43) ∧
    True) ∧
  ∀ D20 : Nat → Bool, D20 11 = true → D20 10 = true → D20 9 = true → D20 8 = true → D20 7 = true → D20 6 = true → D20 5 = true → D20 4 = true → D20 3 = true → D20 2 = true → D20 1 = true → D20 0 = true → ∀ t29_2 t28_2 t27_2 t26_2 t25_2 t24_2 t23_2 t22_2 t21_2 t20_2 t19_2 : Value, ∀ w44 : World, A19 D20 t29_2 t28_2 t27_2 t26_2 t25_2 t24_2 t23_2 t22_2 t21_2 t20_2 t19_2 w44 →
  Run Tryz.prog (sBin .add 3 false true t4 (Value.int .i64 1)) w44 fun t18_2 w45 =>
  I12 t18_2 w45 ∧ m13 t18_2 w45 < m13 t4 w14)) (
    Run Tryz.prog (sOp (.load 47 (.const t3)) 47) w18 fun t30 w46 =>
  Run Tryz.prog (sOp (.store 47 (.const t2) (.const t30)) 0) w46 fun _ w47 =>
  (LoadV Tryz.prog 47 t2 w47 fun r0 => R (.returned r0) w47)))
theorem calls_s_l1Copy {p0 : Value} {w : World} {R : Ending → World → Prop} (h : sh_s_l1Copy p0 w R) : Calls Tryz.prog 38 #[p0] w R :=
  calls_sh (.seq none .leaf (.seq none .leaf (.seq none (.seq none .leaf (.one (.loop [4] .leaf))) .leaf))) [p0] mixed Tryz.func38 (by kernel_rfl) (by kernel_rfl) h


/- loop.example/prologserver/impl.own : function 39 -/
def sh_i_own (p0 : Value) (w : World) (R : Ending → World → Prop) : Prop :=
  Run Tryz.prog (sOp (.box 47 (.const p0)) 0) w fun t1 w1 =>
  Run Tryz.prog (sOp (.alloc 47) 0) w1 fun t2 w2 =>
  Run Tryz.prog (sOp (.fieldAddr 47 (.const t1) 3) 0) w2 fun t3 w3 =>
  Run Tryz.prog (sOp (.load 29 (.const t3)) 29) w3 fun t4 w4 =>
  Run Tryz.prog (sCall (Value.func (.func 26) #[] #[]) [t4]) w4 fun t5 w5 =>
  Run Tryz.prog (sOp (.fieldAddr 47 (.const t1) 3) 0) w5 fun t6 w6 =>
  Run Tryz.prog (sOp (.store 29 (.const t6) (.const t5)) 0) w6 fun _u w7 =>
  Run Tryz.prog (sOp (.load 47 (.const t1)) 47) w7 fun t7 w8 =>
  Run Tryz.prog (sOp (.store 47 (.const t2) (.const t7)) 0) w8 fun _ w9 =>
  (LoadV Tryz.prog 47 t2 w9 fun r0 => R (.returned r0) w9)
theorem calls_i_own {p0 : Value} {w : World} {R : Ending → World → Prop} (h : sh_i_own p0 w R) : Calls Tryz.prog 39 #[p0] w R :=
  calls_sh .leaf [p0] mixed Tryz.func39 (by kernel_rfl) (by kernel_rfl) h


/- loop.example/prologserver/spec.ClauseValid : function 40 -/
def sh_s_ClauseValid (p0 : Value) (w : World) (R : Ending → World → Prop) : Prop :=
  Run Tryz.prog (sOp (.box 49 (.const p0)) 0) w fun t1 w1 =>
  (∃ (I2 : Value → World → Prop) (m3 : Value → World → Nat), I2 (Value.int .i64 0) w1 ∧
  ∀ t3 _ _ _ _ _ _ _ _ _ _ _ _ _ _ _ _ _ _ _ : Value, ∀ w4 : World, I2 t3 w4 →
  (∃ J5 : Value → World → Prop, (
    Run Tryz.prog (sOp (.fieldAddr 49 (.const t1) 1) 0) w4 fun t5_2 w6 =>
    Run Tryz.prog (sOp (.load 29 (.const t5_2)) 29) w6 fun t6_2 w7 =>
    Run Tryz.prog (sBuiltin .len #[29] 3 [false] [t6_2]) w7 fun t7_2 w8 =>
    Run Tryz.prog (sBin .lss 3 false false t3 t7_2) w8 fun t8_2 w9 =>
    GuardV t8_2 true (
      Run Tryz.prog (sBin .leq 3 false true t3 (Value.int .i64 6)) w9 fun t11_2 w10 =>
      Run Tryz.prog (sOp (.pick (.const t8_2) (.const t11_2) (.const (Value.bool false))) 4) w10 fun t12_2 w11 =>
      J5 t12_2 w11) (
      Run Tryz.prog (sOp (.pick (.const t8_2) (.const undef) (.const (Value.bool false))) 4) w9 fun t12_3 w12 =>
      J5 t12_3 w12)) ∧
  ∀ t12_4 _ _ _ _ _ _ _ _ : Value, ∀ w13 : World, J5 t12_4 w13 →
  CondV t12_4 (
    Run Tryz.prog (sOp (.fieldAddr 49 (.const t1) 1) 0) w13 fun t15_2 w14 =>
  Run Tryz.prog (sOp (.load 29 (.const t15_2)) 29) w14 fun t16_2 w15 =>
  Run Tryz.prog (sOp (.indexAddr 29 (.const t16_2) (.const t3)) 0) w15 fun t18_2 w16 =>
  Run Tryz.prog (sOp (.load 47 (.const t18_2)) 47) w16 fun t19_2 w17 =>
  Run Tryz.prog (sCall (Value.func (.func 53) #[] #[]) [t19_2]) w17 fun t20_2 w18 =>
  Run Tryz.prog (sOp (.unOp .not 4 (.const t20_2)) 4) w18 fun t21_2 w19 =>
  CondV t21_2 (
    R (.returned (Value.bool false)) w19) (
    Run Tryz.prog (sBin .add 3 false true t3 (Value.int .i64 1)) w19 fun t14_2 w20 =>
  I2 t14_2 w20 ∧ m3 t14_2 w20 < m3 t3 w4)) (
    Run Tryz.prog (sOp (.fieldAddr 49 (.const t1) 1) 0) w13 fun t22 w21 =>
  Run Tryz.prog (sOp (.load 29 (.const t22)) 29) w21 fun t23 w22 =>
  Run Tryz.prog (sBuiltin .len #[29] 3 [false] [t23]) w22 fun t24 w23 =>
  Run Tryz.prog (sBin .leq 3 false true t24 (Value.int .i64 6)) w23 fun t25 w24 =>
  GuardV t25 true (
    Run Tryz.prog (sOp (.fieldAddr 49 (.const t1) 0) 0) w24 fun t27 w25 =>
    Run Tryz.prog (sOp (.load 47 (.const t27)) 47) w25 fun t28 w26 =>
    Run Tryz.prog (sCall (Value.func (.func 54) #[] #[]) [t28]) w26 fun t29 w27 =>
    Run Tryz.prog (sOp (.pick (.const t25) (.const t29) (.const (Value.bool false))) 4) w27 fun t30 w28 =>
    GuardV t30 true (
      Run Tryz.prog (sOp (.fieldAddr 49 (.const t1) 0) 0) w28 fun t32 w29 =>
      Run Tryz.prog (sOp (.load 47 (.const t32)) 47) w29 fun t33 w30 =>
      Run Tryz.prog (sCall (Value.func (.func 55) #[] #[]) [t33]) w30 fun t34 w31 =>
      Run Tryz.prog (sOp (.pick (.const t30) (.const t34) (.const (Value.bool false))) 4) w31 fun t35 w32 =>
      R (.returned t35) w32) (
      Run Tryz.prog (sOp (.pick (.const t30) (.const undef) (.const (Value.bool false))) 4) w28 fun t35_2 w33 =>
      R (.returned t35_2) w33)) (
    Run Tryz.prog (sOp (.pick (.const t25) (.const undef) (.const (Value.bool false))) 4) w24 fun t30_2 w34 =>
    GuardV t30_2 true (
      Run Tryz.prog (sOp (.fieldAddr 49 (.const t1) 0) 0) w34 fun t32_2 w35 =>
      Run Tryz.prog (sOp (.load 47 (.const t32_2)) 47) w35 fun t33_2 w36 =>
      Run Tryz.prog (sCall (Value.func (.func 55) #[] #[]) [t33_2]) w36 fun t34_2 w37 =>
      Run Tryz.prog (sOp (.pick (.const t30_2) (.const t34_2) (.const (Value.bool false))) 4) w37 fun t35_3 w38 =>
      R (.returned t35_3) w38) (
      Run Tryz.prog (sOp (.pick (.const t30_2) (.const undef) (.const (Value.bool false))) 4) w34 fun t35_4 w39 =>
      R (.returned t35_4) w39)))))
theorem calls_s_ClauseValid {p0 : Value} {w : World} {R : Ending → World → Prop} (h : sh_s_ClauseValid p0 w R) : Calls Tryz.prog 40 #[p0] w R :=
  calls_sh (.seq none .leaf (.seq none (.seq none .leaf (.one (.loop [3] (.seq none (.seq (some [12]) .leaf .leaf) .leaf)))) .leaf)) [p0] mixed Tryz.func40 (by kernel_rfl) (by kernel_rfl) h


/- loop.example/prologserver/spec.l16Flat : function 41 -/
def sh_s_l16Flat (p0 : Value) (w : World) (R : Ending → World → Prop) : Prop :=
  Run Tryz.prog (sOp (.box 47 (.const p0)) 0) w fun t1 w1 =>
  (∃ (I2 : Value → World → Prop) (m3 : Value → World → Nat), I2 (Value.int .i64 0) w1 ∧
  ∀ t3 _ _ _ _ _ _ _ _ _ _ _ _ _ _ _ _ : Value, ∀ w4 : World, I2 t3 w4 →
  Run Tryz.prog (sOp (.fieldAddr 47 (.const t1) 3) 0) w4 fun t5_2 w5 =>
  Run Tryz.prog (sOp (.load 29 (.const t5_2)) 29) w5 fun t6_2 w6 =>
  Run Tryz.prog (sBuiltin .len #[29] 3 [false] [t6_2]) w6 fun t7_2 w7 =>
  Run Tryz.prog (sBin .lss 3 false false t3 t7_2) w7 fun t8_2 w8 =>
  CondV t8_2 (
    Run Tryz.prog (sOp (.fieldAddr 47 (.const t1) 3) 0) w8 fun t11_2 w9 =>
  Run Tryz.prog (sOp (.load 29 (.const t11_2)) 29) w9 fun t12_2 w10 =>
  Run Tryz.prog (sOp (.indexAddr 29 (.const t12_2) (.const t3)) 0) w10 fun t14_2 w11 =>
  Run Tryz.prog (sOp (.fieldAddr 47 (.const t14_2) 3) 0) w11 fun t15_2 w12 =>
  Run Tryz.prog (sOp (.load 29 (.const t15_2)) 29) w12 fun t16_2 w13 =>
  Run Tryz.prog (sBuiltin .len #[29] 3 [false] [t16_2]) w13 fun t17_2 w14 =>
  Run Tryz.prog (sBin .gtr 3 false true t17_2 (Value.int .i64 0)) w14 fun t18_2 w15 =>
  CondV t18_2 (
    R (.returned (Value.bool false)) w15) (
    Run Tryz.prog (sBin .add 3 false true t3 (Value.int .i64 1)) w15 fun t10_2 w16 =>
  I2 t10_2 w16 ∧ m3 t10_2 w16 < m3 t3 w4)) (
    Run Tryz.prog (sOp (.load 47 (.const t1)) 47) w8 fun t19 w17 =>
  Run Tryz.prog (sCall (Value.func (.func 55) #[] #[]) [t19]) w17 fun t20 w18 =>
  R (.returned t20) w18))
theorem calls_s_l16Flat {p0 : Value} {w : World} {R : Ending → World → Prop} (h : sh_s_l16Flat p0 w R) : Calls Tryz.prog 41 #[p0] w R :=
  calls_sh (.seq none .leaf (.seq none (.seq none .leaf (.one (.loop [3] .leaf))) .leaf)) [p0] mixed Tryz.func41 (by kernel_rfl) (by kernel_rfl) h


/- loop.example/prologserver/spec.l1Vars : function 42 -/
def sh_s_l1Vars (p0 p1 : Value) (w : World) (R : Ending → World → Prop) : Prop :=
  Run Tryz.prog (sOp (.box 47 (.const p1)) 0) w fun t3 w1 =>
  Run Tryz.prog (sOp (.fieldAddr 47 (.const t3) 0) 0) w1 fun t7 w2 =>
  Run Tryz.prog (sOp (.load 3 (.const t7)) 3) w2 fun t8 w3 =>
  Run Tryz.prog (sBin .eql 3 false true t8 (Value.int .i64 1)) w3 fun t9 w4 =>
  CondV t9 (
    (∃ (I5 : Value → World → Prop) (m6 : Value → World → Nat), I5 (Value.int .i64 0) w4 ∧
    ∀ t5 _ _ _ _ t22 t21 t20 t19 t18 t17 t16 _ _ _ _ : Value, ∀ w7 : World, I5 t5 w7 →
    Run Tryz.prog (sBuiltin .len #[67] 3 [false] [p0]) w7 fun t12_2 w8 =>
    Run Tryz.prog (sBin .lss 3 false false t5 t12_2) w8 fun t13_2 w9 =>
    CondV t13_2 (
      (∃ A10 : (Nat → Bool) → Value → Value → Value → Value → Value → Value → Value → World → Prop, A10 (fun _ => false) t22 t21 t20 t19 t18 t17 t16 { w9 with drawn := w9.drawn + 1 } ∧ (
      (∀ D11 : Nat → Bool, D11 0 = false → ∀ t22_2 t21_2 t20_2 t19_2 t18_2 t17_2 t16_2 : Value, ∀ w12 : World, A10 D11 t22_2 t21_2 t20_2 t19_2 t18_2 t17_2 t16_2 w12 →
        A10 (setD D11 0) t22_2 t21_2 t20_2 t19_2 t18_2 t17_2 p0 w12) ∧
      (∀ D11 : Nat → Bool, D11 1 = false → ∀ t22_2 t21_2 t20_2 t19_2 t18_2 t17_2 t16_2 : Value, ∀ w13 : World, A10 D11 t22_2 t21_2 t20_2 t19_2 t18_2 t17_2 t16_2 w13 →
        A10 (setD D11 1) t22_2 t21_2 t20_2 t19_2 t18_2 t5 t16_2 w13) ∧
      (∀ D11 : Nat → Bool, D11 2 = false → D11 0 = true → D11 1 = true → ∀ t22_2 t21_2 t20_2 t19_2 t18_2 t17_2 t16_2 : Value, ∀ w14 : World, A10 D11 t22_2 t21_2 t20_2 t19_2 t18_2 t17_2 t16_2 w14 →
        Run Tryz.prog (sOp (.indexAddr 67 (.const t16_2) (.const t17_2)) 0) w14 fun t18_3 w15 =>
        A10 (setD D11 2) t22_2 t21_2 t20_2 t19_2 t18_3 t17_2 t16_2 w15) ∧
      (∀ D11 : Nat → Bool, D11 3 = false → D11 2 = true → ∀ t22_2 t21_2 t20_2 t19_2 t18_2 t17_2 t16_2 : Value, ∀ w16 : World, A10 D11 t22_2 t21_2 t20_2 t19_2 t18_2 t17_2 t16_2 w16 →
        Run Tryz.prog (sOp (.load 3 (.const t18_2)) 3) w16 fun t19_3 w17 =>
        A10 (setD D11 3) t22_2 t21_2 t20_2 t19_3 t18_2 t17_2 t16_2 w17) ∧
      (∀ D11 : Nat → Bool, D11 4 = false → ∀ t22_2 t21_2 t20_2 t19_2 t18_2 t17_2 t16_2 : Value, ∀ w18 : World, A10 D11 t22_2 t21_2 t20_2 t19_2 t18_2 t17_2 t16_2 w18 →
        Run Tryz.prog (sOp (.fieldAddr 47 (.const t3) 1) 0) w18 fun t20_3 w19 =>
        A10 (setD D11 4) t22_2 t21_2 t20_3 t19_2 t18_2 t17_2 t16_2 w19) ∧
      (∀ D11 : Nat → Bool, D11 5 = false → D11 4 = true → ∀ t22_2 t21_2 t20_2 t19_2 t18_2 t17_2 t16_2 : Value, ∀ w20 : World, A10 D11 t22_2 t21_2 t20_2 t19_2 t18_2 t17_2 t16_2 w20 →
        Run Tryz.prog (sOp (.load 3 (.const t20_2)) 3) w20 fun t21_3 w21 =>
        A10 (setD D11 5) t22_2 t21_3 t20_2 t19_2 t18_2 t17_2 t16_2 w21) ∧
      (∀ D11 : Nat → Bool, D11 6 = false → D11 3 = true → D11 5 = true → ∀ t22_2 t21_2 t20_2 t19_2 t18_2 t17_2 t16_2 : Value, ∀ w22 : World, A10 D11 t22_2 t21_2 t20_2 t19_2 t18_2 t17_2 t16_2 w22 →
        Run Tryz.prog (sBin .eql 3 false false t19_2 t21_2) w22 fun t22_3 w23 =>
        A10 (setD D11 6) t22_3 t21_2 t20_2 t19_2 t18_2 t17_2 t16_2 w23) ∧
      True) ∧
    ∀ D11 : Nat → Bool, D11 6 = true → D11 5 = true → D11 4 = true → D11 3 = true → D11 2 = true → D11 1 = true → D11 0 = true → ∀ t22_2 t21_2 t20_2 t19_2 t18_2 t17_2 t16_2 : Value, ∀ w24 : World, A10 D11 t22_2 t21_2 t20_2 t19_2 t18_2 t17_2 t16_2 w24 →
    CondV t22_2 (
      R (.returned p0) w24) (
      Run Tryz.prog (sBin .add 3 false true t5 (Value.int .i64 1)) w24 fun t15_2 w25 =>
    I5 t15_2 w25 ∧ m6 t15_2 w25 < m6 t5 w7))) (
      Run Tryz.prog (sOp (.fieldAddr 47 (.const t3) 1) 0) w9 fun t25 w26 =>
    Run Tryz.prog (sOp (.load 3 (.const t25)) 3) w26 fun t26 w27 =>
    Run Tryz.prog (sBuildSlice 67 1 [(0, t26)]) w27 fun t27 w28 =>
    Run Tryz.prog (sBuiltin .append #[67, 67] 67 [false, false] [p0, t27]) w28 fun t28 w29 =>
    R (.returned t28) w29))) (
    (∃ (I30 : Value → Value → World → Prop) (m31 : Value → Value → World → Nat), I30 (Value.int .i64 0) p0 w4 ∧
  ∀ t6 _ _ t0 _ _ _ _ _ _ _ _ _ _ _ _ : Value, ∀ w32 : World, I30 t6 t0 w32 →
  Run Tryz.prog (sOp (.fieldAddr 47 (.const t3) 3) 0) w32 fun t30_2 w33 =>
  Run Tryz.prog (sOp (.load 29 (.const t30_2)) 29) w33 fun t31_2 w34 =>
  Run Tryz.prog (sBuiltin .len #[29] 3 [false] [t31_2]) w34 fun t32_2 w35 =>
  Run Tryz.prog (sBin .lss 3 false false t6 t32_2) w35 fun t33_2 w36 =>
  CondV t33_2 (
    Run Tryz.prog (sOp (.fieldAddr 47 (.const t3) 3) 0) w36 fun t37_2 w37 =>
  Run Tryz.prog (sOp (.load 29 (.const t37_2)) 29) w37 fun t38_2 w38 =>
  Run Tryz.prog (sOp (.indexAddr 29 (.const t38_2) (.const t6)) 0) w38 fun t40_2 w39 =>
  Run Tryz.prog (sOp (.load 47 (.const t40_2)) 47) w39 fun t41_2 w40 =>
  Run Tryz.prog (sCall (Value.func (.func 42) #[] #[]) [t0, t41_2]) w40 fun t42_2 w41 =>
  Run Tryz.prog (sBin .add 3 false true t6 (Value.int .i64 1)) w41 fun t35_2 w42 =>
  I30 t35_2 t42_2 w42 ∧ m31 t35_2 t42_2 w42 < m31 t6 t0 w32) (
    R (.returned t0) w36)))
theorem calls_s_l1Vars {p0 p1 : Value} {w : World} {R : Ending → World → Prop} (h : sh_s_l1Vars p0 p1 w R) : Calls Tryz.prog 42 #[p0, p1] w R :=
  calls_sh (.seq none .leaf (.seq none (.seq none .leaf (.two (.seq none (.seq none .leaf (.one (.loop [5] .leaf))) .leaf) .leaf)) (.seq none (.seq none .leaf (.one (.loop [6, 0] .leaf))) .leaf))) [p0, p1] mixed Tryz.func42 (by kernel_rfl) (by kernel_rfl) h


/- loop.example/prologserver/spec.l16In : function 43 -/
def sh_s_l16In (p0 p1 : Value) (w : World) (R : Ending → World → Prop) : Prop :=
  (∃ (I1 : Value → World → Prop) (m2 : Value → World → Nat), I1 (Value.int .i64 0) w ∧
  ∀ t5 _ _ _ _ _ _ _ _ _ _ _ _ _ : Value, ∀ w3 : World, I1 t5 w3 →
  Run Tryz.prog (sBuiltin .len #[67] 3 [false] [p0]) w3 fun t8_2 w4 =>
  Run Tryz.prog (sBin .lss 3 false false t5 t8_2) w4 fun t9_2 w5 =>
  CondV t9_2 (
    Run Tryz.prog (sOp (.indexAddr 67 (.const p0) (.const t5)) 0) w5 fun t14_2 w6 =>
  Run Tryz.prog (sOp (.load 3 (.const t14_2)) 3) w6 fun t15_2 w7 =>
  Run Tryz.prog (sBin .eql 3 false false t15_2 p1) w7 fun t17_2 w8 =>
  CondV t17_2 (
    R (.returned (Value.bool true)) w8) (
    Run Tryz.prog (sBin .add 3 false true t5 (Value.int .i64 1)) w8 fun t11_2 w9 =>
  I1 t11_2 w9 ∧ m2 t11_2 w9 < m2 t5 w3)) (
    R (.returned (Value.bool false)) w5))
theorem calls_s_l16In {p0 p1 : Value} {w : World} {R : Ending → World → Prop} (h : sh_s_l16In p0 p1 w R) : Calls Tryz.prog 43 #[p0, p1] w R :=
  calls_sh (.seq none .leaf (.seq none (.seq none .leaf (.one (.loop [5] .leaf))) .leaf)) [p0, p1] mixed Tryz.func43 (by kernel_rfl) (by kernel_rfl) h


/- loop.example/prologserver/spec.l16Body : function 44 -/
def sh_s_l16Body (p0 p1 p2 p3 p4 : Value) (w : World) (R : Ending → World → Prop) : Prop :=
  Run Tryz.prog (sOp (.box 49 (.const p1)) 0) w fun t6 w1 =>
  Run Tryz.prog (sBuiltin .len #[29] 3 [false] [p0]) w1 fun t15 w2 =>
  Run Tryz.prog (sBin .gtr 3 false true t15 (Value.int .i64 60)) w2 fun t16 w3 =>
  CondV t16 (
    R (.returned p0) w3) (
    Run Tryz.prog (sOp (.fieldAddr 49 (.const t6) 1) 0) w3 fun t19 w4 =>
  Run Tryz.prog (sOp (.load 29 (.const t19)) 29) w4 fun t20 w5 =>
  Run Tryz.prog (sBuiltin .len #[29] 3 [false] [t20]) w5 fun t21 w6 =>
  Run Tryz.prog (sBin .eql 3 false false p2 t21) w6 fun t22 w7 =>
  CondV t22 (
    Run Tryz.prog (sOp (.fieldAddr 49 (.const t6) 0) 0) w7 fun t24 w8 =>
    Run Tryz.prog (sOp (.load 47 (.const t24)) 47) w8 fun t25 w9 =>
    Run Tryz.prog (sCall (Value.func (.func 57) #[] #[]) [t25, p4]) w9 fun t27 w10 =>
    Run Tryz.prog (sCall (Value.func (.func 56) #[] #[]) [p0, t27]) w10 fun t28 w11 =>
    R (.returned t28) w11) (
    (∃ (I12 : Value → Value → World → Prop) (m13 : Value → Value → World → Nat), I12 (Value.int .i64 0) p0 w7 ∧
  ∀ t11 _ _ t0 _ _ _ _ _ _ _ _ t13 t12 t48 t47 t35 t46 t45 t44 t43 t42 t41 t40 t39 t38 t37 t36 _ _ _ _ : Value, ∀ w14 : World, I12 t11 t0 w14 →
  Run Tryz.prog (sBuiltin .len #[29] 3 [false] [p3]) w14 fun t31_2 w15 =>
  Run Tryz.prog (sBin .lss 3 false false t11 t31_2) w15 fun t32_2 w16 =>
  CondV t32_2 (
    (∃ J17 : Value → World → Prop, (
    (∃ A18 : (Nat → Bool) → Value → Value → Value → Value → Value → Value → Value → Value → Value → Value → Value → Value → Value → Value → Value → Value → World → Prop, A18 (fun _ => false) t13 t12 t48 t47 t35 t46 t45 t44 t43 t42 t41 t40 t39 t38 t37 t36 { w16 with drawn := w16.drawn + 1 } ∧ (
      (∀ D19 : Nat → Bool, D19 0 = false → ∀ t13_2 t12_2 t48_2 t47_2 t35_2 t46_2 t45_2 t44_2 t43_2 t42_2 t41_2 t40_2 t39_2 t38_2 t37_2 t36_2 : Value, ∀ w20 : World, A18 D19 t13_2 t12_2 t48_2 t47_2 t35_2 t46_2 t45_2 t44_2 t43_2 t42_2 t41_2 t40_2 t39_2 t38_2 t37_2 t36_2 w20 →
        Run Tryz.prog (sOp (.fieldAddr 49 (.const t6) 1) 0) w20 fun t36_3 w21 =>
        A18 (setD D19 0) t13_2 t12_2 t48_2 t47_2 t35_2 t46_2 t45_2 t44_2 t43_2 t42_2 t41_2 t40_2 t39_2 t38_2 t37_2 t36_3 w21) ∧
      (∀ D19 : Nat → Bool, D19 1 = false → D19 0 = true → ∀ t13_2 t12_2 t48_2 t47_2 t35_2 t46_2 t45_2 t44_2 t43_2 t42_2 t41_2 t40_2 t39_2 t38_2 t37_2 t36_2 : Value, ∀ w22 : World, A18 D19 t13_2 t12_2 t48_2 t47_2 t35_2 t46_2 t45_2 t44_2 t43_2 t42_2 t41_2 t40_2 t39_2 t38_2 t37_2 t36_2 w22 →
        Run Tryz.prog (sOp (.load 29 (.const t36_2)) 29) w22 fun t37_3 w23 =>
        A18 (setD D19 1) t13_2 t12_2 t48_2 t47_2 t35_2 t46_2 t45_2 t44_2 t43_2 t42_2 t41_2 t40_2 t39_2 t38_2 t37_3 t36_2 w23) ∧
      (∀ D19 : Nat → Bool, D19 2 = false → ∀ t13_2 t12_2 t48_2 t47_2 t35_2 t46_2 t45_2 t44_2 t43_2 t42_2 t41_2 t40_2 t39_2 t38_2 t37_2 t36_2 : Value, ∀ w24 : World, A18 D19 t13_2 t12_2 t48_2 t47_2 t35_2 t46_2 t45_2 t44_2 t43_2 t42_2 t41_2 t40_2 t39_2 t38_2 t37_2 t36_2 w24 →
        A18 (setD D19 2) t13_2 t12_2 t48_2 t47_2 t35_2 t46_2 t45_2 t44_2 t43_2 t42_2 t41_2 t40_2 t39_2 p2 t37_2 t36_2 w24) ∧
      (∀ D19 : Nat → Bool, D19 3 = false → D19 1 = true → D19 2 = true → ∀ t13_2 t12_2 t48_2 t47_2 t35_2 t46_2 t45_2 t44_2 t43_2 t42_2 t41_2 t40_2 t39_2 t38_2 t37_2 t36_2 : Value, ∀ w25 : World, A18 D19 t13_2 t12_2 t48_2 t47_2 t35_2 t46_2 t45_2 t44_2 t43_2 t42_2 t41_2 t40_2 t39_2 t38_2 t37_2 t36_2 w25 →
        Run Tryz.prog (sOp (.indexAddr 29 (.const t37_2) (.const t38_2)) 0) w25 fun t39_3 w26 =>
        A18 (setD D19 3) t13_2 t12_2 t48_2 t47_2 t35_2 t46_2 t45_2 t44_2 t43_2 t42_2 t41_2 t40_2 t39_3 t38_2 t37_2 t36_2 w26) ∧
      (∀ D19 : Nat → Bool, D19 4 = false → D19 3 = true → ∀ t13_2 t12_2 t48_2 t47_2 t35_2 t46_2 t45_2 t44_2 t43_2 t42_2 t41_2 t40_2 t39_2 t38_2 t37_2 t36_2 : Value, ∀ w27 : World, A18 D19 t13_2 t12_2 t48_2 t47_2 t35_2 t46_2 t45_2 t44_2 t43_2 t42_2 t41_2 t40_2 t39_2 t38_2 t37_2 t36_2 w27 →
        Run Tryz.prog (sOp (.load 47 (.const t39_2)) 47) w27 fun t40_3 w28 =>
        A18 (setD D19 4) t13_2 t12_2 t48_2 t47_2 t35_2 t46_2 t45_2 t44_2 t43_2 t42_2 t41_2 t40_3 t39_2 t38_2 t37_2 t36_2 w28) ∧
      (∀ D19 : Nat → Bool, D19 5 = false → ∀ t13_2 t12_2 t48_2 t47_2 t35_2 t46_2 t45_2 t44_2 t43_2 t42_2 t41_2 t40_2 t39_2 t38_2 t37_2 t36_2 : Value, ∀ w29 : World, A18 D19 t13_2 t12_2 t48_2 t47_2 t35_2 t46_2 t45_2 t44_2 t43_2 t42_2 t41_2 t40_2 t39_2 t38_2 t37_2 t36_2 w29 →
        A18 (setD D19 5) t13_2 t12_2 t48_2 t47_2 t35_2 t46_2 t45_2 t44_2 t43_2 t42_2 p3 t40_2 t39_2 t38_2 t37_2 t36_2 w29) ∧
      (∀ D19 : Nat → Bool, D19 6 = false → ∀ t13_2 t12_2 t48_2 t47_2 t35_2 t46_2 t45_2 t44_2 t43_2 t42_2 t41_2 t40_2 t39_2 t38_2 t37_2 t36_2 : Value, ∀ w30 : World, A18 D19 t13_2 t12_2 t48_2 t47_2 t35_2 t46_2 t45_2 t44_2 t43_2 t42_2 t41_2 t40_2 t39_2 t38_2 t37_2 t36_2 w30 →
        A18 (setD D19 6) t13_2 t12_2 t48_2 t47_2 t35_2 t46_2 t45_2 t44_2 t43_2 t11 t41_2 t40_2 t39_2 t38_2 t37_2 t36_2 w30) ∧
      (∀ D19 : Nat → Bool, D19 7 = false → D19 5 = true → D19 6 = true → ∀ t13_2 t12_2 t48_2 t47_2 t35_2 t46_2 t45_2 t44_2 t43_2 t42_2 t41_2 t40_2 t39_2 t38_2 t37_2 t36_2 : Value, ∀ w31 : World, A18 D19 t13_2 t12_2 t48_2 t47_2 t35_2 t46_2 t45_2 t44_2 t43_2 t42_2 t41_2 t40_2 t39_2 t38_2 t37_2 t36_2 w31 →
        Run Tryz.prog (sOp (.indexAddr 29 (.const t41_2) (.const t42_2)) 0) w31 fun t43_3 w32 =>
        A18 (setD D19 7) t13_2 t12_2 t48_2 t47_2 t35_2 t46_2 t45_2 t44_2 t43_3 t42_2 t41_2 t40_2 t39_2 t38_2 t37_2 t36_2 w32) ∧
      (∀ D19 : Nat → Bool, D19 8 = false → D19 7 = true → ∀ t13_2 t12_2 t48_2 t47_2 t35_2 t46_2 t45_2 t44_2 t43_2 t42_2 t41_2 t40_2 t39_2 t38_2 t37_2 t36_2 : Value, ∀ w33 : World, A18 D19 t13_2 t12_2 t48_2 t47_2 t35_2 t46_2 t45_2 t44_2 t43_2 t42_2 t41_2 t40_2 t39_2 t38_2 t37_2 t36_2 w33 →
        Run Tryz.prog (sOp (.load 47 (.const t43_2)) 47) w33 fun t44_3 w34 =>
        A18 (setD D19 8) t13_2 t12_2 t48_2 t47_2 t35_2 t46_2 t45_2 t44_3 t43_2 t42_2 t41_2 t40_2 t39_2 t38_2 t37_2 t36_2 w34) ∧
      (∀ D19 : Nat → Bool, D19 9 = false → ∀ t13_2 t12_2 t48_2 t47_2 t35_2 t46_2 t45_2 t44_2 t43_2 t42_2 t41_2 t40_2 t39_2 t38_2 t37_2 t36_2 : Value, ∀ w35 : World, A18 D19 t13_2 t12_2 t48_2 t47_2 t35_2 t46_2 t45_2 t44_2 t43_2 t42_2 t41_2 t40_2 t39_2 t38_2 t37_2 t36_2 w35 →
        A18 (setD D19 9) t13_2 t12_2 t48_2 t47_2 t35_2 t46_2 p4 t44_2 t43_2 t42_2 t41_2 t40_2 t39_2 t38_2 t37_2 t36_2 w35) ∧
      (∀ D19 : Nat → Bool, D19 10 = false → D19 4 = true → D19 8 = true → D19 9 = true → ∀ t13_2 t12_2 t48_2 t47_2 t35_2 t46_2 t45_2 t44_2 t43_2 t42_2 t41_2 t40_2 t39_2 t38_2 t37_2 t36_2 : Value, ∀ w36 : World, A18 D19 t13_2 t12_2 t48_2 t47_2 t35_2 t46_2 t45_2 t44_2 t43_2 t42_2 t41_2 t40_2 t39_2 t38_2 t37_2 t36_2 w36 →
        Run Tryz.prog (sCall (Value.func (.func 58) #[] #[]) [t40_2, t44_2, t45_2]) w36 fun t46_3 w37 =>
        A18 (setD D19 10) t13_2 t12_2 t48_2 t47_2 t35_2 t46_3 t45_2 t44_2 t43_2 t42_2 t41_2 t40_2 t39_2 t38_2 t37_2 t36_2 w37) ∧
      (∀ D19 : Nat → Bool, D19 11 = false → D19 10 = true → ∀ t13_2 t12_2 t48_2 t47_2 t35_2 t46_2 t45_2 t44_2 t43_2 t42_2 t41_2 t40_2 t39_2 t38_2 t37_2 t36_2 : Value, ∀ w38 : World, A18 D19 t13_2 t12_2 t48_2 t47_2 t35_2 t46_2 t45_2 t44_2 t43_2 t42_2 t41_2 t40_2 t39_2 t38_2 t37_2 t36_2 w38 →
        A18 (setD D19 11) t13_2 t12_2 t48_2 t47_2 t46_2 t46_2 t45_2 t44_2 t43_2 t42_2 t41_2 t40_2 t39_2 t38_2 t37_2 t36_2 w38) ∧
      (∀ D19 : Nat → Bool, D19 12 = false → D19 11 = true → ∀ t13_2 t12_2 t48_2 t47_2 t35_2 t46_2 t45_2 t44_2 t43_2 t42_2 t41_2 t40_2 t39_2 t38_2 t37_2 t36_2 : Value, ∀ w39 : World, A18 D19 t13_2 t12_2 t48_2 t47_2 t35_2 t46_2 t45_2 t44_2 t43_2 t42_2 t41_2 t40_2 t39_2 t38_2 t37_2 t36_2 w39 →
        Run Tryz.prog (sOp (.extract (.const t35_2) 0) 29) w39 fun t47_3 w40 =>
        A18 (setD D19 12) t13_2 t12_2 t48_2 t47_3 t35_2 t46_2 t45_2 t44_2 t43_2 t42_2 t41_2 t40_2 t39_2 t38_2 t37_2 t36_2 w40) ∧
      (∀ D19 : Nat → Bool, D19 13 = false → D19 11 = true → ∀ t13_2 t12_2 t48_2 t47_2 t35_2 t46_2 t45_2 t44_2 t43_2 t42_2 t41_2 t40_2 t39_2 t38_2 t37_2 t36_2 : Value, ∀ w41 : World, A18 D19 t13_2 t12_2 t48_2 t47_2 t35_2 t46_2 t45_2 t44_2 t43_2 t42_2 t41_2 t40_2 t39_2 t38_2 t37_2 t36_2 w41 →
        Run Tryz.prog (sOp (.extract (.const t35_2) 1) 4) w41 fun t48_3 w42 =>
        A18 (setD D19 13) t13_2 t12_2 t48_3 t47_2 t35_2 t46_2 t45_2 t44_2 t43_2 t42_2 t41_2 t40_2 t39_2 t38_2 t37_2 t36_2 w42) ∧
      (∀ D19 : Nat → Bool, D19 14 = false → D19 12 = true → D19 10 = true → D19 0 = true → D19 1 = true → D19 2 = true → D19 3 = true → D19 4 = true → D19 5 = true → D19 6 = true → D19 7 = true → D19 8 = true → D19 9 = true → D19 10 = true → D19 11 = true → D19 12 = true → ∀ t13_2 t12_2 t48_2 t47_2 t35_2 t46_2 t45_2 t44_2 t43_2 t42_2 t41_2 t40_2 t39_2 t38_2 t37_2 t36_2 : Value, ∀ w43 : World, A18 D19 t13_2 t12_2 t48_2 t47_2 t35_2 t46_2 t45_2 t44_2 t43_2 t42_2 t41_2 t40_2 t39_2 t38_2 t37_2 t36_2 w43 →
        A18 (setD D19 14) t13_2 t47_2 t48_2 t47_2 t35_2 t46_2 t45_2 t44_2 t43_2 t42_2 t41_2 t40_2 t39_2 t38_2 t37_2 t36_2 w43) ∧
      (∀ D19 : Nat → Bool, D19 15 = false → D19 13 = true → D19 14 = true → D19 0 = true → D19 1 = true → D19 2 = true → D19 3 = true → D19 4 = true → D19 5 = true → D19 6 = true → D19 7 = true → D19 8 = true → D19 9 = true → D19 10 = true → D19 11 = true → D19 12 = true → D19 13 = true → D19 14 = true → ∀ t13_2 t12_2 t48_2 t47_2 t35_2 t46_2 t45_2 t44_2 t43_2 t42_2 t41_2 t40_2 t39_2 t38_2 t37_2 t36_2 : Value, ∀ w44 : World, A18 D19 t13_2 t12_2 t48_2 t47_2 t35_2 t46_2 t45_2 t44_2 t43_2 t42_2 t41_2 t40_2 t39_2 t38_2 t37_2 t36_2 w44 →
        A18 (setD D19 15) t48_2 t12_2 t48_2 t47_2 t35_2 t46_2 t45_2 t44_2 t43_2 t42_2 t41_2 t40_2 t39_2 t38_2 t37_2 t36_2 w44) ∧
      True) ∧
    ∀ D19 : Nat → Bool, D19 15 = true → D19 14 = true → D19 13 = true → D19 12 = true → D19 11 = true → D19 10 = true → D19 9 = true → D19 8 = true → D19 7 = true → D19 6 = true → D19 5 = true → D19 4 = true → D19 3 = true → D19 2 = true → D19 1 = true → D19 0 = true → ∀ t13_2 t12_2 t48_2 t47_2 t35_2 t46_2 t45_2 t44_2 t43_2 t42_2 t41_2 t40_2 t39_2 t38_2 t37_2 t36_2 : Value, ∀ w45 : World, A18 D19 t13_2 t12_2 t48_2 t47_2 t35_2 t46_2 t45_2 t44_2 t43_2 t42_2 t41_2 t40_2 t39_2 t38_2 t37_2 t36_2 w45 →
    CondV t13_2 (
      Run Tryz.prog (sOp (.load 49 (.const t6)) 49) w45 fun t51_2 w46 =>
      Run Tryz.prog (sBin .add 3 false true p2 (Value.int .i64 1)) w46 fun t53_2 w47 =>
      Run Tryz.prog (sCall (Value.func (.func 44) #[] #[]) [t0, t51_2, t53_2, p3, t12_2]) w47 fun t56_2 w48 =>
      J17 t56_2 w48) (
      J17 t0 w45))) ∧
  ∀ t0_2 _ _ _ _ _ _ _ _ _ _ _ _ _ _ _ _ _ _ _ _ _ _ _ _ : Value, ∀ w49 : World, J17 t0_2 w49 →
  Run Tryz.prog (sBin .add 3 false true t11 (Value.int .i64 1)) w49 fun t34_2 w50 =>
  I12 t34_2 t0_2 w50 ∧ m13 t34_2 t0_2 w50 < m13 t11 t0 w14)) (
    R (.returned t0) w16))))
theorem calls_s_l16Body {p0 p1 p2 p3 p4 : Value} {w : World} {R : Ending → World → Prop} (h : sh_s_l16Body p0 p1 p2 p3 p4 w R) : Calls Tryz.prog 44 #[p0, p1, p2, p3, p4] w R :=
  calls_sh (.seq none .leaf (.seq none .leaf (.seq none .leaf (.seq none (.seq none .leaf (.one (.loop [11, 0] (.seq none .leaf (.seq (some [0]) .leaf .leaf))))) .leaf)))) [p0, p1, p2, p3, p4] mixed Tryz.func44 (by kernel_rfl) (by kernel_rfl) h


/- loop.example/prologserver/impl.ProgramValid : function 45 -/
def sh_i_ProgramValid (p0 : Value) (w : World) (R : Ending → World → Prop) : Prop :=
  Run Tryz.prog (sBuiltin .len #[25] 3 [false] [p0]) w fun t4 w1 =>
  Run Tryz.prog (sBin .leq 3 false true t4 (Value.int .i64 20)) w1 fun t5 w2 =>
  GuardV t5 true (
    Run Tryz.prog (sCall (Value.func (.func 46) #[] #[]) [p0, (Value.func (.func 59) #[] #[])]) w2 fun t8 w3 =>
    Run Tryz.prog (sOp (.unOp .not 4 (.const t8)) 4) w3 fun t9 w4 =>
    Run Tryz.prog (sOp (.pick (.const t5) (.const t9) (.const (Value.bool false))) 4) w4 fun t10 w5 =>
    R (.returned t10) w5) (
    Run Tryz.prog (sOp (.pick (.const t5) (.const undef) (.const (Value.bool false))) 4) w2 fun t10_2 w6 =>
    R (.returned t10_2) w6)
theorem calls_i_ProgramValid {p0 : Value} {w : World} {R : Ending → World → Prop} (h : sh_i_ProgramValid p0 w R) : Calls Tryz.prog 45 #[p0] w R :=
  calls_sh .leaf [p0] mixed Tryz.func45 (by kernel_rfl) (by kernel_rfl) h


/- slices.ContainsFunc[[]loop.example/prologserver/impl.Clause,loop.example/prologserver/impl.Clause] : function 46 -/
def sh_x_ContainsFunc_Clause (p0 p1 : Value) (w : World) (R : Ending → World → Prop) : Prop :=
  Run Tryz.prog (sCall (Value.func (.func 61) #[] #[]) [p0, p1]) w fun t7 w1 =>
  Run Tryz.prog (sBin .geq 3 false true t7 (Value.int .i64 0)) w1 fun t8 w2 =>
  R (.returned t8) w2
theorem calls_x_ContainsFunc_Clause {p0 p1 : Value} {w : World} {R : Ending → World → Prop} (h : sh_x_ContainsFunc_Clause p0 p1 w R) : Calls Tryz.prog 46 #[p0, p1] w R :=
  calls_sh .leaf [p0, p1] mixed Tryz.func46 (by kernel_rfl) (by kernel_rfl) h


/- loop.example/prologserver/impl.FlatProgram$1 : function 47 -/
def sh_i_FlatProgram_1 (p0 : Value) (w : World) (R : Ending → World → Prop) : Prop :=
  Run Tryz.prog (sOp (.box 49 (.const p0)) 0) w fun t1 w1 =>
  Run Tryz.prog (sOp (.load 49 (.const t1)) 49) w1 fun t3 w2 =>
  Run Tryz.prog (sCall (Value.func (.func 48) #[] #[]) [t3]) w2 fun t4 w3 =>
  Run Tryz.prog (sOp (.unOp .not 4 (.const t4)) 4) w3 fun t5 w4 =>
  R (.returned t5) w4
theorem calls_i_FlatProgram_1 {p0 : Value} {w : World} {R : Ending → World → Prop} (h : sh_i_FlatProgram_1 p0 w R) : Calls Tryz.prog 47 #[p0] w R :=
  calls_sh .leaf [p0] mixed Tryz.func47 (by kernel_rfl) (by kernel_rfl) h


/- loop.example/prologserver/impl.flatClause : function 48 -/
def sh_i_flatClause (p0 : Value) (w : World) (R : Ending → World → Prop) : Prop :=
  Run Tryz.prog (sOp (.box 49 (.const p0)) 0) w fun t1 w1 =>
  (∃ J2 : Value → World → Prop, (
    Run Tryz.prog (sOp (.fieldAddr 49 (.const t1) 0) 0) w1 fun t4 w3 =>
    Run Tryz.prog (sOp (.load 47 (.const t4)) 47) w3 fun t5 w4 =>
    Run Tryz.prog (sCall (Value.func (.func 62) #[] #[]) [t5]) w4 fun t6 w5 =>
    Run Tryz.prog (sOp (.unOp .not 4 (.const t6)) 4) w5 fun t7 w6 =>
    GuardV t7 false (
      Run Tryz.prog (sOp (.fieldAddr 49 (.const t1) 1) 0) w6 fun t9 w7 =>
      Run Tryz.prog (sOp (.load 29 (.const t9)) 29) w7 fun t10 w8 =>
      Run Tryz.prog (sBuiltin .len #[29] 3 [false] [t10]) w8 fun t11 w9 =>
      Run Tryz.prog (sBin .gtr 3 false true t11 (Value.int .i64 3)) w9 fun t12 w10 =>
      Run Tryz.prog (sOp (.pick (.const t7) (.const (Value.bool true)) (.const t12)) 4) w10 fun t13 w11 =>
      GuardV t13 false (
        Run Tryz.prog (sOp (.fieldAddr 49 (.const t1) 1) 0) w11 fun t15 w12 =>
        Run Tryz.prog (sOp (.load 29 (.const t15)) 29) w12 fun t16 w13 =>
        Run Tryz.prog (sCall (Value.func (.func 63) #[] #[]) [t16, (Value.func (.func 64) #[] #[])]) w13 fun t17 w14 =>
        Run Tryz.prog (sOp (.pick (.const t13) (.const (Value.bool true)) (.const t17)) 4) w14 fun t18 w15 =>
        J2 t18 w15) (
        Run Tryz.prog (sOp (.pick (.const t13) (.const (Value.bool true)) (.const undef)) 4) w11 fun t18_2 w16 =>
        J2 t18_2 w16)) (
      Run Tryz.prog (sOp (.pick (.const t7) (.const (Value.bool true)) (.const undef)) 4) w6 fun t13_2 w17 =>
      GuardV t13_2 false (
        Run Tryz.prog (sOp (.fieldAddr 49 (.const t1) 1) 0) w17 fun t15_2 w18 =>
        Run Tryz.prog (sOp (.load 29 (.const t15_2)) 29) w18 fun t16_2 w19 =>
        Run Tryz.prog (sCall (Value.func (.func 63) #[] #[]) [t16_2, (Value.func (.func 64) #[] #[])]) w19 fun t17_2 w20 =>
        Run Tryz.prog (sOp (.pick (.const t13_2) (.const (Value.bool true)) (.const t17_2)) 4) w20 fun t18_3 w21 =>
        J2 t18_3 w21) (
        Run Tryz.prog (sOp (.pick (.const t13_2) (.const (Value.bool true)) (.const undef)) 4) w17 fun t18_4 w22 =>
        J2 t18_4 w22))) ∧
  ∀ t18_5 _ _ _ _ _ _ _ _ _ _ _ _ _ _ : Value, ∀ w23 : World, J2 t18_5 w23 →
  CondV t18_5 (
    R (.returned (Value.bool false)) w23) (
    Run Tryz.prog (sOp (.fieldAddr 49 (.const t1) 1) 0) w23 fun t19 w24 =>
  Run Tryz.prog (sOp (.load 29 (.const t19)) 29) w24 fun t20 w25 =>
  Run Tryz.prog (sCall (Value.func (.func 65) #[] #[]) [t20]) w25 fun t21 w26 =>
  Run Tryz.prog (sOp (.alloc 67) 0) w26 fun t3 w27 =>
  Run Tryz.prog (sOp (.store 67 (.const t3) (.const t21)) 0) w27 fun _ w28 =>
  Run Tryz.prog (sOp (.fieldAddr 49 (.const t1) 0) 0) w28 fun t22 w29 =>
  Run Tryz.prog (sOp (.load 47 (.const t22)) 47) w29 fun t23 w30 =>
  Run Tryz.prog (sCall (Value.func (.func 67) #[] #[]) [t23, (Value.slice none 0 0)]) w30 fun t24 w31 =>
  Run Tryz.prog (sMakeFunc (.func 68) [] [t3]) w31 fun t25 w32 =>
  Run Tryz.prog (sCall (Value.func (.func 66) #[] #[]) [t24, t25]) w32 fun t26 w33 =>
  Run Tryz.prog (sOp (.unOp .not 4 (.const t26)) 4) w33 fun t27 w34 =>
  R (.returned t27) w34))
theorem calls_i_flatClause {p0 : Value} {w : World} {R : Ending → World → Prop} (h : sh_i_flatClause p0 w R) : Calls Tryz.prog 48 #[p0] w R :=
  calls_sh (.seq none .leaf (.seq none (.seq (some [18]) .leaf .leaf) .leaf)) [p0] mixed Tryz.func48 (by kernel_rfl) (by kernel_rfl) h


/- slices.Clone[[]loop.example/prologserver/impl.Term,loop.example/prologserver/impl.Term] : function 49 -/
def sh_x_Clone_Term (p0 : Value) (w : World) (R : Ending → World → Prop) : Prop :=
  Run Tryz.prog (sBin .eql 29 false true p0 (Value.slice none 0 0)) w fun t4 w1 =>
  CondV t4 (
    R (.returned (Value.slice none 0 0)) w1) (
    Run Tryz.prog (sBuildSlice 29 0 []) w1 fun t5 w2 =>
  Run Tryz.prog (sBuiltin .append #[29, 29] 29 [false, false] [t5, p0]) w2 fun t7 w3 =>
  R (.returned t7) w3)
theorem calls_x_Clone_Term {p0 : Value} {w : World} {R : Ending → World → Prop} (h : sh_x_Clone_Term p0 w R) : Calls Tryz.prog 49 #[p0] w R :=
  calls_sh .leaf [p0] mixed Tryz.func49 (by kernel_rfl) (by kernel_rfl) h


/- loop.example/prologserver/impl.follows : function 50 -/
def sh_i_follows (p0 p1 p2 p3 p4 : Value) (w : World) (R : Ending → World → Prop) : Prop :=
  Run Tryz.prog (sOp (.box 49 (.const p0)) 0) w fun t5 w1 =>
  Run Tryz.prog (sOp (.box 73 (.const p3)) 0) w1 fun t8 w2 =>
  Run Tryz.prog (sOp (.fieldAddr 49 (.const t5) 1) 0) w2 fun t14 w3 =>
  Run Tryz.prog (sOp (.load 29 (.const t14)) 29) w3 fun t15 w4 =>
  Run Tryz.prog (sBuiltin .len #[29] 3 [false] [t15]) w4 fun t16 w5 =>
  Run Tryz.prog (sBin .eql 3 false false p1 t16) w5 fun t17 w6 =>
  CondV t17 (
    Run Tryz.prog (sOp (.fieldAddr 49 (.const t5) 0) 0) w6 fun t19 w7 =>
    Run Tryz.prog (sOp (.load 47 (.const t19)) 47) w7 fun t20 w8 =>
    Run Tryz.prog (sMakeFunc (.func 71) [] [t8]) w8 fun t21 w9 =>
    Run Tryz.prog (sCall (Value.func (.func 70) #[] #[]) [t20, t21]) w9 fun t22 w10 =>
    Run Tryz.prog (sCall p4 [t22]) w10 fun _ w11 =>
    R (.returned (.tuple #[])) w11) (
    Run Tryz.prog (sBuiltin .len #[29] 3 [false] [p2]) w6 fun t25 w12 =>
  (∃ (I13 : Value → World → Prop) (m14 : Value → World → Nat), I13 (Value.int .i64 0) w12 ∧
  ∀ t26 _ _ _ _ _ _ _ _ t39 t38 t37 t36 t35 t34 t33 t32 _ _ _ _ _ _ _ : Value, ∀ w15 : World, I13 t26 w15 →
  Run Tryz.prog (sBin .lss 3 false false t26 t25) w15 fun t27_2 w16 =>
  CondV t27_2 (
    (∃ J17 : World → Prop, (
    Run Tryz.prog (sOp (.indexAddr 29 (.const p2) (.const t26)) 0) w16 fun t28_2 w18 =>
    Run Tryz.prog (sOp (.load 47 (.const t28_2)) 47) w18 fun t29_2 w19 =>
    Run Tryz.prog (sOp (.alloc 47) 0) w19 fun t11_2 w20 =>
    Run Tryz.prog (sOp (.store 47 (.const t11_2) (.const t29_2)) 0) w20 fun _ w21 =>
    Run Tryz.prog (sOp (.load 73 (.const t8)) 73) w21 fun t30_2 w22 =>
    Run Tryz.prog (sCall (Value.func (.func 72) #[] #[]) [t30_2]) w22 fun t31_2 w23 =>
    (∃ A24 : (Nat → Bool) → Value → Value → Value → Value → Value → Value → Value → Value → World → Prop, A24 (fun _ => false) t39 t38 t37 t36 t35 t34 t33 t32 { w23 with drawn := w23.drawn + 1 } ∧ (
      (∀ D25 : Nat → Bool, D25 0 = false → ∀ t39_2 t38_2 t37_2 t36_2 t35_2 t34_2 t33_2 t32_2 : Value, ∀ w26 : World, A24 D25 t39_2 t38_2 t37_2 t36_2 t35_2 t34_2 t33_2 t32_2 w26 →
        Run Tryz.prog (sOp (.load 47 (.const t11_2)) 47) w26 fun t32_3 w27 =>
        A24 (setD D25 0) t39_2 t38_2 t37_2 t36_2 t35_2 t34_2 t33_2 t32_3 w27) ∧
      (∀ D25 : Nat → Bool, D25 1 = false → ∀ t39_2 t38_2 t37_2 t36_2 t35_2 t34_2 t33_2 t32_2 : Value, ∀ w28 : World, A24 D25 t39_2 t38_2 t37_2 t36_2 t35_2 t34_2 t33_2 t32_2 w28 →
        Run Tryz.prog (sOp (.fieldAddr 49 (.const t5) 1) 0) w28 fun t33_3 w29 =>
        A24 (setD D25 1) t39_2 t38_2 t37_2 t36_2 t35_2 t34_2 t33_3 t32_2 w29) ∧
      (∀ D25 : Nat → Bool, D25 2 = false → D25 1 = true → ∀ t39_2 t38_2 t37_2 t36_2 t35_2 t34_2 t33_2 t32_2 : Value, ∀ w30 : World, A24 D25 t39_2 t38_2 t37_2 t36_2 t35_2 t34_2 t33_2 t32_2 w30 →
        Run Tryz.prog (sOp (.load 29 (.const t33_2)) 29) w30 fun t34_3 w31 =>
        A24 (setD D25 2) t39_2 t38_2 t37_2 t36_2 t35_2 t34_3 t33_2 t32_2 w31) ∧
      (∀ D25 : Nat → Bool, D25 3 = false → ∀ t39_2 t38_2 t37_2 t36_2 t35_2 t34_2 t33_2 t32_2 : Value, ∀ w32 : World, A24 D25 t39_2 t38_2 t37_2 t36_2 t35_2 t34_2 t33_2 t32_2 w32 →
        A24 (setD D25 3) t39_2 t38_2 t37_2 t36_2 p1 t34_2 t33_2 t32_2 w32) ∧
      (∀ D25 : Nat → Bool, D25 4 = false → D25 2 = true → D25 3 = true → ∀ t39_2 t38_2 t37_2 t36_2 t35_2 t34_2 t33_2 t32_2 : Value, ∀ w33 : World, A24 D25 t39_2 t38_2 t37_2 t36_2 t35_2 t34_2 t33_2 t32_2 w33 →
        Run Tryz.prog (sOp (.indexAddr 29 (.const t34_2) (.const t35_2)) 0) w33 fun t36_3 w34 =>
        A24 (setD D25 4) t39_2 t38_2 t37_2 t36_3 t35_2 t34_2 t33_2 t32_2 w34) ∧
      (∀ D25 : Nat → Bool, D25 5 = false → D25 4 = true → ∀ t39_2 t38_2 t37_2 t36_2 t35_2 t34_2 t33_2 t32_2 : Value, ∀ w35 : World, A24 D25 t39_2 t38_2 t37_2 t36_2 t35_2 t34_2 t33_2 t32_2 w35 →
        Run Tryz.prog (sOp (.load 47 (.const t36_2)) 47) w35 fun t37_3 w36 =>
        A24 (setD D25 5) t39_2 t38_2 t37_3 t36_2 t35_2 t34_2 t33_2 t32_2 w36) ∧
      (∀ D25 : Nat → Bool, D25 6 = false → ∀ t39_2 t38_2 t37_2 t36_2 t35_2 t34_2 t33_2 t32_2 : Value, ∀ w37 : World, A24 D25 t39_2 t38_2 t37_2 t36_2 t35_2 t34_2 t33_2 t32_2 w37 →
        A24 (setD D25 6) t39_2 t31_2 t37_2 t36_2 t35_2 t34_2 t33_2 t32_2 w37) ∧
      (∀ D25 : Nat → Bool, D25 7 = false → D25 0 = true → D25 5 = true → D25 6 = true → ∀ t39_2 t38_2 t37_2 t36_2 t35_2 t34_2 t33_2 t32_2 : Value, ∀ w38 : World, A24 D25 t39_2 t38_2 t37_2 t36_2 t35_2 t34_2 t33_2 t32_2 w38 →
        Run Tryz.prog (sCall (Value.func (.func 73) #[] #[]) [t32_2, t37_2, t38_2]) w38 fun t39_3 w39 =>
        A24 (setD D25 7) t39_3 t38_2 t37_2 t36_2 t35_2 t34_2 t33_2 t32_2 w39) ∧
      True) ∧
    ∀ D25 : Nat → Bool, D25 7 = true → D25 6 = true → D25 5 = true → D25 4 = true → D25 3 = true → D25 2 = true → D25 1 = true → D25 0 = true → ∀ t39_2 t38_2 t37_2 t36_2 t35_2 t34_2 t33_2 t32_2 : Value, ∀ w40 : World, A24 D25 t39_2 t38_2 t37_2 t36_2 t35_2 t34_2 t33_2 t32_2 w40 →
    CondV t39_2 (
      Run Tryz.prog (sOp (.load 49 (.const t5)) 49) w40 fun t40_2 w41 =>
      Run Tryz.prog (sBin .add 3 false true p1 (Value.int .i64 1)) w41 fun t42_2 w42 =>
      Run Tryz.prog (sCall (Value.func (.func 50) #[] #[]) [t40_2, t42_2, p2, t31_2, p4]) w42 fun _ w43 =>
      J17 w43) (
      J17 w40))) ∧
  ∀ _ _ _ _ _ _ _ _ _ _ _ _ _ _ _ _ _ _ _ _ _ : Value, ∀ w44 : World, J17 w44 →
  Run Tryz.prog (sBin .add 3 false true t26 (Value.int .i64 1)) w44 fun t47_2 w45 =>
  I13 t47_2 w45 ∧ m14 t47_2 w45 < m14 t26 w15)) (
    R (.returned (.tuple #[])) w16)))
theorem calls_i_follows {p0 p1 p2 p3 p4 : Value} {w : World} {R : Ending → World → Prop} (h : sh_i_follows p0 p1 p2 p3 p4 w R) : Calls Tryz.prog 50 #[p0, p1, p2, p3, p4] w R :=
  calls_sh (.seq none .leaf (.seq none .leaf (.seq none .leaf (.one (.loop [26] (.seq none .leaf (.seq none .leaf (.seq (some []) .leaf .leaf)))))))) [p0, p1, p2, p3, p4] mixed Tryz.func50 (by kernel_rfl) (by kernel_rfl) h


/- loop.example/prologserver/impl.round$1 : function 51 -/
def sh_i_round_1 (p0 p1 : Value) (w : World) (R : Ending → World → Prop) : Prop :=
  Run Tryz.prog (sOp (.box 47 (.const p0)) 0) w fun t2 w1 =>
  Run Tryz.prog (sOp (.load 29 (.const p1)) 29) w1 fun t3 w2 =>
  Run Tryz.prog (sOp (.load 47 (.const t2)) 47) w2 fun t4 w3 =>
  Run Tryz.prog (sCall (Value.func (.func 52) #[] #[]) [t3, t4]) w3 fun t5 w4 =>
  Run Tryz.prog (sOp (.store 29 (.const p1) (.const t5)) 0) w4 fun _ w5 =>
  R (.returned (.tuple #[])) w5
theorem calls_i_round_1 {p0 p1 : Value} {w : World} {R : Ending → World → Prop} (h : sh_i_round_1 p0 p1 w R) : Calls Tryz.prog 51 #[p0, p1] w R :=
  calls_sh .leaf [p0, p1] mixed Tryz.func51 (by kernel_rfl) (by kernel_rfl) h


/- loop.example/prologserver/impl.insert : function 52 -/
def sh_i_insert (p0 p1 : Value) (w : World) (R : Ending → World → Prop) : Prop :=
  Run Tryz.prog (sOp (.box 47 (.const p1)) 0) w fun t3 w1 =>
  Run Tryz.prog (sOp (.load 47 (.const t3)) 47) w1 fun t9 w2 =>
  Run Tryz.prog (sCall (Value.func (.func 74) #[] #[]) [p0, t9, (Value.func (.func 75) #[] #[])]) w2 fun t10 w3 =>
  Run Tryz.prog (sOp (.extract (.const t10) 0) 3) w3 fun t11 w4 =>
  Run Tryz.prog (sOp (.extract (.const t10) 1) 4) w4 fun t12 w5 =>
  CondV t12 (
    R (.returned p0) w5) (
    Run Tryz.prog (sOp (.load 47 (.const t3)) 47) w5 fun t17 w6 =>
  Run Tryz.prog (sCall (Value.func (.func 39) #[] #[]) [t17]) w6 fun t18 w7 =>
  Run Tryz.prog (sBuildSlice 29 1 [(0, t18)]) w7 fun t19 w8 =>
  Run Tryz.prog (sCall (Value.func (.func 76) #[] #[]) [p0, t11, t19]) w8 fun t20 w9 =>
  R (.returned t20) w9)
theorem calls_i_insert {p0 p1 : Value} {w : World} {R : Ending → World → Prop} (h : sh_i_insert p0 p1 w R) : Calls Tryz.prog 52 #[p0, p1] w R :=
  calls_sh .leaf [p0, p1] mixed Tryz.func52 (by kernel_rfl) (by kernel_rfl) h


/- loop.example/prologserver/spec.GoalValid : function 53 -/
def sh_s_GoalValid (p0 : Value) (w : World) (R : Ending → World → Prop) : Prop :=
  Run Tryz.prog (sOp (.box 47 (.const p0)) 0) w fun t1 w1 =>
  Run Tryz.prog (sOp (.load 47 (.const t1)) 47) w1 fun t3 w2 =>
  Run Tryz.prog (sCall (Value.func (.func 54) #[] #[]) [t3]) w2 fun t4 w3 =>
  GuardV t4 true (
    Run Tryz.prog (sOp (.load 47 (.const t1)) 47) w3 fun t6 w4 =>
    Run Tryz.prog (sCall (Value.func (.func 77) #[] #[]) [t6]) w4 fun t7 w5 =>
    Run Tryz.prog (sOp (.pick (.const t4) (.const t7) (.const (Value.bool false))) 4) w5 fun t8 w6 =>
    R (.returned t8) w6) (
    Run Tryz.prog (sOp (.pick (.const t4) (.const undef) (.const (Value.bool false))) 4) w3 fun t8_2 w7 =>
    R (.returned t8_2) w7)
theorem calls_s_GoalValid {p0 : Value} {w : World} {R : Ending → World → Prop} (h : sh_s_GoalValid p0 w R) : Calls Tryz.prog 53 #[p0] w R :=
  calls_sh .leaf [p0] mixed Tryz.func53 (by kernel_rfl) (by kernel_rfl) h


/- loop.example/prologserver/spec.TermValid : function 54 -/
def sh_s_TermValid (p0 : Value) (w : World) (R : Ending → World → Prop) : Prop :=
  Run Tryz.prog (sOp (.box 47 (.const p0)) 0) w fun t1 w1 =>
  Run Tryz.prog (sOp (.load 47 (.const t1)) 47) w1 fun t3 w2 =>
  Run Tryz.prog (sCall (Value.func (.func 78) #[] #[]) [t3, (Value.int .i64 30)]) w2 fun t4 w3 =>
  GuardV t4 true (
    Run Tryz.prog (sOp (.load 47 (.const t1)) 47) w3 fun t6 w4 =>
    Run Tryz.prog (sCall (Value.func (.func 79) #[] #[]) [t6, (Value.int .i64 120)]) w4 fun t7 w5 =>
    Run Tryz.prog (sBin .leq 3 false true t7 (Value.int .i64 120)) w5 fun t8 w6 =>
    Run Tryz.prog (sOp (.pick (.const t4) (.const t8) (.const (Value.bool false))) 4) w6 fun t9 w7 =>
    R (.returned t9) w7) (
    Run Tryz.prog (sOp (.pick (.const t4) (.const undef) (.const (Value.bool false))) 4) w3 fun t9_2 w8 =>
    R (.returned t9_2) w8)
theorem calls_s_TermValid {p0 : Value} {w : World} {R : Ending → World → Prop} (h : sh_s_TermValid p0 w R) : Calls Tryz.prog 54 #[p0] w R :=
  calls_sh .leaf [p0] mixed Tryz.func54 (by kernel_rfl) (by kernel_rfl) h


/- loop.example/prologserver/spec.l4Plain : function 55 -/
def sh_s_l4Plain (p0 : Value) (w : World) (R : Ending → World → Prop) : Prop :=
  Run Tryz.prog (sOp (.box 47 (.const p0)) 0) w fun t1 w1 =>
  Run Tryz.prog (sOp (.fieldAddr 47 (.const t1) 0) 0) w1 fun t3 w2 =>
  Run Tryz.prog (sOp (.load 3 (.const t3)) 3) w2 fun t4 w3 =>
  Run Tryz.prog (sBin .eql 3 false true t4 (Value.int .i64 3)) w3 fun t5 w4 =>
  GuardV t5 true (
    Run Tryz.prog (sOp (.fieldAddr 47 (.const t1) 2) 0) w4 fun t7 w5 =>
    Run Tryz.prog (sOp (.load 9 (.const t7)) 9) w5 fun t8 w6 =>
    Run Tryz.prog (sCall (Value.func (.func 80) #[] #[]) [t8]) w6 fun t9 w7 =>
    Run Tryz.prog (sOp (.pick (.const t5) (.const t9) (.const (Value.bool false))) 4) w7 fun t10 w8 =>
    GuardV t10 true (
      Run Tryz.prog (sOp (.fieldAddr 47 (.const t1) 2) 0) w8 fun t12 w9 =>
      Run Tryz.prog (sOp (.load 9 (.const t12)) 9) w9 fun t13 w10 =>
      Run Tryz.prog (sOp (.fieldAddr 47 (.const t1) 3) 0) w10 fun t14 w11 =>
      Run Tryz.prog (sOp (.load 29 (.const t14)) 29) w11 fun t15 w12 =>
      Run Tryz.prog (sBuiltin .len #[29] 3 [false] [t15]) w12 fun t16 w13 =>
      Run Tryz.prog (sCall (Value.func (.func 81) #[] #[]) [t13, t16]) w13 fun t17 w14 =>
      Run Tryz.prog (sOp (.unOp .not 4 (.const t17)) 4) w14 fun t18 w15 =>
      Run Tryz.prog (sOp (.pick (.const t10) (.const t18) (.const (Value.bool false))) 4) w15 fun t19 w16 =>
      GuardV t19 true (
        Run Tryz.prog (sOp (.fieldAddr 47 (.const t1) 2) 0) w16 fun t21 w17 =>
        Run Tryz.prog (sOp (.load 9 (.const t21)) 9) w17 fun t22 w18 =>
        Run Tryz.prog (sCall (Value.func (.func 82) #[] #[]) [t22]) w18 fun t23 w19 =>
        Run Tryz.prog (sBin .eql 3 false true t23 (Value.int .i64 0)) w19 fun t24 w20 =>
        Run Tryz.prog (sOp (.pick (.const t19) (.const t24) (.const (Value.bool false))) 4) w20 fun t25 w21 =>
        R (.returned t25) w21) (
        Run Tryz.prog (sOp (.pick (.const t19) (.const undef) (.const (Value.bool false))) 4) w16 fun t25_2 w22 =>
        R (.returned t25_2) w22)) (
      Run Tryz.prog (sOp (.pick (.const t10) (.const undef) (.const (Value.bool false))) 4) w8 fun t19_2 w23 =>
      GuardV t19_2 true (
        Run Tryz.prog (sOp (.fieldAddr 47 (.const t1) 2) 0) w23 fun t21_2 w24 =>
        Run Tryz.prog (sOp (.load 9 (.const t21_2)) 9) w24 fun t22_2 w25 =>
        Run Tryz.prog (sCall (Value.func (.func 82) #[] #[]) [t22_2]) w25 fun t23_2 w26 =>
        Run Tryz.prog (sBin .eql 3 false true t23_2 (Value.int .i64 0)) w26 fun t24_2 w27 =>
        Run Tryz.prog (sOp (.pick (.const t19_2) (.const t24_2) (.const (Value.bool false))) 4) w27 fun t25_3 w28 =>
        R (.returned t25_3) w28) (
        Run Tryz.prog (sOp (.pick (.const t19_2) (.const undef) (.const (Value.bool false))) 4) w23 fun t25_4 w29 =>
        R (.returned t25_4) w29))) (
    Run Tryz.prog (sOp (.pick (.const t5) (.const undef) (.const (Value.bool false))) 4) w4 fun t10_2 w30 =>
    GuardV t10_2 true (
      Run Tryz.prog (sOp (.fieldAddr 47 (.const t1) 2) 0) w30 fun t12_2 w31 =>
      Run Tryz.prog (sOp (.load 9 (.const t12_2)) 9) w31 fun t13_2 w32 =>
      Run Tryz.prog (sOp (.fieldAddr 47 (.const t1) 3) 0) w32 fun t14_2 w33 =>
      Run Tryz.prog (sOp (.load 29 (.const t14_2)) 29) w33 fun t15_2 w34 =>
      Run Tryz.prog (sBuiltin .len #[29] 3 [false] [t15_2]) w34 fun t16_2 w35 =>
      Run Tryz.prog (sCall (Value.func (.func 81) #[] #[]) [t13_2, t16_2]) w35 fun t17_2 w36 =>
      Run Tryz.prog (sOp (.unOp .not 4 (.const t17_2)) 4) w36 fun t18_2 w37 =>
      Run Tryz.prog (sOp (.pick (.const t10_2) (.const t18_2) (.const (Value.bool false))) 4) w37 fun t19_3 w38 =>
      GuardV t19_3 true (
        Run Tryz.prog (sOp (.fieldAddr 47 (.const t1) 2) 0) w38 fun t21_3 w39 =>
        Run Tryz.prog (sOp (.load 9 (.const t21_3)) 9) w39 fun t22_3 w40 =>
        Run Tryz.prog (sCall (Value.func (.func 82) #[] #[]) [t22_3]) w40 fun t23_3 w41 =>
        Run Tryz.prog (sBin .eql 3 false true t23_3 (Value.int .i64 0)) w41 fun t24_3 w42 =>
        Run Tryz.prog (sOp (.pick (.const t19_3) (.const t24_3) (.const (Value.bool false))) 4) w42 fun t25_5 w43 =>
        R (.returned t25_5) w43) (
        Run Tryz.prog (sOp (.pick (.const t19_3) (.const undef) (.const (Value.bool false))) 4) w38 fun t25_6 w44 =>
        R (.returned t25_6) w44)) (
      Run Tryz.prog (sOp (.pick (.const t10_2) (.const undef) (.const (Value.bool false))) 4) w30 fun t19_4 w45 =>
      GuardV t19_4 true (
        Run Tryz.prog (sOp (.fieldAddr 47 (.const t1) 2) 0) w45 fun t21_4 w46 =>
        Run Tryz.prog (sOp (.load 9 (.const t21_4)) 9) w46 fun t22_4 w47 =>
        Run Tryz.prog (sCall (Value.func (.func 82) #[] #[]) [t22_4]) w47 fun t23_4 w48 =>
        Run Tryz.prog (sBin .eql 3 false true t23_4 (Value.int .i64 0)) w48 fun t24_4 w49 =>
        Run Tryz.prog (sOp (.pick (.const t19_4) (.const t24_4) (.const (Value.bool false))) 4) w49 fun t25_7 w50 =>
        R (.returned t25_7) w50) (
        Run Tryz.prog (sOp (.pick (.const t19_4) (.const undef) (.const (Value.bool false))) 4) w45 fun t25_8 w51 =>
        R (.returned t25_8) w51)))
theorem calls_s_l4Plain {p0 : Value} {w : World} {R : Ending → World → Prop} (h : sh_s_l4Plain p0 w R) : Calls Tryz.prog 55 #[p0] w R :=
  calls_sh .leaf [p0] mixed Tryz.func55 (by kernel_rfl) (by kernel_rfl) h


/- loop.example/prologserver/spec.l16Put : function 56 -/
def sh_s_l16Put (p0 p1 : Value) (w : World) (R : Ending → World → Prop) : Prop :=
  Run Tryz.prog (sOp (.box 47 (.const p1)) 0) w fun t3 w1 =>
  (∃ (I2 : Value → World → Prop) (m3 : Value → World → Nat), I2 (Value.int .i64 0) w1 ∧
  ∀ t5 _ _ t19 t18 t17 t16 t15 t14 t13 t12 t11 t10 t9 t8 t7 : Value, ∀ w4 : World, I2 t5 w4 →
  (∃ A5 : (Nat → Bool) → Value → Value → Value → Value → Value → Value → Value → Value → Value → Value → Value → Value → Value → World → Prop, A5 (fun _ => false) t19 t18 t17 t16 t15 t14 t13 t12 t11 t10 t9 t8 t7 { w4 with drawn := w4.drawn + 1 } ∧ (
    (∀ D6 : Nat → Bool, D6 0 = false → ∀ t19_2 t18_2 t17_2 t16_2 t15_2 t14_2 t13_2 t12_2 t11_2 t10_2 t9_2 t8_2 t7_2 : Value, ∀ w7 : World, A5 D6 t19_2 t18_2 t17_2 t16_2 t15_2 t14_2 t13_2 t12_2 t11_2 t10_2 t9_2 t8_2 t7_2 w7 →
      A5 (setD D6 0) t19_2 t18_2 t17_2 t16_2 t15_2 t14_2 t13_2 t12_2 t11_2 t10_2 t9_2 t8_2 t5 w7) ∧
    (∀ D6 : Nat → Bool, D6 1 = false → ∀ t19_2 t18_2 t17_2 t16_2 t15_2 t14_2 t13_2 t12_2 t11_2 t10_2 t9_2 t8_2 t7_2 : Value, ∀ w8 : World, A5 D6 t19_2 t18_2 t17_2 t16_2 t15_2 t14_2 t13_2 t12_2 t11_2 t10_2 t9_2 t8_2 t7_2 w8 →
      A5 (setD D6 1) t19_2 t18_2 t17_2 t16_2 t15_2 t14_2 t13_2 t12_2 t11_2 t10_2 t9_2 p0 t7_2 w8) ∧
    (∀ D6 : Nat → Bool, D6 2 = false → D6 1 = true → ∀ t19_2 t18_2 t17_2 t16_2 t15_2 t14_2 t13_2 t12_2 t11_2 t10_2 t9_2 t8_2 t7_2 : Value, ∀ w9 : World, A5 D6 t19_2 t18_2 t17_2 t16_2 t15_2 t14_2 t13_2 t12_2 t11_2 t10_2 t9_2 t8_2 t7_2 w9 →
      Run Tryz.prog (sBuiltin .len #[29] 3 [false] [t8_2]) w9 fun t9_3 w10 =>
      A5 (setD D6 2) t19_2 t18_2 t17_2 t16_2 t15_2 t14_2 t13_2 t12_2 t11_2 t10_2 t9_3 t8_2 t7_2 w10) ∧
    (∀ D6 : Nat → Bool, D6 3 = false → D6 0 = true → D6 2 = true → ∀ t19_2 t18_2 t17_2 t16_2 t15_2 t14_2 t13_2 t12_2 t11_2 t10_2 t9_2 t8_2 t7_2 : Value, ∀ w11 : World, A5 D6 t19_2 t18_2 t17_2 t16_2 t15_2 t14_2 t13_2 t12_2 t11_2 t10_2 t9_2 t8_2 t7_2 w11 →
      Run Tryz.prog (sBin .lss 3 false false t7_2 t9_2) w11 fun t10_3 w12 =>
      A5 (setD D6 3) t19_2 t18_2 t17_2 t16_2 t15_2 t14_2 t13_2 t12_2 t11_2 t10_3 t9_2 t8_2 t7_2 w12) ∧
    (∀ D6 : Nat → Bool, D6 4 = false → D6 3 = true → ∀ t19_2 t18_2 t17_2 t16_2 t15_2 t14_2 t13_2 t12_2 t11_2 t10_2 t9_2 t8_2 t7_2 : Value, ∀ w13 : World, A5 D6 t19_2 t18_2 t17_2 t16_2 t15_2 t14_2 t13_2 t12_2 t11_2 t10_2 t9_2 t8_2 t7_2 w13 →
      A5 (setD D6 4) t19_2 t18_2 t17_2 t16_2 t15_2 t14_2 t13_2 t12_2 t10_2 t10_2 t9_2 t8_2 t7_2 w13) ∧
    (∀ D6 : Nat → Bool, D6 5 = false → D6 4 = true → ∀ t19_2 t18_2 t17_2 t16_2 t15_2 t14_2 t13_2 t12_2 t11_2 t10_2 t9_2 t8_2 t7_2 : Value, ∀ w14 : World, A5 D6 t19_2 t18_2 t17_2 t16_2 t15_2 t14_2 t13_2 t12_2 t11_2 t10_2 t9_2 t8_2 t7_2 w14 →
      GuardV t11_2 true (A5 (setD D6 5) t19_2 t18_2 t17_2 t16_2 t15_2 t14_2 t13_2 p0 t11_2 t10_2 t9_2 t8_2 t7_2 w14) (A5 (setD D6 5) t19_2 t18_2 t17_2 t16_2 t15_2 t14_2 t13_2 undef t11_2 t10_2 t9_2 t8_2 t7_2 w14)) ∧
    (∀ D6 : Nat → Bool, D6 6 = false → D6 4 = true → ∀ t19_2 t18_2 t17_2 t16_2 t15_2 t14_2 t13_2 t12_2 t11_2 t10_2 t9_2 t8_2 t7_2 : Value, ∀ w15 : World, A5 D6 t19_2 t18_2 t17_2 t16_2 t15_2 t14_2 t13_2 t12_2 t11_2 t10_2 t9_2 t8_2 t7_2 w15 →
      GuardV t11_2 true (A5 (setD D6 6) t19_2 t18_2 t17_2 t16_2 t15_2 t14_2 t5 t12_2 t11_2 t10_2 t9_2 t8_2 t7_2 w15) (A5 (setD D6 6) t19_2 t18_2 t17_2 t16_2 t15_2 t14_2 undef t12_2 t11_2 t10_2 t9_2 t8_2 t7_2 w15)) ∧
    (∀ D6 : Nat → Bool, D6 7 = false → D6 5 = true → D6 6 = true → D6 4 = true → ∀ t19_2 t18_2 t17_2 t16_2 t15_2 t14_2 t13_2 t12_2 t11_2 t10_2 t9_2 t8_2 t7_2 : Value, ∀ w16 : World, A5 D6 t19_2 t18_2 t17_2 t16_2 t15_2 t14_2 t13_2 t12_2 t11_2 t10_2 t9_2 t8_2 t7_2 w16 →
      GuardV t11_2 true (Run Tryz.prog (sOp (.indexAddr 29 (.const t12_2) (.const t13_2)) 0) w16 fun t14_3 w17 =>
      A5 (setD D6 7) t19_2 t18_2 t17_2 t16_2 t15_2 t14_3 t13_2 t12_2 t11_2 t10_2 t9_2 t8_2 t7_2 w17) (A5 (setD D6 7) t19_2 t18_2 t17_2 t16_2 t15_2 undef t13_2 t12_2 t11_2 t10_2 t9_2 t8_2 t7_2 w16)) ∧
    (∀ D6 : Nat → Bool, D6 8 = false → D6 7 = true → D6 4 = true → ∀ t19_2 t18_2 t17_2 t16_2 t15_2 t14_2 t13_2 t12_2 t11_2 t10_2 t9_2 t8_2 t7_2 : Value, ∀ w18 : World, A5 D6 t19_2 t18_2 t17_2 t16_2 t15_2 t14_2 t13_2 t12_2 t11_2 t10_2 t9_2 t8_2 t7_2 w18 →
      GuardV t11_2 true (Run Tryz.prog (sOp (.load 47 (.const t14_2)) 47) w18 fun t15_3 w19 =>
      A5 (setD D6 8) t19_2 t18_2 t17_2 t16_2 t15_3 t14_2 t13_2 t12_2 t11_2 t10_2 t9_2 t8_2 t7_2 w19) (A5 (setD D6 8) t19_2 t18_2 t17_2 t16_2 undef t14_2 t13_2 t12_2 t11_2 t10_2 t9_2 t8_2 t7_2 w18)) ∧
    (∀ D6 : Nat → Bool, D6 9 = false → D6 4 = true → ∀ t19_2 t18_2 t17_2 t16_2 t15_2 t14_2 t13_2 t12_2 t11_2 t10_2 t9_2 t8_2 t7_2 : Value, ∀ w20 : World, A5 D6 t19_2 t18_2 t17_2 t16_2 t15_2 t14_2 t13_2 t12_2 t11_2 t10_2 t9_2 t8_2 t7_2 w20 →
      GuardV t11_2 true (Run Tryz.prog (sOp (.load 47 (.const t3)) 47) w20 fun t16_3 w21 =>
      A5 (setD D6 9) t19_2 t18_2 t17_2 t16_3 t15_2 t14_2 t13_2 t12_2 t11_2 t10_2 t9_2 t8_2 t7_2 w21) (A5 (setD D6 9) t19_2 t18_2 t17_2 undef t15_2 t14_2 t13_2 t12_2 t11_2 t10_2 t9_2 t8_2 t7_2 w20)) ∧
    (∀ D6 : Nat → Bool, D6 10 = false → D6 8 = true → D6 9 = true → D6 4 = true → D6 4 = true → ∀ t19_2 t18_2 t17_2 t16_2 t15_2 t14_2 t13_2 t12_2 t11_2 t10_2 t9_2 t8_2 t7_2 : Value, ∀ w22 : World, A5 D6 t19_2 t18_2 t17_2 t16_2 t15_2 t14_2 t13_2 t12_2 t11_2 t10_2 t9_2 t8_2 t7_2 w22 →
      GuardV t11_2 true (Run Tryz.prog (sCall (Value.func (.func 83) #[] #[]) [t15_2, t16_2]) w22 fun t17_3 w23 =>
      A5 (setD D6 10) t19_2 t18_2 t17_3 t16_2 t15_2 t14_2 t13_2 t12_2 t11_2 t10_2 t9_2 t8_2 t7_2 w23) (A5 (setD D6 10) t19_2 t18_2 undef t16_2 t15_2 t14_2 t13_2 t12_2 t11_2 t10_2 t9_2 t8_2 t7_2 w22)) ∧
    (∀ D6 : Nat → Bool, D6 11 = false → D6 10 = true → D6 4 = true → ∀ t19_2 t18_2 t17_2 t16_2 t15_2 t14_2 t13_2 t12_2 t11_2 t10_2 t9_2 t8_2 t7_2 : Value, ∀ w24 : World, A5 D6 t19_2 t18_2 t17_2 t16_2 t15_2 t14_2 t13_2 t12_2 t11_2 t10_2 t9_2 t8_2 t7_2 w24 →
      GuardV t11_2 true (Run Tryz.prog (sBin .lss 3 false true t17_2 (Value.int .i64 0)) w24 fun t18_3 w25 =>
      A5 (setD D6 11) t19_2 t18_3 t17_2 t16_2 t15_2 t14_2 t13_2 t12_2 t11_2 t10_2 t9_2 t8_2 t7_2 w25) (A5 (setD D6 11) t19_2 undef t17_2 t16_2 t15_2 t14_2 t13_2 t12_2 t11_2 t10_2 t9_2 t8_2 t7_2 w24)) ∧
    (∀ D6 : Nat → Bool, D6 12 = false → D6 4 = true → D6 11 = true → ∀ t19_2 t18_2 t17_2 t16_2 t15_2 t14_2 t13_2 t12_2 t11_2 t10_2 t9_2 t8_2 t7_2 : Value, ∀ w26 : World, A5 D6 t19_2 t18_2 t17_2 t16_2 t15_2 t14_2 t13_2 t12_2 t11_2 t10_2 t9_2 t8_2 t7_2 w26 →
      Run Tryz.prog (sOp (.pick (.const t11_2) (.const t18_2) (.const (Value.bool false))) 4) w26 fun t19_3 w27 =>
      A5 (setD D6 12) t19_3 t18_2 t17_2 t16_2 t15_2 t14_2 t13_2 t12_2 t11_2 t10_2 t9_2 t8_2 t7_2 w27) ∧
    True) ∧
  ∀ D6 : Nat → Bool, D6 12 = true → D6 11 = true → D6 10 = true → D6 9 = true → D6 8 = true → D6 7 = true → D6 6 = true → D6 5 = true → D6 4 = true → D6 3 = true → D6 2 = true → D6 1 = true → D6 0 = true → ∀ t19_2 t18_2 t17_2 t16_2 t15_2 t14_2 t13_2 t12_2 t11_2 t10_2 t9_2 t8_2 t7_2 : Value, ∀ w28 : World, A5 D6 t19_2 t18_2 t17_2 t16_2 t15_2 t14_2 t13_2 t12_2 t11_2 t10_2 t9_2 t8_2 t7_2 w28 →
  CondV t19_2 (
    Run Tryz.prog (sBin .add 3 false true t5 (Value.int .i64 1)) w28 fun t21_2 w29 =>
  I2 t21_2 w29 ∧ m3 t21_2 w29 < m3 t5 w4) (
    (∃ A30 : (Nat → Bool) → Value → Value → Value → Value → Value → Value → Value → Value → Value → Value → Value → Value → World → Prop, A30 (fun _ => false) undef undef undef undef undef undef undef undef undef undef undef undef { w28 with drawn := w28.drawn + 1 } ∧ (
    (∀ D31 : Nat → Bool, D31 0 = false → ∀ t33 t32 t31 t30 t29 t28 t27 t26 t25 t24 t23 t22 : Value, ∀ w32 : World, A30 D31 t33 t32 t31 t30 t29 t28 t27 t26 t25 t24 t23 t22 w32 →
      A30 (setD D31 0) t33 t32 t31 t30 t29 t28 t27 t26 t25 t24 t23 t5 w32) ∧
    (∀ D31 : Nat → Bool, D31 1 = false → ∀ t33 t32 t31 t30 t29 t28 t27 t26 t25 t24 t23 t22 : Value, ∀ w33 : World, A30 D31 t33 t32 t31 t30 t29 t28 t27 t26 t25 t24 t23 t22 w33 →
      A30 (setD D31 1) t33 t32 t31 t30 t29 t28 t27 t26 t25 t24 p0 t22 w33) ∧
    (∀ D31 : Nat → Bool, D31 2 = false → D31 1 = true → ∀ t33 t32 t31 t30 t29 t28 t27 t26 t25 t24 t23 t22 : Value, ∀ w34 : World, A30 D31 t33 t32 t31 t30 t29 t28 t27 t26 t25 t24 t23 t22 w34 →
      Run Tryz.prog (sBuiltin .len #[29] 3 [false] [t23]) w34 fun t24_2 w35 =>
      A30 (setD D31 2) t33 t32 t31 t30 t29 t28 t27 t26 t25 t24_2 t23 t22 w35) ∧
    (∀ D31 : Nat → Bool, D31 3 = false → D31 0 = true → D31 2 = true → ∀ t33 t32 t31 t30 t29 t28 t27 t26 t25 t24 t23 t22 : Value, ∀ w36 : World, A30 D31 t33 t32 t31 t30 t29 t28 t27 t26 t25 t24 t23 t22 w36 →
      Run Tryz.prog (sBin .lss 3 false false t22 t24) w36 fun t25_2 w37 =>
      A30 (setD D31 3) t33 t32 t31 t30 t29 t28 t27 t26 t25_2 t24 t23 t22 w37) ∧
    (∀ D31 : Nat → Bool, D31 4 = false → D31 3 = true → ∀ t33 t32 t31 t30 t29 t28 t27 t26 t25 t24 t23 t22 : Value, ∀ w38 : World, A30 D31 t33 t32 t31 t30 t29 t28 t27 t26 t25 t24 t23 t22 w38 →
      A30 (setD D31 4) t33 t32 t31 t30 t29 t28 t27 t25 t25 t24 t23 t22 w38) ∧
    (∀ D31 : Nat → Bool, D31 5 = false → D31 4 = true → ∀ t33 t32 t31 t30 t29 t28 t27 t26 t25 t24 t23 t22 : Value, ∀ w39 : World, A30 D31 t33 t32 t31 t30 t29 t28 t27 t26 t25 t24 t23 t22 w39 →
      GuardV t26 true (A30 (setD D31 5) t33 t32 t31 t30 t29 t28 p0 t26 t25 t24 t23 t22 w39) (A30 (setD D31 5) t33 t32 t31 t30 t29 t28 undef t26 t25 t24 t23 t22 w39)) ∧
    (∀ D31 : Nat → Bool, D31 6 = false → D31 4 = true → ∀ t33 t32 t31 t30 t29 t28 t27 t26 t25 t24 t23 t22 : Value, ∀ w40 : World, A30 D31 t33 t32 t31 t30 t29 t28 t27 t26 t25 t24 t23 t22 w40 →
      GuardV t26 true (A30 (setD D31 6) t33 t32 t31 t30 t29 t5 t27 t26 t25 t24 t23 t22 w40) (A30 (setD D31 6) t33 t32 t31 t30 t29 undef t27 t26 t25 t24 t23 t22 w40)) ∧
    (∀ D31 : Nat → Bool, D31 7 = false → D31 5 = true → D31 6 = true → D31 4 = true → ∀ t33 t32 t31 t30 t29 t28 t27 t26 t25 t24 t23 t22 : Value, ∀ w41 : World, A30 D31 t33 t32 t31 t30 t29 t28 t27 t26 t25 t24 t23 t22 w41 →
      GuardV t26 true (Run Tryz.prog (sOp (.indexAddr 29 (.const t27) (.const t28)) 0) w41 fun t29_2 w42 =>
      A30 (setD D31 7) t33 t32 t31 t30 t29_2 t28 t27 t26 t25 t24 t23 t22 w42) (A30 (setD D31 7) t33 t32 t31 t30 undef t28 t27 t26 t25 t24 t23 t22 w41)) ∧
    (∀ D31 : Nat → Bool, D31 8 = false → D31 7 = true → D31 4 = true → ∀ t33 t32 t31 t30 t29 t28 t27 t26 t25 t24 t23 t22 : Value, ∀ w43 : World, A30 D31 t33 t32 t31 t30 t29 t28 t27 t26 t25 t24 t23 t22 w43 →
      GuardV t26 true (Run Tryz.prog (sOp (.load 47 (.const t29)) 47) w43 fun t30_2 w44 =>
      A30 (setD D31 8) t33 t32 t31 t30_2 t29 t28 t27 t26 t25 t24 t23 t22 w44) (A30 (setD D31 8) t33 t32 t31 undef t29 t28 t27 t26 t25 t24 t23 t22 w43)) ∧
    (∀ D31 : Nat → Bool, D31 9 = false → D31 4 = true → ∀ t33 t32 t31 t30 t29 t28 t27 t26 t25 t24 t23 t22 : Value, ∀ w45 : World, A30 D31 t33 t32 t31 t30 t29 t28 t27 t26 t25 t24 t23 t22 w45 →
      GuardV t26 true (Run Tryz.prog (sOp (.load 47 (.const t3)) 47) w45 fun t31_2 w46 =>
      A30 (setD D31 9) t33 t32 t31_2 t30 t29 t28 t27 t26 t25 t24 t23 t22 w46) (A30 (setD D31 9) t33 t32 undef t30 t29 t28 t27 t26 t25 t24 t23 t22 w45)) ∧
    (∀ D31 : Nat → Bool, D31 10 = false → D31 8 = true → D31 9 = true → D31 4 = true → D31 4 = true → ∀ t33 t32 t31 t30 t29 t28 t27 t26 t25 t24 t23 t22 : Value, ∀ w47 : World, A30 D31 t33 t32 t31 t30 t29 t28 t27 t26 t25 t24 t23 t22 w47 →
      GuardV t26 true (Run Tryz.prog (sCall (Value.func (.func 84) #[] #[]) [t30, t31]) w47 fun t32_2 w48 =>
      A30 (setD D31 10) t33 t32_2 t31 t30 t29 t28 t27 t26 t25 t24 t23 t22 w48) (A30 (setD D31 10) t33 undef t31 t30 t29 t28 t27 t26 t25 t24 t23 t22 w47)) ∧
    (∀ D31 : Nat → Bool, D31 11 = false → D31 4 = true → D31 10 = true → ∀ t33 t32 t31 t30 t29 t28 t27 t26 t25 t24 t23 t22 : Value, ∀ w49 : World, A30 D31 t33 t32 t31 t30 t29 t28 t27 t26 t25 t24 t23 t22 w49 →
      Run Tryz.prog (sOp (.pick (.const t26) (.const t32) (.const (Value.bool false))) 4) w49 fun t33_2 w50 =>
      A30 (setD D31 11) t33_2 t32 t31 t30 t29 t28 t27 t26 t25 t24 t23 t22 w50) ∧
    True) ∧
  ∀ D31 : Nat → Bool, D31 11 = true → D31 10 = true → D31 9 = true → D31 8 = true → D31 7 = true → D31 6 = true → D31 5 = true → D31 4 = true → D31 3 = true → D31 2 = true → D31 1 = true → D31 0 = true → ∀ t33 t32 t31 t30 t29 t28 t27 t26 t25 t24 t23 t22 : Value, ∀ w51 : World, A30 D31 t33 t32 t31 t30 t29 t28 t27 t26 t25 t24 t23 t22 w51 →
  CondV t33 (
    R (.returned p0) w51) (
    Run Tryz.prog (sBuildSlice 29 0 []) w51 fun t35 w52 =>
  Run Tryz.prog (sOp (.slice 29 (.const p0) none (some (.const t5)) none) 29) w52 fun t38 w53 =>
  Run Tryz.prog (sBuiltin .append #[29, 29] 29 [false, false] [t35, t38]) w53 fun t39 w54 =>
  Run Tryz.prog (sOp (.load 47 (.const t3)) 47) w54 fun t41 w55 =>
  Run Tryz.prog (sBuildSlice 29 1 [(0, t41)]) w55 fun t42 w56 =>
  Run Tryz.prog (sBuiltin .append #[29, 29] 29 [false, false] [t39, t42]) w56 fun t43 w57 =>
  Run Tryz.prog (sOp (.slice 29 (.const p0) (some (.const t5)) none none) 29) w57 fun t47 w58 =>
  Run Tryz.prog (sBuiltin .append #[29, 29] 29 [false, false] [t43, t47]) w58 fun t48 w59 =>
  R (.returned t48) w59)))))
theorem calls_s_l16Put {p0 p1 : Value} {w : World} {R : Ending → World → Prop} (h : sh_s_l16Put p0 p1 w R) : Calls Tryz.prog 56 #[p0, p1] w R :=
  calls_sh (.seq none .leaf (.seq none .leaf (.seq none (.one (.loop [5] .leaf)) .leaf))) [p0, p1] mixed Tryz.func56 (by kernel_rfl) (by kernel_rfl) h


/- loop.example/prologserver/spec.l16Full : function 57 -/
def sh_s_l16Full (p0 p1 : Value) (w : World) (R : Ending → World → Prop) : Prop :=
  Run Tryz.prog (sOp (.box 47 (.const p0)) 0) w fun t2 w1 =>
  Run Tryz.prog (sOp (.alloc 47) 0) w1 fun t4 w2 =>
  Run Tryz.prog (sOp (.fieldAddr 47 (.const t2) 0) 0) w2 fun t8 w3 =>
  Run Tryz.prog (sOp (.load 3 (.const t8)) 3) w3 fun t9 w4 =>
  Run Tryz.prog (sOp (.fieldAddr 47 (.const t2) 2) 0) w4 fun t10 w5 =>
  Run Tryz.prog (sOp (.load 9 (.const t10)) 9) w5 fun t11 w6 =>
  Run Tryz.prog (sBuild 47 [(0, t9), (2, t11)]) w6 fun t12 w7 =>
  Run Tryz.prog (sOp (.alloc 47) 0) w7 fun t5 w8 =>
  Run Tryz.prog (sOp (.store 47 (.const t5) (.const t12)) 0) w8 fun _u w9 =>
  (∃ (I10 : Value → World → Prop) (m11 : Value → World → Nat), I10 (Value.int .i64 0) w9 ∧
  ∀ t6 _ _ t39 t38 t37 t36 t35 t34 t33 _ _ _ _ _ _ _ _ _ _ _ _ _ _ _ _ _ _ _ : Value, ∀ w12 : World, I10 t6 w12 →
  Run Tryz.prog (sOp (.fieldAddr 47 (.const t2) 3) 0) w12 fun t14_2 w13 =>
  Run Tryz.prog (sOp (.load 29 (.const t14_2)) 29) w13 fun t15_2 w14 =>
  Run Tryz.prog (sBuiltin .len #[29] 3 [false] [t15_2]) w14 fun t16_2 w15 =>
  Run Tryz.prog (sBin .lss 3 false false t6 t16_2) w15 fun t17_2 w16 =>
  CondV t17_2 (
    Run Tryz.prog (sOp (.fieldAddr 47 (.const t2) 3) 0) w16 fun t20_2 w17 =>
  Run Tryz.prog (sOp (.load 29 (.const t20_2)) 29) w17 fun t21_2 w18 =>
  Run Tryz.prog (sOp (.indexAddr 29 (.const t21_2) (.const t6)) 0) w18 fun t23_2 w19 =>
  Run Tryz.prog (sOp (.load 47 (.const t23_2)) 47) w19 fun t24_2 w20 =>
  Run Tryz.prog (sOp (.alloc 47) 0) w20 fun t7_2 w21 =>
  Run Tryz.prog (sOp (.store 47 (.const t7_2) (.const t24_2)) 0) w21 fun _u w22 =>
  (∃ J23 : World → Prop, (
    Run Tryz.prog (sOp (.fieldAddr 47 (.const t7_2) 0) 0) w22 fun t25_2 w24 =>
    Run Tryz.prog (sOp (.load 3 (.const t25_2)) 3) w24 fun t26_2 w25 =>
    Run Tryz.prog (sBin .eql 3 false true t26_2 (Value.int .i64 1)) w25 fun t27_2 w26 =>
    CondV t27_2 (
      Run Tryz.prog (sOp (.fieldAddr 47 (.const t7_2) 1) 0) w26 fun t29_2 w27 =>
      Run Tryz.prog (sOp (.load 3 (.const t29_2)) 3) w27 fun t30_2 w28 =>
      Run Tryz.prog (sOp (.indexAddr 29 (.const p1) (.const t30_2)) 0) w28 fun t31_2 w29 =>
      Run Tryz.prog (sOp (.load 47 (.const t31_2)) 47) w29 fun t32_2 w30 =>
      Run Tryz.prog (sOp (.store 47 (.const t7_2) (.const t32_2)) 0) w30 fun _u w31 =>
      J23 w31) (
      J23 w26)) ∧
  ∀ _ _ _ _ _ _ _ _ : Value, ∀ w32 : World, J23 w32 →
  (∃ A33 : (Nat → Bool) → Value → Value → Value → Value → Value → Value → Value → World → Prop, A33 (fun _ => false) t39 t38 t37 t36 t35 t34 t33 { w32 with drawn := w32.drawn + 1 } ∧ (
    (∀ D34 : Nat → Bool, D34 0 = false → ∀ t39_2 t38_2 t37_2 t36_2 t35_2 t34_2 t33_2 : Value, ∀ w35 : World, A33 D34 t39_2 t38_2 t37_2 t36_2 t35_2 t34_2 t33_2 w35 →
      Run Tryz.prog (sOp (.fieldAddr 47 (.const t5) 3) 0) w35 fun t33_3 w36 =>
      A33 (setD D34 0) t39_2 t38_2 t37_2 t36_2 t35_2 t34_2 t33_3 w36) ∧
    (∀ D34 : Nat → Bool, D34 1 = false → D34 0 = true → ∀ t39_2 t38_2 t37_2 t36_2 t35_2 t34_2 t33_2 : Value, ∀ w37 : World, A33 D34 t39_2 t38_2 t37_2 t36_2 t35_2 t34_2 t33_2 w37 →
      Run Tryz.prog (sOp (.load 29 (.const t33_2)) 29) w37 fun t34_3 w38 =>
      A33 (setD D34 1) t39_2 t38_2 t37_2 t36_2 t35_2 t34_3 t33_2 w38) ∧
    (∀ D34 : Nat → Bool, D34 2 = false → ∀ t39_2 t38_2 t37_2 t36_2 t35_2 t34_2 t33_2 : Value, ∀ w39 : World, A33 D34 t39_2 t38_2 t37_2 t36_2 t35_2 t34_2 t33_2 w39 →
      Run Tryz.prog (sOp (.load 47 (.const t7_2)) 47) w39 fun t35_3 w40 =>
      A33 (setD D34 2) t39_2 t38_2 t37_2 t36_2 t35_3 t34_2 t33_2 w40) ∧
    (∀ D34 : Nat → Bool, D34 3 = false → D34 2 = true → ∀ t39_2 t38_2 t37_2 t36_2 t35_2 t34_2 t33_2 : Value, ∀ w41 : World, A33 D34 t39_2 t38_2 t37_2 t36_2 t35_2 t34_2 t33_2 w41 →
      Run Tryz.prog (sCall (Value.func (.func 38) #[] #[]) [t35_2]) w41 fun t36_3 w42 =>
      A33 (setD D34 3) t39_2 t38_2 t37_2 t36_3 t35_2 t34_2 t33_2 w42) ∧
    (∀ D34 : Nat → Bool, D34 4 = false → D34 3 = true → ∀ t39_2 t38_2 t37_2 t36_2 t35_2 t34_2 t33_2 : Value, ∀ w43 : World, A33 D34 t39_2 t38_2 t37_2 t36_2 t35_2 t34_2 t33_2 w43 →
      Run Tryz.prog (sBuildSlice 29 1 [(0, t36_2)]) w43 fun t37_3 w44 =>
      A33 (setD D34 4) t39_2 t38_2 t37_3 t36_2 t35_2 t34_2 t33_2 w44) ∧
    (∀ D34 : Nat → Bool, D34 5 = false → D34 1 = true → D34 4 = true → D34 3 = true → ∀ t39_2 t38_2 t37_2 t36_2 t35_2 t34_2 t33_2 : Value, ∀ w45 : World, A33 D34 t39_2 t38_2 t37_2 t36_2 t35_2 t34_2 t33_2 w45 →
      Run Tryz.prog (sBuiltin .append #[29, 29] 29 [false, false] [t34_2, t37_2]) w45 fun t38_3 w46 =>
      A33 (setD D34 5) t39_2 t38_3 t37_2 t36_2 t35_2 t34_2 t33_2 w46) ∧
    (∀ D34 : Nat → Bool, D34 6 = false → D34 0 = true → D34 1 = true → D34 2 = true → D34 3 = true → D34 4 = true → D34 5 = true → ∀ t39_2 t38_2 t37_2 t36_2 t35_2 t34_2 t33_2 : Value, ∀ w47 : World, A33 D34 t39_2 t38_2 t37_2 t36_2 t35_2 t34_2 t33_2 w47 →
      Run Tryz.prog (sOp (.fieldAddr 47 (.const t5) 3) 0) w47 fun t39_3 w48 =>
      A33 (setD D34 6) t39_3 t38_2 t37_2 t36_2 t35_2 t34_2 t33_2 w48) ∧
    (∀ D34 : Nat → Bool, D34 7 = false → D34 6 = true → D34 5 = true → D34 5 = true → D34 0 = true → D34 1 = true → D34 2 = true → D34 3 = true → D34 4 = true → D34 5 = true → ∀ t39_2 t38_2 t37_2 t36_2 t35_2 t34_2 t33_2 : Value, ∀ w49 : World, A33 D34 t39_2 t38_2 t37_2 t36_2 t35_2 t34_2 t33_2 w49 →
      Run Tryz.prog (sOp (.store 29 (.const t39_2) (.const t38_2)) 0) w49 fun _u w50 =>
      A33 (setD D34 7) t39_2 t38_2 t37_2 t36_2 t35_2 t34_2 t33_2 w50) ∧
    True) ∧
  ∀ D34 : Nat → Bool, D34 7 = true → D34 6 = true → D34 5 = true → D34 4 = true → D34 3 = true → D34 2 = true → D34 1 = true → D34 0 = true → ∀ t39_2 t38_2 t37_2 t36_2 t35_2 t34_2 t33_2 : Value, ∀ w51 : World, A33 D34 t39_2 t38_2 t37_2 t36_2 t35_2 t34_2 t33_2 w51 →
  Run Tryz.prog (sBin .add 3 false true t6 (Value.int .i64 1)) w51 fun t19_2 w52 =>
  I10 t19_2 w52 ∧ m11 t19_2 w52 < m11 t6 w12))) (
    Run Tryz.prog (sOp (.load 47 (.const t5)) 47) w16 fun t40 w53 =>
  Run Tryz.prog (sOp (.store 47 (.const t4) (.const t40)) 0) w53 fun _ w54 =>
  (LoadV Tryz.prog 47 t4 w54 fun r0 => R (.returned r0) w54)))
theorem calls_s_l16Full {p0 p1 : Value} {w : World} {R : Ending → World → Prop} (h : sh_s_l16Full p0 p1 w R) : Calls Tryz.prog 57 #[p0, p1] w R :=
  calls_sh (.seq none .leaf (.seq none .leaf (.seq none (.seq none .leaf (.one (.loop [6] (.seq none .leaf (.seq none (.one (.seq none .leaf (.seq (some []) .leaf .leaf))) .leaf))))) .leaf))) [p0, p1] mixed Tryz.func57 (by kernel_rfl) (by kernel_rfl) h


/- loop.example/prologserver/spec.l16Match : function 58 -/
def sh_s_l16Match (p0 p1 p2 : Value) (w : World) (R : Ending → World → Prop) : Prop :=
  Run Tryz.prog (sOp (.box 47 (.const p0)) 0) w fun t3 w1 =>
  Run Tryz.prog (sOp (.box 47 (.const p1)) 0) w1 fun t4 w2 =>
  Run Tryz.prog (sBuildSlice 29 0 []) w2 fun t9 w3 =>
  Run Tryz.prog (sBuiltin .append #[29, 29] 29 [false, false] [t9, p2]) w3 fun t11 w4 =>
  Run Tryz.prog (sOp (.load 47 (.const t3)) 47) w4 fun t13 w5 =>
  Run Tryz.prog (sOp (.load 47 (.const t4)) 47) w5 fun t14 w6 =>
  Run Tryz.prog (sCall (Value.func (.func 85) #[] #[]) [t13, t14, t11]) w6 fun t16 w7 =>
  R (.returned (.tuple #[t11, t16])) w7
theorem calls_s_l16Match {p0 p1 p2 : Value} {w : World} {R : Ending → World → Prop} (h : sh_s_l16Match p0 p1 p2 w R) : Calls Tryz.prog 58 #[p0, p1, p2] w R :=
  calls_sh .leaf [p0, p1, p2] mixed Tryz.func58 (by kernel_rfl) (by kernel_rfl) h


/- loop.example/prologserver/impl.ProgramValid$1 : function 59 -/
def sh_i_ProgramValid_1 (p0 : Value) (w : World) (R : Ending → World → Prop) : Prop :=
  Run Tryz.prog (sOp (.box 49 (.const p0)) 0) w fun t1 w1 =>
  Run Tryz.prog (sOp (.load 49 (.const t1)) 49) w1 fun t3 w2 =>
  Run Tryz.prog (sCall (Value.func (.func 60) #[] #[]) [t3]) w2 fun t4 w3 =>
  Run Tryz.prog (sOp (.unOp .not 4 (.const t4)) 4) w3 fun t5 w4 =>
  R (.returned t5) w4
theorem calls_i_ProgramValid_1 {p0 : Value} {w : World} {R : Ending → World → Prop} (h : sh_i_ProgramValid_1 p0 w R) : Calls Tryz.prog 59 #[p0] w R :=
  calls_sh .leaf [p0] mixed Tryz.func59 (by kernel_rfl) (by kernel_rfl) h


/- loop.example/prologserver/impl.ClauseValid : function 60 -/
def sh_i_ClauseValid (p0 : Value) (w : World) (R : Ending → World → Prop) : Prop :=
  Run Tryz.prog (sOp (.box 49 (.const p0)) 0) w fun t1 w1 =>
  Run Tryz.prog (sOp (.fieldAddr 49 (.const t1) 0) 0) w1 fun t3 w2 =>
  Run Tryz.prog (sOp (.load 47 (.const t3)) 47) w2 fun t4 w3 =>
  Run Tryz.prog (sCall (Value.func (.func 86) #[] #[]) [t4]) w3 fun t5 w4 =>
  GuardV t5 true (
    Run Tryz.prog (sOp (.fieldAddr 49 (.const t1) 0) 0) w4 fun t7 w5 =>
    Run Tryz.prog (sOp (.load 47 (.const t7)) 47) w5 fun t8 w6 =>
    Run Tryz.prog (sCall (Value.func (.func 87) #[] #[]) [t8]) w6 fun t9 w7 =>
    Run Tryz.prog (sOp (.pick (.const t5) (.const t9) (.const (Value.bool false))) 4) w7 fun t10 w8 =>
    GuardV t10 true (
      Run Tryz.prog (sOp (.fieldAddr 49 (.const t1) 1) 0) w8 fun t12 w9 =>
      Run Tryz.prog (sOp (.load 29 (.const t12)) 29) w9 fun t13 w10 =>
      Run Tryz.prog (sCall (Value.func (.func 88) #[] #[]) [t13]) w10 fun t14 w11 =>
      Run Tryz.prog (sOp (.pick (.const t10) (.const t14) (.const (Value.bool false))) 4) w11 fun t15 w12 =>
      R (.returned t15) w12) (
      Run Tryz.prog (sOp (.pick (.const t10) (.const undef) (.const (Value.bool false))) 4) w8 fun t15_2 w13 =>
      R (.returned t15_2) w13)) (
    Run Tryz.prog (sOp (.pick (.const t5) (.const undef) (.const (Value.bool false))) 4) w4 fun t10_2 w14 =>
    GuardV t10_2 true (
      Run Tryz.prog (sOp (.fieldAddr 49 (.const t1) 1) 0) w14 fun t12_2 w15 =>
      Run Tryz.prog (sOp (.load 29 (.const t12_2)) 29) w15 fun t13_2 w16 =>
      Run Tryz.prog (sCall (Value.func (.func 88) #[] #[]) [t13_2]) w16 fun t14_2 w17 =>
      Run Tryz.prog (sOp (.pick (.const t10_2) (.const t14_2) (.const (Value.bool false))) 4) w17 fun t15_3 w18 =>
      R (.returned t15_3) w18) (
      Run Tryz.prog (sOp (.pick (.const t10_2) (.const undef) (.const (Value.bool false))) 4) w14 fun t15_4 w19 =>
      R (.returned t15_4) w19))
theorem calls_i_ClauseValid {p0 : Value} {w : World} {R : Ending → World → Prop} (h : sh_i_ClauseValid p0 w R) : Calls Tryz.prog 60 #[p0] w R :=
  calls_sh .leaf [p0] mixed Tryz.func60 (by kernel_rfl) (by kernel_rfl) h


/- slices.IndexFunc[[]loop.example/prologserver/impl.Clause,loop.example/prologserver/impl.Clause] : function 61 -/
def sh_x_IndexFunc_Clause (p0 p1 : Value) (w : World) (R : Ending → World → Prop) : Prop :=
  Run Tryz.prog (sBuiltin .len #[25] 3 [false] [p0]) w fun t7 w1 =>
  (∃ (I2 : Value → World → Prop) (m3 : Value → World → Nat), I2 (Value.int .i64 0) w1 ∧
  ∀ t8 _ _ _ _ _ _ _ _ _ _ _ _ : Value, ∀ w4 : World, I2 t8 w4 →
  Run Tryz.prog (sBin .lss 3 false false t8 t7) w4 fun t9_2 w5 =>
  CondV t9_2 (
    Run Tryz.prog (sOp (.indexAddr 25 (.const p0) (.const t8)) 0) w5 fun t14_2 w6 =>
  Run Tryz.prog (sOp (.load 49 (.const t14_2)) 49) w6 fun t15_2 w7 =>
  Run Tryz.prog (sCall p1 [t15_2]) w7 fun t16_2 w8 =>
  CondV t16_2 (
    R (.returned t8) w8) (
    Run Tryz.prog (sBin .add 3 false true t8 (Value.int .i64 1)) w8 fun t18_2 w9 =>
  I2 t18_2 w9 ∧ m3 t18_2 w9 < m3 t8 w4)) (
    R (.returned (Value.int .i64 (-1))) w5))
theorem calls_x_IndexFunc_Clause {p0 p1 : Value} {w : World} {R : Ending → World → Prop} (h : sh_x_IndexFunc_Clause p0 p1 w R) : Calls Tryz.prog 61 #[p0, p1] w R :=
  calls_sh (.seq none .leaf (.seq none (.seq none .leaf (.one (.loop [8] .leaf))) .leaf)) [p0, p1] mixed Tryz.func61 (by kernel_rfl) (by kernel_rfl) h


/- loop.example/prologserver/impl.isFlat : function 62 -/
def sh_i_isFlat (p0 : Value) (w : World) (R : Ending → World → Prop) : Prop :=
  Run Tryz.prog (sOp (.box 47 (.const p0)) 0) w fun t1 w1 =>
  Run Tryz.prog (sOp (.load 47 (.const t1)) 47) w1 fun t3 w2 =>
  Run Tryz.prog (sCall (Value.func (.func 87) #[] #[]) [t3]) w2 fun t4 w3 =>
  GuardV t4 true (
    Run Tryz.prog (sOp (.fieldAddr 47 (.const t1) 3) 0) w3 fun t6 w4 =>
    Run Tryz.prog (sOp (.load 29 (.const t6)) 29) w4 fun t7 w5 =>
    Run Tryz.prog (sCall (Value.func (.func 63) #[] #[]) [t7, (Value.func (.func 89) #[] #[])]) w5 fun t8 w6 =>
    Run Tryz.prog (sOp (.unOp .not 4 (.const t8)) 4) w6 fun t9 w7 =>
    Run Tryz.prog (sOp (.pick (.const t4) (.const t9) (.const (Value.bool false))) 4) w7 fun t10 w8 =>
    R (.returned t10) w8) (
    Run Tryz.prog (sOp (.pick (.const t4) (.const undef) (.const (Value.bool false))) 4) w3 fun t10_2 w9 =>
    R (.returned t10_2) w9)
theorem calls_i_isFlat {p0 : Value} {w : World} {R : Ending → World → Prop} (h : sh_i_isFlat p0 w R) : Calls Tryz.prog 62 #[p0] w R :=
  calls_sh .leaf [p0] mixed Tryz.func62 (by kernel_rfl) (by kernel_rfl) h


/- slices.ContainsFunc[[]loop.example/prologserver/impl.Term,loop.example/prologserver/impl.Term] : function 63 -/
def sh_x_ContainsFunc_Term (p0 p1 : Value) (w : World) (R : Ending → World → Prop) : Prop :=
  Run Tryz.prog (sCall (Value.func (.func 90) #[] #[]) [p0, p1]) w fun t7 w1 =>
  Run Tryz.prog (sBin .geq 3 false true t7 (Value.int .i64 0)) w1 fun t8 w2 =>
  R (.returned t8) w2
theorem calls_x_ContainsFunc_Term {p0 p1 : Value} {w : World} {R : Ending → World → Prop} (h : sh_x_ContainsFunc_Term p0 p1 w R) : Calls Tryz.prog 63 #[p0, p1] w R :=
  calls_sh .leaf [p0, p1] mixed Tryz.func63 (by kernel_rfl) (by kernel_rfl) h


/- loop.example/prologserver/impl.flatClause$1 : function 64 -/
def sh_i_flatClause_1 (p0 : Value) (w : World) (R : Ending → World → Prop) : Prop :=
  Run Tryz.prog (sOp (.box 47 (.const p0)) 0) w fun t1 w1 =>
  Run Tryz.prog (sOp (.load 47 (.const t1)) 47) w1 fun t3 w2 =>
  Run Tryz.prog (sCall (Value.func (.func 62) #[] #[]) [t3]) w2 fun t4 w3 =>
  Run Tryz.prog (sOp (.unOp .not 4 (.const t4)) 4) w3 fun t5 w4 =>
  R (.returned t5) w4
theorem calls_i_flatClause_1 {p0 : Value} {w : World} {R : Ending → World → Prop} (h : sh_i_flatClause_1 p0 w R) : Calls Tryz.prog 64 #[p0] w R :=
  calls_sh .leaf [p0] mixed Tryz.func64 (by kernel_rfl) (by kernel_rfl) h


/- loop.example/prologserver/impl.varsOf : function 65 -/
def sh_i_varsOf (p0 : Value) (w : World) (R : Ending → World → Prop) : Prop :=
  Run Tryz.prog (sBuiltin .len #[29] 3 [false] [p0]) w fun t7 w1 =>
  (∃ (I2 : Value → Value → World → Prop) (m3 : Value → Value → World → Nat), I2 (Value.int .i64 0) (Value.slice none 0 0) w1 ∧
  ∀ t8 _ t3 _ _ _ _ _ _ _ : Value, ∀ w4 : World, I2 t8 t3 w4 →
  Run Tryz.prog (sBin .lss 3 false false t8 t7) w4 fun t9_2 w5 =>
  CondV t9_2 (
    Run Tryz.prog (sOp (.indexAddr 29 (.const p0) (.const t8)) 0) w5 fun t10_2 w6 =>
  Run Tryz.prog (sOp (.load 47 (.const t10_2)) 47) w6 fun t11_2 w7 =>
  Run Tryz.prog (sOp (.alloc 47) 0) w7 fun t5_2 w8 =>
  Run Tryz.prog (sOp (.store 47 (.const t5_2) (.const t11_2)) 0) w8 fun _ w9 =>
  Run Tryz.prog (sOp (.load 47 (.const t5_2)) 47) w9 fun t12_2 w10 =>
  Run Tryz.prog (sCall (Value.func (.func 67) #[] #[]) [t12_2, t3]) w10 fun t14_2 w11 =>
  Run Tryz.prog (sBin .add 3 false true t8 (Value.int .i64 1)) w11 fun t15_2 w12 =>
  I2 t15_2 t14_2 w12 ∧ m3 t15_2 t14_2 w12 < m3 t8 t3 w4) (
    R (.returned t3) w5))
theorem calls_i_varsOf {p0 : Value} {w : World} {R : Ending → World → Prop} (h : sh_i_varsOf p0 w R) : Calls Tryz.prog 65 #[p0] w R :=
  calls_sh (.seq none .leaf (.seq none .leaf (.seq none (.seq none .leaf (.one (.loop [8, 3] .leaf))) .leaf))) [p0] mixed Tryz.func65 (by kernel_rfl) (by kernel_rfl) h


/- slices.ContainsFunc[[]int,int] : function 66 -/
def sh_x_ContainsFunc_int (p0 p1 : Value) (w : World) (R : Ending → World → Prop) : Prop :=
  Run Tryz.prog (sCall (Value.func (.func 91) #[] #[]) [p0, p1]) w fun t7 w1 =>
  Run Tryz.prog (sBin .geq 3 false true t7 (Value.int .i64 0)) w1 fun t8 w2 =>
  R (.returned t8) w2
theorem calls_x_ContainsFunc_int {p0 p1 : Value} {w : World} {R : Ending → World → Prop} (h : sh_x_ContainsFunc_int p0 p1 w R) : Calls Tryz.prog 66 #[p0, p1] w R :=
  calls_sh .leaf [p0, p1] mixed Tryz.func66 (by kernel_rfl) (by kernel_rfl) h


/- loop.example/prologserver/impl.addVars : function 67 -/
def sh_i_addVars (p0 p1 : Value) (w : World) (R : Ending → World → Prop) : Prop :=
  Run Tryz.prog (sOp (.box 47 (.const p0)) 0) w fun t2 w1 =>
  (∃ J2 : Value → World → Prop, (
    (∃ J3 : Value → World → Prop, (
      Run Tryz.prog (sOp (.fieldAddr 47 (.const t2) 0) 0) w1 fun t7 w4 =>
      Run Tryz.prog (sOp (.load 3 (.const t7)) 3) w4 fun t8 w5 =>
      Run Tryz.prog (sBin .eql 3 false true t8 (Value.int .i64 1)) w5 fun t9 w6 =>
      GuardV t9 true (
        Run Tryz.prog (sOp (.fieldAddr 47 (.const t2) 1) 0) w6 fun t12 w7 =>
        Run Tryz.prog (sOp (.load 3 (.const t12)) 3) w7 fun t13 w8 =>
        Run Tryz.prog (sCall (Value.func (.func 69) #[] #[]) [p1, t13]) w8 fun t14 w9 =>
        Run Tryz.prog (sOp (.unOp .not 4 (.const t14)) 4) w9 fun t15 w10 =>
        Run Tryz.prog (sOp (.pick (.const t9) (.const t15) (.const (Value.bool false))) 4) w10 fun t16 w11 =>
        J3 t16 w11) (
        Run Tryz.prog (sOp (.pick (.const t9) (.const undef) (.const (Value.bool false))) 4) w6 fun t16_2 w12 =>
        J3 t16_2 w12)) ∧
    ∀ t16_3 _ _ _ _ _ _ _ _ _ : Value, ∀ w13 : World, J3 t16_3 w13 →
    CondV t16_3 (
      Run Tryz.prog (sOp (.fieldAddr 47 (.const t2) 1) 0) w13 fun t18 w14 =>
      Run Tryz.prog (sOp (.load 3 (.const t18)) 3) w14 fun t19 w15 =>
      Run Tryz.prog (sBuildSlice 67 1 [(0, t19)]) w15 fun t20 w16 =>
      Run Tryz.prog (sBuiltin .append #[67, 67] 67 [false, false] [p1, t20]) w16 fun t21 w17 =>
      J2 t21 w17) (
      J2 p1 w13))) ∧
  ∀ t1 _ _ _ _ _ _ _ _ _ _ _ _ _ _ _ : Value, ∀ w18 : World, J2 t1 w18 →
  Run Tryz.prog (sOp (.fieldAddr 47 (.const t2) 3) 0) w18 fun t22 w19 =>
  Run Tryz.prog (sOp (.load 29 (.const t22)) 29) w19 fun t23 w20 =>
  Run Tryz.prog (sBuiltin .len #[29] 3 [false] [t23]) w20 fun t24 w21 =>
  (∃ (I22 : Value → Value → World → Prop) (m23 : Value → Value → World → Nat), I22 (Value.int .i64 0) t1 w21 ∧
  ∀ t25 _ t1_2 _ _ _ _ _ _ _ : Value, ∀ w24 : World, I22 t25 t1_2 w24 →
  Run Tryz.prog (sBin .lss 3 false false t25 t24) w24 fun t26_2 w25 =>
  CondV t26_2 (
    Run Tryz.prog (sOp (.indexAddr 29 (.const t23) (.const t25)) 0) w25 fun t27_2 w26 =>
  Run Tryz.prog (sOp (.load 47 (.const t27_2)) 47) w26 fun t28_2 w27 =>
  Run Tryz.prog (sOp (.alloc 47) 0) w27 fun t6_2 w28 =>
  Run Tryz.prog (sOp (.store 47 (.const t6_2) (.const t28_2)) 0) w28 fun _ w29 =>
  Run Tryz.prog (sOp (.load 47 (.const t6_2)) 47) w29 fun t29_2 w30 =>
  Run Tryz.prog (sCall (Value.func (.func 67) #[] #[]) [t29_2, t1_2]) w30 fun t31_2 w31 =>
  Run Tryz.prog (sBin .add 3 false true t25 (Value.int .i64 1)) w31 fun t32_2 w32 =>
  I22 t32_2 t31_2 w32 ∧ m23 t32_2 t31_2 w32 < m23 t25 t1_2 w24) (
    R (.returned t1_2) w25)))
theorem calls_i_addVars {p0 p1 : Value} {w : World} {R : Ending → World → Prop} (h : sh_i_addVars p0 p1 w R) : Calls Tryz.prog 67 #[p0, p1] w R :=
  calls_sh (.seq none .leaf (.seq (some [1]) (.seq (some [16]) .leaf .leaf) (.seq none (.seq none .leaf (.one (.loop [25, 1] .leaf))) .leaf))) [p0, p1] mixed Tryz.func67 (by kernel_rfl) (by kernel_rfl) h


/- loop.example/prologserver/impl.flatClause$2 : function 68 -/
def sh_i_flatClause_2 (p0 p1 : Value) (w : World) (R : Ending → World → Prop) : Prop :=
  Run Tryz.prog (sOp (.load 67 (.const p1)) 67) w fun t4 w1 =>
  Run Tryz.prog (sCall (Value.func (.func 69) #[] #[]) [t4, p0]) w1 fun t6 w2 =>
  Run Tryz.prog (sOp (.unOp .not 4 (.const t6)) 4) w2 fun t7 w3 =>
  R (.returned t7) w3
theorem calls_i_flatClause_2 {p0 p1 : Value} {w : World} {R : Ending → World → Prop} (h : sh_i_flatClause_2 p0 p1 w R) : Calls Tryz.prog 68 #[p0, p1] w R :=
  calls_sh .leaf [p0, p1] mixed Tryz.func68 (by kernel_rfl) (by kernel_rfl) h


/- slices.Contains[[]int,int] : function 69 -/
def sh_x_Contains_int (p0 p1 : Value) (w : World) (R : Ending → World → Prop) : Prop :=
  Run Tryz.prog (sCall (Value.func (.func 92) #[] #[]) [p0, p1]) w fun t7 w1 =>
  Run Tryz.prog (sBin .geq 3 false true t7 (Value.int .i64 0)) w1 fun t8 w2 =>
  R (.returned t8) w2
theorem calls_x_Contains_int {p0 p1 : Value} {w : World} {R : Ending → World → Prop} (h : sh_x_Contains_int p0 p1 w R) : Calls Tryz.prog 69 #[p0, p1] w R :=
  calls_sh .leaf [p0, p1] mixed Tryz.func69 (by kernel_rfl) (by kernel_rfl) h


/- loop.example/prologserver/impl.mapVars : function 70 -/
def sh_i_mapVars (p0 p1 : Value) (w : World) (R : Ending → World → Prop) : Prop :=
  Run Tryz.prog (sOp (.box 47 (.const p0)) 0) w fun t2 w1 =>
  Run Tryz.prog (sOp (.alloc 47) 0) w1 fun t4 w2 =>
  Run Tryz.prog (sOp (.fieldAddr 47 (.const t2) 0) 0) w2 fun t8 w3 =>
  Run Tryz.prog (sOp (.load 3 (.const t8)) 3) w3 fun t9 w4 =>
  Run Tryz.prog (sBin .eql 3 false true t9 (Value.int .i64 1)) w4 fun t10 w5 =>
  CondV t10 (
    Run Tryz.prog (sOp (.fieldAddr 47 (.const t2) 1) 0) w5 fun t12 w6 =>
    Run Tryz.prog (sOp (.load 3 (.const t12)) 3) w6 fun t13 w7 =>
    Run Tryz.prog (sCall p1 [t13]) w7 fun t14 w8 =>
    Run Tryz.prog (sOp (.store 47 (.const t4) (.const t14)) 0) w8 fun _u w9 =>
    (LoadV Tryz.prog 47 t4 w9 fun r0 => R (.returned r0) w9)) (
    Run Tryz.prog (sOp (.fieldAddr 47 (.const t2) 3) 0) w5 fun t15 w10 =>
  Run Tryz.prog (sOp (.load 29 (.const t15)) 29) w10 fun t16 w11 =>
  Run Tryz.prog (sOp (.fieldAddr 47 (.const t2) 3) 0) w11 fun t17 w12 =>
  Run Tryz.prog (sOp (.store 29 (.const t17) (.const (Value.slice none 0 0))) 0) w12 fun _u w13 =>
  Run Tryz.prog (sBuiltin .len #[29] 3 [false] [t16]) w13 fun t19 w14 =>
  (∃ (I15 : Value → World → Prop) (m16 : Value → World → Nat), I15 (Value.int .i64 0) w14 ∧
  ∀ t20 _ t31 t30 t29 t28 t27 t26 t25 t24 _ _ _ _ : Value, ∀ w17 : World, I15 t20 w17 →
  Run Tryz.prog (sBin .lss 3 false false t20 t19) w17 fun t21_2 w18 =>
  CondV t21_2 (
    Run Tryz.prog (sOp (.indexAddr 29 (.const t16) (.const t20)) 0) w18 fun t22_2 w19 =>
  Run Tryz.prog (sOp (.load 47 (.const t22_2)) 47) w19 fun t23_2 w20 =>
  Run Tryz.prog (sOp (.alloc 47) 0) w20 fun t7_2 w21 =>
  Run Tryz.prog (sOp (.store 47 (.const t7_2) (.const t23_2)) 0) w21 fun _u w22 =>
  (∃ A23 : (Nat → Bool) → Value → Value → Value → Value → Value → Value → Value → Value → World → Prop, A23 (fun _ => false) t31 t30 t29 t28 t27 t26 t25 t24 { w22 with drawn := w22.drawn + 1 } ∧ (
    (∀ D24 : Nat → Bool, D24 0 = false → ∀ t31_2 t30_2 t29_2 t28_2 t27_2 t26_2 t25_2 t24_2 : Value, ∀ w25 : World, A23 D24 t31_2 t30_2 t29_2 t28_2 t27_2 t26_2 t25_2 t24_2 w25 →
      Run Tryz.prog (sOp (.fieldAddr 47 (.const t2) 3) 0) w25 fun t24_3 w26 =>
      A23 (setD D24 0) t31_2 t30_2 t29_2 t28_2 t27_2 t26_2 t25_2 t24_3 w26) ∧
    (∀ D24 : Nat → Bool, D24 1 = false → D24 0 = true → ∀ t31_2 t30_2 t29_2 t28_2 t27_2 t26_2 t25_2 t24_2 : Value, ∀ w27 : World, A23 D24 t31_2 t30_2 t29_2 t28_2 t27_2 t26_2 t25_2 t24_2 w27 →
      Run Tryz.prog (sOp (.load 29 (.const t24_2)) 29) w27 fun t25_3 w28 =>
      A23 (setD D24 1) t31_2 t30_2 t29_2 t28_2 t27_2 t26_2 t25_3 t24_2 w28) ∧
    (∀ D24 : Nat → Bool, D24 2 = false → ∀ t31_2 t30_2 t29_2 t28_2 t27_2 t26_2 t25_2 t24_2 : Value, ∀ w29 : World, A23 D24 t31_2 t30_2 t29_2 t28_2 t27_2 t26_2 t25_2 t24_2 w29 →
      Run Tryz.prog (sOp (.load 47 (.const t7_2)) 47) w29 fun t26_3 w30 =>
      A23 (setD D24 2) t31_2 t30_2 t29_2 t28_2 t27_2 t26_3 t25_2 t24_2 w30) ∧
    (∀ D24 : Nat → Bool, D24 3 = false → ∀ t31_2 t30_2 t29_2 t28_2 t27_2 t26_2 t25_2 t24_2 : Value, ∀ w31 : World, A23 D24 t31_2 t30_2 t29_2 t28_2 t27_2 t26_2 t25_2 t24_2 w31 →
      A23 (setD D24 3) t31_2 t30_2 t29_2 t28_2 p1 t26_2 t25_2 t24_2 w31) ∧
    (∀ D24 : Nat → Bool, D24 4 = false → D24 2 = true → D24 3 = true → ∀ t31_2 t30_2 t29_2 t28_2 t27_2 t26_2 t25_2 t24_2 : Value, ∀ w32 : World, A23 D24 t31_2 t30_2 t29_2 t28_2 t27_2 t26_2 t25_2 t24_2 w32 →
      Run Tryz.prog (sCall (Value.func (.func 70) #[] #[]) [t26_2, t27_2]) w32 fun t28_3 w33 =>
      A23 (setD D24 4) t31_2 t30_2 t29_2 t28_3 t27_2 t26_2 t25_2 t24_2 w33) ∧
    (∀ D24 : Nat → Bool, D24 5 = false → D24 4 = true → ∀ t31_2 t30_2 t29_2 t28_2 t27_2 t26_2 t25_2 t24_2 : Value, ∀ w34 : World, A23 D24 t31_2 t30_2 t29_2 t28_2 t27_2 t26_2 t25_2 t24_2 w34 →
      Run Tryz.prog (sBuildSlice 29 1 [(0, t28_2)]) w34 fun t29_3 w35 =>
      A23 (setD D24 5) t31_2 t30_2 t29_3 t28_2 t27_2 t26_2 t25_2 t24_2 w35) ∧
    (∀ D24 : Nat → Bool, D24 6 = false → D24 1 = true → D24 5 = true → D24 4 = true → ∀ t31_2 t30_2 t29_2 t28_2 t27_2 t26_2 t25_2 t24_2 : Value, ∀ w36 : World, A23 D24 t31_2 t30_2 t29_2 t28_2 t27_2 t26_2 t25_2 t24_2 w36 →
      Run Tryz.prog (sBuiltin .append #[29, 29] 29 [false, false] [t25_2, t29_2]) w36 fun t30_3 w37 =>
      A23 (setD D24 6) t31_2 t30_3 t29_2 t28_2 t27_2 t26_2 t25_2 t24_2 w37) ∧
    (∀ D24 : Nat → Bool, D24 7 = false → D24 0 = true → D24 1 = true → D24 2 = true → D24 3 = true → D24 4 = true → D24 5 = true → D24 6 = true → ∀ t31_2 t30_2 t29_2 t28_2 t27_2 t26_2 t25_2 t24_2 : Value, ∀ w38 : World, A23 D24 t31_2 t30_2 t29_2 t28_2 t27_2 t26_2 t25_2 t24_2 w38 →
      Run Tryz.prog (sOp (.fieldAddr 47 (.const t2) 3) 0) w38 fun t31_3 w39 =>
      A23 (setD D24 7) t31_3 t30_2 t29_2 t28_2 t27_2 t26_2 t25_2 t24_2 w39) ∧
    (∀ D24 : Nat → Bool, D24 8 = false → D24 7 = true → D24 6 = true → D24 6 = true → D24 0 = true → D24 1 = true → D24 2 = true → D24 3 = true → D24 4 = true → D24 5 = true → D24 6 = true → ∀ t31_2 t30_2 t29_2 t28_2 t27_2 t26_2 t25_2 t24_2 : Value, ∀ w40 : World, A23 D24 t31_2 t30_2 t29_2 t28_2 t27_2 t26_2 t25_2 t24_2 w40 →
      Run Tryz.prog (sOp (.store 29 (.const t31_2) (.const t30_2)) 0) w40 fun _u w41 =>
      A23 (setD D24 8) t31_2 t30_2 t29_2 t28_2 t27_2 t26_2 t25_2 t24_2 w41) ∧
    True) ∧
  ∀ D24 : Nat → Bool, D24 8 = true → D24 7 = true → D24 6 = true → D24 5 = true → D24 4 = true → D24 3 = true → D24 2 = true → D24 1 = true → D24 0 = true → ∀ t31_2 t30_2 t29_2 t28_2 t27_2 t26_2 t25_2 t24_2 : Value, ∀ w42 : World, A23 D24 t31_2 t30_2 t29_2 t28_2 t27_2 t26_2 t25_2 t24_2 w42 →
  Run Tryz.prog (sBin .add 3 false true t20 (Value.int .i64 1)) w42 fun t32_2 w43 =>
  I15 t32_2 w43 ∧ m16 t32_2 w43 < m16 t20 w17)) (
    Run Tryz.prog (sOp (.load 47 (.const t2)) 47) w18 fun t33 w44 =>
  Run Tryz.prog (sOp (.store 47 (.const t4) (.const t33)) 0) w44 fun _ w45 =>
  (LoadV Tryz.prog 47 t4 w45 fun r0 => R (.returned r0) w45))))
theorem calls_i_mapVars {p0 p1 : Value} {w : World} {R : Ending → World → Prop} (h : sh_i_mapVars p0 p1 w R) : Calls Tryz.prog 70 #[p0, p1] w R :=
  calls_sh (.seq none .leaf (.seq none .leaf (.seq none .leaf (.seq none .leaf (.seq none (.seq none .leaf (.one (.loop [20] .leaf))) .leaf))))) [p0, p1] mixed Tryz.func70 (by kernel_rfl) (by kernel_rfl) h


/- loop.example/prologserver/impl.follows$1 : function 71 -/
def sh_i_follows_1 (p0 p1 : Value) (w : World) (R : Ending → World → Prop) : Prop :=
  Run Tryz.prog (sOp (.alloc 47) 0) w fun t3 w1 =>
  Run Tryz.prog (sOp (.load 73 (.const p1)) 73) w1 fun t4 w2 =>
  Run Tryz.prog (sOp (.lookup 73 (.const t4) (.const p0) false) 47) w2 fun t6 w3 =>
  Run Tryz.prog (sOp (.store 47 (.const t3) (.const t6)) 0) w3 fun _ w4 =>
  (LoadV Tryz.prog 47 t3 w4 fun r0 => R (.returned r0) w4)
theorem calls_i_follows_1 {p0 p1 : Value} {w : World} {R : Ending → World → Prop} (h : sh_i_follows_1 p0 p1 w R) : Calls Tryz.prog 71 #[p0, p1] w R :=
  calls_sh .leaf [p0, p1] mixed Tryz.func71 (by kernel_rfl) (by kernel_rfl) h


/- maps.Clone[map[int]loop.example/prologserver/impl.Term,int,loop.example/prologserver/impl.Term] : function 72 -/
def sh_x_mClone_Term (p0 : Value) (w : World) (R : Ending → World → Prop) : Prop :=
  Run Tryz.prog (sBin .eql 73 false true p0 (Value.map none)) w fun t4 w1 =>
  CondV t4 (
    R (.returned (Value.map none)) w1) (
    Run Tryz.prog (sOp (.makeInterface 73 (.const p0)) 20) w1 fun t6 w2 =>
  Run Tryz.prog (sCall (Value.func (.func 93) #[] #[]) [t6]) w2 fun t7 w3 =>
  Run Tryz.prog (sOp (.typeAssert (.const t7) 20 73 false) 73) w3 fun t8 w4 =>
  R (.returned t8) w4)
theorem calls_x_mClone_Term {p0 : Value} {w : World} {R : Ending → World → Prop} (h : sh_x_mClone_Term p0 w R) : Calls Tryz.prog 72 #[p0] w R :=
  calls_sh .leaf [p0] mixed Tryz.func72 (by kernel_rfl) (by kernel_rfl) h


/- loop.example/prologserver/impl.instance : function 73 -/
def sh_i_instance (p0 p1 p2 : Value) (w : World) (R : Ending → World → Prop) : Prop :=
  Run Tryz.prog (sOp (.box 47 (.const p0)) 0) w fun t3 w1 =>
  Run Tryz.prog (sOp (.box 47 (.const p1)) 0) w1 fun t4 w2 =>
  Run Tryz.prog (sOp (.fieldAddr 47 (.const t4) 0) 0) w2 fun t10 w3 =>
  Run Tryz.prog (sOp (.load 3 (.const t10)) 3) w3 fun t11 w4 =>
  Run Tryz.prog (sBin .eql 3 false true t11 (Value.int .i64 1)) w4 fun t12 w5 =>
  CondV t12 (
    Run Tryz.prog (sOp (.fieldAddr 47 (.const t4) 1) 0) w5 fun t15 w6 =>
    Run Tryz.prog (sOp (.load 3 (.const t15)) 3) w6 fun t16 w7 =>
    Run Tryz.prog (sOp (.lookup 73 (.const p2) (.const t16) true) 103) w7 fun t17 w8 =>
    Run Tryz.prog (sOp (.extract (.const t17) 0) 47) w8 fun t18 w9 =>
    Run Tryz.prog (sOp (.extract (.const t17) 1) 4) w9 fun t19 w10 =>
    Run Tryz.prog (sOp (.alloc 47) 0) w10 fun t7 w11 =>
    Run Tryz.prog (sOp (.store 47 (.const t7) (.const t18)) 0) w11 fun _u w12 =>
    Run Tryz.prog (sOp (.unOp .not 4 (.const t19)) 4) w12 fun t21 w13 =>
    CondV t21 (
      Run Tryz.prog (sOp (.fieldAddr 47 (.const t4) 1) 0) w13 fun t23 w14 =>
      Run Tryz.prog (sOp (.load 3 (.const t23)) 3) w14 fun t24 w15 =>
      Run Tryz.prog (sOp (.load 47 (.const t3)) 47) w15 fun t25 w16 =>
      Run Tryz.prog (sOp (.mapUpdate 73 (.const p2) (.const t24) (.const t25)) 0) w16 fun _ w17 =>
      R (.returned (Value.bool true)) w17) (
      Run Tryz.prog (sOp (.load 47 (.const t7)) 47) w13 fun t26 w18 =>
    Run Tryz.prog (sOp (.load 47 (.const t3)) 47) w18 fun t27 w19 =>
    Run Tryz.prog (sCall (Value.func (.func 94) #[] #[]) [t26, t27]) w19 fun t28 w20 =>
    R (.returned t28) w20)) (
    (∃ J21 : Value → World → Prop, (
    Run Tryz.prog (sOp (.fieldAddr 47 (.const t3) 0) 0) w5 fun t29 w22 =>
    Run Tryz.prog (sOp (.load 3 (.const t29)) 3) w22 fun t30 w23 =>
    Run Tryz.prog (sOp (.fieldAddr 47 (.const t4) 0) 0) w23 fun t31 w24 =>
    Run Tryz.prog (sOp (.load 3 (.const t31)) 3) w24 fun t32 w25 =>
    Run Tryz.prog (sBin .neq 3 false false t30 t32) w25 fun t33 w26 =>
    GuardV t33 false (
      Run Tryz.prog (sOp (.fieldAddr 47 (.const t3) 1) 0) w26 fun t35 w27 =>
      Run Tryz.prog (sOp (.load 3 (.const t35)) 3) w27 fun t36 w28 =>
      Run Tryz.prog (sOp (.fieldAddr 47 (.const t4) 1) 0) w28 fun t37 w29 =>
      Run Tryz.prog (sOp (.load 3 (.const t37)) 3) w29 fun t38 w30 =>
      Run Tryz.prog (sBin .neq 3 false false t36 t38) w30 fun t39 w31 =>
      Run Tryz.prog (sOp (.pick (.const t33) (.const (Value.bool true)) (.const t39)) 4) w31 fun t40 w32 =>
      GuardV t40 false (
        Run Tryz.prog (sOp (.fieldAddr 47 (.const t3) 2) 0) w32 fun t42 w33 =>
        Run Tryz.prog (sOp (.load 9 (.const t42)) 9) w33 fun t43 w34 =>
        Run Tryz.prog (sOp (.fieldAddr 47 (.const t4) 2) 0) w34 fun t44 w35 =>
        Run Tryz.prog (sOp (.load 9 (.const t44)) 9) w35 fun t45 w36 =>
        Run Tryz.prog (sBin .neq 9 false false t43 t45) w36 fun t46 w37 =>
        Run Tryz.prog (sOp (.pick (.const t40) (.const (Value.bool true)) (.const t46)) 4) w37 fun t47 w38 =>
        GuardV t47 false (
          Run Tryz.prog (sOp (.fieldAddr 47 (.const t3) 3) 0) w38 fun t49 w39 =>
          Run Tryz.prog (sOp (.load 29 (.const t49)) 29) w39 fun t50 w40 =>
          Run Tryz.prog (sBuiltin .len #[29] 3 [false] [t50]) w40 fun t51 w41 =>
          Run Tryz.prog (sOp (.fieldAddr 47 (.const t4) 3) 0) w41 fun t52 w42 =>
          Run Tryz.prog (sOp (.load 29 (.const t52)) 29) w42 fun t53 w43 =>
          Run Tryz.prog (sBuiltin .len #[29] 3 [false] [t53]) w43 fun t54 w44 =>
          Run Tryz.prog (sBin .neq 3 false false t51 t54) w44 fun t55 w45 =>
          Run Tryz.prog (sOp (.pick (.const t47) (.const (Value.bool true)) (.const t55)) 4) w45 fun t56 w46 =>
          J21 t56 w46) (
          Run Tryz.prog (sOp (.pick (.const t47) (.const (Value.bool true)) (.const undef)) 4) w38 fun t56_2 w47 =>
          J21 t56_2 w47)) (
        Run Tryz.prog (sOp (.pick (.const t40) (.const (Value.bool true)) (.const undef)) 4) w32 fun t47_2 w48 =>
        GuardV t47_2 false (
          Run Tryz.prog (sOp (.fieldAddr 47 (.const t3) 3) 0) w48 fun t49_2 w49 =>
          Run Tryz.prog (sOp (.load 29 (.const t49_2)) 29) w49 fun t50_2 w50 =>
          Run Tryz.prog (sBuiltin .len #[29] 3 [false] [t50_2]) w50 fun t51_2 w51 =>
          Run Tryz.prog (sOp (.fieldAddr 47 (.const t4) 3) 0) w51 fun t52_2 w52 =>
          Run Tryz.prog (sOp (.load 29 (.const t52_2)) 29) w52 fun t53_2 w53 =>
          Run Tryz.prog (sBuiltin .len #[29] 3 [false] [t53_2]) w53 fun t54_2 w54 =>
          Run Tryz.prog (sBin .neq 3 false false t51_2 t54_2) w54 fun t55_2 w55 =>
          Run Tryz.prog (sOp (.pick (.const t47_2) (.const (Value.bool true)) (.const t55_2)) 4) w55 fun t56_3 w56 =>
          J21 t56_3 w56) (
          Run Tryz.prog (sOp (.pick (.const t47_2) (.const (Value.bool true)) (.const undef)) 4) w48 fun t56_4 w57 =>
          J21 t56_4 w57))) (
      Run Tryz.prog (sOp (.pick (.const t33) (.const (Value.bool true)) (.const undef)) 4) w26 fun t40_2 w58 =>
      GuardV t40_2 false (
        Run Tryz.prog (sOp (.fieldAddr 47 (.const t3) 2) 0) w58 fun t42_2 w59 =>
        Run Tryz.prog (sOp (.load 9 (.const t42_2)) 9) w59 fun t43_2 w60 =>
        Run Tryz.prog (sOp (.fieldAddr 47 (.const t4) 2) 0) w60 fun t44_2 w61 =>
        Run Tryz.prog (sOp (.load 9 (.const t44_2)) 9) w61 fun t45_2 w62 =>
        Run Tryz.prog (sBin .neq 9 false false t43_2 t45_2) w62 fun t46_2 w63 =>
        Run Tryz.prog (sOp (.pick (.const t40_2) (.const (Value.bool true)) (.const t46_2)) 4) w63 fun t47_3 w64 =>
        GuardV t47_3 false (
          Run Tryz.prog (sOp (.fieldAddr 47 (.const t3) 3) 0) w64 fun t49_3 w65 =>
          Run Tryz.prog (sOp (.load 29 (.const t49_3)) 29) w65 fun t50_3 w66 =>
          Run Tryz.prog (sBuiltin .len #[29] 3 [false] [t50_3]) w66 fun t51_3 w67 =>
          Run Tryz.prog (sOp (.fieldAddr 47 (.const t4) 3) 0) w67 fun t52_3 w68 =>
          Run Tryz.prog (sOp (.load 29 (.const t52_3)) 29) w68 fun t53_3 w69 =>
          Run Tryz.prog (sBuiltin .len #[29] 3 [false] [t53_3]) w69 fun t54_3 w70 =>
          Run Tryz.prog (sBin .neq 3 false false t51_3 t54_3) w70 fun t55_3 w71 =>
          Run Tryz.prog (sOp (.pick (.const t47_3) (.const (Value.bool true)) (.const t55_3)) 4) w71 fun t56_5 w72 =>
          J21 t56_5 w72) (
          Run Tryz.prog (sOp (.pick (.const t47_3) (.const (Value.bool true)) (.const undef)) 4) w64 fun t56_6 w73 =>
          J21 t56_6 w73)) (
        Run Tryz.prog (sOp (.pick (.const t40_2) (.const (Value.bool true)) (.const undef)) 4) w58 fun t47_4 w74 =>
        GuardV t47_4 false (
          Run Tryz.prog (sOp (.fieldAddr 47 (.const t3) 3) 0) w74 fun t49_4 w75 =>
          Run Tryz.prog (sOp (.load 29 (.const t49_4)) 29) w75 fun t50_4 w76 =>
          Run Tryz.prog (sBuiltin .len #[29] 3 [false] [t50_4]) w76 fun t51_4 w77 =>
          Run Tryz.prog (sOp (.fieldAddr 47 (.const t4) 3) 0) w77 fun t52_4 w78 =>
          Run Tryz.prog (sOp (.load 29 (.const t52_4)) 29) w78 fun t53_4 w79 =>
          Run Tryz.prog (sBuiltin .len #[29] 3 [false] [t53_4]) w79 fun t54_4 w80 =>
          Run Tryz.prog (sBin .neq 3 false false t51_4 t54_4) w80 fun t55_4 w81 =>
          Run Tryz.prog (sOp (.pick (.const t47_4) (.const (Value.bool true)) (.const t55_4)) 4) w81 fun t56_7 w82 =>
          J21 t56_7 w82) (
          Run Tryz.prog (sOp (.pick (.const t47_4) (.const (Value.bool true)) (.const undef)) 4) w74 fun t56_8 w83 =>
          J21 t56_8 w83)))) ∧
  ∀ t56_9 _ _ _ _ _ _ _ _ _ _ _ _ _ _ _ _ _ _ _ _ _ _ _ _ _ _ _ : Value, ∀ w84 : World, J21 t56_9 w84 →
  CondV t56_9 (
    R (.returned (Value.bool false)) w84) (
    Run Tryz.prog (sOp (.fieldAddr 47 (.const t4) 3) 0) w84 fun t57 w85 =>
  Run Tryz.prog (sOp (.load 29 (.const t57)) 29) w85 fun t58 w86 =>
  Run Tryz.prog (sBuiltin .len #[29] 3 [false] [t58]) w86 fun t59 w87 =>
  (∃ (I88 : Value → World → Prop) (m89 : Value → World → Nat), I88 (Value.int .i64 0) w87 ∧
  ∀ t60 _ _ t75 t74 t73 t72 t71 t70 t69 t68 t67 t66 t65 t64 t63 _ _ _ : Value, ∀ w90 : World, I88 t60 w90 →
  Run Tryz.prog (sBin .lss 3 false false t60 t59) w90 fun t61_2 w91 =>
  CondV t61_2 (
    (∃ A92 : (Nat → Bool) → Value → Value → Value → Value → Value → Value → Value → Value → Value → Value → Value → Value → Value → World → Prop, A92 (fun _ => false) t75 t74 t73 t72 t71 t70 t69 t68 t67 t66 t65 t64 t63 { w91 with drawn := w91.drawn + 1 } ∧ (
    (∀ D93 : Nat → Bool, D93 0 = false → ∀ t75_2 t74_2 t73_2 t72_2 t71_2 t70_2 t69_2 t68_2 t67_2 t66_2 t65_2 t64_2 t63_2 : Value, ∀ w94 : World, A92 D93 t75_2 t74_2 t73_2 t72_2 t71_2 t70_2 t69_2 t68_2 t67_2 t66_2 t65_2 t64_2 t63_2 w94 →
      Run Tryz.prog (sOp (.fieldAddr 47 (.const t3) 3) 0) w94 fun t63_3 w95 =>
      A92 (setD D93 0) t75_2 t74_2 t73_2 t72_2 t71_2 t70_2 t69_2 t68_2 t67_2 t66_2 t65_2 t64_2 t63_3 w95) ∧
    (∀ D93 : Nat → Bool, D93 1 = false → D93 0 = true → ∀ t75_2 t74_2 t73_2 t72_2 t71_2 t70_2 t69_2 t68_2 t67_2 t66_2 t65_2 t64_2 t63_2 : Value, ∀ w96 : World, A92 D93 t75_2 t74_2 t73_2 t72_2 t71_2 t70_2 t69_2 t68_2 t67_2 t66_2 t65_2 t64_2 t63_2 w96 →
      Run Tryz.prog (sOp (.load 29 (.const t63_2)) 29) w96 fun t64_3 w97 =>
      A92 (setD D93 1) t75_2 t74_2 t73_2 t72_2 t71_2 t70_2 t69_2 t68_2 t67_2 t66_2 t65_2 t64_3 t63_2 w97) ∧
    (∀ D93 : Nat → Bool, D93 2 = false → ∀ t75_2 t74_2 t73_2 t72_2 t71_2 t70_2 t69_2 t68_2 t67_2 t66_2 t65_2 t64_2 t63_2 : Value, ∀ w98 : World, A92 D93 t75_2 t74_2 t73_2 t72_2 t71_2 t70_2 t69_2 t68_2 t67_2 t66_2 t65_2 t64_2 t63_2 w98 →
      A92 (setD D93 2) t75_2 t74_2 t73_2 t72_2 t71_2 t70_2 t69_2 t68_2 t67_2 t66_2 t60 t64_2 t63_2 w98) ∧
    (∀ D93 : Nat → Bool, D93 3 = false → D93 1 = true → D93 2 = true → ∀ t75_2 t74_2 t73_2 t72_2 t71_2 t70_2 t69_2 t68_2 t67_2 t66_2 t65_2 t64_2 t63_2 : Value, ∀ w99 : World, A92 D93 t75_2 t74_2 t73_2 t72_2 t71_2 t70_2 t69_2 t68_2 t67_2 t66_2 t65_2 t64_2 t63_2 w99 →
      Run Tryz.prog (sOp (.indexAddr 29 (.const t64_2) (.const t65_2)) 0) w99 fun t66_3 w100 =>
      A92 (setD D93 3) t75_2 t74_2 t73_2 t72_2 t71_2 t70_2 t69_2 t68_2 t67_2 t66_3 t65_2 t64_2 t63_2 w100) ∧
    (∀ D93 : Nat → Bool, D93 4 = false → D93 3 = true → ∀ t75_2 t74_2 t73_2 t72_2 t71_2 t70_2 t69_2 t68_2 t67_2 t66_2 t65_2 t64_2 t63_2 : Value, ∀ w101 : World, A92 D93 t75_2 t74_2 t73_2 t72_2 t71_2 t70_2 t69_2 t68_2 t67_2 t66_2 t65_2 t64_2 t63_2 w101 →
      Run Tryz.prog (sOp (.load 47 (.const t66_2)) 47) w101 fun t67_3 w102 =>
      A92 (setD D93 4) t75_2 t74_2 t73_2 t72_2 t71_2 t70_2 t69_2 t68_2 t67_3 t66_2 t65_2 t64_2 t63_2 w102) ∧
    (∀ D93 : Nat → Bool, D93 5 = false → ∀ t75_2 t74_2 t73_2 t72_2 t71_2 t70_2 t69_2 t68_2 t67_2 t66_2 t65_2 t64_2 t63_2 : Value, ∀ w103 : World, A92 D93 t75_2 t74_2 t73_2 t72_2 t71_2 t70_2 t69_2 t68_2 t67_2 t66_2 t65_2 t64_2 t63_2 w103 →
      Run Tryz.prog (sOp (.fieldAddr 47 (.const t4) 3) 0) w103 fun t68_3 w104 =>
      A92 (setD D93 5) t75_2 t74_2 t73_2 t72_2 t71_2 t70_2 t69_2 t68_3 t67_2 t66_2 t65_2 t64_2 t63_2 w104) ∧
    (∀ D93 : Nat → Bool, D93 6 = false → D93 5 = true → ∀ t75_2 t74_2 t73_2 t72_2 t71_2 t70_2 t69_2 t68_2 t67_2 t66_2 t65_2 t64_2 t63_2 : Value, ∀ w105 : World, A92 D93 t75_2 t74_2 t73_2 t72_2 t71_2 t70_2 t69_2 t68_2 t67_2 t66_2 t65_2 t64_2 t63_2 w105 →
      Run Tryz.prog (sOp (.load 29 (.const t68_2)) 29) w105 fun t69_3 w106 =>
      A92 (setD D93 6) t75_2 t74_2 t73_2 t72_2 t71_2 t70_2 t69_3 t68_2 t67_2 t66_2 t65_2 t64_2 t63_2 w106) ∧
    (∀ D93 : Nat → Bool, D93 7 = false → ∀ t75_2 t74_2 t73_2 t72_2 t71_2 t70_2 t69_2 t68_2 t67_2 t66_2 t65_2 t64_2 t63_2 : Value, ∀ w107 : World, A92 D93 t75_2 t74_2 t73_2 t72_2 t71_2 t70_2 t69_2 t68_2 t67_2 t66_2 t65_2 t64_2 t63_2 w107 →
      A92 (setD D93 7) t75_2 t74_2 t73_2 t72_2 t71_2 t60 t69_2 t68_2 t67_2 t66_2 t65_2 t64_2 t63_2 w107) ∧
    (∀ D93 : Nat → Bool, D93 8 = false → D93 6 = true → D93 7 = true → ∀ t75_2 t74_2 t73_2 t72_2 t71_2 t70_2 t69_2 t68_2 t67_2 t66_2 t65_2 t64_2 t63_2 : Value, ∀ w108 : World, A92 D93 t75_2 t74_2 t73_2 t72_2 t71_2 t70_2 t69_2 t68_2 t67_2 t66_2 t65_2 t64_2 t63_2 w108 →
      Run Tryz.prog (sOp (.indexAddr 29 (.const t69_2) (.const t70_2)) 0) w108 fun t71_3 w109 =>
      A92 (setD D93 8) t75_2 t74_2 t73_2 t72_2 t71_3 t70_2 t69_2 t68_2 t67_2 t66_2 t65_2 t64_2 t63_2 w109) ∧
    (∀ D93 : Nat → Bool, D93 9 = false → D93 8 = true → ∀ t75_2 t74_2 t73_2 t72_2 t71_2 t70_2 t69_2 t68_2 t67_2 t66_2 t65_2 t64_2 t63_2 : Value, ∀ w110 : World, A92 D93 t75_2 t74_2 t73_2 t72_2 t71_2 t70_2 t69_2 t68_2 t67_2 t66_2 t65_2 t64_2 t63_2 w110 →
      Run Tryz.prog (sOp (.load 47 (.const t71_2)) 47) w110 fun t72_3 w111 =>
      A92 (setD D93 9) t75_2 t74_2 t73_2 t72_3 t71_2 t70_2 t69_2 t68_2 t67_2 t66_2 t65_2 t64_2 t63_2 w111) ∧
    (∀ D93 : Nat → Bool, D93 10 = false → ∀ t75_2 t74_2 t73_2 t72_2 t71_2 t70_2 t69_2 t68_2 t67_2 t66_2 t65_2 t64_2 t63_2 : Value, ∀ w112 : World, A92 D93 t75_2 t74_2 t73_2 t72_2 t71_2 t70_2 t69_2 t68_2 t67_2 t66_2 t65_2 t64_2 t63_2 w112 →
      A92 (setD D93 10) t75_2 t74_2 p2 t72_2 t71_2 t70_2 t69_2 t68_2 t67_2 t66_2 t65_2 t64_2 t63_2 w112) ∧
    (∀ D93 : Nat → Bool, D93 11 = false → D93 4 = true → D93 9 = true → D93 10 = true → ∀ t75_2 t74_2 t73_2 t72_2 t71_2 t70_2 t69_2 t68_2 t67_2 t66_2 t65_2 t64_2 t63_2 : Value, ∀ w113 : World, A92 D93 t75_2 t74_2 t73_2 t72_2 t71_2 t70_2 t69_2 t68_2 t67_2 t66_2 t65_2 t64_2 t63_2 w113 →
      Run Tryz.prog (sCall (Value.func (.func 73) #[] #[]) [t67_2, t72_2, t73_2]) w113 fun t74_3 w114 =>
      A92 (setD D93 11) t75_2 t74_3 t73_2 t72_2 t71_2 t70_2 t69_2 t68_2 t67_2 t66_2 t65_2 t64_2 t63_2 w114) ∧
    (∀ D93 : Nat → Bool, D93 12 = false → D93 11 = true → ∀ t75_2 t74_2 t73_2 t72_2 t71_2 t70_2 t69_2 t68_2 t67_2 t66_2 t65_2 t64_2 t63_2 : Value, ∀ w115 : World, A92 D93 t75_2 t74_2 t73_2 t72_2 t71_2 t70_2 t69_2 t68_2 t67_2 t66_2 t65_2 t64_2 t63_2 w115 →
      Run Tryz.prog (sOp (.unOp .not 4 (.const t74_2)) 4) w115 fun t75_3 w116 =>
      A92 (setD D93 12) t75_3 t74_2 t73_2 t72_2 t71_2 t70_2 t69_2 t68_2 t67_2 t66_2 t65_2 t64_2 t63_2 w116) ∧
    True) ∧
  ∀ D93 : Nat → Bool, D93 12 = true → D93 11 = true → D93 10 = true → D93 9 = true → D93 8 = true → D93 7 = true → D93 6 = true → D93 5 = true → D93 4 = true → D93 3 = true → D93 2 = true → D93 1 = true → D93 0 = true → ∀ t75_2 t74_2 t73_2 t72_2 t71_2 t70_2 t69_2 t68_2 t67_2 t66_2 t65_2 t64_2 t63_2 : Value, ∀ w117 : World, A92 D93 t75_2 t74_2 t73_2 t72_2 t71_2 t70_2 t69_2 t68_2 t67_2 t66_2 t65_2 t64_2 t63_2 w117 →
  CondV t75_2 (
    R (.returned (Value.bool false)) w117) (
    Run Tryz.prog (sBin .add 3 false true t60 (Value.int .i64 1)) w117 fun t76_2 w118 =>
  I88 t76_2 w118 ∧ m89 t76_2 w118 < m89 t60 w90))) (
    R (.returned (Value.bool true)) w91)))))
theorem calls_i_instance {p0 p1 p2 : Value} {w : World} {R : Ending → World → Prop} (h : sh_i_instance p0 p1 p2 w R) : Calls Tryz.prog 73 #[p0, p1, p2] w R :=
  calls_sh (.seq none .leaf (.seq none .leaf (.seq none (.seq (some [56]) .leaf .leaf) (.seq none (.seq none .leaf (.one (.loop [60] .leaf))) .leaf)))) [p0, p1, p2] mixed Tryz.func73 (by kernel_rfl) (by kernel_rfl) h


/- slices.BinarySearchFunc[[]loop.example/prologserver/impl.Term,loop.example/prologserver/impl.Term,loop.example/prologserver/impl.Term] : function 74 -/
def sh_x_BinarySearchFunc_Term (p0 p1 p2 : Value) (w : World) (R : Ending → World → Prop) : Prop :=
  Run Tryz.prog (sOp (.box 47 (.const p1)) 0) w fun t4 w1 =>
  Run Tryz.prog (sBuiltin .len #[29] 3 [false] [p0]) w1 fun t13 w2 =>
  (∃ (I3 : Value → Value → World → Prop) (m4 : Value → Value → World → Nat), I3 t13 (Value.int .i64 0) w2 ∧
  ∀ t10 _ t9 _ _ t31 t30 t29 t28 t27 t26 t25 t24 _ _ _ _ _ _ _ _ _ _ : Value, ∀ w5 : World, I3 t10 t9 w5 →
  Run Tryz.prog (sBin .lss 3 false false t9 t10) w5 fun t17_2 w6 =>
  CondV t17_2 (
    Run Tryz.prog (sBin .add 3 false false t9 t10) w6 fun t20_2 w7 =>
  Run Tryz.prog (sOp (.convert 3 104 (.const t20_2)) 104) w7 fun t21_2 w8 =>
  Run Tryz.prog (sBin .shr 104 false true t21_2 (Value.int .u64 1)) w8 fun t22_2 w9 =>
  Run Tryz.prog (sOp (.convert 104 3 (.const t22_2)) 3) w9 fun t23_2 w10 =>
  (∃ A11 : (Nat → Bool) → Value → Value → Value → Value → Value → Value → Value → Value → World → Prop, A11 (fun _ => false) t31 t30 t29 t28 t27 t26 t25 t24 { w10 with drawn := w10.drawn + 1 } ∧ (
    (∀ D12 : Nat → Bool, D12 0 = false → ∀ t31_2 t30_2 t29_2 t28_2 t27_2 t26_2 t25_2 t24_2 : Value, ∀ w13 : World, A11 D12 t31_2 t30_2 t29_2 t28_2 t27_2 t26_2 t25_2 t24_2 w13 →
      A11 (setD D12 0) t31_2 t30_2 t29_2 t28_2 t27_2 t26_2 t25_2 p2 w13) ∧
    (∀ D12 : Nat → Bool, D12 1 = false → ∀ t31_2 t30_2 t29_2 t28_2 t27_2 t26_2 t25_2 t24_2 : Value, ∀ w14 : World, A11 D12 t31_2 t30_2 t29_2 t28_2 t27_2 t26_2 t25_2 t24_2 w14 →
      A11 (setD D12 1) t31_2 t30_2 t29_2 t28_2 t27_2 t26_2 p0 t24_2 w14) ∧
    (∀ D12 : Nat → Bool, D12 2 = false → ∀ t31_2 t30_2 t29_2 t28_2 t27_2 t26_2 t25_2 t24_2 : Value, ∀ w15 : World, A11 D12 t31_2 t30_2 t29_2 t28_2 t27_2 t26_2 t25_2 t24_2 w15 →
      A11 (setD D12 2) t31_2 t30_2 t29_2 t28_2 t27_2 t23_2 t25_2 t24_2 w15) ∧
    (∀ D12 : Nat → Bool, D12 3 = false → D12 1 = true → D12 2 = true → ∀ t31_2 t30_2 t29_2 t28_2 t27_2 t26_2 t25_2 t24_2 : Value, ∀ w16 : World, A11 D12 t31_2 t30_2 t29_2 t28_2 t27_2 t26_2 t25_2 t24_2 w16 →
      Run Tryz.prog (sOp (.indexAddr 29 (.const t25_2) (.const t26_2)) 0) w16 fun t27_3 w17 =>
      A11 (setD D12 3) t31_2 t30_2 t29_2 t28_2 t27_3 t26_2 t25_2 t24_2 w17) ∧
    (∀ D12 : Nat → Bool, D12 4 = false → D12 3 = true → ∀ t31_2 t30_2 t29_2 t28_2 t27_2 t26_2 t25_2 t24_2 : Value, ∀ w18 : World, A11 D12 t31_2 t30_2 t29_2 t28_2 t27_2 t26_2 t25_2 t24_2 w18 →
      Run Tryz.prog (sOp (.load 47 (.const t27_2)) 47) w18 fun t28_3 w19 =>
      A11 (setD D12 4) t31_2 t30_2 t29_2 t28_3 t27_2 t26_2 t25_2 t24_2 w19) ∧
    (∀ D12 : Nat → Bool, D12 5 = false → ∀ t31_2 t30_2 t29_2 t28_2 t27_2 t26_2 t25_2 t24_2 : Value, ∀ w20 : World, A11 D12 t31_2 t30_2 t29_2 t28_2 t27_2 t26_2 t25_2 t24_2 w20 →
      Run Tryz.prog (sOp (.load 47 (.const t4)) 47) w20 fun t29_3 w21 =>
      A11 (setD D12 5) t31_2 t30_2 t29_3 t28_2 t27_2 t26_2 t25_2 t24_2 w21) ∧
    (∀ D12 : Nat → Bool, D12 6 = false → D12 0 = true → D12 4 = true → D12 5 = true → ∀ t31_2 t30_2 t29_2 t28_2 t27_2 t26_2 t25_2 t24_2 : Value, ∀ w22 : World, A11 D12 t31_2 t30_2 t29_2 t28_2 t27_2 t26_2 t25_2 t24_2 w22 →
      Run Tryz.prog (sCall t24_2 [t28_2, t29_2]) w22 fun t30_3 w23 =>
      A11 (setD D12 6) t31_2 t30_3 t29_2 t28_2 t27_2 t26_2 t25_2 t24_2 w23) ∧
    (∀ D12 : Nat → Bool, D12 7 = false → D12 6 = true → ∀ t31_2 t30_2 t29_2 t28_2 t27_2 t26_2 t25_2 t24_2 : Value, ∀ w24 : World, A11 D12 t31_2 t30_2 t29_2 t28_2 t27_2 t26_2 t25_2 t24_2 w24 →
      Run Tryz.prog (sBin .lss 3 false true t30_2 (Value.int .i64 0)) w24 fun t31_3 w25 =>
      A11 (setD D12 7) t31_3 t30_2 t29_2 t28_2 t27_2 t26_2 t25_2 t24_2 w25) ∧
    True) ∧
  ∀ D12 : Nat → Bool, D12 7 = true → D12 6 = true → D12 5 = true → D12 4 = true → D12 3 = true → D12 2 = true → D12 1 = true → D12 0 = true → ∀ t31_2 t30_2 t29_2 t28_2 t27_2 t26_2 t25_2 t24_2 : Value, ∀ w26 : World, A11 D12 t31_2 t30_2 t29_2 t28_2 t27_2 t26_2 t25_2 t24_2 w26 →
  CondV t31_2 (
    Run Tryz.prog (sBin .add 3 false true t23_2 (Value.int .i64 1)) w26 fun t33_2 w27 =>
    I3 t10 t33_2 w27 ∧ m4 t10 t33_2 w27 < m4 t10 t9 w5) (
    I3 t23_2 t9 w26 ∧ m4 t23_2 t9 w26 < m4 t10 t9 w5))) (
    (∃ A28 : (Nat → Bool) → Value → Value → Value → Value → Value → Value → Value → Value → Value → Value → Value → Value → Value → Value → Value → Value → World → Prop, A28 (fun _ => false) (Value.bool false) (Value.int .i64 0) undef undef undef undef undef undef undef undef undef undef undef undef undef undef { w6 with drawn := w6.drawn + 1 } ∧ (
    (∀ D29 : Nat → Bool, D29 0 = false → ∀ t7 t6 t48 t47 t46 t45 t44 t43 t42 t41 t40 t39 t38 t37 t36 t35 : Value, ∀ w30 : World, A28 D29 t7 t6 t48 t47 t46 t45 t44 t43 t42 t41 t40 t39 t38 t37 t36 t35 w30 →
      A28 (setD D29 0) t7 t6 t48 t47 t46 t45 t44 t43 t42 t41 t40 t39 t38 t37 t36 t9 w30) ∧
    (∀ D29 : Nat → Bool, D29 1 = false → ∀ t7 t6 t48 t47 t46 t45 t44 t43 t42 t41 t40 t39 t38 t37 t36 t35 : Value, ∀ w31 : World, A28 D29 t7 t6 t48 t47 t46 t45 t44 t43 t42 t41 t40 t39 t38 t37 t36 t35 w31 →
      A28 (setD D29 1) t7 t6 t48 t47 t46 t45 t44 t43 t42 t41 t40 t39 t38 t37 t9 t35 w31) ∧
    (∀ D29 : Nat → Bool, D29 2 = false → ∀ t7 t6 t48 t47 t46 t45 t44 t43 t42 t41 t40 t39 t38 t37 t36 t35 : Value, ∀ w32 : World, A28 D29 t7 t6 t48 t47 t46 t45 t44 t43 t42 t41 t40 t39 t38 t37 t36 t35 w32 →
      A28 (setD D29 2) t7 t6 t48 t47 t46 t45 t44 t43 t42 t41 t40 t39 t38 t13 t36 t35 w32) ∧
    (∀ D29 : Nat → Bool, D29 3 = false → D29 1 = true → D29 2 = true → ∀ t7 t6 t48 t47 t46 t45 t44 t43 t42 t41 t40 t39 t38 t37 t36 t35 : Value, ∀ w33 : World, A28 D29 t7 t6 t48 t47 t46 t45 t44 t43 t42 t41 t40 t39 t38 t37 t36 t35 w33 →
      Run Tryz.prog (sBin .lss 3 false false t36 t37) w33 fun t38_2 w34 =>
      A28 (setD D29 3) t7 t6 t48 t47 t46 t45 t44 t43 t42 t41 t40 t39 t38_2 t37 t36 t35 w34) ∧
    (∀ D29 : Nat → Bool, D29 4 = false → D29 3 = true → ∀ t7 t6 t48 t47 t46 t45 t44 t43 t42 t41 t40 t39 t38 t37 t36 t35 : Value, ∀ w35 : World, A28 D29 t7 t6 t48 t47 t46 t45 t44 t43 t42 t41 t40 t39 t38 t37 t36 t35 w35 →
      A28 (setD D29 4) t7 t6 t48 t47 t46 t45 t44 t43 t42 t41 t40 t38 t38 t37 t36 t35 w35) ∧
    (∀ D29 : Nat → Bool, D29 5 = false → D29 4 = true → ∀ t7 t6 t48 t47 t46 t45 t44 t43 t42 t41 t40 t39 t38 t37 t36 t35 : Value, ∀ w36 : World, A28 D29 t7 t6 t48 t47 t46 t45 t44 t43 t42 t41 t40 t39 t38 t37 t36 t35 w36 →
      GuardV t39 true (A28 (setD D29 5) t7 t6 t48 t47 t46 t45 t44 t43 t42 t41 p2 t39 t38 t37 t36 t35 w36) (A28 (setD D29 5) t7 t6 t48 t47 t46 t45 t44 t43 t42 t41 undef t39 t38 t37 t36 t35 w36)) ∧
    (∀ D29 : Nat → Bool, D29 6 = false → D29 4 = true → ∀ t7 t6 t48 t47 t46 t45 t44 t43 t42 t41 t40 t39 t38 t37 t36 t35 : Value, ∀ w37 : World, A28 D29 t7 t6 t48 t47 t46 t45 t44 t43 t42 t41 t40 t39 t38 t37 t36 t35 w37 →
      GuardV t39 true (A28 (setD D29 6) t7 t6 t48 t47 t46 t45 t44 t43 t42 p0 t40 t39 t38 t37 t36 t35 w37) (A28 (setD D29 6) t7 t6 t48 t47 t46 t45 t44 t43 t42 undef t40 t39 t38 t37 t36 t35 w37)) ∧
    (∀ D29 : Nat → Bool, D29 7 = false → D29 4 = true → ∀ t7 t6 t48 t47 t46 t45 t44 t43 t42 t41 t40 t39 t38 t37 t36 t35 : Value, ∀ w38 : World, A28 D29 t7 t6 t48 t47 t46 t45 t44 t43 t42 t41 t40 t39 t38 t37 t36 t35 w38 →
      GuardV t39 true (A28 (setD D29 7) t7 t6 t48 t47 t46 t45 t44 t43 t9 t41 t40 t39 t38 t37 t36 t35 w38) (A28 (setD D29 7) t7 t6 t48 t47 t46 t45 t44 t43 undef t41 t40 t39 t38 t37 t36 t35 w38)) ∧
    (∀ D29 : Nat → Bool, D29 8 = false → D29 6 = true → D29 7 = true → D29 4 = true → ∀ t7 t6 t48 t47 t46 t45 t44 t43 t42 t41 t40 t39 t38 t37 t36 t35 : Value, ∀ w39 : World, A28 D29 t7 t6 t48 t47 t46 t45 t44 t43 t42 t41 t40 t39 t38 t37 t36 t35 w39 →
      GuardV t39 true (Run Tryz.prog (sOp (.indexAddr 29 (.const t41) (.const t42)) 0) w39 fun t43_2 w40 =>
      A28 (setD D29 8) t7 t6 t48 t47 t46 t45 t44 t43_2 t42 t41 t40 t39 t38 t37 t36 t35 w40) (A28 (setD D29 8) t7 t6 t48 t47 t46 t45 t44 undef t42 t41 t40 t39 t38 t37 t36 t35 w39)) ∧
    (∀ D29 : Nat → Bool, D29 9 = false → D29 8 = true → D29 4 = true → ∀ t7 t6 t48 t47 t46 t45 t44 t43 t42 t41 t40 t39 t38 t37 t36 t35 : Value, ∀ w41 : World, A28 D29 t7 t6 t48 t47 t46 t45 t44 t43 t42 t41 t40 t39 t38 t37 t36 t35 w41 →
      GuardV t39 true (Run Tryz.prog (sOp (.load 47 (.const t43)) 47) w41 fun t44_2 w42 =>
      A28 (setD D29 9) t7 t6 t48 t47 t46 t45 t44_2 t43 t42 t41 t40 t39 t38 t37 t36 t35 w42) (A28 (setD D29 9) t7 t6 t48 t47 t46 t45 undef t43 t42 t41 t40 t39 t38 t37 t36 t35 w41)) ∧
    (∀ D29 : Nat → Bool, D29 10 = false → D29 4 = true → ∀ t7 t6 t48 t47 t46 t45 t44 t43 t42 t41 t40 t39 t38 t37 t36 t35 : Value, ∀ w43 : World, A28 D29 t7 t6 t48 t47 t46 t45 t44 t43 t42 t41 t40 t39 t38 t37 t36 t35 w43 →
      GuardV t39 true (Run Tryz.prog (sOp (.load 47 (.const t4)) 47) w43 fun t45_2 w44 =>
      A28 (setD D29 10) t7 t6 t48 t47 t46 t45_2 t44 t43 t42 t41 t40 t39 t38 t37 t36 t35 w44) (A28 (setD D29 10) t7 t6 t48 t47 t46 undef t44 t43 t42 t41 t40 t39 t38 t37 t36 t35 w43)) ∧
    (∀ D29 : Nat → Bool, D29 11 = false → D29 5 = true → D29 9 = true → D29 10 = true → D29 4 = true → D29 4 = true → ∀ t7 t6 t48 t47 t46 t45 t44 t43 t42 t41 t40 t39 t38 t37 t36 t35 : Value, ∀ w45 : World, A28 D29 t7 t6 t48 t47 t46 t45 t44 t43 t42 t41 t40 t39 t38 t37 t36 t35 w45 →
      GuardV t39 true (Run Tryz.prog (sCall t40 [t44, t45]) w45 fun t46_2 w46 =>
      A28 (setD D29 11) t7 t6 t48 t47 t46_2 t45 t44 t43 t42 t41 t40 t39 t38 t37 t36 t35 w46) (A28 (setD D29 11) t7 t6 t48 t47 undef t45 t44 t43 t42 t41 t40 t39 t38 t37 t36 t35 w45)) ∧
    (∀ D29 : Nat → Bool, D29 12 = false → D29 11 = true → D29 4 = true → ∀ t7 t6 t48 t47 t46 t45 t44 t43 t42 t41 t40 t39 t38 t37 t36 t35 : Value, ∀ w47 : World, A28 D29 t7 t6 t48 t47 t46 t45 t44 t43 t42 t41 t40 t39 t38 t37 t36 t35 w47 →
      GuardV t39 true (Run Tryz.prog (sBin .eql 3 false true t46 (Value.int .i64 0)) w47 fun t47_2 w48 =>
      A28 (setD D29 12) t7 t6 t48 t47_2 t46 t45 t44 t43 t42 t41 t40 t39 t38 t37 t36 t35 w48) (A28 (setD D29 12) t7 t6 t48 undef t46 t45 t44 t43 t42 t41 t40 t39 t38 t37 t36 t35 w47)) ∧
    (∀ D29 : Nat → Bool, D29 13 = false → D29 4 = true → D29 12 = true → ∀ t7 t6 t48 t47 t46 t45 t44 t43 t42 t41 t40 t39 t38 t37 t36 t35 : Value, ∀ w49 : World, A28 D29 t7 t6 t48 t47 t46 t45 t44 t43 t42 t41 t40 t39 t38 t37 t36 t35 w49 →
      Run Tryz.prog (sOp (.pick (.const t39) (.const t47) (.const (Value.bool false))) 4) w49 fun t48_2 w50 =>
      A28 (setD D29 13) t7 t6 t48_2 t47 t46 t45 t44 t43 t42 t41 t40 t39 t38 t37 t36 t35 w50) ∧
    (∀ D29 : Nat → Bool, D29 14 = false → D29 0 = true → D29 11 = true → D29 0 = true → ∀ t7 t6 t48 t47 t46 t45 t44 t43 t42 t41 t40 t39 t38 t37 t36 t35 : Value, ∀ w51 : World, A28 D29 t7 t6 t48 t47 t46 t45 t44 t43 t42 t41 t40 t39 t38 t37 t36 t35 w51 →
      A28 (setD D29 14) t7 t35 t48 t47 t46 t45 t44 t43 t42 t41 t40 t39 t38 t37 t36 t35 w51) ∧
    (∀ D29 : Nat → Bool, D29 15 = false → D29 13 = true → D29 14 = true → D29 0 = true → D29 1 = true → D29 2 = true → D29 3 = true → D29 4 = true → D29 5 = true → D29 6 = true → D29 7 = true → D29 8 = true → D29 9 = true → D29 10 = true → D29 11 = true → D29 12 = true → D29 13 = true → D29 14 = true → ∀ t7 t6 t48 t47 t46 t45 t44 t43 t42 t41 t40 t39 t38 t37 t36 t35 : Value, ∀ w52 : World, A28 D29 t7 t6 t48 t47 t46 t45 t44 t43 t42 t41 t40 t39 t38 t37 t36 t35 w52 →
      A28 (setD D29 15) t48 t6 t48 t47 t46 t45 t44 t43 t42 t41 t40 t39 t38 t37 t36 t35 w52) ∧
    True) ∧
  ∀ D29 : Nat → Bool, D29 15 = true → D29 14 = true → D29 13 = true → D29 12 = true → D29 11 = true → D29 10 = true → D29 9 = true → D29 8 = true → D29 7 = true → D29 6 = true → D29 5 = true → D29 4 = true → D29 3 = true → D29 2 = true → D29 1 = true → D29 0 = true → ∀ t7 t6 t48 t47 t46 t45 t44 t43 t42 t41 t40 t39 t38 t37 t36 t35 : Value, ∀ w53 : World, A28 D29 t7 t6 t48 t47 t46 t45 t44 t43 t42 t41 t40 t39 t38 t37 t36 t35 w53 →
  R (.returned (.tuple #[t6, t7])) w53)))
theorem calls_x_BinarySearchFunc_Term {p0 p1 p2 : Value} {w : World} {R : Ending → World → Prop} (h : sh_x_BinarySearchFunc_Term p0 p1 p2 w R) : Calls Tryz.prog 74 #[p0, p1, p2] w R :=
  calls_sh (.seq none .leaf (.seq none .leaf (.seq none .leaf (.seq none (.one (.loop [10, 9] .leaf)) .leaf)))) [p0, p1, p2] mixed Tryz.func74 (by kernel_rfl) (by kernel_rfl) h


/- loop.example/prologserver/impl.compare : function 75 -/
def sh_i_compare (p0 p1 : Value) (w : World) (R : Ending → World → Prop) : Prop :=
  Run Tryz.prog (sOp (.box 47 (.const p0)) 0) w fun t2 w1 =>
  Run Tryz.prog (sOp (.box 47 (.const p1)) 0) w1 fun t3 w2 =>
  (∃ A3 : (Nat → Bool) → Value → Value → Value → Value → Value → Value → Value → Value → Value → Value → Value → Value → Value → Value → Value → Value → Value → Value → Value → Value → Value → Value → Value → Value → Value → Value → Value → Value → Value → Value → World → Prop, A3 (fun _ => false) (Value.int .i64 0) undef undef undef undef undef undef undef undef undef undef undef undef undef undef undef undef undef undef undef undef undef undef undef undef undef undef undef undef undef { w2 with drawn := w2.drawn + 1 } ∧ (
    (∀ D4 : Nat → Bool, D4 0 = false → ∀ t4 t33 t32 t31 t30 t29 t28 t27 t26 t25 t24 t23 t22 t21 t20 t19 t18 t17 t16 t15 t14 t13 t12 t11 t10 t9 t8 t7 t6 t5 : Value, ∀ w5 : World, A3 D4 t4 t33 t32 t31 t30 t29 t28 t27 t26 t25 t24 t23 t22 t21 t20 t19 t18 t17 t16 t15 t14 t13 t12 t11 t10 t9 t8 t7 t6 t5 w5 →
      Run Tryz.prog (sOp (.load 47 (.const t2)) 47) w5 fun t5_2 w6 =>
      A3 (setD D4 0) t4 t33 t32 t31 t30 t29 t28 t27 t26 t25 t24 t23 t22 t21 t20 t19 t18 t17 t16 t15 t14 t13 t12 t11 t10 t9 t8 t7 t6 t5_2 w6) ∧
    (∀ D4 : Nat → Bool, D4 1 = false → D4 0 = true → ∀ t4 t33 t32 t31 t30 t29 t28 t27 t26 t25 t24 t23 t22 t21 t20 t19 t18 t17 t16 t15 t14 t13 t12 t11 t10 t9 t8 t7 t6 t5 : Value, ∀ w7 : World, A3 D4 t4 t33 t32 t31 t30 t29 t28 t27 t26 t25 t24 t23 t22 t21 t20 t19 t18 t17 t16 t15 t14 t13 t12 t11 t10 t9 t8 t7 t6 t5 w7 →
      Run Tryz.prog (sCall (Value.func (.func 97) #[] #[]) [t5]) w7 fun t6_2 w8 =>
      A3 (setD D4 1) t4 t33 t32 t31 t30 t29 t28 t27 t26 t25 t24 t23 t22 t21 t20 t19 t18 t17 t16 t15 t14 t13 t12 t11 t10 t9 t8 t7 t6_2 t5 w8) ∧
    (∀ D4 : Nat → Bool, D4 2 = false → ∀ t4 t33 t32 t31 t30 t29 t28 t27 t26 t25 t24 t23 t22 t21 t20 t19 t18 t17 t16 t15 t14 t13 t12 t11 t10 t9 t8 t7 t6 t5 : Value, ∀ w9 : World, A3 D4 t4 t33 t32 t31 t30 t29 t28 t27 t26 t25 t24 t23 t22 t21 t20 t19 t18 t17 t16 t15 t14 t13 t12 t11 t10 t9 t8 t7 t6 t5 w9 →
      Run Tryz.prog (sOp (.load 47 (.const t3)) 47) w9 fun t7_2 w10 =>
      A3 (setD D4 2) t4 t33 t32 t31 t30 t29 t28 t27 t26 t25 t24 t23 t22 t21 t20 t19 t18 t17 t16 t15 t14 t13 t12 t11 t10 t9 t8 t7_2 t6 t5 w10) ∧
    (∀ D4 : Nat → Bool, D4 3 = false → D4 2 = true → D4 1 = true → ∀ t4 t33 t32 t31 t30 t29 t28 t27 t26 t25 t24 t23 t22 t21 t20 t19 t18 t17 t16 t15 t14 t13 t12 t11 t10 t9 t8 t7 t6 t5 : Value, ∀ w11 : World, A3 D4 t4 t33 t32 t31 t30 t29 t28 t27 t26 t25 t24 t23 t22 t21 t20 t19 t18 t17 t16 t15 t14 t13 t12 t11 t10 t9 t8 t7 t6 t5 w11 →
      Run Tryz.prog (sCall (Value.func (.func 97) #[] #[]) [t7]) w11 fun t8_2 w12 =>
      A3 (setD D4 3) t4 t33 t32 t31 t30 t29 t28 t27 t26 t25 t24 t23 t22 t21 t20 t19 t18 t17 t16 t15 t14 t13 t12 t11 t10 t9 t8_2 t7 t6 t5 w12) ∧
    (∀ D4 : Nat → Bool, D4 4 = false → D4 1 = true → D4 3 = true → D4 3 = true → ∀ t4 t33 t32 t31 t30 t29 t28 t27 t26 t25 t24 t23 t22 t21 t20 t19 t18 t17 t16 t15 t14 t13 t12 t11 t10 t9 t8 t7 t6 t5 : Value, ∀ w13 : World, A3 D4 t4 t33 t32 t31 t30 t29 t28 t27 t26 t25 t24 t23 t22 t21 t20 t19 t18 t17 t16 t15 t14 t13 t12 t11 t10 t9 t8 t7 t6 t5 w13 →
      Run Tryz.prog (sCall (Value.func (.func 96) #[] #[]) [t6, t8]) w13 fun t9_2 w14 =>
      A3 (setD D4 4) t4 t33 t32 t31 t30 t29 t28 t27 t26 t25 t24 t23 t22 t21 t20 t19 t18 t17 t16 t15 t14 t13 t12 t11 t10 t9_2 t8 t7 t6 t5 w14) ∧
    (∀ D4 : Nat → Bool, D4 5 = false → ∀ t4 t33 t32 t31 t30 t29 t28 t27 t26 t25 t24 t23 t22 t21 t20 t19 t18 t17 t16 t15 t14 t13 t12 t11 t10 t9 t8 t7 t6 t5 : Value, ∀ w15 : World, A3 D4 t4 t33 t32 t31 t30 t29 t28 t27 t26 t25 t24 t23 t22 t21 t20 t19 t18 t17 t16 t15 t14 t13 t12 t11 t10 t9 t8 t7 t6 t5 w15 →
      Run Tryz.prog (sOp (.fieldAddr 47 (.const t2) 1) 0) w15 fun t10_2 w16 =>
      A3 (setD D4 5) t4 t33 t32 t31 t30 t29 t28 t27 t26 t25 t24 t23 t22 t21 t20 t19 t18 t17 t16 t15 t14 t13 t12 t11 t10_2 t9 t8 t7 t6 t5 w16) ∧
    (∀ D4 : Nat → Bool, D4 6 = false → D4 5 = true → ∀ t4 t33 t32 t31 t30 t29 t28 t27 t26 t25 t24 t23 t22 t21 t20 t19 t18 t17 t16 t15 t14 t13 t12 t11 t10 t9 t8 t7 t6 t5 : Value, ∀ w17 : World, A3 D4 t4 t33 t32 t31 t30 t29 t28 t27 t26 t25 t24 t23 t22 t21 t20 t19 t18 t17 t16 t15 t14 t13 t12 t11 t10 t9 t8 t7 t6 t5 w17 →
      Run Tryz.prog (sOp (.load 3 (.const t10)) 3) w17 fun t11_2 w18 =>
      A3 (setD D4 6) t4 t33 t32 t31 t30 t29 t28 t27 t26 t25 t24 t23 t22 t21 t20 t19 t18 t17 t16 t15 t14 t13 t12 t11_2 t10 t9 t8 t7 t6 t5 w18) ∧
    (∀ D4 : Nat → Bool, D4 7 = false → ∀ t4 t33 t32 t31 t30 t29 t28 t27 t26 t25 t24 t23 t22 t21 t20 t19 t18 t17 t16 t15 t14 t13 t12 t11 t10 t9 t8 t7 t6 t5 : Value, ∀ w19 : World, A3 D4 t4 t33 t32 t31 t30 t29 t28 t27 t26 t25 t24 t23 t22 t21 t20 t19 t18 t17 t16 t15 t14 t13 t12 t11 t10 t9 t8 t7 t6 t5 w19 →
      Run Tryz.prog (sOp (.fieldAddr 47 (.const t3) 1) 0) w19 fun t12_2 w20 =>
      A3 (setD D4 7) t4 t33 t32 t31 t30 t29 t28 t27 t26 t25 t24 t23 t22 t21 t20 t19 t18 t17 t16 t15 t14 t13 t12_2 t11 t10 t9 t8 t7 t6 t5 w20) ∧
    (∀ D4 : Nat → Bool, D4 8 = false → D4 7 = true → ∀ t4 t33 t32 t31 t30 t29 t28 t27 t26 t25 t24 t23 t22 t21 t20 t19 t18 t17 t16 t15 t14 t13 t12 t11 t10 t9 t8 t7 t6 t5 : Value, ∀ w21 : World, A3 D4 t4 t33 t32 t31 t30 t29 t28 t27 t26 t25 t24 t23 t22 t21 t20 t19 t18 t17 t16 t15 t14 t13 t12 t11 t10 t9 t8 t7 t6 t5 w21 →
      Run Tryz.prog (sOp (.load 3 (.const t12)) 3) w21 fun t13_2 w22 =>
      A3 (setD D4 8) t4 t33 t32 t31 t30 t29 t28 t27 t26 t25 t24 t23 t22 t21 t20 t19 t18 t17 t16 t15 t14 t13_2 t12 t11 t10 t9 t8 t7 t6 t5 w22) ∧
    (∀ D4 : Nat → Bool, D4 9 = false → D4 6 = true → D4 8 = true → D4 4 = true → ∀ t4 t33 t32 t31 t30 t29 t28 t27 t26 t25 t24 t23 t22 t21 t20 t19 t18 t17 t16 t15 t14 t13 t12 t11 t10 t9 t8 t7 t6 t5 : Value, ∀ w23 : World, A3 D4 t4 t33 t32 t31 t30 t29 t28 t27 t26 t25 t24 t23 t22 t21 t20 t19 t18 t17 t16 t15 t14 t13 t12 t11 t10 t9 t8 t7 t6 t5 w23 →
      Run Tryz.prog (sCall (Value.func (.func 96) #[] #[]) [t11, t13]) w23 fun t14_2 w24 =>
      A3 (setD D4 9) t4 t33 t32 t31 t30 t29 t28 t27 t26 t25 t24 t23 t22 t21 t20 t19 t18 t17 t16 t15 t14_2 t13 t12 t11 t10 t9 t8 t7 t6 t5 w24) ∧
    (∀ D4 : Nat → Bool, D4 10 = false → ∀ t4 t33 t32 t31 t30 t29 t28 t27 t26 t25 t24 t23 t22 t21 t20 t19 t18 t17 t16 t15 t14 t13 t12 t11 t10 t9 t8 t7 t6 t5 : Value, ∀ w25 : World, A3 D4 t4 t33 t32 t31 t30 t29 t28 t27 t26 t25 t24 t23 t22 t21 t20 t19 t18 t17 t16 t15 t14 t13 t12 t11 t10 t9 t8 t7 t6 t5 w25 →
      Run Tryz.prog (sOp (.fieldAddr 47 (.const t2) 3) 0) w25 fun t15_2 w26 =>
      A3 (setD D4 10) t4 t33 t32 t31 t30 t29 t28 t27 t26 t25 t24 t23 t22 t21 t20 t19 t18 t17 t16 t15_2 t14 t13 t12 t11 t10 t9 t8 t7 t6 t5 w26) ∧
    (∀ D4 : Nat → Bool, D4 11 = false → D4 10 = true → ∀ t4 t33 t32 t31 t30 t29 t28 t27 t26 t25 t24 t23 t22 t21 t20 t19 t18 t17 t16 t15 t14 t13 t12 t11 t10 t9 t8 t7 t6 t5 : Value, ∀ w27 : World, A3 D4 t4 t33 t32 t31 t30 t29 t28 t27 t26 t25 t24 t23 t22 t21 t20 t19 t18 t17 t16 t15 t14 t13 t12 t11 t10 t9 t8 t7 t6 t5 w27 →
      Run Tryz.prog (sOp (.load 29 (.const t15)) 29) w27 fun t16_2 w28 =>
      A3 (setD D4 11) t4 t33 t32 t31 t30 t29 t28 t27 t26 t25 t24 t23 t22 t21 t20 t19 t18 t17 t16_2 t15 t14 t13 t12 t11 t10 t9 t8 t7 t6 t5 w28) ∧
    (∀ D4 : Nat → Bool, D4 12 = false → D4 11 = true → ∀ t4 t33 t32 t31 t30 t29 t28 t27 t26 t25 t24 t23 t22 t21 t20 t19 t18 t17 t16 t15 t14 t13 t12 t11 t10 t9 t8 t7 t6 t5 : Value, ∀ w29 : World, A3 D4 t4 t33 t32 t31 t30 t29 t28 t27 t26 t25 t24 t23 t22 t21 t20 t19 t18 t17 t16 t15 t14 t13 t12 t11 t10 t9 t8 t7 t6 t5 w29 →
      Run Tryz.prog (sBuiltin .len #[29] 3 [false] [t16]) w29 fun t17_2 w30 =>
      A3 (setD D4 12) t4 t33 t32 t31 t30 t29 t28 t27 t26 t25 t24 t23 t22 t21 t20 t19 t18 t17_2 t16 t15 t14 t13 t12 t11 t10 t9 t8 t7 t6 t5 w30) ∧
    (∀ D4 : Nat → Bool, D4 13 = false → ∀ t4 t33 t32 t31 t30 t29 t28 t27 t26 t25 t24 t23 t22 t21 t20 t19 t18 t17 t16 t15 t14 t13 t12 t11 t10 t9 t8 t7 t6 t5 : Value, ∀ w31 : World, A3 D4 t4 t33 t32 t31 t30 t29 t28 t27 t26 t25 t24 t23 t22 t21 t20 t19 t18 t17 t16 t15 t14 t13 t12 t11 t10 t9 t8 t7 t6 t5 w31 →
      Run Tryz.prog (sOp (.fieldAddr 47 (.const t3) 3) 0) w31 fun t18_2 w32 =>
      A3 (setD D4 13) t4 t33 t32 t31 t30 t29 t28 t27 t26 t25 t24 t23 t22 t21 t20 t19 t18_2 t17 t16 t15 t14 t13 t12 t11 t10 t9 t8 t7 t6 t5 w32) ∧
    (∀ D4 : Nat → Bool, D4 14 = false → D4 13 = true → ∀ t4 t33 t32 t31 t30 t29 t28 t27 t26 t25 t24 t23 t22 t21 t20 t19 t18 t17 t16 t15 t14 t13 t12 t11 t10 t9 t8 t7 t6 t5 : Value, ∀ w33 : World, A3 D4 t4 t33 t32 t31 t30 t29 t28 t27 t26 t25 t24 t23 t22 t21 t20 t19 t18 t17 t16 t15 t14 t13 t12 t11 t10 t9 t8 t7 t6 t5 w33 →
      Run Tryz.prog (sOp (.load 29 (.const t18)) 29) w33 fun t19_2 w34 =>
      A3 (setD D4 14) t4 t33 t32 t31 t30 t29 t28 t27 t26 t25 t24 t23 t22 t21 t20 t19_2 t18 t17 t16 t15 t14 t13 t12 t11 t10 t9 t8 t7 t6 t5 w34) ∧
    (∀ D4 : Nat → Bool, D4 15 = false → D4 14 = true → ∀ t4 t33 t32 t31 t30 t29 t28 t27 t26 t25 t24 t23 t22 t21 t20 t19 t18 t17 t16 t15 t14 t13 t12 t11 t10 t9 t8 t7 t6 t5 : Value, ∀ w35 : World, A3 D4 t4 t33 t32 t31 t30 t29 t28 t27 t26 t25 t24 t23 t22 t21 t20 t19 t18 t17 t16 t15 t14 t13 t12 t11 t10 t9 t8 t7 t6 t5 w35 →
      Run Tryz.prog (sBuiltin .len #[29] 3 [false] [t19]) w35 fun t20_2 w36 =>
      A3 (setD D4 15) t4 t33 t32 t31 t30 t29 t28 t27 t26 t25 t24 t23 t22 t21 t20_2 t19 t18 t17 t16 t15 t14 t13 t12 t11 t10 t9 t8 t7 t6 t5 w36) ∧
    (∀ D4 : Nat → Bool, D4 16 = false → D4 12 = true → D4 15 = true → D4 9 = true → ∀ t4 t33 t32 t31 t30 t29 t28 t27 t26 t25 t24 t23 t22 t21 t20 t19 t18 t17 t16 t15 t14 t13 t12 t11 t10 t9 t8 t7 t6 t5 : Value, ∀ w37 : World, A3 D4 t4 t33 t32 t31 t30 t29 t28 t27 t26 t25 t24 t23 t22 t21 t20 t19 t18 t17 t16 t15 t14 t13 t12 t11 t10 t9 t8 t7 t6 t5 w37 →
      Run Tryz.prog (sCall (Value.func (.func 96) #[] #[]) [t17, t20]) w37 fun t21_2 w38 =>
      A3 (setD D4 16) t4 t33 t32 t31 t30 t29 t28 t27 t26 t25 t24 t23 t22 t21_2 t20 t19 t18 t17 t16 t15 t14 t13 t12 t11 t10 t9 t8 t7 t6 t5 w38) ∧
    (∀ D4 : Nat → Bool, D4 17 = false → ∀ t4 t33 t32 t31 t30 t29 t28 t27 t26 t25 t24 t23 t22 t21 t20 t19 t18 t17 t16 t15 t14 t13 t12 t11 t10 t9 t8 t7 t6 t5 : Value, ∀ w39 : World, A3 D4 t4 t33 t32 t31 t30 t29 t28 t27 t26 t25 t24 t23 t22 t21 t20 t19 t18 t17 t16 t15 t14 t13 t12 t11 t10 t9 t8 t7 t6 t5 w39 →
      Run Tryz.prog (sOp (.fieldAddr 47 (.const t2) 2) 0) w39 fun t22_2 w40 =>
      A3 (setD D4 17) t4 t33 t32 t31 t30 t29 t28 t27 t26 t25 t24 t23 t22_2 t21 t20 t19 t18 t17 t16 t15 t14 t13 t12 t11 t10 t9 t8 t7 t6 t5 w40) ∧
    (∀ D4 : Nat → Bool, D4 18 = false → D4 17 = true → ∀ t4 t33 t32 t31 t30 t29 t28 t27 t26 t25 t24 t23 t22 t21 t20 t19 t18 t17 t16 t15 t14 t13 t12 t11 t10 t9 t8 t7 t6 t5 : Value, ∀ w41 : World, A3 D4 t4 t33 t32 t31 t30 t29 t28 t27 t26 t25 t24 t23 t22 t21 t20 t19 t18 t17 t16 t15 t14 t13 t12 t11 t10 t9 t8 t7 t6 t5 w41 →
      Run Tryz.prog (sOp (.load 9 (.const t22)) 9) w41 fun t23_2 w42 =>
      A3 (setD D4 18) t4 t33 t32 t31 t30 t29 t28 t27 t26 t25 t24 t23_2 t22 t21 t20 t19 t18 t17 t16 t15 t14 t13 t12 t11 t10 t9 t8 t7 t6 t5 w42) ∧
    (∀ D4 : Nat → Bool, D4 19 = false → ∀ t4 t33 t32 t31 t30 t29 t28 t27 t26 t25 t24 t23 t22 t21 t20 t19 t18 t17 t16 t15 t14 t13 t12 t11 t10 t9 t8 t7 t6 t5 : Value, ∀ w43 : World, A3 D4 t4 t33 t32 t31 t30 t29 t28 t27 t26 t25 t24 t23 t22 t21 t20 t19 t18 t17 t16 t15 t14 t13 t12 t11 t10 t9 t8 t7 t6 t5 w43 →
      Run Tryz.prog (sOp (.fieldAddr 47 (.const t3) 2) 0) w43 fun t24_2 w44 =>
      A3 (setD D4 19) t4 t33 t32 t31 t30 t29 t28 t27 t26 t25 t24_2 t23 t22 t21 t20 t19 t18 t17 t16 t15 t14 t13 t12 t11 t10 t9 t8 t7 t6 t5 w44) ∧
    (∀ D4 : Nat → Bool, D4 20 = false → D4 19 = true → ∀ t4 t33 t32 t31 t30 t29 t28 t27 t26 t25 t24 t23 t22 t21 t20 t19 t18 t17 t16 t15 t14 t13 t12 t11 t10 t9 t8 t7 t6 t5 : Value, ∀ w45 : World, A3 D4 t4 t33 t32 t31 t30 t29 t28 t27 t26 t25 t24 t23 t22 t21 t20 t19 t18 t17 t16 t15 t14 t13 t12 t11 t10 t9 t8 t7 t6 t5 w45 →
      Run Tryz.prog (sOp (.load 9 (.const t24)) 9) w45 fun t25_2 w46 =>
      A3 (setD D4 20) t4 t33 t32 t31 t30 t29 t28 t27 t26 t25_2 t24 t23 t22 t21 t20 t19 t18 t17 t16 t15 t14 t13 t12 t11 t10 t9 t8 t7 t6 t5 w46) ∧
    (∀ D4 : Nat → Bool, D4 21 = false → D4 18 = true → D4 20 = true → D4 16 = true → ∀ t4 t33 t32 t31 t30 t29 t28 t27 t26 t25 t24 t23 t22 t21 t20 t19 t18 t17 t16 t15 t14 t13 t12 t11 t10 t9 t8 t7 t6 t5 : Value, ∀ w47 : World, A3 D4 t4 t33 t32 t31 t30 t29 t28 t27 t26 t25 t24 t23 t22 t21 t20 t19 t18 t17 t16 t15 t14 t13 t12 t11 t10 t9 t8 t7 t6 t5 w47 →
      Run Tryz.prog (sCall (Value.func (.func 98) #[] #[]) [t23, t25]) w47 fun t26_2 w48 =>
      A3 (setD D4 21) t4 t33 t32 t31 t30 t29 t28 t27 t26_2 t25 t24 t23 t22 t21 t20 t19 t18 t17 t16 t15 t14 t13 t12 t11 t10 t9 t8 t7 t6 t5 w48) ∧
    (∀ D4 : Nat → Bool, D4 22 = false → ∀ t4 t33 t32 t31 t30 t29 t28 t27 t26 t25 t24 t23 t22 t21 t20 t19 t18 t17 t16 t15 t14 t13 t12 t11 t10 t9 t8 t7 t6 t5 : Value, ∀ w49 : World, A3 D4 t4 t33 t32 t31 t30 t29 t28 t27 t26 t25 t24 t23 t22 t21 t20 t19 t18 t17 t16 t15 t14 t13 t12 t11 t10 t9 t8 t7 t6 t5 w49 →
      Run Tryz.prog (sOp (.fieldAddr 47 (.const t2) 3) 0) w49 fun t27_2 w50 =>
      A3 (setD D4 22) t4 t33 t32 t31 t30 t29 t28 t27_2 t26 t25 t24 t23 t22 t21 t20 t19 t18 t17 t16 t15 t14 t13 t12 t11 t10 t9 t8 t7 t6 t5 w50) ∧
    (∀ D4 : Nat → Bool, D4 23 = false → D4 22 = true → ∀ t4 t33 t32 t31 t30 t29 t28 t27 t26 t25 t24 t23 t22 t21 t20 t19 t18 t17 t16 t15 t14 t13 t12 t11 t10 t9 t8 t7 t6 t5 : Value, ∀ w51 : World, A3 D4 t4 t33 t32 t31 t30 t29 t28 t27 t26 t25 t24 t23 t22 t21 t20 t19 t18 t17 t16 t15 t14 t13 t12 t11 t10 t9 t8 t7 t6 t5 w51 →
      Run Tryz.prog (sOp (.load 29 (.const t27)) 29) w51 fun t28_2 w52 =>
      A3 (setD D4 23) t4 t33 t32 t31 t30 t29 t28_2 t27 t26 t25 t24 t23 t22 t21 t20 t19 t18 t17 t16 t15 t14 t13 t12 t11 t10 t9 t8 t7 t6 t5 w52) ∧
    (∀ D4 : Nat → Bool, D4 24 = false → ∀ t4 t33 t32 t31 t30 t29 t28 t27 t26 t25 t24 t23 t22 t21 t20 t19 t18 t17 t16 t15 t14 t13 t12 t11 t10 t9 t8 t7 t6 t5 : Value, ∀ w53 : World, A3 D4 t4 t33 t32 t31 t30 t29 t28 t27 t26 t25 t24 t23 t22 t21 t20 t19 t18 t17 t16 t15 t14 t13 t12 t11 t10 t9 t8 t7 t6 t5 w53 →
      Run Tryz.prog (sOp (.fieldAddr 47 (.const t3) 3) 0) w53 fun t29_2 w54 =>
      A3 (setD D4 24) t4 t33 t32 t31 t30 t29_2 t28 t27 t26 t25 t24 t23 t22 t21 t20 t19 t18 t17 t16 t15 t14 t13 t12 t11 t10 t9 t8 t7 t6 t5 w54) ∧
    (∀ D4 : Nat → Bool, D4 25 = false → D4 24 = true → ∀ t4 t33 t32 t31 t30 t29 t28 t27 t26 t25 t24 t23 t22 t21 t20 t19 t18 t17 t16 t15 t14 t13 t12 t11 t10 t9 t8 t7 t6 t5 : Value, ∀ w55 : World, A3 D4 t4 t33 t32 t31 t30 t29 t28 t27 t26 t25 t24 t23 t22 t21 t20 t19 t18 t17 t16 t15 t14 t13 t12 t11 t10 t9 t8 t7 t6 t5 w55 →
      Run Tryz.prog (sOp (.load 29 (.const t29)) 29) w55 fun t30_2 w56 =>
      A3 (setD D4 25) t4 t33 t32 t31 t30_2 t29 t28 t27 t26 t25 t24 t23 t22 t21 t20 t19 t18 t17 t16 t15 t14 t13 t12 t11 t10 t9 t8 t7 t6 t5 w56) ∧
    (∀ D4 : Nat → Bool, D4 26 = false → D4 23 = true → D4 25 = true → D4 21 = true → ∀ t4 t33 t32 t31 t30 t29 t28 t27 t26 t25 t24 t23 t22 t21 t20 t19 t18 t17 t16 t15 t14 t13 t12 t11 t10 t9 t8 t7 t6 t5 : Value, ∀ w57 : World, A3 D4 t4 t33 t32 t31 t30 t29 t28 t27 t26 t25 t24 t23 t22 t21 t20 t19 t18 t17 t16 t15 t14 t13 t12 t11 t10 t9 t8 t7 t6 t5 w57 →
      Run Tryz.prog (sCall (Value.func (.func 99) #[] #[]) [t28, t30, (Value.func (.func 75) #[] #[])]) w57 fun t31_2 w58 =>
      A3 (setD D4 26) t4 t33 t32 t31_2 t30 t29 t28 t27 t26 t25 t24 t23 t22 t21 t20 t19 t18 t17 t16 t15 t14 t13 t12 t11 t10 t9 t8 t7 t6 t5 w58) ∧
    (∀ D4 : Nat → Bool, D4 27 = false → D4 4 = true → D4 9 = true → D4 16 = true → D4 21 = true → D4 26 = true → ∀ t4 t33 t32 t31 t30 t29 t28 t27 t26 t25 t24 t23 t22 t21 t20 t19 t18 t17 t16 t15 t14 t13 t12 t11 t10 t9 t8 t7 t6 t5 : Value, ∀ w59 : World, A3 D4 t4 t33 t32 t31 t30 t29 t28 t27 t26 t25 t24 t23 t22 t21 t20 t19 t18 t17 t16 t15 t14 t13 t12 t11 t10 t9 t8 t7 t6 t5 w59 →
      Run Tryz.prog (sBuildSlice 67 5 [(0, t9), (1, t14), (2, t21), (3, t26), (4, t31)]) w59 fun t32_2 w60 =>
      A3 (setD D4 27) t4 t33 t32_2 t31 t30 t29 t28 t27 t26 t25 t24 t23 t22 t21 t20 t19 t18 t17 t16 t15 t14 t13 t12 t11 t10 t9 t8 t7 t6 t5 w60) ∧
    (∀ D4 : Nat → Bool, D4 28 = false → D4 27 = true → D4 26 = true → ∀ t4 t33 t32 t31 t30 t29 t28 t27 t26 t25 t24 t23 t22 t21 t20 t19 t18 t17 t16 t15 t14 t13 t12 t11 t10 t9 t8 t7 t6 t5 : Value, ∀ w61 : World, A3 D4 t4 t33 t32 t31 t30 t29 t28 t27 t26 t25 t24 t23 t22 t21 t20 t19 t18 t17 t16 t15 t14 t13 t12 t11 t10 t9 t8 t7 t6 t5 w61 →
      Run Tryz.prog (sCall (Value.func (.func 95) #[] #[]) [t32]) w61 fun t33_2 w62 =>
      A3 (setD D4 28) t4 t33_2 t32 t31 t30 t29 t28 t27 t26 t25 t24 t23 t22 t21 t20 t19 t18 t17 t16 t15 t14 t13 t12 t11 t10 t9 t8 t7 t6 t5 w62) ∧
    (∀ D4 : Nat → Bool, D4 29 = false → D4 28 = true → D4 28 = true → D4 0 = true → D4 1 = true → D4 2 = true → D4 3 = true → D4 4 = true → D4 5 = true → D4 6 = true → D4 7 = true → D4 8 = true → D4 9 = true → D4 10 = true → D4 11 = true → D4 12 = true → D4 13 = true → D4 14 = true → D4 15 = true → D4 16 = true → D4 17 = true → D4 18 = true → D4 19 = true → D4 20 = true → D4 21 = true → D4 22 = true → D4 23 = true → D4 24 = true → D4 25 = true → D4 26 = true → D4 27 = true → D4 28 = true → ∀ t4 t33 t32 t31 t30 t29 t28 t27 t26 t25 t24 t23 t22 t21 t20 t19 t18 t17 t16 t15 t14 t13 t12 t11 t10 t9 t8 t7 t6 t5 : Value, ∀ w63 : World, A3 D4 t4 t33 t32 t31 t30 t29 t28 t27 t26 t25 t24 t23 t22 t21 t20 t19 t18 t17 t16 t15 t14 t13 t12 t11 t10 t9 t8 t7 t6 t5 w63 →
      A3 (setD D4 29) t33 t33 t32 t31 t30 t29 t28 t27 t26 t25 t24 t23 t22 t21 t20 t19 t18 t17 t16 t15 t14 t13 t12 t11 t10 t9 t8 t7 t6 t5 w63) ∧
    True) ∧
  ∀ D4 : Nat → Bool, D4 29 = true → D4 28 = true → D4 27 = true → D4 26 = true → D4 25 = true → D4 24 = true → D4 23 = true → D4 22 = true → D4 21 = true → D4 20 = true → D4 19 = true → D4 18 = true → D4 17 = true → D4 16 = true → D4 15 = true → D4 14 = true → D4 13 = true → D4 12 = true → D4 11 = true → D4 10 = true → D4 9 = true → D4 8 = true → D4 7 = true → D4 6 = true → D4 5 = true → D4 4 = true → D4 3 = true → D4 2 = true → D4 1 = true → D4 0 = true → ∀ t4 t33 t32 t31 t30 t29 t28 t27 t26 t25 t24 t23 t22 t21 t20 t19 t18 t17 t16 t15 t14 t13 t12 t11 t10 t9 t8 t7 t6 t5 : Value, ∀ w64 : World, A3 D4 t4 t33 t32 t31 t30 t29 t28 t27 t26 t25 t24 t23 t22 t21 t20 t19 t18 t17 t16 t15 t14 t13 t12 t11 t10 t9 t8 t7 t6 t5 w64 →
  R (.returned t4) w64)
theorem calls_i_compare {p0 p1 : Value} {w : World} {R : Ending → World → Prop} (h : sh_i_compare p0 p1 w R) : Calls Tryz.prog 75 #[p0, p1] w R :=
  calls_sh .leaf [p0, p1] mixed Tryz.func75 (by kernel_rfl) (by kernel_rfl) h


/- slices.Insert[[]loop.example/prologserver/impl.Term,loop.example/prologserver/impl.Term] : function 76 -/
def sh_x_Insert_Term (p0 p1 p2 : Value) (w : World) (R : Ending → World → Prop) : Prop :=
  Run Tryz.prog (sOp (.slice 29 (.const p0) (some (.const p1)) none none) 29) w fun _ w1 =>
  Run Tryz.prog (sBuiltin .len #[29] 3 [false] [p2]) w1 fun t14 w2 =>
  Run Tryz.prog (sBin .eql 3 false true t14 (Value.int .i64 0)) w2 fun t16 w3 =>
  CondV t16 (
    R (.returned p0) w3) (
    Run Tryz.prog (sBuiltin .len #[29] 3 [false] [p0]) w3 fun t19 w4 =>
  Run Tryz.prog (sBin .eql 3 false false p1 t19) w4 fun t22 w5 =>
  CondV t22 (
    Run Tryz.prog (sBuiltin .append #[29, 29] 29 [false, false] [p0, p2]) w5 fun t25 w6 =>
    R (.returned t25) w6) (
    Run Tryz.prog (sBin .add 3 false false t19 t14) w5 fun t28 w7 =>
  Run Tryz.prog (sBuiltin .cap #[29] 3 [false] [p0]) w7 fun t30 w8 =>
  Run Tryz.prog (sBin .gtr 3 false false t28 t30) w8 fun t31 w9 =>
  CondV t31 (
    Run Tryz.prog (sOp (.slice 29 (.const p0) none (some (.const p1)) none) 29) w9 fun t34 w10 =>
    Run Tryz.prog (sBin .add 3 false false t19 t14) w10 fun t37 w11 =>
    Run Tryz.prog (sBin .sub 3 false false t37 p1) w11 fun t39 w12 =>
    Run Tryz.prog (sBuiltin .append #[29, 3] 29 [false, false] [t34, t39]) w12 fun t40 w13 =>
    Run Tryz.prog (sOp (.slice 29 (.const t40) (some (.const p1)) none none) 29) w13 fun t43 w14 =>
    Run Tryz.prog (sBuiltin .copy #[29, 29] 3 [false, false] [t43, p2]) w14 fun _ w15 =>
    (∃ A16 : (Nat → Bool) → Value → Value → Value → Value → Value → Value → Value → Value → Value → World → Prop, A16 (fun _ => false) undef undef undef undef undef undef undef undef undef { w15 with drawn := w15.drawn + 1 } ∧ (
      (∀ D17 : Nat → Bool, D17 0 = false → ∀ t54 t53 t52 t51 t50 t49 t48 t47 t46 : Value, ∀ w18 : World, A16 D17 t54 t53 t52 t51 t50 t49 t48 t47 t46 w18 →
        A16 (setD D17 0) t54 t53 t52 t51 t50 t49 t48 t47 t40 w18) ∧
      (∀ D17 : Nat → Bool, D17 1 = false → ∀ t54 t53 t52 t51 t50 t49 t48 t47 t46 : Value, ∀ w19 : World, A16 D17 t54 t53 t52 t51 t50 t49 t48 t47 t46 w19 →
        A16 (setD D17 1) t54 t53 t52 t51 t50 t49 t48 p1 t46 w19) ∧
      (∀ D17 : Nat → Bool, D17 2 = false → ∀ t54 t53 t52 t51 t50 t49 t48 t47 t46 : Value, ∀ w20 : World, A16 D17 t54 t53 t52 t51 t50 t49 t48 t47 t46 w20 →
        A16 (setD D17 2) t54 t53 t52 t51 t50 t49 t14 t47 t46 w20) ∧
      (∀ D17 : Nat → Bool, D17 3 = false → D17 1 = true → D17 2 = true → ∀ t54 t53 t52 t51 t50 t49 t48 t47 t46 : Value, ∀ w21 : World, A16 D17 t54 t53 t52 t51 t50 t49 t48 t47 t46 w21 →
        Run Tryz.prog (sBin .add 3 false false t47 t48) w21 fun t49_2 w22 =>
        A16 (setD D17 3) t54 t53 t52 t51 t50 t49_2 t48 t47 t46 w22) ∧
      (∀ D17 : Nat → Bool, D17 4 = false → D17 0 = true → D17 3 = true → ∀ t54 t53 t52 t51 t50 t49 t48 t47 t46 : Value, ∀ w23 : World, A16 D17 t54 t53 t52 t51 t50 t49 t48 t47 t46 w23 →
        Run Tryz.prog (sOp (.slice 29 (.const t46) (some (.const t49)) none none) 29) w23 fun t50_2 w24 =>
        A16 (setD D17 4) t54 t53 t52 t51 t50_2 t49 t48 t47 t46 w24) ∧
      (∀ D17 : Nat → Bool, D17 5 = false → ∀ t54 t53 t52 t51 t50 t49 t48 t47 t46 : Value, ∀ w25 : World, A16 D17 t54 t53 t52 t51 t50 t49 t48 t47 t46 w25 →
        A16 (setD D17 5) t54 t53 t52 p0 t50 t49 t48 t47 t46 w25) ∧
      (∀ D17 : Nat → Bool, D17 6 = false → ∀ t54 t53 t52 t51 t50 t49 t48 t47 t46 : Value, ∀ w26 : World, A16 D17 t54 t53 t52 t51 t50 t49 t48 t47 t46 w26 →
        A16 (setD D17 6) t54 t53 p1 t51 t50 t49 t48 t47 t46 w26) ∧
      (∀ D17 : Nat → Bool, D17 7 = false → D17 5 = true → D17 6 = true → ∀ t54 t53 t52 t51 t50 t49 t48 t47 t46 : Value, ∀ w27 : World, A16 D17 t54 t53 t52 t51 t50 t49 t48 t47 t46 w27 →
        Run Tryz.prog (sOp (.slice 29 (.const t51) (some (.const t52)) none none) 29) w27 fun t53_2 w28 =>
        A16 (setD D17 7) t54 t53_2 t52 t51 t50 t49 t48 t47 t46 w28) ∧
      (∀ D17 : Nat → Bool, D17 8 = false → D17 4 = true → D17 7 = true → ∀ t54 t53 t52 t51 t50 t49 t48 t47 t46 : Value, ∀ w29 : World, A16 D17 t54 t53 t52 t51 t50 t49 t48 t47 t46 w29 →
        Run Tryz.prog (sBuiltin .copy #[29, 29] 3 [false, false] [t50, t53]) w29 fun t54_2 w30 =>
        A16 (setD D17 8) t54_2 t53 t52 t51 t50 t49 t48 t47 t46 w30) ∧
      True) ∧
    ∀ D17 : Nat → Bool, D17 8 = true → D17 7 = true → D17 6 = true → D17 5 = true → D17 4 = true → D17 3 = true → D17 2 = true → D17 1 = true → D17 0 = true → ∀ t54 t53 t52 t51 t50 t49 t48 t47 t46 : Value, ∀ w31 : World, A16 D17 t54 t53 t52 t51 t50 t49 t48 t47 t46 w31 →
    R (.returned t40) w31)) (
    Run Tryz.prog (sBin .add 3 false false t19 t14) w9 fun t59 w32 =>
  Run Tryz.prog (sOp (.slice 29 (.const p0) none (some (.const t59)) none) 29) w32 fun t60 w33 =>
  Run Tryz.prog (sBin .add 3 false false p1 t14) w33 fun t65 w34 =>
  Run Tryz.prog (sOp (.slice 29 (.const t60) (some (.const t65)) none none) 29) w34 fun t66 w35 =>
  Run Tryz.prog (sCall (Value.func (.func 100) #[] #[]) [p2, t66]) w35 fun t67 w36 =>
  Run Tryz.prog (sOp (.unOp .not 4 (.const t67)) 4) w36 fun t68 w37 =>
  CondV t68 (
    (∃ A38 : (Nat → Bool) → Value → Value → Value → Value → Value → Value → Value → Value → Value → World → Prop, A38 (fun _ => false) undef undef undef undef undef undef undef undef undef { w37 with drawn := w37.drawn + 1 } ∧ (
      (∀ D39 : Nat → Bool, D39 0 = false → ∀ t77 t76 t75 t74 t73 t72 t71 t70 t69 : Value, ∀ w40 : World, A38 D39 t77 t76 t75 t74 t73 t72 t71 t70 t69 w40 →
        A38 (setD D39 0) t77 t76 t75 t74 t73 t72 t71 t70 t60 w40) ∧
      (∀ D39 : Nat → Bool, D39 1 = false → ∀ t77 t76 t75 t74 t73 t72 t71 t70 t69 : Value, ∀ w41 : World, A38 D39 t77 t76 t75 t74 t73 t72 t71 t70 t69 w41 →
        A38 (setD D39 1) t77 t76 t75 t74 t73 t72 t71 p1 t69 w41) ∧
      (∀ D39 : Nat → Bool, D39 2 = false → ∀ t77 t76 t75 t74 t73 t72 t71 t70 t69 : Value, ∀ w42 : World, A38 D39 t77 t76 t75 t74 t73 t72 t71 t70 t69 w42 →
        A38 (setD D39 2) t77 t76 t75 t74 t73 t72 t14 t70 t69 w42) ∧
      (∀ D39 : Nat → Bool, D39 3 = false → D39 1 = true → D39 2 = true → ∀ t77 t76 t75 t74 t73 t72 t71 t70 t69 : Value, ∀ w43 : World, A38 D39 t77 t76 t75 t74 t73 t72 t71 t70 t69 w43 →
        Run Tryz.prog (sBin .add 3 false false t70 t71) w43 fun t72_2 w44 =>
        A38 (setD D39 3) t77 t76 t75 t74 t73 t72_2 t71 t70 t69 w44) ∧
      (∀ D39 : Nat → Bool, D39 4 = false → D39 0 = true → D39 3 = true → ∀ t77 t76 t75 t74 t73 t72 t71 t70 t69 : Value, ∀ w45 : World, A38 D39 t77 t76 t75 t74 t73 t72 t71 t70 t69 w45 →
        Run Tryz.prog (sOp (.slice 29 (.const t69) (some (.const t72)) none none) 29) w45 fun t73_2 w46 =>
        A38 (setD D39 4) t77 t76 t75 t74 t73_2 t72 t71 t70 t69 w46) ∧
      (∀ D39 : Nat → Bool, D39 5 = false → ∀ t77 t76 t75 t74 t73 t72 t71 t70 t69 : Value, ∀ w47 : World, A38 D39 t77 t76 t75 t74 t73 t72 t71 t70 t69 w47 →
        A38 (setD D39 5) t77 t76 t75 t60 t73 t72 t71 t70 t69 w47) ∧
      (∀ D39 : Nat → Bool, D39 6 = false → ∀ t77 t76 t75 t74 t73 t72 t71 t70 t69 : Value, ∀ w48 : World, A38 D39 t77 t76 t75 t74 t73 t72 t71 t70 t69 w48 →
        A38 (setD D39 6) t77 t76 p1 t74 t73 t72 t71 t70 t69 w48) ∧
      (∀ D39 : Nat → Bool, D39 7 = false → D39 5 = true → D39 6 = true → ∀ t77 t76 t75 t74 t73 t72 t71 t70 t69 : Value, ∀ w49 : World, A38 D39 t77 t76 t75 t74 t73 t72 t71 t70 t69 w49 →
        Run Tryz.prog (sOp (.slice 29 (.const t74) (some (.const t75)) none none) 29) w49 fun t76_2 w50 =>
        A38 (setD D39 7) t77 t76_2 t75 t74 t73 t72 t71 t70 t69 w50) ∧
      (∀ D39 : Nat → Bool, D39 8 = false → D39 4 = true → D39 7 = true → ∀ t77 t76 t75 t74 t73 t72 t71 t70 t69 : Value, ∀ w51 : World, A38 D39 t77 t76 t75 t74 t73 t72 t71 t70 t69 w51 →
        Run Tryz.prog (sBuiltin .copy #[29, 29] 3 [false, false] [t73, t76]) w51 fun t77_2 w52 =>
        A38 (setD D39 8) t77_2 t76 t75 t74 t73 t72 t71 t70 t69 w52) ∧
      True) ∧
    ∀ D39 : Nat → Bool, D39 8 = true → D39 7 = true → D39 6 = true → D39 5 = true → D39 4 = true → D39 3 = true → D39 2 = true → D39 1 = true → D39 0 = true → ∀ t77 t76 t75 t74 t73 t72 t71 t70 t69 : Value, ∀ w53 : World, A38 D39 t77 t76 t75 t74 t73 t72 t71 t70 t69 w53 →
    Run Tryz.prog (sOp (.slice 29 (.const t60) (some (.const p1)) none none) 29) w53 fun t80 w54 =>
    Run Tryz.prog (sBuiltin .copy #[29, 29] 3 [false, false] [t80, p2]) w54 fun _ w55 =>
    R (.returned t60) w55)) (
    Run Tryz.prog (sOp (.slice 29 (.const t60) (some (.const t19)) none none) 29) w37 fun t86 w56 =>
  Run Tryz.prog (sBuiltin .copy #[29, 29] 3 [false, false] [t86, p2]) w56 fun _ w57 =>
  Run Tryz.prog (sOp (.slice 29 (.const t60) (some (.const p1)) none none) 29) w57 fun t91 w58 =>
  Run Tryz.prog (sCall (Value.func (.func 101) #[] #[]) [t91, t14]) w58 fun _ w59 =>
  R (.returned t60) w59))))
theorem calls_x_Insert_Term {p0 p1 p2 : Value} {w : World} {R : Ending → World → Prop} (h : sh_x_Insert_Term p0 p1 p2 w R) : Calls Tryz.prog 76 #[p0, p1, p2] w R :=
  calls_sh .leaf [p0, p1, p2] mixed Tryz.func76 (by kernel_rfl) (by kernel_rfl) h

end Go.Proofs.YtgdibnmabnimaaaGreat

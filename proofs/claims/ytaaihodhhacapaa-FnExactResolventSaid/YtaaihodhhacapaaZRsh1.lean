/- Made by program: the functions in a shallow form; each form gives Calls. -/
import Derived.Test.YtaaihodhhacapaaVcCalls
import Derived.Test.YtaaihodhhacapaaProg
import Derived.Test.YtaaihodhhacapaaZRsh0
import Derived.KernelRfl
set_option maxRecDepth 100000
namespace Go.Proofs.Ytaaihodhhacapaa
open Go
/- loop.example/prologserver/spec.l3Full : function 57 -/
def sh_s_l3Full (p0 p1 p2 : Value) (w : World) (R : Ending → World → Prop) : Prop :=
  Run Try.prog (sOp (.box 30 (.const p0)) 0) w fun t3 w1 =>
  Run Try.prog (sOp (.alloc 30) 0) w1 fun t6 w2 =>
  Run Try.prog (sBin .lss 3 false true p2 (Value.int .i64 1)) w2 fun t14 w3 =>
  CondV t14 (
    Run Try.prog (sBuild 30 []) w3 fun t15 w4 =>
    Run Try.prog (sOp (.store 30 (.const t6) (.const t15)) 0) w4 fun _u w5 =>
    (LoadV Try.prog 30 t6 w5 fun r0 => R (.returned (.tuple #[r0, (Value.int .i64 (-1))])) w5)) (
    Run Try.prog (sOp (.load 30 (.const t3)) 30) w3 fun t16 w6 =>
  Run Try.prog (sCall (Value.func (.func 55) #[] #[]) [t16, p1]) w6 fun t18 w7 =>
  Run Try.prog (sOp (.store 30 (.const t3) (.const t18)) 0) w7 fun _u w8 =>
  Run Try.prog (sOp (.fieldAddr 30 (.const t3) 0) 0) w8 fun t19 w9 =>
  Run Try.prog (sOp (.load 3 (.const t19)) 3) w9 fun t20 w10 =>
  Run Try.prog (sOp (.fieldAddr 30 (.const t3) 1) 0) w10 fun t21 w11 =>
  Run Try.prog (sOp (.load 3 (.const t21)) 3) w11 fun t22 w12 =>
  Run Try.prog (sOp (.fieldAddr 30 (.const t3) 2) 0) w12 fun t23 w13 =>
  Run Try.prog (sOp (.load 9 (.const t23)) 9) w13 fun t24 w14 =>
  Run Try.prog (sBuild 30 [(0, t20), (1, t22), (2, t24)]) w14 fun t25 w15 =>
  Run Try.prog (sOp (.alloc 30) 0) w15 fun t8 w16 =>
  Run Try.prog (sOp (.store 30 (.const t8) (.const t25)) 0) w16 fun _u w17 =>
  Run Try.prog (sBin .sub 3 false true p2 (Value.int .i64 1)) w17 fun t27 w18 =>
  (∃ (I19 : Value → Value → World → Prop) (m20 : Value → Value → World → Nat), I19 (Value.int .i64 0) t27 w18 ∧
  ∀ t10 _ _ t9 _ _ _ _ _ _ _ _ _ _ _ _ _ _ _ _ _ _ _ _ _ _ _ _ _ _ _ _ _ : Value, ∀ w21 : World, I19 t10 t9 w21 →
  (∃ J22 : Value → World → Prop, (
    Run Try.prog (sOp (.fieldAddr 30 (.const t3) 3) 0) w21 fun t29_2 w23 =>
    Run Try.prog (sOp (.load 28 (.const t29_2)) 28) w23 fun t30_2 w24 =>
    Run Try.prog (sBuiltin .len #[28] 3 [false] [t30_2]) w24 fun t31_2 w25 =>
    Run Try.prog (sBin .lss 3 false false t10 t31_2) w25 fun t32_2 w26 =>
    GuardV t32_2 true (
      Run Try.prog (sBin .geq 3 false true t9 (Value.int .i64 0)) w26 fun t35_2 w27 =>
      Run Try.prog (sOp (.pick (.const t32_2) (.const t35_2) (.const (Value.bool false))) 4) w27 fun t36_2 w28 =>
      J22 t36_2 w28) (
      Run Try.prog (sOp (.pick (.const t32_2) (.const undef) (.const (Value.bool false))) 4) w26 fun t36_3 w29 =>
      J22 t36_3 w29)) ∧
  ∀ t36_4 _ _ _ _ _ _ _ _ : Value, ∀ w30 : World, J22 t36_4 w30 →
  CondV t36_4 (
    Run Try.prog (sOp (.fieldAddr 30 (.const t3) 3) 0) w30 fun t40_2 w31 =>
  Run Try.prog (sOp (.load 28 (.const t40_2)) 28) w31 fun t41_2 w32 =>
  Run Try.prog (sOp (.indexAddr 28 (.const t41_2) (.const t10)) 0) w32 fun t43_2 w33 =>
  Run Try.prog (sOp (.load 30 (.const t43_2)) 30) w33 fun t44_2 w34 =>
  Run Try.prog (sCall (Value.func (.func 57) #[] #[]) [t44_2, p1, t9]) w34 fun t47_2 w35 =>
  Run Try.prog (sOp (.extract (.const t47_2) 0) 30) w35 fun t48_2 w36 =>
  Run Try.prog (sOp (.extract (.const t47_2) 1) 3) w36 fun t49_2 w37 =>
  Run Try.prog (sOp (.alloc 30) 0) w37 fun t11_2 w38 =>
  Run Try.prog (sOp (.store 30 (.const t11_2) (.const t48_2)) 0) w38 fun _u w39 =>
  Run Try.prog (sOp (.fieldAddr 30 (.const t8) 3) 0) w39 fun t50_2 w40 =>
  Run Try.prog (sOp (.load 28 (.const t50_2)) 28) w40 fun t51_2 w41 =>
  Run Try.prog (sOp (.load 30 (.const t11_2)) 30) w41 fun t52_2 w42 =>
  Run Try.prog (sBuildSlice 28 1 [(0, t52_2)]) w42 fun t53_2 w43 =>
  Run Try.prog (sBuiltin .append #[28, 28] 28 [false, false] [t51_2, t53_2]) w43 fun t54_2 w44 =>
  Run Try.prog (sOp (.fieldAddr 30 (.const t8) 3) 0) w44 fun t55_2 w45 =>
  Run Try.prog (sOp (.store 28 (.const t55_2) (.const t54_2)) 0) w45 fun _u w46 =>
  Run Try.prog (sBin .add 3 false true t10 (Value.int .i64 1)) w46 fun t38_2 w47 =>
  I19 t38_2 t49_2 w47 ∧ m20 t38_2 t49_2 w47 < m20 t10 t9 w21) (
    Run Try.prog (sOp (.load 30 (.const t8)) 30) w30 fun t57 w48 =>
  Run Try.prog (sOp (.store 30 (.const t6) (.const t57)) 0) w48 fun _ w49 =>
  (LoadV Try.prog 30 t6 w49 fun r0 => R (.returned (.tuple #[r0, t9])) w49)))))
theorem calls_s_l3Full {p0 p1 p2 : Value} {w : World} {R : Ending → World → Prop} (h : sh_s_l3Full p0 p1 p2 w R) : Calls Try.prog 57 #[p0, p1, p2] w R :=
  calls_sh (.seq none .leaf (.seq none .leaf (.seq none .leaf (.seq none .leaf (.seq none .leaf (.seq none (.seq none .leaf (.one (.loop [10, 9] (.seq none (.seq (some [36]) .leaf .leaf) .leaf)))) .leaf)))))) [p0, p1, p2] mixed Try.func57 (by kernel_rfl) (by kernel_rfl) h


/- loop.example/prologserver/spec.l6Flat : function 58 -/
def sh_s_l6Flat (p0 p1 : Value) (w : World) (R : Ending → World → Prop) : Prop :=
  Run Try.prog (sOp (.box 30 (.const p0)) 0) w fun t2 w1 =>
  Run Try.prog (sBin .lss 3 false true p1 (Value.int .i64 1)) w1 fun t7 w2 =>
  CondV t7 (
    R (.returned (Value.bool false)) w2) (
    (∃ (I3 : Value → World → Prop) (m4 : Value → World → Nat), I3 (Value.int .i64 0) w2 ∧
  ∀ t5 _ _ _ _ _ _ _ _ _ _ _ _ _ _ _ _ _ : Value, ∀ w5 : World, I3 t5 w5 →
  Run Try.prog (sOp (.fieldAddr 30 (.const t2) 3) 0) w5 fun t9_2 w6 =>
  Run Try.prog (sOp (.load 28 (.const t9_2)) 28) w6 fun t10_2 w7 =>
  Run Try.prog (sBuiltin .len #[28] 3 [false] [t10_2]) w7 fun t11_2 w8 =>
  Run Try.prog (sBin .lss 3 false false t5 t11_2) w8 fun t12_2 w9 =>
  CondV t12_2 (
    Run Try.prog (sOp (.fieldAddr 30 (.const t2) 3) 0) w9 fun t15_2 w10 =>
  Run Try.prog (sOp (.load 28 (.const t15_2)) 28) w10 fun t16_2 w11 =>
  Run Try.prog (sOp (.indexAddr 28 (.const t16_2) (.const t5)) 0) w11 fun t18_2 w12 =>
  Run Try.prog (sOp (.load 30 (.const t18_2)) 30) w12 fun t19_2 w13 =>
  Run Try.prog (sBin .sub 3 false true p1 (Value.int .i64 1)) w13 fun t21_2 w14 =>
  Run Try.prog (sCall (Value.func (.func 58) #[] #[]) [t19_2, t21_2]) w14 fun t22_2 w15 =>
  Run Try.prog (sOp (.unOp .not 4 (.const t22_2)) 4) w15 fun t23_2 w16 =>
  CondV t23_2 (
    R (.returned (Value.bool false)) w16) (
    Run Try.prog (sBin .add 3 false true t5 (Value.int .i64 1)) w16 fun t14_2 w17 =>
  I3 t14_2 w17 ∧ m4 t14_2 w17 < m4 t5 w5)) (
    R (.returned (Value.bool true)) w9)))
theorem calls_s_l6Flat {p0 p1 : Value} {w : World} {R : Ending → World → Prop} (h : sh_s_l6Flat p0 p1 w R) : Calls Try.prog 58 #[p0, p1] w R :=
  calls_sh (.seq none .leaf (.seq none .leaf (.seq none (.seq none .leaf (.one (.loop [5] .leaf))) .leaf))) [p0, p1] mixed Try.func58 (by kernel_rfl) (by kernel_rfl) h


/- loop.example/prologserver/spec.l1Vars : function 59 -/
def sh_s_l1Vars (p0 p1 : Value) (w : World) (R : Ending → World → Prop) : Prop :=
  Run Try.prog (sOp (.box 30 (.const p1)) 0) w fun t3 w1 =>
  Run Try.prog (sOp (.fieldAddr 30 (.const t3) 0) 0) w1 fun t7 w2 =>
  Run Try.prog (sOp (.load 3 (.const t7)) 3) w2 fun t8 w3 =>
  Run Try.prog (sBin .eql 3 false true t8 (Value.int .i64 1)) w3 fun t9 w4 =>
  CondV t9 (
    (∃ (I5 : Value → World → Prop) (m6 : Value → World → Nat), I5 (Value.int .i64 0) w4 ∧
    ∀ t5 _ _ _ _ t22 t21 t20 t19 t18 t17 t16 _ _ _ _ : Value, ∀ w7 : World, I5 t5 w7 →
    Run Try.prog (sBuiltin .len #[74] 3 [false] [p0]) w7 fun t12_2 w8 =>
    Run Try.prog (sBin .lss 3 false false t5 t12_2) w8 fun t13_2 w9 =>
    CondV t13_2 (
      (∃ A10 : (Nat → Bool) → Value → Value → Value → Value → Value → Value → Value → World → Prop, A10 (fun _ => false) t22 t21 t20 t19 t18 t17 t16 { w9 with drawn := w9.drawn + 1 } ∧ (
      (∀ D11 : Nat → Bool, D11 0 = false → ∀ t22_2 t21_2 t20_2 t19_2 t18_2 t17_2 t16_2 : Value, ∀ w12 : World, A10 D11 t22_2 t21_2 t20_2 t19_2 t18_2 t17_2 t16_2 w12 →
        A10 (setD D11 0) t22_2 t21_2 t20_2 t19_2 t18_2 t17_2 p0 w12) ∧
      (∀ D11 : Nat → Bool, D11 1 = false → ∀ t22_2 t21_2 t20_2 t19_2 t18_2 t17_2 t16_2 : Value, ∀ w13 : World, A10 D11 t22_2 t21_2 t20_2 t19_2 t18_2 t17_2 t16_2 w13 →
        A10 (setD D11 1) t22_2 t21_2 t20_2 t19_2 t18_2 t5 t16_2 w13) ∧
      (∀ D11 : Nat → Bool, D11 2 = false → D11 0 = true → D11 1 = true → ∀ t22_2 t21_2 t20_2 t19_2 t18_2 t17_2 t16_2 : Value, ∀ w14 : World, A10 D11 t22_2 t21_2 t20_2 t19_2 t18_2 t17_2 t16_2 w14 →
        Run Try.prog (sOp (.indexAddr 74 (.const t16_2) (.const t17_2)) 0) w14 fun t18_3 w15 =>
        A10 (setD D11 2) t22_2 t21_2 t20_2 t19_2 t18_3 t17_2 t16_2 w15) ∧
      (∀ D11 : Nat → Bool, D11 3 = false → D11 2 = true → ∀ t22_2 t21_2 t20_2 t19_2 t18_2 t17_2 t16_2 : Value, ∀ w16 : World, A10 D11 t22_2 t21_2 t20_2 t19_2 t18_2 t17_2 t16_2 w16 →
        Run Try.prog (sOp (.load 3 (.const t18_2)) 3) w16 fun t19_3 w17 =>
        A10 (setD D11 3) t22_2 t21_2 t20_2 t19_3 t18_2 t17_2 t16_2 w17) ∧
      (∀ D11 : Nat → Bool, D11 4 = false → ∀ t22_2 t21_2 t20_2 t19_2 t18_2 t17_2 t16_2 : Value, ∀ w18 : World, A10 D11 t22_2 t21_2 t20_2 t19_2 t18_2 t17_2 t16_2 w18 →
        Run Try.prog (sOp (.fieldAddr 30 (.const t3) 1) 0) w18 fun t20_3 w19 =>
        A10 (setD D11 4) t22_2 t21_2 t20_3 t19_2 t18_2 t17_2 t16_2 w19) ∧
      (∀ D11 : Nat → Bool, D11 5 = false → D11 4 = true → ∀ t22_2 t21_2 t20_2 t19_2 t18_2 t17_2 t16_2 : Value, ∀ w20 : World, A10 D11 t22_2 t21_2 t20_2 t19_2 t18_2 t17_2 t16_2 w20 →
        Run Try.prog (sOp (.load 3 (.const t20_2)) 3) w20 fun t21_3 w21 =>
        A10 (setD D11 5) t22_2 t21_3 t20_2 t19_2 t18_2 t17_2 t16_2 w21) ∧
      (∀ D11 : Nat → Bool, D11 6 = false → D11 3 = true → D11 5 = true → ∀ t22_2 t21_2 t20_2 t19_2 t18_2 t17_2 t16_2 : Value, ∀ w22 : World, A10 D11 t22_2 t21_2 t20_2 t19_2 t18_2 t17_2 t16_2 w22 →
        Run Try.prog (sBin .eql 3 false false t19_2 t21_2) w22 fun t22_3 w23 =>
        A10 (setD D11 6) t22_3 t21_2 t20_2 t19_2 t18_2 t17_2 t16_2 w23) ∧
      True) ∧
    ∀ D11 : Nat → Bool, D11 6 = true → D11 5 = true → D11 4 = true → D11 3 = true → D11 2 = true → D11 1 = true → D11 0 = true → ∀ t22_2 t21_2 t20_2 t19_2 t18_2 t17_2 t16_2 : Value, ∀ w24 : World, A10 D11 t22_2 t21_2 t20_2 t19_2 t18_2 t17_2 t16_2 w24 →
    CondV t22_2 (
      R (.returned p0) w24) (
      Run Try.prog (sBin .add 3 false true t5 (Value.int .i64 1)) w24 fun t15_2 w25 =>
    I5 t15_2 w25 ∧ m6 t15_2 w25 < m6 t5 w7))) (
      Run Try.prog (sOp (.fieldAddr 30 (.const t3) 1) 0) w9 fun t25 w26 =>
    Run Try.prog (sOp (.load 3 (.const t25)) 3) w26 fun t26 w27 =>
    Run Try.prog (sBuildSlice 74 1 [(0, t26)]) w27 fun t27 w28 =>
    Run Try.prog (sBuiltin .append #[74, 74] 74 [false, false] [p0, t27]) w28 fun t28 w29 =>
    R (.returned t28) w29))) (
    (∃ (I30 : Value → Value → World → Prop) (m31 : Value → Value → World → Nat), I30 (Value.int .i64 0) p0 w4 ∧
  ∀ t6 _ _ t0 _ _ _ _ _ _ _ _ _ _ _ _ : Value, ∀ w32 : World, I30 t6 t0 w32 →
  Run Try.prog (sOp (.fieldAddr 30 (.const t3) 3) 0) w32 fun t30_2 w33 =>
  Run Try.prog (sOp (.load 28 (.const t30_2)) 28) w33 fun t31_2 w34 =>
  Run Try.prog (sBuiltin .len #[28] 3 [false] [t31_2]) w34 fun t32_2 w35 =>
  Run Try.prog (sBin .lss 3 false false t6 t32_2) w35 fun t33_2 w36 =>
  CondV t33_2 (
    Run Try.prog (sOp (.fieldAddr 30 (.const t3) 3) 0) w36 fun t37_2 w37 =>
  Run Try.prog (sOp (.load 28 (.const t37_2)) 28) w37 fun t38_2 w38 =>
  Run Try.prog (sOp (.indexAddr 28 (.const t38_2) (.const t6)) 0) w38 fun t40_2 w39 =>
  Run Try.prog (sOp (.load 30 (.const t40_2)) 30) w39 fun t41_2 w40 =>
  Run Try.prog (sCall (Value.func (.func 59) #[] #[]) [t0, t41_2]) w40 fun t42_2 w41 =>
  Run Try.prog (sBin .add 3 false true t6 (Value.int .i64 1)) w41 fun t35_2 w42 =>
  I30 t35_2 t42_2 w42 ∧ m31 t35_2 t42_2 w42 < m31 t6 t0 w32) (
    R (.returned t0) w36)))
theorem calls_s_l1Vars {p0 p1 : Value} {w : World} {R : Ending → World → Prop} (h : sh_s_l1Vars p0 p1 w R) : Calls Try.prog 59 #[p0, p1] w R :=
  calls_sh (.seq none .leaf (.seq none (.seq none .leaf (.two (.seq none (.seq none .leaf (.one (.loop [5] .leaf))) .leaf) .leaf)) (.seq none (.seq none .leaf (.one (.loop [6, 0] .leaf))) .leaf))) [p0, p1] mixed Try.func59 (by kernel_rfl) (by kernel_rfl) h


/- loop.example/prologserver/spec.l1Rename : function 60 -/
def sh_s_l1Rename (p0 p1 : Value) (w : World) (R : Ending → World → Prop) : Prop :=
  Run Try.prog (sOp (.box 30 (.const p0)) 0) w fun t2 w1 =>
  Run Try.prog (sOp (.alloc 30) 0) w1 fun t4 w2 =>
  Run Try.prog (sOp (.fieldAddr 30 (.const t2) 0) 0) w2 fun t8 w3 =>
  Run Try.prog (sOp (.load 3 (.const t8)) 3) w3 fun t9 w4 =>
  Run Try.prog (sOp (.fieldAddr 30 (.const t2) 1) 0) w4 fun t10 w5 =>
  Run Try.prog (sOp (.load 3 (.const t10)) 3) w5 fun t11 w6 =>
  Run Try.prog (sOp (.fieldAddr 30 (.const t2) 2) 0) w6 fun t12 w7 =>
  Run Try.prog (sOp (.load 9 (.const t12)) 9) w7 fun t13 w8 =>
  Run Try.prog (sBuild 30 [(0, t9), (1, t11), (2, t13)]) w8 fun t14 w9 =>
  Run Try.prog (sOp (.alloc 30) 0) w9 fun t5 w10 =>
  Run Try.prog (sOp (.store 30 (.const t5) (.const t14)) 0) w10 fun _u w11 =>
  (∃ (I12 : Value → World → Prop) (m13 : Value → World → Nat), I12 (Value.int .i64 0) w11 ∧
  ∀ t6 _ _ _ _ t32 t31 t30 t29 t28 t27 t26 _ _ _ _ _ _ _ _ _ : Value, ∀ w14 : World, I12 t6 w14 →
  (∃ J15 : Value → World → Prop, (
    Run Try.prog (sBuiltin .len #[74] 3 [false] [p1]) w14 fun t17_2 w16 =>
    Run Try.prog (sBin .lss 3 false false t6 t17_2) w16 fun t18_2 w17 =>
    GuardV t18_2 true (
      Run Try.prog (sOp (.fieldAddr 30 (.const t2) 0) 0) w17 fun t20_2 w18 =>
      Run Try.prog (sOp (.load 3 (.const t20_2)) 3) w18 fun t21_2 w19 =>
      Run Try.prog (sBin .eql 3 false true t21_2 (Value.int .i64 1)) w19 fun t22_2 w20 =>
      Run Try.prog (sOp (.pick (.const t18_2) (.const t22_2) (.const (Value.bool false))) 4) w20 fun t23_2 w21 =>
      J15 t23_2 w21) (
      Run Try.prog (sOp (.pick (.const t18_2) (.const undef) (.const (Value.bool false))) 4) w17 fun t23_3 w22 =>
      J15 t23_3 w22)) ∧
  ∀ t23_4 _ _ _ _ _ _ _ _ : Value, ∀ w23 : World, J15 t23_4 w23 →
  CondV t23_4 (
    (∃ J24 : World → Prop, (
    (∃ A25 : (Nat → Bool) → Value → Value → Value → Value → Value → Value → Value → World → Prop, A25 (fun _ => false) t32 t31 t30 t29 t28 t27 t26 { w23 with drawn := w23.drawn + 1 } ∧ (
      (∀ D26 : Nat → Bool, D26 0 = false → ∀ t32_2 t31_2 t30_2 t29_2 t28_2 t27_2 t26_2 : Value, ∀ w27 : World, A25 D26 t32_2 t31_2 t30_2 t29_2 t28_2 t27_2 t26_2 w27 →
        A25 (setD D26 0) t32_2 t31_2 t30_2 t29_2 t28_2 t27_2 p1 w27) ∧
      (∀ D26 : Nat → Bool, D26 1 = false → ∀ t32_2 t31_2 t30_2 t29_2 t28_2 t27_2 t26_2 : Value, ∀ w28 : World, A25 D26 t32_2 t31_2 t30_2 t29_2 t28_2 t27_2 t26_2 w28 →
        A25 (setD D26 1) t32_2 t31_2 t30_2 t29_2 t28_2 t6 t26_2 w28) ∧
      (∀ D26 : Nat → Bool, D26 2 = false → D26 0 = true → D26 1 = true → ∀ t32_2 t31_2 t30_2 t29_2 t28_2 t27_2 t26_2 : Value, ∀ w29 : World, A25 D26 t32_2 t31_2 t30_2 t29_2 t28_2 t27_2 t26_2 w29 →
        Run Try.prog (sOp (.indexAddr 74 (.const t26_2) (.const t27_2)) 0) w29 fun t28_3 w30 =>
        A25 (setD D26 2) t32_2 t31_2 t30_2 t29_2 t28_3 t27_2 t26_2 w30) ∧
      (∀ D26 : Nat → Bool, D26 3 = false → D26 2 = true → ∀ t32_2 t31_2 t30_2 t29_2 t28_2 t27_2 t26_2 : Value, ∀ w31 : World, A25 D26 t32_2 t31_2 t30_2 t29_2 t28_2 t27_2 t26_2 w31 →
        Run Try.prog (sOp (.load 3 (.const t28_2)) 3) w31 fun t29_3 w32 =>
        A25 (setD D26 3) t32_2 t31_2 t30_2 t29_3 t28_2 t27_2 t26_2 w32) ∧
      (∀ D26 : Nat → Bool, D26 4 = false → ∀ t32_2 t31_2 t30_2 t29_2 t28_2 t27_2 t26_2 : Value, ∀ w33 : World, A25 D26 t32_2 t31_2 t30_2 t29_2 t28_2 t27_2 t26_2 w33 →
        Run Try.prog (sOp (.fieldAddr 30 (.const t2) 1) 0) w33 fun t30_3 w34 =>
        A25 (setD D26 4) t32_2 t31_2 t30_3 t29_2 t28_2 t27_2 t26_2 w34) ∧
      (∀ D26 : Nat → Bool, D26 5 = false → D26 4 = true → ∀ t32_2 t31_2 t30_2 t29_2 t28_2 t27_2 t26_2 : Value, ∀ w35 : World, A25 D26 t32_2 t31_2 t30_2 t29_2 t28_2 t27_2 t26_2 w35 →
        Run Try.prog (sOp (.load 3 (.const t30_2)) 3) w35 fun t31_3 w36 =>
        A25 (setD D26 5) t32_2 t31_3 t30_2 t29_2 t28_2 t27_2 t26_2 w36) ∧
      (∀ D26 : Nat → Bool, D26 6 = false → D26 3 = true → D26 5 = true → ∀ t32_2 t31_2 t30_2 t29_2 t28_2 t27_2 t26_2 : Value, ∀ w37 : World, A25 D26 t32_2 t31_2 t30_2 t29_2 t28_2 t27_2 t26_2 w37 →
        Run Try.prog (sBin .eql 3 false false t29_2 t31_2) w37 fun t32_3 w38 =>
        A25 (setD D26 6) t32_3 t31_2 t30_2 t29_2 t28_2 t27_2 t26_2 w38) ∧
      True) ∧
    ∀ D26 : Nat → Bool, D26 6 = true → D26 5 = true → D26 4 = true → D26 3 = true → D26 2 = true → D26 1 = true → D26 0 = true → ∀ t32_2 t31_2 t30_2 t29_2 t28_2 t27_2 t26_2 : Value, ∀ w39 : World, A25 D26 t32_2 t31_2 t30_2 t29_2 t28_2 t27_2 t26_2 w39 →
    CondV t32_2 (
      Run Try.prog (sOp (.fieldAddr 30 (.const t5) 1) 0) w39 fun t34_2 w40 =>
      Run Try.prog (sOp (.store 3 (.const t34_2) (.const t6)) 0) w40 fun _u w41 =>
      J24 w41) (
      J24 w39))) ∧
  ∀ _ _ _ _ _ _ _ _ _ : Value, ∀ w42 : World, J24 w42 →
  Run Try.prog (sBin .add 3 false true t6 (Value.int .i64 1)) w42 fun t25_2 w43 =>
  I12 t25_2 w43 ∧ m13 t25_2 w43 < m13 t6 w14)) (
    (∃ (I44 : Value → World → Prop) (m45 : Value → World → Nat), I44 (Value.int .i64 0) w23 ∧
  ∀ t7 _ _ t53 t52 t51 t50 t49 t48 t47 t46 t45 t44 t43 t42 _ _ _ _ _ : Value, ∀ w46 : World, I44 t7 w46 →
  Run Try.prog (sOp (.fieldAddr 30 (.const t2) 3) 0) w46 fun t36_2 w47 =>
  Run Try.prog (sOp (.load 28 (.const t36_2)) 28) w47 fun t37_2 w48 =>
  Run Try.prog (sBuiltin .len #[28] 3 [false] [t37_2]) w48 fun t38_2 w49 =>
  Run Try.prog (sBin .lss 3 false false t7 t38_2) w49 fun t39_2 w50 =>
  CondV t39_2 (
    (∃ A51 : (Nat → Bool) → Value → Value → Value → Value → Value → Value → Value → Value → Value → Value → Value → Value → World → Prop, A51 (fun _ => false) t53 t52 t51 t50 t49 t48 t47 t46 t45 t44 t43 t42 { w50 with drawn := w50.drawn + 1 } ∧ (
    (∀ D52 : Nat → Bool, D52 0 = false → ∀ t53_2 t52_2 t51_2 t50_2 t49_2 t48_2 t47_2 t46_2 t45_2 t44_2 t43_2 t42_2 : Value, ∀ w53 : World, A51 D52 t53_2 t52_2 t51_2 t50_2 t49_2 t48_2 t47_2 t46_2 t45_2 t44_2 t43_2 t42_2 w53 →
      Run Try.prog (sOp (.fieldAddr 30 (.const t5) 3) 0) w53 fun t42_3 w54 =>
      A51 (setD D52 0) t53_2 t52_2 t51_2 t50_2 t49_2 t48_2 t47_2 t46_2 t45_2 t44_2 t43_2 t42_3 w54) ∧
    (∀ D52 : Nat → Bool, D52 1 = false → D52 0 = true → ∀ t53_2 t52_2 t51_2 t50_2 t49_2 t48_2 t47_2 t46_2 t45_2 t44_2 t43_2 t42_2 : Value, ∀ w55 : World, A51 D52 t53_2 t52_2 t51_2 t50_2 t49_2 t48_2 t47_2 t46_2 t45_2 t44_2 t43_2 t42_2 w55 →
      Run Try.prog (sOp (.load 28 (.const t42_2)) 28) w55 fun t43_3 w56 =>
      A51 (setD D52 1) t53_2 t52_2 t51_2 t50_2 t49_2 t48_2 t47_2 t46_2 t45_2 t44_2 t43_3 t42_2 w56) ∧
    (∀ D52 : Nat → Bool, D52 2 = false → ∀ t53_2 t52_2 t51_2 t50_2 t49_2 t48_2 t47_2 t46_2 t45_2 t44_2 t43_2 t42_2 : Value, ∀ w57 : World, A51 D52 t53_2 t52_2 t51_2 t50_2 t49_2 t48_2 t47_2 t46_2 t45_2 t44_2 t43_2 t42_2 w57 →
      Run Try.prog (sOp (.fieldAddr 30 (.const t2) 3) 0) w57 fun t44_3 w58 =>
      A51 (setD D52 2) t53_2 t52_2 t51_2 t50_2 t49_2 t48_2 t47_2 t46_2 t45_2 t44_3 t43_2 t42_2 w58) ∧
    (∀ D52 : Nat → Bool, D52 3 = false → D52 2 = true → ∀ t53_2 t52_2 t51_2 t50_2 t49_2 t48_2 t47_2 t46_2 t45_2 t44_2 t43_2 t42_2 : Value, ∀ w59 : World, A51 D52 t53_2 t52_2 t51_2 t50_2 t49_2 t48_2 t47_2 t46_2 t45_2 t44_2 t43_2 t42_2 w59 →
      Run Try.prog (sOp (.load 28 (.const t44_2)) 28) w59 fun t45_3 w60 =>
      A51 (setD D52 3) t53_2 t52_2 t51_2 t50_2 t49_2 t48_2 t47_2 t46_2 t45_3 t44_2 t43_2 t42_2 w60) ∧
    (∀ D52 : Nat → Bool, D52 4 = false → ∀ t53_2 t52_2 t51_2 t50_2 t49_2 t48_2 t47_2 t46_2 t45_2 t44_2 t43_2 t42_2 : Value, ∀ w61 : World, A51 D52 t53_2 t52_2 t51_2 t50_2 t49_2 t48_2 t47_2 t46_2 t45_2 t44_2 t43_2 t42_2 w61 →
      A51 (setD D52 4) t53_2 t52_2 t51_2 t50_2 t49_2 t48_2 t47_2 t7 t45_2 t44_2 t43_2 t42_2 w61) ∧
    (∀ D52 : Nat → Bool, D52 5 = false → D52 3 = true → D52 4 = true → ∀ t53_2 t52_2 t51_2 t50_2 t49_2 t48_2 t47_2 t46_2 t45_2 t44_2 t43_2 t42_2 : Value, ∀ w62 : World, A51 D52 t53_2 t52_2 t51_2 t50_2 t49_2 t48_2 t47_2 t46_2 t45_2 t44_2 t43_2 t42_2 w62 →
      Run Try.prog (sOp (.indexAddr 28 (.const t45_2) (.const t46_2)) 0) w62 fun t47_3 w63 =>
      A51 (setD D52 5) t53_2 t52_2 t51_2 t50_2 t49_2 t48_2 t47_3 t46_2 t45_2 t44_2 t43_2 t42_2 w63) ∧
    (∀ D52 : Nat → Bool, D52 6 = false → D52 5 = true → ∀ t53_2 t52_2 t51_2 t50_2 t49_2 t48_2 t47_2 t46_2 t45_2 t44_2 t43_2 t42_2 : Value, ∀ w64 : World, A51 D52 t53_2 t52_2 t51_2 t50_2 t49_2 t48_2 t47_2 t46_2 t45_2 t44_2 t43_2 t42_2 w64 →
      Run Try.prog (sOp (.load 30 (.const t47_2)) 30) w64 fun t48_3 w65 =>
      A51 (setD D52 6) t53_2 t52_2 t51_2 t50_2 t49_2 t48_3 t47_2 t46_2 t45_2 t44_2 t43_2 t42_2 w65) ∧
    (∀ D52 : Nat → Bool, D52 7 = false → ∀ t53_2 t52_2 t51_2 t50_2 t49_2 t48_2 t47_2 t46_2 t45_2 t44_2 t43_2 t42_2 : Value, ∀ w66 : World, A51 D52 t53_2 t52_2 t51_2 t50_2 t49_2 t48_2 t47_2 t46_2 t45_2 t44_2 t43_2 t42_2 w66 →
      A51 (setD D52 7) t53_2 t52_2 t51_2 t50_2 p1 t48_2 t47_2 t46_2 t45_2 t44_2 t43_2 t42_2 w66) ∧
    (∀ D52 : Nat → Bool, D52 8 = false → D52 6 = true → D52 7 = true → ∀ t53_2 t52_2 t51_2 t50_2 t49_2 t48_2 t47_2 t46_2 t45_2 t44_2 t43_2 t42_2 : Value, ∀ w67 : World, A51 D52 t53_2 t52_2 t51_2 t50_2 t49_2 t48_2 t47_2 t46_2 t45_2 t44_2 t43_2 t42_2 w67 →
      Run Try.prog (sCall (Value.func (.func 60) #[] #[]) [t48_2, t49_2]) w67 fun t50_3 w68 =>
      A51 (setD D52 8) t53_2 t52_2 t51_2 t50_3 t49_2 t48_2 t47_2 t46_2 t45_2 t44_2 t43_2 t42_2 w68) ∧
    (∀ D52 : Nat → Bool, D52 9 = false → D52 8 = true → ∀ t53_2 t52_2 t51_2 t50_2 t49_2 t48_2 t47_2 t46_2 t45_2 t44_2 t43_2 t42_2 : Value, ∀ w69 : World, A51 D52 t53_2 t52_2 t51_2 t50_2 t49_2 t48_2 t47_2 t46_2 t45_2 t44_2 t43_2 t42_2 w69 →
      Run Try.prog (sBuildSlice 28 1 [(0, t50_2)]) w69 fun t51_3 w70 =>
      A51 (setD D52 9) t53_2 t52_2 t51_3 t50_2 t49_2 t48_2 t47_2 t46_2 t45_2 t44_2 t43_2 t42_2 w70) ∧
    (∀ D52 : Nat → Bool, D52 10 = false → D52 1 = true → D52 9 = true → D52 8 = true → ∀ t53_2 t52_2 t51_2 t50_2 t49_2 t48_2 t47_2 t46_2 t45_2 t44_2 t43_2 t42_2 : Value, ∀ w71 : World, A51 D52 t53_2 t52_2 t51_2 t50_2 t49_2 t48_2 t47_2 t46_2 t45_2 t44_2 t43_2 t42_2 w71 →
      Run Try.prog (sBuiltin .append #[28, 28] 28 [false, false] [t43_2, t51_2]) w71 fun t52_3 w72 =>
      A51 (setD D52 10) t53_2 t52_3 t51_2 t50_2 t49_2 t48_2 t47_2 t46_2 t45_2 t44_2 t43_2 t42_2 w72) ∧
    (∀ D52 : Nat → Bool, D52 11 = false → D52 0 = true → D52 1 = true → D52 2 = true → D52 3 = true → D52 4 = true → D52 5 = true → D52 6 = true → D52 7 = true → D52 8 = true → D52 9 = true → D52 10 = true → ∀ t53_2 t52_2 t51_2 t50_2 t49_2 t48_2 t47_2 t46_2 t45_2 t44_2 t43_2 t42_2 : Value, ∀ w73 : World, A51 D52 t53_2 t52_2 t51_2 t50_2 t49_2 t48_2 t47_2 t46_2 t45_2 t44_2 t43_2 t42_2 w73 →
      Run Try.prog (sOp (.fieldAddr 30 (.const t5) 3) 0) w73 fun t53_3 w74 =>
      A51 (setD D52 11) t53_3 t52_2 t51_2 t50_2 t49_2 t48_2 t47_2 t46_2 t45_2 t44_2 t43_2 t42_2 w74) ∧
    (∀ D52 : Nat → Bool, D52 12 = false → D52 11 = true → D52 10 = true → D52 10 = true → D52 0 = true → D52 1 = true → D52 2 = true → D52 3 = true → D52 4 = true → D52 5 = true → D52 6 = true → D52 7 = true → D52 8 = true → D52 9 = true → D52 10 = true → ∀ t53_2 t52_2 t51_2 t50_2 t49_2 t48_2 t47_2 t46_2 t45_2 t44_2 t43_2 t42_2 : Value, ∀ w75 : World, A51 D52 t53_2 t52_2 t51_2 t50_2 t49_2 t48_2 t47_2 t46_2 t45_2 t44_2 t43_2 t42_2 w75 →
      Run Try.prog (sOp (.store 28 (.const t53_2) (.const t52_2)) 0) w75 fun _u w76 =>
      A51 (setD D52 12) t53_2 t52_2 t51_2 t50_2 t49_2 t48_2 t47_2 t46_2 t45_2 t44_2 t43_2 t42_2 w76) ∧
    True) ∧
  ∀ D52 : Nat → Bool, D52 12 = true → D52 11 = true → D52 10 = true → D52 9 = true → D52 8 = true → D52 7 = true → D52 6 = true → D52 5 = true → D52 4 = true → D52 3 = true → D52 2 = true → D52 1 = true → D52 0 = true → ∀ t53_2 t52_2 t51_2 t50_2 t49_2 t48_2 t47_2 t46_2 t45_2 t44_2 t43_2 t42_2 : Value, ∀ w77 : World, A51 D52 t53_2 t52_2 t51_2 t50_2 t49_2 t48_2 t47_2 t46_2 t45_2 t44_2 t43_2 t42_2 w77 →
  Run Try.prog (sBin .add 3 false true t7 (Value.int .i64 1)) w77 fun t41_2 w78 =>
  I44 t41_2 w78 ∧ m45 t41_2 w78 < m45 t7 w46)) (
    Run Try.prog (sOp (.load 30 (.const t5)) 30) w50 fun t54 w79 =>
  Run Try.prog (sOp (.store 30 (.const t4) (.const t54)) 0) w79 fun _ w80 =>
  (LoadV Try.prog 30 t4 w80 fun r0 => R (.returned r0) w80))))))
theorem calls_s_l1Rename {p0 p1 : Value} {w : World} {R : Ending → World → Prop} (h : sh_s_l1Rename p0 p1 w R) : Calls Try.prog 60 #[p0, p1] w R :=
  calls_sh (.seq none .leaf (.seq none .leaf (.seq none (.seq none .leaf (.one (.loop [6] (.seq none (.seq (some [23]) .leaf .leaf) (.seq (some []) .leaf .leaf))))) (.seq none (.seq none .leaf (.one (.loop [7] .leaf))) .leaf)))) [p0, p1] mixed Try.func60 (by kernel_rfl) (by kernel_rfl) h


/- loop.example/prologserver/impl.scan : function 61 -/
def sh_i_scan (p0 p1 p2 : Value) (w : World) (R : Ending → World → Prop) : Prop :=
  Run Try.prog (sOp (.box 30 (.const p0)) 0) w fun t3 w1 =>
  Run Try.prog (sOp (.box 3 (.const p1)) 0) w1 fun t4 w2 =>
  Run Try.prog (sOp (.box 78 (.const p2)) 0) w2 fun t5 w3 =>
  Run Try.prog (sOp (.load 78 (.const t5)) 78) w3 fun t7 w4 =>
  Run Try.prog (sOp (.nilCheck (.const t7)) 0) w4 fun t8 w5 =>
  Run Try.prog (sOp (.load 3 (.const t8)) 3) w5 fun t9 w6 =>
  Run Try.prog (sBin .add 3 false true t9 (Value.int .i64 1)) w6 fun t10 w7 =>
  Run Try.prog (sOp (.nilCheck (.const t7)) 0) w7 fun t11 w8 =>
  Run Try.prog (sOp (.store 3 (.const t11) (.const t10)) 0) w8 fun _ w9 =>
  (∃ J10 : Value → World → Prop, (
    Run Try.prog (sOp (.load 78 (.const t5)) 78) w9 fun t12 w11 =>
    Run Try.prog (sOp (.nilCheck (.const t12)) 0) w11 fun t13 w12 =>
    Run Try.prog (sOp (.load 3 (.const t13)) 3) w12 fun t14 w13 =>
    Run Try.prog (sBin .gtr 3 false true t14 (Value.int .i64 120)) w13 fun t15 w14 =>
    GuardV t15 false (
      Run Try.prog (sOp (.load 3 (.const t4)) 3) w14 fun t17 w15 =>
      Run Try.prog (sBin .gtr 3 false true t17 (Value.int .i64 30)) w15 fun t18 w16 =>
      Run Try.prog (sOp (.pick (.const t15) (.const (Value.bool true)) (.const t18)) 4) w16 fun t19 w17 =>
      J10 t19 w17) (
      Run Try.prog (sOp (.pick (.const t15) (.const (Value.bool true)) (.const undef)) 4) w14 fun t19_2 w18 =>
      J10 t19_2 w18)) ∧
  ∀ t19_3 _ _ _ _ _ _ _ : Value, ∀ w19 : World, J10 t19_3 w19 →
  CondV t19_3 (
    R (.returned (Value.bool false)) w19) (
    Run Try.prog (sOp (.fieldAddr 30 (.const t3) 0) 0) w19 fun t20 w20 =>
  Run Try.prog (sOp (.load 3 (.const t20)) 3) w20 fun t21 w21 =>
  Run Try.prog (sBin .eql 3 false true t21 (Value.int .i64 1)) w21 fun t23 w22 =>
  CondV t23 (
    Run Try.prog (sOp (.fieldAddr 30 (.const t3) 1) 0) w22 fun t24 w23 =>
    Run Try.prog (sOp (.load 3 (.const t24)) 3) w23 fun t25 w24 =>
    Run Try.prog (sCall (Value.func (.func 77) #[] #[]) [t25, (Value.int .i64 0), (Value.int .i64 25)]) w24 fun t26 w25 =>
    GuardV t26 true (
      Run Try.prog (sOp (.fieldAddr 30 (.const t3) 2) 0) w25 fun t28 w26 =>
      Run Try.prog (sOp (.load 9 (.const t28)) 9) w26 fun t29 w27 =>
      Run Try.prog (sBin .eql 9 false true t29 (Value.string ⟨#[]⟩)) w27 fun t30 w28 =>
      Run Try.prog (sOp (.pick (.const t26) (.const t30) (.const (Value.bool false))) 4) w28 fun t31 w29 =>
      GuardV t31 true (
        Run Try.prog (sOp (.fieldAddr 30 (.const t3) 3) 0) w29 fun t33 w30 =>
        Run Try.prog (sOp (.load 28 (.const t33)) 28) w30 fun t34 w31 =>
        Run Try.prog (sBuiltin .len #[28] 3 [false] [t34]) w31 fun t35 w32 =>
        Run Try.prog (sBin .eql 3 false true t35 (Value.int .i64 0)) w32 fun t36 w33 =>
        Run Try.prog (sOp (.pick (.const t31) (.const t36) (.const (Value.bool false))) 4) w33 fun t37 w34 =>
        R (.returned t37) w34) (
        Run Try.prog (sOp (.pick (.const t31) (.const undef) (.const (Value.bool false))) 4) w29 fun t37_2 w35 =>
        R (.returned t37_2) w35)) (
      Run Try.prog (sOp (.pick (.const t26) (.const undef) (.const (Value.bool false))) 4) w25 fun t31_2 w36 =>
      GuardV t31_2 true (
        Run Try.prog (sOp (.fieldAddr 30 (.const t3) 3) 0) w36 fun t33_2 w37 =>
        Run Try.prog (sOp (.load 28 (.const t33_2)) 28) w37 fun t34_2 w38 =>
        Run Try.prog (sBuiltin .len #[28] 3 [false] [t34_2]) w38 fun t35_2 w39 =>
        Run Try.prog (sBin .eql 3 false true t35_2 (Value.int .i64 0)) w39 fun t36_2 w40 =>
        Run Try.prog (sOp (.pick (.const t31_2) (.const t36_2) (.const (Value.bool false))) 4) w40 fun t37_3 w41 =>
        R (.returned t37_3) w41) (
        Run Try.prog (sOp (.pick (.const t31_2) (.const undef) (.const (Value.bool false))) 4) w36 fun t37_4 w42 =>
        R (.returned t37_4) w42))) (
    Run Try.prog (sBin .eql 3 false true t21 (Value.int .i64 2)) w22 fun t39 w43 =>
    CondV t39 (
      Run Try.prog (sOp (.fieldAddr 30 (.const t3) 1) 0) w43 fun t40 w44 =>
      Run Try.prog (sOp (.load 3 (.const t40)) 3) w44 fun t41 w45 =>
      Run Try.prog (sCall (Value.func (.func 77) #[] #[]) [t41, (Value.int .i64 (-999)), (Value.int .i64 999)]) w45 fun t42 w46 =>
      GuardV t42 true (
        Run Try.prog (sOp (.fieldAddr 30 (.const t3) 2) 0) w46 fun t44 w47 =>
        Run Try.prog (sOp (.load 9 (.const t44)) 9) w47 fun t45 w48 =>
        Run Try.prog (sBin .eql 9 false true t45 (Value.string ⟨#[]⟩)) w48 fun t46 w49 =>
        Run Try.prog (sOp (.pick (.const t42) (.const t46) (.const (Value.bool false))) 4) w49 fun t47 w50 =>
        GuardV t47 true (
          Run Try.prog (sOp (.fieldAddr 30 (.const t3) 3) 0) w50 fun t49 w51 =>
          Run Try.prog (sOp (.load 28 (.const t49)) 28) w51 fun t50 w52 =>
          Run Try.prog (sBuiltin .len #[28] 3 [false] [t50]) w52 fun t51 w53 =>
          Run Try.prog (sBin .eql 3 false true t51 (Value.int .i64 0)) w53 fun t52 w54 =>
          Run Try.prog (sOp (.pick (.const t47) (.const t52) (.const (Value.bool false))) 4) w54 fun t53 w55 =>
          R (.returned t53) w55) (
          Run Try.prog (sOp (.pick (.const t47) (.const undef) (.const (Value.bool false))) 4) w50 fun t53_2 w56 =>
          R (.returned t53_2) w56)) (
        Run Try.prog (sOp (.pick (.const t42) (.const undef) (.const (Value.bool false))) 4) w46 fun t47_2 w57 =>
        GuardV t47_2 true (
          Run Try.prog (sOp (.fieldAddr 30 (.const t3) 3) 0) w57 fun t49_2 w58 =>
          Run Try.prog (sOp (.load 28 (.const t49_2)) 28) w58 fun t50_2 w59 =>
          Run Try.prog (sBuiltin .len #[28] 3 [false] [t50_2]) w59 fun t51_2 w60 =>
          Run Try.prog (sBin .eql 3 false true t51_2 (Value.int .i64 0)) w60 fun t52_2 w61 =>
          Run Try.prog (sOp (.pick (.const t47_2) (.const t52_2) (.const (Value.bool false))) 4) w61 fun t53_3 w62 =>
          R (.returned t53_3) w62) (
          Run Try.prog (sOp (.pick (.const t47_2) (.const undef) (.const (Value.bool false))) 4) w57 fun t53_4 w63 =>
          R (.returned t53_4) w63))) (
      Run Try.prog (sBin .eql 3 false true t21 (Value.int .i64 3)) w43 fun t55 w64 =>
      CondV t55 (
        (∃ J65 : Value → World → Prop, (
          Run Try.prog (sOp (.fieldAddr 30 (.const t3) 1) 0) w64 fun t56 w66 =>
          Run Try.prog (sOp (.load 3 (.const t56)) 3) w66 fun t57 w67 =>
          Run Try.prog (sBin .neq 3 false true t57 (Value.int .i64 0)) w67 fun t58 w68 =>
          GuardV t58 false (
            Run Try.prog (sOp (.fieldAddr 30 (.const t3) 2) 0) w68 fun t60 w69 =>
            Run Try.prog (sOp (.load 9 (.const t60)) 9) w69 fun t61 w70 =>
            Run Try.prog (sCall (Value.func (.func 78) #[] #[]) [t61]) w70 fun t62 w71 =>
            Run Try.prog (sOp (.unOp .not 4 (.const t62)) 4) w71 fun t63 w72 =>
            Run Try.prog (sOp (.pick (.const t58) (.const (Value.bool true)) (.const t63)) 4) w72 fun t64 w73 =>
            GuardV t64 false (
              Run Try.prog (sOp (.fieldAddr 30 (.const t3) 3) 0) w73 fun t66 w74 =>
              Run Try.prog (sOp (.load 28 (.const t66)) 28) w74 fun t67 w75 =>
              Run Try.prog (sBuiltin .len #[28] 3 [false] [t67]) w75 fun t68 w76 =>
              Run Try.prog (sBin .gtr 3 false true t68 (Value.int .i64 4)) w76 fun t69 w77 =>
              Run Try.prog (sOp (.pick (.const t64) (.const (Value.bool true)) (.const t69)) 4) w77 fun t70 w78 =>
              J65 t70 w78) (
              Run Try.prog (sOp (.pick (.const t64) (.const (Value.bool true)) (.const undef)) 4) w73 fun t70_2 w79 =>
              J65 t70_2 w79)) (
            Run Try.prog (sOp (.pick (.const t58) (.const (Value.bool true)) (.const undef)) 4) w68 fun t64_2 w80 =>
            GuardV t64_2 false (
              Run Try.prog (sOp (.fieldAddr 30 (.const t3) 3) 0) w80 fun t66_2 w81 =>
              Run Try.prog (sOp (.load 28 (.const t66_2)) 28) w81 fun t67_2 w82 =>
              Run Try.prog (sBuiltin .len #[28] 3 [false] [t67_2]) w82 fun t68_2 w83 =>
              Run Try.prog (sBin .gtr 3 false true t68_2 (Value.int .i64 4)) w83 fun t69_2 w84 =>
              Run Try.prog (sOp (.pick (.const t64_2) (.const (Value.bool true)) (.const t69_2)) 4) w84 fun t70_3 w85 =>
              J65 t70_3 w85) (
              Run Try.prog (sOp (.pick (.const t64_2) (.const (Value.bool true)) (.const undef)) 4) w80 fun t70_4 w86 =>
              J65 t70_4 w86))) ∧
        ∀ t70_5 _ _ _ _ _ _ _ _ _ _ _ _ _ _ : Value, ∀ w87 : World, J65 t70_5 w87 →
        CondV t70_5 (
          R (.returned (Value.bool false)) w87) (
          Run Try.prog (sOp (.fieldAddr 30 (.const t3) 3) 0) w87 fun t71 w88 =>
        Run Try.prog (sOp (.load 28 (.const t71)) 28) w88 fun t72 w89 =>
        Run Try.prog (sMakeFunc (.func 79) [] [t4, t5]) w89 fun t73 w90 =>
        Run Try.prog (sCall (Value.func (.func 65) #[] #[]) [t72, t73]) w90 fun t74 w91 =>
        Run Try.prog (sOp (.unOp .not 4 (.const t74)) 4) w91 fun t75 w92 =>
        R (.returned t75) w92))) (
        R (.returned (Value.bool false)) w64)))))
theorem calls_i_scan {p0 p1 p2 : Value} {w : World} {R : Ending → World → Prop} (h : sh_i_scan p0 p1 p2 w R) : Calls Try.prog 61 #[p0, p1, p2] w R :=
  calls_sh (.seq none .leaf (.seq none .leaf (.seq none (.seq (some [19]) .leaf .leaf) (.seq none (.seq none .leaf (.one (.seq none .leaf (.two .leaf (.seq none .leaf (.two .leaf (.seq none .leaf (.two (.seq none (.seq (some [70]) .leaf .leaf) .leaf) .leaf)))))))) .leaf)))) [p0, p1, p2] mixed Try.func61 (by kernel_rfl) (by kernel_rfl) h


/- loop.example/prologserver/impl.isLetters : function 62 -/
def sh_i_isLetters (p0 : Value) (w : World) (R : Ending → World → Prop) : Prop :=
  Run Try.prog (sBuiltin .len #[9] 3 [false] [p0]) w fun t5 w1 =>
  (∃ (I2 : Value → World → Prop) (m3 : Value → World → Nat), I2 (Value.int .i64 0) w1 ∧
  ∀ t6 _ _ _ _ _ _ _ _ _ _ _ _ _ _ _ : Value, ∀ w4 : World, I2 t6 w4 →
  Run Try.prog (sBin .lss 3 false false t6 t5) w4 fun t7_2 w5 =>
  CondV t7_2 (
    (∃ J6 : Value → World → Prop, (
    Run Try.prog (sOp (.index 9 (.const p0) (.const t6)) 5) w5 fun t11_2 w7 =>
    Run Try.prog (sBin .lss 5 false true t11_2 (Value.int .u8 97)) w7 fun t12_2 w8 =>
    GuardV t12_2 false (
      Run Try.prog (sOp (.index 9 (.const p0) (.const t6)) 5) w8 fun t16_2 w9 =>
      Run Try.prog (sBin .gtr 5 false true t16_2 (Value.int .u8 122)) w9 fun t17_2 w10 =>
      Run Try.prog (sOp (.pick (.const t12_2) (.const (Value.bool true)) (.const t17_2)) 4) w10 fun t18_2 w11 =>
      J6 t18_2 w11) (
      Run Try.prog (sOp (.pick (.const t12_2) (.const (Value.bool true)) (.const undef)) 4) w8 fun t18_3 w12 =>
      J6 t18_3 w12)) ∧
  ∀ t18_4 _ _ _ _ _ _ _ _ _ : Value, ∀ w13 : World, J6 t18_4 w13 →
  CondV t18_4 (
    R (.returned (Value.bool false)) w13) (
    Run Try.prog (sBin .add 3 false true t6 (Value.int .i64 1)) w13 fun t19_2 w14 =>
  I2 t19_2 w14 ∧ m3 t19_2 w14 < m3 t6 w4))) (
    Run Try.prog (sBuiltin .len #[9] 3 [false] [p0]) w5 fun t21 w15 =>
  Run Try.prog (sCall (Value.func (.func 77) #[] #[]) [t21, (Value.int .i64 1), (Value.int .i64 6)]) w15 fun t22 w16 =>
  R (.returned t22) w16))
theorem calls_i_isLetters {p0 : Value} {w : World} {R : Ending → World → Prop} (h : sh_i_isLetters p0 w R) : Calls Try.prog 62 #[p0] w R :=
  calls_sh (.seq none .leaf (.seq none (.seq none .leaf (.one (.loop [6] (.seq none .leaf (.seq none .leaf (.seq none (.one (.seq none .leaf (.seq (some [18]) .leaf .leaf))) .leaf)))))) .leaf)) [p0] mixed Try.func62 (by kernel_rfl) (by kernel_rfl) h


/- loop.example/prologserver/impl.isOp : function 63 -/
def sh_i_isOp (p0 : Value) (w : World) (R : Ending → World → Prop) : Prop :=
  Run Try.prog (sCall (Value.func (.func 80) #[] #[]) [p0]) w fun t7 w1 =>
  Run Try.prog (sOp (.extract (.const t7) 0) 3) w1 fun t8 w2 =>
  Run Try.prog (sOp (.extract (.const t7) 1) 4) w2 fun _ w3 =>
  Run Try.prog (sBin .gtr 3 false true t8 (Value.int .i64 0)) w3 fun t11 w4 =>
  R (.returned t11) w4
theorem calls_i_isOp {p0 : Value} {w : World} {R : Ending → World → Prop} (h : sh_i_isOp p0 w R) : Calls Try.prog 63 #[p0] w R :=
  calls_sh .leaf [p0] mixed Try.func63 (by kernel_rfl) (by kernel_rfl) h


/- loop.example/prologserver/impl.isBuilt : function 64 -/
def sh_i_isBuilt (p0 : Value) (w : World) (R : Ending → World → Prop) : Prop :=
  Run Try.prog (sOp (.box 30 (.const p0)) 0) w fun t1 w1 =>
  Run Try.prog (sOp (.fieldAddr 30 (.const t1) 0) 0) w1 fun t3 w2 =>
  Run Try.prog (sOp (.load 3 (.const t3)) 3) w2 fun t4 w3 =>
  Run Try.prog (sBin .eql 3 false true t4 (Value.int .i64 3)) w3 fun t5 w4 =>
  GuardV t5 true (
    Run Try.prog (sOp (.fieldAddr 30 (.const t1) 2) 0) w4 fun t7 w5 =>
    Run Try.prog (sOp (.load 9 (.const t7)) 9) w5 fun t8 w6 =>
    Run Try.prog (sOp (.fieldAddr 30 (.const t1) 3) 0) w6 fun t9 w7 =>
    Run Try.prog (sOp (.load 28 (.const t9)) 28) w7 fun t10 w8 =>
    Run Try.prog (sBuiltin .len #[28] 3 [false] [t10]) w8 fun t11 w9 =>
    Run Try.prog (sCall (Value.func (.func 81) #[] #[]) [t8, t11]) w9 fun t12 w10 =>
    Run Try.prog (sOp (.pick (.const t5) (.const t12) (.const (Value.bool false))) 4) w10 fun t13 w11 =>
    R (.returned t13) w11) (
    Run Try.prog (sOp (.pick (.const t5) (.const undef) (.const (Value.bool false))) 4) w4 fun t13_2 w12 =>
    R (.returned t13_2) w12)
theorem calls_i_isBuilt {p0 : Value} {w : World} {R : Ending → World → Prop} (h : sh_i_isBuilt p0 w R) : Calls Try.prog 64 #[p0] w R :=
  calls_sh .leaf [p0] mixed Try.func64 (by kernel_rfl) (by kernel_rfl) h


/- slices.ContainsFunc[[]loop.example/prologserver/impl.Term,loop.example/prologserver/impl.Term] : function 65 -/
def sh_x_ContainsFunc_Term (p0 p1 : Value) (w : World) (R : Ending → World → Prop) : Prop :=
  Run Try.prog (sCall (Value.func (.func 82) #[] #[]) [p0, p1]) w fun t7 w1 =>
  Run Try.prog (sBin .geq 3 false true t7 (Value.int .i64 0)) w1 fun t8 w2 =>
  R (.returned t8) w2
theorem calls_x_ContainsFunc_Term {p0 p1 : Value} {w : World} {R : Ending → World → Prop} (h : sh_x_ContainsFunc_Term p0 p1 w R) : Calls Try.prog 65 #[p0, p1] w R :=
  calls_sh .leaf [p0, p1] mixed Try.func65 (by kernel_rfl) (by kernel_rfl) h


/- loop.example/prologserver/impl.goalsValid$1 : function 66 -/
def sh_i_goalsValid_1 (p0 : Value) (w : World) (R : Ending → World → Prop) : Prop :=
  Run Try.prog (sOp (.box 30 (.const p0)) 0) w fun t1 w1 =>
  Run Try.prog (sOp (.load 30 (.const t1)) 30) w1 fun t3 w2 =>
  Run Try.prog (sCall (Value.func (.func 67) #[] #[]) [t3]) w2 fun t4 w3 =>
  Run Try.prog (sOp (.unOp .not 4 (.const t4)) 4) w3 fun t5 w4 =>
  R (.returned t5) w4
theorem calls_i_goalsValid_1 {p0 : Value} {w : World} {R : Ending → World → Prop} (h : sh_i_goalsValid_1 p0 w R) : Calls Try.prog 66 #[p0] w R :=
  calls_sh .leaf [p0] mixed Try.func66 (by kernel_rfl) (by kernel_rfl) h


/- loop.example/prologserver/impl.GoalValid : function 67 -/
def sh_i_GoalValid (p0 : Value) (w : World) (R : Ending → World → Prop) : Prop :=
  Run Try.prog (sOp (.box 30 (.const p0)) 0) w fun t1 w1 =>
  Run Try.prog (sOp (.load 30 (.const t1)) 30) w1 fun t3 w2 =>
  Run Try.prog (sCall (Value.func (.func 36) #[] #[]) [t3]) w2 fun t4 w3 =>
  GuardV t4 true (
    Run Try.prog (sOp (.load 30 (.const t1)) 30) w3 fun t6 w4 =>
    Run Try.prog (sCall (Value.func (.func 37) #[] #[]) [t6]) w4 fun t7 w5 =>
    GuardV t7 false (
      Run Try.prog (sOp (.load 30 (.const t1)) 30) w5 fun t9 w6 =>
      Run Try.prog (sCall (Value.func (.func 64) #[] #[]) [t9]) w6 fun t10 w7 =>
      GuardV t4 true (
        Run Try.prog (sOp (.pick (.const t7) (.const (Value.bool true)) (.const t10)) 4) w7 fun t11 w8 =>
        GuardV t11 false (
          Run Try.prog (sOp (.load 30 (.const t1)) 30) w8 fun t13 w9 =>
          Run Try.prog (sCall (Value.func (.func 83) #[] #[]) [t13]) w9 fun t14 w10 =>
          GuardV t4 true (
            Run Try.prog (sOp (.pick (.const t11) (.const (Value.bool true)) (.const t14)) 4) w10 fun t15 w11 =>
            Run Try.prog (sOp (.pick (.const t4) (.const t15) (.const (Value.bool false))) 4) w11 fun t16 w12 =>
            R (.returned t16) w12) (
            Run Try.prog (sOp (.pick (.const t4) (.const undef) (.const (Value.bool false))) 4) w10 fun t16_2 w13 =>
            R (.returned t16_2) w13)) (
          GuardV t4 true (
            Run Try.prog (sOp (.pick (.const t11) (.const (Value.bool true)) (.const undef)) 4) w8 fun t15_2 w14 =>
            Run Try.prog (sOp (.pick (.const t4) (.const t15_2) (.const (Value.bool false))) 4) w14 fun t16_3 w15 =>
            R (.returned t16_3) w15) (
            Run Try.prog (sOp (.pick (.const t4) (.const undef) (.const (Value.bool false))) 4) w8 fun t16_4 w16 =>
            R (.returned t16_4) w16))) (
        GuardV undef false (
          Run Try.prog (sOp (.load 30 (.const t1)) 30) w7 fun t13_2 w17 =>
          Run Try.prog (sCall (Value.func (.func 83) #[] #[]) [t13_2]) w17 fun t14_2 w18 =>
          GuardV t4 true (
            Run Try.prog (sOp (.pick (.const undef) (.const (Value.bool true)) (.const t14_2)) 4) w18 fun t15_3 w19 =>
            Run Try.prog (sOp (.pick (.const t4) (.const t15_3) (.const (Value.bool false))) 4) w19 fun t16_5 w20 =>
            R (.returned t16_5) w20) (
            Run Try.prog (sOp (.pick (.const t4) (.const undef) (.const (Value.bool false))) 4) w18 fun t16_6 w21 =>
            R (.returned t16_6) w21)) (
          GuardV t4 true (
            Run Try.prog (sOp (.pick (.const undef) (.const (Value.bool true)) (.const undef)) 4) w7 fun t15_4 w22 =>
            Run Try.prog (sOp (.pick (.const t4) (.const t15_4) (.const (Value.bool false))) 4) w22 fun t16_7 w23 =>
            R (.returned t16_7) w23) (
            Run Try.prog (sOp (.pick (.const t4) (.const undef) (.const (Value.bool false))) 4) w7 fun t16_8 w24 =>
            R (.returned t16_8) w24)))) (
      GuardV t4 true (
        Run Try.prog (sOp (.pick (.const t7) (.const (Value.bool true)) (.const undef)) 4) w5 fun t11_2 w25 =>
        GuardV t11_2 false (
          Run Try.prog (sOp (.load 30 (.const t1)) 30) w25 fun t13_3 w26 =>
          Run Try.prog (sCall (Value.func (.func 83) #[] #[]) [t13_3]) w26 fun t14_3 w27 =>
          GuardV t4 true (
            Run Try.prog (sOp (.pick (.const t11_2) (.const (Value.bool true)) (.const t14_3)) 4) w27 fun t15_5 w28 =>
            Run Try.prog (sOp (.pick (.const t4) (.const t15_5) (.const (Value.bool false))) 4) w28 fun t16_9 w29 =>
            R (.returned t16_9) w29) (
            Run Try.prog (sOp (.pick (.const t4) (.const undef) (.const (Value.bool false))) 4) w27 fun t16_10 w30 =>
            R (.returned t16_10) w30)) (
          GuardV t4 true (
            Run Try.prog (sOp (.pick (.const t11_2) (.const (Value.bool true)) (.const undef)) 4) w25 fun t15_6 w31 =>
            Run Try.prog (sOp (.pick (.const t4) (.const t15_6) (.const (Value.bool false))) 4) w31 fun t16_11 w32 =>
            R (.returned t16_11) w32) (
            Run Try.prog (sOp (.pick (.const t4) (.const undef) (.const (Value.bool false))) 4) w25 fun t16_12 w33 =>
            R (.returned t16_12) w33))) (
        GuardV undef false (
          Run Try.prog (sOp (.load 30 (.const t1)) 30) w5 fun t13_4 w34 =>
          Run Try.prog (sCall (Value.func (.func 83) #[] #[]) [t13_4]) w34 fun t14_4 w35 =>
          GuardV t4 true (
            Run Try.prog (sOp (.pick (.const undef) (.const (Value.bool true)) (.const t14_4)) 4) w35 fun t15_7 w36 =>
            Run Try.prog (sOp (.pick (.const t4) (.const t15_7) (.const (Value.bool false))) 4) w36 fun t16_13 w37 =>
            R (.returned t16_13) w37) (
            Run Try.prog (sOp (.pick (.const t4) (.const undef) (.const (Value.bool false))) 4) w35 fun t16_14 w38 =>
            R (.returned t16_14) w38)) (
          GuardV t4 true (
            Run Try.prog (sOp (.pick (.const undef) (.const (Value.bool true)) (.const undef)) 4) w5 fun t15_8 w39 =>
            Run Try.prog (sOp (.pick (.const t4) (.const t15_8) (.const (Value.bool false))) 4) w39 fun t16_15 w40 =>
            R (.returned t16_15) w40) (
            Run Try.prog (sOp (.pick (.const t4) (.const undef) (.const (Value.bool false))) 4) w5 fun t16_16 w41 =>
            R (.returned t16_16) w41))))) (
    GuardV undef false (
      Run Try.prog (sOp (.load 30 (.const t1)) 30) w3 fun t9_2 w42 =>
      Run Try.prog (sCall (Value.func (.func 64) #[] #[]) [t9_2]) w42 fun t10_2 w43 =>
      GuardV t4 true (
        Run Try.prog (sOp (.pick (.const undef) (.const (Value.bool true)) (.const t10_2)) 4) w43 fun t11_3 w44 =>
        GuardV t11_3 false (
          Run Try.prog (sOp (.load 30 (.const t1)) 30) w44 fun t13_5 w45 =>
          Run Try.prog (sCall (Value.func (.func 83) #[] #[]) [t13_5]) w45 fun t14_5 w46 =>
          GuardV t4 true (
            Run Try.prog (sOp (.pick (.const t11_3) (.const (Value.bool true)) (.const t14_5)) 4) w46 fun t15_9 w47 =>
            Run Try.prog (sOp (.pick (.const t4) (.const t15_9) (.const (Value.bool false))) 4) w47 fun t16_17 w48 =>
            R (.returned t16_17) w48) (
            Run Try.prog (sOp (.pick (.const t4) (.const undef) (.const (Value.bool false))) 4) w46 fun t16_18 w49 =>
            R (.returned t16_18) w49)) (
          GuardV t4 true (
            Run Try.prog (sOp (.pick (.const t11_3) (.const (Value.bool true)) (.const undef)) 4) w44 fun t15_10 w50 =>
            Run Try.prog (sOp (.pick (.const t4) (.const t15_10) (.const (Value.bool false))) 4) w50 fun t16_19 w51 =>
            R (.returned t16_19) w51) (
            Run Try.prog (sOp (.pick (.const t4) (.const undef) (.const (Value.bool false))) 4) w44 fun t16_20 w52 =>
            R (.returned t16_20) w52))) (
        GuardV undef false (
          Run Try.prog (sOp (.load 30 (.const t1)) 30) w43 fun t13_6 w53 =>
          Run Try.prog (sCall (Value.func (.func 83) #[] #[]) [t13_6]) w53 fun t14_6 w54 =>
          GuardV t4 true (
            Run Try.prog (sOp (.pick (.const undef) (.const (Value.bool true)) (.const t14_6)) 4) w54 fun t15_11 w55 =>
            Run Try.prog (sOp (.pick (.const t4) (.const t15_11) (.const (Value.bool false))) 4) w55 fun t16_21 w56 =>
            R (.returned t16_21) w56) (
            Run Try.prog (sOp (.pick (.const t4) (.const undef) (.const (Value.bool false))) 4) w54 fun t16_22 w57 =>
            R (.returned t16_22) w57)) (
          GuardV t4 true (
            Run Try.prog (sOp (.pick (.const undef) (.const (Value.bool true)) (.const undef)) 4) w43 fun t15_12 w58 =>
            Run Try.prog (sOp (.pick (.const t4) (.const t15_12) (.const (Value.bool false))) 4) w58 fun t16_23 w59 =>
            R (.returned t16_23) w59) (
            Run Try.prog (sOp (.pick (.const t4) (.const undef) (.const (Value.bool false))) 4) w43 fun t16_24 w60 =>
            R (.returned t16_24) w60)))) (
      GuardV t4 true (
        Run Try.prog (sOp (.pick (.const undef) (.const (Value.bool true)) (.const undef)) 4) w3 fun t11_4 w61 =>
        GuardV t11_4 false (
          Run Try.prog (sOp (.load 30 (.const t1)) 30) w61 fun t13_7 w62 =>
          Run Try.prog (sCall (Value.func (.func 83) #[] #[]) [t13_7]) w62 fun t14_7 w63 =>
          GuardV t4 true (
            Run Try.prog (sOp (.pick (.const t11_4) (.const (Value.bool true)) (.const t14_7)) 4) w63 fun t15_13 w64 =>
            Run Try.prog (sOp (.pick (.const t4) (.const t15_13) (.const (Value.bool false))) 4) w64 fun t16_25 w65 =>
            R (.returned t16_25) w65) (
            Run Try.prog (sOp (.pick (.const t4) (.const undef) (.const (Value.bool false))) 4) w63 fun t16_26 w66 =>
            R (.returned t16_26) w66)) (
          GuardV t4 true (
            Run Try.prog (sOp (.pick (.const t11_4) (.const (Value.bool true)) (.const undef)) 4) w61 fun t15_14 w67 =>
            Run Try.prog (sOp (.pick (.const t4) (.const t15_14) (.const (Value.bool false))) 4) w67 fun t16_27 w68 =>
            R (.returned t16_27) w68) (
            Run Try.prog (sOp (.pick (.const t4) (.const undef) (.const (Value.bool false))) 4) w61 fun t16_28 w69 =>
            R (.returned t16_28) w69))) (
        GuardV undef false (
          Run Try.prog (sOp (.load 30 (.const t1)) 30) w3 fun t13_8 w70 =>
          Run Try.prog (sCall (Value.func (.func 83) #[] #[]) [t13_8]) w70 fun t14_8 w71 =>
          GuardV t4 true (
            Run Try.prog (sOp (.pick (.const undef) (.const (Value.bool true)) (.const t14_8)) 4) w71 fun t15_15 w72 =>
            Run Try.prog (sOp (.pick (.const t4) (.const t15_15) (.const (Value.bool false))) 4) w72 fun t16_29 w73 =>
            R (.returned t16_29) w73) (
            Run Try.prog (sOp (.pick (.const t4) (.const undef) (.const (Value.bool false))) 4) w71 fun t16_30 w74 =>
            R (.returned t16_30) w74)) (
          GuardV t4 true (
            Run Try.prog (sOp (.pick (.const undef) (.const (Value.bool true)) (.const undef)) 4) w3 fun t15_16 w75 =>
            Run Try.prog (sOp (.pick (.const t4) (.const t15_16) (.const (Value.bool false))) 4) w75 fun t16_31 w76 =>
            R (.returned t16_31) w76) (
            Run Try.prog (sOp (.pick (.const t4) (.const undef) (.const (Value.bool false))) 4) w3 fun t16_32 w77 =>
            R (.returned t16_32) w77)))))
theorem calls_i_GoalValid {p0 : Value} {w : World} {R : Ending → World → Prop} (h : sh_i_GoalValid p0 w R) : Calls Try.prog 67 #[p0] w R :=
  calls_sh .leaf [p0] mixed Try.func67 (by kernel_rfl) (by kernel_rfl) h


/- (*loop.example/prologserver/impl.store).walk : function 68 -/
def sh_i_store_walk (p0 p1 : Value) (w : World) (R : Ending → World → Prop) : Prop :=
  Run Try.prog (sOp (.box 30 (.const p1)) 0) w fun t3 w1 =>
  Run Try.prog (sOp (.alloc 30) 0) w1 fun t4 w2 =>
  (∃ J3 : World → Prop, (
    (∃ (I4 : World → Prop) (m5 : World → Nat), I4 w2 ∧
    ∀ _ _ _ t6 t5 t19 t18 t10 t17 t16 t15 t14 t13 t12 t11 _ _ _ : Value, ∀ w6 : World, I4 w6 →
    Run Try.prog (sOp (.fieldAddr 30 (.const t3) 0) 0) w6 fun t7_2 w7 =>
    Run Try.prog (sOp (.load 3 (.const t7_2)) 3) w7 fun t8_2 w8 =>
    Run Try.prog (sBin .eql 3 false true t8_2 (Value.int .i64 1)) w8 fun t9_2 w9 =>
    CondV t9_2 (
      (∃ A10 : (Nat → Bool) → Value → Value → Value → Value → Value → Value → Value → Value → Value → Value → Value → Value → World → Prop, A10 (fun _ => false) t6 t5 t19 t18 t10 t17 t16 t15 t14 t13 t12 t11 { w9 with drawn := w9.drawn + 1 } ∧ (
      (∀ D11 : Nat → Bool, D11 0 = false → ∀ t6_2 t5_2 t19_2 t18_2 t10_2 t17_2 t16_2 t15_2 t14_2 t13_2 t12_2 t11_2 : Value, ∀ w12 : World, A10 D11 t6_2 t5_2 t19_2 t18_2 t10_2 t17_2 t16_2 t15_2 t14_2 t13_2 t12_2 t11_2 w12 →
        A10 (setD D11 0) t6_2 t5_2 t19_2 t18_2 t10_2 t17_2 t16_2 t15_2 t14_2 t13_2 t12_2 p0 w12) ∧
      (∀ D11 : Nat → Bool, D11 1 = false → D11 0 = true → ∀ t6_2 t5_2 t19_2 t18_2 t10_2 t17_2 t16_2 t15_2 t14_2 t13_2 t12_2 t11_2 : Value, ∀ w13 : World, A10 D11 t6_2 t5_2 t19_2 t18_2 t10_2 t17_2 t16_2 t15_2 t14_2 t13_2 t12_2 t11_2 w13 →
        Run Try.prog (sOp (.nilCheck (.const t11_2)) 0) w13 fun t12_3 w14 =>
        A10 (setD D11 1) t6_2 t5_2 t19_2 t18_2 t10_2 t17_2 t16_2 t15_2 t14_2 t13_2 t12_3 t11_2 w14) ∧
      (∀ D11 : Nat → Bool, D11 2 = false → D11 1 = true → ∀ t6_2 t5_2 t19_2 t18_2 t10_2 t17_2 t16_2 t15_2 t14_2 t13_2 t12_2 t11_2 : Value, ∀ w15 : World, A10 D11 t6_2 t5_2 t19_2 t18_2 t10_2 t17_2 t16_2 t15_2 t14_2 t13_2 t12_2 t11_2 w15 →
        Run Try.prog (sOp (.fieldAddr 82 (.const t12_2) 0) 0) w15 fun t13_3 w16 =>
        A10 (setD D11 2) t6_2 t5_2 t19_2 t18_2 t10_2 t17_2 t16_2 t15_2 t14_2 t13_3 t12_2 t11_2 w16) ∧
      (∀ D11 : Nat → Bool, D11 3 = false → D11 2 = true → ∀ t6_2 t5_2 t19_2 t18_2 t10_2 t17_2 t16_2 t15_2 t14_2 t13_2 t12_2 t11_2 : Value, ∀ w17 : World, A10 D11 t6_2 t5_2 t19_2 t18_2 t10_2 t17_2 t16_2 t15_2 t14_2 t13_2 t12_2 t11_2 w17 →
        Run Try.prog (sOp (.load 80 (.const t13_2)) 80) w17 fun t14_3 w18 =>
        A10 (setD D11 3) t6_2 t5_2 t19_2 t18_2 t10_2 t17_2 t16_2 t15_2 t14_3 t13_2 t12_2 t11_2 w18) ∧
      (∀ D11 : Nat → Bool, D11 4 = false → ∀ t6_2 t5_2 t19_2 t18_2 t10_2 t17_2 t16_2 t15_2 t14_2 t13_2 t12_2 t11_2 : Value, ∀ w19 : World, A10 D11 t6_2 t5_2 t19_2 t18_2 t10_2 t17_2 t16_2 t15_2 t14_2 t13_2 t12_2 t11_2 w19 →
        Run Try.prog (sOp (.fieldAddr 30 (.const t3) 1) 0) w19 fun t15_3 w20 =>
        A10 (setD D11 4) t6_2 t5_2 t19_2 t18_2 t10_2 t17_2 t16_2 t15_3 t14_2 t13_2 t12_2 t11_2 w20) ∧
      (∀ D11 : Nat → Bool, D11 5 = false → D11 4 = true → ∀ t6_2 t5_2 t19_2 t18_2 t10_2 t17_2 t16_2 t15_2 t14_2 t13_2 t12_2 t11_2 : Value, ∀ w21 : World, A10 D11 t6_2 t5_2 t19_2 t18_2 t10_2 t17_2 t16_2 t15_2 t14_2 t13_2 t12_2 t11_2 w21 →
        Run Try.prog (sOp (.load 3 (.const t15_2)) 3) w21 fun t16_3 w22 =>
        A10 (setD D11 5) t6_2 t5_2 t19_2 t18_2 t10_2 t17_2 t16_3 t15_2 t14_2 t13_2 t12_2 t11_2 w22) ∧
      (∀ D11 : Nat → Bool, D11 6 = false → D11 3 = true → D11 5 = true → ∀ t6_2 t5_2 t19_2 t18_2 t10_2 t17_2 t16_2 t15_2 t14_2 t13_2 t12_2 t11_2 : Value, ∀ w23 : World, A10 D11 t6_2 t5_2 t19_2 t18_2 t10_2 t17_2 t16_2 t15_2 t14_2 t13_2 t12_2 t11_2 w23 →
        Run Try.prog (sOp (.lookup 80 (.const t14_2) (.const t16_2) true) 54) w23 fun t17_3 w24 =>
        A10 (setD D11 6) t6_2 t5_2 t19_2 t18_2 t10_2 t17_3 t16_2 t15_2 t14_2 t13_2 t12_2 t11_2 w24) ∧
      (∀ D11 : Nat → Bool, D11 7 = false → D11 6 = true → ∀ t6_2 t5_2 t19_2 t18_2 t10_2 t17_2 t16_2 t15_2 t14_2 t13_2 t12_2 t11_2 : Value, ∀ w25 : World, A10 D11 t6_2 t5_2 t19_2 t18_2 t10_2 t17_2 t16_2 t15_2 t14_2 t13_2 t12_2 t11_2 w25 →
        A10 (setD D11 7) t6_2 t5_2 t19_2 t18_2 t17_2 t17_2 t16_2 t15_2 t14_2 t13_2 t12_2 t11_2 w25) ∧
      (∀ D11 : Nat → Bool, D11 8 = false → D11 7 = true → ∀ t6_2 t5_2 t19_2 t18_2 t10_2 t17_2 t16_2 t15_2 t14_2 t13_2 t12_2 t11_2 : Value, ∀ w26 : World, A10 D11 t6_2 t5_2 t19_2 t18_2 t10_2 t17_2 t16_2 t15_2 t14_2 t13_2 t12_2 t11_2 w26 →
        Run Try.prog (sOp (.extract (.const t10_2) 0) 30) w26 fun t18_3 w27 =>
        A10 (setD D11 8) t6_2 t5_2 t19_2 t18_3 t10_2 t17_2 t16_2 t15_2 t14_2 t13_2 t12_2 t11_2 w27) ∧
      (∀ D11 : Nat → Bool, D11 9 = false → D11 7 = true → ∀ t6_2 t5_2 t19_2 t18_2 t10_2 t17_2 t16_2 t15_2 t14_2 t13_2 t12_2 t11_2 : Value, ∀ w28 : World, A10 D11 t6_2 t5_2 t19_2 t18_2 t10_2 t17_2 t16_2 t15_2 t14_2 t13_2 t12_2 t11_2 w28 →
        Run Try.prog (sOp (.extract (.const t10_2) 1) 4) w28 fun t19_3 w29 =>
        A10 (setD D11 9) t6_2 t5_2 t19_3 t18_2 t10_2 t17_2 t16_2 t15_2 t14_2 t13_2 t12_2 t11_2 w29) ∧
      (∀ D11 : Nat → Bool, D11 10 = false → ∀ t6_2 t5_2 t19_2 t18_2 t10_2 t17_2 t16_2 t15_2 t14_2 t13_2 t12_2 t11_2 : Value, ∀ w30 : World, A10 D11 t6_2 t5_2 t19_2 t18_2 t10_2 t17_2 t16_2 t15_2 t14_2 t13_2 t12_2 t11_2 w30 →
        Run Try.prog (sOp (.alloc 30) 0) w30 fun t5_3 w31 =>
        A10 (setD D11 10) t6_2 t5_3 t19_2 t18_2 t10_2 t17_2 t16_2 t15_2 t14_2 t13_2 t12_2 t11_2 w31) ∧
      (∀ D11 : Nat → Bool, D11 11 = false → D11 10 = true → D11 8 = true → D11 0 = true → D11 1 = true → D11 2 = true → D11 3 = true → D11 4 = true → D11 5 = true → D11 6 = true → D11 7 = true → D11 8 = true → D11 10 = true → ∀ t6_2 t5_2 t19_2 t18_2 t10_2 t17_2 t16_2 t15_2 t14_2 t13_2 t12_2 t11_2 : Value, ∀ w32 : World, A10 D11 t6_2 t5_2 t19_2 t18_2 t10_2 t17_2 t16_2 t15_2 t14_2 t13_2 t12_2 t11_2 w32 →
        Run Try.prog (sOp (.store 30 (.const t5_2) (.const t18_2)) 0) w32 fun _u w33 =>
        A10 (setD D11 11) t6_2 t5_2 t19_2 t18_2 t10_2 t17_2 t16_2 t15_2 t14_2 t13_2 t12_2 t11_2 w33) ∧
      (∀ D11 : Nat → Bool, D11 12 = false → D11 9 = true → D11 11 = true → D11 0 = true → D11 1 = true → D11 2 = true → D11 3 = true → D11 4 = true → D11 5 = true → D11 6 = true → D11 7 = true → D11 8 = true → D11 9 = true → D11 10 = true → D11 11 = true → ∀ t6_2 t5_2 t19_2 t18_2 t10_2 t17_2 t16_2 t15_2 t14_2 t13_2 t12_2 t11_2 : Value, ∀ w34 : World, A10 D11 t6_2 t5_2 t19_2 t18_2 t10_2 t17_2 t16_2 t15_2 t14_2 t13_2 t12_2 t11_2 w34 →
        A10 (setD D11 12) t19_2 t5_2 t19_2 t18_2 t10_2 t17_2 t16_2 t15_2 t14_2 t13_2 t12_2 t11_2 w34) ∧
      True) ∧
    ∀ D11 : Nat → Bool, D11 12 = true → D11 11 = true → D11 10 = true → D11 9 = true → D11 8 = true → D11 7 = true → D11 6 = true → D11 5 = true → D11 4 = true → D11 3 = true → D11 2 = true → D11 1 = true → D11 0 = true → ∀ t6_2 t5_2 t19_2 t18_2 t10_2 t17_2 t16_2 t15_2 t14_2 t13_2 t12_2 t11_2 : Value, ∀ w35 : World, A10 D11 t6_2 t5_2 t19_2 t18_2 t10_2 t17_2 t16_2 t15_2 t14_2 t13_2 t12_2 t11_2 w35 →
    Run Try.prog (sOp (.unOp .not 4 (.const t6_2)) 4) w35 fun t21_2 w36 =>
    CondV t21_2 (
      J3 w36) (
      Run Try.prog (sOp (.load 30 (.const t5_2)) 30) w36 fun t22_2 w37 =>
    Run Try.prog (sOp (.store 30 (.const t3) (.const t22_2)) 0) w37 fun _u w38 =>
    I4 w38 ∧ m5 w38 < m5 w6))) (
      J3 w9))) ∧
  ∀ _ _ _ _ _ _ _ _ _ _ _ _ _ _ _ _ _ _ : Value, ∀ w39 : World, J3 w39 →
  Run Try.prog (sOp (.load 30 (.const t3)) 30) w39 fun t23 w40 =>
  Run Try.prog (sOp (.store 30 (.const t4) (.const t23)) 0) w40 fun _ w41 =>
  (LoadV Try.prog 30 t4 w41 fun r0 => R (.returned r0) w41))
theorem calls_i_store_walk {p0 p1 : Value} {w : World} {R : Ending → World → Prop} (h : sh_i_store_walk p0 p1 w R) : Calls Try.prog 68 #[p0, p1] w R :=
  calls_sh (.seq none .leaf (.seq (some []) (.one (.loop [] .leaf)) .leaf)) [p0, p1] mixed Try.func68 (by kernel_rfl) (by kernel_rfl) h


/- (*loop.example/prologserver/impl.store).bind : function 69 -/
def sh_i_store_bind (p0 p1 p2 : Value) (w : World) (R : Ending → World → Prop) : Prop :=
  Run Try.prog (sOp (.box 30 (.const p2)) 0) w fun t5 w1 =>
  Run Try.prog (sOp (.load 30 (.const t5)) 30) w1 fun t9 w2 =>
  Run Try.prog (sOp (.makeMap 91 none) 91) w2 fun t10 w3 =>
  Run Try.prog (sCall (Value.func (.func 84) #[] #[]) [p0, p1, t9, t10]) w3 fun t11 w4 =>
  CondV t11 (
    R (.returned (Value.bool false)) w4) (
    (∃ A5 : (Nat → Bool) → Value → Value → Value → Value → Value → Value → World → Prop, A5 (fun _ => false) undef undef undef undef undef undef { w4 with drawn := w4.drawn + 1 } ∧ (
    (∀ D6 : Nat → Bool, D6 0 = false → ∀ t17 t16 t15 t14 t13 t12 : Value, ∀ w7 : World, A5 D6 t17 t16 t15 t14 t13 t12 w7 →
      A5 (setD D6 0) t17 t16 t15 t14 t13 p0 w7) ∧
    (∀ D6 : Nat → Bool, D6 1 = false → D6 0 = true → ∀ t17 t16 t15 t14 t13 t12 : Value, ∀ w8 : World, A5 D6 t17 t16 t15 t14 t13 t12 w8 →
      Run Try.prog (sOp (.nilCheck (.const t12)) 0) w8 fun t13_2 w9 =>
      A5 (setD D6 1) t17 t16 t15 t14 t13_2 t12 w9) ∧
    (∀ D6 : Nat → Bool, D6 2 = false → D6 1 = true → ∀ t17 t16 t15 t14 t13 t12 : Value, ∀ w10 : World, A5 D6 t17 t16 t15 t14 t13 t12 w10 →
      Run Try.prog (sOp (.fieldAddr 82 (.const t13) 0) 0) w10 fun t14_2 w11 =>
      A5 (setD D6 2) t17 t16 t15 t14_2 t13 t12 w11) ∧
    (∀ D6 : Nat → Bool, D6 3 = false → D6 2 = true → ∀ t17 t16 t15 t14 t13 t12 : Value, ∀ w12 : World, A5 D6 t17 t16 t15 t14 t13 t12 w12 →
      Run Try.prog (sOp (.load 80 (.const t14)) 80) w12 fun t15_2 w13 =>
      A5 (setD D6 3) t17 t16 t15_2 t14 t13 t12 w13) ∧
    (∀ D6 : Nat → Bool, D6 4 = false → ∀ t17 t16 t15 t14 t13 t12 : Value, ∀ w14 : World, A5 D6 t17 t16 t15 t14 t13 t12 w14 →
      A5 (setD D6 4) t17 p1 t15 t14 t13 t12 w14) ∧
    (∀ D6 : Nat → Bool, D6 5 = false → ∀ t17 t16 t15 t14 t13 t12 : Value, ∀ w15 : World, A5 D6 t17 t16 t15 t14 t13 t12 w15 →
      Run Try.prog (sOp (.load 30 (.const t5)) 30) w15 fun t17_2 w16 =>
      A5 (setD D6 5) t17_2 t16 t15 t14 t13 t12 w16) ∧
    (∀ D6 : Nat → Bool, D6 6 = false → D6 3 = true → D6 4 = true → D6 5 = true → D6 0 = true → D6 1 = true → D6 2 = true → D6 3 = true → D6 4 = true → D6 5 = true → ∀ t17 t16 t15 t14 t13 t12 : Value, ∀ w17 : World, A5 D6 t17 t16 t15 t14 t13 t12 w17 →
      Run Try.prog (sOp (.mapUpdate 80 (.const t15) (.const t16) (.const t17)) 0) w17 fun _u w18 =>
      A5 (setD D6 6) t17 t16 t15 t14 t13 t12 w18) ∧
    True) ∧
  ∀ D6 : Nat → Bool, D6 6 = true → D6 5 = true → D6 4 = true → D6 3 = true → D6 2 = true → D6 1 = true → D6 0 = true → ∀ t17 t16 t15 t14 t13 t12 : Value, ∀ w19 : World, A5 D6 t17 t16 t15 t14 t13 t12 w19 →
  Run Try.prog (sOp (.nilCheck (.const p0)) 0) w19 fun t20 w20 =>
  Run Try.prog (sOp (.fieldAddr 82 (.const t20) 1) 0) w20 fun t21 w21 =>
  Run Try.prog (sOp (.load 74 (.const t21)) 74) w21 fun t22 w22 =>
  Run Try.prog (sBuildSlice 74 1 [(0, p1)]) w22 fun t24 w23 =>
  Run Try.prog (sBuiltin .append #[74, 74] 74 [false, false] [t22, t24]) w23 fun t25 w24 =>
  Run Try.prog (sOp (.nilCheck (.const p0)) 0) w24 fun t26 w25 =>
  Run Try.prog (sOp (.fieldAddr 82 (.const t26) 1) 0) w25 fun t27 w26 =>
  Run Try.prog (sOp (.store 74 (.const t27) (.const t25)) 0) w26 fun _ w27 =>
  R (.returned (Value.bool true)) w27))
theorem calls_i_store_bind {p0 p1 p2 : Value} {w : World} {R : Ending → World → Prop} (h : sh_i_store_bind p0 p1 p2 w R) : Calls Try.prog 69 #[p0, p1, p2] w R :=
  calls_sh .leaf [p0, p1, p2] mixed Try.func69 (by kernel_rfl) (by kernel_rfl) h


/- (*loop.example/prologserver/impl.store).resolving : function 70 -/
def sh_i_store_resolving (p0 p1 p2 p3 : Value) (w : World) (R : Ending → World → Prop) : Prop :=
  Run Try.prog (sOp (.box 30 (.const p1)) 0) w fun t5 w1 =>
  Run Try.prog (sOp (.alloc 30) 0) w1 fun t8 w2 =>
  Run Try.prog (sOp (.load 30 (.const t5)) 30) w2 fun t16 w3 =>
  Run Try.prog (sCall (Value.func (.func 68) #[] #[]) [p0, t16]) w3 fun t17 w4 =>
  Run Try.prog (sOp (.store 30 (.const t5) (.const t17)) 0) w4 fun _u w5 =>
  Run Try.prog (sOp (.nilCheck (.const p3)) 0) w5 fun t19 w6 =>
  Run Try.prog (sOp (.load 3 (.const t19)) 3) w6 fun t20 w7 =>
  Run Try.prog (sBin .add 3 false true t20 (Value.int .i64 1)) w7 fun t21 w8 =>
  Run Try.prog (sOp (.nilCheck (.const p3)) 0) w8 fun t22 w9 =>
  Run Try.prog (sOp (.store 3 (.const t22) (.const t21)) 0) w9 fun _u w10 =>
  (∃ J11 : Value → World → Prop, (
    Run Try.prog (sOp (.nilCheck (.const p3)) 0) w10 fun t24 w12 =>
    Run Try.prog (sOp (.load 3 (.const t24)) 3) w12 fun t25 w13 =>
    Run Try.prog (sBin .gtr 3 false true t25 (Value.int .i64 120)) w13 fun t26 w14 =>
    GuardV t26 false (
      Run Try.prog (sBin .gtr 3 false true p2 (Value.int .i64 30)) w14 fun t29 w15 =>
      Run Try.prog (sOp (.pick (.const t26) (.const (Value.bool true)) (.const t29)) 4) w15 fun t30 w16 =>
      J11 t30 w16) (
      Run Try.prog (sOp (.pick (.const t26) (.const (Value.bool true)) (.const undef)) 4) w14 fun t30_2 w17 =>
      J11 t30_2 w17)) ∧
  ∀ t30_3 _ _ _ _ _ _ _ : Value, ∀ w18 : World, J11 t30_3 w18 →
  CondV t30_3 (
    Run Try.prog (sBuild 30 []) w18 fun t31 w19 =>
    Run Try.prog (sOp (.store 30 (.const t8) (.const t31)) 0) w19 fun _u w20 =>
    (LoadV Try.prog 30 t8 w20 fun r0 => R (.returned (.tuple #[r0, (Value.bool false)])) w20)) (
    Run Try.prog (sOp (.fieldAddr 30 (.const t5) 0) 0) w18 fun t32 w21 =>
  Run Try.prog (sOp (.load 3 (.const t32)) 3) w21 fun t33 w22 =>
  Run Try.prog (sOp (.fieldAddr 30 (.const t5) 1) 0) w22 fun t34 w23 =>
  Run Try.prog (sOp (.load 3 (.const t34)) 3) w23 fun t35 w24 =>
  Run Try.prog (sOp (.fieldAddr 30 (.const t5) 2) 0) w24 fun t36 w25 =>
  Run Try.prog (sOp (.load 9 (.const t36)) 9) w25 fun t37 w26 =>
  Run Try.prog (sBuild 30 [(0, t33), (1, t35), (2, t37)]) w26 fun t38 w27 =>
  Run Try.prog (sOp (.alloc 30) 0) w27 fun t10 w28 =>
  Run Try.prog (sOp (.store 30 (.const t10) (.const t38)) 0) w28 fun _u w29 =>
  Run Try.prog (sOp (.fieldAddr 30 (.const t5) 3) 0) w29 fun t39 w30 =>
  Run Try.prog (sOp (.load 28 (.const t39)) 28) w30 fun t40 w31 =>
  Run Try.prog (sBuiltin .len #[28] 3 [false] [t40]) w31 fun t41 w32 =>
  (∃ (I33 : Value → World → Prop) (m34 : Value → World → Nat), I33 (Value.int .i64 0) w32 ∧
  ∀ t42 _ _ _ _ _ _ _ _ _ _ _ _ _ _ _ _ _ _ _ _ _ _ _ _ _ _ : Value, ∀ w35 : World, I33 t42 w35 →
  Run Try.prog (sBin .lss 3 false false t42 t41) w35 fun t43_2 w36 =>
  CondV t43_2 (
    Run Try.prog (sOp (.indexAddr 28 (.const t40) (.const t42)) 0) w36 fun t44_2 w37 =>
  Run Try.prog (sOp (.load 30 (.const t44_2)) 30) w37 fun t45_2 w38 =>
  Run Try.prog (sOp (.alloc 30) 0) w38 fun t12_2 w39 =>
  Run Try.prog (sOp (.store 30 (.const t12_2) (.const t45_2)) 0) w39 fun _u w40 =>
  Run Try.prog (sOp (.load 30 (.const t12_2)) 30) w40 fun t48_2 w41 =>
  Run Try.prog (sBin .add 3 false true p2 (Value.int .i64 1)) w41 fun t50_2 w42 =>
  Run Try.prog (sCall (Value.func (.func 70) #[] #[]) [p0, t48_2, t50_2, p3]) w42 fun t52_2 w43 =>
  Run Try.prog (sOp (.extract (.const t52_2) 0) 30) w43 fun t53_2 w44 =>
  Run Try.prog (sOp (.extract (.const t52_2) 1) 4) w44 fun t54_2 w45 =>
  Run Try.prog (sOp (.alloc 30) 0) w45 fun t13_2 w46 =>
  Run Try.prog (sOp (.store 30 (.const t13_2) (.const t53_2)) 0) w46 fun _u w47 =>
  Run Try.prog (sOp (.unOp .not 4 (.const t54_2)) 4) w47 fun t56_2 w48 =>
  CondV t56_2 (
    Run Try.prog (sBuild 30 []) w48 fun t57_2 w49 =>
    Run Try.prog (sOp (.store 30 (.const t8) (.const t57_2)) 0) w49 fun _u w50 =>
    (LoadV Try.prog 30 t8 w50 fun r0 => R (.returned (.tuple #[r0, (Value.bool false)])) w50)) (
    Run Try.prog (sOp (.fieldAddr 30 (.const t10) 3) 0) w48 fun t58_2 w51 =>
  Run Try.prog (sOp (.load 28 (.const t58_2)) 28) w51 fun t59_2 w52 =>
  Run Try.prog (sOp (.load 30 (.const t13_2)) 30) w52 fun t60_2 w53 =>
  Run Try.prog (sBuildSlice 28 1 [(0, t60_2)]) w53 fun t61_2 w54 =>
  Run Try.prog (sBuiltin .append #[28, 28] 28 [false, false] [t59_2, t61_2]) w54 fun t62_2 w55 =>
  Run Try.prog (sOp (.fieldAddr 30 (.const t10) 3) 0) w55 fun t63_2 w56 =>
  Run Try.prog (sOp (.store 28 (.const t63_2) (.const t62_2)) 0) w56 fun _u w57 =>
  Run Try.prog (sBin .add 3 false true t42 (Value.int .i64 1)) w57 fun t64_2 w58 =>
  I33 t64_2 w58 ∧ m34 t64_2 w58 < m34 t42 w35)) (
    Run Try.prog (sOp (.load 30 (.const t10)) 30) w36 fun t65 w59 =>
  Run Try.prog (sOp (.store 30 (.const t8) (.const t65)) 0) w59 fun _ w60 =>
  (LoadV Try.prog 30 t8 w60 fun r0 => R (.returned (.tuple #[r0, (Value.bool true)])) w60)))))
theorem calls_i_store_resolving {p0 p1 p2 p3 : Value} {w : World} {R : Ending → World → Prop} (h : sh_i_store_resolving p0 p1 p2 p3 w R) : Calls Try.prog 70 #[p0, p1, p2, p3] w R :=
  calls_sh (.seq none .leaf (.seq none .leaf (.seq none .leaf (.seq none (.seq (some [30]) .leaf .leaf) (.seq none .leaf (.seq none (.seq none .leaf (.one (.loop [42] .leaf))) .leaf)))))) [p0, p1, p2, p3] mixed Try.func70 (by kernel_rfl) (by kernel_rfl) h


/- loop.example/prologserver/impl.renumbered : function 71 -/
def sh_i_renumbered (p0 : Value) (w : World) (R : Ending → World → Prop) : Prop :=
  Run Try.prog (sCall (Value.func (.func 85) #[] #[]) [p0]) w fun t8 w1 =>
  Run Try.prog (sOp (.alloc 74) 0) w1 fun t3 w2 =>
  Run Try.prog (sOp (.store 74 (.const t3) (.const t8)) 0) w2 fun _u w3 =>
  Run Try.prog (sBuiltin .len #[28] 3 [false] [p0]) w3 fun t10 w4 =>
  (∃ (I5 : Value → Value → World → Prop) (m6 : Value → Value → World → Nat), I5 (Value.int .i64 0) (Value.slice none 0 0) w4 ∧
  ∀ t11 _ t4 _ _ _ _ _ _ _ _ _ _ : Value, ∀ w7 : World, I5 t11 t4 w7 →
  Run Try.prog (sBin .lss 3 false false t11 t10) w7 fun t12_2 w8 =>
  CondV t12_2 (
    Run Try.prog (sOp (.indexAddr 28 (.const p0) (.const t11)) 0) w8 fun t13_2 w9 =>
  Run Try.prog (sOp (.load 30 (.const t13_2)) 30) w9 fun t14_2 w10 =>
  Run Try.prog (sOp (.alloc 30) 0) w10 fun t6_2 w11 =>
  Run Try.prog (sOp (.store 30 (.const t6_2) (.const t14_2)) 0) w11 fun _ w12 =>
  Run Try.prog (sOp (.load 30 (.const t6_2)) 30) w12 fun t16_2 w13 =>
  Run Try.prog (sMakeFunc (.func 86) [] [t3]) w13 fun t17_2 w14 =>
  Run Try.prog (sCall (Value.func (.func 43) #[] #[]) [t16_2, t17_2]) w14 fun t18_2 w15 =>
  Run Try.prog (sBuildSlice 28 1 [(0, t18_2)]) w15 fun t19_2 w16 =>
  Run Try.prog (sBuiltin .append #[28, 28] 28 [false, false] [t4, t19_2]) w16 fun t20_2 w17 =>
  Run Try.prog (sBin .add 3 false true t11 (Value.int .i64 1)) w17 fun t21_2 w18 =>
  I5 t21_2 t20_2 w18 ∧ m6 t21_2 t20_2 w18 < m6 t11 t4 w7) (
    R (.returned t4) w8))
theorem calls_i_renumbered {p0 : Value} {w : World} {R : Ending → World → Prop} (h : sh_i_renumbered p0 w R) : Calls Try.prog 71 #[p0] w R :=
  calls_sh (.seq none .leaf (.seq none .leaf (.seq none .leaf (.seq none (.seq none .leaf (.one (.loop [11, 4] .leaf))) .leaf)))) [p0] mixed Try.func71 (by kernel_rfl) (by kernel_rfl) h


/- slices.Clip[[]loop.example/prologserver/impl.Term,loop.example/prologserver/impl.Term] : function 72 -/
def sh_x_Clip_Term (p0 : Value) (w : World) (R : Ending → World → Prop) : Prop :=
  Run Try.prog (sBuiltin .len #[28] 3 [false] [p0]) w fun t5 w1 =>
  Run Try.prog (sBuiltin .len #[28] 3 [false] [p0]) w1 fun t7 w2 =>
  Run Try.prog (sOp (.slice 28 (.const p0) none (some (.const t5)) (some (.const t7))) 28) w2 fun t8 w3 =>
  R (.returned t8) w3
theorem calls_x_Clip_Term {p0 : Value} {w : World} {R : Ending → World → Prop} (h : sh_x_Clip_Term p0 w R) : Calls Try.prog 72 #[p0] w R :=
  calls_sh .leaf [p0] mixed Try.func72 (by kernel_rfl) (by kernel_rfl) h


/- loop.example/prologserver/impl.own : function 73 -/
def sh_i_own (p0 : Value) (w : World) (R : Ending → World → Prop) : Prop :=
  Run Try.prog (sOp (.box 30 (.const p0)) 0) w fun t1 w1 =>
  Run Try.prog (sOp (.alloc 30) 0) w1 fun t2 w2 =>
  Run Try.prog (sOp (.fieldAddr 30 (.const t1) 3) 0) w2 fun t3 w3 =>
  Run Try.prog (sOp (.load 28 (.const t3)) 28) w3 fun t4 w4 =>
  Run Try.prog (sCall (Value.func (.func 74) #[] #[]) [t4]) w4 fun t5 w5 =>
  Run Try.prog (sOp (.fieldAddr 30 (.const t1) 3) 0) w5 fun t6 w6 =>
  Run Try.prog (sOp (.store 28 (.const t6) (.const t5)) 0) w6 fun _u w7 =>
  Run Try.prog (sOp (.load 30 (.const t1)) 30) w7 fun t7 w8 =>
  Run Try.prog (sOp (.store 30 (.const t2) (.const t7)) 0) w8 fun _ w9 =>
  (LoadV Try.prog 30 t2 w9 fun r0 => R (.returned r0) w9)
theorem calls_i_own {p0 : Value} {w : World} {R : Ending → World → Prop} (h : sh_i_own p0 w R) : Calls Try.prog 73 #[p0] w R :=
  calls_sh .leaf [p0] mixed Try.func73 (by kernel_rfl) (by kernel_rfl) h


/- loop.example/prologserver/impl.ownList : function 74 -/
def sh_i_ownList (p0 : Value) (w : World) (R : Ending → World → Prop) : Prop :=
  Run Try.prog (sBuiltin .len #[28] 3 [false] [p0]) w fun t7 w1 =>
  (∃ (I2 : Value → Value → World → Prop) (m3 : Value → Value → World → Nat), I2 (Value.int .i64 0) (Value.slice none 0 0) w1 ∧
  ∀ t8 _ t3 _ _ _ _ _ _ _ _ _ : Value, ∀ w4 : World, I2 t8 t3 w4 →
  Run Try.prog (sBin .lss 3 false false t8 t7) w4 fun t9_2 w5 =>
  CondV t9_2 (
    Run Try.prog (sOp (.indexAddr 28 (.const p0) (.const t8)) 0) w5 fun t10_2 w6 =>
  Run Try.prog (sOp (.load 30 (.const t10_2)) 30) w6 fun t11_2 w7 =>
  Run Try.prog (sOp (.alloc 30) 0) w7 fun t5_2 w8 =>
  Run Try.prog (sOp (.store 30 (.const t5_2) (.const t11_2)) 0) w8 fun _ w9 =>
  Run Try.prog (sOp (.load 30 (.const t5_2)) 30) w9 fun t13_2 w10 =>
  Run Try.prog (sCall (Value.func (.func 73) #[] #[]) [t13_2]) w10 fun t14_2 w11 =>
  Run Try.prog (sBuildSlice 28 1 [(0, t14_2)]) w11 fun t15_2 w12 =>
  Run Try.prog (sBuiltin .append #[28, 28] 28 [false, false] [t3, t15_2]) w12 fun t16_2 w13 =>
  Run Try.prog (sBin .add 3 false true t8 (Value.int .i64 1)) w13 fun t17_2 w14 =>
  I2 t17_2 t16_2 w14 ∧ m3 t17_2 t16_2 w14 < m3 t8 t3 w4) (
    R (.returned t3) w5))
theorem calls_i_ownList {p0 : Value} {w : World} {R : Ending → World → Prop} (h : sh_i_ownList p0 w R) : Calls Try.prog 74 #[p0] w R :=
  calls_sh (.seq none .leaf (.seq none .leaf (.seq none (.seq none .leaf (.one (.loop [8, 3] .leaf))) .leaf))) [p0] mixed Try.func74 (by kernel_rfl) (by kernel_rfl) h


/- loop.example/prologserver/spec.l4Cut : function 75 -/
def sh_s_l4Cut (p0 : Value) (w : World) (R : Ending → World → Prop) : Prop :=
  Run Try.prog (sOp (.box 30 (.const p0)) 0) w fun t1 w1 =>
  Run Try.prog (sOp (.fieldAddr 30 (.const t1) 0) 0) w1 fun t3 w2 =>
  Run Try.prog (sOp (.load 3 (.const t3)) 3) w2 fun t4 w3 =>
  Run Try.prog (sBin .eql 3 false true t4 (Value.int .i64 3)) w3 fun t5 w4 =>
  GuardV t5 true (
    Run Try.prog (sOp (.fieldAddr 30 (.const t1) 2) 0) w4 fun t7 w5 =>
    Run Try.prog (sOp (.load 9 (.const t7)) 9) w5 fun t8 w6 =>
    Run Try.prog (sBin .eql 9 false true t8 (Value.string ⟨#[33]⟩)) w6 fun t9 w7 =>
    Run Try.prog (sOp (.pick (.const t5) (.const t9) (.const (Value.bool false))) 4) w7 fun t10 w8 =>
    GuardV t10 true (
      Run Try.prog (sOp (.fieldAddr 30 (.const t1) 3) 0) w8 fun t12 w9 =>
      Run Try.prog (sOp (.load 28 (.const t12)) 28) w9 fun t13 w10 =>
      Run Try.prog (sBuiltin .len #[28] 3 [false] [t13]) w10 fun t14 w11 =>
      Run Try.prog (sBin .eql 3 false true t14 (Value.int .i64 0)) w11 fun t15 w12 =>
      Run Try.prog (sOp (.pick (.const t10) (.const t15) (.const (Value.bool false))) 4) w12 fun t16 w13 =>
      R (.returned t16) w13) (
      Run Try.prog (sOp (.pick (.const t10) (.const undef) (.const (Value.bool false))) 4) w8 fun t16_2 w14 =>
      R (.returned t16_2) w14)) (
    Run Try.prog (sOp (.pick (.const t5) (.const undef) (.const (Value.bool false))) 4) w4 fun t10_2 w15 =>
    GuardV t10_2 true (
      Run Try.prog (sOp (.fieldAddr 30 (.const t1) 3) 0) w15 fun t12_2 w16 =>
      Run Try.prog (sOp (.load 28 (.const t12_2)) 28) w16 fun t13_2 w17 =>
      Run Try.prog (sBuiltin .len #[28] 3 [false] [t13_2]) w17 fun t14_2 w18 =>
      Run Try.prog (sBin .eql 3 false true t14_2 (Value.int .i64 0)) w18 fun t15_2 w19 =>
      Run Try.prog (sOp (.pick (.const t10_2) (.const t15_2) (.const (Value.bool false))) 4) w19 fun t16_3 w20 =>
      R (.returned t16_3) w20) (
      Run Try.prog (sOp (.pick (.const t10_2) (.const undef) (.const (Value.bool false))) 4) w15 fun t16_4 w21 =>
      R (.returned t16_4) w21))
theorem calls_s_l4Cut {p0 : Value} {w : World} {R : Ending → World → Prop} (h : sh_s_l4Cut p0 w R) : Calls Try.prog 75 #[p0] w R :=
  calls_sh .leaf [p0] mixed Try.func75 (by kernel_rfl) (by kernel_rfl) h


/- loop.example/prologserver/spec.l1Own : function 76 -/
def sh_s_l1Own (p0 : Value) (w : World) (R : Ending → World → Prop) : Prop :=
  Run Try.prog (sOp (.box 30 (.const p0)) 0) w fun t1 w1 =>
  Run Try.prog (sOp (.fieldAddr 30 (.const t1) 0) 0) w1 fun t3 w2 =>
  Run Try.prog (sOp (.load 3 (.const t3)) 3) w2 fun t4 w3 =>
  Run Try.prog (sBin .eql 3 false true t4 (Value.int .i64 1)) w3 fun t6 w4 =>
  CondV t6 (
    Run Try.prog (sOp (.fieldAddr 30 (.const t1) 1) 0) w4 fun t7 w5 =>
    Run Try.prog (sOp (.load 3 (.const t7)) 3) w5 fun t8 w6 =>
    Run Try.prog (sBin .geq 3 false true t8 (Value.int .i64 0)) w6 fun t9 w7 =>
    GuardV t9 true (
      Run Try.prog (sOp (.fieldAddr 30 (.const t1) 1) 0) w7 fun t11 w8 =>
      Run Try.prog (sOp (.load 3 (.const t11)) 3) w8 fun t12 w9 =>
      Run Try.prog (sBin .leq 3 false true t12 (Value.int .i64 25)) w9 fun t13 w10 =>
      Run Try.prog (sOp (.pick (.const t9) (.const t13) (.const (Value.bool false))) 4) w10 fun t14 w11 =>
      GuardV t14 true (
        Run Try.prog (sOp (.fieldAddr 30 (.const t1) 2) 0) w11 fun t16 w12 =>
        Run Try.prog (sOp (.load 9 (.const t16)) 9) w12 fun t17 w13 =>
        Run Try.prog (sBin .eql 9 false true t17 (Value.string ⟨#[]⟩)) w13 fun t18 w14 =>
        Run Try.prog (sOp (.pick (.const t14) (.const t18) (.const (Value.bool false))) 4) w14 fun t19 w15 =>
        GuardV t19 true (
          Run Try.prog (sOp (.fieldAddr 30 (.const t1) 3) 0) w15 fun t21 w16 =>
          Run Try.prog (sOp (.load 28 (.const t21)) 28) w16 fun t22 w17 =>
          Run Try.prog (sBuiltin .len #[28] 3 [false] [t22]) w17 fun t23 w18 =>
          Run Try.prog (sBin .eql 3 false true t23 (Value.int .i64 0)) w18 fun t24 w19 =>
          Run Try.prog (sOp (.pick (.const t19) (.const t24) (.const (Value.bool false))) 4) w19 fun t25 w20 =>
          R (.returned t25) w20) (
          Run Try.prog (sOp (.pick (.const t19) (.const undef) (.const (Value.bool false))) 4) w15 fun t25_2 w21 =>
          R (.returned t25_2) w21)) (
        Run Try.prog (sOp (.pick (.const t14) (.const undef) (.const (Value.bool false))) 4) w11 fun t19_2 w22 =>
        GuardV t19_2 true (
          Run Try.prog (sOp (.fieldAddr 30 (.const t1) 3) 0) w22 fun t21_2 w23 =>
          Run Try.prog (sOp (.load 28 (.const t21_2)) 28) w23 fun t22_2 w24 =>
          Run Try.prog (sBuiltin .len #[28] 3 [false] [t22_2]) w24 fun t23_2 w25 =>
          Run Try.prog (sBin .eql 3 false true t23_2 (Value.int .i64 0)) w25 fun t24_2 w26 =>
          Run Try.prog (sOp (.pick (.const t19_2) (.const t24_2) (.const (Value.bool false))) 4) w26 fun t25_3 w27 =>
          R (.returned t25_3) w27) (
          Run Try.prog (sOp (.pick (.const t19_2) (.const undef) (.const (Value.bool false))) 4) w22 fun t25_4 w28 =>
          R (.returned t25_4) w28))) (
      Run Try.prog (sOp (.pick (.const t9) (.const undef) (.const (Value.bool false))) 4) w7 fun t14_2 w29 =>
      GuardV t14_2 true (
        Run Try.prog (sOp (.fieldAddr 30 (.const t1) 2) 0) w29 fun t16_2 w30 =>
        Run Try.prog (sOp (.load 9 (.const t16_2)) 9) w30 fun t17_2 w31 =>
        Run Try.prog (sBin .eql 9 false true t17_2 (Value.string ⟨#[]⟩)) w31 fun t18_2 w32 =>
        Run Try.prog (sOp (.pick (.const t14_2) (.const t18_2) (.const (Value.bool false))) 4) w32 fun t19_3 w33 =>
        GuardV t19_3 true (
          Run Try.prog (sOp (.fieldAddr 30 (.const t1) 3) 0) w33 fun t21_3 w34 =>
          Run Try.prog (sOp (.load 28 (.const t21_3)) 28) w34 fun t22_3 w35 =>
          Run Try.prog (sBuiltin .len #[28] 3 [false] [t22_3]) w35 fun t23_3 w36 =>
          Run Try.prog (sBin .eql 3 false true t23_3 (Value.int .i64 0)) w36 fun t24_3 w37 =>
          Run Try.prog (sOp (.pick (.const t19_3) (.const t24_3) (.const (Value.bool false))) 4) w37 fun t25_5 w38 =>
          R (.returned t25_5) w38) (
          Run Try.prog (sOp (.pick (.const t19_3) (.const undef) (.const (Value.bool false))) 4) w33 fun t25_6 w39 =>
          R (.returned t25_6) w39)) (
        Run Try.prog (sOp (.pick (.const t14_2) (.const undef) (.const (Value.bool false))) 4) w29 fun t19_4 w40 =>
        GuardV t19_4 true (
          Run Try.prog (sOp (.fieldAddr 30 (.const t1) 3) 0) w40 fun t21_4 w41 =>
          Run Try.prog (sOp (.load 28 (.const t21_4)) 28) w41 fun t22_4 w42 =>
          Run Try.prog (sBuiltin .len #[28] 3 [false] [t22_4]) w42 fun t23_4 w43 =>
          Run Try.prog (sBin .eql 3 false true t23_4 (Value.int .i64 0)) w43 fun t24_4 w44 =>
          Run Try.prog (sOp (.pick (.const t19_4) (.const t24_4) (.const (Value.bool false))) 4) w44 fun t25_7 w45 =>
          R (.returned t25_7) w45) (
          Run Try.prog (sOp (.pick (.const t19_4) (.const undef) (.const (Value.bool false))) 4) w40 fun t25_8 w46 =>
          R (.returned t25_8) w46)))) (
    Run Try.prog (sBin .eql 3 false true t4 (Value.int .i64 2)) w4 fun t27 w47 =>
    CondV t27 (
      Run Try.prog (sOp (.fieldAddr 30 (.const t1) 1) 0) w47 fun t28 w48 =>
      Run Try.prog (sOp (.load 3 (.const t28)) 3) w48 fun t29 w49 =>
      Run Try.prog (sBin .geq 3 false true t29 (Value.int .i64 (-999))) w49 fun t30 w50 =>
      GuardV t30 true (
        Run Try.prog (sOp (.fieldAddr 30 (.const t1) 1) 0) w50 fun t32 w51 =>
        Run Try.prog (sOp (.load 3 (.const t32)) 3) w51 fun t33 w52 =>
        Run Try.prog (sBin .leq 3 false true t33 (Value.int .i64 999)) w52 fun t34 w53 =>
        Run Try.prog (sOp (.pick (.const t30) (.const t34) (.const (Value.bool false))) 4) w53 fun t35 w54 =>
        GuardV t35 true (
          Run Try.prog (sOp (.fieldAddr 30 (.const t1) 2) 0) w54 fun t37 w55 =>
          Run Try.prog (sOp (.load 9 (.const t37)) 9) w55 fun t38 w56 =>
          Run Try.prog (sBin .eql 9 false true t38 (Value.string ⟨#[]⟩)) w56 fun t39 w57 =>
          Run Try.prog (sOp (.pick (.const t35) (.const t39) (.const (Value.bool false))) 4) w57 fun t40 w58 =>
          GuardV t40 true (
            Run Try.prog (sOp (.fieldAddr 30 (.const t1) 3) 0) w58 fun t42 w59 =>
            Run Try.prog (sOp (.load 28 (.const t42)) 28) w59 fun t43 w60 =>
            Run Try.prog (sBuiltin .len #[28] 3 [false] [t43]) w60 fun t44 w61 =>
            Run Try.prog (sBin .eql 3 false true t44 (Value.int .i64 0)) w61 fun t45 w62 =>
            Run Try.prog (sOp (.pick (.const t40) (.const t45) (.const (Value.bool false))) 4) w62 fun t46 w63 =>
            R (.returned t46) w63) (
            Run Try.prog (sOp (.pick (.const t40) (.const undef) (.const (Value.bool false))) 4) w58 fun t46_2 w64 =>
            R (.returned t46_2) w64)) (
          Run Try.prog (sOp (.pick (.const t35) (.const undef) (.const (Value.bool false))) 4) w54 fun t40_2 w65 =>
          GuardV t40_2 true (
            Run Try.prog (sOp (.fieldAddr 30 (.const t1) 3) 0) w65 fun t42_2 w66 =>
            Run Try.prog (sOp (.load 28 (.const t42_2)) 28) w66 fun t43_2 w67 =>
            Run Try.prog (sBuiltin .len #[28] 3 [false] [t43_2]) w67 fun t44_2 w68 =>
            Run Try.prog (sBin .eql 3 false true t44_2 (Value.int .i64 0)) w68 fun t45_2 w69 =>
            Run Try.prog (sOp (.pick (.const t40_2) (.const t45_2) (.const (Value.bool false))) 4) w69 fun t46_3 w70 =>
            R (.returned t46_3) w70) (
            Run Try.prog (sOp (.pick (.const t40_2) (.const undef) (.const (Value.bool false))) 4) w65 fun t46_4 w71 =>
            R (.returned t46_4) w71))) (
        Run Try.prog (sOp (.pick (.const t30) (.const undef) (.const (Value.bool false))) 4) w50 fun t35_2 w72 =>
        GuardV t35_2 true (
          Run Try.prog (sOp (.fieldAddr 30 (.const t1) 2) 0) w72 fun t37_2 w73 =>
          Run Try.prog (sOp (.load 9 (.const t37_2)) 9) w73 fun t38_2 w74 =>
          Run Try.prog (sBin .eql 9 false true t38_2 (Value.string ⟨#[]⟩)) w74 fun t39_2 w75 =>
          Run Try.prog (sOp (.pick (.const t35_2) (.const t39_2) (.const (Value.bool false))) 4) w75 fun t40_3 w76 =>
          GuardV t40_3 true (
            Run Try.prog (sOp (.fieldAddr 30 (.const t1) 3) 0) w76 fun t42_3 w77 =>
            Run Try.prog (sOp (.load 28 (.const t42_3)) 28) w77 fun t43_3 w78 =>
            Run Try.prog (sBuiltin .len #[28] 3 [false] [t43_3]) w78 fun t44_3 w79 =>
            Run Try.prog (sBin .eql 3 false true t44_3 (Value.int .i64 0)) w79 fun t45_3 w80 =>
            Run Try.prog (sOp (.pick (.const t40_3) (.const t45_3) (.const (Value.bool false))) 4) w80 fun t46_5 w81 =>
            R (.returned t46_5) w81) (
            Run Try.prog (sOp (.pick (.const t40_3) (.const undef) (.const (Value.bool false))) 4) w76 fun t46_6 w82 =>
            R (.returned t46_6) w82)) (
          Run Try.prog (sOp (.pick (.const t35_2) (.const undef) (.const (Value.bool false))) 4) w72 fun t40_4 w83 =>
          GuardV t40_4 true (
            Run Try.prog (sOp (.fieldAddr 30 (.const t1) 3) 0) w83 fun t42_4 w84 =>
            Run Try.prog (sOp (.load 28 (.const t42_4)) 28) w84 fun t43_4 w85 =>
            Run Try.prog (sBuiltin .len #[28] 3 [false] [t43_4]) w85 fun t44_4 w86 =>
            Run Try.prog (sBin .eql 3 false true t44_4 (Value.int .i64 0)) w86 fun t45_4 w87 =>
            Run Try.prog (sOp (.pick (.const t40_4) (.const t45_4) (.const (Value.bool false))) 4) w87 fun t46_7 w88 =>
            R (.returned t46_7) w88) (
            Run Try.prog (sOp (.pick (.const t40_4) (.const undef) (.const (Value.bool false))) 4) w83 fun t46_8 w89 =>
            R (.returned t46_8) w89)))) (
      Run Try.prog (sBin .eql 3 false true t4 (Value.int .i64 3)) w47 fun t48 w90 =>
      CondV t48 (
        Run Try.prog (sOp (.fieldAddr 30 (.const t1) 1) 0) w90 fun t49 w91 =>
        Run Try.prog (sOp (.load 3 (.const t49)) 3) w91 fun t50 w92 =>
        Run Try.prog (sBin .eql 3 false true t50 (Value.int .i64 0)) w92 fun t51 w93 =>
        GuardV t51 true (
          Run Try.prog (sOp (.fieldAddr 30 (.const t1) 2) 0) w93 fun t53 w94 =>
          Run Try.prog (sOp (.load 9 (.const t53)) 9) w94 fun t54 w95 =>
          Run Try.prog (sCall (Value.func (.func 88) #[] #[]) [t54]) w95 fun t55 w96 =>
          Run Try.prog (sOp (.pick (.const t51) (.const t55) (.const (Value.bool false))) 4) w96 fun t56 w97 =>
          GuardV t56 true (
            Run Try.prog (sOp (.fieldAddr 30 (.const t1) 3) 0) w97 fun t58 w98 =>
            Run Try.prog (sOp (.load 28 (.const t58)) 28) w98 fun t59 w99 =>
            Run Try.prog (sBuiltin .len #[28] 3 [false] [t59]) w99 fun t60 w100 =>
            Run Try.prog (sBin .leq 3 false true t60 (Value.int .i64 4)) w100 fun t61 w101 =>
            Run Try.prog (sOp (.pick (.const t56) (.const t61) (.const (Value.bool false))) 4) w101 fun t62 w102 =>
            R (.returned t62) w102) (
            Run Try.prog (sOp (.pick (.const t56) (.const undef) (.const (Value.bool false))) 4) w97 fun t62_2 w103 =>
            R (.returned t62_2) w103)) (
          Run Try.prog (sOp (.pick (.const t51) (.const undef) (.const (Value.bool false))) 4) w93 fun t56_2 w104 =>
          GuardV t56_2 true (
            Run Try.prog (sOp (.fieldAddr 30 (.const t1) 3) 0) w104 fun t58_2 w105 =>
            Run Try.prog (sOp (.load 28 (.const t58_2)) 28) w105 fun t59_2 w106 =>
            Run Try.prog (sBuiltin .len #[28] 3 [false] [t59_2]) w106 fun t60_2 w107 =>
            Run Try.prog (sBin .leq 3 false true t60_2 (Value.int .i64 4)) w107 fun t61_2 w108 =>
            Run Try.prog (sOp (.pick (.const t56_2) (.const t61_2) (.const (Value.bool false))) 4) w108 fun t62_3 w109 =>
            R (.returned t62_3) w109) (
            Run Try.prog (sOp (.pick (.const t56_2) (.const undef) (.const (Value.bool false))) 4) w104 fun t62_4 w110 =>
            R (.returned t62_4) w110))) (
        R (.returned (Value.bool false)) w90)))
theorem calls_s_l1Own {p0 : Value} {w : World} {R : Ending → World → Prop} (h : sh_s_l1Own p0 w R) : Calls Try.prog 76 #[p0] w R :=
  calls_sh .leaf [p0] mixed Try.func76 (by kernel_rfl) (by kernel_rfl) h


/- loop.example/prologserver/impl.within : function 77 -/
def sh_i_within (p0 p1 p2 : Value) (w : World) (R : Ending → World → Prop) : Prop :=
  Run Try.prog (sBin .leq 3 false false p1 p0) w fun t9 w1 =>
  GuardV t9 true (
    Run Try.prog (sBin .leq 3 false false p0 p2) w1 fun t13 w2 =>
    Run Try.prog (sOp (.pick (.const t9) (.const t13) (.const (Value.bool false))) 4) w2 fun t14 w3 =>
    R (.returned t14) w3) (
    Run Try.prog (sOp (.pick (.const t9) (.const undef) (.const (Value.bool false))) 4) w1 fun t14_2 w4 =>
    R (.returned t14_2) w4)
theorem calls_i_within {p0 p1 p2 : Value} {w : World} {R : Ending → World → Prop} (h : sh_i_within p0 p1 p2 w R) : Calls Try.prog 77 #[p0, p1, p2] w R :=
  calls_sh .leaf [p0, p1, p2] mixed Try.func77 (by kernel_rfl) (by kernel_rfl) h


/- loop.example/prologserver/impl.NameValid : function 78 -/
def sh_i_NameValid (p0 : Value) (w : World) (R : Ending → World → Prop) : Prop :=
  Run Try.prog (sCall (Value.func (.func 62) #[] #[]) [p0]) w fun t4 w1 =>
  GuardV t4 false (
    Run Try.prog (sCall (Value.func (.func 90) #[] #[]) []) w1 fun t6 w2 =>
    Run Try.prog (sCall (Value.func (.func 89) #[] #[]) [t6, p0]) w2 fun t8 w3 =>
    Run Try.prog (sOp (.pick (.const t4) (.const (Value.bool true)) (.const t8)) 4) w3 fun t9 w4 =>
    R (.returned t9) w4) (
    Run Try.prog (sOp (.pick (.const t4) (.const (Value.bool true)) (.const undef)) 4) w1 fun t9_2 w5 =>
    R (.returned t9_2) w5)
theorem calls_i_NameValid {p0 : Value} {w : World} {R : Ending → World → Prop} (h : sh_i_NameValid p0 w R) : Calls Try.prog 78 #[p0] w R :=
  calls_sh .leaf [p0] mixed Try.func78 (by kernel_rfl) (by kernel_rfl) h


/- loop.example/prologserver/impl.scan$1 : function 79 -/
def sh_i_scan_1 (p0 p1 p2 : Value) (w : World) (R : Ending → World → Prop) : Prop :=
  Run Try.prog (sOp (.box 30 (.const p0)) 0) w fun t3 w1 =>
  Run Try.prog (sOp (.load 30 (.const t3)) 30) w1 fun t5 w2 =>
  Run Try.prog (sOp (.load 3 (.const p1)) 3) w2 fun t6 w3 =>
  Run Try.prog (sBin .add 3 false true t6 (Value.int .i64 1)) w3 fun t7 w4 =>
  Run Try.prog (sOp (.load 78 (.const p2)) 78) w4 fun t8 w5 =>
  Run Try.prog (sCall (Value.func (.func 61) #[] #[]) [t5, t7, t8]) w5 fun t9 w6 =>
  Run Try.prog (sOp (.unOp .not 4 (.const t9)) 4) w6 fun t10 w7 =>
  R (.returned t10) w7
theorem calls_i_scan_1 {p0 p1 p2 : Value} {w : World} {R : Ending → World → Prop} (h : sh_i_scan_1 p0 p1 p2 w R) : Calls Try.prog 79 #[p0, p1, p2] w R :=
  calls_sh .leaf [p0, p1, p2] mixed Try.func79 (by kernel_rfl) (by kernel_rfl) h


/- loop.example/prologserver/impl.OpLevel : function 80 -/
def sh_i_OpLevel (p0 : Value) (w : World) (R : Ending → World → Prop) : Prop :=
  (∃ J1 : Value → World → Prop, (
    Run Try.prog (sBin .eql 9 false true p0 (Value.string ⟨#[61]⟩)) w fun t6 w2 =>
    CondV t6 (
      J1 t6 w2) (
      Run Try.prog (sBin .eql 9 false true p0 (Value.string ⟨#[92, 61]⟩)) w2 fun t7 w3 =>
      CondV t7 (
        J1 t7 w3) (
        Run Try.prog (sBin .eql 9 false true p0 (Value.string ⟨#[61, 61]⟩)) w3 fun t8 w4 =>
        CondV t8 (
          J1 t8 w4) (
          Run Try.prog (sBin .eql 9 false true p0 (Value.string ⟨#[60]⟩)) w4 fun t9 w5 =>
          CondV t9 (
            J1 t9 w5) (
            Run Try.prog (sBin .eql 9 false true p0 (Value.string ⟨#[62]⟩)) w5 fun t10 w6 =>
            CondV t10 (
              J1 t10 w6) (
              Run Try.prog (sBin .eql 9 false true p0 (Value.string ⟨#[61, 60]⟩)) w6 fun t11 w7 =>
              CondV t11 (
                J1 t11 w7) (
                Run Try.prog (sBin .eql 9 false true p0 (Value.string ⟨#[62, 61]⟩)) w7 fun t12 w8 =>
                CondV t12 (
                  J1 t12 w8) (
                  Run Try.prog (sBin .eql 9 false true p0 (Value.string ⟨#[61, 58, 61]⟩)) w8 fun t13 w9 =>
                  CondV t13 (
                    J1 t13 w9) (
                    Run Try.prog (sBin .eql 9 false true p0 (Value.string ⟨#[105, 115]⟩)) w9 fun t14 w10 =>
                    J1 t14 w10))))))))) ∧
  ∀ _ _ _ _ _ _ _ _ t5 _ : Value, ∀ w11 : World, J1 t5 w11 →
  CondV t5 (
    R (.returned (.tuple #[(Value.int .i64 3), (Value.bool false)])) w11) (
    (∃ J12 : Value → World → Prop, (
      Run Try.prog (sBin .eql 9 false true p0 (Value.string ⟨#[43]⟩)) w11 fun t16 w13 =>
      CondV t16 (
        J12 t16 w13) (
        Run Try.prog (sBin .eql 9 false true p0 (Value.string ⟨#[45]⟩)) w13 fun t17 w14 =>
        J12 t17 w14)) ∧
    ∀ _ t15 _ : Value, ∀ w15 : World, J12 t15 w15 →
    CondV t15 (
      R (.returned (.tuple #[(Value.int .i64 2), (Value.bool true)])) w15) (
      (∃ J16 : Value → World → Prop, (
        Run Try.prog (sBin .eql 9 false true p0 (Value.string ⟨#[42]⟩)) w15 fun t19 w17 =>
        CondV t19 (
          J16 t19 w17) (
          Run Try.prog (sBin .eql 9 false true p0 (Value.string ⟨#[47, 47]⟩)) w17 fun t20 w18 =>
          CondV t20 (
            J16 t20 w18) (
            Run Try.prog (sBin .eql 9 false true p0 (Value.string ⟨#[109, 111, 100]⟩)) w18 fun t21 w19 =>
            J16 t21 w19))) ∧
      ∀ _ _ t18 _ : Value, ∀ w20 : World, J16 t18 w20 →
      CondV t18 (
        R (.returned (.tuple #[(Value.int .i64 1), (Value.bool true)])) w20) (
        R (.returned (.tuple #[(Value.int .i64 0), (Value.bool false)])) w20))))))
theorem calls_i_OpLevel {p0 : Value} {w : World} {R : Ending → World → Prop} (h : sh_i_OpLevel p0 w R) : Calls Try.prog 80 #[p0] w R :=
  calls_sh (.seq none .leaf (.seq none (.seq none .leaf (.one (.seq (some [5]) .leaf (.two .leaf (.seq (some [15]) .leaf (.two .leaf (.seq (some [18]) .leaf .leaf))))))) .leaf)) [p0] mixed Try.func80 (by kernel_rfl) (by kernel_rfl) h


/- loop.example/prologserver/impl.IsBuiltin : function 81 -/
def sh_i_IsBuiltin (p0 p1 : Value) (w : World) (R : Ending → World → Prop) : Prop :=
  (∃ J1 : Value → World → Prop, (
    Run Try.prog (sBin .eql 9 false true p0 (Value.string ⟨#[61]⟩)) w fun t7 w2 =>
    CondV t7 (
      J1 t7 w2) (
      Run Try.prog (sBin .eql 9 false true p0 (Value.string ⟨#[92, 61]⟩)) w2 fun t8 w3 =>
      CondV t8 (
        J1 t8 w3) (
        Run Try.prog (sBin .eql 9 false true p0 (Value.string ⟨#[61, 61]⟩)) w3 fun t9 w4 =>
        CondV t9 (
          J1 t9 w4) (
          Run Try.prog (sBin .eql 9 false true p0 (Value.string ⟨#[60]⟩)) w4 fun t10 w5 =>
          CondV t10 (
            J1 t10 w5) (
            Run Try.prog (sBin .eql 9 false true p0 (Value.string ⟨#[62]⟩)) w5 fun t11 w6 =>
            CondV t11 (
              J1 t11 w6) (
              Run Try.prog (sBin .eql 9 false true p0 (Value.string ⟨#[61, 60]⟩)) w6 fun t12 w7 =>
              CondV t12 (
                J1 t12 w7) (
                Run Try.prog (sBin .eql 9 false true p0 (Value.string ⟨#[62, 61]⟩)) w7 fun t13 w8 =>
                CondV t13 (
                  J1 t13 w8) (
                  Run Try.prog (sBin .eql 9 false true p0 (Value.string ⟨#[61, 58, 61]⟩)) w8 fun t14 w9 =>
                  CondV t14 (
                    J1 t14 w9) (
                    Run Try.prog (sBin .eql 9 false true p0 (Value.string ⟨#[105, 115]⟩)) w9 fun t15 w10 =>
                    J1 t15 w10))))))))) ∧
  ∀ _ _ _ _ _ _ _ _ t6 _ : Value, ∀ w11 : World, J1 t6 w11 →
  CondV t6 (
    Run Try.prog (sBin .eql 3 false true p1 (Value.int .i64 2)) w11 fun t17 w12 =>
    R (.returned t17) w12) (
    (∃ J13 : Value → World → Prop, (
      Run Try.prog (sBin .eql 9 false true p0 (Value.string ⟨#[116, 114, 117, 101]⟩)) w11 fun t19 w14 =>
      CondV t19 (
        J13 t19 w14) (
        Run Try.prog (sBin .eql 9 false true p0 (Value.string ⟨#[102, 97, 105, 108]⟩)) w14 fun t20 w15 =>
        J13 t20 w15)) ∧
    ∀ _ t18 _ : Value, ∀ w16 : World, J13 t18 w16 →
    CondV t18 (
      Run Try.prog (sBin .eql 3 false true p1 (Value.int .i64 0)) w16 fun t22 w17 =>
      R (.returned t22) w17) (
      (∃ J18 : Value → World → Prop, (
        Run Try.prog (sBin .eql 9 false true p0 (Value.string ⟨#[118, 97, 114]⟩)) w16 fun t24 w19 =>
        CondV t24 (
          J18 t24 w19) (
          Run Try.prog (sBin .eql 9 false true p0 (Value.string ⟨#[110, 111, 110, 118, 97, 114]⟩)) w19 fun t25 w20 =>
          CondV t25 (
            J18 t25 w20) (
            Run Try.prog (sBin .eql 9 false true p0 (Value.string ⟨#[97, 116, 111, 109]⟩)) w20 fun t26 w21 =>
            CondV t26 (
              J18 t26 w21) (
              Run Try.prog (sBin .eql 9 false true p0 (Value.string ⟨#[105, 110, 116]⟩)) w21 fun t27 w22 =>
              J18 t27 w22)))) ∧
      ∀ _ _ _ t23 _ : Value, ∀ w23 : World, J18 t23 w23 →
      CondV t23 (
        Run Try.prog (sBin .eql 3 false true p1 (Value.int .i64 1)) w23 fun t29 w24 =>
        R (.returned t29) w24) (
        Run Try.prog (sBin .eql 9 false true p0 (Value.string ⟨#[97, 114, 103]⟩)) w23 fun t31 w25 =>
        CondV t31 (
          Run Try.prog (sBin .eql 3 false true p1 (Value.int .i64 3)) w25 fun t33 w26 =>
          R (.returned t33) w26) (
          R (.returned (Value.bool false)) w25)))))))
theorem calls_i_IsBuiltin {p0 p1 : Value} {w : World} {R : Ending → World → Prop} (h : sh_i_IsBuiltin p0 p1 w R) : Calls Try.prog 81 #[p0, p1] w R :=
  calls_sh (.seq none .leaf (.seq none (.seq none .leaf (.one (.seq (some [6]) .leaf (.two .leaf (.seq (some [18]) .leaf (.two .leaf (.seq (some [23]) .leaf .leaf))))))) .leaf)) [p0, p1] mixed Try.func81 (by kernel_rfl) (by kernel_rfl) h


/- slices.IndexFunc[[]loop.example/prologserver/impl.Term,loop.example/prologserver/impl.Term] : function 82 -/
def sh_x_IndexFunc_Term (p0 p1 : Value) (w : World) (R : Ending → World → Prop) : Prop :=
  Run Try.prog (sBuiltin .len #[28] 3 [false] [p0]) w fun t7 w1 =>
  (∃ (I2 : Value → World → Prop) (m3 : Value → World → Nat), I2 (Value.int .i64 0) w1 ∧
  ∀ t8 _ _ _ _ _ _ _ _ _ _ _ _ : Value, ∀ w4 : World, I2 t8 w4 →
  Run Try.prog (sBin .lss 3 false false t8 t7) w4 fun t9_2 w5 =>
  CondV t9_2 (
    Run Try.prog (sOp (.indexAddr 28 (.const p0) (.const t8)) 0) w5 fun t14_2 w6 =>
  Run Try.prog (sOp (.load 30 (.const t14_2)) 30) w6 fun t15_2 w7 =>
  Run Try.prog (sCall p1 [t15_2]) w7 fun t16_2 w8 =>
  CondV t16_2 (
    R (.returned t8) w8) (
    Run Try.prog (sBin .add 3 false true t8 (Value.int .i64 1)) w8 fun t18_2 w9 =>
  I2 t18_2 w9 ∧ m3 t18_2 w9 < m3 t8 w4)) (
    R (.returned (Value.int .i64 (-1))) w5))
theorem calls_x_IndexFunc_Term {p0 p1 : Value} {w : World} {R : Ending → World → Prop} (h : sh_x_IndexFunc_Term p0 p1 w R) : Calls Try.prog 82 #[p0, p1] w R :=
  calls_sh (.seq none .leaf (.seq none (.seq none .leaf (.one (.loop [8] .leaf))) .leaf)) [p0, p1] mixed Try.func82 (by kernel_rfl) (by kernel_rfl) h


/- loop.example/prologserver/impl.isCut : function 83 -/
def sh_i_isCut (p0 : Value) (w : World) (R : Ending → World → Prop) : Prop :=
  Run Try.prog (sOp (.box 30 (.const p0)) 0) w fun t1 w1 =>
  Run Try.prog (sOp (.load 30 (.const t1)) 30) w1 fun t3 w2 =>
  Run Try.prog (sCall (Value.func (.func 91) #[] #[]) [t3]) w2 fun t4 w3 =>
  GuardV t4 true (
    Run Try.prog (sOp (.fieldAddr 30 (.const t1) 2) 0) w3 fun t6 w4 =>
    Run Try.prog (sOp (.load 9 (.const t6)) 9) w4 fun t7 w5 =>
    Run Try.prog (sBin .eql 9 false true t7 (Value.string ⟨#[33]⟩)) w5 fun t8 w6 =>
    Run Try.prog (sOp (.pick (.const t4) (.const t8) (.const (Value.bool false))) 4) w6 fun t9 w7 =>
    R (.returned t9) w7) (
    Run Try.prog (sOp (.pick (.const t4) (.const undef) (.const (Value.bool false))) 4) w3 fun t9_2 w8 =>
    R (.returned t9_2) w8)
theorem calls_i_isCut {p0 : Value} {w : World} {R : Ending → World → Prop} (h : sh_i_isCut p0 w R) : Calls Try.prog 83 #[p0] w R :=
  calls_sh .leaf [p0] mixed Try.func83 (by kernel_rfl) (by kernel_rfl) h


/- (*loop.example/prologserver/impl.store).occurs : function 84 -/
def sh_i_store_occurs (p0 p1 p2 p3 : Value) (w : World) (R : Ending → World → Prop) : Prop :=
  Run Try.prog (sOp (.box 59 (.const p0)) 0) w fun t4 w1 =>
  Run Try.prog (sOp (.box 3 (.const p1)) 0) w1 fun t5 w2 =>
  Run Try.prog (sOp (.box 30 (.const p2)) 0) w2 fun t6 w3 =>
  Run Try.prog (sOp (.box 91 (.const p3)) 0) w3 fun t7 w4 =>
  Run Try.prog (sOp (.fieldAddr 30 (.const t6) 0) 0) w4 fun t10 w5 =>
  Run Try.prog (sOp (.load 3 (.const t10)) 3) w5 fun t11 w6 =>
  Run Try.prog (sBin .eql 3 false true t11 (Value.int .i64 1)) w6 fun t12 w7 =>
  CondV t12 (
    Run Try.prog (sOp (.load 91 (.const t7)) 91) w7 fun t13 w8 =>
    Run Try.prog (sOp (.fieldAddr 30 (.const t6) 1) 0) w8 fun t14 w9 =>
    Run Try.prog (sOp (.load 3 (.const t14)) 3) w9 fun t15 w10 =>
    Run Try.prog (sOp (.lookup 91 (.const t13) (.const t15) false) 4) w10 fun t16 w11 =>
    CondV t16 (
      R (.returned (Value.bool false)) w11) (
      Run Try.prog (sOp (.load 91 (.const t7)) 91) w11 fun t17 w12 =>
    Run Try.prog (sOp (.fieldAddr 30 (.const t6) 1) 0) w12 fun t18 w13 =>
    Run Try.prog (sOp (.load 3 (.const t18)) 3) w13 fun t19 w14 =>
    Run Try.prog (sOp (.mapUpdate 91 (.const t17) (.const t19) (.const (Value.bool true))) 0) w14 fun _u w15 =>
    Run Try.prog (sOp (.load 59 (.const t4)) 59) w15 fun t20 w16 =>
    Run Try.prog (sOp (.load 30 (.const t6)) 30) w16 fun t21 w17 =>
    Run Try.prog (sCall (Value.func (.func 68) #[] #[]) [t20, t21]) w17 fun t22 w18 =>
    Run Try.prog (sOp (.alloc 30) 0) w18 fun t9 w19 =>
    Run Try.prog (sOp (.store 30 (.const t9) (.const t22)) 0) w19 fun _ w20 =>
    Run Try.prog (sOp (.fieldAddr 30 (.const t9) 0) 0) w20 fun t23 w21 =>
    Run Try.prog (sOp (.load 3 (.const t23)) 3) w21 fun t24 w22 =>
    Run Try.prog (sBin .eql 3 false true t24 (Value.int .i64 1)) w22 fun t25 w23 =>
    CondV t25 (
      Run Try.prog (sOp (.fieldAddr 30 (.const t9) 1) 0) w23 fun t26 w24 =>
      Run Try.prog (sOp (.load 3 (.const t26)) 3) w24 fun t27 w25 =>
      Run Try.prog (sOp (.load 3 (.const t5)) 3) w25 fun t28 w26 =>
      Run Try.prog (sBin .eql 3 false false t27 t28) w26 fun t29 w27 =>
      R (.returned t29) w27) (
      Run Try.prog (sOp (.load 59 (.const t4)) 59) w23 fun t30 w28 =>
    Run Try.prog (sOp (.load 3 (.const t5)) 3) w28 fun t31 w29 =>
    Run Try.prog (sOp (.load 30 (.const t9)) 30) w29 fun t32 w30 =>
    Run Try.prog (sOp (.load 91 (.const t7)) 91) w30 fun t33 w31 =>
    Run Try.prog (sCall (Value.func (.func 84) #[] #[]) [t30, t31, t32, t33]) w31 fun t34 w32 =>
    R (.returned t34) w32))) (
    Run Try.prog (sOp (.fieldAddr 30 (.const t6) 3) 0) w7 fun t35 w33 =>
  Run Try.prog (sOp (.load 28 (.const t35)) 28) w33 fun t36 w34 =>
  Run Try.prog (sMakeFunc (.func 92) [] [t4, t5, t7]) w34 fun t37 w35 =>
  Run Try.prog (sCall (Value.func (.func 65) #[] #[]) [t36, t37]) w35 fun t38 w36 =>
  R (.returned t38) w36)
theorem calls_i_store_occurs {p0 p1 p2 p3 : Value} {w : World} {R : Ending → World → Prop} (h : sh_i_store_occurs p0 p1 p2 p3 w R) : Calls Try.prog 84 #[p0, p1, p2, p3] w R :=
  calls_sh .leaf [p0, p1, p2, p3] mixed Try.func84 (by kernel_rfl) (by kernel_rfl) h


/- loop.example/prologserver/impl.varsOf : function 85 -/
def sh_i_varsOf (p0 : Value) (w : World) (R : Ending → World → Prop) : Prop :=
  Run Try.prog (sBuiltin .len #[28] 3 [false] [p0]) w fun t7 w1 =>
  (∃ (I2 : Value → Value → World → Prop) (m3 : Value → Value → World → Nat), I2 (Value.int .i64 0) (Value.slice none 0 0) w1 ∧
  ∀ t8 _ t3 _ _ _ _ _ _ _ : Value, ∀ w4 : World, I2 t8 t3 w4 →
  Run Try.prog (sBin .lss 3 false false t8 t7) w4 fun t9_2 w5 =>
  CondV t9_2 (
    Run Try.prog (sOp (.indexAddr 28 (.const p0) (.const t8)) 0) w5 fun t10_2 w6 =>
  Run Try.prog (sOp (.load 30 (.const t10_2)) 30) w6 fun t11_2 w7 =>
  Run Try.prog (sOp (.alloc 30) 0) w7 fun t5_2 w8 =>
  Run Try.prog (sOp (.store 30 (.const t5_2) (.const t11_2)) 0) w8 fun _ w9 =>
  Run Try.prog (sOp (.load 30 (.const t5_2)) 30) w9 fun t12_2 w10 =>
  Run Try.prog (sCall (Value.func (.func 93) #[] #[]) [t12_2, t3]) w10 fun t14_2 w11 =>
  Run Try.prog (sBin .add 3 false true t8 (Value.int .i64 1)) w11 fun t15_2 w12 =>
  I2 t15_2 t14_2 w12 ∧ m3 t15_2 t14_2 w12 < m3 t8 t3 w4) (
    R (.returned t3) w5))
theorem calls_i_varsOf {p0 : Value} {w : World} {R : Ending → World → Prop} (h : sh_i_varsOf p0 w R) : Calls Try.prog 85 #[p0] w R :=
  calls_sh (.seq none .leaf (.seq none .leaf (.seq none (.seq none .leaf (.one (.loop [8, 3] .leaf))) .leaf))) [p0] mixed Try.func85 (by kernel_rfl) (by kernel_rfl) h


/- loop.example/prologserver/impl.renumbered$1 : function 86 -/
def sh_i_renumbered_1 (p0 p1 : Value) (w : World) (R : Ending → World → Prop) : Prop :=
  Run Try.prog (sOp (.alloc 30) 0) w fun t3 w1 =>
  Run Try.prog (sOp (.load 74 (.const p1)) 74) w1 fun t4 w2 =>
  Run Try.prog (sCall (Value.func (.func 87) #[] #[]) [t4, p0]) w2 fun t6 w3 =>
  Run Try.prog (sCall (Value.func (.func 41) #[] #[]) [t6]) w3 fun t7 w4 =>
  Run Try.prog (sOp (.store 30 (.const t3) (.const t7)) 0) w4 fun _ w5 =>
  (LoadV Try.prog 30 t3 w5 fun r0 => R (.returned r0) w5)
theorem calls_i_renumbered_1 {p0 p1 : Value} {w : World} {R : Ending → World → Prop} (h : sh_i_renumbered_1 p0 p1 w R) : Calls Try.prog 86 #[p0, p1] w R :=
  calls_sh .leaf [p0, p1] mixed Try.func86 (by kernel_rfl) (by kernel_rfl) h


/- slices.Index[[]int,int] : function 87 -/
def sh_x_Index_int (p0 p1 : Value) (w : World) (R : Ending → World → Prop) : Prop :=
  Run Try.prog (sBuiltin .len #[74] 3 [false] [p0]) w fun t7 w1 =>
  (∃ (I2 : Value → World → Prop) (m3 : Value → World → Nat), I2 (Value.int .i64 0) w1 ∧
  ∀ t8 _ _ _ _ _ _ _ _ _ _ _ _ : Value, ∀ w4 : World, I2 t8 w4 →
  Run Try.prog (sBin .lss 3 false false t8 t7) w4 fun t9_2 w5 =>
  CondV t9_2 (
    Run Try.prog (sOp (.indexAddr 74 (.const p0) (.const t8)) 0) w5 fun t14_2 w6 =>
  Run Try.prog (sOp (.load 3 (.const t14_2)) 3) w6 fun t15_2 w7 =>
  Run Try.prog (sBin .eql 3 false false p1 t15_2) w7 fun t16_2 w8 =>
  CondV t16_2 (
    R (.returned t8) w8) (
    Run Try.prog (sBin .add 3 false true t8 (Value.int .i64 1)) w8 fun t18_2 w9 =>
  I2 t18_2 w9 ∧ m3 t18_2 w9 < m3 t8 w4)) (
    R (.returned (Value.int .i64 (-1))) w5))
theorem calls_x_Index_int {p0 p1 : Value} {w : World} {R : Ending → World → Prop} (h : sh_x_Index_int p0 p1 w R) : Calls Try.prog 87 #[p0, p1] w R :=
  calls_sh (.seq none .leaf (.seq none (.seq none .leaf (.one (.loop [8] .leaf))) .leaf)) [p0, p1] mixed Try.func87 (by kernel_rfl) (by kernel_rfl) h


/- loop.example/prologserver/spec.NameValid : function 88 -/
def sh_s_NameValid (p0 : Value) (w : World) (R : Ending → World → Prop) : Prop :=
  Run Try.prog (sCall (Value.func (.func 51) #[] #[]) [p0]) w fun t4 w1 =>
  GuardV t4 false (
    Run Try.prog (sCall (Value.func (.func 95) #[] #[]) []) w1 fun t6 w2 =>
    Run Try.prog (sCall (Value.func (.func 94) #[] #[]) [t6, p0]) w2 fun t8 w3 =>
    Run Try.prog (sOp (.pick (.const t4) (.const (Value.bool true)) (.const t8)) 4) w3 fun t9 w4 =>
    R (.returned t9) w4) (
    Run Try.prog (sOp (.pick (.const t4) (.const (Value.bool true)) (.const undef)) 4) w1 fun t9_2 w5 =>
    R (.returned t9_2) w5)
theorem calls_s_NameValid {p0 : Value} {w : World} {R : Ending → World → Prop} (h : sh_s_NameValid p0 w R) : Calls Try.prog 88 #[p0] w R :=
  calls_sh .leaf [p0] mixed Try.func88 (by kernel_rfl) (by kernel_rfl) h


/- slices.Contains[[]string,string] : function 89 -/
def sh_x_Contains_string (p0 p1 : Value) (w : World) (R : Ending → World → Prop) : Prop :=
  Run Try.prog (sCall (Value.func (.func 96) #[] #[]) [p0, p1]) w fun t7 w1 =>
  Run Try.prog (sBin .geq 3 false true t7 (Value.int .i64 0)) w1 fun t8 w2 =>
  R (.returned t8) w2
theorem calls_x_Contains_string {p0 p1 : Value} {w : World} {R : Ending → World → Prop} (h : sh_x_Contains_string p0 p1 w R) : Calls Try.prog 89 #[p0, p1] w R :=
  calls_sh .leaf [p0, p1] mixed Try.func89 (by kernel_rfl) (by kernel_rfl) h


/- loop.example/prologserver/impl.symbols : function 90 -/
def sh_i_symbols (w : World) (R : Ending → World → Prop) : Prop :=
  Run Try.prog (sBuildSlice 95 15 [(0, (Value.string ⟨#[43]⟩)), (1, (Value.string ⟨#[45]⟩)), (2, (Value.string ⟨#[42]⟩)), (3, (Value.string ⟨#[47, 47]⟩)), (4, (Value.string ⟨#[61]⟩)), (5, (Value.string ⟨#[92, 61]⟩)), (6, (Value.string ⟨#[61, 61]⟩)), (7, (Value.string ⟨#[60]⟩)), (8, (Value.string ⟨#[62]⟩)), (9, (Value.string ⟨#[61, 60]⟩)), (10, (Value.string ⟨#[62, 61]⟩)), (11, (Value.string ⟨#[61, 58, 61]⟩)), (12, (Value.string ⟨#[46]⟩)), (13, (Value.string ⟨#[91, 93]⟩)), (14, (Value.string ⟨#[33]⟩))]) w fun t1 w1 =>
  R (.returned t1) w1
theorem calls_i_symbols {w : World} {R : Ending → World → Prop} (h : sh_i_symbols w R) : Calls Try.prog 90 #[] w R :=
  calls_sh .leaf [] mixed Try.func90 (by kernel_rfl) (by kernel_rfl) h


/- loop.example/prologserver/impl.isAtom : function 91 -/
def sh_i_isAtom (p0 : Value) (w : World) (R : Ending → World → Prop) : Prop :=
  Run Try.prog (sOp (.box 30 (.const p0)) 0) w fun t1 w1 =>
  Run Try.prog (sOp (.fieldAddr 30 (.const t1) 0) 0) w1 fun t3 w2 =>
  Run Try.prog (sOp (.load 3 (.const t3)) 3) w2 fun t4 w3 =>
  Run Try.prog (sBin .eql 3 false true t4 (Value.int .i64 3)) w3 fun t5 w4 =>
  GuardV t5 true (
    Run Try.prog (sOp (.fieldAddr 30 (.const t1) 3) 0) w4 fun t7 w5 =>
    Run Try.prog (sOp (.load 28 (.const t7)) 28) w5 fun t8 w6 =>
    Run Try.prog (sBuiltin .len #[28] 3 [false] [t8]) w6 fun t9 w7 =>
    Run Try.prog (sBin .eql 3 false true t9 (Value.int .i64 0)) w7 fun t10 w8 =>
    Run Try.prog (sOp (.pick (.const t5) (.const t10) (.const (Value.bool false))) 4) w8 fun t11 w9 =>
    R (.returned t11) w9) (
    Run Try.prog (sOp (.pick (.const t5) (.const undef) (.const (Value.bool false))) 4) w4 fun t11_2 w10 =>
    R (.returned t11_2) w10)
theorem calls_i_isAtom {p0 : Value} {w : World} {R : Ending → World → Prop} (h : sh_i_isAtom p0 w R) : Calls Try.prog 91 #[p0] w R :=
  calls_sh .leaf [p0] mixed Try.func91 (by kernel_rfl) (by kernel_rfl) h


/- (*loop.example/prologserver/impl.store).occurs$1 : function 92 -/
def sh_i_store_occurs_1 (p0 p1 p2 p3 : Value) (w : World) (R : Ending → World → Prop) : Prop :=
  Run Try.prog (sOp (.box 30 (.const p0)) 0) w fun t4 w1 =>
  Run Try.prog (sOp (.load 59 (.const p1)) 59) w1 fun t6 w2 =>
  Run Try.prog (sOp (.load 3 (.const p2)) 3) w2 fun t7 w3 =>
  Run Try.prog (sOp (.load 30 (.const t4)) 30) w3 fun t8 w4 =>
  Run Try.prog (sOp (.load 91 (.const p3)) 91) w4 fun t9 w5 =>
  Run Try.prog (sCall (Value.func (.func 84) #[] #[]) [t6, t7, t8, t9]) w5 fun t10 w6 =>
  R (.returned t10) w6
theorem calls_i_store_occurs_1 {p0 p1 p2 p3 : Value} {w : World} {R : Ending → World → Prop} (h : sh_i_store_occurs_1 p0 p1 p2 p3 w R) : Calls Try.prog 92 #[p0, p1, p2, p3] w R :=
  calls_sh .leaf [p0, p1, p2, p3] mixed Try.func92 (by kernel_rfl) (by kernel_rfl) h


/- loop.example/prologserver/impl.addVars : function 93 -/
def sh_i_addVars (p0 p1 : Value) (w : World) (R : Ending → World → Prop) : Prop :=
  Run Try.prog (sOp (.box 30 (.const p0)) 0) w fun t2 w1 =>
  (∃ J2 : Value → World → Prop, (
    (∃ J3 : Value → World → Prop, (
      Run Try.prog (sOp (.fieldAddr 30 (.const t2) 0) 0) w1 fun t7 w4 =>
      Run Try.prog (sOp (.load 3 (.const t7)) 3) w4 fun t8 w5 =>
      Run Try.prog (sBin .eql 3 false true t8 (Value.int .i64 1)) w5 fun t9 w6 =>
      GuardV t9 true (
        Run Try.prog (sOp (.fieldAddr 30 (.const t2) 1) 0) w6 fun t12 w7 =>
        Run Try.prog (sOp (.load 3 (.const t12)) 3) w7 fun t13 w8 =>
        Run Try.prog (sCall (Value.func (.func 97) #[] #[]) [p1, t13]) w8 fun t14 w9 =>
        Run Try.prog (sOp (.unOp .not 4 (.const t14)) 4) w9 fun t15 w10 =>
        Run Try.prog (sOp (.pick (.const t9) (.const t15) (.const (Value.bool false))) 4) w10 fun t16 w11 =>
        J3 t16 w11) (
        Run Try.prog (sOp (.pick (.const t9) (.const undef) (.const (Value.bool false))) 4) w6 fun t16_2 w12 =>
        J3 t16_2 w12)) ∧
    ∀ t16_3 _ _ _ _ _ _ _ _ _ : Value, ∀ w13 : World, J3 t16_3 w13 →
    CondV t16_3 (
      Run Try.prog (sOp (.fieldAddr 30 (.const t2) 1) 0) w13 fun t18 w14 =>
      Run Try.prog (sOp (.load 3 (.const t18)) 3) w14 fun t19 w15 =>
      Run Try.prog (sBuildSlice 74 1 [(0, t19)]) w15 fun t20 w16 =>
      Run Try.prog (sBuiltin .append #[74, 74] 74 [false, false] [p1, t20]) w16 fun t21 w17 =>
      J2 t21 w17) (
      J2 p1 w13))) ∧
  ∀ t1 _ _ _ _ _ _ _ _ _ _ _ _ _ _ _ : Value, ∀ w18 : World, J2 t1 w18 →
  Run Try.prog (sOp (.fieldAddr 30 (.const t2) 3) 0) w18 fun t22 w19 =>
  Run Try.prog (sOp (.load 28 (.const t22)) 28) w19 fun t23 w20 =>
  Run Try.prog (sBuiltin .len #[28] 3 [false] [t23]) w20 fun t24 w21 =>
  (∃ (I22 : Value → Value → World → Prop) (m23 : Value → Value → World → Nat), I22 (Value.int .i64 0) t1 w21 ∧
  ∀ t25 _ t1_2 _ _ _ _ _ _ _ : Value, ∀ w24 : World, I22 t25 t1_2 w24 →
  Run Try.prog (sBin .lss 3 false false t25 t24) w24 fun t26_2 w25 =>
  CondV t26_2 (
    Run Try.prog (sOp (.indexAddr 28 (.const t23) (.const t25)) 0) w25 fun t27_2 w26 =>
  Run Try.prog (sOp (.load 30 (.const t27_2)) 30) w26 fun t28_2 w27 =>
  Run Try.prog (sOp (.alloc 30) 0) w27 fun t6_2 w28 =>
  Run Try.prog (sOp (.store 30 (.const t6_2) (.const t28_2)) 0) w28 fun _ w29 =>
  Run Try.prog (sOp (.load 30 (.const t6_2)) 30) w29 fun t29_2 w30 =>
  Run Try.prog (sCall (Value.func (.func 93) #[] #[]) [t29_2, t1_2]) w30 fun t31_2 w31 =>
  Run Try.prog (sBin .add 3 false true t25 (Value.int .i64 1)) w31 fun t32_2 w32 =>
  I22 t32_2 t31_2 w32 ∧ m23 t32_2 t31_2 w32 < m23 t25 t1_2 w24) (
    R (.returned t1_2) w25)))
theorem calls_i_addVars {p0 p1 : Value} {w : World} {R : Ending → World → Prop} (h : sh_i_addVars p0 p1 w R) : Calls Try.prog 93 #[p0, p1] w R :=
  calls_sh (.seq none .leaf (.seq (some [1]) (.seq (some [16]) .leaf .leaf) (.seq none (.seq none .leaf (.one (.loop [25, 1] .leaf))) .leaf))) [p0, p1] mixed Try.func93 (by kernel_rfl) (by kernel_rfl) h


/- loop.example/prologserver/spec.l1Has : function 94 -/
def sh_s_l1Has (p0 p1 : Value) (w : World) (R : Ending → World → Prop) : Prop :=
  (∃ (I1 : Value → World → Prop) (m2 : Value → World → Nat), I1 (Value.int .i64 0) w ∧
  ∀ t5 _ _ _ _ _ _ _ _ _ _ _ _ _ : Value, ∀ w3 : World, I1 t5 w3 →
  Run Try.prog (sBuiltin .len #[95] 3 [false] [p0]) w3 fun t8_2 w4 =>
  Run Try.prog (sBin .lss 3 false false t5 t8_2) w4 fun t9_2 w5 =>
  CondV t9_2 (
    Run Try.prog (sOp (.indexAddr 95 (.const p0) (.const t5)) 0) w5 fun t14_2 w6 =>
  Run Try.prog (sOp (.load 9 (.const t14_2)) 9) w6 fun t15_2 w7 =>
  Run Try.prog (sBin .eql 9 false false t15_2 p1) w7 fun t17_2 w8 =>
  CondV t17_2 (
    R (.returned (Value.bool true)) w8) (
    Run Try.prog (sBin .add 3 false true t5 (Value.int .i64 1)) w8 fun t11_2 w9 =>
  I1 t11_2 w9 ∧ m2 t11_2 w9 < m2 t5 w3)) (
    R (.returned (Value.bool false)) w5))
theorem calls_s_l1Has {p0 p1 : Value} {w : World} {R : Ending → World → Prop} (h : sh_s_l1Has p0 p1 w R) : Calls Try.prog 94 #[p0, p1] w R :=
  calls_sh (.seq none .leaf (.seq none (.seq none .leaf (.one (.loop [5] .leaf))) .leaf)) [p0, p1] mixed Try.func94 (by kernel_rfl) (by kernel_rfl) h


/- loop.example/prologserver/spec.l1Signs : function 95 -/
def sh_s_l1Signs (w : World) (R : Ending → World → Prop) : Prop :=
  Run Try.prog (sBuildSlice 95 15 [(0, (Value.string ⟨#[43]⟩)), (1, (Value.string ⟨#[45]⟩)), (2, (Value.string ⟨#[42]⟩)), (3, (Value.string ⟨#[47, 47]⟩)), (4, (Value.string ⟨#[61]⟩)), (5, (Value.string ⟨#[92, 61]⟩)), (6, (Value.string ⟨#[61, 61]⟩)), (7, (Value.string ⟨#[60]⟩)), (8, (Value.string ⟨#[62]⟩)), (9, (Value.string ⟨#[61, 60]⟩)), (10, (Value.string ⟨#[62, 61]⟩)), (11, (Value.string ⟨#[61, 58, 61]⟩)), (12, (Value.string ⟨#[46]⟩)), (13, (Value.string ⟨#[91, 93]⟩)), (14, (Value.string ⟨#[33]⟩))]) w fun t1 w1 =>
  R (.returned t1) w1
theorem calls_s_l1Signs {w : World} {R : Ending → World → Prop} (h : sh_s_l1Signs w R) : Calls Try.prog 95 #[] w R :=
  calls_sh .leaf [] mixed Try.func95 (by kernel_rfl) (by kernel_rfl) h


/- slices.Index[[]string,string] : function 96 -/
def sh_x_Index_string (p0 p1 : Value) (w : World) (R : Ending → World → Prop) : Prop :=
  Run Try.prog (sBuiltin .len #[95] 3 [false] [p0]) w fun t7 w1 =>
  (∃ (I2 : Value → World → Prop) (m3 : Value → World → Nat), I2 (Value.int .i64 0) w1 ∧
  ∀ t8 _ _ _ _ _ _ _ _ _ _ _ _ : Value, ∀ w4 : World, I2 t8 w4 →
  Run Try.prog (sBin .lss 3 false false t8 t7) w4 fun t9_2 w5 =>
  CondV t9_2 (
    Run Try.prog (sOp (.indexAddr 95 (.const p0) (.const t8)) 0) w5 fun t14_2 w6 =>
  Run Try.prog (sOp (.load 9 (.const t14_2)) 9) w6 fun t15_2 w7 =>
  Run Try.prog (sBin .eql 9 false false p1 t15_2) w7 fun t16_2 w8 =>
  CondV t16_2 (
    R (.returned t8) w8) (
    Run Try.prog (sBin .add 3 false true t8 (Value.int .i64 1)) w8 fun t18_2 w9 =>
  I2 t18_2 w9 ∧ m3 t18_2 w9 < m3 t8 w4)) (
    R (.returned (Value.int .i64 (-1))) w5))
theorem calls_x_Index_string {p0 p1 : Value} {w : World} {R : Ending → World → Prop} (h : sh_x_Index_string p0 p1 w R) : Calls Try.prog 96 #[p0, p1] w R :=
  calls_sh (.seq none .leaf (.seq none (.seq none .leaf (.one (.loop [8] .leaf))) .leaf)) [p0, p1] mixed Try.func96 (by kernel_rfl) (by kernel_rfl) h


/- slices.Contains[[]int,int] : function 97 -/
def sh_x_Contains_int (p0 p1 : Value) (w : World) (R : Ending → World → Prop) : Prop :=
  Run Try.prog (sCall (Value.func (.func 87) #[] #[]) [p0, p1]) w fun t7 w1 =>
  Run Try.prog (sBin .geq 3 false true t7 (Value.int .i64 0)) w1 fun t8 w2 =>
  R (.returned t8) w2
theorem calls_x_Contains_int {p0 p1 : Value} {w : World} {R : Ending → World → Prop} (h : sh_x_Contains_int p0 p1 w R) : Calls Try.prog 97 #[p0, p1] w R :=
  calls_sh .leaf [p0, p1] mixed Try.func97 (by kernel_rfl) (by kernel_rfl) h

end Go.Proofs.Ytaaihodhhacapaa

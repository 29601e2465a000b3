/- Made by program: the functions in a shallow form; each form gives Calls. -/
import Derived.Test.YtnoieadimkgjcaaVcCalls
import Derived.Test.YtnoieadimkgjcaaProg
import Derived.KernelRfl
set_option maxRecDepth 100000
namespace Go.Proofs.Ytnoieadimkgjcaa
open Go
theorem mixed : Try.prog.follows .mixedOrders = true := by kernel_rfl
/- loop.example/prologserver/laws.FnExactSubsumedClause : function 5 -/
def sh_l_FnExactSubsumedClause (p0 p1 : Value) (w : World) (R : Ending → World → Prop) : Prop :=
  Run Try.prog (sOp (.box 46 (.const p0)) 0) w fun t2 w1 =>
  Run Try.prog (sOp (.box 46 (.const p1)) 0) w1 fun t3 w2 =>
  Run Try.prog (sOp (.load 46 (.const t2)) 46) w2 fun t10 w3 =>
  Run Try.prog (sCall (Value.func (.func 31) #[] #[]) [t10, (Value.int .i64 1048576)]) w3 fun t12 w4 =>
  Run Try.prog (sBin .lss 3 false true t12 (Value.int .i64 0)) w4 fun t14 w5 =>
  CondV t14 (
    R (.returned (Value.bool true)) w5) (
    Run Try.prog (sOp (.load 46 (.const t3)) 46) w5 fun t15 w6 =>
  Run Try.prog (sCall (Value.func (.func 31) #[] #[]) [t15, t12]) w6 fun t17 w7 =>
  Run Try.prog (sBin .lss 3 false true t17 (Value.int .i64 0)) w7 fun t19 w8 =>
  CondV t19 (
    R (.returned (Value.bool true)) w8) (
    (∃ A9 : (Nat → Bool) → Value → Value → Value → Value → Value → Value → World → Prop, A9 (fun _ => false) undef undef undef undef undef undef { w8 with drawn := w8.drawn + 1 } ∧ (
    (∀ D10 : Nat → Bool, D10 0 = false → ∀ t6 t24 t23 t22 t21 t20 : Value, ∀ w11 : World, A9 D10 t6 t24 t23 t22 t21 t20 w11 →
      Run Try.prog (sOp (.load 46 (.const t2)) 46) w11 fun t20_2 w12 =>
      A9 (setD D10 0) t6 t24 t23 t22 t21 t20_2 w12) ∧
    (∀ D10 : Nat → Bool, D10 1 = false → D10 0 = true → ∀ t6 t24 t23 t22 t21 t20 : Value, ∀ w13 : World, A9 D10 t6 t24 t23 t22 t21 t20 w13 →
      Run Try.prog (sCall (Value.func (.func 33) #[] #[]) [t20]) w13 fun t21_2 w14 =>
      A9 (setD D10 1) t6 t24 t23 t22 t21_2 t20 w14) ∧
    (∀ D10 : Nat → Bool, D10 2 = false → ∀ t6 t24 t23 t22 t21 t20 : Value, ∀ w15 : World, A9 D10 t6 t24 t23 t22 t21 t20 w15 →
      Run Try.prog (sOp (.load 46 (.const t3)) 46) w15 fun t22_2 w16 =>
      A9 (setD D10 2) t6 t24 t23 t22_2 t21 t20 w16) ∧
    (∀ D10 : Nat → Bool, D10 3 = false → D10 2 = true → D10 1 = true → ∀ t6 t24 t23 t22 t21 t20 : Value, ∀ w17 : World, A9 D10 t6 t24 t23 t22 t21 t20 w17 →
      Run Try.prog (sCall (Value.func (.func 33) #[] #[]) [t22]) w17 fun t23_2 w18 =>
      A9 (setD D10 3) t6 t24 t23_2 t22 t21 t20 w18) ∧
    (∀ D10 : Nat → Bool, D10 4 = false → D10 1 = true → D10 3 = true → D10 3 = true → ∀ t6 t24 t23 t22 t21 t20 : Value, ∀ w19 : World, A9 D10 t6 t24 t23 t22 t21 t20 w19 →
      Run Try.prog (sCall (Value.func (.func 32) #[] #[]) [t21, t23]) w19 fun t24_2 w20 =>
      A9 (setD D10 4) t6 t24_2 t23 t22 t21 t20 w20) ∧
    (∀ D10 : Nat → Bool, D10 5 = false → D10 4 = true → D10 4 = true → D10 0 = true → D10 1 = true → D10 2 = true → D10 3 = true → D10 4 = true → ∀ t6 t24 t23 t22 t21 t20 : Value, ∀ w21 : World, A9 D10 t6 t24 t23 t22 t21 t20 w21 →
      A9 (setD D10 5) t24 t24 t23 t22 t21 t20 w21) ∧
    True) ∧
  ∀ D10 : Nat → Bool, D10 5 = true → D10 4 = true → D10 3 = true → D10 2 = true → D10 1 = true → D10 0 = true → ∀ t6 t24 t23 t22 t21 t20 : Value, ∀ w22 : World, A9 D10 t6 t24 t23 t22 t21 t20 w22 →
  Run Try.prog (sOp (.load 46 (.const t2)) 46) w22 fun t25 w23 =>
  Run Try.prog (sCall (Value.func (.func 33) #[] #[]) [t25]) w23 fun t26 w24 =>
  Run Try.prog (sOp (.alloc 50) 0) w24 fun t7 w25 =>
  Run Try.prog (sOp (.store 50 (.const t7) (.const t26)) 0) w25 fun _u w26 =>
  Run Try.prog (sOp (.load 46 (.const t3)) 46) w26 fun t27 w27 =>
  Run Try.prog (sCall (Value.func (.func 33) #[] #[]) [t27]) w27 fun t28 w28 =>
  Run Try.prog (sOp (.alloc 50) 0) w28 fun t8 w29 =>
  Run Try.prog (sOp (.store 50 (.const t8) (.const t28)) 0) w29 fun _ w30 =>
  Run Try.prog (sOp (.load 50 (.const t7)) 50) w30 fun t29 w31 =>
  Run Try.prog (sOp (.load 50 (.const t8)) 50) w31 fun t30 w32 =>
  Run Try.prog (sCall (Value.func (.func 34) #[] #[]) [t29, t30]) w32 fun t31 w33 =>
  Run Try.prog (sBin .neq 4 false false t31 t6) w33 fun t34 w34 =>
  CondV t34 (
    R (.returned (Value.bool false)) w34) (
    (∃ A35 : (Nat → Bool) → Value → Value → Value → Value → Value → World → Prop, A35 (fun _ => false) undef undef undef undef undef { w34 with drawn := w34.drawn + 1 } ∧ (
    (∀ D36 : Nat → Bool, D36 0 = false → ∀ t39 t38 t37 t36 t35 : Value, ∀ w37 : World, A35 D36 t39 t38 t37 t36 t35 w37 →
      Run Try.prog (sOp (.load 50 (.const t7)) 50) w37 fun t35_2 w38 =>
      A35 (setD D36 0) t39 t38 t37 t36 t35_2 w38) ∧
    (∀ D36 : Nat → Bool, D36 1 = false → ∀ t39 t38 t37 t36 t35 : Value, ∀ w39 : World, A35 D36 t39 t38 t37 t36 t35 w39 →
      Run Try.prog (sOp (.load 46 (.const t2)) 46) w39 fun t36_2 w40 =>
      A35 (setD D36 1) t39 t38 t37 t36_2 t35 w40) ∧
    (∀ D36 : Nat → Bool, D36 2 = false → D36 1 = true → ∀ t39 t38 t37 t36 t35 : Value, ∀ w41 : World, A35 D36 t39 t38 t37 t36 t35 w41 →
      Run Try.prog (sCall (Value.func (.func 33) #[] #[]) [t36]) w41 fun t37_2 w42 =>
      A35 (setD D36 2) t39 t38 t37_2 t36 t35 w42) ∧
    (∀ D36 : Nat → Bool, D36 3 = false → D36 0 = true → D36 2 = true → D36 2 = true → ∀ t39 t38 t37 t36 t35 : Value, ∀ w43 : World, A35 D36 t39 t38 t37 t36 t35 w43 →
      Run Try.prog (sCall (Value.func (.func 35) #[] #[]) [t35, t37]) w43 fun t38_2 w44 =>
      A35 (setD D36 3) t39 t38_2 t37 t36 t35 w44) ∧
    (∀ D36 : Nat → Bool, D36 4 = false → D36 3 = true → ∀ t39 t38 t37 t36 t35 : Value, ∀ w45 : World, A35 D36 t39 t38 t37 t36 t35 w45 →
      Run Try.prog (sOp (.unOp .not 4 (.const t38)) 4) w45 fun t39_2 w46 =>
      A35 (setD D36 4) t39_2 t38 t37 t36 t35 w46) ∧
    True) ∧
  ∀ D36 : Nat → Bool, D36 4 = true → D36 3 = true → D36 2 = true → D36 1 = true → D36 0 = true → ∀ t39 t38 t37 t36 t35 : Value, ∀ w47 : World, A35 D36 t39 t38 t37 t36 t35 w47 →
  CondV t39 (
    R (.returned (Value.bool false)) w47) (
    (∃ A48 : (Nat → Bool) → Value → Value → Value → Value → Value → World → Prop, A48 (fun _ => false) undef undef undef undef undef { w47 with drawn := w47.drawn + 1 } ∧ (
    (∀ D49 : Nat → Bool, D49 0 = false → ∀ t44 t43 t42 t41 t40 : Value, ∀ w50 : World, A48 D49 t44 t43 t42 t41 t40 w50 →
      Run Try.prog (sOp (.load 50 (.const t8)) 50) w50 fun t40_2 w51 =>
      A48 (setD D49 0) t44 t43 t42 t41 t40_2 w51) ∧
    (∀ D49 : Nat → Bool, D49 1 = false → ∀ t44 t43 t42 t41 t40 : Value, ∀ w52 : World, A48 D49 t44 t43 t42 t41 t40 w52 →
      Run Try.prog (sOp (.load 46 (.const t3)) 46) w52 fun t41_2 w53 =>
      A48 (setD D49 1) t44 t43 t42 t41_2 t40 w53) ∧
    (∀ D49 : Nat → Bool, D49 2 = false → D49 1 = true → ∀ t44 t43 t42 t41 t40 : Value, ∀ w54 : World, A48 D49 t44 t43 t42 t41 t40 w54 →
      Run Try.prog (sCall (Value.func (.func 33) #[] #[]) [t41]) w54 fun t42_2 w55 =>
      A48 (setD D49 2) t44 t43 t42_2 t41 t40 w55) ∧
    (∀ D49 : Nat → Bool, D49 3 = false → D49 0 = true → D49 2 = true → D49 2 = true → ∀ t44 t43 t42 t41 t40 : Value, ∀ w56 : World, A48 D49 t44 t43 t42 t41 t40 w56 →
      Run Try.prog (sCall (Value.func (.func 35) #[] #[]) [t40, t42]) w56 fun t43_2 w57 =>
      A48 (setD D49 3) t44 t43_2 t42 t41 t40 w57) ∧
    (∀ D49 : Nat → Bool, D49 4 = false → D49 3 = true → ∀ t44 t43 t42 t41 t40 : Value, ∀ w58 : World, A48 D49 t44 t43 t42 t41 t40 w58 →
      Run Try.prog (sOp (.unOp .not 4 (.const t43)) 4) w58 fun t44_2 w59 =>
      A48 (setD D49 4) t44_2 t43 t42 t41 t40 w59) ∧
    True) ∧
  ∀ D49 : Nat → Bool, D49 4 = true → D49 3 = true → D49 2 = true → D49 1 = true → D49 0 = true → ∀ t44 t43 t42 t41 t40 : Value, ∀ w60 : World, A48 D49 t44 t43 t42 t41 t40 w60 →
  CondV t44 (
    R (.returned (Value.bool false)) w60) (
    R (.returned (Value.bool true)) w60))))))))
theorem calls_l_FnExactSubsumedClause {p0 p1 : Value} {w : World} {R : Ending → World → Prop} (h : sh_l_FnExactSubsumedClause p0 p1 w R) : Calls Try.prog 5 #[p0, p1] w R :=
  calls_sh .leaf [p0, p1] mixed Try.func5 (by kernel_rfl) (by kernel_rfl) h


/- loop.example/prologserver/laws.FnExactRenumberClause : function 9 -/
def sh_l_FnExactRenumberClause (p0 : Value) (w : World) (R : Ending → World → Prop) : Prop :=
  Run Try.prog (sOp (.box 46 (.const p0)) 0) w fun t1 w1 =>
  Run Try.prog (sOp (.load 46 (.const t1)) 46) w1 fun t14 w2 =>
  Run Try.prog (sCall (Value.func (.func 31) #[] #[]) [t14, (Value.int .i64 1048576)]) w2 fun t16 w3 =>
  Run Try.prog (sBin .lss 3 false true t16 (Value.int .i64 0)) w3 fun t18 w4 =>
  CondV t18 (
    R (.returned (Value.bool true)) w4) (
    Run Try.prog (sOp (.load 46 (.const t1)) 46) w4 fun t20 w5 =>
  Run Try.prog (sCall (Value.func (.func 33) #[] #[]) [t20]) w5 fun t21 w6 =>
  Run Try.prog (sCall (Value.func (.func 48) #[] #[]) [t21]) w6 fun t22 w7 =>
  Run Try.prog (sOp (.extract (.const t22) 0) 50) w7 fun t23 w8 =>
  Run Try.prog (sOp (.extract (.const t22) 1) 4) w8 fun t24 w9 =>
  Run Try.prog (sOp (.alloc 50) 0) w9 fun t4 w10 =>
  Run Try.prog (sOp (.store 50 (.const t4) (.const t23)) 0) w10 fun _u w11 =>
  Run Try.prog (sOp (.load 46 (.const t1)) 46) w11 fun t25 w12 =>
  Run Try.prog (sCall (Value.func (.func 33) #[] #[]) [t25]) w12 fun t26 w13 =>
  Run Try.prog (sOp (.alloc 50) 0) w13 fun t6 w14 =>
  Run Try.prog (sOp (.store 50 (.const t6) (.const t26)) 0) w14 fun _u w15 =>
  Run Try.prog (sOp (.load 50 (.const t6)) 50) w15 fun t28 w16 =>
  Run Try.prog (sCall (Value.func (.func 49) #[] #[]) [t28]) w16 fun t29 w17 =>
  Run Try.prog (sOp (.extract (.const t29) 0) 50) w17 fun t30 w18 =>
  Run Try.prog (sOp (.extract (.const t29) 1) 4) w18 fun t31 w19 =>
  Run Try.prog (sOp (.alloc 50) 0) w19 fun t7 w20 =>
  Run Try.prog (sOp (.store 50 (.const t7) (.const t30)) 0) w20 fun _u w21 =>
  (∃ J22 : Value → World → Prop, (
    Run Try.prog (sOp (.load 50 (.const t7)) 50) w21 fun t32 w23 =>
    Run Try.prog (sOp (.load 50 (.const t4)) 50) w23 fun t33 w24 =>
    Run Try.prog (sCall (Value.func (.func 35) #[] #[]) [t32, t33]) w24 fun t34 w25 =>
    Run Try.prog (sOp (.unOp .not 4 (.const t34)) 4) w25 fun t35 w26 =>
    GuardV t35 false (
      Run Try.prog (sBin .neq 4 false false t31 t24) w26 fun t39 w27 =>
      Run Try.prog (sOp (.pick (.const t35) (.const (Value.bool true)) (.const t39)) 4) w27 fun t40 w28 =>
      J22 t40 w28) (
      Run Try.prog (sOp (.pick (.const t35) (.const (Value.bool true)) (.const undef)) 4) w26 fun t40_2 w29 =>
      J22 t40_2 w29)) ∧
  ∀ t40_3 _ _ _ _ _ _ _ _ : Value, ∀ w30 : World, J22 t40_3 w30 →
  CondV t40_3 (
    R (.returned (Value.bool false)) w30) (
    (∃ A31 : (Nat → Bool) → Value → Value → Value → Value → Value → World → Prop, A31 (fun _ => false) undef undef undef undef undef { w30 with drawn := w30.drawn + 1 } ∧ (
    (∀ D32 : Nat → Bool, D32 0 = false → ∀ t45 t44 t43 t42 t41 : Value, ∀ w33 : World, A31 D32 t45 t44 t43 t42 t41 w33 →
      Run Try.prog (sOp (.load 50 (.const t6)) 50) w33 fun t41_2 w34 =>
      A31 (setD D32 0) t45 t44 t43 t42 t41_2 w34) ∧
    (∀ D32 : Nat → Bool, D32 1 = false → ∀ t45 t44 t43 t42 t41 : Value, ∀ w35 : World, A31 D32 t45 t44 t43 t42 t41 w35 →
      Run Try.prog (sOp (.load 46 (.const t1)) 46) w35 fun t42_2 w36 =>
      A31 (setD D32 1) t45 t44 t43 t42_2 t41 w36) ∧
    (∀ D32 : Nat → Bool, D32 2 = false → D32 1 = true → ∀ t45 t44 t43 t42 t41 : Value, ∀ w37 : World, A31 D32 t45 t44 t43 t42 t41 w37 →
      Run Try.prog (sCall (Value.func (.func 33) #[] #[]) [t42]) w37 fun t43_2 w38 =>
      A31 (setD D32 2) t45 t44 t43_2 t42 t41 w38) ∧
    (∀ D32 : Nat → Bool, D32 3 = false → D32 0 = true → D32 2 = true → D32 2 = true → ∀ t45 t44 t43 t42 t41 : Value, ∀ w39 : World, A31 D32 t45 t44 t43 t42 t41 w39 →
      Run Try.prog (sCall (Value.func (.func 35) #[] #[]) [t41, t43]) w39 fun t44_2 w40 =>
      A31 (setD D32 3) t45 t44_2 t43 t42 t41 w40) ∧
    (∀ D32 : Nat → Bool, D32 4 = false → D32 3 = true → ∀ t45 t44 t43 t42 t41 : Value, ∀ w41 : World, A31 D32 t45 t44 t43 t42 t41 w41 →
      Run Try.prog (sOp (.unOp .not 4 (.const t44)) 4) w41 fun t45_2 w42 =>
      A31 (setD D32 4) t45_2 t44 t43 t42 t41 w42) ∧
    True) ∧
  ∀ D32 : Nat → Bool, D32 4 = true → D32 3 = true → D32 2 = true → D32 1 = true → D32 0 = true → ∀ t45 t44 t43 t42 t41 : Value, ∀ w43 : World, A31 D32 t45 t44 t43 t42 t41 w43 →
  CondV t45 (
    R (.returned (Value.bool false)) w43) (
    Run Try.prog (sOp (.load 50 (.const t6)) 50) w43 fun t46 w44 =>
  Run Try.prog (sCall (Value.func (.func 50) #[] #[]) [t46, (Value.int .i64 1)]) w44 fun t48 w45 =>
  (∃ J46 : Value → World → Prop, (
    Run Try.prog (sBin .lss 3 false true t48 (Value.int .i64 0)) w45 fun t50 w47 =>
    GuardV t50 false (
      Run Try.prog (sOp (.load 50 (.const t7)) 50) w47 fun t52 w48 =>
      Run Try.prog (sOp (.load 50 (.const t4)) 50) w48 fun t53 w49 =>
      Run Try.prog (sCall (Value.func (.func 35) #[] #[]) [t52, t53]) w49 fun t54 w50 =>
      Run Try.prog (sOp (.unOp .not 4 (.const t54)) 4) w50 fun t55 w51 =>
      Run Try.prog (sOp (.pick (.const t50) (.const (Value.bool true)) (.const t55)) 4) w51 fun t56 w52 =>
      GuardV t56 false (
        Run Try.prog (sBin .neq 4 false false t31 t24) w52 fun t60 w53 =>
        Run Try.prog (sOp (.pick (.const t56) (.const (Value.bool true)) (.const t60)) 4) w53 fun t61 w54 =>
        J46 t61 w54) (
        Run Try.prog (sOp (.pick (.const t56) (.const (Value.bool true)) (.const undef)) 4) w52 fun t61_2 w55 =>
        J46 t61_2 w55)) (
      Run Try.prog (sOp (.pick (.const t50) (.const (Value.bool true)) (.const undef)) 4) w47 fun t56_2 w56 =>
      GuardV t56_2 false (
        Run Try.prog (sBin .neq 4 false false t31 t24) w56 fun t60_2 w57 =>
        Run Try.prog (sOp (.pick (.const t56_2) (.const (Value.bool true)) (.const t60_2)) 4) w57 fun t61_3 w58 =>
        J46 t61_3 w58) (
        Run Try.prog (sOp (.pick (.const t56_2) (.const (Value.bool true)) (.const undef)) 4) w56 fun t61_4 w59 =>
        J46 t61_4 w59))) ∧
  ∀ t61_5 _ _ _ _ _ _ _ _ _ _ _ _ : Value, ∀ w60 : World, J46 t61_5 w60 →
  CondV t61_5 (
    R (.returned (Value.bool false)) w60) (
    Run Try.prog (sOp (.load 50 (.const t7)) 50) w60 fun t62 w61 =>
  Run Try.prog (sCall (Value.func (.func 50) #[] #[]) [t62, (Value.int .i64 1)]) w61 fun t64 w62 =>
  Run Try.prog (sOp (.load 50 (.const t7)) 50) w62 fun t65 w63 =>
  Run Try.prog (sCall (Value.func (.func 51) #[] #[]) [t65, (Value.int .i64 1)]) w63 fun t67 w64 =>
  Run Try.prog (sBin .lss 3 false true t67 (Value.int .i64 0)) w64 fun t69 w65 =>
  CondV t69 (
    R (.returned (Value.bool false)) w65) (
    Run Try.prog (sBin .neq 3 false false t67 t64) w65 fun t72 w66 =>
  CondV t72 (
    R (.returned (Value.bool false)) w66) (
    Run Try.prog (sOp (.load 46 (.const t1)) 46) w66 fun t74 w67 =>
  Run Try.prog (sCall (Value.func (.func 33) #[] #[]) [t74]) w67 fun t75 w68 =>
  Run Try.prog (sCall (Value.func (.func 49) #[] #[]) [t75]) w68 fun t76 w69 =>
  Run Try.prog (sOp (.extract (.const t76) 0) 50) w69 fun t77 w70 =>
  Run Try.prog (sOp (.extract (.const t76) 1) 4) w70 fun t78 w71 =>
  Run Try.prog (sOp (.alloc 50) 0) w71 fun t12 w72 =>
  Run Try.prog (sOp (.store 50 (.const t12) (.const t77)) 0) w72 fun _ w73 =>
  (∃ J74 : Value → World → Prop, (
    Run Try.prog (sOp (.load 50 (.const t12)) 50) w73 fun t79 w75 =>
    Run Try.prog (sOp (.load 50 (.const t4)) 50) w75 fun t80 w76 =>
    Run Try.prog (sCall (Value.func (.func 35) #[] #[]) [t79, t80]) w76 fun t81 w77 =>
    Run Try.prog (sOp (.unOp .not 4 (.const t81)) 4) w77 fun t82 w78 =>
    GuardV t82 false (
      Run Try.prog (sBin .neq 4 false false t78 t24) w78 fun t86 w79 =>
      Run Try.prog (sOp (.pick (.const t82) (.const (Value.bool true)) (.const t86)) 4) w79 fun t87 w80 =>
      J74 t87 w80) (
      Run Try.prog (sOp (.pick (.const t82) (.const (Value.bool true)) (.const undef)) 4) w78 fun t87_2 w81 =>
      J74 t87_2 w81)) ∧
  ∀ t87_3 _ _ _ _ _ _ _ _ : Value, ∀ w82 : World, J74 t87_3 w82 →
  CondV t87_3 (
    R (.returned (Value.bool false)) w82) (
    Run Try.prog (sOp (.load 50 (.const t7)) 50) w82 fun t88 w83 =>
  Run Try.prog (sCall (Value.func (.func 51) #[] #[]) [t88, (Value.int .i64 1)]) w83 fun t90 w84 =>
  Run Try.prog (sBin .lss 3 false true t90 (Value.int .i64 0)) w84 fun t92 w85 =>
  CondV t92 (
    R (.returned (Value.bool false)) w85) (
    Run Try.prog (sBin .neq 3 false false t90 t64) w85 fun t95 w86 =>
  CondV t95 (
    R (.returned (Value.bool false)) w86) (
    R (.returned (Value.bool true)) w86)))))))))))))
theorem calls_l_FnExactRenumberClause {p0 : Value} {w : World} {R : Ending → World → Prop} (h : sh_l_FnExactRenumberClause p0 w R) : Calls Try.prog 9 #[p0] w R :=
  calls_sh (.seq none .leaf (.seq none .leaf (.seq none .leaf (.seq none .leaf (.seq none .leaf (.seq none .leaf (.seq none .leaf (.seq none (.seq (some [40]) .leaf .leaf) (.seq none .leaf (.seq none .leaf (.seq none .leaf (.seq none (.seq (some [61]) .leaf .leaf) (.seq none .leaf (.seq none .leaf (.seq none .leaf (.seq none .leaf (.seq none .leaf (.seq none .leaf (.seq none .leaf (.seq none (.seq (some [87]) .leaf .leaf) .leaf)))))))))))))))))))) [p0] mixed Try.func9 (by kernel_rfl) (by kernel_rfl) h


/- loop.example/prologserver/laws.szTermS : function 15 -/
def sh_l_szTermS (p0 p1 : Value) (w : World) (R : Ending → World → Prop) : Prop :=
  Run Try.prog (sBuiltin .len #[22] 3 [false] [p0]) w fun t8 w1 =>
  Run Try.prog (sBin .sub 3 false false p1 t8) w1 fun t9 w2 =>
  Run Try.prog (sBin .lss 3 false true t9 (Value.int .i64 0)) w2 fun t11 w3 =>
  CondV t11 (
    R (.returned (Value.int .i64 (-1))) w3) (
    (∃ (I4 : Value → Value → World → Prop) (m5 : Value → Value → World → Nat), I4 (Value.int .i64 0) t9 w3 ∧
  ∀ t5 _ _ _ _ _ t1 _ _ _ _ _ _ _ _ _ _ : Value, ∀ w6 : World, I4 t5 t1 w6 →
  Run Try.prog (sBuiltin .len #[22] 3 [false] [p0]) w6 fun t14_2 w7 =>
  Run Try.prog (sBin .lss 3 false false t5 t14_2) w7 fun t15_2 w8 =>
  CondV t15_2 (
    Run Try.prog (sOp (.indexAddr 22 (.const p0) (.const t5)) 0) w8 fun t20_2 w9 =>
  Run Try.prog (sOp (.load 24 (.const t20_2)) 24) w9 fun t21_2 w10 =>
  Run Try.prog (sCall (Value.func (.func 16) #[] #[]) [t21_2, t1]) w10 fun t23_2 w11 =>
  Run Try.prog (sBin .lss 3 false true t23_2 (Value.int .i64 0)) w11 fun t25_2 w12 =>
  CondV t25_2 (
    R (.returned (Value.int .i64 (-1))) w12) (
    Run Try.prog (sBin .add 3 false true t5 (Value.int .i64 1)) w12 fun t17_2 w13 =>
  I4 t17_2 t23_2 w13 ∧ m5 t17_2 t23_2 w13 < m5 t5 t1 w6)) (
    R (.returned t1) w8)))
theorem calls_l_szTermS {p0 p1 : Value} {w : World} {R : Ending → World → Prop} (h : sh_l_szTermS p0 p1 w R) : Calls Try.prog 15 #[p0, p1] w R :=
  calls_sh (.seq none .leaf (.seq none .leaf (.seq none .leaf (.seq none (.seq none .leaf (.one (.loop [5, 1] .leaf))) .leaf)))) [p0, p1] mixed Try.func15 (by kernel_rfl) (by kernel_rfl) h


/- loop.example/prologserver/laws.szTerm : function 16 -/
def sh_l_szTerm (p0 p1 : Value) (w : World) (R : Ending → World → Prop) : Prop :=
  Run Try.prog (sOp (.box 24 (.const p0)) 0) w fun t2 w1 =>
  Run Try.prog (sOp (.fieldAddr 24 (.const t2) 2) 0) w1 fun t6 w2 =>
  Run Try.prog (sOp (.load 9 (.const t6)) 9) w2 fun t7 w3 =>
  Run Try.prog (sBuiltin .len #[9] 3 [false] [t7]) w3 fun t8 w4 =>
  Run Try.prog (sBin .sub 3 false false p1 t8) w4 fun t9 w5 =>
  Run Try.prog (sBin .lss 3 false true t9 (Value.int .i64 0)) w5 fun t11 w6 =>
  CondV t11 (
    R (.returned (Value.int .i64 (-1))) w6) (
    Run Try.prog (sOp (.fieldAddr 24 (.const t2) 3) 0) w6 fun t12 w7 =>
  Run Try.prog (sOp (.load 22 (.const t12)) 22) w7 fun t13 w8 =>
  Run Try.prog (sCall (Value.func (.func 15) #[] #[]) [t13, t9]) w8 fun t15 w9 =>
  Run Try.prog (sBin .lss 3 false true t15 (Value.int .i64 0)) w9 fun t17 w10 =>
  CondV t17 (
    R (.returned (Value.int .i64 (-1))) w10) (
    R (.returned t15) w10))
theorem calls_l_szTerm {p0 p1 : Value} {w : World} {R : Ending → World → Prop} (h : sh_l_szTerm p0 p1 w R) : Calls Try.prog 16 #[p0, p1] w R :=
  calls_sh .leaf [p0, p1] mixed Try.func16 (by kernel_rfl) (by kernel_rfl) h


/- loop.example/prologserver/laws.toTermS : function 18 -/
def sh_l_toTermS (p0 : Value) (w : World) (R : Ending → World → Prop) : Prop :=
  Run Try.prog (sBuiltin .len #[22] 3 [false] [p0]) w fun t6 w1 =>
  Run Try.prog (sOp (.makeSlice 27 (.const t6) (.const t6)) 27) w1 fun t7 w2 =>
  (∃ (I3 : Value → World → Prop) (m4 : Value → World → Nat), I3 (Value.int .i64 0) w2 ∧
  ∀ t4 _ _ _ _ _ _ _ _ _ _ _ _ _ _ : Value, ∀ w5 : World, I3 t4 w5 →
  Run Try.prog (sBuiltin .len #[22] 3 [false] [p0]) w5 fun t10_2 w6 =>
  Run Try.prog (sBin .lss 3 false false t4 t10_2) w6 fun t11_2 w7 =>
  CondV t11_2 (
    Run Try.prog (sOp (.indexAddr 22 (.const p0) (.const t4)) 0) w7 fun t18_2 w8 =>
  Run Try.prog (sOp (.load 24 (.const t18_2)) 24) w8 fun t19_2 w9 =>
  Run Try.prog (sCall (Value.func (.func 19) #[] #[]) [t19_2]) w9 fun t20_2 w10 =>
  Run Try.prog (sOp (.indexAddr 27 (.const t7) (.const t4)) 0) w10 fun t21_2 w11 =>
  Run Try.prog (sOp (.store 31 (.const t21_2) (.const t20_2)) 0) w11 fun _ w12 =>
  Run Try.prog (sBin .add 3 false true t4 (Value.int .i64 1)) w12 fun t13_2 w13 =>
  I3 t13_2 w13 ∧ m4 t13_2 w13 < m4 t4 w5) (
    R (.returned t7) w7))
theorem calls_l_toTermS {p0 : Value} {w : World} {R : Ending → World → Prop} (h : sh_l_toTermS p0 w R) : Calls Try.prog 18 #[p0] w R :=
  calls_sh (.seq none .leaf (.seq none .leaf (.seq none (.seq none .leaf (.one (.loop [4] .leaf))) .leaf))) [p0] mixed Try.func18 (by kernel_rfl) (by kernel_rfl) h


/- loop.example/prologserver/laws.toTerm : function 19 -/
def sh_l_toTerm (p0 : Value) (w : World) (R : Ending → World → Prop) : Prop :=
  Run Try.prog (sOp (.box 24 (.const p0)) 0) w fun t1 w1 =>
  Run Try.prog (sOp (.alloc 31) 0) w1 fun t2 w2 =>
  Run Try.prog (sOp (.alloc 31) 0) w2 fun t3 w3 =>
  Run Try.prog (sOp (.fieldAddr 24 (.const t1) 0) 0) w3 fun t4 w4 =>
  Run Try.prog (sOp (.load 3 (.const t4)) 3) w4 fun t5 w5 =>
  Run Try.prog (sOp (.fieldAddr 31 (.const t3) 0) 0) w5 fun t6 w6 =>
  Run Try.prog (sOp (.store 3 (.const t6) (.const t5)) 0) w6 fun _u w7 =>
  Run Try.prog (sOp (.fieldAddr 24 (.const t1) 1) 0) w7 fun t7 w8 =>
  Run Try.prog (sOp (.load 3 (.const t7)) 3) w8 fun t8 w9 =>
  Run Try.prog (sOp (.fieldAddr 31 (.const t3) 1) 0) w9 fun t9 w10 =>
  Run Try.prog (sOp (.store 3 (.const t9) (.const t8)) 0) w10 fun _u w11 =>
  Run Try.prog (sOp (.fieldAddr 24 (.const t1) 2) 0) w11 fun t10 w12 =>
  Run Try.prog (sOp (.load 9 (.const t10)) 9) w12 fun t11 w13 =>
  Run Try.prog (sOp (.fieldAddr 31 (.const t3) 2) 0) w13 fun t12 w14 =>
  Run Try.prog (sOp (.store 9 (.const t12) (.const t11)) 0) w14 fun _u w15 =>
  Run Try.prog (sOp (.fieldAddr 24 (.const t1) 3) 0) w15 fun t13 w16 =>
  Run Try.prog (sOp (.load 22 (.const t13)) 22) w16 fun t14 w17 =>
  Run Try.prog (sCall (Value.func (.func 18) #[] #[]) [t14]) w17 fun t15 w18 =>
  Run Try.prog (sOp (.fieldAddr 31 (.const t3) 3) 0) w18 fun t16 w19 =>
  Run Try.prog (sOp (.store 27 (.const t16) (.const t15)) 0) w19 fun _u w20 =>
  Run Try.prog (sOp (.load 31 (.const t3)) 31) w20 fun t17 w21 =>
  Run Try.prog (sOp (.store 31 (.const t2) (.const t17)) 0) w21 fun _ w22 =>
  (LoadV Try.prog 31 t2 w22 fun r0 => R (.returned r0) w22)
theorem calls_l_toTerm {p0 : Value} {w : World} {R : Ending → World → Prop} (h : sh_l_toTerm p0 w R) : Calls Try.prog 19 #[p0] w R :=
  calls_sh .leaf [p0] mixed Try.func19 (by kernel_rfl) (by kernel_rfl) h


/- loop.example/prologserver/laws.eqTermS : function 21 -/
def sh_l_eqTermS (p0 p1 : Value) (w : World) (R : Ending → World → Prop) : Prop :=
  Run Try.prog (sBuiltin .len #[27] 3 [false] [p0]) w fun t7 w1 =>
  Run Try.prog (sBuiltin .len #[27] 3 [false] [p1]) w1 fun t9 w2 =>
  Run Try.prog (sBin .neq 3 false false t7 t9) w2 fun t10 w3 =>
  CondV t10 (
    R (.returned (Value.bool false)) w3) (
    (∃ (I4 : Value → World → Prop) (m5 : Value → World → Nat), I4 (Value.int .i64 0) w3 ∧
  ∀ t5 _ _ _ t26 t25 t24 t23 t22 t21 t20 t19 t18 t17 _ _ _ _ : Value, ∀ w6 : World, I4 t5 w6 →
  Run Try.prog (sBuiltin .len #[27] 3 [false] [p0]) w6 fun t13_2 w7 =>
  Run Try.prog (sBin .lss 3 false false t5 t13_2) w7 fun t14_2 w8 =>
  CondV t14_2 (
    (∃ A9 : (Nat → Bool) → Value → Value → Value → Value → Value → Value → Value → Value → Value → Value → World → Prop, A9 (fun _ => false) t26 t25 t24 t23 t22 t21 t20 t19 t18 t17 { w8 with drawn := w8.drawn + 1 } ∧ (
    (∀ D10 : Nat → Bool, D10 0 = false → ∀ t26_2 t25_2 t24_2 t23_2 t22_2 t21_2 t20_2 t19_2 t18_2 t17_2 : Value, ∀ w11 : World, A9 D10 t26_2 t25_2 t24_2 t23_2 t22_2 t21_2 t20_2 t19_2 t18_2 t17_2 w11 →
      A9 (setD D10 0) t26_2 t25_2 t24_2 t23_2 t22_2 t21_2 t20_2 t19_2 t18_2 p0 w11) ∧
    (∀ D10 : Nat → Bool, D10 1 = false → ∀ t26_2 t25_2 t24_2 t23_2 t22_2 t21_2 t20_2 t19_2 t18_2 t17_2 : Value, ∀ w12 : World, A9 D10 t26_2 t25_2 t24_2 t23_2 t22_2 t21_2 t20_2 t19_2 t18_2 t17_2 w12 →
      A9 (setD D10 1) t26_2 t25_2 t24_2 t23_2 t22_2 t21_2 t20_2 t19_2 t5 t17_2 w12) ∧
    (∀ D10 : Nat → Bool, D10 2 = false → D10 0 = true → D10 1 = true → ∀ t26_2 t25_2 t24_2 t23_2 t22_2 t21_2 t20_2 t19_2 t18_2 t17_2 : Value, ∀ w13 : World, A9 D10 t26_2 t25_2 t24_2 t23_2 t22_2 t21_2 t20_2 t19_2 t18_2 t17_2 w13 →
      Run Try.prog (sOp (.indexAddr 27 (.const t17_2) (.const t18_2)) 0) w13 fun t19_3 w14 =>
      A9 (setD D10 2) t26_2 t25_2 t24_2 t23_2 t22_2 t21_2 t20_2 t19_3 t18_2 t17_2 w14) ∧
    (∀ D10 : Nat → Bool, D10 3 = false → D10 2 = true → ∀ t26_2 t25_2 t24_2 t23_2 t22_2 t21_2 t20_2 t19_2 t18_2 t17_2 : Value, ∀ w15 : World, A9 D10 t26_2 t25_2 t24_2 t23_2 t22_2 t21_2 t20_2 t19_2 t18_2 t17_2 w15 →
      Run Try.prog (sOp (.load 31 (.const t19_2)) 31) w15 fun t20_3 w16 =>
      A9 (setD D10 3) t26_2 t25_2 t24_2 t23_2 t22_2 t21_2 t20_3 t19_2 t18_2 t17_2 w16) ∧
    (∀ D10 : Nat → Bool, D10 4 = false → ∀ t26_2 t25_2 t24_2 t23_2 t22_2 t21_2 t20_2 t19_2 t18_2 t17_2 : Value, ∀ w17 : World, A9 D10 t26_2 t25_2 t24_2 t23_2 t22_2 t21_2 t20_2 t19_2 t18_2 t17_2 w17 →
      A9 (setD D10 4) t26_2 t25_2 t24_2 t23_2 t22_2 p1 t20_2 t19_2 t18_2 t17_2 w17) ∧
    (∀ D10 : Nat → Bool, D10 5 = false → ∀ t26_2 t25_2 t24_2 t23_2 t22_2 t21_2 t20_2 t19_2 t18_2 t17_2 : Value, ∀ w18 : World, A9 D10 t26_2 t25_2 t24_2 t23_2 t22_2 t21_2 t20_2 t19_2 t18_2 t17_2 w18 →
      A9 (setD D10 5) t26_2 t25_2 t24_2 t23_2 t5 t21_2 t20_2 t19_2 t18_2 t17_2 w18) ∧
    (∀ D10 : Nat → Bool, D10 6 = false → D10 4 = true → D10 5 = true → ∀ t26_2 t25_2 t24_2 t23_2 t22_2 t21_2 t20_2 t19_2 t18_2 t17_2 : Value, ∀ w19 : World, A9 D10 t26_2 t25_2 t24_2 t23_2 t22_2 t21_2 t20_2 t19_2 t18_2 t17_2 w19 →
      Run Try.prog (sOp (.indexAddr 27 (.const t21_2) (.const t22_2)) 0) w19 fun t23_3 w20 =>
      A9 (setD D10 6) t26_2 t25_2 t24_2 t23_3 t22_2 t21_2 t20_2 t19_2 t18_2 t17_2 w20) ∧
    (∀ D10 : Nat → Bool, D10 7 = false → D10 6 = true → ∀ t26_2 t25_2 t24_2 t23_2 t22_2 t21_2 t20_2 t19_2 t18_2 t17_2 : Value, ∀ w21 : World, A9 D10 t26_2 t25_2 t24_2 t23_2 t22_2 t21_2 t20_2 t19_2 t18_2 t17_2 w21 →
      Run Try.prog (sOp (.load 31 (.const t23_2)) 31) w21 fun t24_3 w22 =>
      A9 (setD D10 7) t26_2 t25_2 t24_3 t23_2 t22_2 t21_2 t20_2 t19_2 t18_2 t17_2 w22) ∧
    (∀ D10 : Nat → Bool, D10 8 = false → D10 3 = true → D10 7 = true → ∀ t26_2 t25_2 t24_2 t23_2 t22_2 t21_2 t20_2 t19_2 t18_2 t17_2 : Value, ∀ w23 : World, A9 D10 t26_2 t25_2 t24_2 t23_2 t22_2 t21_2 t20_2 t19_2 t18_2 t17_2 w23 →
      Run Try.prog (sCall (Value.func (.func 22) #[] #[]) [t20_2, t24_2]) w23 fun t25_3 w24 =>
      A9 (setD D10 8) t26_2 t25_3 t24_2 t23_2 t22_2 t21_2 t20_2 t19_2 t18_2 t17_2 w24) ∧
    (∀ D10 : Nat → Bool, D10 9 = false → D10 8 = true → ∀ t26_2 t25_2 t24_2 t23_2 t22_2 t21_2 t20_2 t19_2 t18_2 t17_2 : Value, ∀ w25 : World, A9 D10 t26_2 t25_2 t24_2 t23_2 t22_2 t21_2 t20_2 t19_2 t18_2 t17_2 w25 →
      Run Try.prog (sOp (.unOp .not 4 (.const t25_2)) 4) w25 fun t26_3 w26 =>
      A9 (setD D10 9) t26_3 t25_2 t24_2 t23_2 t22_2 t21_2 t20_2 t19_2 t18_2 t17_2 w26) ∧
    True) ∧
  ∀ D10 : Nat → Bool, D10 9 = true → D10 8 = true → D10 7 = true → D10 6 = true → D10 5 = true → D10 4 = true → D10 3 = true → D10 2 = true → D10 1 = true → D10 0 = true → ∀ t26_2 t25_2 t24_2 t23_2 t22_2 t21_2 t20_2 t19_2 t18_2 t17_2 : Value, ∀ w27 : World, A9 D10 t26_2 t25_2 t24_2 t23_2 t22_2 t21_2 t20_2 t19_2 t18_2 t17_2 w27 →
  CondV t26_2 (
    R (.returned (Value.bool false)) w27) (
    Run Try.prog (sBin .add 3 false true t5 (Value.int .i64 1)) w27 fun t16_2 w28 =>
  I4 t16_2 w28 ∧ m5 t16_2 w28 < m5 t5 w6))) (
    R (.returned (Value.bool true)) w8)))
theorem calls_l_eqTermS {p0 p1 : Value} {w : World} {R : Ending → World → Prop} (h : sh_l_eqTermS p0 p1 w R) : Calls Try.prog 21 #[p0, p1] w R :=
  calls_sh (.seq none .leaf (.seq none .leaf (.seq none (.seq none .leaf (.one (.loop [5] .leaf))) .leaf))) [p0, p1] mixed Try.func21 (by kernel_rfl) (by kernel_rfl) h


/- loop.example/prologserver/laws.eqTerm : function 22 -/
def sh_l_eqTerm (p0 p1 : Value) (w : World) (R : Ending → World → Prop) : Prop :=
  Run Try.prog (sOp (.box 31 (.const p0)) 0) w fun t2 w1 =>
  Run Try.prog (sOp (.box 31 (.const p1)) 0) w1 fun t3 w2 =>
  Run Try.prog (sOp (.fieldAddr 31 (.const t2) 0) 0) w2 fun t5 w3 =>
  Run Try.prog (sOp (.load 3 (.const t5)) 3) w3 fun t6 w4 =>
  Run Try.prog (sOp (.fieldAddr 31 (.const t3) 0) 0) w4 fun t7 w5 =>
  Run Try.prog (sOp (.load 3 (.const t7)) 3) w5 fun t8 w6 =>
  Run Try.prog (sBin .neq 3 false false t6 t8) w6 fun t9 w7 =>
  CondV t9 (
    R (.returned (Value.bool false)) w7) (
    Run Try.prog (sOp (.fieldAddr 31 (.const t2) 1) 0) w7 fun t10 w8 =>
  Run Try.prog (sOp (.load 3 (.const t10)) 3) w8 fun t11 w9 =>
  Run Try.prog (sOp (.fieldAddr 31 (.const t3) 1) 0) w9 fun t12 w10 =>
  Run Try.prog (sOp (.load 3 (.const t12)) 3) w10 fun t13 w11 =>
  Run Try.prog (sBin .neq 3 false false t11 t13) w11 fun t14 w12 =>
  CondV t14 (
    R (.returned (Value.bool false)) w12) (
    Run Try.prog (sOp (.fieldAddr 31 (.const t2) 2) 0) w12 fun t15 w13 =>
  Run Try.prog (sOp (.load 9 (.const t15)) 9) w13 fun t16 w14 =>
  Run Try.prog (sOp (.fieldAddr 31 (.const t3) 2) 0) w14 fun t17 w15 =>
  Run Try.prog (sOp (.load 9 (.const t17)) 9) w15 fun t18 w16 =>
  Run Try.prog (sBin .neq 9 false false t16 t18) w16 fun t19 w17 =>
  CondV t19 (
    R (.returned (Value.bool false)) w17) (
    Run Try.prog (sOp (.fieldAddr 31 (.const t2) 3) 0) w17 fun t20 w18 =>
  Run Try.prog (sOp (.load 27 (.const t20)) 27) w18 fun t21 w19 =>
  Run Try.prog (sOp (.fieldAddr 31 (.const t3) 3) 0) w19 fun t22 w20 =>
  Run Try.prog (sOp (.load 27 (.const t22)) 27) w20 fun t23 w21 =>
  Run Try.prog (sCall (Value.func (.func 21) #[] #[]) [t21, t23]) w21 fun t24 w22 =>
  Run Try.prog (sOp (.unOp .not 4 (.const t24)) 4) w22 fun t25 w23 =>
  CondV t25 (
    R (.returned (Value.bool false)) w23) (
    R (.returned (Value.bool true)) w23))))
theorem calls_l_eqTerm {p0 p1 : Value} {w : World} {R : Ending → World → Prop} (h : sh_l_eqTerm p0 p1 w R) : Calls Try.prog 22 #[p0, p1] w R :=
  calls_sh .leaf [p0, p1] mixed Try.func22 (by kernel_rfl) (by kernel_rfl) h


/- loop.example/prologserver/laws.markTermS : function 23 -/
def sh_l_markTermS (p0 p1 : Value) (w : World) (R : Ending → World → Prop) : Prop :=
  (∃ (I1 : Value → Value → World → Prop) (m2 : Value → Value → World → Nat), I1 (Value.int .i64 0) p1 w ∧
  ∀ t5 _ _ _ _ _ _ _ _ _ _ _ _ _ _ _ _ _ _ _ _ _ _ _ _ t1 _ _ _ _ _ _ _ _ _ _ _ : Value, ∀ w3 : World, I1 t5 t1 w3 →
  Run Try.prog (sBuiltin .len #[27] 3 [false] [p0]) w3 fun t8_2 w4 =>
  Run Try.prog (sBin .lss 3 false false t5 t8_2) w4 fun t9_2 w5 =>
  CondV t9_2 (
    Run Try.prog (sOp (.indexAddr 27 (.const p0) (.const t5)) 0) w5 fun t15_2 w6 =>
  Run Try.prog (sOp (.fieldAddr 31 (.const t15_2) 0) 0) w6 fun t16_2 w7 =>
  Run Try.prog (sOp (.store 3 (.const t16_2) (.const t1)) 0) w7 fun _u w8 =>
  Run Try.prog (sBin .add 3 false true t1 (Value.int .i64 1)) w8 fun t18_2 w9 =>
  Run Try.prog (sOp (.indexAddr 27 (.const p0) (.const t5)) 0) w9 fun t22_2 w10 =>
  Run Try.prog (sOp (.fieldAddr 31 (.const t22_2) 1) 0) w10 fun t23_2 w11 =>
  Run Try.prog (sOp (.store 3 (.const t23_2) (.const t18_2)) 0) w11 fun _u w12 =>
  Run Try.prog (sBin .add 3 false true t18_2 (Value.int .i64 1)) w12 fun t25_2 w13 =>
  Run Try.prog (sCall (Value.func (.func 70) #[] #[]) [t25_2]) w13 fun t29_2 w14 =>
  Run Try.prog (sOp (.indexAddr 27 (.const p0) (.const t5)) 0) w14 fun t30_2 w15 =>
  Run Try.prog (sOp (.fieldAddr 31 (.const t30_2) 2) 0) w15 fun t31_2 w16 =>
  Run Try.prog (sOp (.store 9 (.const t31_2) (.const t29_2)) 0) w16 fun _ w17 =>
  Run Try.prog (sBin .add 3 false true t25_2 (Value.int .i64 1)) w17 fun t33_2 w18 =>
  Run Try.prog (sOp (.indexAddr 27 (.const p0) (.const t5)) 0) w18 fun t36_2 w19 =>
  Run Try.prog (sOp (.fieldAddr 31 (.const t36_2) 3) 0) w19 fun t37_2 w20 =>
  Run Try.prog (sOp (.load 27 (.const t37_2)) 27) w20 fun t38_2 w21 =>
  Run Try.prog (sCall (Value.func (.func 23) #[] #[]) [t38_2, t33_2]) w21 fun t40_2 w22 =>
  Run Try.prog (sBin .add 3 false true t5 (Value.int .i64 1)) w22 fun t11_2 w23 =>
  I1 t11_2 t40_2 w23 ∧ m2 t11_2 t40_2 w23 < m2 t5 t1 w3) (
    R (.returned t1) w5))
theorem calls_l_markTermS {p0 p1 : Value} {w : World} {R : Ending → World → Prop} (h : sh_l_markTermS p0 p1 w R) : Calls Try.prog 23 #[p0, p1] w R :=
  calls_sh (.seq none .leaf (.seq none (.seq none .leaf (.one (.loop [5, 1] .leaf))) .leaf)) [p0, p1] mixed Try.func23 (by kernel_rfl) (by kernel_rfl) h


/- loop.example/prologserver/laws.markTerm : function 24 -/
def sh_l_markTerm (p0 p1 : Value) (w : World) (R : Ending → World → Prop) : Prop :=
  Run Try.prog (sOp (.box 31 (.const p0)) 0) w fun t2 w1 =>
  Run Try.prog (sOp (.fieldAddr 31 (.const t2) 3) 0) w1 fun t5 w2 =>
  Run Try.prog (sOp (.load 27 (.const t5)) 27) w2 fun t6 w3 =>
  Run Try.prog (sCall (Value.func (.func 23) #[] #[]) [t6, p1]) w3 fun t8 w4 =>
  R (.returned t8) w4
theorem calls_l_markTerm {p0 p1 : Value} {w : World} {R : Ending → World → Prop} (h : sh_l_markTerm p0 p1 w R) : Calls Try.prog 24 #[p0, p1] w R :=
  calls_sh .leaf [p0, p1] mixed Try.func24 (by kernel_rfl) (by kernel_rfl) h


/- loop.example/prologserver/laws.heldTermS : function 25 -/
def sh_l_heldTermS (p0 p1 : Value) (w : World) (R : Ending → World → Prop) : Prop :=
  (∃ (I1 : Value → Value → World → Prop) (m2 : Value → Value → World → Nat), I1 (Value.int .i64 0) p1 w ∧
  ∀ t5 _ _ _ _ _ _ _ _ _ _ _ _ _ t37 t36 t35 t34 t33 t32 t31 t30 _ _ _ _ _ _ _ _ _ t1 _ _ _ _ _ _ _ _ _ _ _ _ _ _ : Value, ∀ w3 : World, I1 t5 t1 w3 →
  Run Try.prog (sBuiltin .len #[27] 3 [false] [p0]) w3 fun t8_2 w4 =>
  Run Try.prog (sBin .lss 3 false false t5 t8_2) w4 fun t9_2 w5 =>
  CondV t9_2 (
    Run Try.prog (sOp (.indexAddr 27 (.const p0) (.const t5)) 0) w5 fun t14_2 w6 =>
  Run Try.prog (sOp (.fieldAddr 31 (.const t14_2) 0) 0) w6 fun t15_2 w7 =>
  Run Try.prog (sOp (.load 3 (.const t15_2)) 3) w7 fun t16_2 w8 =>
  Run Try.prog (sBin .neq 3 false false t16_2 t1) w8 fun t18_2 w9 =>
  CondV t18_2 (
    R (.returned (Value.int .i64 (-1))) w9) (
    Run Try.prog (sBin .add 3 false true t1 (Value.int .i64 1)) w9 fun t20_2 w10 =>
  Run Try.prog (sOp (.indexAddr 27 (.const p0) (.const t5)) 0) w10 fun t23_2 w11 =>
  Run Try.prog (sOp (.fieldAddr 31 (.const t23_2) 1) 0) w11 fun t24_2 w12 =>
  Run Try.prog (sOp (.load 3 (.const t24_2)) 3) w12 fun t25_2 w13 =>
  Run Try.prog (sBin .neq 3 false false t25_2 t20_2) w13 fun t27_2 w14 =>
  CondV t27_2 (
    R (.returned (Value.int .i64 (-1))) w14) (
    Run Try.prog (sBin .add 3 false true t20_2 (Value.int .i64 1)) w14 fun t29_2 w15 =>
  (∃ A16 : (Nat → Bool) → Value → Value → Value → Value → Value → Value → Value → Value → World → Prop, A16 (fun _ => false) t37 t36 t35 t34 t33 t32 t31 t30 { w15 with drawn := w15.drawn + 1 } ∧ (
    (∀ D17 : Nat → Bool, D17 0 = false → ∀ t37_2 t36_2 t35_2 t34_2 t33_2 t32_2 t31_2 t30_2 : Value, ∀ w18 : World, A16 D17 t37_2 t36_2 t35_2 t34_2 t33_2 t32_2 t31_2 t30_2 w18 →
      A16 (setD D17 0) t37_2 t36_2 t35_2 t34_2 t33_2 t32_2 t31_2 p0 w18) ∧
    (∀ D17 : Nat → Bool, D17 1 = false → ∀ t37_2 t36_2 t35_2 t34_2 t33_2 t32_2 t31_2 t30_2 : Value, ∀ w19 : World, A16 D17 t37_2 t36_2 t35_2 t34_2 t33_2 t32_2 t31_2 t30_2 w19 →
      A16 (setD D17 1) t37_2 t36_2 t35_2 t34_2 t33_2 t32_2 t5 t30_2 w19) ∧
    (∀ D17 : Nat → Bool, D17 2 = false → D17 0 = true → D17 1 = true → ∀ t37_2 t36_2 t35_2 t34_2 t33_2 t32_2 t31_2 t30_2 : Value, ∀ w20 : World, A16 D17 t37_2 t36_2 t35_2 t34_2 t33_2 t32_2 t31_2 t30_2 w20 →
      Run Try.prog (sOp (.indexAddr 27 (.const t30_2) (.const t31_2)) 0) w20 fun t32_3 w21 =>
      A16 (setD D17 2) t37_2 t36_2 t35_2 t34_2 t33_2 t32_3 t31_2 t30_2 w21) ∧
    (∀ D17 : Nat → Bool, D17 3 = false → D17 2 = true → ∀ t37_2 t36_2 t35_2 t34_2 t33_2 t32_2 t31_2 t30_2 : Value, ∀ w22 : World, A16 D17 t37_2 t36_2 t35_2 t34_2 t33_2 t32_2 t31_2 t30_2 w22 →
      Run Try.prog (sOp (.fieldAddr 31 (.const t32_2) 2) 0) w22 fun t33_3 w23 =>
      A16 (setD D17 3) t37_2 t36_2 t35_2 t34_2 t33_3 t32_2 t31_2 t30_2 w23) ∧
    (∀ D17 : Nat → Bool, D17 4 = false → D17 3 = true → ∀ t37_2 t36_2 t35_2 t34_2 t33_2 t32_2 t31_2 t30_2 : Value, ∀ w24 : World, A16 D17 t37_2 t36_2 t35_2 t34_2 t33_2 t32_2 t31_2 t30_2 w24 →
      Run Try.prog (sOp (.load 9 (.const t33_2)) 9) w24 fun t34_3 w25 =>
      A16 (setD D17 4) t37_2 t36_2 t35_2 t34_3 t33_2 t32_2 t31_2 t30_2 w25) ∧
    (∀ D17 : Nat → Bool, D17 5 = false → ∀ t37_2 t36_2 t35_2 t34_2 t33_2 t32_2 t31_2 t30_2 : Value, ∀ w26 : World, A16 D17 t37_2 t36_2 t35_2 t34_2 t33_2 t32_2 t31_2 t30_2 w26 →
      A16 (setD D17 5) t37_2 t36_2 t29_2 t34_2 t33_2 t32_2 t31_2 t30_2 w26) ∧
    (∀ D17 : Nat → Bool, D17 6 = false → D17 5 = true → ∀ t37_2 t36_2 t35_2 t34_2 t33_2 t32_2 t31_2 t30_2 : Value, ∀ w27 : World, A16 D17 t37_2 t36_2 t35_2 t34_2 t33_2 t32_2 t31_2 t30_2 w27 →
      Run Try.prog (sCall (Value.func (.func 70) #[] #[]) [t35_2]) w27 fun t36_3 w28 =>
      A16 (setD D17 6) t37_2 t36_3 t35_2 t34_2 t33_2 t32_2 t31_2 t30_2 w28) ∧
    (∀ D17 : Nat → Bool, D17 7 = false → D17 4 = true → D17 6 = true → ∀ t37_2 t36_2 t35_2 t34_2 t33_2 t32_2 t31_2 t30_2 : Value, ∀ w29 : World, A16 D17 t37_2 t36_2 t35_2 t34_2 t33_2 t32_2 t31_2 t30_2 w29 →
      Run Try.prog (sBin .neq 9 false false t34_2 t36_2) w29 fun t37_3 w30 =>
      A16 (setD D17 7) t37_3 t36_2 t35_2 t34_2 t33_2 t32_2 t31_2 t30_2 w30) ∧
    True) ∧
  ∀ D17 : Nat → Bool, D17 7 = true → D17 6 = true → D17 5 = true → D17 4 = true → D17 3 = true → D17 2 = true → D17 1 = true → D17 0 = true → ∀ t37_2 t36_2 t35_2 t34_2 t33_2 t32_2 t31_2 t30_2 : Value, ∀ w31 : World, A16 D17 t37_2 t36_2 t35_2 t34_2 t33_2 t32_2 t31_2 t30_2 w31 →
  CondV t37_2 (
    R (.returned (Value.int .i64 (-1))) w31) (
    Run Try.prog (sBin .add 3 false true t29_2 (Value.int .i64 1)) w31 fun t39_2 w32 =>
  Run Try.prog (sOp (.indexAddr 27 (.const p0) (.const t5)) 0) w32 fun t42_2 w33 =>
  Run Try.prog (sOp (.fieldAddr 31 (.const t42_2) 3) 0) w33 fun t43_2 w34 =>
  Run Try.prog (sOp (.load 27 (.const t43_2)) 27) w34 fun t44_2 w35 =>
  Run Try.prog (sCall (Value.func (.func 25) #[] #[]) [t44_2, t39_2]) w35 fun t46_2 w36 =>
  Run Try.prog (sBin .lss 3 false true t46_2 (Value.int .i64 0)) w36 fun t48_2 w37 =>
  CondV t48_2 (
    R (.returned (Value.int .i64 (-1))) w37) (
    Run Try.prog (sBin .add 3 false true t5 (Value.int .i64 1)) w37 fun t11_2 w38 =>
  I1 t11_2 t46_2 w38 ∧ m2 t11_2 t46_2 w38 < m2 t5 t1 w3)))))) (
    R (.returned t1) w5))
theorem calls_l_heldTermS {p0 p1 : Value} {w : World} {R : Ending → World → Prop} (h : sh_l_heldTermS p0 p1 w R) : Calls Try.prog 25 #[p0, p1] w R :=
  calls_sh (.seq none .leaf (.seq none (.seq none .leaf (.one (.loop [5, 1] .leaf))) .leaf)) [p0, p1] mixed Try.func25 (by kernel_rfl) (by kernel_rfl) h


/- loop.example/prologserver/laws.szClauseS : function 26 -/
def sh_l_szClauseS (p0 p1 : Value) (w : World) (R : Ending → World → Prop) : Prop :=
  Run Try.prog (sBuiltin .len #[38] 3 [false] [p0]) w fun t8 w1 =>
  Run Try.prog (sBin .sub 3 false false p1 t8) w1 fun t9 w2 =>
  Run Try.prog (sBin .lss 3 false true t9 (Value.int .i64 0)) w2 fun t11 w3 =>
  CondV t11 (
    R (.returned (Value.int .i64 (-1))) w3) (
    (∃ (I4 : Value → Value → World → Prop) (m5 : Value → Value → World → Nat), I4 (Value.int .i64 0) t9 w3 ∧
  ∀ t5 _ _ _ _ _ t1 _ _ _ _ _ _ _ _ _ _ : Value, ∀ w6 : World, I4 t5 t1 w6 →
  Run Try.prog (sBuiltin .len #[38] 3 [false] [p0]) w6 fun t14_2 w7 =>
  Run Try.prog (sBin .lss 3 false false t5 t14_2) w7 fun t15_2 w8 =>
  CondV t15_2 (
    Run Try.prog (sOp (.indexAddr 38 (.const p0) (.const t5)) 0) w8 fun t20_2 w9 =>
  Run Try.prog (sOp (.load 46 (.const t20_2)) 46) w9 fun t21_2 w10 =>
  Run Try.prog (sCall (Value.func (.func 31) #[] #[]) [t21_2, t1]) w10 fun t23_2 w11 =>
  Run Try.prog (sBin .lss 3 false true t23_2 (Value.int .i64 0)) w11 fun t25_2 w12 =>
  CondV t25_2 (
    R (.returned (Value.int .i64 (-1))) w12) (
    Run Try.prog (sBin .add 3 false true t5 (Value.int .i64 1)) w12 fun t17_2 w13 =>
  I4 t17_2 t23_2 w13 ∧ m5 t17_2 t23_2 w13 < m5 t5 t1 w6)) (
    R (.returned t1) w8)))
theorem calls_l_szClauseS {p0 p1 : Value} {w : World} {R : Ending → World → Prop} (h : sh_l_szClauseS p0 p1 w R) : Calls Try.prog 26 #[p0, p1] w R :=
  calls_sh (.seq none .leaf (.seq none .leaf (.seq none .leaf (.seq none (.seq none .leaf (.one (.loop [5, 1] .leaf))) .leaf)))) [p0, p1] mixed Try.func26 (by kernel_rfl) (by kernel_rfl) h


/- loop.example/prologserver/laws.toClauseS : function 28 -/
def sh_l_toClauseS (p0 : Value) (w : World) (R : Ending → World → Prop) : Prop :=
  Run Try.prog (sBuiltin .len #[38] 3 [false] [p0]) w fun t6 w1 =>
  Run Try.prog (sOp (.makeSlice 41 (.const t6) (.const t6)) 41) w1 fun t7 w2 =>
  (∃ (I3 : Value → World → Prop) (m4 : Value → World → Nat), I3 (Value.int .i64 0) w2 ∧
  ∀ t4 _ _ _ _ _ _ _ _ _ _ _ _ _ _ : Value, ∀ w5 : World, I3 t4 w5 →
  Run Try.prog (sBuiltin .len #[38] 3 [false] [p0]) w5 fun t10_2 w6 =>
  Run Try.prog (sBin .lss 3 false false t4 t10_2) w6 fun t11_2 w7 =>
  CondV t11_2 (
    Run Try.prog (sOp (.indexAddr 38 (.const p0) (.const t4)) 0) w7 fun t18_2 w8 =>
  Run Try.prog (sOp (.load 46 (.const t18_2)) 46) w8 fun t19_2 w9 =>
  Run Try.prog (sCall (Value.func (.func 33) #[] #[]) [t19_2]) w9 fun t20_2 w10 =>
  Run Try.prog (sOp (.indexAddr 41 (.const t7) (.const t4)) 0) w10 fun t21_2 w11 =>
  Run Try.prog (sOp (.store 50 (.const t21_2) (.const t20_2)) 0) w11 fun _ w12 =>
  Run Try.prog (sBin .add 3 false true t4 (Value.int .i64 1)) w12 fun t13_2 w13 =>
  I3 t13_2 w13 ∧ m4 t13_2 w13 < m4 t4 w5) (
    R (.returned t7) w7))
theorem calls_l_toClauseS {p0 : Value} {w : World} {R : Ending → World → Prop} (h : sh_l_toClauseS p0 w R) : Calls Try.prog 28 #[p0] w R :=
  calls_sh (.seq none .leaf (.seq none .leaf (.seq none (.seq none .leaf (.one (.loop [4] .leaf))) .leaf))) [p0] mixed Try.func28 (by kernel_rfl) (by kernel_rfl) h


/- loop.example/prologserver/laws.eqClauseS : function 30 -/
def sh_l_eqClauseS (p0 p1 : Value) (w : World) (R : Ending → World → Prop) : Prop :=
  Run Try.prog (sBuiltin .len #[41] 3 [false] [p0]) w fun t7 w1 =>
  Run Try.prog (sBuiltin .len #[41] 3 [false] [p1]) w1 fun t9 w2 =>
  Run Try.prog (sBin .neq 3 false false t7 t9) w2 fun t10 w3 =>
  CondV t10 (
    R (.returned (Value.bool false)) w3) (
    (∃ (I4 : Value → World → Prop) (m5 : Value → World → Nat), I4 (Value.int .i64 0) w3 ∧
  ∀ t5 _ _ _ t26 t25 t24 t23 t22 t21 t20 t19 t18 t17 _ _ _ _ : Value, ∀ w6 : World, I4 t5 w6 →
  Run Try.prog (sBuiltin .len #[41] 3 [false] [p0]) w6 fun t13_2 w7 =>
  Run Try.prog (sBin .lss 3 false false t5 t13_2) w7 fun t14_2 w8 =>
  CondV t14_2 (
    (∃ A9 : (Nat → Bool) → Value → Value → Value → Value → Value → Value → Value → Value → Value → Value → World → Prop, A9 (fun _ => false) t26 t25 t24 t23 t22 t21 t20 t19 t18 t17 { w8 with drawn := w8.drawn + 1 } ∧ (
    (∀ D10 : Nat → Bool, D10 0 = false → ∀ t26_2 t25_2 t24_2 t23_2 t22_2 t21_2 t20_2 t19_2 t18_2 t17_2 : Value, ∀ w11 : World, A9 D10 t26_2 t25_2 t24_2 t23_2 t22_2 t21_2 t20_2 t19_2 t18_2 t17_2 w11 →
      A9 (setD D10 0) t26_2 t25_2 t24_2 t23_2 t22_2 t21_2 t20_2 t19_2 t18_2 p0 w11) ∧
    (∀ D10 : Nat → Bool, D10 1 = false → ∀ t26_2 t25_2 t24_2 t23_2 t22_2 t21_2 t20_2 t19_2 t18_2 t17_2 : Value, ∀ w12 : World, A9 D10 t26_2 t25_2 t24_2 t23_2 t22_2 t21_2 t20_2 t19_2 t18_2 t17_2 w12 →
      A9 (setD D10 1) t26_2 t25_2 t24_2 t23_2 t22_2 t21_2 t20_2 t19_2 t5 t17_2 w12) ∧
    (∀ D10 : Nat → Bool, D10 2 = false → D10 0 = true → D10 1 = true → ∀ t26_2 t25_2 t24_2 t23_2 t22_2 t21_2 t20_2 t19_2 t18_2 t17_2 : Value, ∀ w13 : World, A9 D10 t26_2 t25_2 t24_2 t23_2 t22_2 t21_2 t20_2 t19_2 t18_2 t17_2 w13 →
      Run Try.prog (sOp (.indexAddr 41 (.const t17_2) (.const t18_2)) 0) w13 fun t19_3 w14 =>
      A9 (setD D10 2) t26_2 t25_2 t24_2 t23_2 t22_2 t21_2 t20_2 t19_3 t18_2 t17_2 w14) ∧
    (∀ D10 : Nat → Bool, D10 3 = false → D10 2 = true → ∀ t26_2 t25_2 t24_2 t23_2 t22_2 t21_2 t20_2 t19_2 t18_2 t17_2 : Value, ∀ w15 : World, A9 D10 t26_2 t25_2 t24_2 t23_2 t22_2 t21_2 t20_2 t19_2 t18_2 t17_2 w15 →
      Run Try.prog (sOp (.load 50 (.const t19_2)) 50) w15 fun t20_3 w16 =>
      A9 (setD D10 3) t26_2 t25_2 t24_2 t23_2 t22_2 t21_2 t20_3 t19_2 t18_2 t17_2 w16) ∧
    (∀ D10 : Nat → Bool, D10 4 = false → ∀ t26_2 t25_2 t24_2 t23_2 t22_2 t21_2 t20_2 t19_2 t18_2 t17_2 : Value, ∀ w17 : World, A9 D10 t26_2 t25_2 t24_2 t23_2 t22_2 t21_2 t20_2 t19_2 t18_2 t17_2 w17 →
      A9 (setD D10 4) t26_2 t25_2 t24_2 t23_2 t22_2 p1 t20_2 t19_2 t18_2 t17_2 w17) ∧
    (∀ D10 : Nat → Bool, D10 5 = false → ∀ t26_2 t25_2 t24_2 t23_2 t22_2 t21_2 t20_2 t19_2 t18_2 t17_2 : Value, ∀ w18 : World, A9 D10 t26_2 t25_2 t24_2 t23_2 t22_2 t21_2 t20_2 t19_2 t18_2 t17_2 w18 →
      A9 (setD D10 5) t26_2 t25_2 t24_2 t23_2 t5 t21_2 t20_2 t19_2 t18_2 t17_2 w18) ∧
    (∀ D10 : Nat → Bool, D10 6 = false → D10 4 = true → D10 5 = true → ∀ t26_2 t25_2 t24_2 t23_2 t22_2 t21_2 t20_2 t19_2 t18_2 t17_2 : Value, ∀ w19 : World, A9 D10 t26_2 t25_2 t24_2 t23_2 t22_2 t21_2 t20_2 t19_2 t18_2 t17_2 w19 →
      Run Try.prog (sOp (.indexAddr 41 (.const t21_2) (.const t22_2)) 0) w19 fun t23_3 w20 =>
      A9 (setD D10 6) t26_2 t25_2 t24_2 t23_3 t22_2 t21_2 t20_2 t19_2 t18_2 t17_2 w20) ∧
    (∀ D10 : Nat → Bool, D10 7 = false → D10 6 = true → ∀ t26_2 t25_2 t24_2 t23_2 t22_2 t21_2 t20_2 t19_2 t18_2 t17_2 : Value, ∀ w21 : World, A9 D10 t26_2 t25_2 t24_2 t23_2 t22_2 t21_2 t20_2 t19_2 t18_2 t17_2 w21 →
      Run Try.prog (sOp (.load 50 (.const t23_2)) 50) w21 fun t24_3 w22 =>
      A9 (setD D10 7) t26_2 t25_2 t24_3 t23_2 t22_2 t21_2 t20_2 t19_2 t18_2 t17_2 w22) ∧
    (∀ D10 : Nat → Bool, D10 8 = false → D10 3 = true → D10 7 = true → ∀ t26_2 t25_2 t24_2 t23_2 t22_2 t21_2 t20_2 t19_2 t18_2 t17_2 : Value, ∀ w23 : World, A9 D10 t26_2 t25_2 t24_2 t23_2 t22_2 t21_2 t20_2 t19_2 t18_2 t17_2 w23 →
      Run Try.prog (sCall (Value.func (.func 35) #[] #[]) [t20_2, t24_2]) w23 fun t25_3 w24 =>
      A9 (setD D10 8) t26_2 t25_3 t24_2 t23_2 t22_2 t21_2 t20_2 t19_2 t18_2 t17_2 w24) ∧
    (∀ D10 : Nat → Bool, D10 9 = false → D10 8 = true → ∀ t26_2 t25_2 t24_2 t23_2 t22_2 t21_2 t20_2 t19_2 t18_2 t17_2 : Value, ∀ w25 : World, A9 D10 t26_2 t25_2 t24_2 t23_2 t22_2 t21_2 t20_2 t19_2 t18_2 t17_2 w25 →
      Run Try.prog (sOp (.unOp .not 4 (.const t25_2)) 4) w25 fun t26_3 w26 =>
      A9 (setD D10 9) t26_3 t25_2 t24_2 t23_2 t22_2 t21_2 t20_2 t19_2 t18_2 t17_2 w26) ∧
    True) ∧
  ∀ D10 : Nat → Bool, D10 9 = true → D10 8 = true → D10 7 = true → D10 6 = true → D10 5 = true → D10 4 = true → D10 3 = true → D10 2 = true → D10 1 = true → D10 0 = true → ∀ t26_2 t25_2 t24_2 t23_2 t22_2 t21_2 t20_2 t19_2 t18_2 t17_2 : Value, ∀ w27 : World, A9 D10 t26_2 t25_2 t24_2 t23_2 t22_2 t21_2 t20_2 t19_2 t18_2 t17_2 w27 →
  CondV t26_2 (
    R (.returned (Value.bool false)) w27) (
    Run Try.prog (sBin .add 3 false true t5 (Value.int .i64 1)) w27 fun t16_2 w28 =>
  I4 t16_2 w28 ∧ m5 t16_2 w28 < m5 t5 w6))) (
    R (.returned (Value.bool true)) w8)))
theorem calls_l_eqClauseS {p0 p1 : Value} {w : World} {R : Ending → World → Prop} (h : sh_l_eqClauseS p0 p1 w R) : Calls Try.prog 30 #[p0, p1] w R :=
  calls_sh (.seq none .leaf (.seq none .leaf (.seq none (.seq none .leaf (.one (.loop [5] .leaf))) .leaf))) [p0, p1] mixed Try.func30 (by kernel_rfl) (by kernel_rfl) h


/- loop.example/prologserver/laws.szClause : function 31 -/
def sh_l_szClause (p0 p1 : Value) (w : World) (R : Ending → World → Prop) : Prop :=
  Run Try.prog (sOp (.box 46 (.const p0)) 0) w fun t2 w1 =>
  Run Try.prog (sOp (.fieldAddr 46 (.const t2) 0) 0) w1 fun t5 w2 =>
  Run Try.prog (sOp (.load 24 (.const t5)) 24) w2 fun t6 w3 =>
  Run Try.prog (sCall (Value.func (.func 16) #[] #[]) [t6, p1]) w3 fun t8 w4 =>
  Run Try.prog (sBin .lss 3 false true t8 (Value.int .i64 0)) w4 fun t10 w5 =>
  CondV t10 (
    R (.returned (Value.int .i64 (-1))) w5) (
    Run Try.prog (sOp (.fieldAddr 46 (.const t2) 1) 0) w5 fun t11 w6 =>
  Run Try.prog (sOp (.load 22 (.const t11)) 22) w6 fun t12 w7 =>
  Run Try.prog (sCall (Value.func (.func 15) #[] #[]) [t12, t8]) w7 fun t14 w8 =>
  Run Try.prog (sBin .lss 3 false true t14 (Value.int .i64 0)) w8 fun t16 w9 =>
  CondV t16 (
    R (.returned (Value.int .i64 (-1))) w9) (
    R (.returned t14) w9))
theorem calls_l_szClause {p0 p1 : Value} {w : World} {R : Ending → World → Prop} (h : sh_l_szClause p0 p1 w R) : Calls Try.prog 31 #[p0, p1] w R :=
  calls_sh .leaf [p0, p1] mixed Try.func31 (by kernel_rfl) (by kernel_rfl) h


/- loop.example/prologserver/spec.SubsumedClause : function 32 -/
def sh_s_SubsumedClause (p0 p1 : Value) (w : World) (R : Ending → World → Prop) : Prop :=
  Run Try.prog (sOp (.box 50 (.const p0)) 0) w fun t2 w1 =>
  Run Try.prog (sOp (.box 50 (.const p1)) 0) w1 fun t3 w2 =>
  (∃ J3 : Value → World → Prop, (
    Run Try.prog (sOp (.load 50 (.const t2)) 50) w2 fun t7 w4 =>
    Run Try.prog (sCall (Value.func (.func 84) #[] #[]) [t7]) w4 fun t8 w5 =>
    Run Try.prog (sOp (.unOp .not 4 (.const t8)) 4) w5 fun t9 w6 =>
    GuardV t9 false (
      Run Try.prog (sOp (.load 50 (.const t3)) 50) w6 fun t11 w7 =>
      Run Try.prog (sCall (Value.func (.func 84) #[] #[]) [t11]) w7 fun t12 w8 =>
      Run Try.prog (sOp (.unOp .not 4 (.const t12)) 4) w8 fun t13 w9 =>
      Run Try.prog (sOp (.pick (.const t9) (.const (Value.bool true)) (.const t13)) 4) w9 fun t14 w10 =>
      GuardV t14 false (
        Run Try.prog (sOp (.fieldAddr 50 (.const t3) 1) 0) w10 fun t16 w11 =>
        Run Try.prog (sOp (.load 27 (.const t16)) 27) w11 fun t17 w12 =>
        Run Try.prog (sBuiltin .len #[27] 3 [false] [t17]) w12 fun t18 w13 =>
        Run Try.prog (sOp (.fieldAddr 50 (.const t2) 1) 0) w13 fun t19 w14 =>
        Run Try.prog (sOp (.load 27 (.const t19)) 27) w14 fun t20 w15 =>
        Run Try.prog (sBuiltin .len #[27] 3 [false] [t20]) w15 fun t21 w16 =>
        Run Try.prog (sBin .gtr 3 false false t18 t21) w16 fun t22 w17 =>
        Run Try.prog (sOp (.pick (.const t14) (.const (Value.bool true)) (.const t22)) 4) w17 fun t23 w18 =>
        J3 t23 w18) (
        Run Try.prog (sOp (.pick (.const t14) (.const (Value.bool true)) (.const undef)) 4) w10 fun t23_2 w19 =>
        J3 t23_2 w19)) (
      Run Try.prog (sOp (.pick (.const t9) (.const (Value.bool true)) (.const undef)) 4) w6 fun t14_2 w20 =>
      GuardV t14_2 false (
        Run Try.prog (sOp (.fieldAddr 50 (.const t3) 1) 0) w20 fun t16_2 w21 =>
        Run Try.prog (sOp (.load 27 (.const t16_2)) 27) w21 fun t17_2 w22 =>
        Run Try.prog (sBuiltin .len #[27] 3 [false] [t17_2]) w22 fun t18_2 w23 =>
        Run Try.prog (sOp (.fieldAddr 50 (.const t2) 1) 0) w23 fun t19_2 w24 =>
        Run Try.prog (sOp (.load 27 (.const t19_2)) 27) w24 fun t20_2 w25 =>
        Run Try.prog (sBuiltin .len #[27] 3 [false] [t20_2]) w25 fun t21_2 w26 =>
        Run Try.prog (sBin .gtr 3 false false t18_2 t21_2) w26 fun t22_2 w27 =>
        Run Try.prog (sOp (.pick (.const t14_2) (.const (Value.bool true)) (.const t22_2)) 4) w27 fun t23_3 w28 =>
        J3 t23_3 w28) (
        Run Try.prog (sOp (.pick (.const t14_2) (.const (Value.bool true)) (.const undef)) 4) w20 fun t23_4 w29 =>
        J3 t23_4 w29))) ∧
  ∀ t23_5 _ _ _ _ _ _ _ _ _ _ _ _ _ _ _ _ : Value, ∀ w30 : World, J3 t23_5 w30 →
  CondV t23_5 (
    R (.returned (Value.bool false)) w30) (
    Run Try.prog (sOp (.makeSlice 27 (.const (Value.int .i64 26)) (.const (Value.int .i64 26))) 27) w30 fun t24 w31 =>
  Run Try.prog (sOp (.fieldAddr 50 (.const t3) 0) 0) w31 fun t25 w32 =>
  Run Try.prog (sOp (.load 31 (.const t25)) 31) w32 fun t26 w33 =>
  Run Try.prog (sOp (.fieldAddr 50 (.const t2) 0) 0) w33 fun t27 w34 =>
  Run Try.prog (sOp (.load 31 (.const t27)) 31) w34 fun t28 w35 =>
  Run Try.prog (sCall (Value.func (.func 85) #[] #[]) [t26, t28, t24]) w35 fun t30 w36 =>
  Run Try.prog (sOp (.unOp .not 4 (.const t30)) 4) w36 fun t31 w37 =>
  CondV t31 (
    R (.returned (Value.bool false)) w37) (
    (∃ (I38 : Value → World → Prop) (m39 : Value → World → Nat), I38 (Value.int .i64 0) w37 ∧
  ∀ t6 _ _ _ t51 t50 t49 t48 t47 t46 t45 t44 t43 t42 t41 t40 t39 _ _ _ _ _ : Value, ∀ w40 : World, I38 t6 w40 →
  Run Try.prog (sOp (.fieldAddr 50 (.const t3) 1) 0) w40 fun t33_2 w41 =>
  Run Try.prog (sOp (.load 27 (.const t33_2)) 27) w41 fun t34_2 w42 =>
  Run Try.prog (sBuiltin .len #[27] 3 [false] [t34_2]) w42 fun t35_2 w43 =>
  Run Try.prog (sBin .lss 3 false false t6 t35_2) w43 fun t36_2 w44 =>
  CondV t36_2 (
    (∃ A45 : (Nat → Bool) → Value → Value → Value → Value → Value → Value → Value → Value → Value → Value → Value → Value → Value → World → Prop, A45 (fun _ => false) t51 t50 t49 t48 t47 t46 t45 t44 t43 t42 t41 t40 t39 { w44 with drawn := w44.drawn + 1 } ∧ (
    (∀ D46 : Nat → Bool, D46 0 = false → ∀ t51_2 t50_2 t49_2 t48_2 t47_2 t46_2 t45_2 t44_2 t43_2 t42_2 t41_2 t40_2 t39_2 : Value, ∀ w47 : World, A45 D46 t51_2 t50_2 t49_2 t48_2 t47_2 t46_2 t45_2 t44_2 t43_2 t42_2 t41_2 t40_2 t39_2 w47 →
      Run Try.prog (sOp (.fieldAddr 50 (.const t3) 1) 0) w47 fun t39_3 w48 =>
      A45 (setD D46 0) t51_2 t50_2 t49_2 t48_2 t47_2 t46_2 t45_2 t44_2 t43_2 t42_2 t41_2 t40_2 t39_3 w48) ∧
    (∀ D46 : Nat → Bool, D46 1 = false → D46 0 = true → ∀ t51_2 t50_2 t49_2 t48_2 t47_2 t46_2 t45_2 t44_2 t43_2 t42_2 t41_2 t40_2 t39_2 : Value, ∀ w49 : World, A45 D46 t51_2 t50_2 t49_2 t48_2 t47_2 t46_2 t45_2 t44_2 t43_2 t42_2 t41_2 t40_2 t39_2 w49 →
      Run Try.prog (sOp (.load 27 (.const t39_2)) 27) w49 fun t40_3 w50 =>
      A45 (setD D46 1) t51_2 t50_2 t49_2 t48_2 t47_2 t46_2 t45_2 t44_2 t43_2 t42_2 t41_2 t40_3 t39_2 w50) ∧
    (∀ D46 : Nat → Bool, D46 2 = false → ∀ t51_2 t50_2 t49_2 t48_2 t47_2 t46_2 t45_2 t44_2 t43_2 t42_2 t41_2 t40_2 t39_2 : Value, ∀ w51 : World, A45 D46 t51_2 t50_2 t49_2 t48_2 t47_2 t46_2 t45_2 t44_2 t43_2 t42_2 t41_2 t40_2 t39_2 w51 →
      A45 (setD D46 2) t51_2 t50_2 t49_2 t48_2 t47_2 t46_2 t45_2 t44_2 t43_2 t42_2 t6 t40_2 t39_2 w51) ∧
    (∀ D46 : Nat → Bool, D46 3 = false → D46 1 = true → D46 2 = true → ∀ t51_2 t50_2 t49_2 t48_2 t47_2 t46_2 t45_2 t44_2 t43_2 t42_2 t41_2 t40_2 t39_2 : Value, ∀ w52 : World, A45 D46 t51_2 t50_2 t49_2 t48_2 t47_2 t46_2 t45_2 t44_2 t43_2 t42_2 t41_2 t40_2 t39_2 w52 →
      Run Try.prog (sOp (.indexAddr 27 (.const t40_2) (.const t41_2)) 0) w52 fun t42_3 w53 =>
      A45 (setD D46 3) t51_2 t50_2 t49_2 t48_2 t47_2 t46_2 t45_2 t44_2 t43_2 t42_3 t41_2 t40_2 t39_2 w53) ∧
    (∀ D46 : Nat → Bool, D46 4 = false → D46 3 = true → ∀ t51_2 t50_2 t49_2 t48_2 t47_2 t46_2 t45_2 t44_2 t43_2 t42_2 t41_2 t40_2 t39_2 : Value, ∀ w54 : World, A45 D46 t51_2 t50_2 t49_2 t48_2 t47_2 t46_2 t45_2 t44_2 t43_2 t42_2 t41_2 t40_2 t39_2 w54 →
      Run Try.prog (sOp (.load 31 (.const t42_2)) 31) w54 fun t43_3 w55 =>
      A45 (setD D46 4) t51_2 t50_2 t49_2 t48_2 t47_2 t46_2 t45_2 t44_2 t43_3 t42_2 t41_2 t40_2 t39_2 w55) ∧
    (∀ D46 : Nat → Bool, D46 5 = false → ∀ t51_2 t50_2 t49_2 t48_2 t47_2 t46_2 t45_2 t44_2 t43_2 t42_2 t41_2 t40_2 t39_2 : Value, ∀ w56 : World, A45 D46 t51_2 t50_2 t49_2 t48_2 t47_2 t46_2 t45_2 t44_2 t43_2 t42_2 t41_2 t40_2 t39_2 w56 →
      Run Try.prog (sOp (.fieldAddr 50 (.const t2) 1) 0) w56 fun t44_3 w57 =>
      A45 (setD D46 5) t51_2 t50_2 t49_2 t48_2 t47_2 t46_2 t45_2 t44_3 t43_2 t42_2 t41_2 t40_2 t39_2 w57) ∧
    (∀ D46 : Nat → Bool, D46 6 = false → D46 5 = true → ∀ t51_2 t50_2 t49_2 t48_2 t47_2 t46_2 t45_2 t44_2 t43_2 t42_2 t41_2 t40_2 t39_2 : Value, ∀ w58 : World, A45 D46 t51_2 t50_2 t49_2 t48_2 t47_2 t46_2 t45_2 t44_2 t43_2 t42_2 t41_2 t40_2 t39_2 w58 →
      Run Try.prog (sOp (.load 27 (.const t44_2)) 27) w58 fun t45_3 w59 =>
      A45 (setD D46 6) t51_2 t50_2 t49_2 t48_2 t47_2 t46_2 t45_3 t44_2 t43_2 t42_2 t41_2 t40_2 t39_2 w59) ∧
    (∀ D46 : Nat → Bool, D46 7 = false → ∀ t51_2 t50_2 t49_2 t48_2 t47_2 t46_2 t45_2 t44_2 t43_2 t42_2 t41_2 t40_2 t39_2 : Value, ∀ w60 : World, A45 D46 t51_2 t50_2 t49_2 t48_2 t47_2 t46_2 t45_2 t44_2 t43_2 t42_2 t41_2 t40_2 t39_2 w60 →
      A45 (setD D46 7) t51_2 t50_2 t49_2 t48_2 t47_2 t6 t45_2 t44_2 t43_2 t42_2 t41_2 t40_2 t39_2 w60) ∧
    (∀ D46 : Nat → Bool, D46 8 = false → D46 6 = true → D46 7 = true → ∀ t51_2 t50_2 t49_2 t48_2 t47_2 t46_2 t45_2 t44_2 t43_2 t42_2 t41_2 t40_2 t39_2 : Value, ∀ w61 : World, A45 D46 t51_2 t50_2 t49_2 t48_2 t47_2 t46_2 t45_2 t44_2 t43_2 t42_2 t41_2 t40_2 t39_2 w61 →
      Run Try.prog (sOp (.indexAddr 27 (.const t45_2) (.const t46_2)) 0) w61 fun t47_3 w62 =>
      A45 (setD D46 8) t51_2 t50_2 t49_2 t48_2 t47_3 t46_2 t45_2 t44_2 t43_2 t42_2 t41_2 t40_2 t39_2 w62) ∧
    (∀ D46 : Nat → Bool, D46 9 = false → D46 8 = true → ∀ t51_2 t50_2 t49_2 t48_2 t47_2 t46_2 t45_2 t44_2 t43_2 t42_2 t41_2 t40_2 t39_2 : Value, ∀ w63 : World, A45 D46 t51_2 t50_2 t49_2 t48_2 t47_2 t46_2 t45_2 t44_2 t43_2 t42_2 t41_2 t40_2 t39_2 w63 →
      Run Try.prog (sOp (.load 31 (.const t47_2)) 31) w63 fun t48_3 w64 =>
      A45 (setD D46 9) t51_2 t50_2 t49_2 t48_3 t47_2 t46_2 t45_2 t44_2 t43_2 t42_2 t41_2 t40_2 t39_2 w64) ∧
    (∀ D46 : Nat → Bool, D46 10 = false → ∀ t51_2 t50_2 t49_2 t48_2 t47_2 t46_2 t45_2 t44_2 t43_2 t42_2 t41_2 t40_2 t39_2 : Value, ∀ w65 : World, A45 D46 t51_2 t50_2 t49_2 t48_2 t47_2 t46_2 t45_2 t44_2 t43_2 t42_2 t41_2 t40_2 t39_2 w65 →
      A45 (setD D46 10) t51_2 t50_2 t24 t48_2 t47_2 t46_2 t45_2 t44_2 t43_2 t42_2 t41_2 t40_2 t39_2 w65) ∧
    (∀ D46 : Nat → Bool, D46 11 = false → D46 4 = true → D46 9 = true → D46 10 = true → ∀ t51_2 t50_2 t49_2 t48_2 t47_2 t46_2 t45_2 t44_2 t43_2 t42_2 t41_2 t40_2 t39_2 : Value, ∀ w66 : World, A45 D46 t51_2 t50_2 t49_2 t48_2 t47_2 t46_2 t45_2 t44_2 t43_2 t42_2 t41_2 t40_2 t39_2 w66 →
      Run Try.prog (sCall (Value.func (.func 85) #[] #[]) [t43_2, t48_2, t49_2]) w66 fun t50_3 w67 =>
      A45 (setD D46 11) t51_2 t50_3 t49_2 t48_2 t47_2 t46_2 t45_2 t44_2 t43_2 t42_2 t41_2 t40_2 t39_2 w67) ∧
    (∀ D46 : Nat → Bool, D46 12 = false → D46 11 = true → ∀ t51_2 t50_2 t49_2 t48_2 t47_2 t46_2 t45_2 t44_2 t43_2 t42_2 t41_2 t40_2 t39_2 : Value, ∀ w68 : World, A45 D46 t51_2 t50_2 t49_2 t48_2 t47_2 t46_2 t45_2 t44_2 t43_2 t42_2 t41_2 t40_2 t39_2 w68 →
      Run Try.prog (sOp (.unOp .not 4 (.const t50_2)) 4) w68 fun t51_3 w69 =>
      A45 (setD D46 12) t51_3 t50_2 t49_2 t48_2 t47_2 t46_2 t45_2 t44_2 t43_2 t42_2 t41_2 t40_2 t39_2 w69) ∧
    True) ∧
  ∀ D46 : Nat → Bool, D46 12 = true → D46 11 = true → D46 10 = true → D46 9 = true → D46 8 = true → D46 7 = true → D46 6 = true → D46 5 = true → D46 4 = true → D46 3 = true → D46 2 = true → D46 1 = true → D46 0 = true → ∀ t51_2 t50_2 t49_2 t48_2 t47_2 t46_2 t45_2 t44_2 t43_2 t42_2 t41_2 t40_2 t39_2 : Value, ∀ w70 : World, A45 D46 t51_2 t50_2 t49_2 t48_2 t47_2 t46_2 t45_2 t44_2 t43_2 t42_2 t41_2 t40_2 t39_2 w70 →
  CondV t51_2 (
    R (.returned (Value.bool false)) w70) (
    Run Try.prog (sBin .add 3 false true t6 (Value.int .i64 1)) w70 fun t38_2 w71 =>
  I38 t38_2 w71 ∧ m39 t38_2 w71 < m39 t6 w40))) (
    R (.returned (Value.bool true)) w44)))))
theorem calls_s_SubsumedClause {p0 p1 : Value} {w : World} {R : Ending → World → Prop} (h : sh_s_SubsumedClause p0 p1 w R) : Calls Try.prog 32 #[p0, p1] w R :=
  calls_sh (.seq none .leaf (.seq none (.seq (some [23]) .leaf .leaf) (.seq none .leaf (.seq none .leaf (.seq none (.seq none .leaf (.one (.loop [6] .leaf))) .leaf))))) [p0, p1] mixed Try.func32 (by kernel_rfl) (by kernel_rfl) h


/- loop.example/prologserver/laws.toClause : function 33 -/
def sh_l_toClause (p0 : Value) (w : World) (R : Ending → World → Prop) : Prop :=
  Run Try.prog (sOp (.box 46 (.const p0)) 0) w fun t1 w1 =>
  Run Try.prog (sOp (.alloc 50) 0) w1 fun t2 w2 =>
  Run Try.prog (sOp (.alloc 50) 0) w2 fun t3 w3 =>
  Run Try.prog (sOp (.fieldAddr 46 (.const t1) 0) 0) w3 fun t4 w4 =>
  Run Try.prog (sOp (.load 24 (.const t4)) 24) w4 fun t5 w5 =>
  Run Try.prog (sCall (Value.func (.func 19) #[] #[]) [t5]) w5 fun t6 w6 =>
  Run Try.prog (sOp (.fieldAddr 50 (.const t3) 0) 0) w6 fun t7 w7 =>
  Run Try.prog (sOp (.store 31 (.const t7) (.const t6)) 0) w7 fun _u w8 =>
  Run Try.prog (sOp (.fieldAddr 46 (.const t1) 1) 0) w8 fun t8 w9 =>
  Run Try.prog (sOp (.load 22 (.const t8)) 22) w9 fun t9 w10 =>
  Run Try.prog (sCall (Value.func (.func 18) #[] #[]) [t9]) w10 fun t10 w11 =>
  Run Try.prog (sOp (.fieldAddr 50 (.const t3) 1) 0) w11 fun t11 w12 =>
  Run Try.prog (sOp (.store 27 (.const t11) (.const t10)) 0) w12 fun _u w13 =>
  Run Try.prog (sOp (.load 50 (.const t3)) 50) w13 fun t12 w14 =>
  Run Try.prog (sOp (.store 50 (.const t2) (.const t12)) 0) w14 fun _ w15 =>
  (LoadV Try.prog 50 t2 w15 fun r0 => R (.returned r0) w15)
theorem calls_l_toClause {p0 : Value} {w : World} {R : Ending → World → Prop} (h : sh_l_toClause p0 w R) : Calls Try.prog 33 #[p0] w R :=
  calls_sh .leaf [p0] mixed Try.func33 (by kernel_rfl) (by kernel_rfl) h


/- loop.example/prologserver/impl.SubsumedClause : function 34 -/
def sh_i_SubsumedClause (p0 p1 : Value) (w : World) (R : Ending → World → Prop) : Prop :=
  Run Try.prog (sOp (.box 50 (.const p0)) 0) w fun t2 w1 =>
  Run Try.prog (sOp (.box 50 (.const p1)) 0) w1 fun t3 w2 =>
  (∃ J3 : Value → World → Prop, (
    Run Try.prog (sOp (.load 50 (.const t2)) 50) w2 fun t8 w4 =>
    Run Try.prog (sCall (Value.func (.func 86) #[] #[]) [t8]) w4 fun t9 w5 =>
    Run Try.prog (sOp (.unOp .not 4 (.const t9)) 4) w5 fun t10 w6 =>
    GuardV t10 false (
      Run Try.prog (sOp (.load 50 (.const t3)) 50) w6 fun t12 w7 =>
      Run Try.prog (sCall (Value.func (.func 86) #[] #[]) [t12]) w7 fun t13 w8 =>
      Run Try.prog (sOp (.unOp .not 4 (.const t13)) 4) w8 fun t14 w9 =>
      Run Try.prog (sOp (.pick (.const t10) (.const (Value.bool true)) (.const t14)) 4) w9 fun t15 w10 =>
      GuardV t15 false (
        Run Try.prog (sOp (.fieldAddr 50 (.const t3) 1) 0) w10 fun t17 w11 =>
        Run Try.prog (sOp (.load 27 (.const t17)) 27) w11 fun t18 w12 =>
        Run Try.prog (sBuiltin .len #[27] 3 [false] [t18]) w12 fun t19 w13 =>
        Run Try.prog (sOp (.fieldAddr 50 (.const t2) 1) 0) w13 fun t20 w14 =>
        Run Try.prog (sOp (.load 27 (.const t20)) 27) w14 fun t21 w15 =>
        Run Try.prog (sBuiltin .len #[27] 3 [false] [t21]) w15 fun t22 w16 =>
        Run Try.prog (sBin .gtr 3 false false t19 t22) w16 fun t23 w17 =>
        Run Try.prog (sOp (.pick (.const t15) (.const (Value.bool true)) (.const t23)) 4) w17 fun t24 w18 =>
        J3 t24 w18) (
        Run Try.prog (sOp (.pick (.const t15) (.const (Value.bool true)) (.const undef)) 4) w10 fun t24_2 w19 =>
        J3 t24_2 w19)) (
      Run Try.prog (sOp (.pick (.const t10) (.const (Value.bool true)) (.const undef)) 4) w6 fun t15_2 w20 =>
      GuardV t15_2 false (
        Run Try.prog (sOp (.fieldAddr 50 (.const t3) 1) 0) w20 fun t17_2 w21 =>
        Run Try.prog (sOp (.load 27 (.const t17_2)) 27) w21 fun t18_2 w22 =>
        Run Try.prog (sBuiltin .len #[27] 3 [false] [t18_2]) w22 fun t19_2 w23 =>
        Run Try.prog (sOp (.fieldAddr 50 (.const t2) 1) 0) w23 fun t20_2 w24 =>
        Run Try.prog (sOp (.load 27 (.const t20_2)) 27) w24 fun t21_2 w25 =>
        Run Try.prog (sBuiltin .len #[27] 3 [false] [t21_2]) w25 fun t22_2 w26 =>
        Run Try.prog (sBin .gtr 3 false false t19_2 t22_2) w26 fun t23_2 w27 =>
        Run Try.prog (sOp (.pick (.const t15_2) (.const (Value.bool true)) (.const t23_2)) 4) w27 fun t24_3 w28 =>
        J3 t24_3 w28) (
        Run Try.prog (sOp (.pick (.const t15_2) (.const (Value.bool true)) (.const undef)) 4) w20 fun t24_4 w29 =>
        J3 t24_4 w29))) ∧
  ∀ t24_5 _ _ _ _ _ _ _ _ _ _ _ _ _ _ _ _ : Value, ∀ w30 : World, J3 t24_5 w30 →
  CondV t24_5 (
    R (.returned (Value.bool false)) w30) (
    Run Try.prog (sOp (.makeMap 93 none) 93) w30 fun t25 w31 =>
  Run Try.prog (sOp (.fieldAddr 50 (.const t2) 0) 0) w31 fun t26 w32 =>
  Run Try.prog (sOp (.load 31 (.const t26)) 31) w32 fun t27 w33 =>
  Run Try.prog (sOp (.fieldAddr 50 (.const t3) 0) 0) w33 fun t28 w34 =>
  Run Try.prog (sOp (.load 31 (.const t28)) 31) w34 fun t29 w35 =>
  Run Try.prog (sCall (Value.func (.func 87) #[] #[]) [t27, t29, t25]) w35 fun t31 w36 =>
  Run Try.prog (sOp (.unOp .not 4 (.const t31)) 4) w36 fun t32 w37 =>
  CondV t32 (
    R (.returned (Value.bool false)) w37) (
    Run Try.prog (sOp (.fieldAddr 50 (.const t3) 1) 0) w37 fun t33 w38 =>
  Run Try.prog (sOp (.load 27 (.const t33)) 27) w38 fun t34 w39 =>
  Run Try.prog (sBuiltin .len #[27] 3 [false] [t34]) w39 fun t35 w40 =>
  (∃ (I41 : Value → World → Prop) (m42 : Value → World → Nat), I41 (Value.int .i64 0) w40 ∧
  ∀ t36 _ _ t49 t48 t47 t46 t45 t44 t43 t42 t41 _ _ _ _ _ _ : Value, ∀ w43 : World, I41 t36 w43 →
  Run Try.prog (sBin .lss 3 false false t36 t35) w43 fun t37_2 w44 =>
  CondV t37_2 (
    Run Try.prog (sOp (.indexAddr 27 (.const t34) (.const t36)) 0) w44 fun t39_2 w45 =>
  Run Try.prog (sOp (.load 31 (.const t39_2)) 31) w45 fun t40_2 w46 =>
  Run Try.prog (sOp (.alloc 31) 0) w46 fun t7_2 w47 =>
  Run Try.prog (sOp (.store 31 (.const t7_2) (.const t40_2)) 0) w47 fun _ w48 =>
  (∃ A49 : (Nat → Bool) → Value → Value → Value → Value → Value → Value → Value → Value → Value → World → Prop, A49 (fun _ => false) t49 t48 t47 t46 t45 t44 t43 t42 t41 { w48 with drawn := w48.drawn + 1 } ∧ (
    (∀ D50 : Nat → Bool, D50 0 = false → ∀ t49_2 t48_2 t47_2 t46_2 t45_2 t44_2 t43_2 t42_2 t41_2 : Value, ∀ w51 : World, A49 D50 t49_2 t48_2 t47_2 t46_2 t45_2 t44_2 t43_2 t42_2 t41_2 w51 →
      Run Try.prog (sOp (.fieldAddr 50 (.const t2) 1) 0) w51 fun t41_3 w52 =>
      A49 (setD D50 0) t49_2 t48_2 t47_2 t46_2 t45_2 t44_2 t43_2 t42_2 t41_3 w52) ∧
    (∀ D50 : Nat → Bool, D50 1 = false → D50 0 = true → ∀ t49_2 t48_2 t47_2 t46_2 t45_2 t44_2 t43_2 t42_2 t41_2 : Value, ∀ w53 : World, A49 D50 t49_2 t48_2 t47_2 t46_2 t45_2 t44_2 t43_2 t42_2 t41_2 w53 →
      Run Try.prog (sOp (.load 27 (.const t41_2)) 27) w53 fun t42_3 w54 =>
      A49 (setD D50 1) t49_2 t48_2 t47_2 t46_2 t45_2 t44_2 t43_2 t42_3 t41_2 w54) ∧
    (∀ D50 : Nat → Bool, D50 2 = false → ∀ t49_2 t48_2 t47_2 t46_2 t45_2 t44_2 t43_2 t42_2 t41_2 : Value, ∀ w55 : World, A49 D50 t49_2 t48_2 t47_2 t46_2 t45_2 t44_2 t43_2 t42_2 t41_2 w55 →
      A49 (setD D50 2) t49_2 t48_2 t47_2 t46_2 t45_2 t44_2 t36 t42_2 t41_2 w55) ∧
    (∀ D50 : Nat → Bool, D50 3 = false → D50 1 = true → D50 2 = true → ∀ t49_2 t48_2 t47_2 t46_2 t45_2 t44_2 t43_2 t42_2 t41_2 : Value, ∀ w56 : World, A49 D50 t49_2 t48_2 t47_2 t46_2 t45_2 t44_2 t43_2 t42_2 t41_2 w56 →
      Run Try.prog (sOp (.indexAddr 27 (.const t42_2) (.const t43_2)) 0) w56 fun t44_3 w57 =>
      A49 (setD D50 3) t49_2 t48_2 t47_2 t46_2 t45_2 t44_3 t43_2 t42_2 t41_2 w57) ∧
    (∀ D50 : Nat → Bool, D50 4 = false → D50 3 = true → ∀ t49_2 t48_2 t47_2 t46_2 t45_2 t44_2 t43_2 t42_2 t41_2 : Value, ∀ w58 : World, A49 D50 t49_2 t48_2 t47_2 t46_2 t45_2 t44_2 t43_2 t42_2 t41_2 w58 →
      Run Try.prog (sOp (.load 31 (.const t44_2)) 31) w58 fun t45_3 w59 =>
      A49 (setD D50 4) t49_2 t48_2 t47_2 t46_2 t45_3 t44_2 t43_2 t42_2 t41_2 w59) ∧
    (∀ D50 : Nat → Bool, D50 5 = false → ∀ t49_2 t48_2 t47_2 t46_2 t45_2 t44_2 t43_2 t42_2 t41_2 : Value, ∀ w60 : World, A49 D50 t49_2 t48_2 t47_2 t46_2 t45_2 t44_2 t43_2 t42_2 t41_2 w60 →
      Run Try.prog (sOp (.load 31 (.const t7_2)) 31) w60 fun t46_3 w61 =>
      A49 (setD D50 5) t49_2 t48_2 t47_2 t46_3 t45_2 t44_2 t43_2 t42_2 t41_2 w61) ∧
    (∀ D50 : Nat → Bool, D50 6 = false → ∀ t49_2 t48_2 t47_2 t46_2 t45_2 t44_2 t43_2 t42_2 t41_2 : Value, ∀ w62 : World, A49 D50 t49_2 t48_2 t47_2 t46_2 t45_2 t44_2 t43_2 t42_2 t41_2 w62 →
      A49 (setD D50 6) t49_2 t48_2 t25 t46_2 t45_2 t44_2 t43_2 t42_2 t41_2 w62) ∧
    (∀ D50 : Nat → Bool, D50 7 = false → D50 4 = true → D50 5 = true → D50 6 = true → ∀ t49_2 t48_2 t47_2 t46_2 t45_2 t44_2 t43_2 t42_2 t41_2 : Value, ∀ w63 : World, A49 D50 t49_2 t48_2 t47_2 t46_2 t45_2 t44_2 t43_2 t42_2 t41_2 w63 →
      Run Try.prog (sCall (Value.func (.func 87) #[] #[]) [t45_2, t46_2, t47_2]) w63 fun t48_3 w64 =>
      A49 (setD D50 7) t49_2 t48_3 t47_2 t46_2 t45_2 t44_2 t43_2 t42_2 t41_2 w64) ∧
    (∀ D50 : Nat → Bool, D50 8 = false → D50 7 = true → ∀ t49_2 t48_2 t47_2 t46_2 t45_2 t44_2 t43_2 t42_2 t41_2 : Value, ∀ w65 : World, A49 D50 t49_2 t48_2 t47_2 t46_2 t45_2 t44_2 t43_2 t42_2 t41_2 w65 →
      Run Try.prog (sOp (.unOp .not 4 (.const t48_2)) 4) w65 fun t49_3 w66 =>
      A49 (setD D50 8) t49_3 t48_2 t47_2 t46_2 t45_2 t44_2 t43_2 t42_2 t41_2 w66) ∧
    True) ∧
  ∀ D50 : Nat → Bool, D50 8 = true → D50 7 = true → D50 6 = true → D50 5 = true → D50 4 = true → D50 3 = true → D50 2 = true → D50 1 = true → D50 0 = true → ∀ t49_2 t48_2 t47_2 t46_2 t45_2 t44_2 t43_2 t42_2 t41_2 : Value, ∀ w67 : World, A49 D50 t49_2 t48_2 t47_2 t46_2 t45_2 t44_2 t43_2 t42_2 t41_2 w67 →
  CondV t49_2 (
    R (.returned (Value.bool false)) w67) (
    Run Try.prog (sBin .add 3 false true t36 (Value.int .i64 1)) w67 fun t50_2 w68 =>
  I41 t50_2 w68 ∧ m42 t50_2 w68 < m42 t36 w43))) (
    R (.returned (Value.bool true)) w44)))))
theorem calls_i_SubsumedClause {p0 p1 : Value} {w : World} {R : Ending → World → Prop} (h : sh_i_SubsumedClause p0 p1 w R) : Calls Try.prog 34 #[p0, p1] w R :=
  calls_sh (.seq none .leaf (.seq none (.seq (some [24]) .leaf .leaf) (.seq none .leaf (.seq none .leaf (.seq none (.seq none .leaf (.one (.loop [36] .leaf))) .leaf))))) [p0, p1] mixed Try.func34 (by kernel_rfl) (by kernel_rfl) h


/- loop.example/prologserver/laws.eqClause : function 35 -/
def sh_l_eqClause (p0 p1 : Value) (w : World) (R : Ending → World → Prop) : Prop :=
  Run Try.prog (sOp (.box 50 (.const p0)) 0) w fun t2 w1 =>
  Run Try.prog (sOp (.box 50 (.const p1)) 0) w1 fun t3 w2 =>
  Run Try.prog (sOp (.fieldAddr 50 (.const t2) 0) 0) w2 fun t5 w3 =>
  Run Try.prog (sOp (.load 31 (.const t5)) 31) w3 fun t6 w4 =>
  Run Try.prog (sOp (.fieldAddr 50 (.const t3) 0) 0) w4 fun t7 w5 =>
  Run Try.prog (sOp (.load 31 (.const t7)) 31) w5 fun t8 w6 =>
  Run Try.prog (sCall (Value.func (.func 22) #[] #[]) [t6, t8]) w6 fun t9 w7 =>
  Run Try.prog (sOp (.unOp .not 4 (.const t9)) 4) w7 fun t10 w8 =>
  CondV t10 (
    R (.returned (Value.bool false)) w8) (
    Run Try.prog (sOp (.fieldAddr 50 (.const t2) 1) 0) w8 fun t11 w9 =>
  Run Try.prog (sOp (.load 27 (.const t11)) 27) w9 fun t12 w10 =>
  Run Try.prog (sOp (.fieldAddr 50 (.const t3) 1) 0) w10 fun t13 w11 =>
  Run Try.prog (sOp (.load 27 (.const t13)) 27) w11 fun t14 w12 =>
  Run Try.prog (sCall (Value.func (.func 21) #[] #[]) [t12, t14]) w12 fun t15 w13 =>
  Run Try.prog (sOp (.unOp .not 4 (.const t15)) 4) w13 fun t16 w14 =>
  CondV t16 (
    R (.returned (Value.bool false)) w14) (
    R (.returned (Value.bool true)) w14))
theorem calls_l_eqClause {p0 p1 : Value} {w : World} {R : Ending → World → Prop} (h : sh_l_eqClause p0 p1 w R) : Calls Try.prog 35 #[p0, p1] w R :=
  calls_sh .leaf [p0, p1] mixed Try.func35 (by kernel_rfl) (by kernel_rfl) h


/- loop.example/prologserver/spec.FlatProgram : function 36 -/
def sh_s_FlatProgram (p0 : Value) (w : World) (R : Ending → World → Prop) : Prop :=
  (∃ (I1 : Value → World → Prop) (m2 : Value → World → Nat), I1 (Value.int .i64 0) w ∧
  ∀ t3 _ _ _ _ _ _ _ _ _ _ _ _ _ _ _ _ _ : Value, ∀ w3 : World, I1 t3 w3 →
  (∃ J4 : Value → World → Prop, (
    Run Try.prog (sBuiltin .len #[41] 3 [false] [p0]) w3 fun t6_2 w5 =>
    Run Try.prog (sBin .lss 3 false false t3 t6_2) w5 fun t7_2 w6 =>
    GuardV t7_2 true (
      Run Try.prog (sCall (Value.func (.func 71) #[] #[]) [p0]) w6 fun t10_2 w7 =>
      Run Try.prog (sOp (.pick (.const t7_2) (.const t10_2) (.const (Value.bool false))) 4) w7 fun t11_2 w8 =>
      J4 t11_2 w8) (
      Run Try.prog (sOp (.pick (.const t7_2) (.const undef) (.const (Value.bool false))) 4) w6 fun t11_3 w9 =>
      J4 t11_3 w9)) ∧
  ∀ t11_4 _ _ _ _ _ _ _ : Value, ∀ w10 : World, J4 t11_4 w10 →
  CondV t11_4 (
    Run Try.prog (sOp (.indexAddr 41 (.const p0) (.const t3)) 0) w10 fun t16_2 w11 =>
  Run Try.prog (sOp (.load 50 (.const t16_2)) 50) w11 fun t17_2 w12 =>
  Run Try.prog (sCall (Value.func (.func 88) #[] #[]) [t17_2]) w12 fun t18_2 w13 =>
  Run Try.prog (sOp (.unOp .not 4 (.const t18_2)) 4) w13 fun t19_2 w14 =>
  CondV t19_2 (
    R (.returned (Value.bool false)) w14) (
    Run Try.prog (sBin .add 3 false true t3 (Value.int .i64 1)) w14 fun t13_2 w15 =>
  I1 t13_2 w15 ∧ m2 t13_2 w15 < m2 t3 w3)) (
    Run Try.prog (sCall (Value.func (.func 71) #[] #[]) [p0]) w10 fun t21 w16 =>
  R (.returned t21) w16)))
theorem calls_s_FlatProgram {p0 : Value} {w : World} {R : Ending → World → Prop} (h : sh_s_FlatProgram p0 w R) : Calls Try.prog 36 #[p0] w R :=
  calls_sh (.seq none .leaf (.seq none (.seq none .leaf (.one (.loop [3] (.seq none (.seq (some [11]) .leaf .leaf) .leaf)))) .leaf)) [p0] mixed Try.func36 (by kernel_rfl) (by kernel_rfl) h


/- loop.example/prologserver/impl.FlatProgram : function 37 -/
def sh_i_FlatProgram (p0 : Value) (w : World) (R : Ending → World → Prop) : Prop :=
  Run Try.prog (sCall (Value.func (.func 75) #[] #[]) [p0]) w fun t4 w1 =>
  GuardV t4 true (
    Run Try.prog (sCall (Value.func (.func 89) #[] #[]) [p0, (Value.func (.func 90) #[] #[])]) w1 fun t7 w2 =>
    Run Try.prog (sOp (.unOp .not 4 (.const t7)) 4) w2 fun t8 w3 =>
    Run Try.prog (sOp (.pick (.const t4) (.const t8) (.const (Value.bool false))) 4) w3 fun t9 w4 =>
    R (.returned t9) w4) (
    Run Try.prog (sOp (.pick (.const t4) (.const undef) (.const (Value.bool false))) 4) w1 fun t9_2 w5 =>
    R (.returned t9_2) w5)
theorem calls_i_FlatProgram {p0 : Value} {w : World} {R : Ending → World → Prop} (h : sh_i_FlatProgram p0 w R) : Calls Try.prog 37 #[p0] w R :=
  calls_sh .leaf [p0] mixed Try.func37 (by kernel_rfl) (by kernel_rfl) h


/- loop.example/prologserver/laws.eqPredS : function 44 -/
def sh_l_eqPredS (p0 p1 : Value) (w : World) (R : Ending → World → Prop) : Prop :=
  Run Try.prog (sBuiltin .len #[62] 3 [false] [p0]) w fun t7 w1 =>
  Run Try.prog (sBuiltin .len #[62] 3 [false] [p1]) w1 fun t9 w2 =>
  Run Try.prog (sBin .neq 3 false false t7 t9) w2 fun t10 w3 =>
  CondV t10 (
    R (.returned (Value.bool false)) w3) (
    (∃ (I4 : Value → World → Prop) (m5 : Value → World → Nat), I4 (Value.int .i64 0) w3 ∧
  ∀ t5 _ _ _ t26 t25 t24 t23 t22 t21 t20 t19 t18 t17 _ _ _ _ : Value, ∀ w6 : World, I4 t5 w6 →
  Run Try.prog (sBuiltin .len #[62] 3 [false] [p0]) w6 fun t13_2 w7 =>
  Run Try.prog (sBin .lss 3 false false t5 t13_2) w7 fun t14_2 w8 =>
  CondV t14_2 (
    (∃ A9 : (Nat → Bool) → Value → Value → Value → Value → Value → Value → Value → Value → Value → Value → World → Prop, A9 (fun _ => false) t26 t25 t24 t23 t22 t21 t20 t19 t18 t17 { w8 with drawn := w8.drawn + 1 } ∧ (
    (∀ D10 : Nat → Bool, D10 0 = false → ∀ t26_2 t25_2 t24_2 t23_2 t22_2 t21_2 t20_2 t19_2 t18_2 t17_2 : Value, ∀ w11 : World, A9 D10 t26_2 t25_2 t24_2 t23_2 t22_2 t21_2 t20_2 t19_2 t18_2 t17_2 w11 →
      A9 (setD D10 0) t26_2 t25_2 t24_2 t23_2 t22_2 t21_2 t20_2 t19_2 t18_2 p0 w11) ∧
    (∀ D10 : Nat → Bool, D10 1 = false → ∀ t26_2 t25_2 t24_2 t23_2 t22_2 t21_2 t20_2 t19_2 t18_2 t17_2 : Value, ∀ w12 : World, A9 D10 t26_2 t25_2 t24_2 t23_2 t22_2 t21_2 t20_2 t19_2 t18_2 t17_2 w12 →
      A9 (setD D10 1) t26_2 t25_2 t24_2 t23_2 t22_2 t21_2 t20_2 t19_2 t5 t17_2 w12) ∧
    (∀ D10 : Nat → Bool, D10 2 = false → D10 0 = true → D10 1 = true → ∀ t26_2 t25_2 t24_2 t23_2 t22_2 t21_2 t20_2 t19_2 t18_2 t17_2 : Value, ∀ w13 : World, A9 D10 t26_2 t25_2 t24_2 t23_2 t22_2 t21_2 t20_2 t19_2 t18_2 t17_2 w13 →
      Run Try.prog (sOp (.indexAddr 62 (.const t17_2) (.const t18_2)) 0) w13 fun t19_3 w14 =>
      A9 (setD D10 2) t26_2 t25_2 t24_2 t23_2 t22_2 t21_2 t20_2 t19_3 t18_2 t17_2 w14) ∧
    (∀ D10 : Nat → Bool, D10 3 = false → D10 2 = true → ∀ t26_2 t25_2 t24_2 t23_2 t22_2 t21_2 t20_2 t19_2 t18_2 t17_2 : Value, ∀ w15 : World, A9 D10 t26_2 t25_2 t24_2 t23_2 t22_2 t21_2 t20_2 t19_2 t18_2 t17_2 w15 →
      Run Try.prog (sOp (.load 59 (.const t19_2)) 59) w15 fun t20_3 w16 =>
      A9 (setD D10 3) t26_2 t25_2 t24_2 t23_2 t22_2 t21_2 t20_3 t19_2 t18_2 t17_2 w16) ∧
    (∀ D10 : Nat → Bool, D10 4 = false → ∀ t26_2 t25_2 t24_2 t23_2 t22_2 t21_2 t20_2 t19_2 t18_2 t17_2 : Value, ∀ w17 : World, A9 D10 t26_2 t25_2 t24_2 t23_2 t22_2 t21_2 t20_2 t19_2 t18_2 t17_2 w17 →
      A9 (setD D10 4) t26_2 t25_2 t24_2 t23_2 t22_2 p1 t20_2 t19_2 t18_2 t17_2 w17) ∧
    (∀ D10 : Nat → Bool, D10 5 = false → ∀ t26_2 t25_2 t24_2 t23_2 t22_2 t21_2 t20_2 t19_2 t18_2 t17_2 : Value, ∀ w18 : World, A9 D10 t26_2 t25_2 t24_2 t23_2 t22_2 t21_2 t20_2 t19_2 t18_2 t17_2 w18 →
      A9 (setD D10 5) t26_2 t25_2 t24_2 t23_2 t5 t21_2 t20_2 t19_2 t18_2 t17_2 w18) ∧
    (∀ D10 : Nat → Bool, D10 6 = false → D10 4 = true → D10 5 = true → ∀ t26_2 t25_2 t24_2 t23_2 t22_2 t21_2 t20_2 t19_2 t18_2 t17_2 : Value, ∀ w19 : World, A9 D10 t26_2 t25_2 t24_2 t23_2 t22_2 t21_2 t20_2 t19_2 t18_2 t17_2 w19 →
      Run Try.prog (sOp (.indexAddr 62 (.const t21_2) (.const t22_2)) 0) w19 fun t23_3 w20 =>
      A9 (setD D10 6) t26_2 t25_2 t24_2 t23_3 t22_2 t21_2 t20_2 t19_2 t18_2 t17_2 w20) ∧
    (∀ D10 : Nat → Bool, D10 7 = false → D10 6 = true → ∀ t26_2 t25_2 t24_2 t23_2 t22_2 t21_2 t20_2 t19_2 t18_2 t17_2 : Value, ∀ w21 : World, A9 D10 t26_2 t25_2 t24_2 t23_2 t22_2 t21_2 t20_2 t19_2 t18_2 t17_2 w21 →
      Run Try.prog (sOp (.load 59 (.const t23_2)) 59) w21 fun t24_3 w22 =>
      A9 (setD D10 7) t26_2 t25_2 t24_3 t23_2 t22_2 t21_2 t20_2 t19_2 t18_2 t17_2 w22) ∧
    (∀ D10 : Nat → Bool, D10 8 = false → D10 3 = true → D10 7 = true → ∀ t26_2 t25_2 t24_2 t23_2 t22_2 t21_2 t20_2 t19_2 t18_2 t17_2 : Value, ∀ w23 : World, A9 D10 t26_2 t25_2 t24_2 t23_2 t22_2 t21_2 t20_2 t19_2 t18_2 t17_2 w23 →
      Run Try.prog (sCall (Value.func (.func 100) #[] #[]) [t20_2, t24_2]) w23 fun t25_3 w24 =>
      A9 (setD D10 8) t26_2 t25_3 t24_2 t23_2 t22_2 t21_2 t20_2 t19_2 t18_2 t17_2 w24) ∧
    (∀ D10 : Nat → Bool, D10 9 = false → D10 8 = true → ∀ t26_2 t25_2 t24_2 t23_2 t22_2 t21_2 t20_2 t19_2 t18_2 t17_2 : Value, ∀ w25 : World, A9 D10 t26_2 t25_2 t24_2 t23_2 t22_2 t21_2 t20_2 t19_2 t18_2 t17_2 w25 →
      Run Try.prog (sOp (.unOp .not 4 (.const t25_2)) 4) w25 fun t26_3 w26 =>
      A9 (setD D10 9) t26_3 t25_2 t24_2 t23_2 t22_2 t21_2 t20_2 t19_2 t18_2 t17_2 w26) ∧
    True) ∧
  ∀ D10 : Nat → Bool, D10 9 = true → D10 8 = true → D10 7 = true → D10 6 = true → D10 5 = true → D10 4 = true → D10 3 = true → D10 2 = true → D10 1 = true → D10 0 = true → ∀ t26_2 t25_2 t24_2 t23_2 t22_2 t21_2 t20_2 t19_2 t18_2 t17_2 : Value, ∀ w27 : World, A9 D10 t26_2 t25_2 t24_2 t23_2 t22_2 t21_2 t20_2 t19_2 t18_2 t17_2 w27 →
  CondV t26_2 (
    R (.returned (Value.bool false)) w27) (
    Run Try.prog (sBin .add 3 false true t5 (Value.int .i64 1)) w27 fun t16_2 w28 =>
  I4 t16_2 w28 ∧ m5 t16_2 w28 < m5 t5 w6))) (
    R (.returned (Value.bool true)) w8)))
theorem calls_l_eqPredS {p0 p1 : Value} {w : World} {R : Ending → World → Prop} (h : sh_l_eqPredS p0 p1 w R) : Calls Try.prog 44 #[p0, p1] w R :=
  calls_sh (.seq none .leaf (.seq none .leaf (.seq none (.seq none .leaf (.one (.loop [5] .leaf))) .leaf))) [p0, p1] mixed Try.func44 (by kernel_rfl) (by kernel_rfl) h


/- loop.example/prologserver/laws.markClauseS : function 45 -/
def sh_l_markClauseS (p0 p1 : Value) (w : World) (R : Ending → World → Prop) : Prop :=
  (∃ (I1 : Value → Value → World → Prop) (m2 : Value → Value → World → Nat), I1 (Value.int .i64 0) p1 w ∧
  ∀ t5 _ _ _ _ _ _ _ _ _ _ _ _ _ _ _ _ _ _ _ _ _ _ _ _ _ _ _ _ _ _ _ _ _ _ t1 _ _ _ _ _ _ _ _ _ _ _ _ : Value, ∀ w3 : World, I1 t5 t1 w3 →
  Run Try.prog (sBuiltin .len #[41] 3 [false] [p0]) w3 fun t8_2 w4 =>
  Run Try.prog (sBin .lss 3 false false t5 t8_2) w4 fun t9_2 w5 =>
  CondV t9_2 (
    Run Try.prog (sOp (.indexAddr 41 (.const p0) (.const t5)) 0) w5 fun t15_2 w6 =>
  Run Try.prog (sOp (.fieldAddr 50 (.const t15_2) 0) 0) w6 fun t16_2 w7 =>
  Run Try.prog (sOp (.fieldAddr 31 (.const t16_2) 0) 0) w7 fun t17_2 w8 =>
  Run Try.prog (sOp (.store 3 (.const t17_2) (.const t1)) 0) w8 fun _u w9 =>
  Run Try.prog (sBin .add 3 false true t1 (Value.int .i64 1)) w9 fun t19_2 w10 =>
  Run Try.prog (sOp (.indexAddr 41 (.const p0) (.const t5)) 0) w10 fun t23_2 w11 =>
  Run Try.prog (sOp (.fieldAddr 50 (.const t23_2) 0) 0) w11 fun t24_2 w12 =>
  Run Try.prog (sOp (.fieldAddr 31 (.const t24_2) 1) 0) w12 fun t25_2 w13 =>
  Run Try.prog (sOp (.store 3 (.const t25_2) (.const t19_2)) 0) w13 fun _u w14 =>
  Run Try.prog (sBin .add 3 false true t19_2 (Value.int .i64 1)) w14 fun t27_2 w15 =>
  Run Try.prog (sCall (Value.func (.func 70) #[] #[]) [t27_2]) w15 fun t31_2 w16 =>
  Run Try.prog (sOp (.indexAddr 41 (.const p0) (.const t5)) 0) w16 fun t32_2 w17 =>
  Run Try.prog (sOp (.fieldAddr 50 (.const t32_2) 0) 0) w17 fun t33_2 w18 =>
  Run Try.prog (sOp (.fieldAddr 31 (.const t33_2) 2) 0) w18 fun t34_2 w19 =>
  Run Try.prog (sOp (.store 9 (.const t34_2) (.const t31_2)) 0) w19 fun _ w20 =>
  Run Try.prog (sBin .add 3 false true t27_2 (Value.int .i64 1)) w20 fun t36_2 w21 =>
  Run Try.prog (sOp (.indexAddr 41 (.const p0) (.const t5)) 0) w21 fun t39_2 w22 =>
  Run Try.prog (sOp (.fieldAddr 50 (.const t39_2) 0) 0) w22 fun t40_2 w23 =>
  Run Try.prog (sOp (.fieldAddr 31 (.const t40_2) 3) 0) w23 fun t41_2 w24 =>
  Run Try.prog (sOp (.load 27 (.const t41_2)) 27) w24 fun t42_2 w25 =>
  Run Try.prog (sCall (Value.func (.func 23) #[] #[]) [t42_2, t36_2]) w25 fun t44_2 w26 =>
  Run Try.prog (sOp (.indexAddr 41 (.const p0) (.const t5)) 0) w26 fun t47_2 w27 =>
  Run Try.prog (sOp (.fieldAddr 50 (.const t47_2) 1) 0) w27 fun t48_2 w28 =>
  Run Try.prog (sOp (.load 27 (.const t48_2)) 27) w28 fun t49_2 w29 =>
  Run Try.prog (sCall (Value.func (.func 23) #[] #[]) [t49_2, t44_2]) w29 fun t51_2 w30 =>
  Run Try.prog (sBin .add 3 false true t5 (Value.int .i64 1)) w30 fun t11_2 w31 =>
  I1 t11_2 t51_2 w31 ∧ m2 t11_2 t51_2 w31 < m2 t5 t1 w3) (
    R (.returned t1) w5))
theorem calls_l_markClauseS {p0 p1 : Value} {w : World} {R : Ending → World → Prop} (h : sh_l_markClauseS p0 p1 w R) : Calls Try.prog 45 #[p0, p1] w R :=
  calls_sh (.seq none .leaf (.seq none (.seq none .leaf (.one (.loop [5, 1] .leaf))) .leaf)) [p0, p1] mixed Try.func45 (by kernel_rfl) (by kernel_rfl) h


/- loop.example/prologserver/laws.markPredS : function 46 -/
def sh_l_markPredS (p0 p1 : Value) (w : World) (R : Ending → World → Prop) : Prop :=
  (∃ (I1 : Value → Value → World → Prop) (m2 : Value → Value → World → Nat), I1 (Value.int .i64 0) p1 w ∧
  ∀ t5 _ _ _ _ _ _ _ _ _ t1 _ _ _ _ _ _ _ _ _ _ _ _ : Value, ∀ w3 : World, I1 t5 t1 w3 →
  Run Try.prog (sBuiltin .len #[62] 3 [false] [p0]) w3 fun t8_2 w4 =>
  Run Try.prog (sBin .lss 3 false false t5 t8_2) w4 fun t9_2 w5 =>
  CondV t9_2 (
    Run Try.prog (sCall (Value.func (.func 70) #[] #[]) [t1]) w5 fun t15_2 w6 =>
  Run Try.prog (sOp (.indexAddr 62 (.const p0) (.const t5)) 0) w6 fun t16_2 w7 =>
  Run Try.prog (sOp (.fieldAddr 59 (.const t16_2) 0) 0) w7 fun t17_2 w8 =>
  Run Try.prog (sOp (.store 9 (.const t17_2) (.const t15_2)) 0) w8 fun _u w9 =>
  Run Try.prog (sBin .add 3 false true t1 (Value.int .i64 1)) w9 fun t19_2 w10 =>
  Run Try.prog (sOp (.indexAddr 62 (.const p0) (.const t5)) 0) w10 fun t23_2 w11 =>
  Run Try.prog (sOp (.fieldAddr 59 (.const t23_2) 1) 0) w11 fun t24_2 w12 =>
  Run Try.prog (sOp (.store 3 (.const t24_2) (.const t19_2)) 0) w12 fun _ w13 =>
  Run Try.prog (sBin .add 3 false true t19_2 (Value.int .i64 1)) w13 fun t26_2 w14 =>
  Run Try.prog (sBin .add 3 false true t5 (Value.int .i64 1)) w14 fun t11_2 w15 =>
  I1 t11_2 t26_2 w15 ∧ m2 t11_2 t26_2 w15 < m2 t5 t1 w3) (
    R (.returned t1) w5))
theorem calls_l_markPredS {p0 p1 : Value} {w : World} {R : Ending → World → Prop} (h : sh_l_markPredS p0 p1 w R) : Calls Try.prog 46 #[p0, p1] w R :=
  calls_sh (.seq none .leaf (.seq none (.seq none .leaf (.one (.loop [5, 1] .leaf))) .leaf)) [p0, p1] mixed Try.func46 (by kernel_rfl) (by kernel_rfl) h


/- loop.example/prologserver/laws.heldPredS : function 47 -/
def sh_l_heldPredS (p0 p1 : Value) (w : World) (R : Ending → World → Prop) : Prop :=
  (∃ (I1 : Value → Value → World → Prop) (m2 : Value → Value → World → Nat), I1 (Value.int .i64 0) p1 w ∧
  ∀ t5 _ _ _ _ _ _ _ _ _ _ _ t1 _ _ _ t19 t18 t17 t16 t15 t14 t13 t12 _ _ _ _ : Value, ∀ w3 : World, I1 t5 t1 w3 →
  Run Try.prog (sBuiltin .len #[62] 3 [false] [p0]) w3 fun t8_2 w4 =>
  Run Try.prog (sBin .lss 3 false false t5 t8_2) w4 fun t9_2 w5 =>
  CondV t9_2 (
    (∃ A6 : (Nat → Bool) → Value → Value → Value → Value → Value → Value → Value → Value → World → Prop, A6 (fun _ => false) t19 t18 t17 t16 t15 t14 t13 t12 { w5 with drawn := w5.drawn + 1 } ∧ (
    (∀ D7 : Nat → Bool, D7 0 = false → ∀ t19_2 t18_2 t17_2 t16_2 t15_2 t14_2 t13_2 t12_2 : Value, ∀ w8 : World, A6 D7 t19_2 t18_2 t17_2 t16_2 t15_2 t14_2 t13_2 t12_2 w8 →
      A6 (setD D7 0) t19_2 t18_2 t17_2 t16_2 t15_2 t14_2 t13_2 p0 w8) ∧
    (∀ D7 : Nat → Bool, D7 1 = false → ∀ t19_2 t18_2 t17_2 t16_2 t15_2 t14_2 t13_2 t12_2 : Value, ∀ w9 : World, A6 D7 t19_2 t18_2 t17_2 t16_2 t15_2 t14_2 t13_2 t12_2 w9 →
      A6 (setD D7 1) t19_2 t18_2 t17_2 t16_2 t15_2 t14_2 t5 t12_2 w9) ∧
    (∀ D7 : Nat → Bool, D7 2 = false → D7 0 = true → D7 1 = true → ∀ t19_2 t18_2 t17_2 t16_2 t15_2 t14_2 t13_2 t12_2 : Value, ∀ w10 : World, A6 D7 t19_2 t18_2 t17_2 t16_2 t15_2 t14_2 t13_2 t12_2 w10 →
      Run Try.prog (sOp (.indexAddr 62 (.const t12_2) (.const t13_2)) 0) w10 fun t14_3 w11 =>
      A6 (setD D7 2) t19_2 t18_2 t17_2 t16_2 t15_2 t14_3 t13_2 t12_2 w11) ∧
    (∀ D7 : Nat → Bool, D7 3 = false → D7 2 = true → ∀ t19_2 t18_2 t17_2 t16_2 t15_2 t14_2 t13_2 t12_2 : Value, ∀ w12 : World, A6 D7 t19_2 t18_2 t17_2 t16_2 t15_2 t14_2 t13_2 t12_2 w12 →
      Run Try.prog (sOp (.fieldAddr 59 (.const t14_2) 0) 0) w12 fun t15_3 w13 =>
      A6 (setD D7 3) t19_2 t18_2 t17_2 t16_2 t15_3 t14_2 t13_2 t12_2 w13) ∧
    (∀ D7 : Nat → Bool, D7 4 = false → D7 3 = true → ∀ t19_2 t18_2 t17_2 t16_2 t15_2 t14_2 t13_2 t12_2 : Value, ∀ w14 : World, A6 D7 t19_2 t18_2 t17_2 t16_2 t15_2 t14_2 t13_2 t12_2 w14 →
      Run Try.prog (sOp (.load 9 (.const t15_2)) 9) w14 fun t16_3 w15 =>
      A6 (setD D7 4) t19_2 t18_2 t17_2 t16_3 t15_2 t14_2 t13_2 t12_2 w15) ∧
    (∀ D7 : Nat → Bool, D7 5 = false → ∀ t19_2 t18_2 t17_2 t16_2 t15_2 t14_2 t13_2 t12_2 : Value, ∀ w16 : World, A6 D7 t19_2 t18_2 t17_2 t16_2 t15_2 t14_2 t13_2 t12_2 w16 →
      A6 (setD D7 5) t19_2 t18_2 t1 t16_2 t15_2 t14_2 t13_2 t12_2 w16) ∧
    (∀ D7 : Nat → Bool, D7 6 = false → D7 5 = true → ∀ t19_2 t18_2 t17_2 t16_2 t15_2 t14_2 t13_2 t12_2 : Value, ∀ w17 : World, A6 D7 t19_2 t18_2 t17_2 t16_2 t15_2 t14_2 t13_2 t12_2 w17 →
      Run Try.prog (sCall (Value.func (.func 70) #[] #[]) [t17_2]) w17 fun t18_3 w18 =>
      A6 (setD D7 6) t19_2 t18_3 t17_2 t16_2 t15_2 t14_2 t13_2 t12_2 w18) ∧
    (∀ D7 : Nat → Bool, D7 7 = false → D7 4 = true → D7 6 = true → ∀ t19_2 t18_2 t17_2 t16_2 t15_2 t14_2 t13_2 t12_2 : Value, ∀ w19 : World, A6 D7 t19_2 t18_2 t17_2 t16_2 t15_2 t14_2 t13_2 t12_2 w19 →
      Run Try.prog (sBin .neq 9 false false t16_2 t18_2) w19 fun t19_3 w20 =>
      A6 (setD D7 7) t19_3 t18_2 t17_2 t16_2 t15_2 t14_2 t13_2 t12_2 w20) ∧
    True) ∧
  ∀ D7 : Nat → Bool, D7 7 = true → D7 6 = true → D7 5 = true → D7 4 = true → D7 3 = true → D7 2 = true → D7 1 = true → D7 0 = true → ∀ t19_2 t18_2 t17_2 t16_2 t15_2 t14_2 t13_2 t12_2 : Value, ∀ w21 : World, A6 D7 t19_2 t18_2 t17_2 t16_2 t15_2 t14_2 t13_2 t12_2 w21 →
  CondV t19_2 (
    R (.returned (Value.int .i64 (-1))) w21) (
    Run Try.prog (sBin .add 3 false true t1 (Value.int .i64 1)) w21 fun t21_2 w22 =>
  Run Try.prog (sOp (.indexAddr 62 (.const p0) (.const t5)) 0) w22 fun t24_2 w23 =>
  Run Try.prog (sOp (.fieldAddr 59 (.const t24_2) 1) 0) w23 fun t25_2 w24 =>
  Run Try.prog (sOp (.load 3 (.const t25_2)) 3) w24 fun t26_2 w25 =>
  Run Try.prog (sBin .neq 3 false false t26_2 t21_2) w25 fun t28_2 w26 =>
  CondV t28_2 (
    R (.returned (Value.int .i64 (-1))) w26) (
    Run Try.prog (sBin .add 3 false true t21_2 (Value.int .i64 1)) w26 fun t30_2 w27 =>
  Run Try.prog (sBin .add 3 false true t5 (Value.int .i64 1)) w27 fun t11_2 w28 =>
  I1 t11_2 t30_2 w28 ∧ m2 t11_2 t30_2 w28 < m2 t5 t1 w3)))) (
    R (.returned t1) w5))
theorem calls_l_heldPredS {p0 p1 : Value} {w : World} {R : Ending → World → Prop} (h : sh_l_heldPredS p0 p1 w R) : Calls Try.prog 47 #[p0, p1] w R :=
  calls_sh (.seq none .leaf (.seq none (.seq none .leaf (.one (.loop [5, 1] .leaf))) .leaf)) [p0, p1] mixed Try.func47 (by kernel_rfl) (by kernel_rfl) h


/- loop.example/prologserver/spec.RenumberClause : function 48 -/
def sh_s_RenumberClause (p0 : Value) (w : World) (R : Ending → World → Prop) : Prop :=
  Run Try.prog (sOp (.box 50 (.const p0)) 0) w fun t1 w1 =>
  Run Try.prog (sOp (.alloc 50) 0) w1 fun t2 w2 =>
  Run Try.prog (sOp (.load 50 (.const t1)) 50) w2 fun t4 w3 =>
  Run Try.prog (sCall (Value.func (.func 84) #[] #[]) [t4]) w3 fun t5 w4 =>
  Run Try.prog (sOp (.unOp .not 4 (.const t5)) 4) w4 fun t6 w5 =>
  CondV t6 (
    Run Try.prog (sBuild 50 []) w5 fun t7 w6 =>
    Run Try.prog (sOp (.store 50 (.const t2) (.const t7)) 0) w6 fun _u w7 =>
    (LoadV Try.prog 50 t2 w7 fun r0 => R (.returned (.tuple #[r0, (Value.bool false)])) w7)) (
    Run Try.prog (sOp (.load 50 (.const t1)) 50) w5 fun t8 w8 =>
  Run Try.prog (sCall (Value.func (.func 101) #[] #[]) [t8]) w8 fun t9 w9 =>
  Run Try.prog (sOp (.store 50 (.const t2) (.const t9)) 0) w9 fun _ w10 =>
  (LoadV Try.prog 50 t2 w10 fun r0 => R (.returned (.tuple #[r0, (Value.bool true)])) w10))
theorem calls_s_RenumberClause {p0 : Value} {w : World} {R : Ending → World → Prop} (h : sh_s_RenumberClause p0 w R) : Calls Try.prog 48 #[p0] w R :=
  calls_sh .leaf [p0] mixed Try.func48 (by kernel_rfl) (by kernel_rfl) h


/- loop.example/prologserver/impl.RenumberClause : function 49 -/
def sh_i_RenumberClause (p0 : Value) (w : World) (R : Ending → World → Prop) : Prop :=
  Run Try.prog (sOp (.box 50 (.const p0)) 0) w fun t1 w1 =>
  Run Try.prog (sOp (.alloc 50) 0) w1 fun t2 w2 =>
  Run Try.prog (sOp (.load 50 (.const t1)) 50) w2 fun t4 w3 =>
  Run Try.prog (sCall (Value.func (.func 86) #[] #[]) [t4]) w3 fun t5 w4 =>
  Run Try.prog (sOp (.unOp .not 4 (.const t5)) 4) w4 fun t6 w5 =>
  CondV t6 (
    Run Try.prog (sBuild 50 []) w5 fun t7 w6 =>
    Run Try.prog (sOp (.store 50 (.const t2) (.const t7)) 0) w6 fun _u w7 =>
    (LoadV Try.prog 50 t2 w7 fun r0 => R (.returned (.tuple #[r0, (Value.bool false)])) w7)) (
    Run Try.prog (sOp (.load 50 (.const t1)) 50) w5 fun t8 w8 =>
  Run Try.prog (sCall (Value.func (.func 103) #[] #[]) [t8]) w8 fun t9 w9 =>
  Run Try.prog (sCall (Value.func (.func 102) #[] #[]) [t9]) w9 fun t10 w10 =>
  Run Try.prog (sOp (.store 50 (.const t2) (.const t10)) 0) w10 fun _ w11 =>
  (LoadV Try.prog 50 t2 w11 fun r0 => R (.returned (.tuple #[r0, (Value.bool true)])) w11))
theorem calls_i_RenumberClause {p0 : Value} {w : World} {R : Ending → World → Prop} (h : sh_i_RenumberClause p0 w R) : Calls Try.prog 49 #[p0] w R :=
  calls_sh .leaf [p0] mixed Try.func49 (by kernel_rfl) (by kernel_rfl) h


/- loop.example/prologserver/laws.markClause : function 50 -/
def sh_l_markClause (p0 p1 : Value) (w : World) (R : Ending → World → Prop) : Prop :=
  Run Try.prog (sOp (.box 50 (.const p0)) 0) w fun t2 w1 =>
  Run Try.prog (sOp (.fieldAddr 50 (.const t2) 0) 0) w1 fun t5 w2 =>
  Run Try.prog (sOp (.load 31 (.const t5)) 31) w2 fun t6 w3 =>
  Run Try.prog (sCall (Value.func (.func 24) #[] #[]) [t6, p1]) w3 fun t8 w4 =>
  Run Try.prog (sOp (.fieldAddr 50 (.const t2) 1) 0) w4 fun t9 w5 =>
  Run Try.prog (sOp (.load 27 (.const t9)) 27) w5 fun t10 w6 =>
  Run Try.prog (sCall (Value.func (.func 23) #[] #[]) [t10, t8]) w6 fun t12 w7 =>
  R (.returned t12) w7
theorem calls_l_markClause {p0 p1 : Value} {w : World} {R : Ending → World → Prop} (h : sh_l_markClause p0 p1 w R) : Calls Try.prog 50 #[p0, p1] w R :=
  calls_sh .leaf [p0, p1] mixed Try.func50 (by kernel_rfl) (by kernel_rfl) h


/- loop.example/prologserver/laws.heldClause : function 51 -/
def sh_l_heldClause (p0 p1 : Value) (w : World) (R : Ending → World → Prop) : Prop :=
  Run Try.prog (sOp (.box 50 (.const p0)) 0) w fun t2 w1 =>
  Run Try.prog (sOp (.fieldAddr 50 (.const t2) 0) 0) w1 fun t5 w2 =>
  Run Try.prog (sOp (.load 31 (.const t5)) 31) w2 fun t6 w3 =>
  Run Try.prog (sCall (Value.func (.func 104) #[] #[]) [t6, p1]) w3 fun t8 w4 =>
  Run Try.prog (sBin .lss 3 false true t8 (Value.int .i64 0)) w4 fun t10 w5 =>
  CondV t10 (
    R (.returned (Value.int .i64 (-1))) w5) (
    Run Try.prog (sOp (.fieldAddr 50 (.const t2) 1) 0) w5 fun t11 w6 =>
  Run Try.prog (sOp (.load 27 (.const t11)) 27) w6 fun t12 w7 =>
  Run Try.prog (sCall (Value.func (.func 25) #[] #[]) [t12, t8]) w7 fun t14 w8 =>
  Run Try.prog (sBin .lss 3 false true t14 (Value.int .i64 0)) w8 fun t16 w9 =>
  CondV t16 (
    R (.returned (Value.int .i64 (-1))) w9) (
    R (.returned t14) w9))
theorem calls_l_heldClause {p0 p1 : Value} {w : World} {R : Ending → World → Prop} (h : sh_l_heldClause p0 p1 w R) : Calls Try.prog 51 #[p0, p1] w R :=
  calls_sh .leaf [p0, p1] mixed Try.func51 (by kernel_rfl) (by kernel_rfl) h


/- loop.example/prologserver/spec.DropClause : function 52 -/
def sh_s_DropClause (p0 p1 : Value) (w : World) (R : Ending → World → Prop) : Prop :=
  (∃ J1 : Value → World → Prop, (
    Run Try.prog (sCall (Value.func (.func 71) #[] #[]) [p0]) w fun t7 w2 =>
    Run Try.prog (sOp (.unOp .not 4 (.const t7)) 4) w2 fun t8 w3 =>
    GuardV t8 false (
      Run Try.prog (sBin .lss 3 false true p1 (Value.int .i64 0)) w3 fun t11 w4 =>
      Run Try.prog (sOp (.pick (.const t8) (.const (Value.bool true)) (.const t11)) 4) w4 fun t12 w5 =>
      GuardV t12 false (
        Run Try.prog (sBuiltin .len #[41] 3 [false] [p0]) w5 fun t16 w6 =>
        Run Try.prog (sBin .geq 3 false false p1 t16) w6 fun t17 w7 =>
        Run Try.prog (sOp (.pick (.const t12) (.const (Value.bool true)) (.const t17)) 4) w7 fun t18 w8 =>
        J1 t18 w8) (
        Run Try.prog (sOp (.pick (.const t12) (.const (Value.bool true)) (.const undef)) 4) w5 fun t18_2 w9 =>
        J1 t18_2 w9)) (
      Run Try.prog (sOp (.pick (.const t8) (.const (Value.bool true)) (.const undef)) 4) w3 fun t12_2 w10 =>
      GuardV t12_2 false (
        Run Try.prog (sBuiltin .len #[41] 3 [false] [p0]) w10 fun t16_2 w11 =>
        Run Try.prog (sBin .geq 3 false false p1 t16_2) w11 fun t17_2 w12 =>
        Run Try.prog (sOp (.pick (.const t12_2) (.const (Value.bool true)) (.const t17_2)) 4) w12 fun t18_3 w13 =>
        J1 t18_3 w13) (
        Run Try.prog (sOp (.pick (.const t12_2) (.const (Value.bool true)) (.const undef)) 4) w10 fun t18_4 w14 =>
        J1 t18_4 w14))) ∧
  ∀ t18_5 _ _ _ _ _ _ _ _ _ _ _ _ : Value, ∀ w15 : World, J1 t18_5 w15 →
  CondV t18_5 (
    Run Try.prog (sBuildSlice 41 0 []) w15 fun t19 w16 =>
    R (.returned (.tuple #[t19, (Value.bool false)])) w16) (
    (∃ A17 : (Nat → Bool) → Value → Value → Value → Value → Value → Value → Value → Value → Value → Value → Value → Value → Value → World → Prop, A17 (fun _ => false) (Value.bool false) (Value.slice none 0 0) undef undef undef undef undef undef undef undef undef undef undef { w15 with drawn := w15.drawn + 1 } ∧ (
    (∀ D18 : Nat → Bool, D18 0 = false → ∀ t5 t4 t30 t29 t28 t27 t26 t25 t24 t23 t22 t21 t20 : Value, ∀ w19 : World, A17 D18 t5 t4 t30 t29 t28 t27 t26 t25 t24 t23 t22 t21 t20 w19 →
      Run Try.prog (sBuildSlice 41 0 []) w19 fun t20_2 w20 =>
      A17 (setD D18 0) t5 t4 t30 t29 t28 t27 t26 t25 t24 t23 t22 t21 t20_2 w20) ∧
    (∀ D18 : Nat → Bool, D18 1 = false → ∀ t5 t4 t30 t29 t28 t27 t26 t25 t24 t23 t22 t21 t20 : Value, ∀ w21 : World, A17 D18 t5 t4 t30 t29 t28 t27 t26 t25 t24 t23 t22 t21 t20 w21 →
      A17 (setD D18 1) t5 t4 t30 t29 t28 t27 t26 t25 t24 t23 t22 p0 t20 w21) ∧
    (∀ D18 : Nat → Bool, D18 2 = false → ∀ t5 t4 t30 t29 t28 t27 t26 t25 t24 t23 t22 t21 t20 : Value, ∀ w22 : World, A17 D18 t5 t4 t30 t29 t28 t27 t26 t25 t24 t23 t22 t21 t20 w22 →
      A17 (setD D18 2) t5 t4 t30 t29 t28 t27 t26 t25 t24 t23 p1 t21 t20 w22) ∧
    (∀ D18 : Nat → Bool, D18 3 = false → D18 1 = true → D18 2 = true → ∀ t5 t4 t30 t29 t28 t27 t26 t25 t24 t23 t22 t21 t20 : Value, ∀ w23 : World, A17 D18 t5 t4 t30 t29 t28 t27 t26 t25 t24 t23 t22 t21 t20 w23 →
      Run Try.prog (sOp (.slice 41 (.const t21) none (some (.const t22)) none) 41) w23 fun t23_2 w24 =>
      A17 (setD D18 3) t5 t4 t30 t29 t28 t27 t26 t25 t24 t23_2 t22 t21 t20 w24) ∧
    (∀ D18 : Nat → Bool, D18 4 = false → D18 0 = true → D18 3 = true → ∀ t5 t4 t30 t29 t28 t27 t26 t25 t24 t23 t22 t21 t20 : Value, ∀ w25 : World, A17 D18 t5 t4 t30 t29 t28 t27 t26 t25 t24 t23 t22 t21 t20 w25 →
      Run Try.prog (sBuiltin .append #[41, 41] 41 [false, false] [t20, t23]) w25 fun t24_2 w26 =>
      A17 (setD D18 4) t5 t4 t30 t29 t28 t27 t26 t25 t24_2 t23 t22 t21 t20 w26) ∧
    (∀ D18 : Nat → Bool, D18 5 = false → ∀ t5 t4 t30 t29 t28 t27 t26 t25 t24 t23 t22 t21 t20 : Value, ∀ w27 : World, A17 D18 t5 t4 t30 t29 t28 t27 t26 t25 t24 t23 t22 t21 t20 w27 →
      A17 (setD D18 5) t5 t4 t30 t29 t28 t27 t26 p0 t24 t23 t22 t21 t20 w27) ∧
    (∀ D18 : Nat → Bool, D18 6 = false → ∀ t5 t4 t30 t29 t28 t27 t26 t25 t24 t23 t22 t21 t20 : Value, ∀ w28 : World, A17 D18 t5 t4 t30 t29 t28 t27 t26 t25 t24 t23 t22 t21 t20 w28 →
      A17 (setD D18 6) t5 t4 t30 t29 t28 t27 p1 t25 t24 t23 t22 t21 t20 w28) ∧
    (∀ D18 : Nat → Bool, D18 7 = false → D18 6 = true → ∀ t5 t4 t30 t29 t28 t27 t26 t25 t24 t23 t22 t21 t20 : Value, ∀ w29 : World, A17 D18 t5 t4 t30 t29 t28 t27 t26 t25 t24 t23 t22 t21 t20 w29 →
      Run Try.prog (sBin .add 3 false true t26 (Value.int .i64 1)) w29 fun t27_2 w30 =>
      A17 (setD D18 7) t5 t4 t30 t29 t28 t27_2 t26 t25 t24 t23 t22 t21 t20 w30) ∧
    (∀ D18 : Nat → Bool, D18 8 = false → D18 5 = true → D18 7 = true → ∀ t5 t4 t30 t29 t28 t27 t26 t25 t24 t23 t22 t21 t20 : Value, ∀ w31 : World, A17 D18 t5 t4 t30 t29 t28 t27 t26 t25 t24 t23 t22 t21 t20 w31 →
      Run Try.prog (sOp (.slice 41 (.const t25) (some (.const t27)) none none) 41) w31 fun t28_2 w32 =>
      A17 (setD D18 8) t5 t4 t30 t29 t28_2 t27 t26 t25 t24 t23 t22 t21 t20 w32) ∧
    (∀ D18 : Nat → Bool, D18 9 = false → D18 4 = true → D18 8 = true → D18 4 = true → ∀ t5 t4 t30 t29 t28 t27 t26 t25 t24 t23 t22 t21 t20 : Value, ∀ w33 : World, A17 D18 t5 t4 t30 t29 t28 t27 t26 t25 t24 t23 t22 t21 t20 w33 →
      Run Try.prog (sBuiltin .append #[41, 41] 41 [false, false] [t24, t28]) w33 fun t29_2 w34 =>
      A17 (setD D18 9) t5 t4 t30 t29_2 t28 t27 t26 t25 t24 t23 t22 t21 t20 w34) ∧
    (∀ D18 : Nat → Bool, D18 10 = false → D18 9 = true → D18 9 = true → ∀ t5 t4 t30 t29 t28 t27 t26 t25 t24 t23 t22 t21 t20 : Value, ∀ w35 : World, A17 D18 t5 t4 t30 t29 t28 t27 t26 t25 t24 t23 t22 t21 t20 w35 →
      Run Try.prog (sCall (Value.func (.func 105) #[] #[]) [t29]) w35 fun t30_2 w36 =>
      A17 (setD D18 10) t5 t4 t30_2 t29 t28 t27 t26 t25 t24 t23 t22 t21 t20 w36) ∧
    (∀ D18 : Nat → Bool, D18 11 = false → D18 10 = true → D18 10 = true → D18 0 = true → D18 1 = true → D18 2 = true → D18 3 = true → D18 4 = true → D18 5 = true → D18 6 = true → D18 7 = true → D18 8 = true → D18 9 = true → D18 10 = true → ∀ t5 t4 t30 t29 t28 t27 t26 t25 t24 t23 t22 t21 t20 : Value, ∀ w37 : World, A17 D18 t5 t4 t30 t29 t28 t27 t26 t25 t24 t23 t22 t21 t20 w37 →
      A17 (setD D18 11) t5 t30 t30 t29 t28 t27 t26 t25 t24 t23 t22 t21 t20 w37) ∧
    (∀ D18 : Nat → Bool, D18 12 = false → D18 11 = true → D18 0 = true → D18 1 = true → D18 2 = true → D18 3 = true → D18 4 = true → D18 5 = true → D18 6 = true → D18 7 = true → D18 8 = true → D18 9 = true → D18 10 = true → D18 11 = true → ∀ t5 t4 t30 t29 t28 t27 t26 t25 t24 t23 t22 t21 t20 : Value, ∀ w38 : World, A17 D18 t5 t4 t30 t29 t28 t27 t26 t25 t24 t23 t22 t21 t20 w38 →
      A17 (setD D18 12) (Value.bool true) t4 t30 t29 t28 t27 t26 t25 t24 t23 t22 t21 t20 w38) ∧
    True) ∧
  ∀ D18 : Nat → Bool, D18 12 = true → D18 11 = true → D18 10 = true → D18 9 = true → D18 8 = true → D18 7 = true → D18 6 = true → D18 5 = true → D18 4 = true → D18 3 = true → D18 2 = true → D18 1 = true → D18 0 = true → ∀ t5 t4 t30 t29 t28 t27 t26 t25 t24 t23 t22 t21 t20 : Value, ∀ w39 : World, A17 D18 t5 t4 t30 t29 t28 t27 t26 t25 t24 t23 t22 t21 t20 w39 →
  R (.returned (.tuple #[t4, t5])) w39)))
theorem calls_s_DropClause {p0 p1 : Value} {w : World} {R : Ending → World → Prop} (h : sh_s_DropClause p0 p1 w R) : Calls Try.prog 52 #[p0, p1] w R :=
  calls_sh (.seq none .leaf (.seq none (.seq (some [18]) .leaf .leaf) .leaf)) [p0, p1] mixed Try.func52 (by kernel_rfl) (by kernel_rfl) h


/- loop.example/prologserver/impl.DropClause : function 53 -/
def sh_i_DropClause (p0 p1 : Value) (w : World) (R : Ending → World → Prop) : Prop :=
  (∃ J1 : Value → World → Prop, (
    Run Try.prog (sCall (Value.func (.func 75) #[] #[]) [p0]) w fun t7 w2 =>
    Run Try.prog (sOp (.unOp .not 4 (.const t7)) 4) w2 fun t8 w3 =>
    GuardV t8 false (
      Run Try.prog (sBuiltin .len #[41] 3 [false] [p0]) w3 fun t12 w4 =>
      Run Try.prog (sBin .sub 3 false true t12 (Value.int .i64 1)) w4 fun t13 w5 =>
      Run Try.prog (sCall (Value.func (.func 76) #[] #[]) [p1, (Value.int .i64 0), t13]) w5 fun t14 w6 =>
      Run Try.prog (sOp (.unOp .not 4 (.const t14)) 4) w6 fun t15 w7 =>
      Run Try.prog (sOp (.pick (.const t8) (.const (Value.bool true)) (.const t15)) 4) w7 fun t16 w8 =>
      J1 t16 w8) (
      Run Try.prog (sOp (.pick (.const t8) (.const (Value.bool true)) (.const undef)) 4) w3 fun t16_2 w9 =>
      J1 t16_2 w9)) ∧
  ∀ t16_3 _ _ _ _ _ _ _ _ _ _ : Value, ∀ w10 : World, J1 t16_3 w10 →
  CondV t16_3 (
    R (.returned (.tuple #[(Value.slice none 0 0), (Value.bool false)])) w10) (
    Run Try.prog (sCall (Value.func (.func 107) #[] #[]) [p0]) w10 fun t18 w11 =>
  Run Try.prog (sBin .add 3 false true p1 (Value.int .i64 1)) w11 fun t21 w12 =>
  Run Try.prog (sCall (Value.func (.func 106) #[] #[]) [t18, p1, t21]) w12 fun t22 w13 =>
  R (.returned (.tuple #[t22, (Value.bool true)])) w13))
theorem calls_i_DropClause {p0 p1 : Value} {w : World} {R : Ending → World → Prop} (h : sh_i_DropClause p0 p1 w R) : Calls Try.prog 53 #[p0, p1] w R :=
  calls_sh (.seq none .leaf (.seq none (.seq (some [16]) .leaf .leaf) .leaf)) [p0, p1] mixed Try.func53 (by kernel_rfl) (by kernel_rfl) h


/- loop.example/prologserver/laws.heldClauseS : function 54 -/
def sh_l_heldClauseS (p0 p1 : Value) (w : World) (R : Ending → World → Prop) : Prop :=
  (∃ (I1 : Value → Value → World → Prop) (m2 : Value → Value → World → Nat), I1 (Value.int .i64 0) p1 w ∧
  ∀ t5 _ _ _ _ _ _ _ _ _ _ _ _ _ _ _ _ _ _ _ _ _ _ _ t40 t39 t38 t37 t36 t35 t34 t33 t32 _ _ _ _ _ _ _ _ _ _ t1 _ _ _ _ _ _ _ _ _ _ _ _ _ _ _ : Value, ∀ w3 : World, I1 t5 t1 w3 →
  Run Try.prog (sBuiltin .len #[41] 3 [false] [p0]) w3 fun t8_2 w4 =>
  Run Try.prog (sBin .lss 3 false false t5 t8_2) w4 fun t9_2 w5 =>
  CondV t9_2 (
    Run Try.prog (sOp (.indexAddr 41 (.const p0) (.const t5)) 0) w5 fun t14_2 w6 =>
  Run Try.prog (sOp (.fieldAddr 50 (.const t14_2) 0) 0) w6 fun t15_2 w7 =>
  Run Try.prog (sOp (.fieldAddr 31 (.const t15_2) 0) 0) w7 fun t16_2 w8 =>
  Run Try.prog (sOp (.load 3 (.const t16_2)) 3) w8 fun t17_2 w9 =>
  Run Try.prog (sBin .neq 3 false false t17_2 t1) w9 fun t19_2 w10 =>
  CondV t19_2 (
    R (.returned (Value.int .i64 (-1))) w10) (
    Run Try.prog (sBin .add 3 false true t1 (Value.int .i64 1)) w10 fun t21_2 w11 =>
  Run Try.prog (sOp (.indexAddr 41 (.const p0) (.const t5)) 0) w11 fun t24_2 w12 =>
  Run Try.prog (sOp (.fieldAddr 50 (.const t24_2) 0) 0) w12 fun t25_2 w13 =>
  Run Try.prog (sOp (.fieldAddr 31 (.const t25_2) 1) 0) w13 fun t26_2 w14 =>
  Run Try.prog (sOp (.load 3 (.const t26_2)) 3) w14 fun t27_2 w15 =>
  Run Try.prog (sBin .neq 3 false false t27_2 t21_2) w15 fun t29_2 w16 =>
  CondV t29_2 (
    R (.returned (Value.int .i64 (-1))) w16) (
    Run Try.prog (sBin .add 3 false true t21_2 (Value.int .i64 1)) w16 fun t31_2 w17 =>
  (∃ A18 : (Nat → Bool) → Value → Value → Value → Value → Value → Value → Value → Value → Value → World → Prop, A18 (fun _ => false) t40 t39 t38 t37 t36 t35 t34 t33 t32 { w17 with drawn := w17.drawn + 1 } ∧ (
    (∀ D19 : Nat → Bool, D19 0 = false → ∀ t40_2 t39_2 t38_2 t37_2 t36_2 t35_2 t34_2 t33_2 t32_2 : Value, ∀ w20 : World, A18 D19 t40_2 t39_2 t38_2 t37_2 t36_2 t35_2 t34_2 t33_2 t32_2 w20 →
      A18 (setD D19 0) t40_2 t39_2 t38_2 t37_2 t36_2 t35_2 t34_2 t33_2 p0 w20) ∧
    (∀ D19 : Nat → Bool, D19 1 = false → ∀ t40_2 t39_2 t38_2 t37_2 t36_2 t35_2 t34_2 t33_2 t32_2 : Value, ∀ w21 : World, A18 D19 t40_2 t39_2 t38_2 t37_2 t36_2 t35_2 t34_2 t33_2 t32_2 w21 →
      A18 (setD D19 1) t40_2 t39_2 t38_2 t37_2 t36_2 t35_2 t34_2 t5 t32_2 w21) ∧
    (∀ D19 : Nat → Bool, D19 2 = false → D19 0 = true → D19 1 = true → ∀ t40_2 t39_2 t38_2 t37_2 t36_2 t35_2 t34_2 t33_2 t32_2 : Value, ∀ w22 : World, A18 D19 t40_2 t39_2 t38_2 t37_2 t36_2 t35_2 t34_2 t33_2 t32_2 w22 →
      Run Try.prog (sOp (.indexAddr 41 (.const t32_2) (.const t33_2)) 0) w22 fun t34_3 w23 =>
      A18 (setD D19 2) t40_2 t39_2 t38_2 t37_2 t36_2 t35_2 t34_3 t33_2 t32_2 w23) ∧
    (∀ D19 : Nat → Bool, D19 3 = false → D19 2 = true → ∀ t40_2 t39_2 t38_2 t37_2 t36_2 t35_2 t34_2 t33_2 t32_2 : Value, ∀ w24 : World, A18 D19 t40_2 t39_2 t38_2 t37_2 t36_2 t35_2 t34_2 t33_2 t32_2 w24 →
      Run Try.prog (sOp (.fieldAddr 50 (.const t34_2) 0) 0) w24 fun t35_3 w25 =>
      A18 (setD D19 3) t40_2 t39_2 t38_2 t37_2 t36_2 t35_3 t34_2 t33_2 t32_2 w25) ∧
    (∀ D19 : Nat → Bool, D19 4 = false → D19 3 = true → ∀ t40_2 t39_2 t38_2 t37_2 t36_2 t35_2 t34_2 t33_2 t32_2 : Value, ∀ w26 : World, A18 D19 t40_2 t39_2 t38_2 t37_2 t36_2 t35_2 t34_2 t33_2 t32_2 w26 →
      Run Try.prog (sOp (.fieldAddr 31 (.const t35_2) 2) 0) w26 fun t36_3 w27 =>
      A18 (setD D19 4) t40_2 t39_2 t38_2 t37_2 t36_3 t35_2 t34_2 t33_2 t32_2 w27) ∧
    (∀ D19 : Nat → Bool, D19 5 = false → D19 4 = true → ∀ t40_2 t39_2 t38_2 t37_2 t36_2 t35_2 t34_2 t33_2 t32_2 : Value, ∀ w28 : World, A18 D19 t40_2 t39_2 t38_2 t37_2 t36_2 t35_2 t34_2 t33_2 t32_2 w28 →
      Run Try.prog (sOp (.load 9 (.const t36_2)) 9) w28 fun t37_3 w29 =>
      A18 (setD D19 5) t40_2 t39_2 t38_2 t37_3 t36_2 t35_2 t34_2 t33_2 t32_2 w29) ∧
    (∀ D19 : Nat → Bool, D19 6 = false → ∀ t40_2 t39_2 t38_2 t37_2 t36_2 t35_2 t34_2 t33_2 t32_2 : Value, ∀ w30 : World, A18 D19 t40_2 t39_2 t38_2 t37_2 t36_2 t35_2 t34_2 t33_2 t32_2 w30 →
      A18 (setD D19 6) t40_2 t39_2 t31_2 t37_2 t36_2 t35_2 t34_2 t33_2 t32_2 w30) ∧
    (∀ D19 : Nat → Bool, D19 7 = false → D19 6 = true → ∀ t40_2 t39_2 t38_2 t37_2 t36_2 t35_2 t34_2 t33_2 t32_2 : Value, ∀ w31 : World, A18 D19 t40_2 t39_2 t38_2 t37_2 t36_2 t35_2 t34_2 t33_2 t32_2 w31 →
      Run Try.prog (sCall (Value.func (.func 70) #[] #[]) [t38_2]) w31 fun t39_3 w32 =>
      A18 (setD D19 7) t40_2 t39_3 t38_2 t37_2 t36_2 t35_2 t34_2 t33_2 t32_2 w32) ∧
    (∀ D19 : Nat → Bool, D19 8 = false → D19 5 = true → D19 7 = true → ∀ t40_2 t39_2 t38_2 t37_2 t36_2 t35_2 t34_2 t33_2 t32_2 : Value, ∀ w33 : World, A18 D19 t40_2 t39_2 t38_2 t37_2 t36_2 t35_2 t34_2 t33_2 t32_2 w33 →
      Run Try.prog (sBin .neq 9 false false t37_2 t39_2) w33 fun t40_3 w34 =>
      A18 (setD D19 8) t40_3 t39_2 t38_2 t37_2 t36_2 t35_2 t34_2 t33_2 t32_2 w34) ∧
    True) ∧
  ∀ D19 : Nat → Bool, D19 8 = true → D19 7 = true → D19 6 = true → D19 5 = true → D19 4 = true → D19 3 = true → D19 2 = true → D19 1 = true → D19 0 = true → ∀ t40_2 t39_2 t38_2 t37_2 t36_2 t35_2 t34_2 t33_2 t32_2 : Value, ∀ w35 : World, A18 D19 t40_2 t39_2 t38_2 t37_2 t36_2 t35_2 t34_2 t33_2 t32_2 w35 →
  CondV t40_2 (
    R (.returned (Value.int .i64 (-1))) w35) (
    Run Try.prog (sBin .add 3 false true t31_2 (Value.int .i64 1)) w35 fun t42_2 w36 =>
  Run Try.prog (sOp (.indexAddr 41 (.const p0) (.const t5)) 0) w36 fun t45_2 w37 =>
  Run Try.prog (sOp (.fieldAddr 50 (.const t45_2) 0) 0) w37 fun t46_2 w38 =>
  Run Try.prog (sOp (.fieldAddr 31 (.const t46_2) 3) 0) w38 fun t47_2 w39 =>
  Run Try.prog (sOp (.load 27 (.const t47_2)) 27) w39 fun t48_2 w40 =>
  Run Try.prog (sCall (Value.func (.func 25) #[] #[]) [t48_2, t42_2]) w40 fun t50_2 w41 =>
  Run Try.prog (sBin .lss 3 false true t50_2 (Value.int .i64 0)) w41 fun t52_2 w42 =>
  CondV t52_2 (
    R (.returned (Value.int .i64 (-1))) w42) (
    Run Try.prog (sOp (.indexAddr 41 (.const p0) (.const t5)) 0) w42 fun t55_2 w43 =>
  Run Try.prog (sOp (.fieldAddr 50 (.const t55_2) 1) 0) w43 fun t56_2 w44 =>
  Run Try.prog (sOp (.load 27 (.const t56_2)) 27) w44 fun t57_2 w45 =>
  Run Try.prog (sCall (Value.func (.func 25) #[] #[]) [t57_2, t50_2]) w45 fun t59_2 w46 =>
  Run Try.prog (sBin .lss 3 false true t59_2 (Value.int .i64 0)) w46 fun t61_2 w47 =>
  CondV t61_2 (
    R (.returned (Value.int .i64 (-1))) w47) (
    Run Try.prog (sBin .add 3 false true t5 (Value.int .i64 1)) w47 fun t11_2 w48 =>
  I1 t11_2 t59_2 w48 ∧ m2 t11_2 t59_2 w48 < m2 t5 t1 w3))))))) (
    R (.returned t1) w5))
theorem calls_l_heldClauseS {p0 p1 : Value} {w : World} {R : Ending → World → Prop} (h : sh_l_heldClauseS p0 p1 w R) : Calls Try.prog 54 #[p0, p1] w R :=
  calls_sh (.seq none .leaf (.seq none (.seq none .leaf (.one (.loop [5, 1] .leaf))) .leaf)) [p0, p1] mixed Try.func54 (by kernel_rfl) (by kernel_rfl) h


/- loop.example/prologserver/spec.l1Copy : function 64 -/
def sh_s_l1Copy (p0 : Value) (w : World) (R : Ending → World → Prop) : Prop :=
  Run Try.prog (sOp (.box 31 (.const p0)) 0) w fun t1 w1 =>
  Run Try.prog (sOp (.alloc 31) 0) w1 fun t2 w2 =>
  Run Try.prog (sOp (.fieldAddr 31 (.const t1) 0) 0) w2 fun t5 w3 =>
  Run Try.prog (sOp (.load 3 (.const t5)) 3) w3 fun t6 w4 =>
  Run Try.prog (sOp (.fieldAddr 31 (.const t1) 1) 0) w4 fun t7 w5 =>
  Run Try.prog (sOp (.load 3 (.const t7)) 3) w5 fun t8 w6 =>
  Run Try.prog (sOp (.fieldAddr 31 (.const t1) 2) 0) w6 fun t9 w7 =>
  Run Try.prog (sOp (.load 9 (.const t9)) 9) w7 fun t10 w8 =>
  Run Try.prog (sBuild 31 [(0, t6), (1, t8), (2, t10)]) w8 fun t11 w9 =>
  Run Try.prog (sOp (.alloc 31) 0) w9 fun t3 w10 =>
  Run Try.prog (sOp (.store 31 (.const t3) (.const t11)) 0) w10 fun _u w11 =>
  (∃ (I12 : Value → World → Prop) (m13 : Value → World → Nat), I12 (Value.int .i64 0) w11 ∧
  ∀ t4 _ _ t29 t28 t27 t26 t25 t24 t23 t22 t21 t20 t19 _ _ _ _ _ : Value, ∀ w14 : World, I12 t4 w14 →
  Run Try.prog (sOp (.fieldAddr 31 (.const t1) 3) 0) w14 fun t13_2 w15 =>
  Run Try.prog (sOp (.load 27 (.const t13_2)) 27) w15 fun t14_2 w16 =>
  Run Try.prog (sBuiltin .len #[27] 3 [false] [t14_2]) w16 fun t15_2 w17 =>
  Run Try.prog (sBin .lss 3 false false t4 t15_2) w17 fun t16_2 w18 =>
  CondV t16_2 (
    (∃ A19 : (Nat → Bool) → Value → Value → Value → Value → Value → Value → Value → Value → Value → Value → Value → World → Prop, A19 (fun _ => false) t29 t28 t27 t26 t25 t24 t23 t22 t21 t20 t19 { w18 with drawn := w18.drawn + 1 } ∧ (
    (∀ D20 : Nat → Bool, D20 0 = false → ∀ t29_2 t28_2 t27_2 t26_2 t25_2 t24_2 t23_2 t22_2 t21_2 t20_2 t19_2 : Value, ∀ w21 : World, A19 D20 t29_2 t28_2 t27_2 t26_2 t25_2 t24_2 t23_2 t22_2 t21_2 t20_2 t19_2 w21 →
      Run Try.prog (sOp (.fieldAddr 31 (.const t3) 3) 0) w21 fun t19_3 w22 =>
      A19 (setD D20 0) t29_2 t28_2 t27_2 t26_2 t25_2 t24_2 t23_2 t22_2 t21_2 t20_2 t19_3 w22) ∧
    (∀ D20 : Nat → Bool, D20 1 = false → D20 0 = true → ∀ t29_2 t28_2 t27_2 t26_2 t25_2 t24_2 t23_2 t22_2 t21_2 t20_2 t19_2 : Value, ∀ w23 : World, A19 D20 t29_2 t28_2 t27_2 t26_2 t25_2 t24_2 t23_2 t22_2 t21_2 t20_2 t19_2 w23 →
      Run Try.prog (sOp (.load 27 (.const t19_2)) 27) w23 fun t20_3 w24 =>
      A19 (setD D20 1) t29_2 t28_2 t27_2 t26_2 t25_2 t24_2 t23_2 t22_2 t21_2 t20_3 t19_2 w24) ∧
    (∀ D20 : Nat → Bool, D20 2 = false → ∀ t29_2 t28_2 t27_2 t26_2 t25_2 t24_2 t23_2 t22_2 t21_2 t20_2 t19_2 : Value, ∀ w25 : World, A19 D20 t29_2 t28_2 t27_2 t26_2 t25_2 t24_2 t23_2 t22_2 t21_2 t20_2 t19_2 w25 →
      Run Try.prog (sOp (.fieldAddr 31 (.const t1) 3) 0) w25 fun t21_3 w26 =>
      A19 (setD D20 2) t29_2 t28_2 t27_2 t26_2 t25_2 t24_2 t23_2 t22_2 t21_3 t20_2 t19_2 w26) ∧
    (∀ D20 : Nat → Bool, D20 3 = false → D20 2 = true → ∀ t29_2 t28_2 t27_2 t26_2 t25_2 t24_2 t23_2 t22_2 t21_2 t20_2 t19_2 : Value, ∀ w27 : World, A19 D20 t29_2 t28_2 t27_2 t26_2 t25_2 t24_2 t23_2 t22_2 t21_2 t20_2 t19_2 w27 →
      Run Try.prog (sOp (.load 27 (.const t21_2)) 27) w27 fun t22_3 w28 =>
      A19 (setD D20 3) t29_2 t28_2 t27_2 t26_2 t25_2 t24_2 t23_2 t22_3 t21_2 t20_2 t19_2 w28) ∧
    (∀ D20 : Nat → Bool, D20 4 = false → ∀ t29_2 t28_2 t27_2 t26_2 t25_2 t24_2 t23_2 t22_2 t21_2 t20_2 t19_2 : Value, ∀ w29 : World, A19 D20 t29_2 t28_2 t27_2 t26_2 t25_2 t24_2 t23_2 t22_2 t21_2 t20_2 t19_2 w29 →
      A19 (setD D20 4) t29_2 t28_2 t27_2 t26_2 t25_2 t24_2 t4 t22_2 t21_2 t20_2 t19_2 w29) ∧
    (∀ D20 : Nat → Bool, D20 5 = false → D20 3 = true → D20 4 = true → ∀ t29_2 t28_2 t27_2 t26_2 t25_2 t24_2 t23_2 t22_2 t21_2 t20_2 t19_2 : Value, ∀ w30 : World, A19 D20 t29_2 t28_2 t27_2 t26_2 t25_2 t24_2 t23_2 t22_2 t21_2 t20_2 t19_2 w30 →
      Run Try.prog (sOp (.indexAddr 27 (.const t22_2) (.const t23_2)) 0) w30 fun t24_3 w31 =>
      A19 (setD D20 5) t29_2 t28_2 t27_2 t26_2 t25_2 t24_3 t23_2 t22_2 t21_2 t20_2 t19_2 w31) ∧
    (∀ D20 : Nat → Bool, D20 6 = false → D20 5 = true → ∀ t29_2 t28_2 t27_2 t26_2 t25_2 t24_2 t23_2 t22_2 t21_2 t20_2 t19_2 : Value, ∀ w32 : World, A19 D20 t29_2 t28_2 t27_2 t26_2 t25_2 t24_2 t23_2 t22_2 t21_2 t20_2 t19_2 w32 →
      Run Try.prog (sOp (.load 31 (.const t24_2)) 31) w32 fun t25_3 w33 =>
      A19 (setD D20 6) t29_2 t28_2 t27_2 t26_2 t25_3 t24_2 t23_2 t22_2 t21_2 t20_2 t19_2 w33) ∧
    (∀ D20 : Nat → Bool, D20 7 = false → D20 6 = true → ∀ t29_2 t28_2 t27_2 t26_2 t25_2 t24_2 t23_2 t22_2 t21_2 t20_2 t19_2 : Value, ∀ w34 : World, A19 D20 t29_2 t28_2 t27_2 t26_2 t25_2 t24_2 t23_2 t22_2 t21_2 t20_2 t19_2 w34 →
      Run Try.prog (sCall (Value.func (.func 64) #[] #[]) [t25_2]) w34 fun t26_3 w35 =>
      A19 (setD D20 7) t29_2 t28_2 t27_2 t26_3 t25_2 t24_2 t23_2 t22_2 t21_2 t20_2 t19_2 w35) ∧
    (∀ D20 : Nat → Bool, D20 8 = false → D20 7 = true → ∀ t29_2 t28_2 t27_2 t26_2 t25_2 t24_2 t23_2 t22_2 t21_2 t20_2 t19_2 : Value, ∀ w36 : World, A19 D20 t29_2 t28_2 t27_2 t26_2 t25_2 t24_2 t23_2 t22_2 t21_2 t20_2 t19_2 w36 →
      Run Try.prog (sBuildSlice 27 1 [(0, t26_2)]) w36 fun t27_3 w37 =>
      A19 (setD D20 8) t29_2 t28_2 t27_3 t26_2 t25_2 t24_2 t23_2 t22_2 t21_2 t20_2 t19_2 w37) ∧
    (∀ D20 : Nat → Bool, D20 9 = false → D20 1 = true → D20 8 = true → D20 7 = true → ∀ t29_2 t28_2 t27_2 t26_2 t25_2 t24_2 t23_2 t22_2 t21_2 t20_2 t19_2 : Value, ∀ w38 : World, A19 D20 t29_2 t28_2 t27_2 t26_2 t25_2 t24_2 t23_2 t22_2 t21_2 t20_2 t19_2 w38 →
      Run Try.prog (sBuiltin .append #[27, 27] 27 [false, false] [t20_2, t27_2]) w38 fun t28_3 w39 =>
      A19 (setD D20 9) t29_2 t28_3 t27_2 t26_2 t25_2 t24_2 t23_2 t22_2 t21_2 t20_2 t19_2 w39) ∧
    (∀ D20 : Nat → Bool, D20 10 = false → D20 0 = true → D20 1 = true → D20 2 = true → D20 3 = true → D20 4 = true → D20 5 = true → D20 6 = true → D20 7 = true → D20 8 = true → D20 9 = true → ∀ t29_2 t28_2 t27_2 t26_2 t25_2 t24_2 t23_2 t22_2 t21_2 t20_2 t19_2 : Value, ∀ w40 : World, A19 D20 t29_2 t28_2 t27_2 t26_2 t25_2 t24_2 t23_2 t22_2 t21_2 t20_2 t19_2 w40 →
      Run Try.prog (sOp (.fieldAddr 31 (.const t3) 3) 0) w40 fun t29_3 w41 =>
      A19 (setD D20 10) t29_3 t28_2 t27_2 t26_2 t25_2 t24_2 t23_2 t22_2 t21_2 t20_2 t19_2 w41) ∧
    (∀ D20 : Nat → Bool, D20 11 = false → D20 10 = true → D20 9 = true → D20 9 = true → D20 0 = true → D20 1 = true → D20 2 = true → D20 3 = true → D20 4 = true → D20 5 = true → D20 6 = true → D20 7 = true → D20 8 = true → D20 9 = true → ∀ t29_2 t28_2 t27_2 t26_2 t25_2 t24_2 t23_2 t22_2 t21_2 t20_2 t19_2 : Value, ∀ w42 : World, A19 D20 t29_2 t28_2 t27_2 t26_2 t25_2 t24_2 t23_2 t22_2 t21_2 t20_2 t19_2 w42 →
      Run Try.prog (sOp (.store 27 (.const t29_2) (.const t28_2)) 0) w42 fun _u w43 =>
      A19 (setD D20 11) t29_2 t28_2 t27_2 t26_2 t25_2 t24_2 t23_2 t22_2 t21_2 t20_2 t19_2 w43) ∧
    True) ∧
  ∀ D20 : Nat → Bool, D20 11 = true → D20 10 = true → D20 9 = true → D20 8 = true → D20 7 = true → D20 6 = true → D20 5 = true → D20 4 = true → D20 3 = true → D20 2 = true → D20 1 = true → D20 0 = true → ∀ t29_2 t28_2 t27_2 t26_2 t25_2 t24_2 t23_2 t22_2 t21_2 t20_2 t19_2 : Value, ∀ w44 : World, A19 D20 t29_2 t28_2 t27_2 t26_2 t25_2 t24_2 t23_2 t22_2 t21_2 t20_2 t19_2 w44 →
  Run Try.prog (sBin .add 3 false true t4 (Value.int .i64 1)) w44 fun t18_2 w45 =>
  I12 t18_2 w45 ∧ m13 t18_2 w45 < m13 t4 w14)) (
    Run Try.prog (sOp (.load 31 (.const t3)) 31) w18 fun t30 w46 =>
  Run Try.prog (sOp (.store 31 (.const t2) (.const t30)) 0) w46 fun _ w47 =>
  (LoadV Try.prog 31 t2 w47 fun r0 => R (.returned r0) w47)))
theorem calls_s_l1Copy {p0 : Value} {w : World} {R : Ending → World → Prop} (h : sh_s_l1Copy p0 w R) : Calls Try.prog 64 #[p0] w R :=
  calls_sh (.seq none .leaf (.seq none .leaf (.seq none (.seq none .leaf (.one (.loop [4] .leaf))) .leaf))) [p0] mixed Try.func64 (by kernel_rfl) (by kernel_rfl) h


/- loop.example/prologserver/impl.ownList : function 65 -/
def sh_i_ownList (p0 : Value) (w : World) (R : Ending → World → Prop) : Prop :=
  Run Try.prog (sBuiltin .len #[27] 3 [false] [p0]) w fun t7 w1 =>
  (∃ (I2 : Value → Value → World → Prop) (m3 : Value → Value → World → Nat), I2 (Value.int .i64 0) (Value.slice none 0 0) w1 ∧
  ∀ t8 _ t3 _ _ _ _ _ _ _ _ _ : Value, ∀ w4 : World, I2 t8 t3 w4 →
  Run Try.prog (sBin .lss 3 false false t8 t7) w4 fun t9_2 w5 =>
  CondV t9_2 (
    Run Try.prog (sOp (.indexAddr 27 (.const p0) (.const t8)) 0) w5 fun t10_2 w6 =>
  Run Try.prog (sOp (.load 31 (.const t10_2)) 31) w6 fun t11_2 w7 =>
  Run Try.prog (sOp (.alloc 31) 0) w7 fun t5_2 w8 =>
  Run Try.prog (sOp (.store 31 (.const t5_2) (.const t11_2)) 0) w8 fun _ w9 =>
  Run Try.prog (sOp (.load 31 (.const t5_2)) 31) w9 fun t13_2 w10 =>
  Run Try.prog (sCall (Value.func (.func 114) #[] #[]) [t13_2]) w10 fun t14_2 w11 =>
  Run Try.prog (sBuildSlice 27 1 [(0, t14_2)]) w11 fun t15_2 w12 =>
  Run Try.prog (sBuiltin .append #[27, 27] 27 [false, false] [t3, t15_2]) w12 fun t16_2 w13 =>
  Run Try.prog (sBin .add 3 false true t8 (Value.int .i64 1)) w13 fun t17_2 w14 =>
  I2 t17_2 t16_2 w14 ∧ m3 t17_2 t16_2 w14 < m3 t8 t3 w4) (
    R (.returned t3) w5))
theorem calls_i_ownList {p0 : Value} {w : World} {R : Ending → World → Prop} (h : sh_i_ownList p0 w R) : Calls Try.prog 65 #[p0] w R :=
  calls_sh (.seq none .leaf (.seq none .leaf (.seq none (.seq none .leaf (.one (.loop [8, 3] .leaf))) .leaf))) [p0] mixed Try.func65 (by kernel_rfl) (by kernel_rfl) h


/- slices.DeleteFunc[[]loop.example/prologserver/impl.Term,loop.example/prologserver/impl.Term] : function 66 -/
def sh_x_DeleteFunc_Term (p0 p1 : Value) (w : World) (R : Ending → World → Prop) : Prop :=
  Run Try.prog (sCall (Value.func (.func 115) #[] #[]) [p0, p1]) w fun t10 w1 =>
  Run Try.prog (sBin .eql 3 false true t10 (Value.int .i64 (-1))) w1 fun t12 w2 =>
  CondV t12 (
    R (.returned p0) w2) (
    Run Try.prog (sBin .add 3 false true t10 (Value.int .i64 1)) w2 fun t15 w3 =>
  (∃ (I4 : Value → Value → World → Prop) (m5 : Value → Value → World → Nat), I4 t15 t10 w3 ∧
  ∀ t6 _ _ t5 _ _ _ _ _ _ _ _ _ _ _ _ _ _ _ _ _ _ _ : Value, ∀ w6 : World, I4 t6 t5 w6 →
  Run Try.prog (sBuiltin .len #[27] 3 [false] [p0]) w6 fun t18_2 w7 =>
  Run Try.prog (sBin .lss 3 false false t6 t18_2) w7 fun t19_2 w8 =>
  CondV t19_2 (
    (∃ J9 : Value → World → Prop, (
    Run Try.prog (sOp (.indexAddr 27 (.const p0) (.const t6)) 0) w8 fun t24_2 w10 =>
    Run Try.prog (sOp (.load 31 (.const t24_2)) 31) w10 fun t25_2 w11 =>
    Run Try.prog (sOp (.alloc 31) 0) w11 fun t7_2 w12 =>
    Run Try.prog (sOp (.store 31 (.const t7_2) (.const t25_2)) 0) w12 fun _u w13 =>
    Run Try.prog (sOp (.load 31 (.const t7_2)) 31) w13 fun t27_2 w14 =>
    Run Try.prog (sCall p1 [t27_2]) w14 fun t28_2 w15 =>
    Run Try.prog (sOp (.unOp .not 4 (.const t28_2)) 4) w15 fun t29_2 w16 =>
    CondV t29_2 (
      Run Try.prog (sOp (.load 31 (.const t7_2)) 31) w16 fun t32_2 w17 =>
      Run Try.prog (sOp (.indexAddr 27 (.const p0) (.const t5)) 0) w17 fun t33_2 w18 =>
      Run Try.prog (sOp (.store 31 (.const t33_2) (.const t32_2)) 0) w18 fun _u w19 =>
      Run Try.prog (sBin .add 3 false true t5 (Value.int .i64 1)) w19 fun t35_2 w20 =>
      J9 t35_2 w20) (
      J9 t5 w16)) ∧
  ∀ t5_2 _ _ _ _ _ _ _ _ _ _ _ _ _ _ _ : Value, ∀ w21 : World, J9 t5_2 w21 →
  Run Try.prog (sBin .add 3 false true t6 (Value.int .i64 1)) w21 fun t21_2 w22 =>
  I4 t21_2 t5_2 w22 ∧ m5 t21_2 t5_2 w22 < m5 t6 t5 w6)) (
    Run Try.prog (sOp (.slice 27 (.const p0) (some (.const t5)) none none) 27) w8 fun t38 w23 =>
  Run Try.prog (sBuiltin .clear #[27] 0 [false] [t38]) w23 fun _ w24 =>
  Run Try.prog (sOp (.slice 27 (.const p0) none (some (.const t5)) none) 27) w24 fun t41 w25 =>
  R (.returned t41) w25)))
theorem calls_x_DeleteFunc_Term {p0 p1 : Value} {w : World} {R : Ending → World → Prop} (h : sh_x_DeleteFunc_Term p0 p1 w R) : Calls Try.prog 66 #[p0, p1] w R :=
  calls_sh (.seq none .leaf (.seq none .leaf (.seq none .leaf (.seq none (.seq none .leaf (.one (.loop [6, 5] (.seq none .leaf (.seq (some [5]) .leaf .leaf))))) .leaf)))) [p0, p1] mixed Try.func66 (by kernel_rfl) (by kernel_rfl) h


/- slices.Clone[[]loop.example/prologserver/impl.Term,loop.example/prologserver/impl.Term] : function 67 -/
def sh_x_Clone_Term (p0 : Value) (w : World) (R : Ending → World → Prop) : Prop :=
  Run Try.prog (sBin .eql 27 false true p0 (Value.slice none 0 0)) w fun t4 w1 =>
  CondV t4 (
    R (.returned (Value.slice none 0 0)) w1) (
    Run Try.prog (sBuildSlice 27 0 []) w1 fun t5 w2 =>
  Run Try.prog (sBuiltin .append #[27, 27] 27 [false, false] [t5, p0]) w2 fun t7 w3 =>
  R (.returned t7) w3)
theorem calls_x_Clone_Term {p0 : Value} {w : World} {R : Ending → World → Prop} (h : sh_x_Clone_Term p0 w R) : Calls Try.prog 67 #[p0] w R :=
  calls_sh .leaf [p0] mixed Try.func67 (by kernel_rfl) (by kernel_rfl) h


/- loop.example/prologserver/laws.markText : function 70 -/
def sh_l_markText (p0 : Value) (w : World) (R : Ending → World → Prop) : Prop :=
  Run Try.prog (sBin .leq 3 false true p0 (Value.int .i64 0)) w fun t5 w1 =>
  CondV t5 (
    R (.returned (Value.string ⟨#[109, 48]⟩)) w1) (
    (∃ (I2 : Value → Value → World → Prop) (m3 : Value → Value → World → Nat), I2 p0 (Value.string ⟨#[]⟩) w1 ∧
  ∀ t0 _ _ t3 _ _ _ _ _ _ _ _ _ _ : Value, ∀ w4 : World, I2 t0 t3 w4 →
  Run Try.prog (sBin .gtr 3 false true t0 (Value.int .i64 0)) w4 fun t7_2 w5 =>
  CondV t7_2 (
    Run Try.prog (sBin .rem 3 false true t0 (Value.int .i64 10)) w5 fun t9_2 w6 =>
  Run Try.prog (sBin .add 3 true false (Value.int .i64 48) t9_2) w6 fun t10_2 w7 =>
  Run Try.prog (sOp (.convert 3 5 (.const t10_2)) 5) w7 fun t11_2 w8 =>
  Run Try.prog (sBuildSlice 107 1 [(0, t11_2)]) w8 fun t12_2 w9 =>
  Run Try.prog (sOp (.convert 107 9 (.const t12_2)) 9) w9 fun t13_2 w10 =>
  Run Try.prog (sBin .add 9 false false t13_2 t3) w10 fun t15_2 w11 =>
  Run Try.prog (sBin .quo 3 false true t0 (Value.int .i64 10)) w11 fun t17_2 w12 =>
  I2 t17_2 t15_2 w12 ∧ m3 t17_2 t15_2 w12 < m3 t0 t3 w4) (
    Run Try.prog (sBin .add 9 true false (Value.string ⟨#[109]⟩) t3) w5 fun t19 w13 =>
  R (.returned t19) w13)))
theorem calls_l_markText {p0 : Value} {w : World} {R : Ending → World → Prop} (h : sh_l_markText p0 w R) : Calls Try.prog 70 #[p0] w R :=
  calls_sh (.seq none .leaf (.seq none .leaf (.seq none .leaf (.seq none (.one (.loop [0, 3] .leaf)) .leaf)))) [p0] mixed Try.func70 (by kernel_rfl) (by kernel_rfl) h


/- loop.example/prologserver/spec.ProgramValid : function 71 -/
def sh_s_ProgramValid (p0 : Value) (w : World) (R : Ending → World → Prop) : Prop :=
  (∃ (I1 : Value → World → Prop) (m2 : Value → World → Nat), I1 (Value.int .i64 0) w ∧
  ∀ t3 _ _ _ _ _ _ _ _ _ _ _ _ _ _ _ _ _ : Value, ∀ w3 : World, I1 t3 w3 →
  (∃ J4 : Value → World → Prop, (
    Run Try.prog (sBuiltin .len #[41] 3 [false] [p0]) w3 fun t6_2 w5 =>
    Run Try.prog (sBin .lss 3 false false t3 t6_2) w5 fun t7_2 w6 =>
    GuardV t7_2 true (
      Run Try.prog (sBin .leq 3 false true t3 (Value.int .i64 20)) w6 fun t10_2 w7 =>
      Run Try.prog (sOp (.pick (.const t7_2) (.const t10_2) (.const (Value.bool false))) 4) w7 fun t11_2 w8 =>
      J4 t11_2 w8) (
      Run Try.prog (sOp (.pick (.const t7_2) (.const undef) (.const (Value.bool false))) 4) w6 fun t11_3 w9 =>
      J4 t11_3 w9)) ∧
  ∀ t11_4 _ _ _ _ _ _ _ : Value, ∀ w10 : World, J4 t11_4 w10 →
  CondV t11_4 (
    Run Try.prog (sOp (.indexAddr 41 (.const p0) (.const t3)) 0) w10 fun t16_2 w11 =>
  Run Try.prog (sOp (.load 50 (.const t16_2)) 50) w11 fun t17_2 w12 =>
  Run Try.prog (sCall (Value.func (.func 84) #[] #[]) [t17_2]) w12 fun t18_2 w13 =>
  Run Try.prog (sOp (.unOp .not 4 (.const t18_2)) 4) w13 fun t19_2 w14 =>
  CondV t19_2 (
    R (.returned (Value.bool false)) w14) (
    Run Try.prog (sBin .add 3 false true t3 (Value.int .i64 1)) w14 fun t13_2 w15 =>
  I1 t13_2 w15 ∧ m2 t13_2 w15 < m2 t3 w3)) (
    Run Try.prog (sBuiltin .len #[41] 3 [false] [p0]) w10 fun t21 w16 =>
  Run Try.prog (sBin .leq 3 false true t21 (Value.int .i64 20)) w16 fun t22 w17 =>
  R (.returned t22) w17)))
theorem calls_s_ProgramValid {p0 : Value} {w : World} {R : Ending → World → Prop} (h : sh_s_ProgramValid p0 w R) : Calls Try.prog 71 #[p0] w R :=
  calls_sh (.seq none .leaf (.seq none (.seq none .leaf (.one (.loop [3] (.seq none (.seq (some [11]) .leaf .leaf) .leaf)))) .leaf)) [p0] mixed Try.func71 (by kernel_rfl) (by kernel_rfl) h


/- loop.example/prologserver/spec.l4For : function 73 -/
def sh_s_l4For (p0 p1 : Value) (w : World) (R : Ending → World → Prop) : Prop :=
  Run Try.prog (sOp (.box 31 (.const p1)) 0) w fun t3 w1 =>
  Run Try.prog (sBuildSlice 84 0 []) w1 fun t7 w2 =>
  (∃ (I3 : Value → Value → World → Prop) (m4 : Value → Value → World → Nat), I3 (Value.int .i64 0) t7 w2 ∧
  ∀ t6 _ _ t5 _ _ _ _ t35 t34 t33 t32 t31 t30 t29 t28 t27 t26 t25 t24 t23 t22 t21 t20 t19 t18 t17 t16 t15 t14 _ _ _ _ : Value, ∀ w5 : World, I3 t6 t5 w5 →
  Run Try.prog (sBuiltin .len #[41] 3 [false] [p0]) w5 fun t10_2 w6 =>
  Run Try.prog (sBin .lss 3 false false t6 t10_2) w6 fun t11_2 w7 =>
  CondV t11_2 (
    (∃ J8 : Value → World → Prop, (
    (∃ A9 : (Nat → Bool) → Value → Value → Value → Value → Value → Value → Value → Value → Value → Value → Value → Value → Value → Value → Value → Value → Value → Value → Value → Value → Value → Value → World → Prop, A9 (fun _ => false) t35 t34 t33 t32 t31 t30 t29 t28 t27 t26 t25 t24 t23 t22 t21 t20 t19 t18 t17 t16 t15 t14 { w7 with drawn := w7.drawn + 1 } ∧ (
      (∀ D10 : Nat → Bool, D10 0 = false → ∀ t35_2 t34_2 t33_2 t32_2 t31_2 t30_2 t29_2 t28_2 t27_2 t26_2 t25_2 t24_2 t23_2 t22_2 t21_2 t20_2 t19_2 t18_2 t17_2 t16_2 t15_2 t14_2 : Value, ∀ w11 : World, A9 D10 t35_2 t34_2 t33_2 t32_2 t31_2 t30_2 t29_2 t28_2 t27_2 t26_2 t25_2 t24_2 t23_2 t22_2 t21_2 t20_2 t19_2 t18_2 t17_2 t16_2 t15_2 t14_2 w11 →
        A9 (setD D10 0) t35_2 t34_2 t33_2 t32_2 t31_2 t30_2 t29_2 t28_2 t27_2 t26_2 t25_2 t24_2 t23_2 t22_2 t21_2 t20_2 t19_2 t18_2 t17_2 t16_2 t15_2 p0 w11) ∧
      (∀ D10 : Nat → Bool, D10 1 = false → ∀ t35_2 t34_2 t33_2 t32_2 t31_2 t30_2 t29_2 t28_2 t27_2 t26_2 t25_2 t24_2 t23_2 t22_2 t21_2 t20_2 t19_2 t18_2 t17_2 t16_2 t15_2 t14_2 : Value, ∀ w12 : World, A9 D10 t35_2 t34_2 t33_2 t32_2 t31_2 t30_2 t29_2 t28_2 t27_2 t26_2 t25_2 t24_2 t23_2 t22_2 t21_2 t20_2 t19_2 t18_2 t17_2 t16_2 t15_2 t14_2 w12 →
        A9 (setD D10 1) t35_2 t34_2 t33_2 t32_2 t31_2 t30_2 t29_2 t28_2 t27_2 t26_2 t25_2 t24_2 t23_2 t22_2 t21_2 t20_2 t19_2 t18_2 t17_2 t16_2 t6 t14_2 w12) ∧
      (∀ D10 : Nat → Bool, D10 2 = false → D10 0 = true → D10 1 = true → ∀ t35_2 t34_2 t33_2 t32_2 t31_2 t30_2 t29_2 t28_2 t27_2 t26_2 t25_2 t24_2 t23_2 t22_2 t21_2 t20_2 t19_2 t18_2 t17_2 t16_2 t15_2 t14_2 : Value, ∀ w13 : World, A9 D10 t35_2 t34_2 t33_2 t32_2 t31_2 t30_2 t29_2 t28_2 t27_2 t26_2 t25_2 t24_2 t23_2 t22_2 t21_2 t20_2 t19_2 t18_2 t17_2 t16_2 t15_2 t14_2 w13 →
        Run Try.prog (sOp (.indexAddr 41 (.const t14_2) (.const t15_2)) 0) w13 fun t16_3 w14 =>
        A9 (setD D10 2) t35_2 t34_2 t33_2 t32_2 t31_2 t30_2 t29_2 t28_2 t27_2 t26_2 t25_2 t24_2 t23_2 t22_2 t21_2 t20_2 t19_2 t18_2 t17_2 t16_3 t15_2 t14_2 w14) ∧
      (∀ D10 : Nat → Bool, D10 3 = false → D10 2 = true → ∀ t35_2 t34_2 t33_2 t32_2 t31_2 t30_2 t29_2 t28_2 t27_2 t26_2 t25_2 t24_2 t23_2 t22_2 t21_2 t20_2 t19_2 t18_2 t17_2 t16_2 t15_2 t14_2 : Value, ∀ w15 : World, A9 D10 t35_2 t34_2 t33_2 t32_2 t31_2 t30_2 t29_2 t28_2 t27_2 t26_2 t25_2 t24_2 t23_2 t22_2 t21_2 t20_2 t19_2 t18_2 t17_2 t16_2 t15_2 t14_2 w15 →
        Run Try.prog (sOp (.fieldAddr 50 (.const t16_2) 0) 0) w15 fun t17_3 w16 =>
        A9 (setD D10 3) t35_2 t34_2 t33_2 t32_2 t31_2 t30_2 t29_2 t28_2 t27_2 t26_2 t25_2 t24_2 t23_2 t22_2 t21_2 t20_2 t19_2 t18_2 t17_3 t16_2 t15_2 t14_2 w16) ∧
      (∀ D10 : Nat → Bool, D10 4 = false → D10 3 = true → ∀ t35_2 t34_2 t33_2 t32_2 t31_2 t30_2 t29_2 t28_2 t27_2 t26_2 t25_2 t24_2 t23_2 t22_2 t21_2 t20_2 t19_2 t18_2 t17_2 t16_2 t15_2 t14_2 : Value, ∀ w17 : World, A9 D10 t35_2 t34_2 t33_2 t32_2 t31_2 t30_2 t29_2 t28_2 t27_2 t26_2 t25_2 t24_2 t23_2 t22_2 t21_2 t20_2 t19_2 t18_2 t17_2 t16_2 t15_2 t14_2 w17 →
        Run Try.prog (sOp (.fieldAddr 31 (.const t17_2) 2) 0) w17 fun t18_3 w18 =>
        A9 (setD D10 4) t35_2 t34_2 t33_2 t32_2 t31_2 t30_2 t29_2 t28_2 t27_2 t26_2 t25_2 t24_2 t23_2 t22_2 t21_2 t20_2 t19_2 t18_3 t17_2 t16_2 t15_2 t14_2 w18) ∧
      (∀ D10 : Nat → Bool, D10 5 = false → D10 4 = true → ∀ t35_2 t34_2 t33_2 t32_2 t31_2 t30_2 t29_2 t28_2 t27_2 t26_2 t25_2 t24_2 t23_2 t22_2 t21_2 t20_2 t19_2 t18_2 t17_2 t16_2 t15_2 t14_2 : Value, ∀ w19 : World, A9 D10 t35_2 t34_2 t33_2 t32_2 t31_2 t30_2 t29_2 t28_2 t27_2 t26_2 t25_2 t24_2 t23_2 t22_2 t21_2 t20_2 t19_2 t18_2 t17_2 t16_2 t15_2 t14_2 w19 →
        Run Try.prog (sOp (.load 9 (.const t18_2)) 9) w19 fun t19_3 w20 =>
        A9 (setD D10 5) t35_2 t34_2 t33_2 t32_2 t31_2 t30_2 t29_2 t28_2 t27_2 t26_2 t25_2 t24_2 t23_2 t22_2 t21_2 t20_2 t19_3 t18_2 t17_2 t16_2 t15_2 t14_2 w20) ∧
      (∀ D10 : Nat → Bool, D10 6 = false → ∀ t35_2 t34_2 t33_2 t32_2 t31_2 t30_2 t29_2 t28_2 t27_2 t26_2 t25_2 t24_2 t23_2 t22_2 t21_2 t20_2 t19_2 t18_2 t17_2 t16_2 t15_2 t14_2 : Value, ∀ w21 : World, A9 D10 t35_2 t34_2 t33_2 t32_2 t31_2 t30_2 t29_2 t28_2 t27_2 t26_2 t25_2 t24_2 t23_2 t22_2 t21_2 t20_2 t19_2 t18_2 t17_2 t16_2 t15_2 t14_2 w21 →
        Run Try.prog (sOp (.fieldAddr 31 (.const t3) 2) 0) w21 fun t20_3 w22 =>
        A9 (setD D10 6) t35_2 t34_2 t33_2 t32_2 t31_2 t30_2 t29_2 t28_2 t27_2 t26_2 t25_2 t24_2 t23_2 t22_2 t21_2 t20_3 t19_2 t18_2 t17_2 t16_2 t15_2 t14_2 w22) ∧
      (∀ D10 : Nat → Bool, D10 7 = false → D10 6 = true → ∀ t35_2 t34_2 t33_2 t32_2 t31_2 t30_2 t29_2 t28_2 t27_2 t26_2 t25_2 t24_2 t23_2 t22_2 t21_2 t20_2 t19_2 t18_2 t17_2 t16_2 t15_2 t14_2 : Value, ∀ w23 : World, A9 D10 t35_2 t34_2 t33_2 t32_2 t31_2 t30_2 t29_2 t28_2 t27_2 t26_2 t25_2 t24_2 t23_2 t22_2 t21_2 t20_2 t19_2 t18_2 t17_2 t16_2 t15_2 t14_2 w23 →
        Run Try.prog (sOp (.load 9 (.const t20_2)) 9) w23 fun t21_3 w24 =>
        A9 (setD D10 7) t35_2 t34_2 t33_2 t32_2 t31_2 t30_2 t29_2 t28_2 t27_2 t26_2 t25_2 t24_2 t23_2 t22_2 t21_3 t20_2 t19_2 t18_2 t17_2 t16_2 t15_2 t14_2 w24) ∧
      (∀ D10 : Nat → Bool, D10 8 = false → D10 5 = true → D10 7 = true → ∀ t35_2 t34_2 t33_2 t32_2 t31_2 t30_2 t29_2 t28_2 t27_2 t26_2 t25_2 t24_2 t23_2 t22_2 t21_2 t20_2 t19_2 t18_2 t17_2 t16_2 t15_2 t14_2 : Value, ∀ w25 : World, A9 D10 t35_2 t34_2 t33_2 t32_2 t31_2 t30_2 t29_2 t28_2 t27_2 t26_2 t25_2 t24_2 t23_2 t22_2 t21_2 t20_2 t19_2 t18_2 t17_2 t16_2 t15_2 t14_2 w25 →
        Run Try.prog (sBin .eql 9 false false t19_2 t21_2) w25 fun t22_3 w26 =>
        A9 (setD D10 8) t35_2 t34_2 t33_2 t32_2 t31_2 t30_2 t29_2 t28_2 t27_2 t26_2 t25_2 t24_2 t23_2 t22_3 t21_2 t20_2 t19_2 t18_2 t17_2 t16_2 t15_2 t14_2 w26) ∧
      (∀ D10 : Nat → Bool, D10 9 = false → D10 8 = true → ∀ t35_2 t34_2 t33_2 t32_2 t31_2 t30_2 t29_2 t28_2 t27_2 t26_2 t25_2 t24_2 t23_2 t22_2 t21_2 t20_2 t19_2 t18_2 t17_2 t16_2 t15_2 t14_2 : Value, ∀ w27 : World, A9 D10 t35_2 t34_2 t33_2 t32_2 t31_2 t30_2 t29_2 t28_2 t27_2 t26_2 t25_2 t24_2 t23_2 t22_2 t21_2 t20_2 t19_2 t18_2 t17_2 t16_2 t15_2 t14_2 w27 →
        A9 (setD D10 9) t35_2 t34_2 t33_2 t32_2 t31_2 t30_2 t29_2 t28_2 t27_2 t26_2 t25_2 t24_2 t22_2 t22_2 t21_2 t20_2 t19_2 t18_2 t17_2 t16_2 t15_2 t14_2 w27) ∧
      (∀ D10 : Nat → Bool, D10 10 = false → D10 9 = true → ∀ t35_2 t34_2 t33_2 t32_2 t31_2 t30_2 t29_2 t28_2 t27_2 t26_2 t25_2 t24_2 t23_2 t22_2 t21_2 t20_2 t19_2 t18_2 t17_2 t16_2 t15_2 t14_2 : Value, ∀ w28 : World, A9 D10 t35_2 t34_2 t33_2 t32_2 t31_2 t30_2 t29_2 t28_2 t27_2 t26_2 t25_2 t24_2 t23_2 t22_2 t21_2 t20_2 t19_2 t18_2 t17_2 t16_2 t15_2 t14_2 w28 →
        GuardV t23_2 true (A9 (setD D10 10) t35_2 t34_2 t33_2 t32_2 t31_2 t30_2 t29_2 t28_2 t27_2 t26_2 t25_2 p0 t23_2 t22_2 t21_2 t20_2 t19_2 t18_2 t17_2 t16_2 t15_2 t14_2 w28) (A9 (setD D10 10) t35_2 t34_2 t33_2 t32_2 t31_2 t30_2 t29_2 t28_2 t27_2 t26_2 t25_2 undef t23_2 t22_2 t21_2 t20_2 t19_2 t18_2 t17_2 t16_2 t15_2 t14_2 w28)) ∧
      (∀ D10 : Nat → Bool, D10 11 = false → D10 9 = true → ∀ t35_2 t34_2 t33_2 t32_2 t31_2 t30_2 t29_2 t28_2 t27_2 t26_2 t25_2 t24_2 t23_2 t22_2 t21_2 t20_2 t19_2 t18_2 t17_2 t16_2 t15_2 t14_2 : Value, ∀ w29 : World, A9 D10 t35_2 t34_2 t33_2 t32_2 t31_2 t30_2 t29_2 t28_2 t27_2 t26_2 t25_2 t24_2 t23_2 t22_2 t21_2 t20_2 t19_2 t18_2 t17_2 t16_2 t15_2 t14_2 w29 →
        GuardV t23_2 true (A9 (setD D10 11) t35_2 t34_2 t33_2 t32_2 t31_2 t30_2 t29_2 t28_2 t27_2 t26_2 t6 t24_2 t23_2 t22_2 t21_2 t20_2 t19_2 t18_2 t17_2 t16_2 t15_2 t14_2 w29) (A9 (setD D10 11) t35_2 t34_2 t33_2 t32_2 t31_2 t30_2 t29_2 t28_2 t27_2 t26_2 undef t24_2 t23_2 t22_2 t21_2 t20_2 t19_2 t18_2 t17_2 t16_2 t15_2 t14_2 w29)) ∧
      (∀ D10 : Nat → Bool, D10 12 = false → D10 10 = true → D10 11 = true → D10 9 = true → ∀ t35_2 t34_2 t33_2 t32_2 t31_2 t30_2 t29_2 t28_2 t27_2 t26_2 t25_2 t24_2 t23_2 t22_2 t21_2 t20_2 t19_2 t18_2 t17_2 t16_2 t15_2 t14_2 : Value, ∀ w30 : World, A9 D10 t35_2 t34_2 t33_2 t32_2 t31_2 t30_2 t29_2 t28_2 t27_2 t26_2 t25_2 t24_2 t23_2 t22_2 t21_2 t20_2 t19_2 t18_2 t17_2 t16_2 t15_2 t14_2 w30 →
        GuardV t23_2 true (Run Try.prog (sOp (.indexAddr 41 (.const t24_2) (.const t25_2)) 0) w30 fun t26_3 w31 =>
        A9 (setD D10 12) t35_2 t34_2 t33_2 t32_2 t31_2 t30_2 t29_2 t28_2 t27_2 t26_3 t25_2 t24_2 t23_2 t22_2 t21_2 t20_2 t19_2 t18_2 t17_2 t16_2 t15_2 t14_2 w31) (A9 (setD D10 12) t35_2 t34_2 t33_2 t32_2 t31_2 t30_2 t29_2 t28_2 t27_2 undef t25_2 t24_2 t23_2 t22_2 t21_2 t20_2 t19_2 t18_2 t17_2 t16_2 t15_2 t14_2 w30)) ∧
      (∀ D10 : Nat → Bool, D10 13 = false → D10 12 = true → D10 9 = true → ∀ t35_2 t34_2 t33_2 t32_2 t31_2 t30_2 t29_2 t28_2 t27_2 t26_2 t25_2 t24_2 t23_2 t22_2 t21_2 t20_2 t19_2 t18_2 t17_2 t16_2 t15_2 t14_2 : Value, ∀ w32 : World, A9 D10 t35_2 t34_2 t33_2 t32_2 t31_2 t30_2 t29_2 t28_2 t27_2 t26_2 t25_2 t24_2 t23_2 t22_2 t21_2 t20_2 t19_2 t18_2 t17_2 t16_2 t15_2 t14_2 w32 →
        GuardV t23_2 true (Run Try.prog (sOp (.fieldAddr 50 (.const t26_2) 0) 0) w32 fun t27_3 w33 =>
        A9 (setD D10 13) t35_2 t34_2 t33_2 t32_2 t31_2 t30_2 t29_2 t28_2 t27_3 t26_2 t25_2 t24_2 t23_2 t22_2 t21_2 t20_2 t19_2 t18_2 t17_2 t16_2 t15_2 t14_2 w33) (A9 (setD D10 13) t35_2 t34_2 t33_2 t32_2 t31_2 t30_2 t29_2 t28_2 undef t26_2 t25_2 t24_2 t23_2 t22_2 t21_2 t20_2 t19_2 t18_2 t17_2 t16_2 t15_2 t14_2 w32)) ∧
      (∀ D10 : Nat → Bool, D10 14 = false → D10 13 = true → D10 9 = true → ∀ t35_2 t34_2 t33_2 t32_2 t31_2 t30_2 t29_2 t28_2 t27_2 t26_2 t25_2 t24_2 t23_2 t22_2 t21_2 t20_2 t19_2 t18_2 t17_2 t16_2 t15_2 t14_2 : Value, ∀ w34 : World, A9 D10 t35_2 t34_2 t33_2 t32_2 t31_2 t30_2 t29_2 t28_2 t27_2 t26_2 t25_2 t24_2 t23_2 t22_2 t21_2 t20_2 t19_2 t18_2 t17_2 t16_2 t15_2 t14_2 w34 →
        GuardV t23_2 true (Run Try.prog (sOp (.fieldAddr 31 (.const t27_2) 3) 0) w34 fun t28_3 w35 =>
        A9 (setD D10 14) t35_2 t34_2 t33_2 t32_2 t31_2 t30_2 t29_2 t28_3 t27_2 t26_2 t25_2 t24_2 t23_2 t22_2 t21_2 t20_2 t19_2 t18_2 t17_2 t16_2 t15_2 t14_2 w35) (A9 (setD D10 14) t35_2 t34_2 t33_2 t32_2 t31_2 t30_2 t29_2 undef t27_2 t26_2 t25_2 t24_2 t23_2 t22_2 t21_2 t20_2 t19_2 t18_2 t17_2 t16_2 t15_2 t14_2 w34)) ∧
      (∀ D10 : Nat → Bool, D10 15 = false → D10 14 = true → D10 9 = true → ∀ t35_2 t34_2 t33_2 t32_2 t31_2 t30_2 t29_2 t28_2 t27_2 t26_2 t25_2 t24_2 t23_2 t22_2 t21_2 t20_2 t19_2 t18_2 t17_2 t16_2 t15_2 t14_2 : Value, ∀ w36 : World, A9 D10 t35_2 t34_2 t33_2 t32_2 t31_2 t30_2 t29_2 t28_2 t27_2 t26_2 t25_2 t24_2 t23_2 t22_2 t21_2 t20_2 t19_2 t18_2 t17_2 t16_2 t15_2 t14_2 w36 →
        GuardV t23_2 true (Run Try.prog (sOp (.load 27 (.const t28_2)) 27) w36 fun t29_3 w37 =>
        A9 (setD D10 15) t35_2 t34_2 t33_2 t32_2 t31_2 t30_2 t29_3 t28_2 t27_2 t26_2 t25_2 t24_2 t23_2 t22_2 t21_2 t20_2 t19_2 t18_2 t17_2 t16_2 t15_2 t14_2 w37) (A9 (setD D10 15) t35_2 t34_2 t33_2 t32_2 t31_2 t30_2 undef t28_2 t27_2 t26_2 t25_2 t24_2 t23_2 t22_2 t21_2 t20_2 t19_2 t18_2 t17_2 t16_2 t15_2 t14_2 w36)) ∧
      (∀ D10 : Nat → Bool, D10 16 = false → D10 15 = true → D10 9 = true → ∀ t35_2 t34_2 t33_2 t32_2 t31_2 t30_2 t29_2 t28_2 t27_2 t26_2 t25_2 t24_2 t23_2 t22_2 t21_2 t20_2 t19_2 t18_2 t17_2 t16_2 t15_2 t14_2 : Value, ∀ w38 : World, A9 D10 t35_2 t34_2 t33_2 t32_2 t31_2 t30_2 t29_2 t28_2 t27_2 t26_2 t25_2 t24_2 t23_2 t22_2 t21_2 t20_2 t19_2 t18_2 t17_2 t16_2 t15_2 t14_2 w38 →
        GuardV t23_2 true (Run Try.prog (sBuiltin .len #[27] 3 [false] [t29_2]) w38 fun t30_3 w39 =>
        A9 (setD D10 16) t35_2 t34_2 t33_2 t32_2 t31_2 t30_3 t29_2 t28_2 t27_2 t26_2 t25_2 t24_2 t23_2 t22_2 t21_2 t20_2 t19_2 t18_2 t17_2 t16_2 t15_2 t14_2 w39) (A9 (setD D10 16) t35_2 t34_2 t33_2 t32_2 t31_2 undef t29_2 t28_2 t27_2 t26_2 t25_2 t24_2 t23_2 t22_2 t21_2 t20_2 t19_2 t18_2 t17_2 t16_2 t15_2 t14_2 w38)) ∧
      (∀ D10 : Nat → Bool, D10 17 = false → D10 9 = true → ∀ t35_2 t34_2 t33_2 t32_2 t31_2 t30_2 t29_2 t28_2 t27_2 t26_2 t25_2 t24_2 t23_2 t22_2 t21_2 t20_2 t19_2 t18_2 t17_2 t16_2 t15_2 t14_2 : Value, ∀ w40 : World, A9 D10 t35_2 t34_2 t33_2 t32_2 t31_2 t30_2 t29_2 t28_2 t27_2 t26_2 t25_2 t24_2 t23_2 t22_2 t21_2 t20_2 t19_2 t18_2 t17_2 t16_2 t15_2 t14_2 w40 →
        GuardV t23_2 true (Run Try.prog (sOp (.fieldAddr 31 (.const t3) 3) 0) w40 fun t31_3 w41 =>
        A9 (setD D10 17) t35_2 t34_2 t33_2 t32_2 t31_3 t30_2 t29_2 t28_2 t27_2 t26_2 t25_2 t24_2 t23_2 t22_2 t21_2 t20_2 t19_2 t18_2 t17_2 t16_2 t15_2 t14_2 w41) (A9 (setD D10 17) t35_2 t34_2 t33_2 t32_2 undef t30_2 t29_2 t28_2 t27_2 t26_2 t25_2 t24_2 t23_2 t22_2 t21_2 t20_2 t19_2 t18_2 t17_2 t16_2 t15_2 t14_2 w40)) ∧
      (∀ D10 : Nat → Bool, D10 18 = false → D10 17 = true → D10 9 = true → ∀ t35_2 t34_2 t33_2 t32_2 t31_2 t30_2 t29_2 t28_2 t27_2 t26_2 t25_2 t24_2 t23_2 t22_2 t21_2 t20_2 t19_2 t18_2 t17_2 t16_2 t15_2 t14_2 : Value, ∀ w42 : World, A9 D10 t35_2 t34_2 t33_2 t32_2 t31_2 t30_2 t29_2 t28_2 t27_2 t26_2 t25_2 t24_2 t23_2 t22_2 t21_2 t20_2 t19_2 t18_2 t17_2 t16_2 t15_2 t14_2 w42 →
        GuardV t23_2 true (Run Try.prog (sOp (.load 27 (.const t31_2)) 27) w42 fun t32_3 w43 =>
        A9 (setD D10 18) t35_2 t34_2 t33_2 t32_3 t31_2 t30_2 t29_2 t28_2 t27_2 t26_2 t25_2 t24_2 t23_2 t22_2 t21_2 t20_2 t19_2 t18_2 t17_2 t16_2 t15_2 t14_2 w43) (A9 (setD D10 18) t35_2 t34_2 t33_2 undef t31_2 t30_2 t29_2 t28_2 t27_2 t26_2 t25_2 t24_2 t23_2 t22_2 t21_2 t20_2 t19_2 t18_2 t17_2 t16_2 t15_2 t14_2 w42)) ∧
      (∀ D10 : Nat → Bool, D10 19 = false → D10 18 = true → D10 9 = true → ∀ t35_2 t34_2 t33_2 t32_2 t31_2 t30_2 t29_2 t28_2 t27_2 t26_2 t25_2 t24_2 t23_2 t22_2 t21_2 t20_2 t19_2 t18_2 t17_2 t16_2 t15_2 t14_2 : Value, ∀ w44 : World, A9 D10 t35_2 t34_2 t33_2 t32_2 t31_2 t30_2 t29_2 t28_2 t27_2 t26_2 t25_2 t24_2 t23_2 t22_2 t21_2 t20_2 t19_2 t18_2 t17_2 t16_2 t15_2 t14_2 w44 →
        GuardV t23_2 true (Run Try.prog (sBuiltin .len #[27] 3 [false] [t32_2]) w44 fun t33_3 w45 =>
        A9 (setD D10 19) t35_2 t34_2 t33_3 t32_2 t31_2 t30_2 t29_2 t28_2 t27_2 t26_2 t25_2 t24_2 t23_2 t22_2 t21_2 t20_2 t19_2 t18_2 t17_2 t16_2 t15_2 t14_2 w45) (A9 (setD D10 19) t35_2 t34_2 undef t32_2 t31_2 t30_2 t29_2 t28_2 t27_2 t26_2 t25_2 t24_2 t23_2 t22_2 t21_2 t20_2 t19_2 t18_2 t17_2 t16_2 t15_2 t14_2 w44)) ∧
      (∀ D10 : Nat → Bool, D10 20 = false → D10 16 = true → D10 19 = true → D10 9 = true → ∀ t35_2 t34_2 t33_2 t32_2 t31_2 t30_2 t29_2 t28_2 t27_2 t26_2 t25_2 t24_2 t23_2 t22_2 t21_2 t20_2 t19_2 t18_2 t17_2 t16_2 t15_2 t14_2 : Value, ∀ w46 : World, A9 D10 t35_2 t34_2 t33_2 t32_2 t31_2 t30_2 t29_2 t28_2 t27_2 t26_2 t25_2 t24_2 t23_2 t22_2 t21_2 t20_2 t19_2 t18_2 t17_2 t16_2 t15_2 t14_2 w46 →
        GuardV t23_2 true (Run Try.prog (sBin .eql 3 false false t30_2 t33_2) w46 fun t34_3 w47 =>
        A9 (setD D10 20) t35_2 t34_3 t33_2 t32_2 t31_2 t30_2 t29_2 t28_2 t27_2 t26_2 t25_2 t24_2 t23_2 t22_2 t21_2 t20_2 t19_2 t18_2 t17_2 t16_2 t15_2 t14_2 w47) (A9 (setD D10 20) t35_2 undef t33_2 t32_2 t31_2 t30_2 t29_2 t28_2 t27_2 t26_2 t25_2 t24_2 t23_2 t22_2 t21_2 t20_2 t19_2 t18_2 t17_2 t16_2 t15_2 t14_2 w46)) ∧
      (∀ D10 : Nat → Bool, D10 21 = false → D10 9 = true → D10 20 = true → ∀ t35_2 t34_2 t33_2 t32_2 t31_2 t30_2 t29_2 t28_2 t27_2 t26_2 t25_2 t24_2 t23_2 t22_2 t21_2 t20_2 t19_2 t18_2 t17_2 t16_2 t15_2 t14_2 : Value, ∀ w48 : World, A9 D10 t35_2 t34_2 t33_2 t32_2 t31_2 t30_2 t29_2 t28_2 t27_2 t26_2 t25_2 t24_2 t23_2 t22_2 t21_2 t20_2 t19_2 t18_2 t17_2 t16_2 t15_2 t14_2 w48 →
        Run Try.prog (sOp (.pick (.const t23_2) (.const t34_2) (.const (Value.bool false))) 4) w48 fun t35_3 w49 =>
        A9 (setD D10 21) t35_3 t34_2 t33_2 t32_2 t31_2 t30_2 t29_2 t28_2 t27_2 t26_2 t25_2 t24_2 t23_2 t22_2 t21_2 t20_2 t19_2 t18_2 t17_2 t16_2 t15_2 t14_2 w49) ∧
      True) ∧
    ∀ D10 : Nat → Bool, D10 21 = true → D10 20 = true → D10 19 = true → D10 18 = true → D10 17 = true → D10 16 = true → D10 15 = true → D10 14 = true → D10 13 = true → D10 12 = true → D10 11 = true → D10 10 = true → D10 9 = true → D10 8 = true → D10 7 = true → D10 6 = true → D10 5 = true → D10 4 = true → D10 3 = true → D10 2 = true → D10 1 = true → D10 0 = true → ∀ t35_2 t34_2 t33_2 t32_2 t31_2 t30_2 t29_2 t28_2 t27_2 t26_2 t25_2 t24_2 t23_2 t22_2 t21_2 t20_2 t19_2 t18_2 t17_2 t16_2 t15_2 t14_2 : Value, ∀ w50 : World, A9 D10 t35_2 t34_2 t33_2 t32_2 t31_2 t30_2 t29_2 t28_2 t27_2 t26_2 t25_2 t24_2 t23_2 t22_2 t21_2 t20_2 t19_2 t18_2 t17_2 t16_2 t15_2 t14_2 w50 →
    CondV t35_2 (
      Run Try.prog (sBuildSlice 84 1 [(0, t6)]) w50 fun t38_2 w51 =>
      Run Try.prog (sBuiltin .append #[84, 84] 84 [false, false] [t5, t38_2]) w51 fun t39_2 w52 =>
      J8 t39_2 w52) (
      J8 t5 w50))) ∧
  ∀ t5_2 _ _ _ _ _ _ _ _ _ _ _ _ _ _ _ _ _ _ _ _ _ _ _ _ _ _ : Value, ∀ w53 : World, J8 t5_2 w53 →
  Run Try.prog (sBin .add 3 false true t6 (Value.int .i64 1)) w53 fun t13_2 w54 =>
  I3 t13_2 t5_2 w54 ∧ m4 t13_2 t5_2 w54 < m4 t6 t5 w5)) (
    R (.returned t5) w7))
theorem calls_s_l4For {p0 p1 : Value} {w : World} {R : Ending → World → Prop} (h : sh_s_l4For p0 p1 w R) : Calls Try.prog 73 #[p0, p1] w R :=
  calls_sh (.seq none .leaf (.seq none .leaf (.seq none (.seq none .leaf (.one (.loop [6, 5] (.seq none .leaf (.seq (some [5]) .leaf .leaf))))) .leaf))) [p0, p1] mixed Try.func73 (by kernel_rfl) (by kernel_rfl) h


/- loop.example/prologserver/impl.ProgramValid : function 75 -/
def sh_i_ProgramValid (p0 : Value) (w : World) (R : Ending → World → Prop) : Prop :=
  Run Try.prog (sBuiltin .len #[41] 3 [false] [p0]) w fun t4 w1 =>
  Run Try.prog (sBin .leq 3 false true t4 (Value.int .i64 20)) w1 fun t5 w2 =>
  GuardV t5 true (
    Run Try.prog (sCall (Value.func (.func 89) #[] #[]) [p0, (Value.func (.func 119) #[] #[])]) w2 fun t8 w3 =>
    Run Try.prog (sOp (.unOp .not 4 (.const t8)) 4) w3 fun t9 w4 =>
    Run Try.prog (sOp (.pick (.const t5) (.const t9) (.const (Value.bool false))) 4) w4 fun t10 w5 =>
    R (.returned t10) w5) (
    Run Try.prog (sOp (.pick (.const t5) (.const undef) (.const (Value.bool false))) 4) w2 fun t10_2 w6 =>
    R (.returned t10_2) w6)
theorem calls_i_ProgramValid {p0 : Value} {w : World} {R : Ending → World → Prop} (h : sh_i_ProgramValid p0 w R) : Calls Try.prog 75 #[p0] w R :=
  calls_sh .leaf [p0] mixed Try.func75 (by kernel_rfl) (by kernel_rfl) h


/- loop.example/prologserver/impl.within : function 76 -/
def sh_i_within (p0 p1 p2 : Value) (w : World) (R : Ending → World → Prop) : Prop :=
  Run Try.prog (sBin .leq 3 false false p1 p0) w fun t9 w1 =>
  GuardV t9 true (
    Run Try.prog (sBin .leq 3 false false p0 p2) w1 fun t13 w2 =>
    Run Try.prog (sOp (.pick (.const t9) (.const t13) (.const (Value.bool false))) 4) w2 fun t14 w3 =>
    R (.returned t14) w3) (
    Run Try.prog (sOp (.pick (.const t9) (.const undef) (.const (Value.bool false))) 4) w1 fun t14_2 w4 =>
    R (.returned t14_2) w4)
theorem calls_i_within {p0 p1 p2 : Value} {w : World} {R : Ending → World → Prop} (h : sh_i_within p0 p1 p2 w R) : Calls Try.prog 76 #[p0, p1, p2] w R :=
  calls_sh .leaf [p0, p1, p2] mixed Try.func76 (by kernel_rfl) (by kernel_rfl) h


/- loop.example/prologserver/impl.clausesFor : function 79 -/
def sh_i_clausesFor (p0 p1 : Value) (w : World) (R : Ending → World → Prop) : Prop :=
  Run Try.prog (sOp (.box 59 (.const p1)) 0) w fun t3 w1 =>
  Run Try.prog (sBuiltin .len #[41] 3 [false] [p0]) w1 fun t9 w2 =>
  (∃ (I3 : Value → Value → World → Prop) (m4 : Value → Value → World → Nat), I3 (Value.int .i64 0) (Value.slice none 0 0) w2 ∧
  ∀ t10 _ t5 _ _ _ _ t19 t18 t17 t16 t15 _ _ _ _ _ _ : Value, ∀ w5 : World, I3 t10 t5 w5 →
  Run Try.prog (sBin .lss 3 false false t10 t9) w5 fun t11_2 w6 =>
  CondV t11_2 (
    (∃ J7 : Value → World → Prop, (
    Run Try.prog (sOp (.indexAddr 41 (.const p0) (.const t10)) 0) w6 fun t13_2 w8 =>
    Run Try.prog (sOp (.load 50 (.const t13_2)) 50) w8 fun t14_2 w9 =>
    Run Try.prog (sOp (.alloc 50) 0) w9 fun t7_2 w10 =>
    Run Try.prog (sOp (.store 50 (.const t7_2) (.const t14_2)) 0) w10 fun _ w11 =>
    (∃ A12 : (Nat → Bool) → Value → Value → Value → Value → Value → World → Prop, A12 (fun _ => false) t19 t18 t17 t16 t15 { w11 with drawn := w11.drawn + 1 } ∧ (
      (∀ D13 : Nat → Bool, D13 0 = false → ∀ t19_2 t18_2 t17_2 t16_2 t15_2 : Value, ∀ w14 : World, A12 D13 t19_2 t18_2 t17_2 t16_2 t15_2 w14 →
        Run Try.prog (sOp (.fieldAddr 50 (.const t7_2) 0) 0) w14 fun t15_3 w15 =>
        A12 (setD D13 0) t19_2 t18_2 t17_2 t16_2 t15_3 w15) ∧
      (∀ D13 : Nat → Bool, D13 1 = false → D13 0 = true → ∀ t19_2 t18_2 t17_2 t16_2 t15_2 : Value, ∀ w16 : World, A12 D13 t19_2 t18_2 t17_2 t16_2 t15_2 w16 →
        Run Try.prog (sOp (.load 31 (.const t15_2)) 31) w16 fun t16_3 w17 =>
        A12 (setD D13 1) t19_2 t18_2 t17_2 t16_3 t15_2 w17) ∧
      (∀ D13 : Nat → Bool, D13 2 = false → D13 1 = true → ∀ t19_2 t18_2 t17_2 t16_2 t15_2 : Value, ∀ w18 : World, A12 D13 t19_2 t18_2 t17_2 t16_2 t15_2 w18 →
        Run Try.prog (sCall (Value.func (.func 80) #[] #[]) [t16_2]) w18 fun t17_3 w19 =>
        A12 (setD D13 2) t19_2 t18_2 t17_3 t16_2 t15_2 w19) ∧
      (∀ D13 : Nat → Bool, D13 3 = false → ∀ t19_2 t18_2 t17_2 t16_2 t15_2 : Value, ∀ w20 : World, A12 D13 t19_2 t18_2 t17_2 t16_2 t15_2 w20 →
        Run Try.prog (sOp (.load 59 (.const t3)) 59) w20 fun t18_3 w21 =>
        A12 (setD D13 3) t19_2 t18_3 t17_2 t16_2 t15_2 w21) ∧
      (∀ D13 : Nat → Bool, D13 4 = false → D13 2 = true → D13 3 = true → ∀ t19_2 t18_2 t17_2 t16_2 t15_2 : Value, ∀ w22 : World, A12 D13 t19_2 t18_2 t17_2 t16_2 t15_2 w22 →
        Run Try.prog (sBin .eql 59 false false t17_2 t18_2) w22 fun t19_3 w23 =>
        A12 (setD D13 4) t19_3 t18_2 t17_2 t16_2 t15_2 w23) ∧
      True) ∧
    ∀ D13 : Nat → Bool, D13 4 = true → D13 3 = true → D13 2 = true → D13 1 = true → D13 0 = true → ∀ t19_2 t18_2 t17_2 t16_2 t15_2 : Value, ∀ w24 : World, A12 D13 t19_2 t18_2 t17_2 t16_2 t15_2 w24 →
    CondV t19_2 (
      Run Try.prog (sBuildSlice 84 1 [(0, t10)]) w24 fun t22_2 w25 =>
      Run Try.prog (sBuiltin .append #[84, 84] 84 [false, false] [t5, t22_2]) w25 fun t23_2 w26 =>
      J7 t23_2 w26) (
      J7 t5 w24))) ∧
  ∀ t5_2 _ _ _ _ _ _ _ _ _ _ _ _ _ _ : Value, ∀ w27 : World, J7 t5_2 w27 →
  Run Try.prog (sBin .add 3 false true t10 (Value.int .i64 1)) w27 fun t24_2 w28 =>
  I3 t24_2 t5_2 w28 ∧ m4 t24_2 t5_2 w28 < m4 t10 t5 w5)) (
    R (.returned t5) w6))
theorem calls_i_clausesFor {p0 p1 : Value} {w : World} {R : Ending → World → Prop} (h : sh_i_clausesFor p0 p1 w R) : Calls Try.prog 79 #[p0, p1] w R :=
  calls_sh (.seq none .leaf (.seq none .leaf (.seq none (.seq none .leaf (.one (.loop [10, 5] (.seq none .leaf (.seq none .leaf (.seq (some [5]) .leaf .leaf)))))) .leaf))) [p0, p1] mixed Try.func79 (by kernel_rfl) (by kernel_rfl) h


/- loop.example/prologserver/impl.pred : function 80 -/
def sh_i_pred (p0 : Value) (w : World) (R : Ending → World → Prop) : Prop :=
  Run Try.prog (sOp (.box 31 (.const p0)) 0) w fun t1 w1 =>
  Run Try.prog (sOp (.alloc 59) 0) w1 fun t2 w2 =>
  Run Try.prog (sOp (.fieldAddr 31 (.const t1) 2) 0) w2 fun t3 w3 =>
  Run Try.prog (sOp (.load 9 (.const t3)) 9) w3 fun t4 w4 =>
  Run Try.prog (sOp (.fieldAddr 31 (.const t1) 3) 0) w4 fun t5 w5 =>
  Run Try.prog (sOp (.load 27 (.const t5)) 27) w5 fun t6 w6 =>
  Run Try.prog (sBuiltin .len #[27] 3 [false] [t6]) w6 fun t7 w7 =>
  Run Try.prog (sBuild 59 [(0, t4), (1, t7)]) w7 fun t8 w8 =>
  Run Try.prog (sOp (.store 59 (.const t2) (.const t8)) 0) w8 fun _ w9 =>
  (LoadV Try.prog 59 t2 w9 fun r0 => R (.returned r0) w9)
theorem calls_i_pred {p0 : Value} {w : World} {R : Ending → World → Prop} (h : sh_i_pred p0 w R) : Calls Try.prog 80 #[p0] w R :=
  calls_sh .leaf [p0] mixed Try.func80 (by kernel_rfl) (by kernel_rfl) h


/- slices.Contains[[]int,int] : function 81 -/
def sh_x_Contains_int (p0 p1 : Value) (w : World) (R : Ending → World → Prop) : Prop :=
  Run Try.prog (sCall (Value.func (.func 123) #[] #[]) [p0, p1]) w fun t7 w1 =>
  Run Try.prog (sBin .geq 3 false true t7 (Value.int .i64 0)) w1 fun t8 w2 =>
  R (.returned t8) w2
theorem calls_x_Contains_int {p0 p1 : Value} {w : World} {R : Ending → World → Prop} (h : sh_x_Contains_int p0 p1 w R) : Calls Try.prog 81 #[p0, p1] w R :=
  calls_sh .leaf [p0, p1] mixed Try.func81 (by kernel_rfl) (by kernel_rfl) h


/- slices.ContainsFunc[[]int,int] : function 82 -/
def sh_x_ContainsFunc_int (p0 p1 : Value) (w : World) (R : Ending → World → Prop) : Prop :=
  Run Try.prog (sCall (Value.func (.func 124) #[] #[]) [p0, p1]) w fun t7 w1 =>
  Run Try.prog (sBin .geq 3 false true t7 (Value.int .i64 0)) w1 fun t8 w2 =>
  R (.returned t8) w2
theorem calls_x_ContainsFunc_int {p0 p1 : Value} {w : World} {R : Ending → World → Prop} (h : sh_x_ContainsFunc_int p0 p1 w R) : Calls Try.prog 82 #[p0, p1] w R :=
  calls_sh .leaf [p0, p1] mixed Try.func82 (by kernel_rfl) (by kernel_rfl) h


/- loop.example/prologserver/spec.ClauseValid : function 84 -/
def sh_s_ClauseValid (p0 : Value) (w : World) (R : Ending → World → Prop) : Prop :=
  Run Try.prog (sOp (.box 50 (.const p0)) 0) w fun t1 w1 =>
  (∃ (I2 : Value → World → Prop) (m3 : Value → World → Nat), I2 (Value.int .i64 0) w1 ∧
  ∀ t3 _ _ _ _ _ _ _ _ _ _ _ _ _ _ _ _ _ _ _ : Value, ∀ w4 : World, I2 t3 w4 →
  (∃ J5 : Value → World → Prop, (
    Run Try.prog (sOp (.fieldAddr 50 (.const t1) 1) 0) w4 fun t5_2 w6 =>
    Run Try.prog (sOp (.load 27 (.const t5_2)) 27) w6 fun t6_2 w7 =>
    Run Try.prog (sBuiltin .len #[27] 3 [false] [t6_2]) w7 fun t7_2 w8 =>
    Run Try.prog (sBin .lss 3 false false t3 t7_2) w8 fun t8_2 w9 =>
    GuardV t8_2 true (
      Run Try.prog (sBin .leq 3 false true t3 (Value.int .i64 6)) w9 fun t11_2 w10 =>
      Run Try.prog (sOp (.pick (.const t8_2) (.const t11_2) (.const (Value.bool false))) 4) w10 fun t12_2 w11 =>
      J5 t12_2 w11) (
      Run Try.prog (sOp (.pick (.const t8_2) (.const undef) (.const (Value.bool false))) 4) w9 fun t12_3 w12 =>
      J5 t12_3 w12)) ∧
  ∀ t12_4 _ _ _ _ _ _ _ _ : Value, ∀ w13 : World, J5 t12_4 w13 →
  CondV t12_4 (
    Run Try.prog (sOp (.fieldAddr 50 (.const t1) 1) 0) w13 fun t15_2 w14 =>
  Run Try.prog (sOp (.load 27 (.const t15_2)) 27) w14 fun t16_2 w15 =>
  Run Try.prog (sOp (.indexAddr 27 (.const t16_2) (.const t3)) 0) w15 fun t18_2 w16 =>
  Run Try.prog (sOp (.load 31 (.const t18_2)) 31) w16 fun t19_2 w17 =>
  Run Try.prog (sCall (Value.func (.func 125) #[] #[]) [t19_2]) w17 fun t20_2 w18 =>
  Run Try.prog (sOp (.unOp .not 4 (.const t20_2)) 4) w18 fun t21_2 w19 =>
  CondV t21_2 (
    R (.returned (Value.bool false)) w19) (
    Run Try.prog (sBin .add 3 false true t3 (Value.int .i64 1)) w19 fun t14_2 w20 =>
  I2 t14_2 w20 ∧ m3 t14_2 w20 < m3 t3 w4)) (
    Run Try.prog (sOp (.fieldAddr 50 (.const t1) 1) 0) w13 fun t22 w21 =>
  Run Try.prog (sOp (.load 27 (.const t22)) 27) w21 fun t23 w22 =>
  Run Try.prog (sBuiltin .len #[27] 3 [false] [t23]) w22 fun t24 w23 =>
  Run Try.prog (sBin .leq 3 false true t24 (Value.int .i64 6)) w23 fun t25 w24 =>
  GuardV t25 true (
    Run Try.prog (sOp (.fieldAddr 50 (.const t1) 0) 0) w24 fun t27 w25 =>
    Run Try.prog (sOp (.load 31 (.const t27)) 31) w25 fun t28 w26 =>
    Run Try.prog (sCall (Value.func (.func 113) #[] #[]) [t28]) w26 fun t29 w27 =>
    Run Try.prog (sOp (.pick (.const t25) (.const t29) (.const (Value.bool false))) 4) w27 fun t30 w28 =>
    GuardV t30 true (
      Run Try.prog (sOp (.fieldAddr 50 (.const t1) 0) 0) w28 fun t32 w29 =>
      Run Try.prog (sOp (.load 31 (.const t32)) 31) w29 fun t33 w30 =>
      Run Try.prog (sCall (Value.func (.func 117) #[] #[]) [t33]) w30 fun t34 w31 =>
      Run Try.prog (sOp (.pick (.const t30) (.const t34) (.const (Value.bool false))) 4) w31 fun t35 w32 =>
      R (.returned t35) w32) (
      Run Try.prog (sOp (.pick (.const t30) (.const undef) (.const (Value.bool false))) 4) w28 fun t35_2 w33 =>
      R (.returned t35_2) w33)) (
    Run Try.prog (sOp (.pick (.const t25) (.const undef) (.const (Value.bool false))) 4) w24 fun t30_2 w34 =>
    GuardV t30_2 true (
      Run Try.prog (sOp (.fieldAddr 50 (.const t1) 0) 0) w34 fun t32_2 w35 =>
      Run Try.prog (sOp (.load 31 (.const t32_2)) 31) w35 fun t33_2 w36 =>
      Run Try.prog (sCall (Value.func (.func 117) #[] #[]) [t33_2]) w36 fun t34_2 w37 =>
      Run Try.prog (sOp (.pick (.const t30_2) (.const t34_2) (.const (Value.bool false))) 4) w37 fun t35_3 w38 =>
      R (.returned t35_3) w38) (
      Run Try.prog (sOp (.pick (.const t30_2) (.const undef) (.const (Value.bool false))) 4) w34 fun t35_4 w39 =>
      R (.returned t35_4) w39)))))
theorem calls_s_ClauseValid {p0 : Value} {w : World} {R : Ending → World → Prop} (h : sh_s_ClauseValid p0 w R) : Calls Try.prog 84 #[p0] w R :=
  calls_sh (.seq none .leaf (.seq none (.seq none .leaf (.one (.loop [3] (.seq none (.seq (some [12]) .leaf .leaf) .leaf)))) .leaf)) [p0] mixed Try.func84 (by kernel_rfl) (by kernel_rfl) h


/- loop.example/prologserver/spec.l3Match : function 85 -/
def sh_s_l3Match (p0 p1 p2 : Value) (w : World) (R : Ending → World → Prop) : Prop :=
  Run Try.prog (sOp (.box 31 (.const p0)) 0) w fun t3 w1 =>
  Run Try.prog (sOp (.box 31 (.const p1)) 0) w1 fun t4 w2 =>
  Run Try.prog (sOp (.fieldAddr 31 (.const t3) 0) 0) w2 fun t8 w3 =>
  Run Try.prog (sOp (.load 3 (.const t8)) 3) w3 fun t9 w4 =>
  Run Try.prog (sBin .eql 3 false true t9 (Value.int .i64 1)) w4 fun t10 w5 =>
  CondV t10 (
    Run Try.prog (sOp (.fieldAddr 31 (.const t3) 1) 0) w5 fun t12 w6 =>
    Run Try.prog (sOp (.load 3 (.const t12)) 3) w6 fun t13 w7 =>
    Run Try.prog (sOp (.indexAddr 27 (.const p2) (.const t13)) 0) w7 fun t14 w8 =>
    Run Try.prog (sOp (.fieldAddr 31 (.const t14) 0) 0) w8 fun t15 w9 =>
    Run Try.prog (sOp (.load 3 (.const t15)) 3) w9 fun t16 w10 =>
    Run Try.prog (sBin .neq 3 false true t16 (Value.int .i64 0)) w10 fun t17 w11 =>
    CondV t17 (
      (∃ A12 : (Nat → Bool) → Value → Value → Value → Value → Value → Value → Value → Value → World → Prop, A12 (fun _ => false) (Value.bool false) undef undef undef undef undef undef undef { w11 with drawn := w11.drawn + 1 } ∧ (
        (∀ D13 : Nat → Bool, D13 0 = false → ∀ t6 t24 t23 t22 t21 t20 t19 t18 : Value, ∀ w14 : World, A12 D13 t6 t24 t23 t22 t21 t20 t19 t18 w14 →
          A12 (setD D13 0) t6 t24 t23 t22 t21 t20 t19 p2 w14) ∧
        (∀ D13 : Nat → Bool, D13 1 = false → ∀ t6 t24 t23 t22 t21 t20 t19 t18 : Value, ∀ w15 : World, A12 D13 t6 t24 t23 t22 t21 t20 t19 t18 w15 →
          Run Try.prog (sOp (.fieldAddr 31 (.const t3) 1) 0) w15 fun t19_2 w16 =>
          A12 (setD D13 1) t6 t24 t23 t22 t21 t20 t19_2 t18 w16) ∧
        (∀ D13 : Nat → Bool, D13 2 = false → D13 1 = true → ∀ t6 t24 t23 t22 t21 t20 t19 t18 : Value, ∀ w17 : World, A12 D13 t6 t24 t23 t22 t21 t20 t19 t18 w17 →
          Run Try.prog (sOp (.load 3 (.const t19)) 3) w17 fun t20_2 w18 =>
          A12 (setD D13 2) t6 t24 t23 t22 t21 t20_2 t19 t18 w18) ∧
        (∀ D13 : Nat → Bool, D13 3 = false → D13 0 = true → D13 2 = true → ∀ t6 t24 t23 t22 t21 t20 t19 t18 : Value, ∀ w19 : World, A12 D13 t6 t24 t23 t22 t21 t20 t19 t18 w19 →
          Run Try.prog (sOp (.indexAddr 27 (.const t18) (.const t20)) 0) w19 fun t21_2 w20 =>
          A12 (setD D13 3) t6 t24 t23 t22 t21_2 t20 t19 t18 w20) ∧
        (∀ D13 : Nat → Bool, D13 4 = false → D13 3 = true → ∀ t6 t24 t23 t22 t21 t20 t19 t18 : Value, ∀ w21 : World, A12 D13 t6 t24 t23 t22 t21 t20 t19 t18 w21 →
          Run Try.prog (sOp (.load 31 (.const t21)) 31) w21 fun t22_2 w22 =>
          A12 (setD D13 4) t6 t24 t23 t22_2 t21 t20 t19 t18 w22) ∧
        (∀ D13 : Nat → Bool, D13 5 = false → ∀ t6 t24 t23 t22 t21 t20 t19 t18 : Value, ∀ w23 : World, A12 D13 t6 t24 t23 t22 t21 t20 t19 t18 w23 →
          Run Try.prog (sOp (.load 31 (.const t4)) 31) w23 fun t23_2 w24 =>
          A12 (setD D13 5) t6 t24 t23_2 t22 t21 t20 t19 t18 w24) ∧
        (∀ D13 : Nat → Bool, D13 6 = false → D13 4 = true → D13 5 = true → ∀ t6 t24 t23 t22 t21 t20 t19 t18 : Value, ∀ w25 : World, A12 D13 t6 t24 t23 t22 t21 t20 t19 t18 w25 →
          Run Try.prog (sCall (Value.func (.func 126) #[] #[]) [t22, t23]) w25 fun t24_2 w26 =>
          A12 (setD D13 6) t6 t24_2 t23 t22 t21 t20 t19 t18 w26) ∧
        (∀ D13 : Nat → Bool, D13 7 = false → D13 6 = true → D13 6 = true → D13 0 = true → D13 1 = true → D13 2 = true → D13 3 = true → D13 4 = true → D13 5 = true → D13 6 = true → ∀ t6 t24 t23 t22 t21 t20 t19 t18 : Value, ∀ w27 : World, A12 D13 t6 t24 t23 t22 t21 t20 t19 t18 w27 →
          A12 (setD D13 7) t24 t24 t23 t22 t21 t20 t19 t18 w27) ∧
        True) ∧
      ∀ D13 : Nat → Bool, D13 7 = true → D13 6 = true → D13 5 = true → D13 4 = true → D13 3 = true → D13 2 = true → D13 1 = true → D13 0 = true → ∀ t6 t24 t23 t22 t21 t20 t19 t18 : Value, ∀ w28 : World, A12 D13 t6 t24 t23 t22 t21 t20 t19 t18 w28 →
      R (.returned t6) w28)) (
      Run Try.prog (sOp (.fieldAddr 31 (.const t3) 1) 0) w11 fun t26 w29 =>
    Run Try.prog (sOp (.load 3 (.const t26)) 3) w29 fun t27 w30 =>
    Run Try.prog (sOp (.load 31 (.const t4)) 31) w30 fun t28 w31 =>
    Run Try.prog (sOp (.indexAddr 27 (.const p2) (.const t27)) 0) w31 fun t29 w32 =>
    Run Try.prog (sOp (.store 31 (.const t29) (.const t28)) 0) w32 fun _ w33 =>
    R (.returned (Value.bool true)) w33)) (
    (∃ J34 : Value → World → Prop, (
    Run Try.prog (sOp (.fieldAddr 31 (.const t3) 0) 0) w5 fun t30 w35 =>
    Run Try.prog (sOp (.load 3 (.const t30)) 3) w35 fun t31 w36 =>
    Run Try.prog (sOp (.fieldAddr 31 (.const t4) 0) 0) w36 fun t32 w37 =>
    Run Try.prog (sOp (.load 3 (.const t32)) 3) w37 fun t33 w38 =>
    Run Try.prog (sBin .neq 3 false false t31 t33) w38 fun t34 w39 =>
    GuardV t34 false (
      Run Try.prog (sOp (.fieldAddr 31 (.const t3) 1) 0) w39 fun t36 w40 =>
      Run Try.prog (sOp (.load 3 (.const t36)) 3) w40 fun t37 w41 =>
      Run Try.prog (sOp (.fieldAddr 31 (.const t4) 1) 0) w41 fun t38 w42 =>
      Run Try.prog (sOp (.load 3 (.const t38)) 3) w42 fun t39 w43 =>
      Run Try.prog (sBin .neq 3 false false t37 t39) w43 fun t40 w44 =>
      Run Try.prog (sOp (.pick (.const t34) (.const (Value.bool true)) (.const t40)) 4) w44 fun t41 w45 =>
      GuardV t41 false (
        Run Try.prog (sOp (.fieldAddr 31 (.const t3) 2) 0) w45 fun t43 w46 =>
        Run Try.prog (sOp (.load 9 (.const t43)) 9) w46 fun t44 w47 =>
        Run Try.prog (sOp (.fieldAddr 31 (.const t4) 2) 0) w47 fun t45 w48 =>
        Run Try.prog (sOp (.load 9 (.const t45)) 9) w48 fun t46 w49 =>
        Run Try.prog (sBin .neq 9 false false t44 t46) w49 fun t47 w50 =>
        Run Try.prog (sOp (.pick (.const t41) (.const (Value.bool true)) (.const t47)) 4) w50 fun t48 w51 =>
        GuardV t48 false (
          Run Try.prog (sOp (.fieldAddr 31 (.const t3) 3) 0) w51 fun t50 w52 =>
          Run Try.prog (sOp (.load 27 (.const t50)) 27) w52 fun t51 w53 =>
          Run Try.prog (sBuiltin .len #[27] 3 [false] [t51]) w53 fun t52 w54 =>
          Run Try.prog (sOp (.fieldAddr 31 (.const t4) 3) 0) w54 fun t53 w55 =>
          Run Try.prog (sOp (.load 27 (.const t53)) 27) w55 fun t54 w56 =>
          Run Try.prog (sBuiltin .len #[27] 3 [false] [t54]) w56 fun t55 w57 =>
          Run Try.prog (sBin .neq 3 false false t52 t55) w57 fun t56 w58 =>
          Run Try.prog (sOp (.pick (.const t48) (.const (Value.bool true)) (.const t56)) 4) w58 fun t57 w59 =>
          J34 t57 w59) (
          Run Try.prog (sOp (.pick (.const t48) (.const (Value.bool true)) (.const undef)) 4) w51 fun t57_2 w60 =>
          J34 t57_2 w60)) (
        Run Try.prog (sOp (.pick (.const t41) (.const (Value.bool true)) (.const undef)) 4) w45 fun t48_2 w61 =>
        GuardV t48_2 false (
          Run Try.prog (sOp (.fieldAddr 31 (.const t3) 3) 0) w61 fun t50_2 w62 =>
          Run Try.prog (sOp (.load 27 (.const t50_2)) 27) w62 fun t51_2 w63 =>
          Run Try.prog (sBuiltin .len #[27] 3 [false] [t51_2]) w63 fun t52_2 w64 =>
          Run Try.prog (sOp (.fieldAddr 31 (.const t4) 3) 0) w64 fun t53_2 w65 =>
          Run Try.prog (sOp (.load 27 (.const t53_2)) 27) w65 fun t54_2 w66 =>
          Run Try.prog (sBuiltin .len #[27] 3 [false] [t54_2]) w66 fun t55_2 w67 =>
          Run Try.prog (sBin .neq 3 false false t52_2 t55_2) w67 fun t56_2 w68 =>
          Run Try.prog (sOp (.pick (.const t48_2) (.const (Value.bool true)) (.const t56_2)) 4) w68 fun t57_3 w69 =>
          J34 t57_3 w69) (
          Run Try.prog (sOp (.pick (.const t48_2) (.const (Value.bool true)) (.const undef)) 4) w61 fun t57_4 w70 =>
          J34 t57_4 w70))) (
      Run Try.prog (sOp (.pick (.const t34) (.const (Value.bool true)) (.const undef)) 4) w39 fun t41_2 w71 =>
      GuardV t41_2 false (
        Run Try.prog (sOp (.fieldAddr 31 (.const t3) 2) 0) w71 fun t43_2 w72 =>
        Run Try.prog (sOp (.load 9 (.const t43_2)) 9) w72 fun t44_2 w73 =>
        Run Try.prog (sOp (.fieldAddr 31 (.const t4) 2) 0) w73 fun t45_2 w74 =>
        Run Try.prog (sOp (.load 9 (.const t45_2)) 9) w74 fun t46_2 w75 =>
        Run Try.prog (sBin .neq 9 false false t44_2 t46_2) w75 fun t47_2 w76 =>
        Run Try.prog (sOp (.pick (.const t41_2) (.const (Value.bool true)) (.const t47_2)) 4) w76 fun t48_3 w77 =>
        GuardV t48_3 false (
          Run Try.prog (sOp (.fieldAddr 31 (.const t3) 3) 0) w77 fun t50_3 w78 =>
          Run Try.prog (sOp (.load 27 (.const t50_3)) 27) w78 fun t51_3 w79 =>
          Run Try.prog (sBuiltin .len #[27] 3 [false] [t51_3]) w79 fun t52_3 w80 =>
          Run Try.prog (sOp (.fieldAddr 31 (.const t4) 3) 0) w80 fun t53_3 w81 =>
          Run Try.prog (sOp (.load 27 (.const t53_3)) 27) w81 fun t54_3 w82 =>
          Run Try.prog (sBuiltin .len #[27] 3 [false] [t54_3]) w82 fun t55_3 w83 =>
          Run Try.prog (sBin .neq 3 false false t52_3 t55_3) w83 fun t56_3 w84 =>
          Run Try.prog (sOp (.pick (.const t48_3) (.const (Value.bool true)) (.const t56_3)) 4) w84 fun t57_5 w85 =>
          J34 t57_5 w85) (
          Run Try.prog (sOp (.pick (.const t48_3) (.const (Value.bool true)) (.const undef)) 4) w77 fun t57_6 w86 =>
          J34 t57_6 w86)) (
        Run Try.prog (sOp (.pick (.const t41_2) (.const (Value.bool true)) (.const undef)) 4) w71 fun t48_4 w87 =>
        GuardV t48_4 false (
          Run Try.prog (sOp (.fieldAddr 31 (.const t3) 3) 0) w87 fun t50_4 w88 =>
          Run Try.prog (sOp (.load 27 (.const t50_4)) 27) w88 fun t51_4 w89 =>
          Run Try.prog (sBuiltin .len #[27] 3 [false] [t51_4]) w89 fun t52_4 w90 =>
          Run Try.prog (sOp (.fieldAddr 31 (.const t4) 3) 0) w90 fun t53_4 w91 =>
          Run Try.prog (sOp (.load 27 (.const t53_4)) 27) w91 fun t54_4 w92 =>
          Run Try.prog (sBuiltin .len #[27] 3 [false] [t54_4]) w92 fun t55_4 w93 =>
          Run Try.prog (sBin .neq 3 false false t52_4 t55_4) w93 fun t56_4 w94 =>
          Run Try.prog (sOp (.pick (.const t48_4) (.const (Value.bool true)) (.const t56_4)) 4) w94 fun t57_7 w95 =>
          J34 t57_7 w95) (
          Run Try.prog (sOp (.pick (.const t48_4) (.const (Value.bool true)) (.const undef)) 4) w87 fun t57_8 w96 =>
          J34 t57_8 w96)))) ∧
  ∀ t57_9 _ _ _ _ _ _ _ _ _ _ _ _ _ _ _ _ _ _ _ _ _ _ _ _ _ _ _ : Value, ∀ w97 : World, J34 t57_9 w97 →
  CondV t57_9 (
    R (.returned (Value.bool false)) w97) (
    (∃ (I98 : Value → World → Prop) (m99 : Value → World → Nat), I98 (Value.int .i64 0) w97 ∧
  ∀ t7 _ _ _ t77 t76 t75 t74 t73 t72 t71 t70 t69 t68 t67 t66 t65 _ _ _ _ _ : Value, ∀ w100 : World, I98 t7 w100 →
  Run Try.prog (sOp (.fieldAddr 31 (.const t3) 3) 0) w100 fun t59_2 w101 =>
  Run Try.prog (sOp (.load 27 (.const t59_2)) 27) w101 fun t60_2 w102 =>
  Run Try.prog (sBuiltin .len #[27] 3 [false] [t60_2]) w102 fun t61_2 w103 =>
  Run Try.prog (sBin .lss 3 false false t7 t61_2) w103 fun t62_2 w104 =>
  CondV t62_2 (
    (∃ A105 : (Nat → Bool) → Value → Value → Value → Value → Value → Value → Value → Value → Value → Value → Value → Value → Value → World → Prop, A105 (fun _ => false) t77 t76 t75 t74 t73 t72 t71 t70 t69 t68 t67 t66 t65 { w104 with drawn := w104.drawn + 1 } ∧ (
    (∀ D106 : Nat → Bool, D106 0 = false → ∀ t77_2 t76_2 t75_2 t74_2 t73_2 t72_2 t71_2 t70_2 t69_2 t68_2 t67_2 t66_2 t65_2 : Value, ∀ w107 : World, A105 D106 t77_2 t76_2 t75_2 t74_2 t73_2 t72_2 t71_2 t70_2 t69_2 t68_2 t67_2 t66_2 t65_2 w107 →
      Run Try.prog (sOp (.fieldAddr 31 (.const t3) 3) 0) w107 fun t65_3 w108 =>
      A105 (setD D106 0) t77_2 t76_2 t75_2 t74_2 t73_2 t72_2 t71_2 t70_2 t69_2 t68_2 t67_2 t66_2 t65_3 w108) ∧
    (∀ D106 : Nat → Bool, D106 1 = false → D106 0 = true → ∀ t77_2 t76_2 t75_2 t74_2 t73_2 t72_2 t71_2 t70_2 t69_2 t68_2 t67_2 t66_2 t65_2 : Value, ∀ w109 : World, A105 D106 t77_2 t76_2 t75_2 t74_2 t73_2 t72_2 t71_2 t70_2 t69_2 t68_2 t67_2 t66_2 t65_2 w109 →
      Run Try.prog (sOp (.load 27 (.const t65_2)) 27) w109 fun t66_3 w110 =>
      A105 (setD D106 1) t77_2 t76_2 t75_2 t74_2 t73_2 t72_2 t71_2 t70_2 t69_2 t68_2 t67_2 t66_3 t65_2 w110) ∧
    (∀ D106 : Nat → Bool, D106 2 = false → ∀ t77_2 t76_2 t75_2 t74_2 t73_2 t72_2 t71_2 t70_2 t69_2 t68_2 t67_2 t66_2 t65_2 : Value, ∀ w111 : World, A105 D106 t77_2 t76_2 t75_2 t74_2 t73_2 t72_2 t71_2 t70_2 t69_2 t68_2 t67_2 t66_2 t65_2 w111 →
      A105 (setD D106 2) t77_2 t76_2 t75_2 t74_2 t73_2 t72_2 t71_2 t70_2 t69_2 t68_2 t7 t66_2 t65_2 w111) ∧
    (∀ D106 : Nat → Bool, D106 3 = false → D106 1 = true → D106 2 = true → ∀ t77_2 t76_2 t75_2 t74_2 t73_2 t72_2 t71_2 t70_2 t69_2 t68_2 t67_2 t66_2 t65_2 : Value, ∀ w112 : World, A105 D106 t77_2 t76_2 t75_2 t74_2 t73_2 t72_2 t71_2 t70_2 t69_2 t68_2 t67_2 t66_2 t65_2 w112 →
      Run Try.prog (sOp (.indexAddr 27 (.const t66_2) (.const t67_2)) 0) w112 fun t68_3 w113 =>
      A105 (setD D106 3) t77_2 t76_2 t75_2 t74_2 t73_2 t72_2 t71_2 t70_2 t69_2 t68_3 t67_2 t66_2 t65_2 w113) ∧
    (∀ D106 : Nat → Bool, D106 4 = false → D106 3 = true → ∀ t77_2 t76_2 t75_2 t74_2 t73_2 t72_2 t71_2 t70_2 t69_2 t68_2 t67_2 t66_2 t65_2 : Value, ∀ w114 : World, A105 D106 t77_2 t76_2 t75_2 t74_2 t73_2 t72_2 t71_2 t70_2 t69_2 t68_2 t67_2 t66_2 t65_2 w114 →
      Run Try.prog (sOp (.load 31 (.const t68_2)) 31) w114 fun t69_3 w115 =>
      A105 (setD D106 4) t77_2 t76_2 t75_2 t74_2 t73_2 t72_2 t71_2 t70_2 t69_3 t68_2 t67_2 t66_2 t65_2 w115) ∧
    (∀ D106 : Nat → Bool, D106 5 = false → ∀ t77_2 t76_2 t75_2 t74_2 t73_2 t72_2 t71_2 t70_2 t69_2 t68_2 t67_2 t66_2 t65_2 : Value, ∀ w116 : World, A105 D106 t77_2 t76_2 t75_2 t74_2 t73_2 t72_2 t71_2 t70_2 t69_2 t68_2 t67_2 t66_2 t65_2 w116 →
      Run Try.prog (sOp (.fieldAddr 31 (.const t4) 3) 0) w116 fun t70_3 w117 =>
      A105 (setD D106 5) t77_2 t76_2 t75_2 t74_2 t73_2 t72_2 t71_2 t70_3 t69_2 t68_2 t67_2 t66_2 t65_2 w117) ∧
    (∀ D106 : Nat → Bool, D106 6 = false → D106 5 = true → ∀ t77_2 t76_2 t75_2 t74_2 t73_2 t72_2 t71_2 t70_2 t69_2 t68_2 t67_2 t66_2 t65_2 : Value, ∀ w118 : World, A105 D106 t77_2 t76_2 t75_2 t74_2 t73_2 t72_2 t71_2 t70_2 t69_2 t68_2 t67_2 t66_2 t65_2 w118 →
      Run Try.prog (sOp (.load 27 (.const t70_2)) 27) w118 fun t71_3 w119 =>
      A105 (setD D106 6) t77_2 t76_2 t75_2 t74_2 t73_2 t72_2 t71_3 t70_2 t69_2 t68_2 t67_2 t66_2 t65_2 w119) ∧
    (∀ D106 : Nat → Bool, D106 7 = false → ∀ t77_2 t76_2 t75_2 t74_2 t73_2 t72_2 t71_2 t70_2 t69_2 t68_2 t67_2 t66_2 t65_2 : Value, ∀ w120 : World, A105 D106 t77_2 t76_2 t75_2 t74_2 t73_2 t72_2 t71_2 t70_2 t69_2 t68_2 t67_2 t66_2 t65_2 w120 →
      A105 (setD D106 7) t77_2 t76_2 t75_2 t74_2 t73_2 t7 t71_2 t70_2 t69_2 t68_2 t67_2 t66_2 t65_2 w120) ∧
    (∀ D106 : Nat → Bool, D106 8 = false → D106 6 = true → D106 7 = true → ∀ t77_2 t76_2 t75_2 t74_2 t73_2 t72_2 t71_2 t70_2 t69_2 t68_2 t67_2 t66_2 t65_2 : Value, ∀ w121 : World, A105 D106 t77_2 t76_2 t75_2 t74_2 t73_2 t72_2 t71_2 t70_2 t69_2 t68_2 t67_2 t66_2 t65_2 w121 →
      Run Try.prog (sOp (.indexAddr 27 (.const t71_2) (.const t72_2)) 0) w121 fun t73_3 w122 =>
      A105 (setD D106 8) t77_2 t76_2 t75_2 t74_2 t73_3 t72_2 t71_2 t70_2 t69_2 t68_2 t67_2 t66_2 t65_2 w122) ∧
    (∀ D106 : Nat → Bool, D106 9 = false → D106 8 = true → ∀ t77_2 t76_2 t75_2 t74_2 t73_2 t72_2 t71_2 t70_2 t69_2 t68_2 t67_2 t66_2 t65_2 : Value, ∀ w123 : World, A105 D106 t77_2 t76_2 t75_2 t74_2 t73_2 t72_2 t71_2 t70_2 t69_2 t68_2 t67_2 t66_2 t65_2 w123 →
      Run Try.prog (sOp (.load 31 (.const t73_2)) 31) w123 fun t74_3 w124 =>
      A105 (setD D106 9) t77_2 t76_2 t75_2 t74_3 t73_2 t72_2 t71_2 t70_2 t69_2 t68_2 t67_2 t66_2 t65_2 w124) ∧
    (∀ D106 : Nat → Bool, D106 10 = false → ∀ t77_2 t76_2 t75_2 t74_2 t73_2 t72_2 t71_2 t70_2 t69_2 t68_2 t67_2 t66_2 t65_2 : Value, ∀ w125 : World, A105 D106 t77_2 t76_2 t75_2 t74_2 t73_2 t72_2 t71_2 t70_2 t69_2 t68_2 t67_2 t66_2 t65_2 w125 →
      A105 (setD D106 10) t77_2 t76_2 p2 t74_2 t73_2 t72_2 t71_2 t70_2 t69_2 t68_2 t67_2 t66_2 t65_2 w125) ∧
    (∀ D106 : Nat → Bool, D106 11 = false → D106 4 = true → D106 9 = true → D106 10 = true → ∀ t77_2 t76_2 t75_2 t74_2 t73_2 t72_2 t71_2 t70_2 t69_2 t68_2 t67_2 t66_2 t65_2 : Value, ∀ w126 : World, A105 D106 t77_2 t76_2 t75_2 t74_2 t73_2 t72_2 t71_2 t70_2 t69_2 t68_2 t67_2 t66_2 t65_2 w126 →
      Run Try.prog (sCall (Value.func (.func 85) #[] #[]) [t69_2, t74_2, t75_2]) w126 fun t76_3 w127 =>
      A105 (setD D106 11) t77_2 t76_3 t75_2 t74_2 t73_2 t72_2 t71_2 t70_2 t69_2 t68_2 t67_2 t66_2 t65_2 w127) ∧
    (∀ D106 : Nat → Bool, D106 12 = false → D106 11 = true → ∀ t77_2 t76_2 t75_2 t74_2 t73_2 t72_2 t71_2 t70_2 t69_2 t68_2 t67_2 t66_2 t65_2 : Value, ∀ w128 : World, A105 D106 t77_2 t76_2 t75_2 t74_2 t73_2 t72_2 t71_2 t70_2 t69_2 t68_2 t67_2 t66_2 t65_2 w128 →
      Run Try.prog (sOp (.unOp .not 4 (.const t76_2)) 4) w128 fun t77_3 w129 =>
      A105 (setD D106 12) t77_3 t76_2 t75_2 t74_2 t73_2 t72_2 t71_2 t70_2 t69_2 t68_2 t67_2 t66_2 t65_2 w129) ∧
    True) ∧
  ∀ D106 : Nat → Bool, D106 12 = true → D106 11 = true → D106 10 = true → D106 9 = true → D106 8 = true → D106 7 = true → D106 6 = true → D106 5 = true → D106 4 = true → D106 3 = true → D106 2 = true → D106 1 = true → D106 0 = true → ∀ t77_2 t76_2 t75_2 t74_2 t73_2 t72_2 t71_2 t70_2 t69_2 t68_2 t67_2 t66_2 t65_2 : Value, ∀ w130 : World, A105 D106 t77_2 t76_2 t75_2 t74_2 t73_2 t72_2 t71_2 t70_2 t69_2 t68_2 t67_2 t66_2 t65_2 w130 →
  CondV t77_2 (
    R (.returned (Value.bool false)) w130) (
    Run Try.prog (sBin .add 3 false true t7 (Value.int .i64 1)) w130 fun t64_2 w131 =>
  I98 t64_2 w131 ∧ m99 t64_2 w131 < m99 t7 w100))) (
    R (.returned (Value.bool true)) w104)))))
theorem calls_s_l3Match {p0 p1 p2 : Value} {w : World} {R : Ending → World → Prop} (h : sh_s_l3Match p0 p1 p2 w R) : Calls Try.prog 85 #[p0, p1, p2] w R :=
  calls_sh (.seq none .leaf (.seq none .leaf (.seq none (.seq (some [57]) .leaf .leaf) (.seq none (.seq none .leaf (.one (.loop [7] .leaf))) .leaf)))) [p0, p1, p2] mixed Try.func85 (by kernel_rfl) (by kernel_rfl) h


/- loop.example/prologserver/impl.ClauseValid : function 86 -/
def sh_i_ClauseValid (p0 : Value) (w : World) (R : Ending → World → Prop) : Prop :=
  Run Try.prog (sOp (.box 50 (.const p0)) 0) w fun t1 w1 =>
  Run Try.prog (sOp (.fieldAddr 50 (.const t1) 0) 0) w1 fun t3 w2 =>
  Run Try.prog (sOp (.load 31 (.const t3)) 31) w2 fun t4 w3 =>
  Run Try.prog (sCall (Value.func (.func 116) #[] #[]) [t4]) w3 fun t5 w4 =>
  GuardV t5 true (
    Run Try.prog (sOp (.fieldAddr 50 (.const t1) 0) 0) w4 fun t7 w5 =>
    Run Try.prog (sOp (.load 31 (.const t7)) 31) w5 fun t8 w6 =>
    Run Try.prog (sCall (Value.func (.func 120) #[] #[]) [t8]) w6 fun t9 w7 =>
    Run Try.prog (sOp (.pick (.const t5) (.const t9) (.const (Value.bool false))) 4) w7 fun t10 w8 =>
    GuardV t10 true (
      Run Try.prog (sOp (.fieldAddr 50 (.const t1) 1) 0) w8 fun t12 w9 =>
      Run Try.prog (sOp (.load 27 (.const t12)) 27) w9 fun t13 w10 =>
      Run Try.prog (sCall (Value.func (.func 127) #[] #[]) [t13]) w10 fun t14 w11 =>
      Run Try.prog (sOp (.pick (.const t10) (.const t14) (.const (Value.bool false))) 4) w11 fun t15 w12 =>
      R (.returned t15) w12) (
      Run Try.prog (sOp (.pick (.const t10) (.const undef) (.const (Value.bool false))) 4) w8 fun t15_2 w13 =>
      R (.returned t15_2) w13)) (
    Run Try.prog (sOp (.pick (.const t5) (.const undef) (.const (Value.bool false))) 4) w4 fun t10_2 w14 =>
    GuardV t10_2 true (
      Run Try.prog (sOp (.fieldAddr 50 (.const t1) 1) 0) w14 fun t12_2 w15 =>
      Run Try.prog (sOp (.load 27 (.const t12_2)) 27) w15 fun t13_2 w16 =>
      Run Try.prog (sCall (Value.func (.func 127) #[] #[]) [t13_2]) w16 fun t14_2 w17 =>
      Run Try.prog (sOp (.pick (.const t10_2) (.const t14_2) (.const (Value.bool false))) 4) w17 fun t15_3 w18 =>
      R (.returned t15_3) w18) (
      Run Try.prog (sOp (.pick (.const t10_2) (.const undef) (.const (Value.bool false))) 4) w14 fun t15_4 w19 =>
      R (.returned t15_4) w19))
theorem calls_i_ClauseValid {p0 : Value} {w : World} {R : Ending → World → Prop} (h : sh_i_ClauseValid p0 w R) : Calls Try.prog 86 #[p0] w R :=
  calls_sh .leaf [p0] mixed Try.func86 (by kernel_rfl) (by kernel_rfl) h


/- loop.example/prologserver/impl.instance : function 87 -/
def sh_i_instance (p0 p1 p2 : Value) (w : World) (R : Ending → World → Prop) : Prop :=
  Run Try.prog (sOp (.box 31 (.const p0)) 0) w fun t3 w1 =>
  Run Try.prog (sOp (.box 31 (.const p1)) 0) w1 fun t4 w2 =>
  Run Try.prog (sOp (.fieldAddr 31 (.const t4) 0) 0) w2 fun t10 w3 =>
  Run Try.prog (sOp (.load 3 (.const t10)) 3) w3 fun t11 w4 =>
  Run Try.prog (sBin .eql 3 false true t11 (Value.int .i64 1)) w4 fun t12 w5 =>
  CondV t12 (
    Run Try.prog (sOp (.fieldAddr 31 (.const t4) 1) 0) w5 fun t15 w6 =>
    Run Try.prog (sOp (.load 3 (.const t15)) 3) w6 fun t16 w7 =>
    Run Try.prog (sOp (.lookup 93 (.const p2) (.const t16) true) 111) w7 fun t17 w8 =>
    Run Try.prog (sOp (.extract (.const t17) 0) 31) w8 fun t18 w9 =>
    Run Try.prog (sOp (.extract (.const t17) 1) 4) w9 fun t19 w10 =>
    Run Try.prog (sOp (.alloc 31) 0) w10 fun t7 w11 =>
    Run Try.prog (sOp (.store 31 (.const t7) (.const t18)) 0) w11 fun _u w12 =>
    Run Try.prog (sOp (.unOp .not 4 (.const t19)) 4) w12 fun t21 w13 =>
    CondV t21 (
      Run Try.prog (sOp (.fieldAddr 31 (.const t4) 1) 0) w13 fun t23 w14 =>
      Run Try.prog (sOp (.load 3 (.const t23)) 3) w14 fun t24 w15 =>
      Run Try.prog (sOp (.load 31 (.const t3)) 31) w15 fun t25 w16 =>
      Run Try.prog (sOp (.mapUpdate 93 (.const p2) (.const t24) (.const t25)) 0) w16 fun _ w17 =>
      R (.returned (Value.bool true)) w17) (
      Run Try.prog (sOp (.load 31 (.const t7)) 31) w13 fun t26 w18 =>
    Run Try.prog (sOp (.load 31 (.const t3)) 31) w18 fun t27 w19 =>
    Run Try.prog (sCall (Value.func (.func 128) #[] #[]) [t26, t27]) w19 fun t28 w20 =>
    R (.returned t28) w20)) (
    (∃ J21 : Value → World → Prop, (
    Run Try.prog (sOp (.fieldAddr 31 (.const t3) 0) 0) w5 fun t29 w22 =>
    Run Try.prog (sOp (.load 3 (.const t29)) 3) w22 fun t30 w23 =>
    Run Try.prog (sOp (.fieldAddr 31 (.const t4) 0) 0) w23 fun t31 w24 =>
    Run Try.prog (sOp (.load 3 (.const t31)) 3) w24 fun t32 w25 =>
    Run Try.prog (sBin .neq 3 false false t30 t32) w25 fun t33 w26 =>
    GuardV t33 false (
      Run Try.prog (sOp (.fieldAddr 31 (.const t3) 1) 0) w26 fun t35 w27 =>
      Run Try.prog (sOp (.load 3 (.const t35)) 3) w27 fun t36 w28 =>
      Run Try.prog (sOp (.fieldAddr 31 (.const t4) 1) 0) w28 fun t37 w29 =>
      Run Try.prog (sOp (.load 3 (.const t37)) 3) w29 fun t38 w30 =>
      Run Try.prog (sBin .neq 3 false false t36 t38) w30 fun t39 w31 =>
      Run Try.prog (sOp (.pick (.const t33) (.const (Value.bool true)) (.const t39)) 4) w31 fun t40 w32 =>
      GuardV t40 false (
        Run Try.prog (sOp (.fieldAddr 31 (.const t3) 2) 0) w32 fun t42 w33 =>
        Run Try.prog (sOp (.load 9 (.const t42)) 9) w33 fun t43 w34 =>
        Run Try.prog (sOp (.fieldAddr 31 (.const t4) 2) 0) w34 fun t44 w35 =>
        Run Try.prog (sOp (.load 9 (.const t44)) 9) w35 fun t45 w36 =>
        Run Try.prog (sBin .neq 9 false false t43 t45) w36 fun t46 w37 =>
        Run Try.prog (sOp (.pick (.const t40) (.const (Value.bool true)) (.const t46)) 4) w37 fun t47 w38 =>
        GuardV t47 false (
          Run Try.prog (sOp (.fieldAddr 31 (.const t3) 3) 0) w38 fun t49 w39 =>
          Run Try.prog (sOp (.load 27 (.const t49)) 27) w39 fun t50 w40 =>
          Run Try.prog (sBuiltin .len #[27] 3 [false] [t50]) w40 fun t51 w41 =>
          Run Try.prog (sOp (.fieldAddr 31 (.const t4) 3) 0) w41 fun t52 w42 =>
          Run Try.prog (sOp (.load 27 (.const t52)) 27) w42 fun t53 w43 =>
          Run Try.prog (sBuiltin .len #[27] 3 [false] [t53]) w43 fun t54 w44 =>
          Run Try.prog (sBin .neq 3 false false t51 t54) w44 fun t55 w45 =>
          Run Try.prog (sOp (.pick (.const t47) (.const (Value.bool true)) (.const t55)) 4) w45 fun t56 w46 =>
          J21 t56 w46) (
          Run Try.prog (sOp (.pick (.const t47) (.const (Value.bool true)) (.const undef)) 4) w38 fun t56_2 w47 =>
          J21 t56_2 w47)) (
        Run Try.prog (sOp (.pick (.const t40) (.const (Value.bool true)) (.const undef)) 4) w32 fun t47_2 w48 =>
        GuardV t47_2 false (
          Run Try.prog (sOp (.fieldAddr 31 (.const t3) 3) 0) w48 fun t49_2 w49 =>
          Run Try.prog (sOp (.load 27 (.const t49_2)) 27) w49 fun t50_2 w50 =>
          Run Try.prog (sBuiltin .len #[27] 3 [false] [t50_2]) w50 fun t51_2 w51 =>
          Run Try.prog (sOp (.fieldAddr 31 (.const t4) 3) 0) w51 fun t52_2 w52 =>
          Run Try.prog (sOp (.load 27 (.const t52_2)) 27) w52 fun t53_2 w53 =>
          Run Try.prog (sBuiltin .len #[27] 3 [false] [t53_2]) w53 fun t54_2 w54 =>
          Run Try.prog (sBin .neq 3 false false t51_2 t54_2) w54 fun t55_2 w55 =>
          Run Try.prog (sOp (.pick (.const t47_2) (.const (Value.bool true)) (.const t55_2)) 4) w55 fun t56_3 w56 =>
          J21 t56_3 w56) (
          Run Try.prog (sOp (.pick (.const t47_2) (.const (Value.bool true)) (.const undef)) 4) w48 fun t56_4 w57 =>
          J21 t56_4 w57))) (
      Run Try.prog (sOp (.pick (.const t33) (.const (Value.bool true)) (.const undef)) 4) w26 fun t40_2 w58 =>
      GuardV t40_2 false (
        Run Try.prog (sOp (.fieldAddr 31 (.const t3) 2) 0) w58 fun t42_2 w59 =>
        Run Try.prog (sOp (.load 9 (.const t42_2)) 9) w59 fun t43_2 w60 =>
        Run Try.prog (sOp (.fieldAddr 31 (.const t4) 2) 0) w60 fun t44_2 w61 =>
        Run Try.prog (sOp (.load 9 (.const t44_2)) 9) w61 fun t45_2 w62 =>
        Run Try.prog (sBin .neq 9 false false t43_2 t45_2) w62 fun t46_2 w63 =>
        Run Try.prog (sOp (.pick (.const t40_2) (.const (Value.bool true)) (.const t46_2)) 4) w63 fun t47_3 w64 =>
        GuardV t47_3 false (
          Run Try.prog (sOp (.fieldAddr 31 (.const t3) 3) 0) w64 fun t49_3 w65 =>
          Run Try.prog (sOp (.load 27 (.const t49_3)) 27) w65 fun t50_3 w66 =>
          Run Try.prog (sBuiltin .len #[27] 3 [false] [t50_3]) w66 fun t51_3 w67 =>
          Run Try.prog (sOp (.fieldAddr 31 (.const t4) 3) 0) w67 fun t52_3 w68 =>
          Run Try.prog (sOp (.load 27 (.const t52_3)) 27) w68 fun t53_3 w69 =>
          Run Try.prog (sBuiltin .len #[27] 3 [false] [t53_3]) w69 fun t54_3 w70 =>
          Run Try.prog (sBin .neq 3 false false t51_3 t54_3) w70 fun t55_3 w71 =>
          Run Try.prog (sOp (.pick (.const t47_3) (.const (Value.bool true)) (.const t55_3)) 4) w71 fun t56_5 w72 =>
          J21 t56_5 w72) (
          Run Try.prog (sOp (.pick (.const t47_3) (.const (Value.bool true)) (.const undef)) 4) w64 fun t56_6 w73 =>
          J21 t56_6 w73)) (
        Run Try.prog (sOp (.pick (.const t40_2) (.const (Value.bool true)) (.const undef)) 4) w58 fun t47_4 w74 =>
        GuardV t47_4 false (
          Run Try.prog (sOp (.fieldAddr 31 (.const t3) 3) 0) w74 fun t49_4 w75 =>
          Run Try.prog (sOp (.load 27 (.const t49_4)) 27) w75 fun t50_4 w76 =>
          Run Try.prog (sBuiltin .len #[27] 3 [false] [t50_4]) w76 fun t51_4 w77 =>
          Run Try.prog (sOp (.fieldAddr 31 (.const t4) 3) 0) w77 fun t52_4 w78 =>
          Run Try.prog (sOp (.load 27 (.const t52_4)) 27) w78 fun t53_4 w79 =>
          Run Try.prog (sBuiltin .len #[27] 3 [false] [t53_4]) w79 fun t54_4 w80 =>
          Run Try.prog (sBin .neq 3 false false t51_4 t54_4) w80 fun t55_4 w81 =>
          Run Try.prog (sOp (.pick (.const t47_4) (.const (Value.bool true)) (.const t55_4)) 4) w81 fun t56_7 w82 =>
          J21 t56_7 w82) (
          Run Try.prog (sOp (.pick (.const t47_4) (.const (Value.bool true)) (.const undef)) 4) w74 fun t56_8 w83 =>
          J21 t56_8 w83)))) ∧
  ∀ t56_9 _ _ _ _ _ _ _ _ _ _ _ _ _ _ _ _ _ _ _ _ _ _ _ _ _ _ _ : Value, ∀ w84 : World, J21 t56_9 w84 →
  CondV t56_9 (
    R (.returned (Value.bool false)) w84) (
    Run Try.prog (sOp (.fieldAddr 31 (.const t4) 3) 0) w84 fun t57 w85 =>
  Run Try.prog (sOp (.load 27 (.const t57)) 27) w85 fun t58 w86 =>
  Run Try.prog (sBuiltin .len #[27] 3 [false] [t58]) w86 fun t59 w87 =>
  (∃ (I88 : Value → World → Prop) (m89 : Value → World → Nat), I88 (Value.int .i64 0) w87 ∧
  ∀ t60 _ _ t75 t74 t73 t72 t71 t70 t69 t68 t67 t66 t65 t64 t63 _ _ _ : Value, ∀ w90 : World, I88 t60 w90 →
  Run Try.prog (sBin .lss 3 false false t60 t59) w90 fun t61_2 w91 =>
  CondV t61_2 (
    (∃ A92 : (Nat → Bool) → Value → Value → Value → Value → Value → Value → Value → Value → Value → Value → Value → Value → Value → World → Prop, A92 (fun _ => false) t75 t74 t73 t72 t71 t70 t69 t68 t67 t66 t65 t64 t63 { w91 with drawn := w91.drawn + 1 } ∧ (
    (∀ D93 : Nat → Bool, D93 0 = false → ∀ t75_2 t74_2 t73_2 t72_2 t71_2 t70_2 t69_2 t68_2 t67_2 t66_2 t65_2 t64_2 t63_2 : Value, ∀ w94 : World, A92 D93 t75_2 t74_2 t73_2 t72_2 t71_2 t70_2 t69_2 t68_2 t67_2 t66_2 t65_2 t64_2 t63_2 w94 →
      Run Try.prog (sOp (.fieldAddr 31 (.const t3) 3) 0) w94 fun t63_3 w95 =>
      A92 (setD D93 0) t75_2 t74_2 t73_2 t72_2 t71_2 t70_2 t69_2 t68_2 t67_2 t66_2 t65_2 t64_2 t63_3 w95) ∧
    (∀ D93 : Nat → Bool, D93 1 = false → D93 0 = true → ∀ t75_2 t74_2 t73_2 t72_2 t71_2 t70_2 t69_2 t68_2 t67_2 t66_2 t65_2 t64_2 t63_2 : Value, ∀ w96 : World, A92 D93 t75_2 t74_2 t73_2 t72_2 t71_2 t70_2 t69_2 t68_2 t67_2 t66_2 t65_2 t64_2 t63_2 w96 →
      Run Try.prog (sOp (.load 27 (.const t63_2)) 27) w96 fun t64_3 w97 =>
      A92 (setD D93 1) t75_2 t74_2 t73_2 t72_2 t71_2 t70_2 t69_2 t68_2 t67_2 t66_2 t65_2 t64_3 t63_2 w97) ∧
    (∀ D93 : Nat → Bool, D93 2 = false → ∀ t75_2 t74_2 t73_2 t72_2 t71_2 t70_2 t69_2 t68_2 t67_2 t66_2 t65_2 t64_2 t63_2 : Value, ∀ w98 : World, A92 D93 t75_2 t74_2 t73_2 t72_2 t71_2 t70_2 t69_2 t68_2 t67_2 t66_2 t65_2 t64_2 t63_2 w98 →
      A92 (setD D93 2) t75_2 t74_2 t73_2 t72_2 t71_2 t70_2 t69_2 t68_2 t67_2 t66_2 t60 t64_2 t63_2 w98) ∧
    (∀ D93 : Nat → Bool, D93 3 = false → D93 1 = true → D93 2 = true → ∀ t75_2 t74_2 t73_2 t72_2 t71_2 t70_2 t69_2 t68_2 t67_2 t66_2 t65_2 t64_2 t63_2 : Value, ∀ w99 : World, A92 D93 t75_2 t74_2 t73_2 t72_2 t71_2 t70_2 t69_2 t68_2 t67_2 t66_2 t65_2 t64_2 t63_2 w99 →
      Run Try.prog (sOp (.indexAddr 27 (.const t64_2) (.const t65_2)) 0) w99 fun t66_3 w100 =>
      A92 (setD D93 3) t75_2 t74_2 t73_2 t72_2 t71_2 t70_2 t69_2 t68_2 t67_2 t66_3 t65_2 t64_2 t63_2 w100) ∧
    (∀ D93 : Nat → Bool, D93 4 = false → D93 3 = true → ∀ t75_2 t74_2 t73_2 t72_2 t71_2 t70_2 t69_2 t68_2 t67_2 t66_2 t65_2 t64_2 t63_2 : Value, ∀ w101 : World, A92 D93 t75_2 t74_2 t73_2 t72_2 t71_2 t70_2 t69_2 t68_2 t67_2 t66_2 t65_2 t64_2 t63_2 w101 →
      Run Try.prog (sOp (.load 31 (.const t66_2)) 31) w101 fun t67_3 w102 =>
      A92 (setD D93 4) t75_2 t74_2 t73_2 t72_2 t71_2 t70_2 t69_2 t68_2 t67_3 t66_2 t65_2 t64_2 t63_2 w102) ∧
    (∀ D93 : Nat → Bool, D93 5 = false → ∀ t75_2 t74_2 t73_2 t72_2 t71_2 t70_2 t69_2 t68_2 t67_2 t66_2 t65_2 t64_2 t63_2 : Value, ∀ w103 : World, A92 D93 t75_2 t74_2 t73_2 t72_2 t71_2 t70_2 t69_2 t68_2 t67_2 t66_2 t65_2 t64_2 t63_2 w103 →
      Run Try.prog (sOp (.fieldAddr 31 (.const t4) 3) 0) w103 fun t68_3 w104 =>
      A92 (setD D93 5) t75_2 t74_2 t73_2 t72_2 t71_2 t70_2 t69_2 t68_3 t67_2 t66_2 t65_2 t64_2 t63_2 w104) ∧
    (∀ D93 : Nat → Bool, D93 6 = false → D93 5 = true → ∀ t75_2 t74_2 t73_2 t72_2 t71_2 t70_2 t69_2 t68_2 t67_2 t66_2 t65_2 t64_2 t63_2 : Value, ∀ w105 : World, A92 D93 t75_2 t74_2 t73_2 t72_2 t71_2 t70_2 t69_2 t68_2 t67_2 t66_2 t65_2 t64_2 t63_2 w105 →
      Run Try.prog (sOp (.load 27 (.const t68_2)) 27) w105 fun t69_3 w106 =>
      A92 (setD D93 6) t75_2 t74_2 t73_2 t72_2 t71_2 t70_2 t69_3 t68_2 t67_2 t66_2 t65_2 t64_2 t63_2 w106) ∧
    (∀ D93 : Nat → Bool, D93 7 = false → ∀ t75_2 t74_2 t73_2 t72_2 t71_2 t70_2 t69_2 t68_2 t67_2 t66_2 t65_2 t64_2 t63_2 : Value, ∀ w107 : World, A92 D93 t75_2 t74_2 t73_2 t72_2 t71_2 t70_2 t69_2 t68_2 t67_2 t66_2 t65_2 t64_2 t63_2 w107 →
      A92 (setD D93 7) t75_2 t74_2 t73_2 t72_2 t71_2 t60 t69_2 t68_2 t67_2 t66_2 t65_2 t64_2 t63_2 w107) ∧
    (∀ D93 : Nat → Bool, D93 8 = false → D93 6 = true → D93 7 = true → ∀ t75_2 t74_2 t73_2 t72_2 t71_2 t70_2 t69_2 t68_2 t67_2 t66_2 t65_2 t64_2 t63_2 : Value, ∀ w108 : World, A92 D93 t75_2 t74_2 t73_2 t72_2 t71_2 t70_2 t69_2 t68_2 t67_2 t66_2 t65_2 t64_2 t63_2 w108 →
      Run Try.prog (sOp (.indexAddr 27 (.const t69_2) (.const t70_2)) 0) w108 fun t71_3 w109 =>
      A92 (setD D93 8) t75_2 t74_2 t73_2 t72_2 t71_3 t70_2 t69_2 t68_2 t67_2 t66_2 t65_2 t64_2 t63_2 w109) ∧
    (∀ D93 : Nat → Bool, D93 9 = false → D93 8 = true → ∀ t75_2 t74_2 t73_2 t72_2 t71_2 t70_2 t69_2 t68_2 t67_2 t66_2 t65_2 t64_2 t63_2 : Value, ∀ w110 : World, A92 D93 t75_2 t74_2 t73_2 t72_2 t71_2 t70_2 t69_2 t68_2 t67_2 t66_2 t65_2 t64_2 t63_2 w110 →
      Run Try.prog (sOp (.load 31 (.const t71_2)) 31) w110 fun t72_3 w111 =>
      A92 (setD D93 9) t75_2 t74_2 t73_2 t72_3 t71_2 t70_2 t69_2 t68_2 t67_2 t66_2 t65_2 t64_2 t63_2 w111) ∧
    (∀ D93 : Nat → Bool, D93 10 = false → ∀ t75_2 t74_2 t73_2 t72_2 t71_2 t70_2 t69_2 t68_2 t67_2 t66_2 t65_2 t64_2 t63_2 : Value, ∀ w112 : World, A92 D93 t75_2 t74_2 t73_2 t72_2 t71_2 t70_2 t69_2 t68_2 t67_2 t66_2 t65_2 t64_2 t63_2 w112 →
      A92 (setD D93 10) t75_2 t74_2 p2 t72_2 t71_2 t70_2 t69_2 t68_2 t67_2 t66_2 t65_2 t64_2 t63_2 w112) ∧
    (∀ D93 : Nat → Bool, D93 11 = false → D93 4 = true → D93 9 = true → D93 10 = true → ∀ t75_2 t74_2 t73_2 t72_2 t71_2 t70_2 t69_2 t68_2 t67_2 t66_2 t65_2 t64_2 t63_2 : Value, ∀ w113 : World, A92 D93 t75_2 t74_2 t73_2 t72_2 t71_2 t70_2 t69_2 t68_2 t67_2 t66_2 t65_2 t64_2 t63_2 w113 →
      Run Try.prog (sCall (Value.func (.func 87) #[] #[]) [t67_2, t72_2, t73_2]) w113 fun t74_3 w114 =>
      A92 (setD D93 11) t75_2 t74_3 t73_2 t72_2 t71_2 t70_2 t69_2 t68_2 t67_2 t66_2 t65_2 t64_2 t63_2 w114) ∧
    (∀ D93 : Nat → Bool, D93 12 = false → D93 11 = true → ∀ t75_2 t74_2 t73_2 t72_2 t71_2 t70_2 t69_2 t68_2 t67_2 t66_2 t65_2 t64_2 t63_2 : Value, ∀ w115 : World, A92 D93 t75_2 t74_2 t73_2 t72_2 t71_2 t70_2 t69_2 t68_2 t67_2 t66_2 t65_2 t64_2 t63_2 w115 →
      Run Try.prog (sOp (.unOp .not 4 (.const t74_2)) 4) w115 fun t75_3 w116 =>
      A92 (setD D93 12) t75_3 t74_2 t73_2 t72_2 t71_2 t70_2 t69_2 t68_2 t67_2 t66_2 t65_2 t64_2 t63_2 w116) ∧
    True) ∧
  ∀ D93 : Nat → Bool, D93 12 = true → D93 11 = true → D93 10 = true → D93 9 = true → D93 8 = true → D93 7 = true → D93 6 = true → D93 5 = true → D93 4 = true → D93 3 = true → D93 2 = true → D93 1 = true → D93 0 = true → ∀ t75_2 t74_2 t73_2 t72_2 t71_2 t70_2 t69_2 t68_2 t67_2 t66_2 t65_2 t64_2 t63_2 : Value, ∀ w117 : World, A92 D93 t75_2 t74_2 t73_2 t72_2 t71_2 t70_2 t69_2 t68_2 t67_2 t66_2 t65_2 t64_2 t63_2 w117 →
  CondV t75_2 (
    R (.returned (Value.bool false)) w117) (
    Run Try.prog (sBin .add 3 false true t60 (Value.int .i64 1)) w117 fun t76_2 w118 =>
  I88 t76_2 w118 ∧ m89 t76_2 w118 < m89 t60 w90))) (
    R (.returned (Value.bool true)) w91)))))
theorem calls_i_instance {p0 p1 p2 : Value} {w : World} {R : Ending → World → Prop} (h : sh_i_instance p0 p1 p2 w R) : Calls Try.prog 87 #[p0, p1, p2] w R :=
  calls_sh (.seq none .leaf (.seq none .leaf (.seq none (.seq (some [56]) .leaf .leaf) (.seq none (.seq none .leaf (.one (.loop [60] .leaf))) .leaf)))) [p0, p1, p2] mixed Try.func87 (by kernel_rfl) (by kernel_rfl) h


/- loop.example/prologserver/spec.l16Clause : function 88 -/
def sh_s_l16Clause (p0 : Value) (w : World) (R : Ending → World → Prop) : Prop :=
  Run Try.prog (sOp (.box 50 (.const p0)) 0) w fun t1 w1 =>
  (∃ J2 : Value → World → Prop, (
    Run Try.prog (sOp (.fieldAddr 50 (.const t1) 0) 0) w1 fun t7 w3 =>
    Run Try.prog (sOp (.load 31 (.const t7)) 31) w3 fun t8 w4 =>
    Run Try.prog (sCall (Value.func (.func 129) #[] #[]) [t8]) w4 fun t9 w5 =>
    Run Try.prog (sOp (.unOp .not 4 (.const t9)) 4) w5 fun t10 w6 =>
    GuardV t10 false (
      Run Try.prog (sOp (.fieldAddr 50 (.const t1) 1) 0) w6 fun t12 w7 =>
      Run Try.prog (sOp (.load 27 (.const t12)) 27) w7 fun t13 w8 =>
      Run Try.prog (sBuiltin .len #[27] 3 [false] [t13]) w8 fun t14 w9 =>
      Run Try.prog (sBin .gtr 3 false true t14 (Value.int .i64 3)) w9 fun t15 w10 =>
      Run Try.prog (sOp (.pick (.const t10) (.const (Value.bool true)) (.const t15)) 4) w10 fun t16 w11 =>
      J2 t16 w11) (
      Run Try.prog (sOp (.pick (.const t10) (.const (Value.bool true)) (.const undef)) 4) w6 fun t16_2 w12 =>
      J2 t16_2 w12)) ∧
  ∀ t16_3 _ _ _ _ _ _ _ _ _ : Value, ∀ w13 : World, J2 t16_3 w13 →
  CondV t16_3 (
    R (.returned (Value.bool false)) w13) (
    Run Try.prog (sBuildSlice 84 0 []) w13 fun t17 w14 =>
  (∃ (I15 : Value → Value → World → Prop) (m16 : Value → Value → World → Nat), I15 (Value.int .i64 0) t17 w14 ∧
  ∀ t4 _ _ t3 _ _ _ _ _ _ _ _ _ _ _ _ _ _ _ _ _ _ _ _ : Value, ∀ w17 : World, I15 t4 t3 w17 →
  Run Try.prog (sOp (.fieldAddr 50 (.const t1) 1) 0) w17 fun t19_2 w18 =>
  Run Try.prog (sOp (.load 27 (.const t19_2)) 27) w18 fun t20_2 w19 =>
  Run Try.prog (sBuiltin .len #[27] 3 [false] [t20_2]) w19 fun t21_2 w20 =>
  Run Try.prog (sBin .lss 3 false false t4 t21_2) w20 fun t22_2 w21 =>
  CondV t22_2 (
    Run Try.prog (sOp (.fieldAddr 50 (.const t1) 1) 0) w21 fun t25_2 w22 =>
  Run Try.prog (sOp (.load 27 (.const t25_2)) 27) w22 fun t26_2 w23 =>
  Run Try.prog (sOp (.indexAddr 27 (.const t26_2) (.const t4)) 0) w23 fun t28_2 w24 =>
  Run Try.prog (sOp (.load 31 (.const t28_2)) 31) w24 fun t29_2 w25 =>
  Run Try.prog (sCall (Value.func (.func 129) #[] #[]) [t29_2]) w25 fun t30_2 w26 =>
  Run Try.prog (sOp (.unOp .not 4 (.const t30_2)) 4) w26 fun t31_2 w27 =>
  CondV t31_2 (
    R (.returned (Value.bool false)) w27) (
    Run Try.prog (sOp (.fieldAddr 50 (.const t1) 1) 0) w27 fun t33_2 w28 =>
  Run Try.prog (sOp (.load 27 (.const t33_2)) 27) w28 fun t34_2 w29 =>
  Run Try.prog (sOp (.indexAddr 27 (.const t34_2) (.const t4)) 0) w29 fun t36_2 w30 =>
  Run Try.prog (sOp (.load 31 (.const t36_2)) 31) w30 fun t37_2 w31 =>
  Run Try.prog (sCall (Value.func (.func 130) #[] #[]) [t3, t37_2]) w31 fun t38_2 w32 =>
  Run Try.prog (sBin .add 3 false true t4 (Value.int .i64 1)) w32 fun t24_2 w33 =>
  I15 t24_2 t38_2 w33 ∧ m16 t24_2 t38_2 w33 < m16 t4 t3 w17)) (
    Run Try.prog (sOp (.fieldAddr 50 (.const t1) 0) 0) w21 fun t39 w34 =>
  Run Try.prog (sOp (.load 31 (.const t39)) 31) w34 fun t40 w35 =>
  Run Try.prog (sCall (Value.func (.func 130) #[] #[]) [(Value.slice none 0 0), t40]) w35 fun t41 w36 =>
  (∃ (I37 : Value → World → Prop) (m38 : Value → World → Nat), I37 (Value.int .i64 0) w36 ∧
  ∀ t6 _ _ _ _ _ _ _ _ _ _ _ _ _ _ : Value, ∀ w39 : World, I37 t6 w39 →
  Run Try.prog (sBuiltin .len #[84] 3 [false] [t41]) w39 fun t44_2 w40 =>
  Run Try.prog (sBin .lss 3 false false t6 t44_2) w40 fun t45_2 w41 =>
  CondV t45_2 (
    Run Try.prog (sOp (.indexAddr 84 (.const t41) (.const t6)) 0) w41 fun t51_2 w42 =>
  Run Try.prog (sOp (.load 3 (.const t51_2)) 3) w42 fun t52_2 w43 =>
  Run Try.prog (sCall (Value.func (.func 131) #[] #[]) [t3, t52_2]) w43 fun t53_2 w44 =>
  Run Try.prog (sOp (.unOp .not 4 (.const t53_2)) 4) w44 fun t54_2 w45 =>
  CondV t54_2 (
    R (.returned (Value.bool false)) w45) (
    Run Try.prog (sBin .add 3 false true t6 (Value.int .i64 1)) w45 fun t47_2 w46 =>
  I37 t47_2 w46 ∧ m38 t47_2 w46 < m38 t6 w39)) (
    R (.returned (Value.bool true)) w41))))))
theorem calls_s_l16Clause {p0 : Value} {w : World} {R : Ending → World → Prop} (h : sh_s_l16Clause p0 w R) : Calls Try.prog 88 #[p0] w R :=
  calls_sh (.seq none .leaf (.seq none (.seq (some [16]) .leaf .leaf) (.seq none .leaf (.seq none (.seq none .leaf (.one (.loop [4, 3] .leaf))) (.seq none .leaf (.seq none (.seq none .leaf (.one (.loop [6] .leaf))) .leaf)))))) [p0] mixed Try.func88 (by kernel_rfl) (by kernel_rfl) h


/- slices.ContainsFunc[[]loop.example/prologserver/impl.Clause,loop.example/prologserver/impl.Clause] : function 89 -/
def sh_x_ContainsFunc_Clause (p0 p1 : Value) (w : World) (R : Ending → World → Prop) : Prop :=
  Run Try.prog (sCall (Value.func (.func 132) #[] #[]) [p0, p1]) w fun t7 w1 =>
  Run Try.prog (sBin .geq 3 false true t7 (Value.int .i64 0)) w1 fun t8 w2 =>
  R (.returned t8) w2
theorem calls_x_ContainsFunc_Clause {p0 p1 : Value} {w : World} {R : Ending → World → Prop} (h : sh_x_ContainsFunc_Clause p0 p1 w R) : Calls Try.prog 89 #[p0, p1] w R :=
  calls_sh .leaf [p0, p1] mixed Try.func89 (by kernel_rfl) (by kernel_rfl) h


/- loop.example/prologserver/impl.FlatProgram$1 : function 90 -/
def sh_i_FlatProgram_1 (p0 : Value) (w : World) (R : Ending → World → Prop) : Prop :=
  Run Try.prog (sOp (.box 50 (.const p0)) 0) w fun t1 w1 =>
  Run Try.prog (sOp (.load 50 (.const t1)) 50) w1 fun t3 w2 =>
  Run Try.prog (sCall (Value.func (.func 91) #[] #[]) [t3]) w2 fun t4 w3 =>
  Run Try.prog (sOp (.unOp .not 4 (.const t4)) 4) w3 fun t5 w4 =>
  R (.returned t5) w4
theorem calls_i_FlatProgram_1 {p0 : Value} {w : World} {R : Ending → World → Prop} (h : sh_i_FlatProgram_1 p0 w R) : Calls Try.prog 90 #[p0] w R :=
  calls_sh .leaf [p0] mixed Try.func90 (by kernel_rfl) (by kernel_rfl) h


/- loop.example/prologserver/impl.flatClause : function 91 -/
def sh_i_flatClause (p0 : Value) (w : World) (R : Ending → World → Prop) : Prop :=
  Run Try.prog (sOp (.box 50 (.const p0)) 0) w fun t1 w1 =>
  (∃ J2 : Value → World → Prop, (
    Run Try.prog (sOp (.fieldAddr 50 (.const t1) 0) 0) w1 fun t4 w3 =>
    Run Try.prog (sOp (.load 31 (.const t4)) 31) w3 fun t5 w4 =>
    Run Try.prog (sCall (Value.func (.func 133) #[] #[]) [t5]) w4 fun t6 w5 =>
    Run Try.prog (sOp (.unOp .not 4 (.const t6)) 4) w5 fun t7 w6 =>
    GuardV t7 false (
      Run Try.prog (sOp (.fieldAddr 50 (.const t1) 1) 0) w6 fun t9 w7 =>
      Run Try.prog (sOp (.load 27 (.const t9)) 27) w7 fun t10 w8 =>
      Run Try.prog (sBuiltin .len #[27] 3 [false] [t10]) w8 fun t11 w9 =>
      Run Try.prog (sBin .gtr 3 false true t11 (Value.int .i64 3)) w9 fun t12 w10 =>
      Run Try.prog (sOp (.pick (.const t7) (.const (Value.bool true)) (.const t12)) 4) w10 fun t13 w11 =>
      GuardV t13 false (
        Run Try.prog (sOp (.fieldAddr 50 (.const t1) 1) 0) w11 fun t15 w12 =>
        Run Try.prog (sOp (.load 27 (.const t15)) 27) w12 fun t16 w13 =>
        Run Try.prog (sCall (Value.func (.func 121) #[] #[]) [t16, (Value.func (.func 134) #[] #[])]) w13 fun t17 w14 =>
        Run Try.prog (sOp (.pick (.const t13) (.const (Value.bool true)) (.const t17)) 4) w14 fun t18 w15 =>
        J2 t18 w15) (
        Run Try.prog (sOp (.pick (.const t13) (.const (Value.bool true)) (.const undef)) 4) w11 fun t18_2 w16 =>
        J2 t18_2 w16)) (
      Run Try.prog (sOp (.pick (.const t7) (.const (Value.bool true)) (.const undef)) 4) w6 fun t13_2 w17 =>
      GuardV t13_2 false (
        Run Try.prog (sOp (.fieldAddr 50 (.const t1) 1) 0) w17 fun t15_2 w18 =>
        Run Try.prog (sOp (.load 27 (.const t15_2)) 27) w18 fun t16_2 w19 =>
        Run Try.prog (sCall (Value.func (.func 121) #[] #[]) [t16_2, (Value.func (.func 134) #[] #[])]) w19 fun t17_2 w20 =>
        Run Try.prog (sOp (.pick (.const t13_2) (.const (Value.bool true)) (.const t17_2)) 4) w20 fun t18_3 w21 =>
        J2 t18_3 w21) (
        Run Try.prog (sOp (.pick (.const t13_2) (.const (Value.bool true)) (.const undef)) 4) w17 fun t18_4 w22 =>
        J2 t18_4 w22))) ∧
  ∀ t18_5 _ _ _ _ _ _ _ _ _ _ _ _ _ _ : Value, ∀ w23 : World, J2 t18_5 w23 →
  CondV t18_5 (
    R (.returned (Value.bool false)) w23) (
    Run Try.prog (sOp (.fieldAddr 50 (.const t1) 1) 0) w23 fun t19 w24 =>
  Run Try.prog (sOp (.load 27 (.const t19)) 27) w24 fun t20 w25 =>
  Run Try.prog (sCall (Value.func (.func 135) #[] #[]) [t20]) w25 fun t21 w26 =>
  Run Try.prog (sOp (.alloc 84) 0) w26 fun t3 w27 =>
  Run Try.prog (sOp (.store 84 (.const t3) (.const t21)) 0) w27 fun _ w28 =>
  Run Try.prog (sOp (.fieldAddr 50 (.const t1) 0) 0) w28 fun t22 w29 =>
  Run Try.prog (sOp (.load 31 (.const t22)) 31) w29 fun t23 w30 =>
  Run Try.prog (sCall (Value.func (.func 136) #[] #[]) [t23, (Value.slice none 0 0)]) w30 fun t24 w31 =>
  Run Try.prog (sMakeFunc (.func 137) [] [t3]) w31 fun t25 w32 =>
  Run Try.prog (sCall (Value.func (.func 82) #[] #[]) [t24, t25]) w32 fun t26 w33 =>
  Run Try.prog (sOp (.unOp .not 4 (.const t26)) 4) w33 fun t27 w34 =>
  R (.returned t27) w34))
theorem calls_i_flatClause {p0 : Value} {w : World} {R : Ending → World → Prop} (h : sh_i_flatClause p0 w R) : Calls Try.prog 91 #[p0] w R :=
  calls_sh (.seq none .leaf (.seq none (.seq (some [18]) .leaf .leaf) .leaf)) [p0] mixed Try.func91 (by kernel_rfl) (by kernel_rfl) h


/- loop.example/prologserver/spec.l14Has : function 92 -/
def sh_s_l14Has (p0 p1 : Value) (w : World) (R : Ending → World → Prop) : Prop :=
  Run Try.prog (sOp (.box 59 (.const p1)) 0) w fun t3 w1 =>
  (∃ (I2 : Value → World → Prop) (m3 : Value → World → Nat), I2 (Value.int .i64 0) w1 ∧
  ∀ t5 _ _ _ t17 t16 t15 t14 t13 t12 _ _ _ _ : Value, ∀ w4 : World, I2 t5 w4 →
  Run Try.prog (sBuiltin .len #[62] 3 [false] [p0]) w4 fun t8_2 w5 =>
  Run Try.prog (sBin .lss 3 false false t5 t8_2) w5 fun t9_2 w6 =>
  CondV t9_2 (
    (∃ A7 : (Nat → Bool) → Value → Value → Value → Value → Value → Value → World → Prop, A7 (fun _ => false) t17 t16 t15 t14 t13 t12 { w6 with drawn := w6.drawn + 1 } ∧ (
    (∀ D8 : Nat → Bool, D8 0 = false → ∀ t17_2 t16_2 t15_2 t14_2 t13_2 t12_2 : Value, ∀ w9 : World, A7 D8 t17_2 t16_2 t15_2 t14_2 t13_2 t12_2 w9 →
      A7 (setD D8 0) t17_2 t16_2 t15_2 t14_2 t13_2 p0 w9) ∧
    (∀ D8 : Nat → Bool, D8 1 = false → ∀ t17_2 t16_2 t15_2 t14_2 t13_2 t12_2 : Value, ∀ w10 : World, A7 D8 t17_2 t16_2 t15_2 t14_2 t13_2 t12_2 w10 →
      A7 (setD D8 1) t17_2 t16_2 t15_2 t14_2 t5 t12_2 w10) ∧
    (∀ D8 : Nat → Bool, D8 2 = false → D8 0 = true → D8 1 = true → ∀ t17_2 t16_2 t15_2 t14_2 t13_2 t12_2 : Value, ∀ w11 : World, A7 D8 t17_2 t16_2 t15_2 t14_2 t13_2 t12_2 w11 →
      Run Try.prog (sOp (.indexAddr 62 (.const t12_2) (.const t13_2)) 0) w11 fun t14_3 w12 =>
      A7 (setD D8 2) t17_2 t16_2 t15_2 t14_3 t13_2 t12_2 w12) ∧
    (∀ D8 : Nat → Bool, D8 3 = false → D8 2 = true → ∀ t17_2 t16_2 t15_2 t14_2 t13_2 t12_2 : Value, ∀ w13 : World, A7 D8 t17_2 t16_2 t15_2 t14_2 t13_2 t12_2 w13 →
      Run Try.prog (sOp (.load 59 (.const t14_2)) 59) w13 fun t15_3 w14 =>
      A7 (setD D8 3) t17_2 t16_2 t15_3 t14_2 t13_2 t12_2 w14) ∧
    (∀ D8 : Nat → Bool, D8 4 = false → ∀ t17_2 t16_2 t15_2 t14_2 t13_2 t12_2 : Value, ∀ w15 : World, A7 D8 t17_2 t16_2 t15_2 t14_2 t13_2 t12_2 w15 →
      Run Try.prog (sOp (.load 59 (.const t3)) 59) w15 fun t16_3 w16 =>
      A7 (setD D8 4) t17_2 t16_3 t15_2 t14_2 t13_2 t12_2 w16) ∧
    (∀ D8 : Nat → Bool, D8 5 = false → D8 3 = true → D8 4 = true → ∀ t17_2 t16_2 t15_2 t14_2 t13_2 t12_2 : Value, ∀ w17 : World, A7 D8 t17_2 t16_2 t15_2 t14_2 t13_2 t12_2 w17 →
      Run Try.prog (sBin .eql 59 false false t15_2 t16_2) w17 fun t17_3 w18 =>
      A7 (setD D8 5) t17_3 t16_2 t15_2 t14_2 t13_2 t12_2 w18) ∧
    True) ∧
  ∀ D8 : Nat → Bool, D8 5 = true → D8 4 = true → D8 3 = true → D8 2 = true → D8 1 = true → D8 0 = true → ∀ t17_2 t16_2 t15_2 t14_2 t13_2 t12_2 : Value, ∀ w19 : World, A7 D8 t17_2 t16_2 t15_2 t14_2 t13_2 t12_2 w19 →
  CondV t17_2 (
    R (.returned (Value.bool true)) w19) (
    Run Try.prog (sBin .add 3 false true t5 (Value.int .i64 1)) w19 fun t11_2 w20 =>
  I2 t11_2 w20 ∧ m3 t11_2 w20 < m3 t5 w4))) (
    R (.returned (Value.bool false)) w6))
theorem calls_s_l14Has {p0 p1 : Value} {w : World} {R : Ending → World → Prop} (h : sh_s_l14Has p0 p1 w R) : Calls Try.prog 92 #[p0, p1] w R :=
  calls_sh (.seq none .leaf (.seq none (.seq none .leaf (.one (.loop [5] .leaf))) .leaf)) [p0, p1] mixed Try.func92 (by kernel_rfl) (by kernel_rfl) h


/- slices.Contains[[]loop.example/prologserver/impl.Pred,loop.example/prologserver/impl.Pred] : function 95 -/
def sh_x_Contains_Pred (p0 p1 : Value) (w : World) (R : Ending → World → Prop) : Prop :=
  Run Try.prog (sOp (.box 59 (.const p1)) 0) w fun t3 w1 =>
  Run Try.prog (sOp (.load 59 (.const t3)) 59) w1 fun t6 w2 =>
  Run Try.prog (sCall (Value.func (.func 139) #[] #[]) [p0, t6]) w2 fun t7 w3 =>
  Run Try.prog (sBin .geq 3 false true t7 (Value.int .i64 0)) w3 fun t8 w4 =>
  R (.returned t8) w4
theorem calls_x_Contains_Pred {p0 p1 : Value} {w : World} {R : Ending → World → Prop} (h : sh_x_Contains_Pred p0 p1 w R) : Calls Try.prog 95 #[p0, p1] w R :=
  calls_sh .leaf [p0, p1] mixed Try.func95 (by kernel_rfl) (by kernel_rfl) h


/- loop.example/prologserver/impl.addPred : function 99 -/
def sh_i_addPred (p0 p1 : Value) (w : World) (R : Ending → World → Prop) : Prop :=
  Run Try.prog (sOp (.box 59 (.const p1)) 0) w fun t3 w1 =>
  Run Try.prog (sOp (.load 59 (.const t3)) 59) w1 fun t6 w2 =>
  Run Try.prog (sCall (Value.func (.func 95) #[] #[]) [p0, t6]) w2 fun t7 w3 =>
  CondV t7 (
    R (.returned p0) w3) (
    Run Try.prog (sOp (.load 59 (.const t3)) 59) w3 fun t10 w4 =>
  Run Try.prog (sBuildSlice 62 1 [(0, t10)]) w4 fun t11 w5 =>
  Run Try.prog (sBuiltin .append #[62, 62] 62 [false, false] [p0, t11]) w5 fun t12 w6 =>
  R (.returned t12) w6)
theorem calls_i_addPred {p0 p1 : Value} {w : World} {R : Ending → World → Prop} (h : sh_i_addPred p0 p1 w R) : Calls Try.prog 99 #[p0, p1] w R :=
  calls_sh .leaf [p0, p1] mixed Try.func99 (by kernel_rfl) (by kernel_rfl) h


/- loop.example/prologserver/laws.eqPred : function 100 -/
def sh_l_eqPred (p0 p1 : Value) (w : World) (R : Ending → World → Prop) : Prop :=
  Run Try.prog (sOp (.box 59 (.const p0)) 0) w fun t2 w1 =>
  Run Try.prog (sOp (.box 59 (.const p1)) 0) w1 fun t3 w2 =>
  Run Try.prog (sOp (.fieldAddr 59 (.const t2) 0) 0) w2 fun t5 w3 =>
  Run Try.prog (sOp (.load 9 (.const t5)) 9) w3 fun t6 w4 =>
  Run Try.prog (sOp (.fieldAddr 59 (.const t3) 0) 0) w4 fun t7 w5 =>
  Run Try.prog (sOp (.load 9 (.const t7)) 9) w5 fun t8 w6 =>
  Run Try.prog (sBin .neq 9 false false t6 t8) w6 fun t9 w7 =>
  CondV t9 (
    R (.returned (Value.bool false)) w7) (
    Run Try.prog (sOp (.fieldAddr 59 (.const t2) 1) 0) w7 fun t10 w8 =>
  Run Try.prog (sOp (.load 3 (.const t10)) 3) w8 fun t11 w9 =>
  Run Try.prog (sOp (.fieldAddr 59 (.const t3) 1) 0) w9 fun t12 w10 =>
  Run Try.prog (sOp (.load 3 (.const t12)) 3) w10 fun t13 w11 =>
  Run Try.prog (sBin .neq 3 false false t11 t13) w11 fun t14 w12 =>
  CondV t14 (
    R (.returned (Value.bool false)) w12) (
    R (.returned (Value.bool true)) w12))
theorem calls_l_eqPred {p0 p1 : Value} {w : World} {R : Ending → World → Prop} (h : sh_l_eqPred p0 p1 w R) : Calls Try.prog 100 #[p0, p1] w R :=
  calls_sh .leaf [p0, p1] mixed Try.func100 (by kernel_rfl) (by kernel_rfl) h


/- loop.example/prologserver/spec.l4Renumber : function 101 -/
def sh_s_l4Renumber (p0 : Value) (w : World) (R : Ending → World → Prop) : Prop :=
  Run Try.prog (sOp (.box 50 (.const p0)) 0) w fun t1 w1 =>
  Run Try.prog (sOp (.alloc 50) 0) w1 fun t2 w2 =>
  Run Try.prog (sOp (.fieldAddr 50 (.const t1) 0) 0) w2 fun t5 w3 =>
  Run Try.prog (sOp (.load 31 (.const t5)) 31) w3 fun t6 w4 =>
  Run Try.prog (sBuildSlice 27 1 [(0, t6)]) w4 fun t7 w5 =>
  Run Try.prog (sOp (.fieldAddr 50 (.const t1) 1) 0) w5 fun t8 w6 =>
  Run Try.prog (sOp (.load 27 (.const t8)) 27) w6 fun t9 w7 =>
  Run Try.prog (sBuiltin .append #[27, 27] 27 [false, false] [t7, t9]) w7 fun t10 w8 =>
  Run Try.prog (sCall (Value.func (.func 140) #[] #[]) [t10]) w8 fun t11 w9 =>
  Run Try.prog (sOp (.indexAddr 27 (.const t11) (.const (Value.int .i64 0))) 0) w9 fun t13 w10 =>
  Run Try.prog (sOp (.load 31 (.const t13)) 31) w10 fun t14 w11 =>
  Run Try.prog (sBuild 50 [(0, t14)]) w11 fun t15 w12 =>
  Run Try.prog (sOp (.alloc 50) 0) w12 fun t4 w13 =>
  Run Try.prog (sOp (.store 50 (.const t4) (.const t15)) 0) w13 fun _u w14 =>
  (∃ J15 : World → Prop, (
    Run Try.prog (sOp (.fieldAddr 50 (.const t1) 1) 0) w14 fun t16 w16 =>
    Run Try.prog (sOp (.load 27 (.const t16)) 27) w16 fun t17 w17 =>
    Run Try.prog (sBuiltin .len #[27] 3 [false] [t17]) w17 fun t18 w18 =>
    Run Try.prog (sBin .gtr 3 false true t18 (Value.int .i64 0)) w18 fun t19 w19 =>
    CondV t19 (
      Run Try.prog (sOp (.slice 27 (.const t11) (some (.const (Value.int .i64 1))) none none) 27) w19 fun t21 w20 =>
      Run Try.prog (sOp (.fieldAddr 50 (.const t4) 1) 0) w20 fun t22 w21 =>
      Run Try.prog (sOp (.store 27 (.const t22) (.const t21)) 0) w21 fun _u w22 =>
      J15 w22) (
      J15 w19)) ∧
  ∀ _ _ _ _ _ _ _ : Value, ∀ w23 : World, J15 w23 →
  Run Try.prog (sOp (.load 50 (.const t4)) 50) w23 fun t23 w24 =>
  Run Try.prog (sOp (.store 50 (.const t2) (.const t23)) 0) w24 fun _ w25 =>
  (LoadV Try.prog 50 t2 w25 fun r0 => R (.returned r0) w25))
theorem calls_s_l4Renumber {p0 : Value} {w : World} {R : Ending → World → Prop} (h : sh_s_l4Renumber p0 w R) : Calls Try.prog 101 #[p0] w R :=
  calls_sh (.seq none .leaf (.seq none .leaf (.seq none .leaf (.seq (some []) .leaf .leaf)))) [p0] mixed Try.func101 (by kernel_rfl) (by kernel_rfl) h


/- loop.example/prologserver/impl.ownClause : function 102 -/
def sh_i_ownClause (p0 : Value) (w : World) (R : Ending → World → Prop) : Prop :=
  Run Try.prog (sOp (.box 50 (.const p0)) 0) w fun t1 w1 =>
  Run Try.prog (sOp (.alloc 50) 0) w1 fun t2 w2 =>
  (∃ A3 : (Nat → Bool) → Value → Value → Value → Value → Value → Value → Value → World → Prop, A3 (fun _ => false) undef undef undef undef undef undef undef { w2 with drawn := w2.drawn + 1 } ∧ (
    (∀ D4 : Nat → Bool, D4 0 = false → ∀ t9 t8 t7 t6 t5 t4 t3 : Value, ∀ w5 : World, A3 D4 t9 t8 t7 t6 t5 t4 t3 w5 →
      Run Try.prog (sOp (.fieldAddr 50 (.const t1) 0) 0) w5 fun t3_2 w6 =>
      A3 (setD D4 0) t9 t8 t7 t6 t5 t4 t3_2 w6) ∧
    (∀ D4 : Nat → Bool, D4 1 = false → D4 0 = true → ∀ t9 t8 t7 t6 t5 t4 t3 : Value, ∀ w7 : World, A3 D4 t9 t8 t7 t6 t5 t4 t3 w7 →
      Run Try.prog (sOp (.load 31 (.const t3)) 31) w7 fun t4_2 w8 =>
      A3 (setD D4 1) t9 t8 t7 t6 t5 t4_2 t3 w8) ∧
    (∀ D4 : Nat → Bool, D4 2 = false → D4 1 = true → ∀ t9 t8 t7 t6 t5 t4 t3 : Value, ∀ w9 : World, A3 D4 t9 t8 t7 t6 t5 t4 t3 w9 →
      Run Try.prog (sCall (Value.func (.func 114) #[] #[]) [t4]) w9 fun t5_2 w10 =>
      A3 (setD D4 2) t9 t8 t7 t6 t5_2 t4 t3 w10) ∧
    (∀ D4 : Nat → Bool, D4 3 = false → ∀ t9 t8 t7 t6 t5 t4 t3 : Value, ∀ w11 : World, A3 D4 t9 t8 t7 t6 t5 t4 t3 w11 →
      Run Try.prog (sOp (.fieldAddr 50 (.const t1) 1) 0) w11 fun t6_2 w12 =>
      A3 (setD D4 3) t9 t8 t7 t6_2 t5 t4 t3 w12) ∧
    (∀ D4 : Nat → Bool, D4 4 = false → D4 3 = true → ∀ t9 t8 t7 t6 t5 t4 t3 : Value, ∀ w13 : World, A3 D4 t9 t8 t7 t6 t5 t4 t3 w13 →
      Run Try.prog (sOp (.load 27 (.const t6)) 27) w13 fun t7_2 w14 =>
      A3 (setD D4 4) t9 t8 t7_2 t6 t5 t4 t3 w14) ∧
    (∀ D4 : Nat → Bool, D4 5 = false → D4 4 = true → D4 2 = true → ∀ t9 t8 t7 t6 t5 t4 t3 : Value, ∀ w15 : World, A3 D4 t9 t8 t7 t6 t5 t4 t3 w15 →
      Run Try.prog (sCall (Value.func (.func 65) #[] #[]) [t7]) w15 fun t8_2 w16 =>
      A3 (setD D4 5) t9 t8_2 t7 t6 t5 t4 t3 w16) ∧
    (∀ D4 : Nat → Bool, D4 6 = false → D4 2 = true → D4 5 = true → ∀ t9 t8 t7 t6 t5 t4 t3 : Value, ∀ w17 : World, A3 D4 t9 t8 t7 t6 t5 t4 t3 w17 →
      Run Try.prog (sBuild 50 [(0, t5), (1, t8)]) w17 fun t9_2 w18 =>
      A3 (setD D4 6) t9_2 t8 t7 t6 t5 t4 t3 w18) ∧
    (∀ D4 : Nat → Bool, D4 7 = false → D4 6 = true → D4 5 = true → D4 0 = true → D4 1 = true → D4 2 = true → D4 3 = true → D4 4 = true → D4 5 = true → D4 6 = true → ∀ t9 t8 t7 t6 t5 t4 t3 : Value, ∀ w19 : World, A3 D4 t9 t8 t7 t6 t5 t4 t3 w19 →
      Run Try.prog (sOp (.store 50 (.const t2) (.const t9)) 0) w19 fun _ w20 =>
      A3 (setD D4 7) t9 t8 t7 t6 t5 t4 t3 w20) ∧
    True) ∧
  ∀ D4 : Nat → Bool, D4 7 = true → D4 6 = true → D4 5 = true → D4 4 = true → D4 3 = true → D4 2 = true → D4 1 = true → D4 0 = true → ∀ t9 t8 t7 t6 t5 t4 t3 : Value, ∀ w21 : World, A3 D4 t9 t8 t7 t6 t5 t4 t3 w21 →
  (LoadV Try.prog 50 t2 w21 fun r0 => R (.returned r0) w21))
theorem calls_i_ownClause {p0 : Value} {w : World} {R : Ending → World → Prop} (h : sh_i_ownClause p0 w R) : Calls Try.prog 102 #[p0] w R :=
  calls_sh .leaf [p0] mixed Try.func102 (by kernel_rfl) (by kernel_rfl) h


/- loop.example/prologserver/impl.numbered : function 103 -/
def sh_i_numbered (p0 : Value) (w : World) (R : Ending → World → Prop) : Prop :=
  Run Try.prog (sOp (.box 50 (.const p0)) 0) w fun t1 w1 =>
  Run Try.prog (sOp (.alloc 50) 0) w1 fun t2 w2 =>
  Run Try.prog (sOp (.fieldAddr 50 (.const t1) 0) 0) w2 fun t4 w3 =>
  Run Try.prog (sOp (.load 31 (.const t4)) 31) w3 fun t5 w4 =>
  Run Try.prog (sBuildSlice 27 1 [(0, t5)]) w4 fun t6 w5 =>
  Run Try.prog (sOp (.fieldAddr 50 (.const t1) 1) 0) w5 fun t7 w6 =>
  Run Try.prog (sOp (.load 27 (.const t7)) 27) w6 fun t8 w7 =>
  Run Try.prog (sBuiltin .append #[27, 27] 27 [false, false] [t6, t8]) w7 fun t9 w8 =>
  Run Try.prog (sCall (Value.func (.func 141) #[] #[]) [t9]) w8 fun t10 w9 =>
  (∃ A10 : (Nat → Bool) → Value → Value → Value → Value → Value → Value → Value → World → Prop, A10 (fun _ => false) undef undef undef undef undef undef undef { w9 with drawn := w9.drawn + 1 } ∧ (
    (∀ D11 : Nat → Bool, D11 0 = false → ∀ t17 t16 t15 t14 t13 t12 t11 : Value, ∀ w12 : World, A10 D11 t17 t16 t15 t14 t13 t12 t11 w12 →
      A10 (setD D11 0) t17 t16 t15 t14 t13 t12 t10 w12) ∧
    (∀ D11 : Nat → Bool, D11 1 = false → D11 0 = true → ∀ t17 t16 t15 t14 t13 t12 t11 : Value, ∀ w13 : World, A10 D11 t17 t16 t15 t14 t13 t12 t11 w13 →
      Run Try.prog (sOp (.indexAddr 27 (.const t11) (.const (Value.int .i64 0))) 0) w13 fun t12_2 w14 =>
      A10 (setD D11 1) t17 t16 t15 t14 t13 t12_2 t11 w14) ∧
    (∀ D11 : Nat → Bool, D11 2 = false → D11 1 = true → ∀ t17 t16 t15 t14 t13 t12 t11 : Value, ∀ w15 : World, A10 D11 t17 t16 t15 t14 t13 t12 t11 w15 →
      Run Try.prog (sOp (.load 31 (.const t12)) 31) w15 fun t13_2 w16 =>
      A10 (setD D11 2) t17 t16 t15 t14 t13_2 t12 t11 w16) ∧
    (∀ D11 : Nat → Bool, D11 3 = false → ∀ t17 t16 t15 t14 t13 t12 t11 : Value, ∀ w17 : World, A10 D11 t17 t16 t15 t14 t13 t12 t11 w17 →
      A10 (setD D11 3) t17 t16 t15 t10 t13 t12 t11 w17) ∧
    (∀ D11 : Nat → Bool, D11 4 = false → D11 3 = true → ∀ t17 t16 t15 t14 t13 t12 t11 : Value, ∀ w18 : World, A10 D11 t17 t16 t15 t14 t13 t12 t11 w18 →
      Run Try.prog (sOp (.slice 27 (.const t14) (some (.const (Value.int .i64 1))) none none) 27) w18 fun t15_2 w19 =>
      A10 (setD D11 4) t17 t16 t15_2 t14 t13 t12 t11 w19) ∧
    (∀ D11 : Nat → Bool, D11 5 = false → D11 4 = true → ∀ t17 t16 t15 t14 t13 t12 t11 : Value, ∀ w20 : World, A10 D11 t17 t16 t15 t14 t13 t12 t11 w20 →
      Run Try.prog (sCall (Value.func (.func 142) #[] #[]) [t15]) w20 fun t16_2 w21 =>
      A10 (setD D11 5) t17 t16_2 t15 t14 t13 t12 t11 w21) ∧
    (∀ D11 : Nat → Bool, D11 6 = false → D11 2 = true → D11 5 = true → ∀ t17 t16 t15 t14 t13 t12 t11 : Value, ∀ w22 : World, A10 D11 t17 t16 t15 t14 t13 t12 t11 w22 →
      Run Try.prog (sBuild 50 [(0, t13), (1, t16)]) w22 fun t17_2 w23 =>
      A10 (setD D11 6) t17_2 t16 t15 t14 t13 t12 t11 w23) ∧
    (∀ D11 : Nat → Bool, D11 7 = false → D11 6 = true → D11 5 = true → D11 0 = true → D11 1 = true → D11 2 = true → D11 3 = true → D11 4 = true → D11 5 = true → D11 6 = true → ∀ t17 t16 t15 t14 t13 t12 t11 : Value, ∀ w24 : World, A10 D11 t17 t16 t15 t14 t13 t12 t11 w24 →
      Run Try.prog (sOp (.store 50 (.const t2) (.const t17)) 0) w24 fun _ w25 =>
      A10 (setD D11 7) t17 t16 t15 t14 t13 t12 t11 w25) ∧
    True) ∧
  ∀ D11 : Nat → Bool, D11 7 = true → D11 6 = true → D11 5 = true → D11 4 = true → D11 3 = true → D11 2 = true → D11 1 = true → D11 0 = true → ∀ t17 t16 t15 t14 t13 t12 t11 : Value, ∀ w26 : World, A10 D11 t17 t16 t15 t14 t13 t12 t11 w26 →
  (LoadV Try.prog 50 t2 w26 fun r0 => R (.returned r0) w26))
theorem calls_i_numbered {p0 : Value} {w : World} {R : Ending → World → Prop} (h : sh_i_numbered p0 w R) : Calls Try.prog 103 #[p0] w R :=
  calls_sh .leaf [p0] mixed Try.func103 (by kernel_rfl) (by kernel_rfl) h


/- loop.example/prologserver/laws.heldTerm : function 104 -/
def sh_l_heldTerm (p0 p1 : Value) (w : World) (R : Ending → World → Prop) : Prop :=
  Run Try.prog (sOp (.box 31 (.const p0)) 0) w fun t2 w1 =>
  Run Try.prog (sOp (.fieldAddr 31 (.const t2) 3) 0) w1 fun t5 w2 =>
  Run Try.prog (sOp (.load 27 (.const t5)) 27) w2 fun t6 w3 =>
  Run Try.prog (sCall (Value.func (.func 25) #[] #[]) [t6, p1]) w3 fun t8 w4 =>
  Run Try.prog (sBin .lss 3 false true t8 (Value.int .i64 0)) w4 fun t10 w5 =>
  CondV t10 (
    R (.returned (Value.int .i64 (-1))) w5) (
    R (.returned t8) w5)
theorem calls_l_heldTerm {p0 p1 : Value} {w : World} {R : Ending → World → Prop} (h : sh_l_heldTerm p0 p1 w R) : Calls Try.prog 104 #[p0, p1] w R :=
  calls_sh .leaf [p0, p1] mixed Try.func104 (by kernel_rfl) (by kernel_rfl) h


/- loop.example/prologserver/spec.l14Copy : function 105 -/
def sh_s_l14Copy (p0 : Value) (w : World) (R : Ending → World → Prop) : Prop :=
  Run Try.prog (sBuildSlice 41 0 []) w fun t5 w1 =>
  (∃ (I2 : Value → Value → World → Prop) (m3 : Value → Value → World → Nat), I2 (Value.int .i64 0) t5 w1 ∧
  ∀ t4 _ _ t3 _ _ _ _ _ _ _ _ _ _ _ _ : Value, ∀ w4 : World, I2 t4 t3 w4 →
  Run Try.prog (sBuiltin .len #[41] 3 [false] [p0]) w4 fun t8_2 w5 =>
  Run Try.prog (sBin .lss 3 false false t4 t8_2) w5 fun t9_2 w6 =>
  CondV t9_2 (
    Run Try.prog (sOp (.indexAddr 41 (.const p0) (.const t4)) 0) w6 fun t15_2 w7 =>
  Run Try.prog (sOp (.load 50 (.const t15_2)) 50) w7 fun t16_2 w8 =>
  Run Try.prog (sCall (Value.func (.func 143) #[] #[]) [t16_2]) w8 fun t17_2 w9 =>
  Run Try.prog (sBuildSlice 41 1 [(0, t17_2)]) w9 fun t18_2 w10 =>
  Run Try.prog (sBuiltin .append #[41, 41] 41 [false, false] [t3, t18_2]) w10 fun t19_2 w11 =>
  Run Try.prog (sBin .add 3 false true t4 (Value.int .i64 1)) w11 fun t11_2 w12 =>
  I2 t11_2 t19_2 w12 ∧ m3 t11_2 t19_2 w12 < m3 t4 t3 w4) (
    R (.returned t3) w6))
theorem calls_s_l14Copy {p0 : Value} {w : World} {R : Ending → World → Prop} (h : sh_s_l14Copy p0 w R) : Calls Try.prog 105 #[p0] w R :=
  calls_sh (.seq none .leaf (.seq none .leaf (.seq none (.seq none .leaf (.one (.loop [4, 3] .leaf))) .leaf))) [p0] mixed Try.func105 (by kernel_rfl) (by kernel_rfl) h


/- slices.Delete[[]loop.example/prologserver/impl.Clause,loop.example/prologserver/impl.Clause] : function 106 -/
def sh_x_Delete_Clause (p0 p1 p2 : Value) (w : World) (R : Ending → World → Prop) : Prop :=
  Run Try.prog (sBuiltin .len #[41] 3 [false] [p0]) w fun t12 w1 =>
  Run Try.prog (sOp (.slice 41 (.const p0) (some (.const p1)) (some (.const p2)) (some (.const t12))) 41) w1 fun _ w2 =>
  Run Try.prog (sBin .eql 3 false false p1 p2) w2 fun t16 w3 =>
  CondV t16 (
    R (.returned p0) w3) (
    Run Try.prog (sBuiltin .len #[41] 3 [false] [p0]) w3 fun t19 w4 =>
  (∃ A5 : (Nat → Bool) → Value → Value → Value → Value → Value → Value → Value → Value → World → Prop, A5 (fun _ => false) p0 undef undef undef undef undef undef undef { w4 with drawn := w4.drawn + 1 } ∧ (
    (∀ D6 : Nat → Bool, D6 0 = false → ∀ t0 t26 t25 t24 t23 t22 t21 t20 : Value, ∀ w7 : World, A5 D6 t0 t26 t25 t24 t23 t22 t21 t20 w7 →
      A5 (setD D6 0) t0 t26 t25 t24 t23 t22 t21 t0 w7) ∧
    (∀ D6 : Nat → Bool, D6 1 = false → ∀ t0 t26 t25 t24 t23 t22 t21 t20 : Value, ∀ w8 : World, A5 D6 t0 t26 t25 t24 t23 t22 t21 t20 w8 →
      A5 (setD D6 1) t0 t26 t25 t24 t23 t22 p1 t20 w8) ∧
    (∀ D6 : Nat → Bool, D6 2 = false → D6 0 = true → D6 1 = true → ∀ t0 t26 t25 t24 t23 t22 t21 t20 : Value, ∀ w9 : World, A5 D6 t0 t26 t25 t24 t23 t22 t21 t20 w9 →
      Run Try.prog (sOp (.slice 41 (.const t20) none (some (.const t21)) none) 41) w9 fun t22_2 w10 =>
      A5 (setD D6 2) t0 t26 t25 t24 t23 t22_2 t21 t20 w10) ∧
    (∀ D6 : Nat → Bool, D6 3 = false → ∀ t0 t26 t25 t24 t23 t22 t21 t20 : Value, ∀ w11 : World, A5 D6 t0 t26 t25 t24 t23 t22 t21 t20 w11 →
      A5 (setD D6 3) t0 t26 t25 t24 t0 t22 t21 t20 w11) ∧
    (∀ D6 : Nat → Bool, D6 4 = false → ∀ t0 t26 t25 t24 t23 t22 t21 t20 : Value, ∀ w12 : World, A5 D6 t0 t26 t25 t24 t23 t22 t21 t20 w12 →
      A5 (setD D6 4) t0 t26 t25 p2 t23 t22 t21 t20 w12) ∧
    (∀ D6 : Nat → Bool, D6 5 = false → D6 3 = true → D6 4 = true → ∀ t0 t26 t25 t24 t23 t22 t21 t20 : Value, ∀ w13 : World, A5 D6 t0 t26 t25 t24 t23 t22 t21 t20 w13 →
      Run Try.prog (sOp (.slice 41 (.const t23) (some (.const t24)) none none) 41) w13 fun t25_2 w14 =>
      A5 (setD D6 5) t0 t26 t25_2 t24 t23 t22 t21 t20 w14) ∧
    (∀ D6 : Nat → Bool, D6 6 = false → D6 2 = true → D6 5 = true → ∀ t0 t26 t25 t24 t23 t22 t21 t20 : Value, ∀ w15 : World, A5 D6 t0 t26 t25 t24 t23 t22 t21 t20 w15 →
      Run Try.prog (sBuiltin .append #[41, 41] 41 [false, false] [t22, t25]) w15 fun t26_2 w16 =>
      A5 (setD D6 6) t0 t26_2 t25 t24 t23 t22 t21 t20 w16) ∧
    (∀ D6 : Nat → Bool, D6 7 = false → D6 6 = true → D6 6 = true → D6 0 = true → D6 1 = true → D6 2 = true → D6 3 = true → D6 4 = true → D6 5 = true → D6 6 = true → ∀ t0 t26 t25 t24 t23 t22 t21 t20 : Value, ∀ w17 : World, A5 D6 t0 t26 t25 t24 t23 t22 t21 t20 w17 →
      A5 (setD D6 7) t26 t26 t25 t24 t23 t22 t21 t20 w17) ∧
    True) ∧
  ∀ D6 : Nat → Bool, D6 7 = true → D6 6 = true → D6 5 = true → D6 4 = true → D6 3 = true → D6 2 = true → D6 1 = true → D6 0 = true → ∀ t0 t26 t25 t24 t23 t22 t21 t20 : Value, ∀ w18 : World, A5 D6 t0 t26 t25 t24 t23 t22 t21 t20 w18 →
  Run Try.prog (sBuiltin .len #[41] 3 [false] [t0]) w18 fun t29 w19 =>
  Run Try.prog (sOp (.slice 41 (.const t0) (some (.const t29)) (some (.const t19)) none) 41) w19 fun t31 w20 =>
  Run Try.prog (sBuiltin .clear #[41] 0 [false] [t31]) w20 fun _ w21 =>
  R (.returned t0) w21))
theorem calls_x_Delete_Clause {p0 p1 p2 : Value} {w : World} {R : Ending → World → Prop} (h : sh_x_Delete_Clause p0 p1 p2 w R) : Calls Try.prog 106 #[p0, p1, p2] w R :=
  calls_sh .leaf [p0, p1, p2] mixed Try.func106 (by kernel_rfl) (by kernel_rfl) h


/- loop.example/prologserver/impl.ownProgram : function 107 -/
def sh_i_ownProgram (p0 : Value) (w : World) (R : Ending → World → Prop) : Prop :=
  Run Try.prog (sBuiltin .len #[41] 3 [false] [p0]) w fun t7 w1 =>
  (∃ (I2 : Value → Value → World → Prop) (m3 : Value → Value → World → Nat), I2 (Value.int .i64 0) (Value.slice none 0 0) w1 ∧
  ∀ t8 _ t3 _ _ _ _ _ _ _ _ _ : Value, ∀ w4 : World, I2 t8 t3 w4 →
  Run Try.prog (sBin .lss 3 false false t8 t7) w4 fun t9_2 w5 =>
  CondV t9_2 (
    Run Try.prog (sOp (.indexAddr 41 (.const p0) (.const t8)) 0) w5 fun t10_2 w6 =>
  Run Try.prog (sOp (.load 50 (.const t10_2)) 50) w6 fun t11_2 w7 =>
  Run Try.prog (sOp (.alloc 50) 0) w7 fun t5_2 w8 =>
  Run Try.prog (sOp (.store 50 (.const t5_2) (.const t11_2)) 0) w8 fun _ w9 =>
  Run Try.prog (sOp (.load 50 (.const t5_2)) 50) w9 fun t13_2 w10 =>
  Run Try.prog (sCall (Value.func (.func 102) #[] #[]) [t13_2]) w10 fun t14_2 w11 =>
  Run Try.prog (sBuildSlice 41 1 [(0, t14_2)]) w11 fun t15_2 w12 =>
  Run Try.prog (sBuiltin .append #[41, 41] 41 [false, false] [t3, t15_2]) w12 fun t16_2 w13 =>
  Run Try.prog (sBin .add 3 false true t8 (Value.int .i64 1)) w13 fun t17_2 w14 =>
  I2 t17_2 t16_2 w14 ∧ m3 t17_2 t16_2 w14 < m3 t8 t3 w4) (
    R (.returned t3) w5))
theorem calls_i_ownProgram {p0 : Value} {w : World} {R : Ending → World → Prop} (h : sh_i_ownProgram p0 w R) : Calls Try.prog 107 #[p0] w R :=
  calls_sh (.seq none .leaf (.seq none .leaf (.seq none (.seq none .leaf (.one (.loop [8, 3] .leaf))) .leaf))) [p0] mixed Try.func107 (by kernel_rfl) (by kernel_rfl) h


/- loop.example/prologserver/spec.l14Of : function 108 -/
def sh_s_l14Of (p0 : Value) (w : World) (R : Ending → World → Prop) : Prop :=
  Run Try.prog (sOp (.box 31 (.const p0)) 0) w fun t1 w1 =>
  Run Try.prog (sOp (.alloc 59) 0) w1 fun t2 w2 =>
  Run Try.prog (sOp (.fieldAddr 31 (.const t1) 2) 0) w2 fun t3 w3 =>
  Run Try.prog (sOp (.load 9 (.const t3)) 9) w3 fun t4 w4 =>
  Run Try.prog (sOp (.fieldAddr 31 (.const t1) 3) 0) w4 fun t5 w5 =>
  Run Try.prog (sOp (.load 27 (.const t5)) 27) w5 fun t6 w6 =>
  Run Try.prog (sBuiltin .len #[27] 3 [false] [t6]) w6 fun t7 w7 =>
  Run Try.prog (sBuild 59 [(0, t4), (1, t7)]) w7 fun t8 w8 =>
  Run Try.prog (sOp (.store 59 (.const t2) (.const t8)) 0) w8 fun _ w9 =>
  (LoadV Try.prog 59 t2 w9 fun r0 => R (.returned r0) w9)
theorem calls_s_l14Of {p0 : Value} {w : World} {R : Ending → World → Prop} (h : sh_s_l14Of p0 w R) : Calls Try.prog 108 #[p0] w R :=
  calls_sh .leaf [p0] mixed Try.func108 (by kernel_rfl) (by kernel_rfl) h


/- loop.example/prologserver/spec.QueryValid : function 109 -/
def sh_s_QueryValid (p0 : Value) (w : World) (R : Ending → World → Prop) : Prop :=
  (∃ (I1 : Value → World → Prop) (m2 : Value → World → Nat), I1 (Value.int .i64 0) w ∧
  ∀ t3 _ _ _ _ _ _ _ _ _ _ _ _ _ _ _ _ _ : Value, ∀ w3 : World, I1 t3 w3 →
  (∃ J4 : Value → World → Prop, (
    Run Try.prog (sBuiltin .len #[27] 3 [false] [p0]) w3 fun t6_2 w5 =>
    Run Try.prog (sBin .lss 3 false false t3 t6_2) w5 fun t7_2 w6 =>
    GuardV t7_2 true (
      Run Try.prog (sBin .leq 3 false true t3 (Value.int .i64 6)) w6 fun t10_2 w7 =>
      Run Try.prog (sOp (.pick (.const t7_2) (.const t10_2) (.const (Value.bool false))) 4) w7 fun t11_2 w8 =>
      J4 t11_2 w8) (
      Run Try.prog (sOp (.pick (.const t7_2) (.const undef) (.const (Value.bool false))) 4) w6 fun t11_3 w9 =>
      J4 t11_3 w9)) ∧
  ∀ t11_4 _ _ _ _ _ _ _ : Value, ∀ w10 : World, J4 t11_4 w10 →
  CondV t11_4 (
    Run Try.prog (sOp (.indexAddr 27 (.const p0) (.const t3)) 0) w10 fun t16_2 w11 =>
  Run Try.prog (sOp (.load 31 (.const t16_2)) 31) w11 fun t17_2 w12 =>
  Run Try.prog (sCall (Value.func (.func 125) #[] #[]) [t17_2]) w12 fun t18_2 w13 =>
  Run Try.prog (sOp (.unOp .not 4 (.const t18_2)) 4) w13 fun t19_2 w14 =>
  CondV t19_2 (
    R (.returned (Value.bool false)) w14) (
    Run Try.prog (sBin .add 3 false true t3 (Value.int .i64 1)) w14 fun t13_2 w15 =>
  I1 t13_2 w15 ∧ m2 t13_2 w15 < m2 t3 w3)) (
    Run Try.prog (sBuiltin .len #[27] 3 [false] [p0]) w10 fun t21 w16 =>
  Run Try.prog (sBin .leq 3 false true t21 (Value.int .i64 6)) w16 fun t22 w17 =>
  R (.returned t22) w17)))
theorem calls_s_QueryValid {p0 : Value} {w : World} {R : Ending → World → Prop} (h : sh_s_QueryValid p0 w R) : Calls Try.prog 109 #[p0] w R :=
  calls_sh (.seq none .leaf (.seq none (.seq none .leaf (.one (.loop [3] (.seq none (.seq (some [11]) .leaf .leaf) .leaf)))) .leaf)) [p0] mixed Try.func109 (by kernel_rfl) (by kernel_rfl) h


/- loop.example/prologserver/impl.QueryValid : function 111 -/
def sh_i_QueryValid (p0 : Value) (w : World) (R : Ending → World → Prop) : Prop :=
  Run Try.prog (sCall (Value.func (.func 127) #[] #[]) [p0]) w fun t4 w1 =>
  R (.returned t4) w1
theorem calls_i_QueryValid {p0 : Value} {w : World} {R : Ending → World → Prop} (h : sh_i_QueryValid p0 w R) : Calls Try.prog 111 #[p0] w R :=
  calls_sh .leaf [p0] mixed Try.func111 (by kernel_rfl) (by kernel_rfl) h


/- loop.example/prologserver/spec.TermValid : function 113 -/
def sh_s_TermValid (p0 : Value) (w : World) (R : Ending → World → Prop) : Prop :=
  Run Try.prog (sOp (.box 31 (.const p0)) 0) w fun t1 w1 =>
  Run Try.prog (sOp (.load 31 (.const t1)) 31) w1 fun t3 w2 =>
  Run Try.prog (sCall (Value.func (.func 144) #[] #[]) [t3, (Value.int .i64 30)]) w2 fun t4 w3 =>
  GuardV t4 true (
    Run Try.prog (sOp (.load 31 (.const t1)) 31) w3 fun t6 w4 =>
    Run Try.prog (sCall (Value.func (.func 145) #[] #[]) [t6, (Value.int .i64 120)]) w4 fun t7 w5 =>
    Run Try.prog (sBin .leq 3 false true t7 (Value.int .i64 120)) w5 fun t8 w6 =>
    Run Try.prog (sOp (.pick (.const t4) (.const t8) (.const (Value.bool false))) 4) w6 fun t9 w7 =>
    R (.returned t9) w7) (
    Run Try.prog (sOp (.pick (.const t4) (.const undef) (.const (Value.bool false))) 4) w3 fun t9_2 w8 =>
    R (.returned t9_2) w8)
theorem calls_s_TermValid {p0 : Value} {w : World} {R : Ending → World → Prop} (h : sh_s_TermValid p0 w R) : Calls Try.prog 113 #[p0] w R :=
  calls_sh .leaf [p0] mixed Try.func113 (by kernel_rfl) (by kernel_rfl) h


/- loop.example/prologserver/impl.own : function 114 -/
def sh_i_own (p0 : Value) (w : World) (R : Ending → World → Prop) : Prop :=
  Run Try.prog (sOp (.box 31 (.const p0)) 0) w fun t1 w1 =>
  Run Try.prog (sOp (.alloc 31) 0) w1 fun t2 w2 =>
  Run Try.prog (sOp (.fieldAddr 31 (.const t1) 3) 0) w2 fun t3 w3 =>
  Run Try.prog (sOp (.load 27 (.const t3)) 27) w3 fun t4 w4 =>
  Run Try.prog (sCall (Value.func (.func 65) #[] #[]) [t4]) w4 fun t5 w5 =>
  Run Try.prog (sOp (.fieldAddr 31 (.const t1) 3) 0) w5 fun t6 w6 =>
  Run Try.prog (sOp (.store 27 (.const t6) (.const t5)) 0) w6 fun _u w7 =>
  Run Try.prog (sOp (.load 31 (.const t1)) 31) w7 fun t7 w8 =>
  Run Try.prog (sOp (.store 31 (.const t2) (.const t7)) 0) w8 fun _ w9 =>
  (LoadV Try.prog 31 t2 w9 fun r0 => R (.returned r0) w9)
theorem calls_i_own {p0 : Value} {w : World} {R : Ending → World → Prop} (h : sh_i_own p0 w R) : Calls Try.prog 114 #[p0] w R :=
  calls_sh .leaf [p0] mixed Try.func114 (by kernel_rfl) (by kernel_rfl) h


/- slices.IndexFunc[[]loop.example/prologserver/impl.Term,loop.example/prologserver/impl.Term] : function 115 -/
def sh_x_IndexFunc_Term (p0 p1 : Value) (w : World) (R : Ending → World → Prop) : Prop :=
  Run Try.prog (sBuiltin .len #[27] 3 [false] [p0]) w fun t7 w1 =>
  (∃ (I2 : Value → World → Prop) (m3 : Value → World → Nat), I2 (Value.int .i64 0) w1 ∧
  ∀ t8 _ _ _ _ _ _ _ _ _ _ _ _ : Value, ∀ w4 : World, I2 t8 w4 →
  Run Try.prog (sBin .lss 3 false false t8 t7) w4 fun t9_2 w5 =>
  CondV t9_2 (
    Run Try.prog (sOp (.indexAddr 27 (.const p0) (.const t8)) 0) w5 fun t14_2 w6 =>
  Run Try.prog (sOp (.load 31 (.const t14_2)) 31) w6 fun t15_2 w7 =>
  Run Try.prog (sCall p1 [t15_2]) w7 fun t16_2 w8 =>
  CondV t16_2 (
    R (.returned t8) w8) (
    Run Try.prog (sBin .add 3 false true t8 (Value.int .i64 1)) w8 fun t18_2 w9 =>
  I2 t18_2 w9 ∧ m3 t18_2 w9 < m3 t8 w4)) (
    R (.returned (Value.int .i64 (-1))) w5))
theorem calls_x_IndexFunc_Term {p0 p1 : Value} {w : World} {R : Ending → World → Prop} (h : sh_x_IndexFunc_Term p0 p1 w R) : Calls Try.prog 115 #[p0, p1] w R :=
  calls_sh (.seq none .leaf (.seq none (.seq none .leaf (.one (.loop [8] .leaf))) .leaf)) [p0, p1] mixed Try.func115 (by kernel_rfl) (by kernel_rfl) h


/- loop.example/prologserver/impl.TermValid : function 116 -/
def sh_i_TermValid (p0 : Value) (w : World) (R : Ending → World → Prop) : Prop :=
  Run Try.prog (sOp (.box 31 (.const p0)) 0) w fun t1 w1 =>
  Run Try.prog (sOp (.alloc 3) 0) w1 fun t3 w2 =>
  Run Try.prog (sOp (.store 3 (.const t3) (.const (Value.int .i64 0))) 0) w2 fun _ w3 =>
  Run Try.prog (sOp (.load 31 (.const t1)) 31) w3 fun t4 w4 =>
  Run Try.prog (sCall (Value.func (.func 146) #[] #[]) [t4, (Value.int .i64 1), t3]) w4 fun t5 w5 =>
  R (.returned t5) w5
theorem calls_i_TermValid {p0 : Value} {w : World} {R : Ending → World → Prop} (h : sh_i_TermValid p0 w R) : Calls Try.prog 116 #[p0] w R :=
  calls_sh .leaf [p0] mixed Try.func116 (by kernel_rfl) (by kernel_rfl) h

end Go.Proofs.Ytnoieadimkgjcaa

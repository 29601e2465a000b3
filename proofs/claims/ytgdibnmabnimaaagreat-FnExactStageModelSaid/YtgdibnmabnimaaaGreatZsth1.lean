/- Made by program: the functions in a shallow form; each form gives Calls. -/
import Derived.Test.YtgdibnmabnimaaaGreatVcCalls
import Derived.Test.YtgdibnmabnimaaaGreatProg
import Derived.Test.YtgdibnmabnimaaaGreatZsth0
import Derived.KernelRfl
set_option maxRecDepth 100000
namespace Go.Proofs.YtgdibnmabnimaaaGreat
open Go
/- loop.example/prologserver/spec.l4Goal : function 77 -/
def sh_s_l4Goal (p0 : Value) (w : World) (R : Ending → World → Prop) : Prop :=
  Run Tryz.prog (sOp (.box 47 (.const p0)) 0) w fun t1 w1 =>
  Run Tryz.prog (sOp (.load 47 (.const t1)) 47) w1 fun t3 w2 =>
  Run Tryz.prog (sCall (Value.func (.func 102) #[] #[]) [t3]) w2 fun t4 w3 =>
  GuardV t4 false (
    Run Tryz.prog (sOp (.load 47 (.const t1)) 47) w3 fun t6 w4 =>
    Run Tryz.prog (sCall (Value.func (.func 55) #[] #[]) [t6]) w4 fun t7 w5 =>
    Run Tryz.prog (sOp (.pick (.const t4) (.const (Value.bool true)) (.const t7)) 4) w5 fun t8 w6 =>
    GuardV t8 false (
      Run Tryz.prog (sOp (.fieldAddr 47 (.const t1) 0) 0) w6 fun t10 w7 =>
      Run Tryz.prog (sOp (.load 3 (.const t10)) 3) w7 fun t11 w8 =>
      Run Tryz.prog (sBin .eql 3 false true t11 (Value.int .i64 3)) w8 fun t12 w9 =>
      GuardV t12 true (
        Run Tryz.prog (sOp (.fieldAddr 47 (.const t1) 2) 0) w9 fun t14 w10 =>
        Run Tryz.prog (sOp (.load 9 (.const t14)) 9) w10 fun t15 w11 =>
        Run Tryz.prog (sOp (.fieldAddr 47 (.const t1) 3) 0) w11 fun t16 w12 =>
        Run Tryz.prog (sOp (.load 29 (.const t16)) 29) w12 fun t17 w13 =>
        Run Tryz.prog (sBuiltin .len #[29] 3 [false] [t17]) w13 fun t18 w14 =>
        Run Tryz.prog (sCall (Value.func (.func 81) #[] #[]) [t15, t18]) w14 fun t19 w15 =>
        GuardV t8 false (
          Run Tryz.prog (sOp (.pick (.const t12) (.const t19) (.const (Value.bool false))) 4) w15 fun t20 w16 =>
          Run Tryz.prog (sOp (.pick (.const t8) (.const (Value.bool true)) (.const t20)) 4) w16 fun t21 w17 =>
          R (.returned t21) w17) (
          Run Tryz.prog (sOp (.pick (.const t8) (.const (Value.bool true)) (.const undef)) 4) w15 fun t21_2 w18 =>
          R (.returned t21_2) w18)) (
        GuardV t8 false (
          Run Tryz.prog (sOp (.pick (.const t12) (.const undef) (.const (Value.bool false))) 4) w9 fun t20_2 w19 =>
          Run Tryz.prog (sOp (.pick (.const t8) (.const (Value.bool true)) (.const t20_2)) 4) w19 fun t21_3 w20 =>
          R (.returned t21_3) w20) (
          Run Tryz.prog (sOp (.pick (.const t8) (.const (Value.bool true)) (.const undef)) 4) w9 fun t21_4 w21 =>
          R (.returned t21_4) w21))) (
      GuardV undef true (
        Run Tryz.prog (sOp (.fieldAddr 47 (.const t1) 2) 0) w6 fun t14_2 w22 =>
        Run Tryz.prog (sOp (.load 9 (.const t14_2)) 9) w22 fun t15_2 w23 =>
        Run Tryz.prog (sOp (.fieldAddr 47 (.const t1) 3) 0) w23 fun t16_2 w24 =>
        Run Tryz.prog (sOp (.load 29 (.const t16_2)) 29) w24 fun t17_2 w25 =>
        Run Tryz.prog (sBuiltin .len #[29] 3 [false] [t17_2]) w25 fun t18_2 w26 =>
        Run Tryz.prog (sCall (Value.func (.func 81) #[] #[]) [t15_2, t18_2]) w26 fun t19_2 w27 =>
        GuardV t8 false (
          Run Tryz.prog (sOp (.pick (.const undef) (.const t19_2) (.const (Value.bool false))) 4) w27 fun t20_3 w28 =>
          Run Tryz.prog (sOp (.pick (.const t8) (.const (Value.bool true)) (.const t20_3)) 4) w28 fun t21_5 w29 =>
          R (.returned t21_5) w29) (
          Run Tryz.prog (sOp (.pick (.const t8) (.const (Value.bool true)) (.const undef)) 4) w27 fun t21_6 w30 =>
          R (.returned t21_6) w30)) (
        GuardV t8 false (
          Run Tryz.prog (sOp (.pick (.const undef) (.const undef) (.const (Value.bool false))) 4) w6 fun t20_4 w31 =>
          Run Tryz.prog (sOp (.pick (.const t8) (.const (Value.bool true)) (.const t20_4)) 4) w31 fun t21_7 w32 =>
          R (.returned t21_7) w32) (
          Run Tryz.prog (sOp (.pick (.const t8) (.const (Value.bool true)) (.const undef)) 4) w6 fun t21_8 w33 =>
          R (.returned t21_8) w33)))) (
    Run Tryz.prog (sOp (.pick (.const t4) (.const (Value.bool true)) (.const undef)) 4) w3 fun t8_2 w34 =>
    GuardV t8_2 false (
      Run Tryz.prog (sOp (.fieldAddr 47 (.const t1) 0) 0) w34 fun t10_2 w35 =>
      Run Tryz.prog (sOp (.load 3 (.const t10_2)) 3) w35 fun t11_2 w36 =>
      Run Tryz.prog (sBin .eql 3 false true t11_2 (Value.int .i64 3)) w36 fun t12_2 w37 =>
      GuardV t12_2 true (
        Run Tryz.prog (sOp (.fieldAddr 47 (.const t1) 2) 0) w37 fun t14_3 w38 =>
        Run Tryz.prog (sOp (.load 9 (.const t14_3)) 9) w38 fun t15_3 w39 =>
        Run Tryz.prog (sOp (.fieldAddr 47 (.const t1) 3) 0) w39 fun t16_3 w40 =>
        Run Tryz.prog (sOp (.load 29 (.const t16_3)) 29) w40 fun t17_3 w41 =>
        Run Tryz.prog (sBuiltin .len #[29] 3 [false] [t17_3]) w41 fun t18_3 w42 =>
        Run Tryz.prog (sCall (Value.func (.func 81) #[] #[]) [t15_3, t18_3]) w42 fun t19_3 w43 =>
        GuardV t8_2 false (
          Run Tryz.prog (sOp (.pick (.const t12_2) (.const t19_3) (.const (Value.bool false))) 4) w43 fun t20_5 w44 =>
          Run Tryz.prog (sOp (.pick (.const t8_2) (.const (Value.bool true)) (.const t20_5)) 4) w44 fun t21_9 w45 =>
          R (.returned t21_9) w45) (
          Run Tryz.prog (sOp (.pick (.const t8_2) (.const (Value.bool true)) (.const undef)) 4) w43 fun t21_10 w46 =>
          R (.returned t21_10) w46)) (
        GuardV t8_2 false (
          Run Tryz.prog (sOp (.pick (.const t12_2) (.const undef) (.const (Value.bool false))) 4) w37 fun t20_6 w47 =>
          Run Tryz.prog (sOp (.pick (.const t8_2) (.const (Value.bool true)) (.const t20_6)) 4) w47 fun t21_11 w48 =>
          R (.returned t21_11) w48) (
          Run Tryz.prog (sOp (.pick (.const t8_2) (.const (Value.bool true)) (.const undef)) 4) w37 fun t21_12 w49 =>
          R (.returned t21_12) w49))) (
      GuardV undef true (
        Run Tryz.prog (sOp (.fieldAddr 47 (.const t1) 2) 0) w34 fun t14_4 w50 =>
        Run Tryz.prog (sOp (.load 9 (.const t14_4)) 9) w50 fun t15_4 w51 =>
        Run Tryz.prog (sOp (.fieldAddr 47 (.const t1) 3) 0) w51 fun t16_4 w52 =>
        Run Tryz.prog (sOp (.load 29 (.const t16_4)) 29) w52 fun t17_4 w53 =>
        Run Tryz.prog (sBuiltin .len #[29] 3 [false] [t17_4]) w53 fun t18_4 w54 =>
        Run Tryz.prog (sCall (Value.func (.func 81) #[] #[]) [t15_4, t18_4]) w54 fun t19_4 w55 =>
        GuardV t8_2 false (
          Run Tryz.prog (sOp (.pick (.const undef) (.const t19_4) (.const (Value.bool false))) 4) w55 fun t20_7 w56 =>
          Run Tryz.prog (sOp (.pick (.const t8_2) (.const (Value.bool true)) (.const t20_7)) 4) w56 fun t21_13 w57 =>
          R (.returned t21_13) w57) (
          Run Tryz.prog (sOp (.pick (.const t8_2) (.const (Value.bool true)) (.const undef)) 4) w55 fun t21_14 w58 =>
          R (.returned t21_14) w58)) (
        GuardV t8_2 false (
          Run Tryz.prog (sOp (.pick (.const undef) (.const undef) (.const (Value.bool false))) 4) w34 fun t20_8 w59 =>
          Run Tryz.prog (sOp (.pick (.const t8_2) (.const (Value.bool true)) (.const t20_8)) 4) w59 fun t21_15 w60 =>
          R (.returned t21_15) w60) (
          Run Tryz.prog (sOp (.pick (.const t8_2) (.const (Value.bool true)) (.const undef)) 4) w34 fun t21_16 w61 =>
          R (.returned t21_16) w61))))
theorem calls_s_l4Goal {p0 : Value} {w : World} {R : Ending → World → Prop} (h : sh_s_l4Goal p0 w R) : Calls Tryz.prog 77 #[p0] w R :=
  calls_sh .leaf [p0] mixed Tryz.func77 (by kernel_rfl) (by kernel_rfl) h


/- loop.example/prologserver/spec.l1Shape : function 78 -/
def sh_s_l1Shape (p0 p1 : Value) (w : World) (R : Ending → World → Prop) : Prop :=
  Run Tryz.prog (sOp (.box 47 (.const p0)) 0) w fun t2 w1 =>
  (∃ J2 : Value → World → Prop, (
    Run Tryz.prog (sBin .lss 3 false true p1 (Value.int .i64 1)) w1 fun t7 w3 =>
    GuardV t7 false (
      Run Tryz.prog (sOp (.load 47 (.const t2)) 47) w3 fun t9 w4 =>
      Run Tryz.prog (sCall (Value.func (.func 103) #[] #[]) [t9]) w4 fun t10 w5 =>
      Run Tryz.prog (sOp (.unOp .not 4 (.const t10)) 4) w5 fun t11 w6 =>
      Run Tryz.prog (sOp (.pick (.const t7) (.const (Value.bool true)) (.const t11)) 4) w6 fun t12 w7 =>
      J2 t12 w7) (
      Run Tryz.prog (sOp (.pick (.const t7) (.const (Value.bool true)) (.const undef)) 4) w3 fun t12_2 w8 =>
      J2 t12_2 w8)) ∧
  ∀ t12_3 _ _ _ _ _ _ : Value, ∀ w9 : World, J2 t12_3 w9 →
  CondV t12_3 (
    R (.returned (Value.bool false)) w9) (
    (∃ (I10 : Value → World → Prop) (m11 : Value → World → Nat), I10 (Value.int .i64 0) w9 ∧
  ∀ t5 _ _ _ _ _ _ _ _ _ _ _ _ _ _ _ _ _ : Value, ∀ w12 : World, I10 t5 w12 →
  Run Tryz.prog (sOp (.fieldAddr 47 (.const t2) 3) 0) w12 fun t14_2 w13 =>
  Run Tryz.prog (sOp (.load 29 (.const t14_2)) 29) w13 fun t15_2 w14 =>
  Run Tryz.prog (sBuiltin .len #[29] 3 [false] [t15_2]) w14 fun t16_2 w15 =>
  Run Tryz.prog (sBin .lss 3 false false t5 t16_2) w15 fun t17_2 w16 =>
  CondV t17_2 (
    Run Tryz.prog (sOp (.fieldAddr 47 (.const t2) 3) 0) w16 fun t20_2 w17 =>
  Run Tryz.prog (sOp (.load 29 (.const t20_2)) 29) w17 fun t21_2 w18 =>
  Run Tryz.prog (sOp (.indexAddr 29 (.const t21_2) (.const t5)) 0) w18 fun t23_2 w19 =>
  Run Tryz.prog (sOp (.load 47 (.const t23_2)) 47) w19 fun t24_2 w20 =>
  Run Tryz.prog (sBin .sub 3 false true p1 (Value.int .i64 1)) w20 fun t26_2 w21 =>
  Run Tryz.prog (sCall (Value.func (.func 78) #[] #[]) [t24_2, t26_2]) w21 fun t27_2 w22 =>
  Run Tryz.prog (sOp (.unOp .not 4 (.const t27_2)) 4) w22 fun t28_2 w23 =>
  CondV t28_2 (
    R (.returned (Value.bool false)) w23) (
    Run Tryz.prog (sBin .add 3 false true t5 (Value.int .i64 1)) w23 fun t19_2 w24 =>
  I10 t19_2 w24 ∧ m11 t19_2 w24 < m11 t5 w12)) (
    R (.returned (Value.bool true)) w16))))
theorem calls_s_l1Shape {p0 p1 : Value} {w : World} {R : Ending → World → Prop} (h : sh_s_l1Shape p0 p1 w R) : Calls Tryz.prog 78 #[p0, p1] w R :=
  calls_sh (.seq none .leaf (.seq none (.seq (some [12]) .leaf .leaf) (.seq none (.seq none .leaf (.one (.loop [5] .leaf))) .leaf))) [p0, p1] mixed Tryz.func78 (by kernel_rfl) (by kernel_rfl) h


/- loop.example/prologserver/spec.l1Count : function 79 -/
def sh_s_l1Count (p0 p1 : Value) (w : World) (R : Ending → World → Prop) : Prop :=
  Run Tryz.prog (sOp (.box 47 (.const p0)) 0) w fun t2 w1 =>
  (∃ (I2 : Value → Value → World → Prop) (m3 : Value → Value → World → Nat), I2 (Value.int .i64 0) (Value.int .i64 1) w1 ∧
  ∀ t6 _ _ t5 _ _ _ _ _ _ _ _ _ _ _ _ _ _ _ _ _ _ _ _ _ : Value, ∀ w4 : World, I2 t6 t5 w4 →
  (∃ J5 : Value → World → Prop, (
    Run Tryz.prog (sOp (.fieldAddr 47 (.const t2) 3) 0) w4 fun t8_2 w6 =>
    Run Tryz.prog (sOp (.load 29 (.const t8_2)) 29) w6 fun t9_2 w7 =>
    Run Tryz.prog (sBuiltin .len #[29] 3 [false] [t9_2]) w7 fun t10_2 w8 =>
    Run Tryz.prog (sBin .lss 3 false false t6 t10_2) w8 fun t11_2 w9 =>
    GuardV t11_2 true (
      Run Tryz.prog (sBin .leq 3 false false t5 p1) w9 fun t15_2 w10 =>
      Run Tryz.prog (sOp (.pick (.const t11_2) (.const t15_2) (.const (Value.bool false))) 4) w10 fun t16_2 w11 =>
      J5 t16_2 w11) (
      Run Tryz.prog (sOp (.pick (.const t11_2) (.const undef) (.const (Value.bool false))) 4) w9 fun t16_3 w12 =>
      J5 t16_3 w12)) ∧
  ∀ t16_4 _ _ _ _ _ _ _ _ _ : Value, ∀ w13 : World, J5 t16_4 w13 →
  CondV t16_4 (
    Run Tryz.prog (sOp (.fieldAddr 47 (.const t2) 3) 0) w13 fun t20_2 w14 =>
  Run Tryz.prog (sOp (.load 29 (.const t20_2)) 29) w14 fun t21_2 w15 =>
  Run Tryz.prog (sOp (.indexAddr 29 (.const t21_2) (.const t6)) 0) w15 fun t23_2 w16 =>
  Run Tryz.prog (sOp (.load 47 (.const t23_2)) 47) w16 fun t24_2 w17 =>
  Run Tryz.prog (sBin .sub 3 false false p1 t5) w17 fun t27_2 w18 =>
  Run Tryz.prog (sCall (Value.func (.func 79) #[] #[]) [t24_2, t27_2]) w18 fun t28_2 w19 =>
  Run Tryz.prog (sBin .add 3 false false t5 t28_2) w19 fun t29_2 w20 =>
  Run Tryz.prog (sBin .add 3 false true t6 (Value.int .i64 1)) w20 fun t18_2 w21 =>
  I2 t18_2 t29_2 w21 ∧ m3 t18_2 t29_2 w21 < m3 t6 t5 w4) (
    R (.returned t5) w13)))
theorem calls_s_l1Count {p0 p1 : Value} {w : World} {R : Ending → World → Prop} (h : sh_s_l1Count p0 p1 w R) : Calls Tryz.prog 79 #[p0, p1] w R :=
  calls_sh (.seq none .leaf (.seq none .leaf (.seq none (.seq none .leaf (.one (.loop [6, 5] (.seq none (.seq (some [16]) .leaf .leaf) .leaf)))) .leaf))) [p0, p1] mixed Tryz.func79 (by kernel_rfl) (by kernel_rfl) h


/- loop.example/prologserver/spec.l1Word : function 80 -/
def sh_s_l1Word (p0 : Value) (w : World) (R : Ending → World → Prop) : Prop :=
  (∃ (I1 : Value → World → Prop) (m2 : Value → World → Nat), I1 (Value.int .i64 0) w ∧
  ∀ t3 _ _ _ _ _ _ _ _ _ _ _ _ _ _ _ _ _ : Value, ∀ w3 : World, I1 t3 w3 →
  Run Tryz.prog (sBuiltin .len #[9] 3 [false] [p0]) w3 fun t6_2 w4 =>
  Run Tryz.prog (sBin .lss 3 false false t3 t6_2) w4 fun t7_2 w5 =>
  CondV t7_2 (
    (∃ J6 : Value → World → Prop, (
    Run Tryz.prog (sOp (.index 9 (.const p0) (.const t3)) 5) w5 fun t12_2 w7 =>
    Run Tryz.prog (sBin .lss 5 false true t12_2 (Value.int .u8 97)) w7 fun t13_2 w8 =>
    GuardV t13_2 false (
      Run Tryz.prog (sOp (.index 9 (.const p0) (.const t3)) 5) w8 fun t17_2 w9 =>
      Run Tryz.prog (sBin .gtr 5 false true t17_2 (Value.int .u8 122)) w9 fun t18_2 w10 =>
      Run Tryz.prog (sOp (.pick (.const t13_2) (.const (Value.bool true)) (.const t18_2)) 4) w10 fun t19_2 w11 =>
      J6 t19_2 w11) (
      Run Tryz.prog (sOp (.pick (.const t13_2) (.const (Value.bool true)) (.const undef)) 4) w8 fun t19_3 w12 =>
      J6 t19_3 w12)) ∧
  ∀ t19_4 _ _ _ _ _ _ _ _ _ : Value, ∀ w13 : World, J6 t19_4 w13 →
  CondV t19_4 (
    R (.returned (Value.bool false)) w13) (
    Run Tryz.prog (sBin .add 3 false true t3 (Value.int .i64 1)) w13 fun t9_2 w14 =>
  I1 t9_2 w14 ∧ m2 t9_2 w14 < m2 t3 w3))) (
    Run Tryz.prog (sBuiltin .len #[9] 3 [false] [p0]) w5 fun t21 w15 =>
  Run Tryz.prog (sBin .geq 3 false true t21 (Value.int .i64 1)) w15 fun t22 w16 =>
  GuardV t22 true (
    Run Tryz.prog (sBuiltin .len #[9] 3 [false] [p0]) w16 fun t25 w17 =>
    Run Tryz.prog (sBin .leq 3 false true t25 (Value.int .i64 6)) w17 fun t26 w18 =>
    Run Tryz.prog (sOp (.pick (.const t22) (.const t26) (.const (Value.bool false))) 4) w18 fun t27 w19 =>
    R (.returned t27) w19) (
    Run Tryz.prog (sOp (.pick (.const t22) (.const undef) (.const (Value.bool false))) 4) w16 fun t27_2 w20 =>
    R (.returned t27_2) w20)))
theorem calls_s_l1Word {p0 : Value} {w : World} {R : Ending → World → Prop} (h : sh_s_l1Word p0 w R) : Calls Tryz.prog 80 #[p0] w R :=
  calls_sh (.seq none .leaf (.seq none (.seq none .leaf (.one (.loop [3] (.seq none .leaf (.seq none (.one (.seq (some [19]) .leaf .leaf)) .leaf))))) .leaf)) [p0] mixed Tryz.func80 (by kernel_rfl) (by kernel_rfl) h


/- loop.example/prologserver/spec.IsBuiltin : function 81 -/
def sh_s_IsBuiltin (p0 p1 : Value) (w : World) (R : Ending → World → Prop) : Prop :=
  (∃ J1 : Value → World → Prop, (
    Run Tryz.prog (sBin .eql 9 false true p0 (Value.string ⟨#[61]⟩)) w fun t7 w2 =>
    CondV t7 (
      J1 t7 w2) (
      Run Tryz.prog (sBin .eql 9 false true p0 (Value.string ⟨#[92, 61]⟩)) w2 fun t8 w3 =>
      CondV t8 (
        J1 t8 w3) (
        Run Tryz.prog (sBin .eql 9 false true p0 (Value.string ⟨#[61, 61]⟩)) w3 fun t9 w4 =>
        CondV t9 (
          J1 t9 w4) (
          Run Tryz.prog (sBin .eql 9 false true p0 (Value.string ⟨#[60]⟩)) w4 fun t10 w5 =>
          CondV t10 (
            J1 t10 w5) (
            Run Tryz.prog (sBin .eql 9 false true p0 (Value.string ⟨#[62]⟩)) w5 fun t11 w6 =>
            CondV t11 (
              J1 t11 w6) (
              Run Tryz.prog (sBin .eql 9 false true p0 (Value.string ⟨#[61, 60]⟩)) w6 fun t12 w7 =>
              CondV t12 (
                J1 t12 w7) (
                Run Tryz.prog (sBin .eql 9 false true p0 (Value.string ⟨#[62, 61]⟩)) w7 fun t13 w8 =>
                CondV t13 (
                  J1 t13 w8) (
                  Run Tryz.prog (sBin .eql 9 false true p0 (Value.string ⟨#[61, 58, 61]⟩)) w8 fun t14 w9 =>
                  CondV t14 (
                    J1 t14 w9) (
                    Run Tryz.prog (sBin .eql 9 false true p0 (Value.string ⟨#[105, 115]⟩)) w9 fun t15 w10 =>
                    J1 t15 w10))))))))) ∧
  ∀ _ _ _ _ _ _ _ _ t6 _ : Value, ∀ w11 : World, J1 t6 w11 →
  CondV t6 (
    Run Tryz.prog (sBin .eql 3 false true p1 (Value.int .i64 2)) w11 fun t17 w12 =>
    R (.returned t17) w12) (
    (∃ J13 : Value → World → Prop, (
      Run Tryz.prog (sBin .eql 9 false true p0 (Value.string ⟨#[116, 114, 117, 101]⟩)) w11 fun t19 w14 =>
      CondV t19 (
        J13 t19 w14) (
        Run Tryz.prog (sBin .eql 9 false true p0 (Value.string ⟨#[102, 97, 105, 108]⟩)) w14 fun t20 w15 =>
        J13 t20 w15)) ∧
    ∀ _ t18 _ : Value, ∀ w16 : World, J13 t18 w16 →
    CondV t18 (
      Run Tryz.prog (sBin .eql 3 false true p1 (Value.int .i64 0)) w16 fun t22 w17 =>
      R (.returned t22) w17) (
      (∃ J18 : Value → World → Prop, (
        Run Tryz.prog (sBin .eql 9 false true p0 (Value.string ⟨#[118, 97, 114]⟩)) w16 fun t24 w19 =>
        CondV t24 (
          J18 t24 w19) (
          Run Tryz.prog (sBin .eql 9 false true p0 (Value.string ⟨#[110, 111, 110, 118, 97, 114]⟩)) w19 fun t25 w20 =>
          CondV t25 (
            J18 t25 w20) (
            Run Tryz.prog (sBin .eql 9 false true p0 (Value.string ⟨#[97, 116, 111, 109]⟩)) w20 fun t26 w21 =>
            CondV t26 (
              J18 t26 w21) (
              Run Tryz.prog (sBin .eql 9 false true p0 (Value.string ⟨#[105, 110, 116]⟩)) w21 fun t27 w22 =>
              J18 t27 w22)))) ∧
      ∀ _ _ _ t23 _ : Value, ∀ w23 : World, J18 t23 w23 →
      CondV t23 (
        Run Tryz.prog (sBin .eql 3 false true p1 (Value.int .i64 1)) w23 fun t29 w24 =>
        R (.returned t29) w24) (
        Run Tryz.prog (sBin .eql 9 false true p0 (Value.string ⟨#[97, 114, 103]⟩)) w23 fun t31 w25 =>
        CondV t31 (
          Run Tryz.prog (sBin .eql 3 false true p1 (Value.int .i64 3)) w25 fun t33 w26 =>
          R (.returned t33) w26) (
          R (.returned (Value.bool false)) w25)))))))
theorem calls_s_IsBuiltin {p0 p1 : Value} {w : World} {R : Ending → World → Prop} (h : sh_s_IsBuiltin p0 p1 w R) : Calls Tryz.prog 81 #[p0, p1] w R :=
  calls_sh (.seq none .leaf (.seq none (.seq none .leaf (.one (.seq (some [6]) .leaf (.two .leaf (.seq (some [18]) .leaf (.two .leaf (.seq (some [23]) .leaf .leaf))))))) .leaf)) [p0, p1] mixed Tryz.func81 (by kernel_rfl) (by kernel_rfl) h


/- loop.example/prologserver/spec.l2Level : function 82 -/
def sh_s_l2Level (p0 : Value) (w : World) (R : Ending → World → Prop) : Prop :=
  (∃ J1 : Value → World → Prop, (
    Run Tryz.prog (sBin .eql 9 false true p0 (Value.string ⟨#[61]⟩)) w fun t5 w2 =>
    CondV t5 (
      J1 t5 w2) (
      Run Tryz.prog (sBin .eql 9 false true p0 (Value.string ⟨#[92, 61]⟩)) w2 fun t6 w3 =>
      CondV t6 (
        J1 t6 w3) (
        Run Tryz.prog (sBin .eql 9 false true p0 (Value.string ⟨#[61, 61]⟩)) w3 fun t7 w4 =>
        CondV t7 (
          J1 t7 w4) (
          Run Tryz.prog (sBin .eql 9 false true p0 (Value.string ⟨#[60]⟩)) w4 fun t8 w5 =>
          CondV t8 (
            J1 t8 w5) (
            Run Tryz.prog (sBin .eql 9 false true p0 (Value.string ⟨#[62]⟩)) w5 fun t9 w6 =>
            CondV t9 (
              J1 t9 w6) (
              Run Tryz.prog (sBin .eql 9 false true p0 (Value.string ⟨#[61, 60]⟩)) w6 fun t10 w7 =>
              CondV t10 (
                J1 t10 w7) (
                Run Tryz.prog (sBin .eql 9 false true p0 (Value.string ⟨#[62, 61]⟩)) w7 fun t11 w8 =>
                CondV t11 (
                  J1 t11 w8) (
                  Run Tryz.prog (sBin .eql 9 false true p0 (Value.string ⟨#[61, 58, 61]⟩)) w8 fun t12 w9 =>
                  CondV t12 (
                    J1 t12 w9) (
                    Run Tryz.prog (sBin .eql 9 false true p0 (Value.string ⟨#[105, 115]⟩)) w9 fun t13 w10 =>
                    J1 t13 w10))))))))) ∧
  ∀ _ _ _ _ _ _ _ _ t4 _ : Value, ∀ w11 : World, J1 t4 w11 →
  CondV t4 (
    R (.returned (Value.int .i64 3)) w11) (
    (∃ J12 : Value → World → Prop, (
      Run Tryz.prog (sBin .eql 9 false true p0 (Value.string ⟨#[43]⟩)) w11 fun t15 w13 =>
      CondV t15 (
        J12 t15 w13) (
        Run Tryz.prog (sBin .eql 9 false true p0 (Value.string ⟨#[45]⟩)) w13 fun t16 w14 =>
        J12 t16 w14)) ∧
    ∀ _ t14 _ : Value, ∀ w15 : World, J12 t14 w15 →
    CondV t14 (
      R (.returned (Value.int .i64 2)) w15) (
      (∃ J16 : Value → World → Prop, (
        Run Tryz.prog (sBin .eql 9 false true p0 (Value.string ⟨#[42]⟩)) w15 fun t18 w17 =>
        CondV t18 (
          J16 t18 w17) (
          Run Tryz.prog (sBin .eql 9 false true p0 (Value.string ⟨#[47, 47]⟩)) w17 fun t19 w18 =>
          CondV t19 (
            J16 t19 w18) (
            Run Tryz.prog (sBin .eql 9 false true p0 (Value.string ⟨#[109, 111, 100]⟩)) w18 fun t20 w19 =>
            J16 t20 w19))) ∧
      ∀ _ _ t17 _ : Value, ∀ w20 : World, J16 t17 w20 →
      CondV t17 (
        R (.returned (Value.int .i64 1)) w20) (
        R (.returned (Value.int .i64 0)) w20))))))
theorem calls_s_l2Level {p0 : Value} {w : World} {R : Ending → World → Prop} (h : sh_s_l2Level p0 w R) : Calls Tryz.prog 82 #[p0] w R :=
  calls_sh (.seq none .leaf (.seq none (.seq none .leaf (.one (.seq (some [4]) .leaf (.two .leaf (.seq (some [14]) .leaf (.two .leaf (.seq (some [17]) .leaf .leaf))))))) .leaf)) [p0] mixed Tryz.func82 (by kernel_rfl) (by kernel_rfl) h


/- loop.example/prologserver/spec.l1Compare : function 83 -/
def sh_s_l1Compare (p0 p1 : Value) (w : World) (R : Ending → World → Prop) : Prop :=
  Run Tryz.prog (sOp (.box 47 (.const p0)) 0) w fun t2 w1 =>
  Run Tryz.prog (sOp (.box 47 (.const p1)) 0) w1 fun t3 w2 =>
  (∃ A3 : (Nat → Bool) → Value → Value → Value → Value → Value → World → Prop, A3 (fun _ => false) undef undef undef undef undef { w2 with drawn := w2.drawn + 1 } ∧ (
    (∀ D4 : Nat → Bool, D4 0 = false → ∀ t11 t10 t9 t8 t7 : Value, ∀ w5 : World, A3 D4 t11 t10 t9 t8 t7 w5 →
      Run Tryz.prog (sOp (.load 47 (.const t2)) 47) w5 fun t7_2 w6 =>
      A3 (setD D4 0) t11 t10 t9 t8 t7_2 w6) ∧
    (∀ D4 : Nat → Bool, D4 1 = false → D4 0 = true → ∀ t11 t10 t9 t8 t7 : Value, ∀ w7 : World, A3 D4 t11 t10 t9 t8 t7 w7 →
      Run Tryz.prog (sCall (Value.func (.func 104) #[] #[]) [t7]) w7 fun t8_2 w8 =>
      A3 (setD D4 1) t11 t10 t9 t8_2 t7 w8) ∧
    (∀ D4 : Nat → Bool, D4 2 = false → ∀ t11 t10 t9 t8 t7 : Value, ∀ w9 : World, A3 D4 t11 t10 t9 t8 t7 w9 →
      Run Tryz.prog (sOp (.load 47 (.const t3)) 47) w9 fun t9_2 w10 =>
      A3 (setD D4 2) t11 t10 t9_2 t8 t7 w10) ∧
    (∀ D4 : Nat → Bool, D4 3 = false → D4 2 = true → D4 1 = true → ∀ t11 t10 t9 t8 t7 : Value, ∀ w11 : World, A3 D4 t11 t10 t9 t8 t7 w11 →
      Run Tryz.prog (sCall (Value.func (.func 104) #[] #[]) [t9]) w11 fun t10_2 w12 =>
      A3 (setD D4 3) t11 t10_2 t9 t8 t7 w12) ∧
    (∀ D4 : Nat → Bool, D4 4 = false → D4 1 = true → D4 3 = true → ∀ t11 t10 t9 t8 t7 : Value, ∀ w13 : World, A3 D4 t11 t10 t9 t8 t7 w13 →
      Run Tryz.prog (sBin .neq 3 false false t8 t10) w13 fun t11_2 w14 =>
      A3 (setD D4 4) t11_2 t10 t9 t8 t7 w14) ∧
    True) ∧
  ∀ D4 : Nat → Bool, D4 4 = true → D4 3 = true → D4 2 = true → D4 1 = true → D4 0 = true → ∀ t11 t10 t9 t8 t7 : Value, ∀ w15 : World, A3 D4 t11 t10 t9 t8 t7 w15 →
  CondV t11 (
    (∃ A16 : (Nat → Bool) → Value → Value → Value → Value → Value → Value → World → Prop, A16 (fun _ => false) (Value.int .i64 0) undef undef undef undef undef { w15 with drawn := w15.drawn + 1 } ∧ (
      (∀ D17 : Nat → Bool, D17 0 = false → ∀ t4 t16 t15 t14 t13 t12 : Value, ∀ w18 : World, A16 D17 t4 t16 t15 t14 t13 t12 w18 →
        Run Tryz.prog (sOp (.load 47 (.const t2)) 47) w18 fun t12_2 w19 =>
        A16 (setD D17 0) t4 t16 t15 t14 t13 t12_2 w19) ∧
      (∀ D17 : Nat → Bool, D17 1 = false → D17 0 = true → ∀ t4 t16 t15 t14 t13 t12 : Value, ∀ w20 : World, A16 D17 t4 t16 t15 t14 t13 t12 w20 →
        Run Tryz.prog (sCall (Value.func (.func 104) #[] #[]) [t12]) w20 fun t13_2 w21 =>
        A16 (setD D17 1) t4 t16 t15 t14 t13_2 t12 w21) ∧
      (∀ D17 : Nat → Bool, D17 2 = false → ∀ t4 t16 t15 t14 t13 t12 : Value, ∀ w22 : World, A16 D17 t4 t16 t15 t14 t13 t12 w22 →
        Run Tryz.prog (sOp (.load 47 (.const t3)) 47) w22 fun t14_2 w23 =>
        A16 (setD D17 2) t4 t16 t15 t14_2 t13 t12 w23) ∧
      (∀ D17 : Nat → Bool, D17 3 = false → D17 2 = true → D17 1 = true → ∀ t4 t16 t15 t14 t13 t12 : Value, ∀ w24 : World, A16 D17 t4 t16 t15 t14 t13 t12 w24 →
        Run Tryz.prog (sCall (Value.func (.func 104) #[] #[]) [t14]) w24 fun t15_2 w25 =>
        A16 (setD D17 3) t4 t16 t15_2 t14 t13 t12 w25) ∧
      (∀ D17 : Nat → Bool, D17 4 = false → D17 1 = true → D17 3 = true → D17 3 = true → ∀ t4 t16 t15 t14 t13 t12 : Value, ∀ w26 : World, A16 D17 t4 t16 t15 t14 t13 t12 w26 →
        Run Tryz.prog (sCall (Value.func (.func 105) #[] #[]) [t13, t15]) w26 fun t16_2 w27 =>
        A16 (setD D17 4) t4 t16_2 t15 t14 t13 t12 w27) ∧
      (∀ D17 : Nat → Bool, D17 5 = false → D17 4 = true → D17 4 = true → D17 0 = true → D17 1 = true → D17 2 = true → D17 3 = true → D17 4 = true → ∀ t4 t16 t15 t14 t13 t12 : Value, ∀ w28 : World, A16 D17 t4 t16 t15 t14 t13 t12 w28 →
        A16 (setD D17 5) t16 t16 t15 t14 t13 t12 w28) ∧
      True) ∧
    ∀ D17 : Nat → Bool, D17 5 = true → D17 4 = true → D17 3 = true → D17 2 = true → D17 1 = true → D17 0 = true → ∀ t4 t16 t15 t14 t13 t12 : Value, ∀ w29 : World, A16 D17 t4 t16 t15 t14 t13 t12 w29 →
    R (.returned t4) w29)) (
    Run Tryz.prog (sOp (.fieldAddr 47 (.const t2) 0) 0) w15 fun t17 w30 =>
  Run Tryz.prog (sOp (.load 3 (.const t17)) 3) w30 fun t18 w31 =>
  Run Tryz.prog (sBin .neq 3 false true t18 (Value.int .i64 3)) w31 fun t19 w32 =>
  CondV t19 (
    Run Tryz.prog (sOp (.fieldAddr 47 (.const t2) 1) 0) w32 fun t20 w33 =>
    Run Tryz.prog (sOp (.load 3 (.const t20)) 3) w33 fun t21 w34 =>
    Run Tryz.prog (sOp (.fieldAddr 47 (.const t3) 1) 0) w34 fun t22 w35 =>
    Run Tryz.prog (sOp (.load 3 (.const t22)) 3) w35 fun t23 w36 =>
    Run Tryz.prog (sCall (Value.func (.func 105) #[] #[]) [t21, t23]) w36 fun t24 w37 =>
    R (.returned t24) w37) (
    Run Tryz.prog (sOp (.fieldAddr 47 (.const t2) 3) 0) w32 fun t25 w38 =>
  Run Tryz.prog (sOp (.load 29 (.const t25)) 29) w38 fun t26 w39 =>
  Run Tryz.prog (sBuiltin .len #[29] 3 [false] [t26]) w39 fun t27 w40 =>
  Run Tryz.prog (sOp (.fieldAddr 47 (.const t3) 3) 0) w40 fun t28 w41 =>
  Run Tryz.prog (sOp (.load 29 (.const t28)) 29) w41 fun t29 w42 =>
  Run Tryz.prog (sBuiltin .len #[29] 3 [false] [t29]) w42 fun t30 w43 =>
  Run Tryz.prog (sBin .neq 3 false false t27 t30) w43 fun t31 w44 =>
  CondV t31 (
    Run Tryz.prog (sOp (.fieldAddr 47 (.const t2) 3) 0) w44 fun t32 w45 =>
    Run Tryz.prog (sOp (.load 29 (.const t32)) 29) w45 fun t33 w46 =>
    Run Tryz.prog (sBuiltin .len #[29] 3 [false] [t33]) w46 fun t34 w47 =>
    Run Tryz.prog (sOp (.fieldAddr 47 (.const t3) 3) 0) w47 fun t35 w48 =>
    Run Tryz.prog (sOp (.load 29 (.const t35)) 29) w48 fun t36 w49 =>
    Run Tryz.prog (sBuiltin .len #[29] 3 [false] [t36]) w49 fun t37 w50 =>
    Run Tryz.prog (sCall (Value.func (.func 105) #[] #[]) [t34, t37]) w50 fun t38 w51 =>
    R (.returned t38) w51) (
    Run Tryz.prog (sOp (.fieldAddr 47 (.const t2) 2) 0) w44 fun t39 w52 =>
  Run Tryz.prog (sOp (.load 9 (.const t39)) 9) w52 fun t40 w53 =>
  Run Tryz.prog (sOp (.fieldAddr 47 (.const t3) 2) 0) w53 fun t41 w54 =>
  Run Tryz.prog (sOp (.load 9 (.const t41)) 9) w54 fun t42 w55 =>
  Run Tryz.prog (sBin .neq 9 false false t40 t42) w55 fun t43 w56 =>
  CondV t43 (
    Run Tryz.prog (sOp (.fieldAddr 47 (.const t2) 2) 0) w56 fun t44 w57 =>
    Run Tryz.prog (sOp (.load 9 (.const t44)) 9) w57 fun t45 w58 =>
    Run Tryz.prog (sOp (.fieldAddr 47 (.const t3) 2) 0) w58 fun t46 w59 =>
    Run Tryz.prog (sOp (.load 9 (.const t46)) 9) w59 fun t47 w60 =>
    Run Tryz.prog (sCall (Value.func (.func 106) #[] #[]) [t45, t47]) w60 fun t48 w61 =>
    R (.returned t48) w61) (
    (∃ (I62 : Value → World → Prop) (m63 : Value → World → Nat), I62 (Value.int .i64 0) w56 ∧
  ∀ t5 _ _ _ _ _ _ t6 t66 t65 t64 t63 t62 t61 t60 t59 t58 t57 t56 _ _ _ _ _ : Value, ∀ w64 : World, I62 t5 w64 →
  Run Tryz.prog (sOp (.fieldAddr 47 (.const t2) 3) 0) w64 fun t50_2 w65 =>
  Run Tryz.prog (sOp (.load 29 (.const t50_2)) 29) w65 fun t51_2 w66 =>
  Run Tryz.prog (sBuiltin .len #[29] 3 [false] [t51_2]) w66 fun t52_2 w67 =>
  Run Tryz.prog (sBin .lss 3 false false t5 t52_2) w67 fun t53_2 w68 =>
  CondV t53_2 (
    (∃ A69 : (Nat → Bool) → Value → Value → Value → Value → Value → Value → Value → Value → Value → Value → Value → Value → World → Prop, A69 (fun _ => false) t6 t66 t65 t64 t63 t62 t61 t60 t59 t58 t57 t56 { w68 with drawn := w68.drawn + 1 } ∧ (
    (∀ D70 : Nat → Bool, D70 0 = false → ∀ t6_2 t66_2 t65_2 t64_2 t63_2 t62_2 t61_2 t60_2 t59_2 t58_2 t57_2 t56_2 : Value, ∀ w71 : World, A69 D70 t6_2 t66_2 t65_2 t64_2 t63_2 t62_2 t61_2 t60_2 t59_2 t58_2 t57_2 t56_2 w71 →
      Run Tryz.prog (sOp (.fieldAddr 47 (.const t2) 3) 0) w71 fun t56_3 w72 =>
      A69 (setD D70 0) t6_2 t66_2 t65_2 t64_2 t63_2 t62_2 t61_2 t60_2 t59_2 t58_2 t57_2 t56_3 w72) ∧
    (∀ D70 : Nat → Bool, D70 1 = false → D70 0 = true → ∀ t6_2 t66_2 t65_2 t64_2 t63_2 t62_2 t61_2 t60_2 t59_2 t58_2 t57_2 t56_2 : Value, ∀ w73 : World, A69 D70 t6_2 t66_2 t65_2 t64_2 t63_2 t62_2 t61_2 t60_2 t59_2 t58_2 t57_2 t56_2 w73 →
      Run Tryz.prog (sOp (.load 29 (.const t56_2)) 29) w73 fun t57_3 w74 =>
      A69 (setD D70 1) t6_2 t66_2 t65_2 t64_2 t63_2 t62_2 t61_2 t60_2 t59_2 t58_2 t57_3 t56_2 w74) ∧
    (∀ D70 : Nat → Bool, D70 2 = false → ∀ t6_2 t66_2 t65_2 t64_2 t63_2 t62_2 t61_2 t60_2 t59_2 t58_2 t57_2 t56_2 : Value, ∀ w75 : World, A69 D70 t6_2 t66_2 t65_2 t64_2 t63_2 t62_2 t61_2 t60_2 t59_2 t58_2 t57_2 t56_2 w75 →
      A69 (setD D70 2) t6_2 t66_2 t65_2 t64_2 t63_2 t62_2 t61_2 t60_2 t59_2 t5 t57_2 t56_2 w75) ∧
    (∀ D70 : Nat → Bool, D70 3 = false → D70 1 = true → D70 2 = true → ∀ t6_2 t66_2 t65_2 t64_2 t63_2 t62_2 t61_2 t60_2 t59_2 t58_2 t57_2 t56_2 : Value, ∀ w76 : World, A69 D70 t6_2 t66_2 t65_2 t64_2 t63_2 t62_2 t61_2 t60_2 t59_2 t58_2 t57_2 t56_2 w76 →
      Run Tryz.prog (sOp (.indexAddr 29 (.const t57_2) (.const t58_2)) 0) w76 fun t59_3 w77 =>
      A69 (setD D70 3) t6_2 t66_2 t65_2 t64_2 t63_2 t62_2 t61_2 t60_2 t59_3 t58_2 t57_2 t56_2 w77) ∧
    (∀ D70 : Nat → Bool, D70 4 = false → D70 3 = true → ∀ t6_2 t66_2 t65_2 t64_2 t63_2 t62_2 t61_2 t60_2 t59_2 t58_2 t57_2 t56_2 : Value, ∀ w78 : World, A69 D70 t6_2 t66_2 t65_2 t64_2 t63_2 t62_2 t61_2 t60_2 t59_2 t58_2 t57_2 t56_2 w78 →
      Run Tryz.prog (sOp (.load 47 (.const t59_2)) 47) w78 fun t60_3 w79 =>
      A69 (setD D70 4) t6_2 t66_2 t65_2 t64_2 t63_2 t62_2 t61_2 t60_3 t59_2 t58_2 t57_2 t56_2 w79) ∧
    (∀ D70 : Nat → Bool, D70 5 = false → ∀ t6_2 t66_2 t65_2 t64_2 t63_2 t62_2 t61_2 t60_2 t59_2 t58_2 t57_2 t56_2 : Value, ∀ w80 : World, A69 D70 t6_2 t66_2 t65_2 t64_2 t63_2 t62_2 t61_2 t60_2 t59_2 t58_2 t57_2 t56_2 w80 →
      Run Tryz.prog (sOp (.fieldAddr 47 (.const t3) 3) 0) w80 fun t61_3 w81 =>
      A69 (setD D70 5) t6_2 t66_2 t65_2 t64_2 t63_2 t62_2 t61_3 t60_2 t59_2 t58_2 t57_2 t56_2 w81) ∧
    (∀ D70 : Nat → Bool, D70 6 = false → D70 5 = true → ∀ t6_2 t66_2 t65_2 t64_2 t63_2 t62_2 t61_2 t60_2 t59_2 t58_2 t57_2 t56_2 : Value, ∀ w82 : World, A69 D70 t6_2 t66_2 t65_2 t64_2 t63_2 t62_2 t61_2 t60_2 t59_2 t58_2 t57_2 t56_2 w82 →
      Run Tryz.prog (sOp (.load 29 (.const t61_2)) 29) w82 fun t62_3 w83 =>
      A69 (setD D70 6) t6_2 t66_2 t65_2 t64_2 t63_2 t62_3 t61_2 t60_2 t59_2 t58_2 t57_2 t56_2 w83) ∧
    (∀ D70 : Nat → Bool, D70 7 = false → ∀ t6_2 t66_2 t65_2 t64_2 t63_2 t62_2 t61_2 t60_2 t59_2 t58_2 t57_2 t56_2 : Value, ∀ w84 : World, A69 D70 t6_2 t66_2 t65_2 t64_2 t63_2 t62_2 t61_2 t60_2 t59_2 t58_2 t57_2 t56_2 w84 →
      A69 (setD D70 7) t6_2 t66_2 t65_2 t64_2 t5 t62_2 t61_2 t60_2 t59_2 t58_2 t57_2 t56_2 w84) ∧
    (∀ D70 : Nat → Bool, D70 8 = false → D70 6 = true → D70 7 = true → ∀ t6_2 t66_2 t65_2 t64_2 t63_2 t62_2 t61_2 t60_2 t59_2 t58_2 t57_2 t56_2 : Value, ∀ w85 : World, A69 D70 t6_2 t66_2 t65_2 t64_2 t63_2 t62_2 t61_2 t60_2 t59_2 t58_2 t57_2 t56_2 w85 →
      Run Tryz.prog (sOp (.indexAddr 29 (.const t62_2) (.const t63_2)) 0) w85 fun t64_3 w86 =>
      A69 (setD D70 8) t6_2 t66_2 t65_2 t64_3 t63_2 t62_2 t61_2 t60_2 t59_2 t58_2 t57_2 t56_2 w86) ∧
    (∀ D70 : Nat → Bool, D70 9 = false → D70 8 = true → ∀ t6_2 t66_2 t65_2 t64_2 t63_2 t62_2 t61_2 t60_2 t59_2 t58_2 t57_2 t56_2 : Value, ∀ w87 : World, A69 D70 t6_2 t66_2 t65_2 t64_2 t63_2 t62_2 t61_2 t60_2 t59_2 t58_2 t57_2 t56_2 w87 →
      Run Tryz.prog (sOp (.load 47 (.const t64_2)) 47) w87 fun t65_3 w88 =>
      A69 (setD D70 9) t6_2 t66_2 t65_3 t64_2 t63_2 t62_2 t61_2 t60_2 t59_2 t58_2 t57_2 t56_2 w88) ∧
    (∀ D70 : Nat → Bool, D70 10 = false → D70 4 = true → D70 9 = true → ∀ t6_2 t66_2 t65_2 t64_2 t63_2 t62_2 t61_2 t60_2 t59_2 t58_2 t57_2 t56_2 : Value, ∀ w89 : World, A69 D70 t6_2 t66_2 t65_2 t64_2 t63_2 t62_2 t61_2 t60_2 t59_2 t58_2 t57_2 t56_2 w89 →
      Run Tryz.prog (sCall (Value.func (.func 83) #[] #[]) [t60_2, t65_2]) w89 fun t66_3 w90 =>
      A69 (setD D70 10) t6_2 t66_3 t65_2 t64_2 t63_2 t62_2 t61_2 t60_2 t59_2 t58_2 t57_2 t56_2 w90) ∧
    (∀ D70 : Nat → Bool, D70 11 = false → D70 10 = true → D70 10 = true → D70 0 = true → D70 1 = true → D70 2 = true → D70 3 = true → D70 4 = true → D70 5 = true → D70 6 = true → D70 7 = true → D70 8 = true → D70 9 = true → D70 10 = true → ∀ t6_2 t66_2 t65_2 t64_2 t63_2 t62_2 t61_2 t60_2 t59_2 t58_2 t57_2 t56_2 : Value, ∀ w91 : World, A69 D70 t6_2 t66_2 t65_2 t64_2 t63_2 t62_2 t61_2 t60_2 t59_2 t58_2 t57_2 t56_2 w91 →
      A69 (setD D70 11) t66_2 t66_2 t65_2 t64_2 t63_2 t62_2 t61_2 t60_2 t59_2 t58_2 t57_2 t56_2 w91) ∧
    True) ∧
  ∀ D70 : Nat → Bool, D70 11 = true → D70 10 = true → D70 9 = true → D70 8 = true → D70 7 = true → D70 6 = true → D70 5 = true → D70 4 = true → D70 3 = true → D70 2 = true → D70 1 = true → D70 0 = true → ∀ t6_2 t66_2 t65_2 t64_2 t63_2 t62_2 t61_2 t60_2 t59_2 t58_2 t57_2 t56_2 : Value, ∀ w92 : World, A69 D70 t6_2 t66_2 t65_2 t64_2 t63_2 t62_2 t61_2 t60_2 t59_2 t58_2 t57_2 t56_2 w92 →
  Run Tryz.prog (sBin .neq 3 false true t6_2 (Value.int .i64 0)) w92 fun t68_2 w93 =>
  CondV t68_2 (
    R (.returned t6_2) w93) (
    Run Tryz.prog (sBin .add 3 false true t5 (Value.int .i64 1)) w93 fun t55_2 w94 =>
  I62 t55_2 w94 ∧ m63 t55_2 w94 < m63 t5 w64))) (
    R (.returned (Value.int .i64 0)) w68)))))))
theorem calls_s_l1Compare {p0 p1 : Value} {w : World} {R : Ending → World → Prop} (h : sh_s_l1Compare p0 p1 w R) : Calls Tryz.prog 83 #[p0, p1] w R :=
  calls_sh (.seq none .leaf (.seq none .leaf (.seq none .leaf (.seq none .leaf (.seq none .leaf (.seq none (.seq none .leaf (.one (.loop [5] .leaf))) .leaf)))))) [p0, p1] mixed Tryz.func83 (by kernel_rfl) (by kernel_rfl) h


/- loop.example/prologserver/spec.TermSame : function 84 -/
def sh_s_TermSame (p0 p1 : Value) (w : World) (R : Ending → World → Prop) : Prop :=
  Run Tryz.prog (sOp (.box 47 (.const p0)) 0) w fun t2 w1 =>
  Run Tryz.prog (sOp (.box 47 (.const p1)) 0) w1 fun t3 w2 =>
  (∃ J3 : Value → World → Prop, (
    Run Tryz.prog (sOp (.fieldAddr 47 (.const t2) 0) 0) w2 fun t6 w4 =>
    Run Tryz.prog (sOp (.load 3 (.const t6)) 3) w4 fun t7 w5 =>
    Run Tryz.prog (sOp (.fieldAddr 47 (.const t3) 0) 0) w5 fun t8 w6 =>
    Run Tryz.prog (sOp (.load 3 (.const t8)) 3) w6 fun t9 w7 =>
    Run Tryz.prog (sBin .neq 3 false false t7 t9) w7 fun t10 w8 =>
    GuardV t10 false (
      Run Tryz.prog (sOp (.fieldAddr 47 (.const t2) 1) 0) w8 fun t12 w9 =>
      Run Tryz.prog (sOp (.load 3 (.const t12)) 3) w9 fun t13 w10 =>
      Run Tryz.prog (sOp (.fieldAddr 47 (.const t3) 1) 0) w10 fun t14 w11 =>
      Run Tryz.prog (sOp (.load 3 (.const t14)) 3) w11 fun t15 w12 =>
      Run Tryz.prog (sBin .neq 3 false false t13 t15) w12 fun t16 w13 =>
      Run Tryz.prog (sOp (.pick (.const t10) (.const (Value.bool true)) (.const t16)) 4) w13 fun t17 w14 =>
      GuardV t17 false (
        Run Tryz.prog (sOp (.fieldAddr 47 (.const t2) 2) 0) w14 fun t19 w15 =>
        Run Tryz.prog (sOp (.load 9 (.const t19)) 9) w15 fun t20 w16 =>
        Run Tryz.prog (sOp (.fieldAddr 47 (.const t3) 2) 0) w16 fun t21 w17 =>
        Run Tryz.prog (sOp (.load 9 (.const t21)) 9) w17 fun t22 w18 =>
        Run Tryz.prog (sBin .neq 9 false false t20 t22) w18 fun t23 w19 =>
        Run Tryz.prog (sOp (.pick (.const t17) (.const (Value.bool true)) (.const t23)) 4) w19 fun t24 w20 =>
        GuardV t24 false (
          Run Tryz.prog (sOp (.fieldAddr 47 (.const t2) 3) 0) w20 fun t26 w21 =>
          Run Tryz.prog (sOp (.load 29 (.const t26)) 29) w21 fun t27 w22 =>
          Run Tryz.prog (sBuiltin .len #[29] 3 [false] [t27]) w22 fun t28 w23 =>
          Run Tryz.prog (sOp (.fieldAddr 47 (.const t3) 3) 0) w23 fun t29 w24 =>
          Run Tryz.prog (sOp (.load 29 (.const t29)) 29) w24 fun t30 w25 =>
          Run Tryz.prog (sBuiltin .len #[29] 3 [false] [t30]) w25 fun t31 w26 =>
          Run Tryz.prog (sBin .neq 3 false false t28 t31) w26 fun t32 w27 =>
          Run Tryz.prog (sOp (.pick (.const t24) (.const (Value.bool true)) (.const t32)) 4) w27 fun t33 w28 =>
          J3 t33 w28) (
          Run Tryz.prog (sOp (.pick (.const t24) (.const (Value.bool true)) (.const undef)) 4) w20 fun t33_2 w29 =>
          J3 t33_2 w29)) (
        Run Tryz.prog (sOp (.pick (.const t17) (.const (Value.bool true)) (.const undef)) 4) w14 fun t24_2 w30 =>
        GuardV t24_2 false (
          Run Tryz.prog (sOp (.fieldAddr 47 (.const t2) 3) 0) w30 fun t26_2 w31 =>
          Run Tryz.prog (sOp (.load 29 (.const t26_2)) 29) w31 fun t27_2 w32 =>
          Run Tryz.prog (sBuiltin .len #[29] 3 [false] [t27_2]) w32 fun t28_2 w33 =>
          Run Tryz.prog (sOp (.fieldAddr 47 (.const t3) 3) 0) w33 fun t29_2 w34 =>
          Run Tryz.prog (sOp (.load 29 (.const t29_2)) 29) w34 fun t30_2 w35 =>
          Run Tryz.prog (sBuiltin .len #[29] 3 [false] [t30_2]) w35 fun t31_2 w36 =>
          Run Tryz.prog (sBin .neq 3 false false t28_2 t31_2) w36 fun t32_2 w37 =>
          Run Tryz.prog (sOp (.pick (.const t24_2) (.const (Value.bool true)) (.const t32_2)) 4) w37 fun t33_3 w38 =>
          J3 t33_3 w38) (
          Run Tryz.prog (sOp (.pick (.const t24_2) (.const (Value.bool true)) (.const undef)) 4) w30 fun t33_4 w39 =>
          J3 t33_4 w39))) (
      Run Tryz.prog (sOp (.pick (.const t10) (.const (Value.bool true)) (.const undef)) 4) w8 fun t17_2 w40 =>
      GuardV t17_2 false (
        Run Tryz.prog (sOp (.fieldAddr 47 (.const t2) 2) 0) w40 fun t19_2 w41 =>
        Run Tryz.prog (sOp (.load 9 (.const t19_2)) 9) w41 fun t20_2 w42 =>
        Run Tryz.prog (sOp (.fieldAddr 47 (.const t3) 2) 0) w42 fun t21_2 w43 =>
        Run Tryz.prog (sOp (.load 9 (.const t21_2)) 9) w43 fun t22_2 w44 =>
        Run Tryz.prog (sBin .neq 9 false false t20_2 t22_2) w44 fun t23_2 w45 =>
        Run Tryz.prog (sOp (.pick (.const t17_2) (.const (Value.bool true)) (.const t23_2)) 4) w45 fun t24_3 w46 =>
        GuardV t24_3 false (
          Run Tryz.prog (sOp (.fieldAddr 47 (.const t2) 3) 0) w46 fun t26_3 w47 =>
          Run Tryz.prog (sOp (.load 29 (.const t26_3)) 29) w47 fun t27_3 w48 =>
          Run Tryz.prog (sBuiltin .len #[29] 3 [false] [t27_3]) w48 fun t28_3 w49 =>
          Run Tryz.prog (sOp (.fieldAddr 47 (.const t3) 3) 0) w49 fun t29_3 w50 =>
          Run Tryz.prog (sOp (.load 29 (.const t29_3)) 29) w50 fun t30_3 w51 =>
          Run Tryz.prog (sBuiltin .len #[29] 3 [false] [t30_3]) w51 fun t31_3 w52 =>
          Run Tryz.prog (sBin .neq 3 false false t28_3 t31_3) w52 fun t32_3 w53 =>
          Run Tryz.prog (sOp (.pick (.const t24_3) (.const (Value.bool true)) (.const t32_3)) 4) w53 fun t33_5 w54 =>
          J3 t33_5 w54) (
          Run Tryz.prog (sOp (.pick (.const t24_3) (.const (Value.bool true)) (.const undef)) 4) w46 fun t33_6 w55 =>
          J3 t33_6 w55)) (
        Run Tryz.prog (sOp (.pick (.const t17_2) (.const (Value.bool true)) (.const undef)) 4) w40 fun t24_4 w56 =>
        GuardV t24_4 false (
          Run Tryz.prog (sOp (.fieldAddr 47 (.const t2) 3) 0) w56 fun t26_4 w57 =>
          Run Tryz.prog (sOp (.load 29 (.const t26_4)) 29) w57 fun t27_4 w58 =>
          Run Tryz.prog (sBuiltin .len #[29] 3 [false] [t27_4]) w58 fun t28_4 w59 =>
          Run Tryz.prog (sOp (.fieldAddr 47 (.const t3) 3) 0) w59 fun t29_4 w60 =>
          Run Tryz.prog (sOp (.load 29 (.const t29_4)) 29) w60 fun t30_4 w61 =>
          Run Tryz.prog (sBuiltin .len #[29] 3 [false] [t30_4]) w61 fun t31_4 w62 =>
          Run Tryz.prog (sBin .neq 3 false false t28_4 t31_4) w62 fun t32_4 w63 =>
          Run Tryz.prog (sOp (.pick (.const t24_4) (.const (Value.bool true)) (.const t32_4)) 4) w63 fun t33_7 w64 =>
          J3 t33_7 w64) (
          Run Tryz.prog (sOp (.pick (.const t24_4) (.const (Value.bool true)) (.const undef)) 4) w56 fun t33_8 w65 =>
          J3 t33_8 w65)))) ∧
  ∀ t33_9 _ _ _ _ _ _ _ _ _ _ _ _ _ _ _ _ _ _ _ _ _ _ _ _ _ _ _ : Value, ∀ w66 : World, J3 t33_9 w66 →
  CondV t33_9 (
    R (.returned (Value.bool false)) w66) (
    (∃ (I67 : Value → World → Prop) (m68 : Value → World → Nat), I67 (Value.int .i64 0) w66 ∧
  ∀ t5 _ _ _ t52 t51 t50 t49 t48 t47 t46 t45 t44 t43 t42 t41 _ _ _ _ _ : Value, ∀ w69 : World, I67 t5 w69 →
  Run Tryz.prog (sOp (.fieldAddr 47 (.const t2) 3) 0) w69 fun t35_2 w70 =>
  Run Tryz.prog (sOp (.load 29 (.const t35_2)) 29) w70 fun t36_2 w71 =>
  Run Tryz.prog (sBuiltin .len #[29] 3 [false] [t36_2]) w71 fun t37_2 w72 =>
  Run Tryz.prog (sBin .lss 3 false false t5 t37_2) w72 fun t38_2 w73 =>
  CondV t38_2 (
    (∃ A74 : (Nat → Bool) → Value → Value → Value → Value → Value → Value → Value → Value → Value → Value → Value → Value → World → Prop, A74 (fun _ => false) t52 t51 t50 t49 t48 t47 t46 t45 t44 t43 t42 t41 { w73 with drawn := w73.drawn + 1 } ∧ (
    (∀ D75 : Nat → Bool, D75 0 = false → ∀ t52_2 t51_2 t50_2 t49_2 t48_2 t47_2 t46_2 t45_2 t44_2 t43_2 t42_2 t41_2 : Value, ∀ w76 : World, A74 D75 t52_2 t51_2 t50_2 t49_2 t48_2 t47_2 t46_2 t45_2 t44_2 t43_2 t42_2 t41_2 w76 →
      Run Tryz.prog (sOp (.fieldAddr 47 (.const t2) 3) 0) w76 fun t41_3 w77 =>
      A74 (setD D75 0) t52_2 t51_2 t50_2 t49_2 t48_2 t47_2 t46_2 t45_2 t44_2 t43_2 t42_2 t41_3 w77) ∧
    (∀ D75 : Nat → Bool, D75 1 = false → D75 0 = true → ∀ t52_2 t51_2 t50_2 t49_2 t48_2 t47_2 t46_2 t45_2 t44_2 t43_2 t42_2 t41_2 : Value, ∀ w78 : World, A74 D75 t52_2 t51_2 t50_2 t49_2 t48_2 t47_2 t46_2 t45_2 t44_2 t43_2 t42_2 t41_2 w78 →
      Run Tryz.prog (sOp (.load 29 (.const t41_2)) 29) w78 fun t42_3 w79 =>
      A74 (setD D75 1) t52_2 t51_2 t50_2 t49_2 t48_2 t47_2 t46_2 t45_2 t44_2 t43_2 t42_3 t41_2 w79) ∧
    (∀ D75 : Nat → Bool, D75 2 = false → ∀ t52_2 t51_2 t50_2 t49_2 t48_2 t47_2 t46_2 t45_2 t44_2 t43_2 t42_2 t41_2 : Value, ∀ w80 : World, A74 D75 t52_2 t51_2 t50_2 t49_2 t48_2 t47_2 t46_2 t45_2 t44_2 t43_2 t42_2 t41_2 w80 →
      A74 (setD D75 2) t52_2 t51_2 t50_2 t49_2 t48_2 t47_2 t46_2 t45_2 t44_2 t5 t42_2 t41_2 w80) ∧
    (∀ D75 : Nat → Bool, D75 3 = false → D75 1 = true → D75 2 = true → ∀ t52_2 t51_2 t50_2 t49_2 t48_2 t47_2 t46_2 t45_2 t44_2 t43_2 t42_2 t41_2 : Value, ∀ w81 : World, A74 D75 t52_2 t51_2 t50_2 t49_2 t48_2 t47_2 t46_2 t45_2 t44_2 t43_2 t42_2 t41_2 w81 →
      Run Tryz.prog (sOp (.indexAddr 29 (.const t42_2) (.const t43_2)) 0) w81 fun t44_3 w82 =>
      A74 (setD D75 3) t52_2 t51_2 t50_2 t49_2 t48_2 t47_2 t46_2 t45_2 t44_3 t43_2 t42_2 t41_2 w82) ∧
    (∀ D75 : Nat → Bool, D75 4 = false → D75 3 = true → ∀ t52_2 t51_2 t50_2 t49_2 t48_2 t47_2 t46_2 t45_2 t44_2 t43_2 t42_2 t41_2 : Value, ∀ w83 : World, A74 D75 t52_2 t51_2 t50_2 t49_2 t48_2 t47_2 t46_2 t45_2 t44_2 t43_2 t42_2 t41_2 w83 →
      Run Tryz.prog (sOp (.load 47 (.const t44_2)) 47) w83 fun t45_3 w84 =>
      A74 (setD D75 4) t52_2 t51_2 t50_2 t49_2 t48_2 t47_2 t46_2 t45_3 t44_2 t43_2 t42_2 t41_2 w84) ∧
    (∀ D75 : Nat → Bool, D75 5 = false → ∀ t52_2 t51_2 t50_2 t49_2 t48_2 t47_2 t46_2 t45_2 t44_2 t43_2 t42_2 t41_2 : Value, ∀ w85 : World, A74 D75 t52_2 t51_2 t50_2 t49_2 t48_2 t47_2 t46_2 t45_2 t44_2 t43_2 t42_2 t41_2 w85 →
      Run Tryz.prog (sOp (.fieldAddr 47 (.const t3) 3) 0) w85 fun t46_3 w86 =>
      A74 (setD D75 5) t52_2 t51_2 t50_2 t49_2 t48_2 t47_2 t46_3 t45_2 t44_2 t43_2 t42_2 t41_2 w86) ∧
    (∀ D75 : Nat → Bool, D75 6 = false → D75 5 = true → ∀ t52_2 t51_2 t50_2 t49_2 t48_2 t47_2 t46_2 t45_2 t44_2 t43_2 t42_2 t41_2 : Value, ∀ w87 : World, A74 D75 t52_2 t51_2 t50_2 t49_2 t48_2 t47_2 t46_2 t45_2 t44_2 t43_2 t42_2 t41_2 w87 →
      Run Tryz.prog (sOp (.load 29 (.const t46_2)) 29) w87 fun t47_3 w88 =>
      A74 (setD D75 6) t52_2 t51_2 t50_2 t49_2 t48_2 t47_3 t46_2 t45_2 t44_2 t43_2 t42_2 t41_2 w88) ∧
    (∀ D75 : Nat → Bool, D75 7 = false → ∀ t52_2 t51_2 t50_2 t49_2 t48_2 t47_2 t46_2 t45_2 t44_2 t43_2 t42_2 t41_2 : Value, ∀ w89 : World, A74 D75 t52_2 t51_2 t50_2 t49_2 t48_2 t47_2 t46_2 t45_2 t44_2 t43_2 t42_2 t41_2 w89 →
      A74 (setD D75 7) t52_2 t51_2 t50_2 t49_2 t5 t47_2 t46_2 t45_2 t44_2 t43_2 t42_2 t41_2 w89) ∧
    (∀ D75 : Nat → Bool, D75 8 = false → D75 6 = true → D75 7 = true → ∀ t52_2 t51_2 t50_2 t49_2 t48_2 t47_2 t46_2 t45_2 t44_2 t43_2 t42_2 t41_2 : Value, ∀ w90 : World, A74 D75 t52_2 t51_2 t50_2 t49_2 t48_2 t47_2 t46_2 t45_2 t44_2 t43_2 t42_2 t41_2 w90 →
      Run Tryz.prog (sOp (.indexAddr 29 (.const t47_2) (.const t48_2)) 0) w90 fun t49_3 w91 =>
      A74 (setD D75 8) t52_2 t51_2 t50_2 t49_3 t48_2 t47_2 t46_2 t45_2 t44_2 t43_2 t42_2 t41_2 w91) ∧
    (∀ D75 : Nat → Bool, D75 9 = false → D75 8 = true → ∀ t52_2 t51_2 t50_2 t49_2 t48_2 t47_2 t46_2 t45_2 t44_2 t43_2 t42_2 t41_2 : Value, ∀ w92 : World, A74 D75 t52_2 t51_2 t50_2 t49_2 t48_2 t47_2 t46_2 t45_2 t44_2 t43_2 t42_2 t41_2 w92 →
      Run Tryz.prog (sOp (.load 47 (.const t49_2)) 47) w92 fun t50_3 w93 =>
      A74 (setD D75 9) t52_2 t51_2 t50_3 t49_2 t48_2 t47_2 t46_2 t45_2 t44_2 t43_2 t42_2 t41_2 w93) ∧
    (∀ D75 : Nat → Bool, D75 10 = false → D75 4 = true → D75 9 = true → ∀ t52_2 t51_2 t50_2 t49_2 t48_2 t47_2 t46_2 t45_2 t44_2 t43_2 t42_2 t41_2 : Value, ∀ w94 : World, A74 D75 t52_2 t51_2 t50_2 t49_2 t48_2 t47_2 t46_2 t45_2 t44_2 t43_2 t42_2 t41_2 w94 →
      Run Tryz.prog (sCall (Value.func (.func 84) #[] #[]) [t45_2, t50_2]) w94 fun t51_3 w95 =>
      A74 (setD D75 10) t52_2 t51_3 t50_2 t49_2 t48_2 t47_2 t46_2 t45_2 t44_2 t43_2 t42_2 t41_2 w95) ∧
    (∀ D75 : Nat → Bool, D75 11 = false → D75 10 = true → ∀ t52_2 t51_2 t50_2 t49_2 t48_2 t47_2 t46_2 t45_2 t44_2 t43_2 t42_2 t41_2 : Value, ∀ w96 : World, A74 D75 t52_2 t51_2 t50_2 t49_2 t48_2 t47_2 t46_2 t45_2 t44_2 t43_2 t42_2 t41_2 w96 →
      Run Tryz.prog (sOp (.unOp .not 4 (.const t51_2)) 4) w96 fun t52_3 w97 =>
      A74 (setD D75 11) t52_3 t51_2 t50_2 t49_2 t48_2 t47_2 t46_2 t45_2 t44_2 t43_2 t42_2 t41_2 w97) ∧
    True) ∧
  ∀ D75 : Nat → Bool, D75 11 = true → D75 10 = true → D75 9 = true → D75 8 = true → D75 7 = true → D75 6 = true → D75 5 = true → D75 4 = true → D75 3 = true → D75 2 = true → D75 1 = true → D75 0 = true → ∀ t52_2 t51_2 t50_2 t49_2 t48_2 t47_2 t46_2 t45_2 t44_2 t43_2 t42_2 t41_2 : Value, ∀ w98 : World, A74 D75 t52_2 t51_2 t50_2 t49_2 t48_2 t47_2 t46_2 t45_2 t44_2 t43_2 t42_2 t41_2 w98 →
  CondV t52_2 (
    R (.returned (Value.bool false)) w98) (
    Run Tryz.prog (sBin .add 3 false true t5 (Value.int .i64 1)) w98 fun t40_2 w99 =>
  I67 t40_2 w99 ∧ m68 t40_2 w99 < m68 t5 w69))) (
    R (.returned (Value.bool true)) w73))))
theorem calls_s_TermSame {p0 p1 : Value} {w : World} {R : Ending → World → Prop} (h : sh_s_TermSame p0 p1 w R) : Calls Tryz.prog 84 #[p0, p1] w R :=
  calls_sh (.seq none .leaf (.seq none (.seq (some [33]) .leaf .leaf) (.seq none (.seq none .leaf (.one (.loop [5] .leaf))) .leaf))) [p0, p1] mixed Tryz.func84 (by kernel_rfl) (by kernel_rfl) h


/- loop.example/prologserver/spec.l3Match : function 85 -/
def sh_s_l3Match (p0 p1 p2 : Value) (w : World) (R : Ending → World → Prop) : Prop :=
  Run Tryz.prog (sOp (.box 47 (.const p0)) 0) w fun t3 w1 =>
  Run Tryz.prog (sOp (.box 47 (.const p1)) 0) w1 fun t4 w2 =>
  Run Tryz.prog (sOp (.fieldAddr 47 (.const t3) 0) 0) w2 fun t8 w3 =>
  Run Tryz.prog (sOp (.load 3 (.const t8)) 3) w3 fun t9 w4 =>
  Run Tryz.prog (sBin .eql 3 false true t9 (Value.int .i64 1)) w4 fun t10 w5 =>
  CondV t10 (
    Run Tryz.prog (sOp (.fieldAddr 47 (.const t3) 1) 0) w5 fun t12 w6 =>
    Run Tryz.prog (sOp (.load 3 (.const t12)) 3) w6 fun t13 w7 =>
    Run Tryz.prog (sOp (.indexAddr 29 (.const p2) (.const t13)) 0) w7 fun t14 w8 =>
    Run Tryz.prog (sOp (.fieldAddr 47 (.const t14) 0) 0) w8 fun t15 w9 =>
    Run Tryz.prog (sOp (.load 3 (.const t15)) 3) w9 fun t16 w10 =>
    Run Tryz.prog (sBin .neq 3 false true t16 (Value.int .i64 0)) w10 fun t17 w11 =>
    CondV t17 (
      (∃ A12 : (Nat → Bool) → Value → Value → Value → Value → Value → Value → Value → Value → World → Prop, A12 (fun _ => false) (Value.bool false) undef undef undef undef undef undef undef { w11 with drawn := w11.drawn + 1 } ∧ (
        (∀ D13 : Nat → Bool, D13 0 = false → ∀ t6 t24 t23 t22 t21 t20 t19 t18 : Value, ∀ w14 : World, A12 D13 t6 t24 t23 t22 t21 t20 t19 t18 w14 →
          A12 (setD D13 0) t6 t24 t23 t22 t21 t20 t19 p2 w14) ∧
        (∀ D13 : Nat → Bool, D13 1 = false → ∀ t6 t24 t23 t22 t21 t20 t19 t18 : Value, ∀ w15 : World, A12 D13 t6 t24 t23 t22 t21 t20 t19 t18 w15 →
          Run Tryz.prog (sOp (.fieldAddr 47 (.const t3) 1) 0) w15 fun t19_2 w16 =>
          A12 (setD D13 1) t6 t24 t23 t22 t21 t20 t19_2 t18 w16) ∧
        (∀ D13 : Nat → Bool, D13 2 = false → D13 1 = true → ∀ t6 t24 t23 t22 t21 t20 t19 t18 : Value, ∀ w17 : World, A12 D13 t6 t24 t23 t22 t21 t20 t19 t18 w17 →
          Run Tryz.prog (sOp (.load 3 (.const t19)) 3) w17 fun t20_2 w18 =>
          A12 (setD D13 2) t6 t24 t23 t22 t21 t20_2 t19 t18 w18) ∧
        (∀ D13 : Nat → Bool, D13 3 = false → D13 0 = true → D13 2 = true → ∀ t6 t24 t23 t22 t21 t20 t19 t18 : Value, ∀ w19 : World, A12 D13 t6 t24 t23 t22 t21 t20 t19 t18 w19 →
          Run Tryz.prog (sOp (.indexAddr 29 (.const t18) (.const t20)) 0) w19 fun t21_2 w20 =>
          A12 (setD D13 3) t6 t24 t23 t22 t21_2 t20 t19 t18 w20) ∧
        (∀ D13 : Nat → Bool, D13 4 = false → D13 3 = true → ∀ t6 t24 t23 t22 t21 t20 t19 t18 : Value, ∀ w21 : World, A12 D13 t6 t24 t23 t22 t21 t20 t19 t18 w21 →
          Run Tryz.prog (sOp (.load 47 (.const t21)) 47) w21 fun t22_2 w22 =>
          A12 (setD D13 4) t6 t24 t23 t22_2 t21 t20 t19 t18 w22) ∧
        (∀ D13 : Nat → Bool, D13 5 = false → ∀ t6 t24 t23 t22 t21 t20 t19 t18 : Value, ∀ w23 : World, A12 D13 t6 t24 t23 t22 t21 t20 t19 t18 w23 →
          Run Tryz.prog (sOp (.load 47 (.const t4)) 47) w23 fun t23_2 w24 =>
          A12 (setD D13 5) t6 t24 t23_2 t22 t21 t20 t19 t18 w24) ∧
        (∀ D13 : Nat → Bool, D13 6 = false → D13 4 = true → D13 5 = true → ∀ t6 t24 t23 t22 t21 t20 t19 t18 : Value, ∀ w25 : World, A12 D13 t6 t24 t23 t22 t21 t20 t19 t18 w25 →
          Run Tryz.prog (sCall (Value.func (.func 84) #[] #[]) [t22, t23]) w25 fun t24_2 w26 =>
          A12 (setD D13 6) t6 t24_2 t23 t22 t21 t20 t19 t18 w26) ∧
        (∀ D13 : Nat → Bool, D13 7 = false → D13 6 = true → D13 6 = true → D13 0 = true → D13 1 = true → D13 2 = true → D13 3 = true → D13 4 = true → D13 5 = true → D13 6 = true → ∀ t6 t24 t23 t22 t21 t20 t19 t18 : Value, ∀ w27 : World, A12 D13 t6 t24 t23 t22 t21 t20 t19 t18 w27 →
          A12 (setD D13 7) t24 t24 t23 t22 t21 t20 t19 t18 w27) ∧
        True) ∧
      ∀ D13 : Nat → Bool, D13 7 = true → D13 6 = true → D13 5 = true → D13 4 = true → D13 3 = true → D13 2 = true → D13 1 = true → D13 0 = true → ∀ t6 t24 t23 t22 t21 t20 t19 t18 : Value, ∀ w28 : World, A12 D13 t6 t24 t23 t22 t21 t20 t19 t18 w28 →
      R (.returned t6) w28)) (
      Run Tryz.prog (sOp (.fieldAddr 47 (.const t3) 1) 0) w11 fun t26 w29 =>
    Run Tryz.prog (sOp (.load 3 (.const t26)) 3) w29 fun t27 w30 =>
    Run Tryz.prog (sOp (.load 47 (.const t4)) 47) w30 fun t28 w31 =>
    Run Tryz.prog (sOp (.indexAddr 29 (.const p2) (.const t27)) 0) w31 fun t29 w32 =>
    Run Tryz.prog (sOp (.store 47 (.const t29) (.const t28)) 0) w32 fun _ w33 =>
    R (.returned (Value.bool true)) w33)) (
    (∃ J34 : Value → World → Prop, (
    Run Tryz.prog (sOp (.fieldAddr 47 (.const t3) 0) 0) w5 fun t30 w35 =>
    Run Tryz.prog (sOp (.load 3 (.const t30)) 3) w35 fun t31 w36 =>
    Run Tryz.prog (sOp (.fieldAddr 47 (.const t4) 0) 0) w36 fun t32 w37 =>
    Run Tryz.prog (sOp (.load 3 (.const t32)) 3) w37 fun t33 w38 =>
    Run Tryz.prog (sBin .neq 3 false false t31 t33) w38 fun t34 w39 =>
    GuardV t34 false (
      Run Tryz.prog (sOp (.fieldAddr 47 (.const t3) 1) 0) w39 fun t36 w40 =>
      Run Tryz.prog (sOp (.load 3 (.const t36)) 3) w40 fun t37 w41 =>
      Run Tryz.prog (sOp (.fieldAddr 47 (.const t4) 1) 0) w41 fun t38 w42 =>
      Run Tryz.prog (sOp (.load 3 (.const t38)) 3) w42 fun t39 w43 =>
      Run Tryz.prog (sBin .neq 3 false false t37 t39) w43 fun t40 w44 =>
      Run Tryz.prog (sOp (.pick (.const t34) (.const (Value.bool true)) (.const t40)) 4) w44 fun t41 w45 =>
      GuardV t41 false (
        Run Tryz.prog (sOp (.fieldAddr 47 (.const t3) 2) 0) w45 fun t43 w46 =>
        Run Tryz.prog (sOp (.load 9 (.const t43)) 9) w46 fun t44 w47 =>
        Run Tryz.prog (sOp (.fieldAddr 47 (.const t4) 2) 0) w47 fun t45 w48 =>
        Run Tryz.prog (sOp (.load 9 (.const t45)) 9) w48 fun t46 w49 =>
        Run Tryz.prog (sBin .neq 9 false false t44 t46) w49 fun t47 w50 =>
        Run Tryz.prog (sOp (.pick (.const t41) (.const (Value.bool true)) (.const t47)) 4) w50 fun t48 w51 =>
        GuardV t48 false (
          Run Tryz.prog (sOp (.fieldAddr 47 (.const t3) 3) 0) w51 fun t50 w52 =>
          Run Tryz.prog (sOp (.load 29 (.const t50)) 29) w52 fun t51 w53 =>
          Run Tryz.prog (sBuiltin .len #[29] 3 [false] [t51]) w53 fun t52 w54 =>
          Run Tryz.prog (sOp (.fieldAddr 47 (.const t4) 3) 0) w54 fun t53 w55 =>
          Run Tryz.prog (sOp (.load 29 (.const t53)) 29) w55 fun t54 w56 =>
          Run Tryz.prog (sBuiltin .len #[29] 3 [false] [t54]) w56 fun t55 w57 =>
          Run Tryz.prog (sBin .neq 3 false false t52 t55) w57 fun t56 w58 =>
          Run Tryz.prog (sOp (.pick (.const t48) (.const (Value.bool true)) (.const t56)) 4) w58 fun t57 w59 =>
          J34 t57 w59) (
          Run Tryz.prog (sOp (.pick (.const t48) (.const (Value.bool true)) (.const undef)) 4) w51 fun t57_2 w60 =>
          J34 t57_2 w60)) (
        Run Tryz.prog (sOp (.pick (.const t41) (.const (Value.bool true)) (.const undef)) 4) w45 fun t48_2 w61 =>
        GuardV t48_2 false (
          Run Tryz.prog (sOp (.fieldAddr 47 (.const t3) 3) 0) w61 fun t50_2 w62 =>
          Run Tryz.prog (sOp (.load 29 (.const t50_2)) 29) w62 fun t51_2 w63 =>
          Run Tryz.prog (sBuiltin .len #[29] 3 [false] [t51_2]) w63 fun t52_2 w64 =>
          Run Tryz.prog (sOp (.fieldAddr 47 (.const t4) 3) 0) w64 fun t53_2 w65 =>
          Run Tryz.prog (sOp (.load 29 (.const t53_2)) 29) w65 fun t54_2 w66 =>
          Run Tryz.prog (sBuiltin .len #[29] 3 [false] [t54_2]) w66 fun t55_2 w67 =>
          Run Tryz.prog (sBin .neq 3 false false t52_2 t55_2) w67 fun t56_2 w68 =>
          Run Tryz.prog (sOp (.pick (.const t48_2) (.const (Value.bool true)) (.const t56_2)) 4) w68 fun t57_3 w69 =>
          J34 t57_3 w69) (
          Run Tryz.prog (sOp (.pick (.const t48_2) (.const (Value.bool true)) (.const undef)) 4) w61 fun t57_4 w70 =>
          J34 t57_4 w70))) (
      Run Tryz.prog (sOp (.pick (.const t34) (.const (Value.bool true)) (.const undef)) 4) w39 fun t41_2 w71 =>
      GuardV t41_2 false (
        Run Tryz.prog (sOp (.fieldAddr 47 (.const t3) 2) 0) w71 fun t43_2 w72 =>
        Run Tryz.prog (sOp (.load 9 (.const t43_2)) 9) w72 fun t44_2 w73 =>
        Run Tryz.prog (sOp (.fieldAddr 47 (.const t4) 2) 0) w73 fun t45_2 w74 =>
        Run Tryz.prog (sOp (.load 9 (.const t45_2)) 9) w74 fun t46_2 w75 =>
        Run Tryz.prog (sBin .neq 9 false false t44_2 t46_2) w75 fun t47_2 w76 =>
        Run Tryz.prog (sOp (.pick (.const t41_2) (.const (Value.bool true)) (.const t47_2)) 4) w76 fun t48_3 w77 =>
        GuardV t48_3 false (
          Run Tryz.prog (sOp (.fieldAddr 47 (.const t3) 3) 0) w77 fun t50_3 w78 =>
          Run Tryz.prog (sOp (.load 29 (.const t50_3)) 29) w78 fun t51_3 w79 =>
          Run Tryz.prog (sBuiltin .len #[29] 3 [false] [t51_3]) w79 fun t52_3 w80 =>
          Run Tryz.prog (sOp (.fieldAddr 47 (.const t4) 3) 0) w80 fun t53_3 w81 =>
          Run Tryz.prog (sOp (.load 29 (.const t53_3)) 29) w81 fun t54_3 w82 =>
          Run Tryz.prog (sBuiltin .len #[29] 3 [false] [t54_3]) w82 fun t55_3 w83 =>
          Run Tryz.prog (sBin .neq 3 false false t52_3 t55_3) w83 fun t56_3 w84 =>
          Run Tryz.prog (sOp (.pick (.const t48_3) (.const (Value.bool true)) (.const t56_3)) 4) w84 fun t57_5 w85 =>
          J34 t57_5 w85) (
          Run Tryz.prog (sOp (.pick (.const t48_3) (.const (Value.bool true)) (.const undef)) 4) w77 fun t57_6 w86 =>
          J34 t57_6 w86)) (
        Run Tryz.prog (sOp (.pick (.const t41_2) (.const (Value.bool true)) (.const undef)) 4) w71 fun t48_4 w87 =>
        GuardV t48_4 false (
          Run Tryz.prog (sOp (.fieldAddr 47 (.const t3) 3) 0) w87 fun t50_4 w88 =>
          Run Tryz.prog (sOp (.load 29 (.const t50_4)) 29) w88 fun t51_4 w89 =>
          Run Tryz.prog (sBuiltin .len #[29] 3 [false] [t51_4]) w89 fun t52_4 w90 =>
          Run Tryz.prog (sOp (.fieldAddr 47 (.const t4) 3) 0) w90 fun t53_4 w91 =>
          Run Tryz.prog (sOp (.load 29 (.const t53_4)) 29) w91 fun t54_4 w92 =>
          Run Tryz.prog (sBuiltin .len #[29] 3 [false] [t54_4]) w92 fun t55_4 w93 =>
          Run Tryz.prog (sBin .neq 3 false false t52_4 t55_4) w93 fun t56_4 w94 =>
          Run Tryz.prog (sOp (.pick (.const t48_4) (.const (Value.bool true)) (.const t56_4)) 4) w94 fun t57_7 w95 =>
          J34 t57_7 w95) (
          Run Tryz.prog (sOp (.pick (.const t48_4) (.const (Value.bool true)) (.const undef)) 4) w87 fun t57_8 w96 =>
          J34 t57_8 w96)))) ∧
  ∀ t57_9 _ _ _ _ _ _ _ _ _ _ _ _ _ _ _ _ _ _ _ _ _ _ _ _ _ _ _ : Value, ∀ w97 : World, J34 t57_9 w97 →
  CondV t57_9 (
    R (.returned (Value.bool false)) w97) (
    (∃ (I98 : Value → World → Prop) (m99 : Value → World → Nat), I98 (Value.int .i64 0) w97 ∧
  ∀ t7 _ _ _ t77 t76 t75 t74 t73 t72 t71 t70 t69 t68 t67 t66 t65 _ _ _ _ _ : Value, ∀ w100 : World, I98 t7 w100 →
  Run Tryz.prog (sOp (.fieldAddr 47 (.const t3) 3) 0) w100 fun t59_2 w101 =>
  Run Tryz.prog (sOp (.load 29 (.const t59_2)) 29) w101 fun t60_2 w102 =>
  Run Tryz.prog (sBuiltin .len #[29] 3 [false] [t60_2]) w102 fun t61_2 w103 =>
  Run Tryz.prog (sBin .lss 3 false false t7 t61_2) w103 fun t62_2 w104 =>
  CondV t62_2 (
    (∃ A105 : (Nat → Bool) → Value → Value → Value → Value → Value → Value → Value → Value → Value → Value → Value → Value → Value → World → Prop, A105 (fun _ => false) t77 t76 t75 t74 t73 t72 t71 t70 t69 t68 t67 t66 t65 { w104 with drawn := w104.drawn + 1 } ∧ (
    (∀ D106 : Nat → Bool, D106 0 = false → ∀ t77_2 t76_2 t75_2 t74_2 t73_2 t72_2 t71_2 t70_2 t69_2 t68_2 t67_2 t66_2 t65_2 : Value, ∀ w107 : World, A105 D106 t77_2 t76_2 t75_2 t74_2 t73_2 t72_2 t71_2 t70_2 t69_2 t68_2 t67_2 t66_2 t65_2 w107 →
      Run Tryz.prog (sOp (.fieldAddr 47 (.const t3) 3) 0) w107 fun t65_3 w108 =>
      A105 (setD D106 0) t77_2 t76_2 t75_2 t74_2 t73_2 t72_2 t71_2 t70_2 t69_2 t68_2 t67_2 t66_2 t65_3 w108) ∧
    (∀ D106 : Nat → Bool, D106 1 = false → D106 0 = true → ∀ t77_2 t76_2 t75_2 t74_2 t73_2 t72_2 t71_2 t70_2 t69_2 t68_2 t67_2 t66_2 t65_2 : Value, ∀ w109 : World, A105 D106 t77_2 t76_2 t75_2 t74_2 t73_2 t72_2 t71_2 t70_2 t69_2 t68_2 t67_2 t66_2 t65_2 w109 →
      Run Tryz.prog (sOp (.load 29 (.const t65_2)) 29) w109 fun t66_3 w110 =>
      A105 (setD D106 1) t77_2 t76_2 t75_2 t74_2 t73_2 t72_2 t71_2 t70_2 t69_2 t68_2 t67_2 t66_3 t65_2 w110) ∧
    (∀ D106 : Nat → Bool, D106 2 = false → ∀ t77_2 t76_2 t75_2 t74_2 t73_2 t72_2 t71_2 t70_2 t69_2 t68_2 t67_2 t66_2 t65_2 : Value, ∀ w111 : World, A105 D106 t77_2 t76_2 t75_2 t74_2 t73_2 t72_2 t71_2 t70_2 t69_2 t68_2 t67_2 t66_2 t65_2 w111 →
      A105 (setD D106 2) t77_2 t76_2 t75_2 t74_2 t73_2 t72_2 t71_2 t70_2 t69_2 t68_2 t7 t66_2 t65_2 w111) ∧
    (∀ D106 : Nat → Bool, D106 3 = false → D106 1 = true → D106 2 = true → ∀ t77_2 t76_2 t75_2 t74_2 t73_2 t72_2 t71_2 t70_2 t69_2 t68_2 t67_2 t66_2 t65_2 : Value, ∀ w112 : World, A105 D106 t77_2 t76_2 t75_2 t74_2 t73_2 t72_2 t71_2 t70_2 t69_2 t68_2 t67_2 t66_2 t65_2 w112 →
      Run Tryz.prog (sOp (.indexAddr 29 (.const t66_2) (.const t67_2)) 0) w112 fun t68_3 w113 =>
      A105 (setD D106 3) t77_2 t76_2 t75_2 t74_2 t73_2 t72_2 t71_2 t70_2 t69_2 t68_3 t67_2 t66_2 t65_2 w113) ∧
    (∀ D106 : Nat → Bool, D106 4 = false → D106 3 = true → ∀ t77_2 t76_2 t75_2 t74_2 t73_2 t72_2 t71_2 t70_2 t69_2 t68_2 t67_2 t66_2 t65_2 : Value, ∀ w114 : World, A105 D106 t77_2 t76_2 t75_2 t74_2 t73_2 t72_2 t71_2 t70_2 t69_2 t68_2 t67_2 t66_2 t65_2 w114 →
      Run Tryz.prog (sOp (.load 47 (.const t68_2)) 47) w114 fun t69_3 w115 =>
      A105 (setD D106 4) t77_2 t76_2 t75_2 t74_2 t73_2 t72_2 t71_2 t70_2 t69_3 t68_2 t67_2 t66_2 t65_2 w115) ∧
    (∀ D106 : Nat → Bool, D106 5 = false → ∀ t77_2 t76_2 t75_2 t74_2 t73_2 t72_2 t71_2 t70_2 t69_2 t68_2 t67_2 t66_2 t65_2 : Value, ∀ w116 : World, A105 D106 t77_2 t76_2 t75_2 t74_2 t73_2 t72_2 t71_2 t70_2 t69_2 t68_2 t67_2 t66_2 t65_2 w116 →
      Run Tryz.prog (sOp (.fieldAddr 47 (.const t4) 3) 0) w116 fun t70_3 w117 =>
      A105 (setD D106 5) t77_2 t76_2 t75_2 t74_2 t73_2 t72_2 t71_2 t70_3 t69_2 t68_2 t67_2 t66_2 t65_2 w117) ∧
    (∀ D106 : Nat → Bool, D106 6 = false → D106 5 = true → ∀ t77_2 t76_2 t75_2 t74_2 t73_2 t72_2 t71_2 t70_2 t69_2 t68_2 t67_2 t66_2 t65_2 : Value, ∀ w118 : World, A105 D106 t77_2 t76_2 t75_2 t74_2 t73_2 t72_2 t71_2 t70_2 t69_2 t68_2 t67_2 t66_2 t65_2 w118 →
      Run Tryz.prog (sOp (.load 29 (.const t70_2)) 29) w118 fun t71_3 w119 =>
      A105 (setD D106 6) t77_2 t76_2 t75_2 t74_2 t73_2 t72_2 t71_3 t70_2 t69_2 t68_2 t67_2 t66_2 t65_2 w119) ∧
    (∀ D106 : Nat → Bool, D106 7 = false → ∀ t77_2 t76_2 t75_2 t74_2 t73_2 t72_2 t71_2 t70_2 t69_2 t68_2 t67_2 t66_2 t65_2 : Value, ∀ w120 : World, A105 D106 t77_2 t76_2 t75_2 t74_2 t73_2 t72_2 t71_2 t70_2 t69_2 t68_2 t67_2 t66_2 t65_2 w120 →
      A105 (setD D106 7) t77_2 t76_2 t75_2 t74_2 t73_2 t7 t71_2 t70_2 t69_2 t68_2 t67_2 t66_2 t65_2 w120) ∧
    (∀ D106 : Nat → Bool, D106 8 = false → D106 6 = true → D106 7 = true → ∀ t77_2 t76_2 t75_2 t74_2 t73_2 t72_2 t71_2 t70_2 t69_2 t68_2 t67_2 t66_2 t65_2 : Value, ∀ w121 : World, A105 D106 t77_2 t76_2 t75_2 t74_2 t73_2 t72_2 t71_2 t70_2 t69_2 t68_2 t67_2 t66_2 t65_2 w121 →
      Run Tryz.prog (sOp (.indexAddr 29 (.const t71_2) (.const t72_2)) 0) w121 fun t73_3 w122 =>
      A105 (setD D106 8) t77_2 t76_2 t75_2 t74_2 t73_3 t72_2 t71_2 t70_2 t69_2 t68_2 t67_2 t66_2 t65_2 w122) ∧
    (∀ D106 : Nat → Bool, D106 9 = false → D106 8 = true → ∀ t77_2 t76_2 t75_2 t74_2 t73_2 t72_2 t71_2 t70_2 t69_2 t68_2 t67_2 t66_2 t65_2 : Value, ∀ w123 : World, A105 D106 t77_2 t76_2 t75_2 t74_2 t73_2 t72_2 t71_2 t70_2 t69_2 t68_2 t67_2 t66_2 t65_2 w123 →
      Run Tryz.prog (sOp (.load 47 (.const t73_2)) 47) w123 fun t74_3 w124 =>
      A105 (setD D106 9) t77_2 t76_2 t75_2 t74_3 t73_2 t72_2 t71_2 t70_2 t69_2 t68_2 t67_2 t66_2 t65_2 w124) ∧
    (∀ D106 : Nat → Bool, D106 10 = false → ∀ t77_2 t76_2 t75_2 t74_2 t73_2 t72_2 t71_2 t70_2 t69_2 t68_2 t67_2 t66_2 t65_2 : Value, ∀ w125 : World, A105 D106 t77_2 t76_2 t75_2 t74_2 t73_2 t72_2 t71_2 t70_2 t69_2 t68_2 t67_2 t66_2 t65_2 w125 →
      A105 (setD D106 10) t77_2 t76_2 p2 t74_2 t73_2 t72_2 t71_2 t70_2 t69_2 t68_2 t67_2 t66_2 t65_2 w125) ∧
    (∀ D106 : Nat → Bool, D106 11 = false → D106 4 = true → D106 9 = true → D106 10 = true → ∀ t77_2 t76_2 t75_2 t74_2 t73_2 t72_2 t71_2 t70_2 t69_2 t68_2 t67_2 t66_2 t65_2 : Value, ∀ w126 : World, A105 D106 t77_2 t76_2 t75_2 t74_2 t73_2 t72_2 t71_2 t70_2 t69_2 t68_2 t67_2 t66_2 t65_2 w126 →
      Run Tryz.prog (sCall (Value.func (.func 85) #[] #[]) [t69_2, t74_2, t75_2]) w126 fun t76_3 w127 =>
      A105 (setD D106 11) t77_2 t76_3 t75_2 t74_2 t73_2 t72_2 t71_2 t70_2 t69_2 t68_2 t67_2 t66_2 t65_2 w127) ∧
    (∀ D106 : Nat → Bool, D106 12 = false → D106 11 = true → ∀ t77_2 t76_2 t75_2 t74_2 t73_2 t72_2 t71_2 t70_2 t69_2 t68_2 t67_2 t66_2 t65_2 : Value, ∀ w128 : World, A105 D106 t77_2 t76_2 t75_2 t74_2 t73_2 t72_2 t71_2 t70_2 t69_2 t68_2 t67_2 t66_2 t65_2 w128 →
      Run Tryz.prog (sOp (.unOp .not 4 (.const t76_2)) 4) w128 fun t77_3 w129 =>
      A105 (setD D106 12) t77_3 t76_2 t75_2 t74_2 t73_2 t72_2 t71_2 t70_2 t69_2 t68_2 t67_2 t66_2 t65_2 w129) ∧
    True) ∧
  ∀ D106 : Nat → Bool, D106 12 = true → D106 11 = true → D106 10 = true → D106 9 = true → D106 8 = true → D106 7 = true → D106 6 = true → D106 5 = true → D106 4 = true → D106 3 = true → D106 2 = true → D106 1 = true → D106 0 = true → ∀ t77_2 t76_2 t75_2 t74_2 t73_2 t72_2 t71_2 t70_2 t69_2 t68_2 t67_2 t66_2 t65_2 : Value, ∀ w130 : World, A105 D106 t77_2 t76_2 t75_2 t74_2 t73_2 t72_2 t71_2 t70_2 t69_2 t68_2 t67_2 t66_2 t65_2 w130 →
  CondV t77_2 (
    R (.returned (Value.bool false)) w130) (
    Run Tryz.prog (sBin .add 3 false true t7 (Value.int .i64 1)) w130 fun t64_2 w131 =>
  I98 t64_2 w131 ∧ m99 t64_2 w131 < m99 t7 w100))) (
    R (.returned (Value.bool true)) w104)))))
theorem calls_s_l3Match {p0 p1 p2 : Value} {w : World} {R : Ending → World → Prop} (h : sh_s_l3Match p0 p1 p2 w R) : Calls Tryz.prog 85 #[p0, p1, p2] w R :=
  calls_sh (.seq none .leaf (.seq none .leaf (.seq none (.seq (some [57]) .leaf .leaf) (.seq none (.seq none .leaf (.one (.loop [7] .leaf))) .leaf)))) [p0, p1, p2] mixed Tryz.func85 (by kernel_rfl) (by kernel_rfl) h


/- loop.example/prologserver/impl.TermValid : function 86 -/
def sh_i_TermValid (p0 : Value) (w : World) (R : Ending → World → Prop) : Prop :=
  Run Tryz.prog (sOp (.box 47 (.const p0)) 0) w fun t1 w1 =>
  Run Tryz.prog (sOp (.alloc 3) 0) w1 fun t3 w2 =>
  Run Tryz.prog (sOp (.store 3 (.const t3) (.const (Value.int .i64 0))) 0) w2 fun _ w3 =>
  Run Tryz.prog (sOp (.load 47 (.const t1)) 47) w3 fun t4 w4 =>
  Run Tryz.prog (sCall (Value.func (.func 107) #[] #[]) [t4, (Value.int .i64 1), t3]) w4 fun t5 w5 =>
  R (.returned t5) w5
theorem calls_i_TermValid {p0 : Value} {w : World} {R : Ending → World → Prop} (h : sh_i_TermValid p0 w R) : Calls Tryz.prog 86 #[p0] w R :=
  calls_sh .leaf [p0] mixed Tryz.func86 (by kernel_rfl) (by kernel_rfl) h


/- loop.example/prologserver/impl.isPlain : function 87 -/
def sh_i_isPlain (p0 : Value) (w : World) (R : Ending → World → Prop) : Prop :=
  Run Tryz.prog (sOp (.box 47 (.const p0)) 0) w fun t1 w1 =>
  Run Tryz.prog (sOp (.fieldAddr 47 (.const t1) 0) 0) w1 fun t3 w2 =>
  Run Tryz.prog (sOp (.load 3 (.const t3)) 3) w2 fun t4 w3 =>
  Run Tryz.prog (sBin .eql 3 false true t4 (Value.int .i64 3)) w3 fun t5 w4 =>
  GuardV t5 true (
    Run Tryz.prog (sOp (.fieldAddr 47 (.const t1) 2) 0) w4 fun t7 w5 =>
    Run Tryz.prog (sOp (.load 9 (.const t7)) 9) w5 fun t8 w6 =>
    Run Tryz.prog (sCall (Value.func (.func 108) #[] #[]) [t8]) w6 fun t9 w7 =>
    Run Tryz.prog (sOp (.pick (.const t5) (.const t9) (.const (Value.bool false))) 4) w7 fun t10 w8 =>
    GuardV t10 true (
      Run Tryz.prog (sOp (.fieldAddr 47 (.const t1) 2) 0) w8 fun t12 w9 =>
      Run Tryz.prog (sOp (.load 9 (.const t12)) 9) w9 fun t13 w10 =>
      Run Tryz.prog (sCall (Value.func (.func 109) #[] #[]) [t13]) w10 fun t14 w11 =>
      Run Tryz.prog (sOp (.unOp .not 4 (.const t14)) 4) w11 fun t15 w12 =>
      Run Tryz.prog (sOp (.pick (.const t10) (.const t15) (.const (Value.bool false))) 4) w12 fun t16 w13 =>
      GuardV t16 true (
        Run Tryz.prog (sOp (.load 47 (.const t1)) 47) w13 fun t18 w14 =>
        Run Tryz.prog (sCall (Value.func (.func 110) #[] #[]) [t18]) w14 fun t19 w15 =>
        Run Tryz.prog (sOp (.unOp .not 4 (.const t19)) 4) w15 fun t20 w16 =>
        Run Tryz.prog (sOp (.pick (.const t16) (.const t20) (.const (Value.bool false))) 4) w16 fun t21 w17 =>
        R (.returned t21) w17) (
        Run Tryz.prog (sOp (.pick (.const t16) (.const undef) (.const (Value.bool false))) 4) w13 fun t21_2 w18 =>
        R (.returned t21_2) w18)) (
      Run Tryz.prog (sOp (.pick (.const t10) (.const undef) (.const (Value.bool false))) 4) w8 fun t16_2 w19 =>
      GuardV t16_2 true (
        Run Tryz.prog (sOp (.load 47 (.const t1)) 47) w19 fun t18_2 w20 =>
        Run Tryz.prog (sCall (Value.func (.func 110) #[] #[]) [t18_2]) w20 fun t19_2 w21 =>
        Run Tryz.prog (sOp (.unOp .not 4 (.const t19_2)) 4) w21 fun t20_2 w22 =>
        Run Tryz.prog (sOp (.pick (.const t16_2) (.const t20_2) (.const (Value.bool false))) 4) w22 fun t21_3 w23 =>
        R (.returned t21_3) w23) (
        Run Tryz.prog (sOp (.pick (.const t16_2) (.const undef) (.const (Value.bool false))) 4) w19 fun t21_4 w24 =>
        R (.returned t21_4) w24))) (
    Run Tryz.prog (sOp (.pick (.const t5) (.const undef) (.const (Value.bool false))) 4) w4 fun t10_2 w25 =>
    GuardV t10_2 true (
      Run Tryz.prog (sOp (.fieldAddr 47 (.const t1) 2) 0) w25 fun t12_2 w26 =>
      Run Tryz.prog (sOp (.load 9 (.const t12_2)) 9) w26 fun t13_2 w27 =>
      Run Tryz.prog (sCall (Value.func (.func 109) #[] #[]) [t13_2]) w27 fun t14_2 w28 =>
      Run Tryz.prog (sOp (.unOp .not 4 (.const t14_2)) 4) w28 fun t15_2 w29 =>
      Run Tryz.prog (sOp (.pick (.const t10_2) (.const t15_2) (.const (Value.bool false))) 4) w29 fun t16_3 w30 =>
      GuardV t16_3 true (
        Run Tryz.prog (sOp (.load 47 (.const t1)) 47) w30 fun t18_3 w31 =>
        Run Tryz.prog (sCall (Value.func (.func 110) #[] #[]) [t18_3]) w31 fun t19_3 w32 =>
        Run Tryz.prog (sOp (.unOp .not 4 (.const t19_3)) 4) w32 fun t20_3 w33 =>
        Run Tryz.prog (sOp (.pick (.const t16_3) (.const t20_3) (.const (Value.bool false))) 4) w33 fun t21_5 w34 =>
        R (.returned t21_5) w34) (
        Run Tryz.prog (sOp (.pick (.const t16_3) (.const undef) (.const (Value.bool false))) 4) w30 fun t21_6 w35 =>
        R (.returned t21_6) w35)) (
      Run Tryz.prog (sOp (.pick (.const t10_2) (.const undef) (.const (Value.bool false))) 4) w25 fun t16_4 w36 =>
      GuardV t16_4 true (
        Run Tryz.prog (sOp (.load 47 (.const t1)) 47) w36 fun t18_4 w37 =>
        Run Tryz.prog (sCall (Value.func (.func 110) #[] #[]) [t18_4]) w37 fun t19_4 w38 =>
        Run Tryz.prog (sOp (.unOp .not 4 (.const t19_4)) 4) w38 fun t20_4 w39 =>
        Run Tryz.prog (sOp (.pick (.const t16_4) (.const t20_4) (.const (Value.bool false))) 4) w39 fun t21_7 w40 =>
        R (.returned t21_7) w40) (
        Run Tryz.prog (sOp (.pick (.const t16_4) (.const undef) (.const (Value.bool false))) 4) w36 fun t21_8 w41 =>
        R (.returned t21_8) w41)))
theorem calls_i_isPlain {p0 : Value} {w : World} {R : Ending → World → Prop} (h : sh_i_isPlain p0 w R) : Calls Tryz.prog 87 #[p0] w R :=
  calls_sh .leaf [p0] mixed Tryz.func87 (by kernel_rfl) (by kernel_rfl) h


/- loop.example/prologserver/impl.goalsValid : function 88 -/
def sh_i_goalsValid (p0 : Value) (w : World) (R : Ending → World → Prop) : Prop :=
  Run Tryz.prog (sBuiltin .len #[29] 3 [false] [p0]) w fun t4 w1 =>
  Run Tryz.prog (sBin .leq 3 false true t4 (Value.int .i64 6)) w1 fun t5 w2 =>
  GuardV t5 true (
    Run Tryz.prog (sCall (Value.func (.func 63) #[] #[]) [p0, (Value.func (.func 111) #[] #[])]) w2 fun t8 w3 =>
    Run Tryz.prog (sOp (.unOp .not 4 (.const t8)) 4) w3 fun t9 w4 =>
    Run Tryz.prog (sOp (.pick (.const t5) (.const t9) (.const (Value.bool false))) 4) w4 fun t10 w5 =>
    R (.returned t10) w5) (
    Run Tryz.prog (sOp (.pick (.const t5) (.const undef) (.const (Value.bool false))) 4) w2 fun t10_2 w6 =>
    R (.returned t10_2) w6)
theorem calls_i_goalsValid {p0 : Value} {w : World} {R : Ending → World → Prop} (h : sh_i_goalsValid p0 w R) : Calls Tryz.prog 88 #[p0] w R :=
  calls_sh .leaf [p0] mixed Tryz.func88 (by kernel_rfl) (by kernel_rfl) h


/- loop.example/prologserver/impl.isFlat$1 : function 89 -/
def sh_i_isFlat_1 (p0 : Value) (w : World) (R : Ending → World → Prop) : Prop :=
  Run Tryz.prog (sOp (.box 47 (.const p0)) 0) w fun t1 w1 =>
  Run Tryz.prog (sOp (.fieldAddr 47 (.const t1) 3) 0) w1 fun t3 w2 =>
  Run Tryz.prog (sOp (.load 29 (.const t3)) 29) w2 fun t4 w3 =>
  Run Tryz.prog (sBuiltin .len #[29] 3 [false] [t4]) w3 fun t5 w4 =>
  Run Tryz.prog (sBin .gtr 3 false true t5 (Value.int .i64 0)) w4 fun t6 w5 =>
  R (.returned t6) w5
theorem calls_i_isFlat_1 {p0 : Value} {w : World} {R : Ending → World → Prop} (h : sh_i_isFlat_1 p0 w R) : Calls Tryz.prog 89 #[p0] w R :=
  calls_sh .leaf [p0] mixed Tryz.func89 (by kernel_rfl) (by kernel_rfl) h


/- slices.IndexFunc[[]loop.example/prologserver/impl.Term,loop.example/prologserver/impl.Term] : function 90 -/
def sh_x_IndexFunc_Term (p0 p1 : Value) (w : World) (R : Ending → World → Prop) : Prop :=
  Run Tryz.prog (sBuiltin .len #[29] 3 [false] [p0]) w fun t7 w1 =>
  (∃ (I2 : Value → World → Prop) (m3 : Value → World → Nat), I2 (Value.int .i64 0) w1 ∧
  ∀ t8 _ _ _ _ _ _ _ _ _ _ _ _ : Value, ∀ w4 : World, I2 t8 w4 →
  Run Tryz.prog (sBin .lss 3 false false t8 t7) w4 fun t9_2 w5 =>
  CondV t9_2 (
    Run Tryz.prog (sOp (.indexAddr 29 (.const p0) (.const t8)) 0) w5 fun t14_2 w6 =>
  Run Tryz.prog (sOp (.load 47 (.const t14_2)) 47) w6 fun t15_2 w7 =>
  Run Tryz.prog (sCall p1 [t15_2]) w7 fun t16_2 w8 =>
  CondV t16_2 (
    R (.returned t8) w8) (
    Run Tryz.prog (sBin .add 3 false true t8 (Value.int .i64 1)) w8 fun t18_2 w9 =>
  I2 t18_2 w9 ∧ m3 t18_2 w9 < m3 t8 w4)) (
    R (.returned (Value.int .i64 (-1))) w5))
theorem calls_x_IndexFunc_Term {p0 p1 : Value} {w : World} {R : Ending → World → Prop} (h : sh_x_IndexFunc_Term p0 p1 w R) : Calls Tryz.prog 90 #[p0, p1] w R :=
  calls_sh (.seq none .leaf (.seq none (.seq none .leaf (.one (.loop [8] .leaf))) .leaf)) [p0, p1] mixed Tryz.func90 (by kernel_rfl) (by kernel_rfl) h


/- slices.IndexFunc[[]int,int] : function 91 -/
def sh_x_IndexFunc_int (p0 p1 : Value) (w : World) (R : Ending → World → Prop) : Prop :=
  Run Tryz.prog (sBuiltin .len #[67] 3 [false] [p0]) w fun t7 w1 =>
  (∃ (I2 : Value → World → Prop) (m3 : Value → World → Nat), I2 (Value.int .i64 0) w1 ∧
  ∀ t8 _ _ _ _ _ _ _ _ _ _ _ _ : Value, ∀ w4 : World, I2 t8 w4 →
  Run Tryz.prog (sBin .lss 3 false false t8 t7) w4 fun t9_2 w5 =>
  CondV t9_2 (
    Run Tryz.prog (sOp (.indexAddr 67 (.const p0) (.const t8)) 0) w5 fun t14_2 w6 =>
  Run Tryz.prog (sOp (.load 3 (.const t14_2)) 3) w6 fun t15_2 w7 =>
  Run Tryz.prog (sCall p1 [t15_2]) w7 fun t16_2 w8 =>
  CondV t16_2 (
    R (.returned t8) w8) (
    Run Tryz.prog (sBin .add 3 false true t8 (Value.int .i64 1)) w8 fun t18_2 w9 =>
  I2 t18_2 w9 ∧ m3 t18_2 w9 < m3 t8 w4)) (
    R (.returned (Value.int .i64 (-1))) w5))
theorem calls_x_IndexFunc_int {p0 p1 : Value} {w : World} {R : Ending → World → Prop} (h : sh_x_IndexFunc_int p0 p1 w R) : Calls Tryz.prog 91 #[p0, p1] w R :=
  calls_sh (.seq none .leaf (.seq none (.seq none .leaf (.one (.loop [8] .leaf))) .leaf)) [p0, p1] mixed Tryz.func91 (by kernel_rfl) (by kernel_rfl) h


/- slices.Index[[]int,int] : function 92 -/
def sh_x_Index_int (p0 p1 : Value) (w : World) (R : Ending → World → Prop) : Prop :=
  Run Tryz.prog (sBuiltin .len #[67] 3 [false] [p0]) w fun t7 w1 =>
  (∃ (I2 : Value → World → Prop) (m3 : Value → World → Nat), I2 (Value.int .i64 0) w1 ∧
  ∀ t8 _ _ _ _ _ _ _ _ _ _ _ _ : Value, ∀ w4 : World, I2 t8 w4 →
  Run Tryz.prog (sBin .lss 3 false false t8 t7) w4 fun t9_2 w5 =>
  CondV t9_2 (
    Run Tryz.prog (sOp (.indexAddr 67 (.const p0) (.const t8)) 0) w5 fun t14_2 w6 =>
  Run Tryz.prog (sOp (.load 3 (.const t14_2)) 3) w6 fun t15_2 w7 =>
  Run Tryz.prog (sBin .eql 3 false false p1 t15_2) w7 fun t16_2 w8 =>
  CondV t16_2 (
    R (.returned t8) w8) (
    Run Tryz.prog (sBin .add 3 false true t8 (Value.int .i64 1)) w8 fun t18_2 w9 =>
  I2 t18_2 w9 ∧ m3 t18_2 w9 < m3 t8 w4)) (
    R (.returned (Value.int .i64 (-1))) w5))
theorem calls_x_Index_int {p0 p1 : Value} {w : World} {R : Ending → World → Prop} (h : sh_x_Index_int p0 p1 w R) : Calls Tryz.prog 92 #[p0, p1] w R :=
  calls_sh (.seq none .leaf (.seq none (.seq none .leaf (.one (.loop [8] .leaf))) .leaf)) [p0, p1] mixed Tryz.func92 (by kernel_rfl) (by kernel_rfl) h


/- loop.example/prologserver/impl.TermSame : function 94 -/
def sh_i_TermSame (p0 p1 : Value) (w : World) (R : Ending → World → Prop) : Prop :=
  Run Tryz.prog (sOp (.box 47 (.const p0)) 0) w fun t2 w1 =>
  Run Tryz.prog (sOp (.box 47 (.const p1)) 0) w1 fun t3 w2 =>
  Run Tryz.prog (sOp (.fieldAddr 47 (.const t2) 0) 0) w2 fun t5 w3 =>
  Run Tryz.prog (sOp (.load 3 (.const t5)) 3) w3 fun t6 w4 =>
  Run Tryz.prog (sOp (.fieldAddr 47 (.const t3) 0) 0) w4 fun t7 w5 =>
  Run Tryz.prog (sOp (.load 3 (.const t7)) 3) w5 fun t8 w6 =>
  Run Tryz.prog (sBin .eql 3 false false t6 t8) w6 fun t9 w7 =>
  GuardV t9 true (
    Run Tryz.prog (sOp (.fieldAddr 47 (.const t2) 1) 0) w7 fun t11 w8 =>
    Run Tryz.prog (sOp (.load 3 (.const t11)) 3) w8 fun t12 w9 =>
    Run Tryz.prog (sOp (.fieldAddr 47 (.const t3) 1) 0) w9 fun t13 w10 =>
    Run Tryz.prog (sOp (.load 3 (.const t13)) 3) w10 fun t14 w11 =>
    Run Tryz.prog (sBin .eql 3 false false t12 t14) w11 fun t15 w12 =>
    Run Tryz.prog (sOp (.pick (.const t9) (.const t15) (.const (Value.bool false))) 4) w12 fun t16 w13 =>
    GuardV t16 true (
      Run Tryz.prog (sOp (.fieldAddr 47 (.const t2) 2) 0) w13 fun t18 w14 =>
      Run Tryz.prog (sOp (.load 9 (.const t18)) 9) w14 fun t19 w15 =>
      Run Tryz.prog (sOp (.fieldAddr 47 (.const t3) 2) 0) w15 fun t20 w16 =>
      Run Tryz.prog (sOp (.load 9 (.const t20)) 9) w16 fun t21 w17 =>
      Run Tryz.prog (sBin .eql 9 false false t19 t21) w17 fun t22 w18 =>
      Run Tryz.prog (sOp (.pick (.const t16) (.const t22) (.const (Value.bool false))) 4) w18 fun t23 w19 =>
      GuardV t23 true (
        Run Tryz.prog (sOp (.fieldAddr 47 (.const t2) 3) 0) w19 fun t25 w20 =>
        Run Tryz.prog (sOp (.load 29 (.const t25)) 29) w20 fun t26 w21 =>
        Run Tryz.prog (sOp (.fieldAddr 47 (.const t3) 3) 0) w21 fun t27 w22 =>
        Run Tryz.prog (sOp (.load 29 (.const t27)) 29) w22 fun t28 w23 =>
        Run Tryz.prog (sCall (Value.func (.func 113) #[] #[]) [t26, t28, (Value.func (.func 94) #[] #[])]) w23 fun t29 w24 =>
        Run Tryz.prog (sOp (.pick (.const t23) (.const t29) (.const (Value.bool false))) 4) w24 fun t30 w25 =>
        R (.returned t30) w25) (
        Run Tryz.prog (sOp (.pick (.const t23) (.const undef) (.const (Value.bool false))) 4) w19 fun t30_2 w26 =>
        R (.returned t30_2) w26)) (
      Run Tryz.prog (sOp (.pick (.const t16) (.const undef) (.const (Value.bool false))) 4) w13 fun t23_2 w27 =>
      GuardV t23_2 true (
        Run Tryz.prog (sOp (.fieldAddr 47 (.const t2) 3) 0) w27 fun t25_2 w28 =>
        Run Tryz.prog (sOp (.load 29 (.const t25_2)) 29) w28 fun t26_2 w29 =>
        Run Tryz.prog (sOp (.fieldAddr 47 (.const t3) 3) 0) w29 fun t27_2 w30 =>
        Run Tryz.prog (sOp (.load 29 (.const t27_2)) 29) w30 fun t28_2 w31 =>
        Run Tryz.prog (sCall (Value.func (.func 113) #[] #[]) [t26_2, t28_2, (Value.func (.func 94) #[] #[])]) w31 fun t29_2 w32 =>
        Run Tryz.prog (sOp (.pick (.const t23_2) (.const t29_2) (.const (Value.bool false))) 4) w32 fun t30_3 w33 =>
        R (.returned t30_3) w33) (
        Run Tryz.prog (sOp (.pick (.const t23_2) (.const undef) (.const (Value.bool false))) 4) w27 fun t30_4 w34 =>
        R (.returned t30_4) w34))) (
    Run Tryz.prog (sOp (.pick (.const t9) (.const undef) (.const (Value.bool false))) 4) w7 fun t16_2 w35 =>
    GuardV t16_2 true (
      Run Tryz.prog (sOp (.fieldAddr 47 (.const t2) 2) 0) w35 fun t18_2 w36 =>
      Run Tryz.prog (sOp (.load 9 (.const t18_2)) 9) w36 fun t19_2 w37 =>
      Run Tryz.prog (sOp (.fieldAddr 47 (.const t3) 2) 0) w37 fun t20_2 w38 =>
      Run Tryz.prog (sOp (.load 9 (.const t20_2)) 9) w38 fun t21_2 w39 =>
      Run Tryz.prog (sBin .eql 9 false false t19_2 t21_2) w39 fun t22_2 w40 =>
      Run Tryz.prog (sOp (.pick (.const t16_2) (.const t22_2) (.const (Value.bool false))) 4) w40 fun t23_3 w41 =>
      GuardV t23_3 true (
        Run Tryz.prog (sOp (.fieldAddr 47 (.const t2) 3) 0) w41 fun t25_3 w42 =>
        Run Tryz.prog (sOp (.load 29 (.const t25_3)) 29) w42 fun t26_3 w43 =>
        Run Tryz.prog (sOp (.fieldAddr 47 (.const t3) 3) 0) w43 fun t27_3 w44 =>
        Run Tryz.prog (sOp (.load 29 (.const t27_3)) 29) w44 fun t28_3 w45 =>
        Run Tryz.prog (sCall (Value.func (.func 113) #[] #[]) [t26_3, t28_3, (Value.func (.func 94) #[] #[])]) w45 fun t29_3 w46 =>
        Run Tryz.prog (sOp (.pick (.const t23_3) (.const t29_3) (.const (Value.bool false))) 4) w46 fun t30_5 w47 =>
        R (.returned t30_5) w47) (
        Run Tryz.prog (sOp (.pick (.const t23_3) (.const undef) (.const (Value.bool false))) 4) w41 fun t30_6 w48 =>
        R (.returned t30_6) w48)) (
      Run Tryz.prog (sOp (.pick (.const t16_2) (.const undef) (.const (Value.bool false))) 4) w35 fun t23_4 w49 =>
      GuardV t23_4 true (
        Run Tryz.prog (sOp (.fieldAddr 47 (.const t2) 3) 0) w49 fun t25_4 w50 =>
        Run Tryz.prog (sOp (.load 29 (.const t25_4)) 29) w50 fun t26_4 w51 =>
        Run Tryz.prog (sOp (.fieldAddr 47 (.const t3) 3) 0) w51 fun t27_4 w52 =>
        Run Tryz.prog (sOp (.load 29 (.const t27_4)) 29) w52 fun t28_4 w53 =>
        Run Tryz.prog (sCall (Value.func (.func 113) #[] #[]) [t26_4, t28_4, (Value.func (.func 94) #[] #[])]) w53 fun t29_4 w54 =>
        Run Tryz.prog (sOp (.pick (.const t23_4) (.const t29_4) (.const (Value.bool false))) 4) w54 fun t30_7 w55 =>
        R (.returned t30_7) w55) (
        Run Tryz.prog (sOp (.pick (.const t23_4) (.const undef) (.const (Value.bool false))) 4) w49 fun t30_8 w56 =>
        R (.returned t30_8) w56)))
theorem calls_i_TermSame {p0 p1 : Value} {w : World} {R : Ending → World → Prop} (h : sh_i_TermSame p0 p1 w R) : Calls Tryz.prog 94 #[p0, p1] w R :=
  calls_sh .leaf [p0, p1] mixed Tryz.func94 (by kernel_rfl) (by kernel_rfl) h


/- cmp.Or[int] : function 95 -/
def sh_x_Or_int (p0 : Value) (w : World) (R : Ending → World → Prop) : Prop :=
  Run Tryz.prog (sBuiltin .len #[67] 3 [false] [p0]) w fun t7 w1 =>
  (∃ (I2 : Value → World → Prop) (m3 : Value → World → Nat), I2 (Value.int .i64 0) w1 ∧
  ∀ t8 _ _ _ _ _ _ _ _ _ _ : Value, ∀ w4 : World, I2 t8 w4 →
  Run Tryz.prog (sBin .lss 3 false false t8 t7) w4 fun t9_2 w5 =>
  CondV t9_2 (
    Run Tryz.prog (sOp (.indexAddr 67 (.const p0) (.const t8)) 0) w5 fun t10_2 w6 =>
  Run Tryz.prog (sOp (.load 3 (.const t10_2)) 3) w6 fun t11_2 w7 =>
  Run Tryz.prog (sBin .neq 3 false false t11_2 (Value.int .i64 0)) w7 fun t14_2 w8 =>
  CondV t14_2 (
    R (.returned t11_2) w8) (
    Run Tryz.prog (sBin .add 3 false true t8 (Value.int .i64 1)) w8 fun t16_2 w9 =>
  I2 t16_2 w9 ∧ m3 t16_2 w9 < m3 t8 w4)) (
    R (.returned (Value.int .i64 0)) w5))
theorem calls_x_Or_int {p0 : Value} {w : World} {R : Ending → World → Prop} (h : sh_x_Or_int p0 w R) : Calls Tryz.prog 95 #[p0] w R :=
  calls_sh (.seq none .leaf (.seq none .leaf (.seq none (.seq none .leaf (.one (.loop [8] .leaf))) .leaf))) [p0] mixed Tryz.func95 (by kernel_rfl) (by kernel_rfl) h


/- cmp.Compare[int] : function 96 -/
def sh_x_Compare_int (p0 p1 : Value) (w : World) (R : Ending → World → Prop) : Prop :=
  Run Tryz.prog (sCall (Value.func (.func 114) #[] #[]) [p0]) w fun t8 w1 =>
  Run Tryz.prog (sCall (Value.func (.func 114) #[] #[]) [p1]) w1 fun t10 w2 =>
  CondV t8 (
    CondV t10 (
      R (.returned (Value.int .i64 0)) w2) (
      R (.returned (Value.int .i64 (-1))) w2)) (
    CondV t10 (
    R (.returned (Value.int .i64 1)) w2) (
    Run Tryz.prog (sBin .lss 3 false false p0 p1) w2 fun t16 w3 =>
  CondV t16 (
    R (.returned (Value.int .i64 (-1))) w3) (
    Run Tryz.prog (sBin .gtr 3 false false p0 p1) w3 fun t19 w4 =>
  CondV t19 (
    R (.returned (Value.int .i64 1)) w4) (
    R (.returned (Value.int .i64 0)) w4))))
theorem calls_x_Compare_int {p0 p1 : Value} {w : World} {R : Ending → World → Prop} (h : sh_x_Compare_int p0 p1 w R) : Calls Tryz.prog 96 #[p0, p1] w R :=
  calls_sh .leaf [p0, p1] mixed Tryz.func96 (by kernel_rfl) (by kernel_rfl) h


/- loop.example/prologserver/impl.rank : function 97 -/
def sh_i_rank (p0 : Value) (w : World) (R : Ending → World → Prop) : Prop :=
  Run Tryz.prog (sOp (.box 47 (.const p0)) 0) w fun t1 w1 =>
  Run Tryz.prog (sOp (.fieldAddr 47 (.const t1) 0) 0) w1 fun t4 w2 =>
  Run Tryz.prog (sOp (.load 3 (.const t4)) 3) w2 fun t5 w3 =>
  Run Tryz.prog (sBin .eql 3 false true t5 (Value.int .i64 1)) w3 fun t6 w4 =>
  CondV t6 (
    R (.returned (Value.int .i64 0)) w4) (
    Run Tryz.prog (sOp (.fieldAddr 47 (.const t1) 0) 0) w4 fun t8 w5 =>
    Run Tryz.prog (sOp (.load 3 (.const t8)) 3) w5 fun t9 w6 =>
    Run Tryz.prog (sBin .eql 3 false true t9 (Value.int .i64 2)) w6 fun t10 w7 =>
    CondV t10 (
      R (.returned (Value.int .i64 1)) w7) (
      Run Tryz.prog (sOp (.fieldAddr 47 (.const t1) 3) 0) w7 fun t12 w8 =>
      Run Tryz.prog (sOp (.load 29 (.const t12)) 29) w8 fun t13 w9 =>
      Run Tryz.prog (sBuiltin .len #[29] 3 [false] [t13]) w9 fun t14 w10 =>
      Run Tryz.prog (sBin .eql 3 false true t14 (Value.int .i64 0)) w10 fun t15 w11 =>
      CondV t15 (
        R (.returned (Value.int .i64 2)) w11) (
        R (.returned (Value.int .i64 3)) w11)))
theorem calls_i_rank {p0 : Value} {w : World} {R : Ending → World → Prop} (h : sh_i_rank p0 w R) : Calls Tryz.prog 97 #[p0] w R :=
  calls_sh .leaf [p0] mixed Tryz.func97 (by kernel_rfl) (by kernel_rfl) h


/- cmp.Compare[string] : function 98 -/
def sh_x_Compare_string (p0 p1 : Value) (w : World) (R : Ending → World → Prop) : Prop :=
  Run Tryz.prog (sCall (Value.func (.func 115) #[] #[]) [p0]) w fun t8 w1 =>
  Run Tryz.prog (sCall (Value.func (.func 115) #[] #[]) [p1]) w1 fun t10 w2 =>
  CondV t8 (
    CondV t10 (
      R (.returned (Value.int .i64 0)) w2) (
      R (.returned (Value.int .i64 (-1))) w2)) (
    CondV t10 (
    R (.returned (Value.int .i64 1)) w2) (
    Run Tryz.prog (sBin .lss 9 false false p0 p1) w2 fun t16 w3 =>
  CondV t16 (
    R (.returned (Value.int .i64 (-1))) w3) (
    Run Tryz.prog (sBin .gtr 9 false false p0 p1) w3 fun t19 w4 =>
  CondV t19 (
    R (.returned (Value.int .i64 1)) w4) (
    R (.returned (Value.int .i64 0)) w4))))
theorem calls_x_Compare_string {p0 p1 : Value} {w : World} {R : Ending → World → Prop} (h : sh_x_Compare_string p0 p1 w R) : Calls Tryz.prog 98 #[p0, p1] w R :=
  calls_sh .leaf [p0, p1] mixed Tryz.func98 (by kernel_rfl) (by kernel_rfl) h


/- slices.CompareFunc[[]loop.example/prologserver/impl.Term,[]loop.example/prologserver/impl.Term,loop.example/prologserver/impl.Term,loop.example/prologserver/impl.Term] : function 99 -/
def sh_x_CompareFunc_Term (p0 p1 p2 : Value) (w : World) (R : Ending → World → Prop) : Prop :=
  Run Tryz.prog (sBuiltin .len #[29] 3 [false] [p0]) w fun t12 w1 =>
  (∃ (I2 : Value → World → Prop) (m3 : Value → World → Nat), I2 (Value.int .i64 0) w1 ∧
  ∀ t13 _ _ _ _ _ _ _ _ _ _ _ _ _ _ _ _ _ _ _ _ _ _ _ _ _ : Value, ∀ w4 : World, I2 t13 w4 →
  Run Tryz.prog (sBin .lss 3 false false t13 t12) w4 fun t14_2 w5 =>
  CondV t14_2 (
    Run Tryz.prog (sOp (.indexAddr 29 (.const p0) (.const t13)) 0) w5 fun t16_2 w6 =>
  Run Tryz.prog (sOp (.load 47 (.const t16_2)) 47) w6 fun t17_2 w7 =>
  Run Tryz.prog (sOp (.alloc 47) 0) w7 fun t8_2 w8 =>
  Run Tryz.prog (sOp (.store 47 (.const t8_2) (.const t17_2)) 0) w8 fun _u w9 =>
  Run Tryz.prog (sBuiltin .len #[29] 3 [false] [p1]) w9 fun t20_2 w10 =>
  Run Tryz.prog (sBin .geq 3 false false t13 t20_2) w10 fun t21_2 w11 =>
  CondV t21_2 (
    R (.returned (Value.int .i64 1)) w11) (
    Run Tryz.prog (sOp (.indexAddr 29 (.const p1) (.const t13)) 0) w11 fun t24_2 w12 =>
  Run Tryz.prog (sOp (.load 47 (.const t24_2)) 47) w12 fun t25_2 w13 =>
  Run Tryz.prog (sOp (.alloc 47) 0) w13 fun t9_2 w14 =>
  Run Tryz.prog (sOp (.store 47 (.const t9_2) (.const t25_2)) 0) w14 fun _ w15 =>
  Run Tryz.prog (sOp (.load 47 (.const t8_2)) 47) w15 fun t27_2 w16 =>
  Run Tryz.prog (sOp (.load 47 (.const t9_2)) 47) w16 fun t28_2 w17 =>
  Run Tryz.prog (sCall p2 [t27_2, t28_2]) w17 fun t29_2 w18 =>
  Run Tryz.prog (sBin .neq 3 false true t29_2 (Value.int .i64 0)) w18 fun t31_2 w19 =>
  CondV t31_2 (
    R (.returned t29_2) w19) (
    Run Tryz.prog (sBin .add 3 false true t13 (Value.int .i64 1)) w19 fun t33_2 w20 =>
  I2 t33_2 w20 ∧ m3 t33_2 w20 < m3 t13 w4))) (
    Run Tryz.prog (sBuiltin .len #[29] 3 [false] [p0]) w5 fun t35 w21 =>
  Run Tryz.prog (sBuiltin .len #[29] 3 [false] [p1]) w21 fun t37 w22 =>
  Run Tryz.prog (sBin .lss 3 false false t35 t37) w22 fun t38 w23 =>
  CondV t38 (
    R (.returned (Value.int .i64 (-1))) w23) (
    R (.returned (Value.int .i64 0)) w23)))
theorem calls_x_CompareFunc_Term {p0 p1 p2 : Value} {w : World} {R : Ending → World → Prop} (h : sh_x_CompareFunc_Term p0 p1 p2 w R) : Calls Tryz.prog 99 #[p0, p1, p2] w R :=
  calls_sh (.seq none .leaf (.seq none (.seq none .leaf (.one (.loop [13] .leaf))) .leaf)) [p0, p1, p2] mixed Tryz.func99 (by kernel_rfl) (by kernel_rfl) h


/- loop.example/prologserver/spec.l4Cut : function 102 -/
def sh_s_l4Cut (p0 : Value) (w : World) (R : Ending → World → Prop) : Prop :=
  Run Tryz.prog (sOp (.box 47 (.const p0)) 0) w fun t1 w1 =>
  Run Tryz.prog (sOp (.fieldAddr 47 (.const t1) 0) 0) w1 fun t3 w2 =>
  Run Tryz.prog (sOp (.load 3 (.const t3)) 3) w2 fun t4 w3 =>
  Run Tryz.prog (sBin .eql 3 false true t4 (Value.int .i64 3)) w3 fun t5 w4 =>
  GuardV t5 true (
    Run Tryz.prog (sOp (.fieldAddr 47 (.const t1) 2) 0) w4 fun t7 w5 =>
    Run Tryz.prog (sOp (.load 9 (.const t7)) 9) w5 fun t8 w6 =>
    Run Tryz.prog (sBin .eql 9 false true t8 (Value.string ⟨#[33]⟩)) w6 fun t9 w7 =>
    Run Tryz.prog (sOp (.pick (.const t5) (.const t9) (.const (Value.bool false))) 4) w7 fun t10 w8 =>
    GuardV t10 true (
      Run Tryz.prog (sOp (.fieldAddr 47 (.const t1) 3) 0) w8 fun t12 w9 =>
      Run Tryz.prog (sOp (.load 29 (.const t12)) 29) w9 fun t13 w10 =>
      Run Tryz.prog (sBuiltin .len #[29] 3 [false] [t13]) w10 fun t14 w11 =>
      Run Tryz.prog (sBin .eql 3 false true t14 (Value.int .i64 0)) w11 fun t15 w12 =>
      Run Tryz.prog (sOp (.pick (.const t10) (.const t15) (.const (Value.bool false))) 4) w12 fun t16 w13 =>
      R (.returned t16) w13) (
      Run Tryz.prog (sOp (.pick (.const t10) (.const undef) (.const (Value.bool false))) 4) w8 fun t16_2 w14 =>
      R (.returned t16_2) w14)) (
    Run Tryz.prog (sOp (.pick (.const t5) (.const undef) (.const (Value.bool false))) 4) w4 fun t10_2 w15 =>
    GuardV t10_2 true (
      Run Tryz.prog (sOp (.fieldAddr 47 (.const t1) 3) 0) w15 fun t12_2 w16 =>
      Run Tryz.prog (sOp (.load 29 (.const t12_2)) 29) w16 fun t13_2 w17 =>
      Run Tryz.prog (sBuiltin .len #[29] 3 [false] [t13_2]) w17 fun t14_2 w18 =>
      Run Tryz.prog (sBin .eql 3 false true t14_2 (Value.int .i64 0)) w18 fun t15_2 w19 =>
      Run Tryz.prog (sOp (.pick (.const t10_2) (.const t15_2) (.const (Value.bool false))) 4) w19 fun t16_3 w20 =>
      R (.returned t16_3) w20) (
      Run Tryz.prog (sOp (.pick (.const t10_2) (.const undef) (.const (Value.bool false))) 4) w15 fun t16_4 w21 =>
      R (.returned t16_4) w21))
theorem calls_s_l4Cut {p0 : Value} {w : World} {R : Ending → World → Prop} (h : sh_s_l4Cut p0 w R) : Calls Tryz.prog 102 #[p0] w R :=
  calls_sh .leaf [p0] mixed Tryz.func102 (by kernel_rfl) (by kernel_rfl) h


/- loop.example/prologserver/spec.l1Own : function 103 -/
def sh_s_l1Own (p0 : Value) (w : World) (R : Ending → World → Prop) : Prop :=
  Run Tryz.prog (sOp (.box 47 (.const p0)) 0) w fun t1 w1 =>
  Run Tryz.prog (sOp (.fieldAddr 47 (.const t1) 0) 0) w1 fun t3 w2 =>
  Run Tryz.prog (sOp (.load 3 (.const t3)) 3) w2 fun t4 w3 =>
  Run Tryz.prog (sBin .eql 3 false true t4 (Value.int .i64 1)) w3 fun t6 w4 =>
  CondV t6 (
    Run Tryz.prog (sOp (.fieldAddr 47 (.const t1) 1) 0) w4 fun t7 w5 =>
    Run Tryz.prog (sOp (.load 3 (.const t7)) 3) w5 fun t8 w6 =>
    Run Tryz.prog (sBin .geq 3 false true t8 (Value.int .i64 0)) w6 fun t9 w7 =>
    GuardV t9 true (
      Run Tryz.prog (sOp (.fieldAddr 47 (.const t1) 1) 0) w7 fun t11 w8 =>
      Run Tryz.prog (sOp (.load 3 (.const t11)) 3) w8 fun t12 w9 =>
      Run Tryz.prog (sBin .leq 3 false true t12 (Value.int .i64 25)) w9 fun t13 w10 =>
      Run Tryz.prog (sOp (.pick (.const t9) (.const t13) (.const (Value.bool false))) 4) w10 fun t14 w11 =>
      GuardV t14 true (
        Run Tryz.prog (sOp (.fieldAddr 47 (.const t1) 2) 0) w11 fun t16 w12 =>
        Run Tryz.prog (sOp (.load 9 (.const t16)) 9) w12 fun t17 w13 =>
        Run Tryz.prog (sBin .eql 9 false true t17 (Value.string ⟨#[]⟩)) w13 fun t18 w14 =>
        Run Tryz.prog (sOp (.pick (.const t14) (.const t18) (.const (Value.bool false))) 4) w14 fun t19 w15 =>
        GuardV t19 true (
          Run Tryz.prog (sOp (.fieldAddr 47 (.const t1) 3) 0) w15 fun t21 w16 =>
          Run Tryz.prog (sOp (.load 29 (.const t21)) 29) w16 fun t22 w17 =>
          Run Tryz.prog (sBuiltin .len #[29] 3 [false] [t22]) w17 fun t23 w18 =>
          Run Tryz.prog (sBin .eql 3 false true t23 (Value.int .i64 0)) w18 fun t24 w19 =>
          Run Tryz.prog (sOp (.pick (.const t19) (.const t24) (.const (Value.bool false))) 4) w19 fun t25 w20 =>
          R (.returned t25) w20) (
          Run Tryz.prog (sOp (.pick (.const t19) (.const undef) (.const (Value.bool false))) 4) w15 fun t25_2 w21 =>
          R (.returned t25_2) w21)) (
        Run Tryz.prog (sOp (.pick (.const t14) (.const undef) (.const (Value.bool false))) 4) w11 fun t19_2 w22 =>
        GuardV t19_2 true (
          Run Tryz.prog (sOp (.fieldAddr 47 (.const t1) 3) 0) w22 fun t21_2 w23 =>
          Run Tryz.prog (sOp (.load 29 (.const t21_2)) 29) w23 fun t22_2 w24 =>
          Run Tryz.prog (sBuiltin .len #[29] 3 [false] [t22_2]) w24 fun t23_2 w25 =>
          Run Tryz.prog (sBin .eql 3 false true t23_2 (Value.int .i64 0)) w25 fun t24_2 w26 =>
          Run Tryz.prog (sOp (.pick (.const t19_2) (.const t24_2) (.const (Value.bool false))) 4) w26 fun t25_3 w27 =>
          R (.returned t25_3) w27) (
          Run Tryz.prog (sOp (.pick (.const t19_2) (.const undef) (.const (Value.bool false))) 4) w22 fun t25_4 w28 =>
          R (.returned t25_4) w28))) (
      Run Tryz.prog (sOp (.pick (.const t9) (.const undef) (.const (Value.bool false))) 4) w7 fun t14_2 w29 =>
      GuardV t14_2 true (
        Run Tryz.prog (sOp (.fieldAddr 47 (.const t1) 2) 0) w29 fun t16_2 w30 =>
        Run Tryz.prog (sOp (.load 9 (.const t16_2)) 9) w30 fun t17_2 w31 =>
        Run Tryz.prog (sBin .eql 9 false true t17_2 (Value.string ⟨#[]⟩)) w31 fun t18_2 w32 =>
        Run Tryz.prog (sOp (.pick (.const t14_2) (.const t18_2) (.const (Value.bool false))) 4) w32 fun t19_3 w33 =>
        GuardV t19_3 true (
          Run Tryz.prog (sOp (.fieldAddr 47 (.const t1) 3) 0) w33 fun t21_3 w34 =>
          Run Tryz.prog (sOp (.load 29 (.const t21_3)) 29) w34 fun t22_3 w35 =>
          Run Tryz.prog (sBuiltin .len #[29] 3 [false] [t22_3]) w35 fun t23_3 w36 =>
          Run Tryz.prog (sBin .eql 3 false true t23_3 (Value.int .i64 0)) w36 fun t24_3 w37 =>
          Run Tryz.prog (sOp (.pick (.const t19_3) (.const t24_3) (.const (Value.bool false))) 4) w37 fun t25_5 w38 =>
          R (.returned t25_5) w38) (
          Run Tryz.prog (sOp (.pick (.const t19_3) (.const undef) (.const (Value.bool false))) 4) w33 fun t25_6 w39 =>
          R (.returned t25_6) w39)) (
        Run Tryz.prog (sOp (.pick (.const t14_2) (.const undef) (.const (Value.bool false))) 4) w29 fun t19_4 w40 =>
        GuardV t19_4 true (
          Run Tryz.prog (sOp (.fieldAddr 47 (.const t1) 3) 0) w40 fun t21_4 w41 =>
          Run Tryz.prog (sOp (.load 29 (.const t21_4)) 29) w41 fun t22_4 w42 =>
          Run Tryz.prog (sBuiltin .len #[29] 3 [false] [t22_4]) w42 fun t23_4 w43 =>
          Run Tryz.prog (sBin .eql 3 false true t23_4 (Value.int .i64 0)) w43 fun t24_4 w44 =>
          Run Tryz.prog (sOp (.pick (.const t19_4) (.const t24_4) (.const (Value.bool false))) 4) w44 fun t25_7 w45 =>
          R (.returned t25_7) w45) (
          Run Tryz.prog (sOp (.pick (.const t19_4) (.const undef) (.const (Value.bool false))) 4) w40 fun t25_8 w46 =>
          R (.returned t25_8) w46)))) (
    Run Tryz.prog (sBin .eql 3 false true t4 (Value.int .i64 2)) w4 fun t27 w47 =>
    CondV t27 (
      Run Tryz.prog (sOp (.fieldAddr 47 (.const t1) 1) 0) w47 fun t28 w48 =>
      Run Tryz.prog (sOp (.load 3 (.const t28)) 3) w48 fun t29 w49 =>
      Run Tryz.prog (sBin .geq 3 false true t29 (Value.int .i64 (-999))) w49 fun t30 w50 =>
      GuardV t30 true (
        Run Tryz.prog (sOp (.fieldAddr 47 (.const t1) 1) 0) w50 fun t32 w51 =>
        Run Tryz.prog (sOp (.load 3 (.const t32)) 3) w51 fun t33 w52 =>
        Run Tryz.prog (sBin .leq 3 false true t33 (Value.int .i64 999)) w52 fun t34 w53 =>
        Run Tryz.prog (sOp (.pick (.const t30) (.const t34) (.const (Value.bool false))) 4) w53 fun t35 w54 =>
        GuardV t35 true (
          Run Tryz.prog (sOp (.fieldAddr 47 (.const t1) 2) 0) w54 fun t37 w55 =>
          Run Tryz.prog (sOp (.load 9 (.const t37)) 9) w55 fun t38 w56 =>
          Run Tryz.prog (sBin .eql 9 false true t38 (Value.string ⟨#[]⟩)) w56 fun t39 w57 =>
          Run Tryz.prog (sOp (.pick (.const t35) (.const t39) (.const (Value.bool false))) 4) w57 fun t40 w58 =>
          GuardV t40 true (
            Run Tryz.prog (sOp (.fieldAddr 47 (.const t1) 3) 0) w58 fun t42 w59 =>
            Run Tryz.prog (sOp (.load 29 (.const t42)) 29) w59 fun t43 w60 =>
            Run Tryz.prog (sBuiltin .len #[29] 3 [false] [t43]) w60 fun t44 w61 =>
            Run Tryz.prog (sBin .eql 3 false true t44 (Value.int .i64 0)) w61 fun t45 w62 =>
            Run Tryz.prog (sOp (.pick (.const t40) (.const t45) (.const (Value.bool false))) 4) w62 fun t46 w63 =>
            R (.returned t46) w63) (
            Run Tryz.prog (sOp (.pick (.const t40) (.const undef) (.const (Value.bool false))) 4) w58 fun t46_2 w64 =>
            R (.returned t46_2) w64)) (
          Run Tryz.prog (sOp (.pick (.const t35) (.const undef) (.const (Value.bool false))) 4) w54 fun t40_2 w65 =>
          GuardV t40_2 true (
            Run Tryz.prog (sOp (.fieldAddr 47 (.const t1) 3) 0) w65 fun t42_2 w66 =>
            Run Tryz.prog (sOp (.load 29 (.const t42_2)) 29) w66 fun t43_2 w67 =>
            Run Tryz.prog (sBuiltin .len #[29] 3 [false] [t43_2]) w67 fun t44_2 w68 =>
            Run Tryz.prog (sBin .eql 3 false true t44_2 (Value.int .i64 0)) w68 fun t45_2 w69 =>
            Run Tryz.prog (sOp (.pick (.const t40_2) (.const t45_2) (.const (Value.bool false))) 4) w69 fun t46_3 w70 =>
            R (.returned t46_3) w70) (
            Run Tryz.prog (sOp (.pick (.const t40_2) (.const undef) (.const (Value.bool false))) 4) w65 fun t46_4 w71 =>
            R (.returned t46_4) w71))) (
        Run Tryz.prog (sOp (.pick (.const t30) (.const undef) (.const (Value.bool false))) 4) w50 fun t35_2 w72 =>
        GuardV t35_2 true (
          Run Tryz.prog (sOp (.fieldAddr 47 (.const t1) 2) 0) w72 fun t37_2 w73 =>
          Run Tryz.prog (sOp (.load 9 (.const t37_2)) 9) w73 fun t38_2 w74 =>
          Run Tryz.prog (sBin .eql 9 false true t38_2 (Value.string ⟨#[]⟩)) w74 fun t39_2 w75 =>
          Run Tryz.prog (sOp (.pick (.const t35_2) (.const t39_2) (.const (Value.bool false))) 4) w75 fun t40_3 w76 =>
          GuardV t40_3 true (
            Run Tryz.prog (sOp (.fieldAddr 47 (.const t1) 3) 0) w76 fun t42_3 w77 =>
            Run Tryz.prog (sOp (.load 29 (.const t42_3)) 29) w77 fun t43_3 w78 =>
            Run Tryz.prog (sBuiltin .len #[29] 3 [false] [t43_3]) w78 fun t44_3 w79 =>
            Run Tryz.prog (sBin .eql 3 false true t44_3 (Value.int .i64 0)) w79 fun t45_3 w80 =>
            Run Tryz.prog (sOp (.pick (.const t40_3) (.const t45_3) (.const (Value.bool false))) 4) w80 fun t46_5 w81 =>
            R (.returned t46_5) w81) (
            Run Tryz.prog (sOp (.pick (.const t40_3) (.const undef) (.const (Value.bool false))) 4) w76 fun t46_6 w82 =>
            R (.returned t46_6) w82)) (
          Run Tryz.prog (sOp (.pick (.const t35_2) (.const undef) (.const (Value.bool false))) 4) w72 fun t40_4 w83 =>
          GuardV t40_4 true (
            Run Tryz.prog (sOp (.fieldAddr 47 (.const t1) 3) 0) w83 fun t42_4 w84 =>
            Run Tryz.prog (sOp (.load 29 (.const t42_4)) 29) w84 fun t43_4 w85 =>
            Run Tryz.prog (sBuiltin .len #[29] 3 [false] [t43_4]) w85 fun t44_4 w86 =>
            Run Tryz.prog (sBin .eql 3 false true t44_4 (Value.int .i64 0)) w86 fun t45_4 w87 =>
            Run Tryz.prog (sOp (.pick (.const t40_4) (.const t45_4) (.const (Value.bool false))) 4) w87 fun t46_7 w88 =>
            R (.returned t46_7) w88) (
            Run Tryz.prog (sOp (.pick (.const t40_4) (.const undef) (.const (Value.bool false))) 4) w83 fun t46_8 w89 =>
            R (.returned t46_8) w89)))) (
      Run Tryz.prog (sBin .eql 3 false true t4 (Value.int .i64 3)) w47 fun t48 w90 =>
      CondV t48 (
        Run Tryz.prog (sOp (.fieldAddr 47 (.const t1) 1) 0) w90 fun t49 w91 =>
        Run Tryz.prog (sOp (.load 3 (.const t49)) 3) w91 fun t50 w92 =>
        Run Tryz.prog (sBin .eql 3 false true t50 (Value.int .i64 0)) w92 fun t51 w93 =>
        GuardV t51 true (
          Run Tryz.prog (sOp (.fieldAddr 47 (.const t1) 2) 0) w93 fun t53 w94 =>
          Run Tryz.prog (sOp (.load 9 (.const t53)) 9) w94 fun t54 w95 =>
          Run Tryz.prog (sCall (Value.func (.func 117) #[] #[]) [t54]) w95 fun t55 w96 =>
          Run Tryz.prog (sOp (.pick (.const t51) (.const t55) (.const (Value.bool false))) 4) w96 fun t56 w97 =>
          GuardV t56 true (
            Run Tryz.prog (sOp (.fieldAddr 47 (.const t1) 3) 0) w97 fun t58 w98 =>
            Run Tryz.prog (sOp (.load 29 (.const t58)) 29) w98 fun t59 w99 =>
            Run Tryz.prog (sBuiltin .len #[29] 3 [false] [t59]) w99 fun t60 w100 =>
            Run Tryz.prog (sBin .leq 3 false true t60 (Value.int .i64 4)) w100 fun t61 w101 =>
            Run Tryz.prog (sOp (.pick (.const t56) (.const t61) (.const (Value.bool false))) 4) w101 fun t62 w102 =>
            R (.returned t62) w102) (
            Run Tryz.prog (sOp (.pick (.const t56) (.const undef) (.const (Value.bool false))) 4) w97 fun t62_2 w103 =>
            R (.returned t62_2) w103)) (
          Run Tryz.prog (sOp (.pick (.const t51) (.const undef) (.const (Value.bool false))) 4) w93 fun t56_2 w104 =>
          GuardV t56_2 true (
            Run Tryz.prog (sOp (.fieldAddr 47 (.const t1) 3) 0) w104 fun t58_2 w105 =>
            Run Tryz.prog (sOp (.load 29 (.const t58_2)) 29) w105 fun t59_2 w106 =>
            Run Tryz.prog (sBuiltin .len #[29] 3 [false] [t59_2]) w106 fun t60_2 w107 =>
            Run Tryz.prog (sBin .leq 3 false true t60_2 (Value.int .i64 4)) w107 fun t61_2 w108 =>
            Run Tryz.prog (sOp (.pick (.const t56_2) (.const t61_2) (.const (Value.bool false))) 4) w108 fun t62_3 w109 =>
            R (.returned t62_3) w109) (
            Run Tryz.prog (sOp (.pick (.const t56_2) (.const undef) (.const (Value.bool false))) 4) w104 fun t62_4 w110 =>
            R (.returned t62_4) w110))) (
        R (.returned (Value.bool false)) w90)))
theorem calls_s_l1Own {p0 : Value} {w : World} {R : Ending → World → Prop} (h : sh_s_l1Own p0 w R) : Calls Tryz.prog 103 #[p0] w R :=
  calls_sh .leaf [p0] mixed Tryz.func103 (by kernel_rfl) (by kernel_rfl) h


/- loop.example/prologserver/spec.l1Rank : function 104 -/
def sh_s_l1Rank (p0 : Value) (w : World) (R : Ending → World → Prop) : Prop :=
  Run Tryz.prog (sOp (.box 47 (.const p0)) 0) w fun t1 w1 =>
  (∃ J2 : Value → World → Prop, (
    Run Tryz.prog (sOp (.fieldAddr 47 (.const t1) 0) 0) w1 fun t3 w3 =>
    Run Tryz.prog (sOp (.load 3 (.const t3)) 3) w3 fun t4 w4 =>
    Run Tryz.prog (sBin .eql 3 false true t4 (Value.int .i64 3)) w4 fun t5 w5 =>
    GuardV t5 true (
      Run Tryz.prog (sOp (.fieldAddr 47 (.const t1) 3) 0) w5 fun t7 w6 =>
      Run Tryz.prog (sOp (.load 29 (.const t7)) 29) w6 fun t8 w7 =>
      Run Tryz.prog (sBuiltin .len #[29] 3 [false] [t8]) w7 fun t9 w8 =>
      Run Tryz.prog (sBin .gtr 3 false true t9 (Value.int .i64 0)) w8 fun t10 w9 =>
      Run Tryz.prog (sOp (.pick (.const t5) (.const t10) (.const (Value.bool false))) 4) w9 fun t11 w10 =>
      J2 t11 w10) (
      Run Tryz.prog (sOp (.pick (.const t5) (.const undef) (.const (Value.bool false))) 4) w5 fun t11_2 w11 =>
      J2 t11_2 w11)) ∧
  ∀ t11_3 _ _ _ _ _ _ _ _ : Value, ∀ w12 : World, J2 t11_3 w12 →
  CondV t11_3 (
    R (.returned (Value.int .i64 4)) w12) (
    Run Tryz.prog (sOp (.fieldAddr 47 (.const t1) 0) 0) w12 fun t12 w13 =>
  Run Tryz.prog (sOp (.load 3 (.const t12)) 3) w13 fun t13 w14 =>
  R (.returned t13) w14))
theorem calls_s_l1Rank {p0 : Value} {w : World} {R : Ending → World → Prop} (h : sh_s_l1Rank p0 w R) : Calls Tryz.prog 104 #[p0] w R :=
  calls_sh (.seq none .leaf (.seq none (.seq (some [11]) .leaf .leaf) .leaf)) [p0] mixed Tryz.func104 (by kernel_rfl) (by kernel_rfl) h


/- loop.example/prologserver/spec.l1Less : function 105 -/
def sh_s_l1Less (p0 p1 : Value) (w : World) (R : Ending → World → Prop) : Prop :=
  Run Tryz.prog (sBin .lss 3 false false p0 p1) w fun t7 w1 =>
  CondV t7 (
    R (.returned (Value.int .i64 (-1))) w1) (
    Run Tryz.prog (sBin .gtr 3 false false p0 p1) w1 fun t10 w2 =>
  CondV t10 (
    R (.returned (Value.int .i64 1)) w2) (
    R (.returned (Value.int .i64 0)) w2))
theorem calls_s_l1Less {p0 p1 : Value} {w : World} {R : Ending → World → Prop} (h : sh_s_l1Less p0 p1 w R) : Calls Tryz.prog 105 #[p0, p1] w R :=
  calls_sh .leaf [p0, p1] mixed Tryz.func105 (by kernel_rfl) (by kernel_rfl) h


/- loop.example/prologserver/spec.l1Before : function 106 -/
def sh_s_l1Before (p0 p1 : Value) (w : World) (R : Ending → World → Prop) : Prop :=
  Run Tryz.prog (sBin .lss 9 false false p0 p1) w fun t7 w1 =>
  CondV t7 (
    R (.returned (Value.int .i64 (-1))) w1) (
    Run Tryz.prog (sBin .gtr 9 false false p0 p1) w1 fun t10 w2 =>
  CondV t10 (
    R (.returned (Value.int .i64 1)) w2) (
    R (.returned (Value.int .i64 0)) w2))
theorem calls_s_l1Before {p0 p1 : Value} {w : World} {R : Ending → World → Prop} (h : sh_s_l1Before p0 p1 w R) : Calls Tryz.prog 106 #[p0, p1] w R :=
  calls_sh .leaf [p0, p1] mixed Tryz.func106 (by kernel_rfl) (by kernel_rfl) h


/- loop.example/prologserver/impl.scan : function 107 -/
def sh_i_scan (p0 p1 p2 : Value) (w : World) (R : Ending → World → Prop) : Prop :=
  Run Tryz.prog (sOp (.box 47 (.const p0)) 0) w fun t3 w1 =>
  Run Tryz.prog (sOp (.box 3 (.const p1)) 0) w1 fun t4 w2 =>
  Run Tryz.prog (sOp (.box 112 (.const p2)) 0) w2 fun t5 w3 =>
  Run Tryz.prog (sOp (.load 112 (.const t5)) 112) w3 fun t7 w4 =>
  Run Tryz.prog (sOp (.nilCheck (.const t7)) 0) w4 fun t8 w5 =>
  Run Tryz.prog (sOp (.load 3 (.const t8)) 3) w5 fun t9 w6 =>
  Run Tryz.prog (sBin .add 3 false true t9 (Value.int .i64 1)) w6 fun t10 w7 =>
  Run Tryz.prog (sOp (.nilCheck (.const t7)) 0) w7 fun t11 w8 =>
  Run Tryz.prog (sOp (.store 3 (.const t11) (.const t10)) 0) w8 fun _ w9 =>
  (∃ J10 : Value → World → Prop, (
    Run Tryz.prog (sOp (.load 112 (.const t5)) 112) w9 fun t12 w11 =>
    Run Tryz.prog (sOp (.nilCheck (.const t12)) 0) w11 fun t13 w12 =>
    Run Tryz.prog (sOp (.load 3 (.const t13)) 3) w12 fun t14 w13 =>
    Run Tryz.prog (sBin .gtr 3 false true t14 (Value.int .i64 120)) w13 fun t15 w14 =>
    GuardV t15 false (
      Run Tryz.prog (sOp (.load 3 (.const t4)) 3) w14 fun t17 w15 =>
      Run Tryz.prog (sBin .gtr 3 false true t17 (Value.int .i64 30)) w15 fun t18 w16 =>
      Run Tryz.prog (sOp (.pick (.const t15) (.const (Value.bool true)) (.const t18)) 4) w16 fun t19 w17 =>
      J10 t19 w17) (
      Run Tryz.prog (sOp (.pick (.const t15) (.const (Value.bool true)) (.const undef)) 4) w14 fun t19_2 w18 =>
      J10 t19_2 w18)) ∧
  ∀ t19_3 _ _ _ _ _ _ _ : Value, ∀ w19 : World, J10 t19_3 w19 →
  CondV t19_3 (
    R (.returned (Value.bool false)) w19) (
    Run Tryz.prog (sOp (.fieldAddr 47 (.const t3) 0) 0) w19 fun t20 w20 =>
  Run Tryz.prog (sOp (.load 3 (.const t20)) 3) w20 fun t21 w21 =>
  Run Tryz.prog (sBin .eql 3 false true t21 (Value.int .i64 1)) w21 fun t23 w22 =>
  CondV t23 (
    Run Tryz.prog (sOp (.fieldAddr 47 (.const t3) 1) 0) w22 fun t24 w23 =>
    Run Tryz.prog (sOp (.load 3 (.const t24)) 3) w23 fun t25 w24 =>
    Run Tryz.prog (sCall (Value.func (.func 118) #[] #[]) [t25, (Value.int .i64 0), (Value.int .i64 25)]) w24 fun t26 w25 =>
    GuardV t26 true (
      Run Tryz.prog (sOp (.fieldAddr 47 (.const t3) 2) 0) w25 fun t28 w26 =>
      Run Tryz.prog (sOp (.load 9 (.const t28)) 9) w26 fun t29 w27 =>
      Run Tryz.prog (sBin .eql 9 false true t29 (Value.string ⟨#[]⟩)) w27 fun t30 w28 =>
      Run Tryz.prog (sOp (.pick (.const t26) (.const t30) (.const (Value.bool false))) 4) w28 fun t31 w29 =>
      GuardV t31 true (
        Run Tryz.prog (sOp (.fieldAddr 47 (.const t3) 3) 0) w29 fun t33 w30 =>
        Run Tryz.prog (sOp (.load 29 (.const t33)) 29) w30 fun t34 w31 =>
        Run Tryz.prog (sBuiltin .len #[29] 3 [false] [t34]) w31 fun t35 w32 =>
        Run Tryz.prog (sBin .eql 3 false true t35 (Value.int .i64 0)) w32 fun t36 w33 =>
        Run Tryz.prog (sOp (.pick (.const t31) (.const t36) (.const (Value.bool false))) 4) w33 fun t37 w34 =>
        R (.returned t37) w34) (
        Run Tryz.prog (sOp (.pick (.const t31) (.const undef) (.const (Value.bool false))) 4) w29 fun t37_2 w35 =>
        R (.returned t37_2) w35)) (
      Run Tryz.prog (sOp (.pick (.const t26) (.const undef) (.const (Value.bool false))) 4) w25 fun t31_2 w36 =>
      GuardV t31_2 true (
        Run Tryz.prog (sOp (.fieldAddr 47 (.const t3) 3) 0) w36 fun t33_2 w37 =>
        Run Tryz.prog (sOp (.load 29 (.const t33_2)) 29) w37 fun t34_2 w38 =>
        Run Tryz.prog (sBuiltin .len #[29] 3 [false] [t34_2]) w38 fun t35_2 w39 =>
        Run Tryz.prog (sBin .eql 3 false true t35_2 (Value.int .i64 0)) w39 fun t36_2 w40 =>
        Run Tryz.prog (sOp (.pick (.const t31_2) (.const t36_2) (.const (Value.bool false))) 4) w40 fun t37_3 w41 =>
        R (.returned t37_3) w41) (
        Run Tryz.prog (sOp (.pick (.const t31_2) (.const undef) (.const (Value.bool false))) 4) w36 fun t37_4 w42 =>
        R (.returned t37_4) w42))) (
    Run Tryz.prog (sBin .eql 3 false true t21 (Value.int .i64 2)) w22 fun t39 w43 =>
    CondV t39 (
      Run Tryz.prog (sOp (.fieldAddr 47 (.const t3) 1) 0) w43 fun t40 w44 =>
      Run Tryz.prog (sOp (.load 3 (.const t40)) 3) w44 fun t41 w45 =>
      Run Tryz.prog (sCall (Value.func (.func 118) #[] #[]) [t41, (Value.int .i64 (-999)), (Value.int .i64 999)]) w45 fun t42 w46 =>
      GuardV t42 true (
        Run Tryz.prog (sOp (.fieldAddr 47 (.const t3) 2) 0) w46 fun t44 w47 =>
        Run Tryz.prog (sOp (.load 9 (.const t44)) 9) w47 fun t45 w48 =>
        Run Tryz.prog (sBin .eql 9 false true t45 (Value.string ⟨#[]⟩)) w48 fun t46 w49 =>
        Run Tryz.prog (sOp (.pick (.const t42) (.const t46) (.const (Value.bool false))) 4) w49 fun t47 w50 =>
        GuardV t47 true (
          Run Tryz.prog (sOp (.fieldAddr 47 (.const t3) 3) 0) w50 fun t49 w51 =>
          Run Tryz.prog (sOp (.load 29 (.const t49)) 29) w51 fun t50 w52 =>
          Run Tryz.prog (sBuiltin .len #[29] 3 [false] [t50]) w52 fun t51 w53 =>
          Run Tryz.prog (sBin .eql 3 false true t51 (Value.int .i64 0)) w53 fun t52 w54 =>
          Run Tryz.prog (sOp (.pick (.const t47) (.const t52) (.const (Value.bool false))) 4) w54 fun t53 w55 =>
          R (.returned t53) w55) (
          Run Tryz.prog (sOp (.pick (.const t47) (.const undef) (.const (Value.bool false))) 4) w50 fun t53_2 w56 =>
          R (.returned t53_2) w56)) (
        Run Tryz.prog (sOp (.pick (.const t42) (.const undef) (.const (Value.bool false))) 4) w46 fun t47_2 w57 =>
        GuardV t47_2 true (
          Run Tryz.prog (sOp (.fieldAddr 47 (.const t3) 3) 0) w57 fun t49_2 w58 =>
          Run Tryz.prog (sOp (.load 29 (.const t49_2)) 29) w58 fun t50_2 w59 =>
          Run Tryz.prog (sBuiltin .len #[29] 3 [false] [t50_2]) w59 fun t51_2 w60 =>
          Run Tryz.prog (sBin .eql 3 false true t51_2 (Value.int .i64 0)) w60 fun t52_2 w61 =>
          Run Tryz.prog (sOp (.pick (.const t47_2) (.const t52_2) (.const (Value.bool false))) 4) w61 fun t53_3 w62 =>
          R (.returned t53_3) w62) (
          Run Tryz.prog (sOp (.pick (.const t47_2) (.const undef) (.const (Value.bool false))) 4) w57 fun t53_4 w63 =>
          R (.returned t53_4) w63))) (
      Run Tryz.prog (sBin .eql 3 false true t21 (Value.int .i64 3)) w43 fun t55 w64 =>
      CondV t55 (
        (∃ J65 : Value → World → Prop, (
          Run Tryz.prog (sOp (.fieldAddr 47 (.const t3) 1) 0) w64 fun t56 w66 =>
          Run Tryz.prog (sOp (.load 3 (.const t56)) 3) w66 fun t57 w67 =>
          Run Tryz.prog (sBin .neq 3 false true t57 (Value.int .i64 0)) w67 fun t58 w68 =>
          GuardV t58 false (
            Run Tryz.prog (sOp (.fieldAddr 47 (.const t3) 2) 0) w68 fun t60 w69 =>
            Run Tryz.prog (sOp (.load 9 (.const t60)) 9) w69 fun t61 w70 =>
            Run Tryz.prog (sCall (Value.func (.func 119) #[] #[]) [t61]) w70 fun t62 w71 =>
            Run Tryz.prog (sOp (.unOp .not 4 (.const t62)) 4) w71 fun t63 w72 =>
            Run Tryz.prog (sOp (.pick (.const t58) (.const (Value.bool true)) (.const t63)) 4) w72 fun t64 w73 =>
            GuardV t64 false (
              Run Tryz.prog (sOp (.fieldAddr 47 (.const t3) 3) 0) w73 fun t66 w74 =>
              Run Tryz.prog (sOp (.load 29 (.const t66)) 29) w74 fun t67 w75 =>
              Run Tryz.prog (sBuiltin .len #[29] 3 [false] [t67]) w75 fun t68 w76 =>
              Run Tryz.prog (sBin .gtr 3 false true t68 (Value.int .i64 4)) w76 fun t69 w77 =>
              Run Tryz.prog (sOp (.pick (.const t64) (.const (Value.bool true)) (.const t69)) 4) w77 fun t70 w78 =>
              J65 t70 w78) (
              Run Tryz.prog (sOp (.pick (.const t64) (.const (Value.bool true)) (.const undef)) 4) w73 fun t70_2 w79 =>
              J65 t70_2 w79)) (
            Run Tryz.prog (sOp (.pick (.const t58) (.const (Value.bool true)) (.const undef)) 4) w68 fun t64_2 w80 =>
            GuardV t64_2 false (
              Run Tryz.prog (sOp (.fieldAddr 47 (.const t3) 3) 0) w80 fun t66_2 w81 =>
              Run Tryz.prog (sOp (.load 29 (.const t66_2)) 29) w81 fun t67_2 w82 =>
              Run Tryz.prog (sBuiltin .len #[29] 3 [false] [t67_2]) w82 fun t68_2 w83 =>
              Run Tryz.prog (sBin .gtr 3 false true t68_2 (Value.int .i64 4)) w83 fun t69_2 w84 =>
              Run Tryz.prog (sOp (.pick (.const t64_2) (.const (Value.bool true)) (.const t69_2)) 4) w84 fun t70_3 w85 =>
              J65 t70_3 w85) (
              Run Tryz.prog (sOp (.pick (.const t64_2) (.const (Value.bool true)) (.const undef)) 4) w80 fun t70_4 w86 =>
              J65 t70_4 w86))) ∧
        ∀ t70_5 _ _ _ _ _ _ _ _ _ _ _ _ _ _ : Value, ∀ w87 : World, J65 t70_5 w87 →
        CondV t70_5 (
          R (.returned (Value.bool false)) w87) (
          Run Tryz.prog (sOp (.fieldAddr 47 (.const t3) 3) 0) w87 fun t71 w88 =>
        Run Tryz.prog (sOp (.load 29 (.const t71)) 29) w88 fun t72 w89 =>
        Run Tryz.prog (sMakeFunc (.func 120) [] [t4, t5]) w89 fun t73 w90 =>
        Run Tryz.prog (sCall (Value.func (.func 63) #[] #[]) [t72, t73]) w90 fun t74 w91 =>
        Run Tryz.prog (sOp (.unOp .not 4 (.const t74)) 4) w91 fun t75 w92 =>
        R (.returned t75) w92))) (
        R (.returned (Value.bool false)) w64)))))
theorem calls_i_scan {p0 p1 p2 : Value} {w : World} {R : Ending → World → Prop} (h : sh_i_scan p0 p1 p2 w R) : Calls Tryz.prog 107 #[p0, p1, p2] w R :=
  calls_sh (.seq none .leaf (.seq none .leaf (.seq none (.seq (some [19]) .leaf .leaf) (.seq none (.seq none .leaf (.one (.seq none .leaf (.two .leaf (.seq none .leaf (.two .leaf (.seq none .leaf (.two (.seq none (.seq (some [70]) .leaf .leaf) .leaf) .leaf)))))))) .leaf)))) [p0, p1, p2] mixed Tryz.func107 (by kernel_rfl) (by kernel_rfl) h


/- loop.example/prologserver/impl.isLetters : function 108 -/
def sh_i_isLetters (p0 : Value) (w : World) (R : Ending → World → Prop) : Prop :=
  Run Tryz.prog (sBuiltin .len #[9] 3 [false] [p0]) w fun t5 w1 =>
  (∃ (I2 : Value → World → Prop) (m3 : Value → World → Nat), I2 (Value.int .i64 0) w1 ∧
  ∀ t6 _ _ _ _ _ _ _ _ _ _ _ _ _ _ _ : Value, ∀ w4 : World, I2 t6 w4 →
  Run Tryz.prog (sBin .lss 3 false false t6 t5) w4 fun t7_2 w5 =>
  CondV t7_2 (
    (∃ J6 : Value → World → Prop, (
    Run Tryz.prog (sOp (.index 9 (.const p0) (.const t6)) 5) w5 fun t11_2 w7 =>
    Run Tryz.prog (sBin .lss 5 false true t11_2 (Value.int .u8 97)) w7 fun t12_2 w8 =>
    GuardV t12_2 false (
      Run Tryz.prog (sOp (.index 9 (.const p0) (.const t6)) 5) w8 fun t16_2 w9 =>
      Run Tryz.prog (sBin .gtr 5 false true t16_2 (Value.int .u8 122)) w9 fun t17_2 w10 =>
      Run Tryz.prog (sOp (.pick (.const t12_2) (.const (Value.bool true)) (.const t17_2)) 4) w10 fun t18_2 w11 =>
      J6 t18_2 w11) (
      Run Tryz.prog (sOp (.pick (.const t12_2) (.const (Value.bool true)) (.const undef)) 4) w8 fun t18_3 w12 =>
      J6 t18_3 w12)) ∧
  ∀ t18_4 _ _ _ _ _ _ _ _ _ : Value, ∀ w13 : World, J6 t18_4 w13 →
  CondV t18_4 (
    R (.returned (Value.bool false)) w13) (
    Run Tryz.prog (sBin .add 3 false true t6 (Value.int .i64 1)) w13 fun t19_2 w14 =>
  I2 t19_2 w14 ∧ m3 t19_2 w14 < m3 t6 w4))) (
    Run Tryz.prog (sBuiltin .len #[9] 3 [false] [p0]) w5 fun t21 w15 =>
  Run Tryz.prog (sCall (Value.func (.func 118) #[] #[]) [t21, (Value.int .i64 1), (Value.int .i64 6)]) w15 fun t22 w16 =>
  R (.returned t22) w16))
theorem calls_i_isLetters {p0 : Value} {w : World} {R : Ending → World → Prop} (h : sh_i_isLetters p0 w R) : Calls Tryz.prog 108 #[p0] w R :=
  calls_sh (.seq none .leaf (.seq none (.seq none .leaf (.one (.loop [6] (.seq none .leaf (.seq none .leaf (.seq none (.one (.seq none .leaf (.seq (some [18]) .leaf .leaf))) .leaf)))))) .leaf)) [p0] mixed Tryz.func108 (by kernel_rfl) (by kernel_rfl) h


/- loop.example/prologserver/impl.isOp : function 109 -/
def sh_i_isOp (p0 : Value) (w : World) (R : Ending → World → Prop) : Prop :=
  Run Tryz.prog (sCall (Value.func (.func 121) #[] #[]) [p0]) w fun t7 w1 =>
  Run Tryz.prog (sOp (.extract (.const t7) 0) 3) w1 fun t8 w2 =>
  Run Tryz.prog (sOp (.extract (.const t7) 1) 4) w2 fun _ w3 =>
  Run Tryz.prog (sBin .gtr 3 false true t8 (Value.int .i64 0)) w3 fun t11 w4 =>
  R (.returned t11) w4
theorem calls_i_isOp {p0 : Value} {w : World} {R : Ending → World → Prop} (h : sh_i_isOp p0 w R) : Calls Tryz.prog 109 #[p0] w R :=
  calls_sh .leaf [p0] mixed Tryz.func109 (by kernel_rfl) (by kernel_rfl) h


/- loop.example/prologserver/impl.isBuilt : function 110 -/
def sh_i_isBuilt (p0 : Value) (w : World) (R : Ending → World → Prop) : Prop :=
  Run Tryz.prog (sOp (.box 47 (.const p0)) 0) w fun t1 w1 =>
  Run Tryz.prog (sOp (.fieldAddr 47 (.const t1) 0) 0) w1 fun t3 w2 =>
  Run Tryz.prog (sOp (.load 3 (.const t3)) 3) w2 fun t4 w3 =>
  Run Tryz.prog (sBin .eql 3 false true t4 (Value.int .i64 3)) w3 fun t5 w4 =>
  GuardV t5 true (
    Run Tryz.prog (sOp (.fieldAddr 47 (.const t1) 2) 0) w4 fun t7 w5 =>
    Run Tryz.prog (sOp (.load 9 (.const t7)) 9) w5 fun t8 w6 =>
    Run Tryz.prog (sOp (.fieldAddr 47 (.const t1) 3) 0) w6 fun t9 w7 =>
    Run Tryz.prog (sOp (.load 29 (.const t9)) 29) w7 fun t10 w8 =>
    Run Tryz.prog (sBuiltin .len #[29] 3 [false] [t10]) w8 fun t11 w9 =>
    Run Tryz.prog (sCall (Value.func (.func 122) #[] #[]) [t8, t11]) w9 fun t12 w10 =>
    Run Tryz.prog (sOp (.pick (.const t5) (.const t12) (.const (Value.bool false))) 4) w10 fun t13 w11 =>
    R (.returned t13) w11) (
    Run Tryz.prog (sOp (.pick (.const t5) (.const undef) (.const (Value.bool false))) 4) w4 fun t13_2 w12 =>
    R (.returned t13_2) w12)
theorem calls_i_isBuilt {p0 : Value} {w : World} {R : Ending → World → Prop} (h : sh_i_isBuilt p0 w R) : Calls Tryz.prog 110 #[p0] w R :=
  calls_sh .leaf [p0] mixed Tryz.func110 (by kernel_rfl) (by kernel_rfl) h


/- loop.example/prologserver/impl.goalsValid$1 : function 111 -/
def sh_i_goalsValid_1 (p0 : Value) (w : World) (R : Ending → World → Prop) : Prop :=
  Run Tryz.prog (sOp (.box 47 (.const p0)) 0) w fun t1 w1 =>
  Run Tryz.prog (sOp (.load 47 (.const t1)) 47) w1 fun t3 w2 =>
  Run Tryz.prog (sCall (Value.func (.func 112) #[] #[]) [t3]) w2 fun t4 w3 =>
  Run Tryz.prog (sOp (.unOp .not 4 (.const t4)) 4) w3 fun t5 w4 =>
  R (.returned t5) w4
theorem calls_i_goalsValid_1 {p0 : Value} {w : World} {R : Ending → World → Prop} (h : sh_i_goalsValid_1 p0 w R) : Calls Tryz.prog 111 #[p0] w R :=
  calls_sh .leaf [p0] mixed Tryz.func111 (by kernel_rfl) (by kernel_rfl) h


/- loop.example/prologserver/impl.GoalValid : function 112 -/
def sh_i_GoalValid (p0 : Value) (w : World) (R : Ending → World → Prop) : Prop :=
  Run Tryz.prog (sOp (.box 47 (.const p0)) 0) w fun t1 w1 =>
  Run Tryz.prog (sOp (.load 47 (.const t1)) 47) w1 fun t3 w2 =>
  Run Tryz.prog (sCall (Value.func (.func 86) #[] #[]) [t3]) w2 fun t4 w3 =>
  GuardV t4 true (
    Run Tryz.prog (sOp (.load 47 (.const t1)) 47) w3 fun t6 w4 =>
    Run Tryz.prog (sCall (Value.func (.func 87) #[] #[]) [t6]) w4 fun t7 w5 =>
    GuardV t7 false (
      Run Tryz.prog (sOp (.load 47 (.const t1)) 47) w5 fun t9 w6 =>
      Run Tryz.prog (sCall (Value.func (.func 110) #[] #[]) [t9]) w6 fun t10 w7 =>
      GuardV t4 true (
        Run Tryz.prog (sOp (.pick (.const t7) (.const (Value.bool true)) (.const t10)) 4) w7 fun t11 w8 =>
        GuardV t11 false (
          Run Tryz.prog (sOp (.load 47 (.const t1)) 47) w8 fun t13 w9 =>
          Run Tryz.prog (sCall (Value.func (.func 123) #[] #[]) [t13]) w9 fun t14 w10 =>
          GuardV t4 true (
            Run Tryz.prog (sOp (.pick (.const t11) (.const (Value.bool true)) (.const t14)) 4) w10 fun t15 w11 =>
            Run Tryz.prog (sOp (.pick (.const t4) (.const t15) (.const (Value.bool false))) 4) w11 fun t16 w12 =>
            R (.returned t16) w12) (
            Run Tryz.prog (sOp (.pick (.const t4) (.const undef) (.const (Value.bool false))) 4) w10 fun t16_2 w13 =>
            R (.returned t16_2) w13)) (
          GuardV t4 true (
            Run Tryz.prog (sOp (.pick (.const t11) (.const (Value.bool true)) (.const undef)) 4) w8 fun t15_2 w14 =>
            Run Tryz.prog (sOp (.pick (.const t4) (.const t15_2) (.const (Value.bool false))) 4) w14 fun t16_3 w15 =>
            R (.returned t16_3) w15) (
            Run Tryz.prog (sOp (.pick (.const t4) (.const undef) (.const (Value.bool false))) 4) w8 fun t16_4 w16 =>
            R (.returned t16_4) w16))) (
        GuardV undef false (
          Run Tryz.prog (sOp (.load 47 (.const t1)) 47) w7 fun t13_2 w17 =>
          Run Tryz.prog (sCall (Value.func (.func 123) #[] #[]) [t13_2]) w17 fun t14_2 w18 =>
          GuardV t4 true (
            Run Tryz.prog (sOp (.pick (.const undef) (.const (Value.bool true)) (.const t14_2)) 4) w18 fun t15_3 w19 =>
            Run Tryz.prog (sOp (.pick (.const t4) (.const t15_3) (.const (Value.bool false))) 4) w19 fun t16_5 w20 =>
            R (.returned t16_5) w20) (
            Run Tryz.prog (sOp (.pick (.const t4) (.const undef) (.const (Value.bool false))) 4) w18 fun t16_6 w21 =>
            R (.returned t16_6) w21)) (
          GuardV t4 true (
            Run Tryz.prog (sOp (.pick (.const undef) (.const (Value.bool true)) (.const undef)) 4) w7 fun t15_4 w22 =>
            Run Tryz.prog (sOp (.pick (.const t4) (.const t15_4) (.const (Value.bool false))) 4) w22 fun t16_7 w23 =>
            R (.returned t16_7) w23) (
            Run Tryz.prog (sOp (.pick (.const t4) (.const undef) (.const (Value.bool false))) 4) w7 fun t16_8 w24 =>
            R (.returned t16_8) w24)))) (
      GuardV t4 true (
        Run Tryz.prog (sOp (.pick (.const t7) (.const (Value.bool true)) (.const undef)) 4) w5 fun t11_2 w25 =>
        GuardV t11_2 false (
          Run Tryz.prog (sOp (.load 47 (.const t1)) 47) w25 fun t13_3 w26 =>
          Run Tryz.prog (sCall (Value.func (.func 123) #[] #[]) [t13_3]) w26 fun t14_3 w27 =>
          GuardV t4 true (
            Run Tryz.prog (sOp (.pick (.const t11_2) (.const (Value.bool true)) (.const t14_3)) 4) w27 fun t15_5 w28 =>
            Run Tryz.prog (sOp (.pick (.const t4) (.const t15_5) (.const (Value.bool false))) 4) w28 fun t16_9 w29 =>
            R (.returned t16_9) w29) (
            Run Tryz.prog (sOp (.pick (.const t4) (.const undef) (.const (Value.bool false))) 4) w27 fun t16_10 w30 =>
            R (.returned t16_10) w30)) (
          GuardV t4 true (
            Run Tryz.prog (sOp (.pick (.const t11_2) (.const (Value.bool true)) (.const undef)) 4) w25 fun t15_6 w31 =>
            Run Tryz.prog (sOp (.pick (.const t4) (.const t15_6) (.const (Value.bool false))) 4) w31 fun t16_11 w32 =>
            R (.returned t16_11) w32) (
            Run Tryz.prog (sOp (.pick (.const t4) (.const undef) (.const (Value.bool false))) 4) w25 fun t16_12 w33 =>
            R (.returned t16_12) w33))) (
        GuardV undef false (
          Run Tryz.prog (sOp (.load 47 (.const t1)) 47) w5 fun t13_4 w34 =>
          Run Tryz.prog (sCall (Value.func (.func 123) #[] #[]) [t13_4]) w34 fun t14_4 w35 =>
          GuardV t4 true (
            Run Tryz.prog (sOp (.pick (.const undef) (.const (Value.bool true)) (.const t14_4)) 4) w35 fun t15_7 w36 =>
            Run Tryz.prog (sOp (.pick (.const t4) (.const t15_7) (.const (Value.bool false))) 4) w36 fun t16_13 w37 =>
            R (.returned t16_13) w37) (
            Run Tryz.prog (sOp (.pick (.const t4) (.const undef) (.const (Value.bool false))) 4) w35 fun t16_14 w38 =>
            R (.returned t16_14) w38)) (
          GuardV t4 true (
            Run Tryz.prog (sOp (.pick (.const undef) (.const (Value.bool true)) (.const undef)) 4) w5 fun t15_8 w39 =>
            Run Tryz.prog (sOp (.pick (.const t4) (.const t15_8) (.const (Value.bool false))) 4) w39 fun t16_15 w40 =>
            R (.returned t16_15) w40) (
            Run Tryz.prog (sOp (.pick (.const t4) (.const undef) (.const (Value.bool false))) 4) w5 fun t16_16 w41 =>
            R (.returned t16_16) w41))))) (
    GuardV undef false (
      Run Tryz.prog (sOp (.load 47 (.const t1)) 47) w3 fun t9_2 w42 =>
      Run Tryz.prog (sCall (Value.func (.func 110) #[] #[]) [t9_2]) w42 fun t10_2 w43 =>
      GuardV t4 true (
        Run Tryz.prog (sOp (.pick (.const undef) (.const (Value.bool true)) (.const t10_2)) 4) w43 fun t11_3 w44 =>
        GuardV t11_3 false (
          Run Tryz.prog (sOp (.load 47 (.const t1)) 47) w44 fun t13_5 w45 =>
          Run Tryz.prog (sCall (Value.func (.func 123) #[] #[]) [t13_5]) w45 fun t14_5 w46 =>
          GuardV t4 true (
            Run Tryz.prog (sOp (.pick (.const t11_3) (.const (Value.bool true)) (.const t14_5)) 4) w46 fun t15_9 w47 =>
            Run Tryz.prog (sOp (.pick (.const t4) (.const t15_9) (.const (Value.bool false))) 4) w47 fun t16_17 w48 =>
            R (.returned t16_17) w48) (
            Run Tryz.prog (sOp (.pick (.const t4) (.const undef) (.const (Value.bool false))) 4) w46 fun t16_18 w49 =>
            R (.returned t16_18) w49)) (
          GuardV t4 true (
            Run Tryz.prog (sOp (.pick (.const t11_3) (.const (Value.bool true)) (.const undef)) 4) w44 fun t15_10 w50 =>
            Run Tryz.prog (sOp (.pick (.const t4) (.const t15_10) (.const (Value.bool false))) 4) w50 fun t16_19 w51 =>
            R (.returned t16_19) w51) (
            Run Tryz.prog (sOp (.pick (.const t4) (.const undef) (.const (Value.bool false))) 4) w44 fun t16_20 w52 =>
            R (.returned t16_20) w52))) (
        GuardV undef false (
          Run Tryz.prog (sOp (.load 47 (.const t1)) 47) w43 fun t13_6 w53 =>
          Run Tryz.prog (sCall (Value.func (.func 123) #[] #[]) [t13_6]) w53 fun t14_6 w54 =>
          GuardV t4 true (
            Run Tryz.prog (sOp (.pick (.const undef) (.const (Value.bool true)) (.const t14_6)) 4) w54 fun t15_11 w55 =>
            Run Tryz.prog (sOp (.pick (.const t4) (.const t15_11) (.const (Value.bool false))) 4) w55 fun t16_21 w56 =>
            R (.returned t16_21) w56) (
            Run Tryz.prog (sOp (.pick (.const t4) (.const undef) (.const (Value.bool false))) 4) w54 fun t16_22 w57 =>
            R (.returned t16_22) w57)) (
          GuardV t4 true (
            Run Tryz.prog (sOp (.pick (.const undef) (.const (Value.bool true)) (.const undef)) 4) w43 fun t15_12 w58 =>
            Run Tryz.prog (sOp (.pick (.const t4) (.const t15_12) (.const (Value.bool false))) 4) w58 fun t16_23 w59 =>
            R (.returned t16_23) w59) (
            Run Tryz.prog (sOp (.pick (.const t4) (.const undef) (.const (Value.bool false))) 4) w43 fun t16_24 w60 =>
            R (.returned t16_24) w60)))) (
      GuardV t4 true (
        Run Tryz.prog (sOp (.pick (.const undef) (.const (Value.bool true)) (.const undef)) 4) w3 fun t11_4 w61 =>
        GuardV t11_4 false (
          Run Tryz.prog (sOp (.load 47 (.const t1)) 47) w61 fun t13_7 w62 =>
          Run Tryz.prog (sCall (Value.func (.func 123) #[] #[]) [t13_7]) w62 fun t14_7 w63 =>
          GuardV t4 true (
            Run Tryz.prog (sOp (.pick (.const t11_4) (.const (Value.bool true)) (.const t14_7)) 4) w63 fun t15_13 w64 =>
            Run Tryz.prog (sOp (.pick (.const t4) (.const t15_13) (.const (Value.bool false))) 4) w64 fun t16_25 w65 =>
            R (.returned t16_25) w65) (
            Run Tryz.prog (sOp (.pick (.const t4) (.const undef) (.const (Value.bool false))) 4) w63 fun t16_26 w66 =>
            R (.returned t16_26) w66)) (
          GuardV t4 true (
            Run Tryz.prog (sOp (.pick (.const t11_4) (.const (Value.bool true)) (.const undef)) 4) w61 fun t15_14 w67 =>
            Run Tryz.prog (sOp (.pick (.const t4) (.const t15_14) (.const (Value.bool false))) 4) w67 fun t16_27 w68 =>
            R (.returned t16_27) w68) (
            Run Tryz.prog (sOp (.pick (.const t4) (.const undef) (.const (Value.bool false))) 4) w61 fun t16_28 w69 =>
            R (.returned t16_28) w69))) (
        GuardV undef false (
          Run Tryz.prog (sOp (.load 47 (.const t1)) 47) w3 fun t13_8 w70 =>
          Run Tryz.prog (sCall (Value.func (.func 123) #[] #[]) [t13_8]) w70 fun t14_8 w71 =>
          GuardV t4 true (
            Run Tryz.prog (sOp (.pick (.const undef) (.const (Value.bool true)) (.const t14_8)) 4) w71 fun t15_15 w72 =>
            Run Tryz.prog (sOp (.pick (.const t4) (.const t15_15) (.const (Value.bool false))) 4) w72 fun t16_29 w73 =>
            R (.returned t16_29) w73) (
            Run Tryz.prog (sOp (.pick (.const t4) (.const undef) (.const (Value.bool false))) 4) w71 fun t16_30 w74 =>
            R (.returned t16_30) w74)) (
          GuardV t4 true (
            Run Tryz.prog (sOp (.pick (.const undef) (.const (Value.bool true)) (.const undef)) 4) w3 fun t15_16 w75 =>
            Run Tryz.prog (sOp (.pick (.const t4) (.const t15_16) (.const (Value.bool false))) 4) w75 fun t16_31 w76 =>
            R (.returned t16_31) w76) (
            Run Tryz.prog (sOp (.pick (.const t4) (.const undef) (.const (Value.bool false))) 4) w3 fun t16_32 w77 =>
            R (.returned t16_32) w77)))))
theorem calls_i_GoalValid {p0 : Value} {w : World} {R : Ending → World → Prop} (h : sh_i_GoalValid p0 w R) : Calls Tryz.prog 112 #[p0] w R :=
  calls_sh .leaf [p0] mixed Tryz.func112 (by kernel_rfl) (by kernel_rfl) h


/- slices.EqualFunc[[]loop.example/prologserver/impl.Term,[]loop.example/prologserver/impl.Term,loop.example/prologserver/impl.Term,loop.example/prologserver/impl.Term] : function 113 -/
def sh_x_EqualFunc_Term (p0 p1 p2 : Value) (w : World) (R : Ending → World → Prop) : Prop :=
  Run Tryz.prog (sBuiltin .len #[29] 3 [false] [p0]) w fun t11 w1 =>
  Run Tryz.prog (sBuiltin .len #[29] 3 [false] [p1]) w1 fun t13 w2 =>
  Run Tryz.prog (sBin .neq 3 false false t11 t13) w2 fun t14 w3 =>
  CondV t14 (
    R (.returned (Value.bool false)) w3) (
    Run Tryz.prog (sBuiltin .len #[29] 3 [false] [p0]) w3 fun t16 w4 =>
  (∃ (I5 : Value → World → Prop) (m6 : Value → World → Nat), I5 (Value.int .i64 0) w4 ∧
  ∀ t17 _ _ _ _ _ _ _ _ _ _ _ _ _ _ _ _ _ _ : Value, ∀ w7 : World, I5 t17 w7 →
  Run Tryz.prog (sBin .lss 3 false false t17 t16) w7 fun t18_2 w8 =>
  CondV t18_2 (
    Run Tryz.prog (sOp (.indexAddr 29 (.const p0) (.const t17)) 0) w8 fun t20_2 w9 =>
  Run Tryz.prog (sOp (.load 47 (.const t20_2)) 47) w9 fun t21_2 w10 =>
  Run Tryz.prog (sOp (.alloc 47) 0) w10 fun t8_2 w11 =>
  Run Tryz.prog (sOp (.store 47 (.const t8_2) (.const t21_2)) 0) w11 fun _u w12 =>
  Run Tryz.prog (sOp (.indexAddr 29 (.const p1) (.const t17)) 0) w12 fun t24_2 w13 =>
  Run Tryz.prog (sOp (.load 47 (.const t24_2)) 47) w13 fun t25_2 w14 =>
  Run Tryz.prog (sOp (.alloc 47) 0) w14 fun t9_2 w15 =>
  Run Tryz.prog (sOp (.store 47 (.const t9_2) (.const t25_2)) 0) w15 fun _ w16 =>
  Run Tryz.prog (sOp (.load 47 (.const t8_2)) 47) w16 fun t27_2 w17 =>
  Run Tryz.prog (sOp (.load 47 (.const t9_2)) 47) w17 fun t28_2 w18 =>
  Run Tryz.prog (sCall p2 [t27_2, t28_2]) w18 fun t29_2 w19 =>
  Run Tryz.prog (sOp (.unOp .not 4 (.const t29_2)) 4) w19 fun t30_2 w20 =>
  CondV t30_2 (
    R (.returned (Value.bool false)) w20) (
    Run Tryz.prog (sBin .add 3 false true t17 (Value.int .i64 1)) w20 fun t31_2 w21 =>
  I5 t31_2 w21 ∧ m6 t31_2 w21 < m6 t17 w7)) (
    R (.returned (Value.bool true)) w8)))
theorem calls_x_EqualFunc_Term {p0 p1 p2 : Value} {w : World} {R : Ending → World → Prop} (h : sh_x_EqualFunc_Term p0 p1 p2 w R) : Calls Tryz.prog 113 #[p0, p1, p2] w R :=
  calls_sh (.seq none .leaf (.seq none .leaf (.seq none (.seq none .leaf (.one (.loop [17] .leaf))) .leaf))) [p0, p1, p2] mixed Tryz.func113 (by kernel_rfl) (by kernel_rfl) h


/- cmp.isNaN[int] : function 114 -/
def sh_x_isNaN_int (p0 : Value) (w : World) (R : Ending → World → Prop) : Prop :=
  Run Tryz.prog (sBin .neq 3 false false p0 p0) w fun t5 w1 =>
  R (.returned t5) w1
theorem calls_x_isNaN_int {p0 : Value} {w : World} {R : Ending → World → Prop} (h : sh_x_isNaN_int p0 w R) : Calls Tryz.prog 114 #[p0] w R :=
  calls_sh .leaf [p0] mixed Tryz.func114 (by kernel_rfl) (by kernel_rfl) h


/- cmp.isNaN[string] : function 115 -/
def sh_x_isNaN_string (p0 : Value) (w : World) (R : Ending → World → Prop) : Prop :=
  Run Tryz.prog (sBin .neq 9 false false p0 p0) w fun t5 w1 =>
  R (.returned t5) w1
theorem calls_x_isNaN_string {p0 : Value} {w : World} {R : Ending → World → Prop} (h : sh_x_isNaN_string p0 w R) : Calls Tryz.prog 115 #[p0] w R :=
  calls_sh .leaf [p0] mixed Tryz.func115 (by kernel_rfl) (by kernel_rfl) h


/- loop.example/prologserver/spec.NameValid : function 117 -/
def sh_s_NameValid (p0 : Value) (w : World) (R : Ending → World → Prop) : Prop :=
  Run Tryz.prog (sCall (Value.func (.func 80) #[] #[]) [p0]) w fun t4 w1 =>
  GuardV t4 false (
    Run Tryz.prog (sCall (Value.func (.func 126) #[] #[]) []) w1 fun t6 w2 =>
    Run Tryz.prog (sCall (Value.func (.func 125) #[] #[]) [t6, p0]) w2 fun t8 w3 =>
    Run Tryz.prog (sOp (.pick (.const t4) (.const (Value.bool true)) (.const t8)) 4) w3 fun t9 w4 =>
    R (.returned t9) w4) (
    Run Tryz.prog (sOp (.pick (.const t4) (.const (Value.bool true)) (.const undef)) 4) w1 fun t9_2 w5 =>
    R (.returned t9_2) w5)
theorem calls_s_NameValid {p0 : Value} {w : World} {R : Ending → World → Prop} (h : sh_s_NameValid p0 w R) : Calls Tryz.prog 117 #[p0] w R :=
  calls_sh .leaf [p0] mixed Tryz.func117 (by kernel_rfl) (by kernel_rfl) h


/- loop.example/prologserver/impl.within : function 118 -/
def sh_i_within (p0 p1 p2 : Value) (w : World) (R : Ending → World → Prop) : Prop :=
  Run Tryz.prog (sBin .leq 3 false false p1 p0) w fun t9 w1 =>
  GuardV t9 true (
    Run Tryz.prog (sBin .leq 3 false false p0 p2) w1 fun t13 w2 =>
    Run Tryz.prog (sOp (.pick (.const t9) (.const t13) (.const (Value.bool false))) 4) w2 fun t14 w3 =>
    R (.returned t14) w3) (
    Run Tryz.prog (sOp (.pick (.const t9) (.const undef) (.const (Value.bool false))) 4) w1 fun t14_2 w4 =>
    R (.returned t14_2) w4)
theorem calls_i_within {p0 p1 p2 : Value} {w : World} {R : Ending → World → Prop} (h : sh_i_within p0 p1 p2 w R) : Calls Tryz.prog 118 #[p0, p1, p2] w R :=
  calls_sh .leaf [p0, p1, p2] mixed Tryz.func118 (by kernel_rfl) (by kernel_rfl) h


/- loop.example/prologserver/impl.NameValid : function 119 -/
def sh_i_NameValid (p0 : Value) (w : World) (R : Ending → World → Prop) : Prop :=
  Run Tryz.prog (sCall (Value.func (.func 108) #[] #[]) [p0]) w fun t4 w1 =>
  GuardV t4 false (
    Run Tryz.prog (sCall (Value.func (.func 128) #[] #[]) []) w1 fun t6 w2 =>
    Run Tryz.prog (sCall (Value.func (.func 127) #[] #[]) [t6, p0]) w2 fun t8 w3 =>
    Run Tryz.prog (sOp (.pick (.const t4) (.const (Value.bool true)) (.const t8)) 4) w3 fun t9 w4 =>
    R (.returned t9) w4) (
    Run Tryz.prog (sOp (.pick (.const t4) (.const (Value.bool true)) (.const undef)) 4) w1 fun t9_2 w5 =>
    R (.returned t9_2) w5)
theorem calls_i_NameValid {p0 : Value} {w : World} {R : Ending → World → Prop} (h : sh_i_NameValid p0 w R) : Calls Tryz.prog 119 #[p0] w R :=
  calls_sh .leaf [p0] mixed Tryz.func119 (by kernel_rfl) (by kernel_rfl) h


/- loop.example/prologserver/impl.scan$1 : function 120 -/
def sh_i_scan_1 (p0 p1 p2 : Value) (w : World) (R : Ending → World → Prop) : Prop :=
  Run Tryz.prog (sOp (.box 47 (.const p0)) 0) w fun t3 w1 =>
  Run Tryz.prog (sOp (.load 47 (.const t3)) 47) w1 fun t5 w2 =>
  Run Tryz.prog (sOp (.load 3 (.const p1)) 3) w2 fun t6 w3 =>
  Run Tryz.prog (sBin .add 3 false true t6 (Value.int .i64 1)) w3 fun t7 w4 =>
  Run Tryz.prog (sOp (.load 112 (.const p2)) 112) w4 fun t8 w5 =>
  Run Tryz.prog (sCall (Value.func (.func 107) #[] #[]) [t5, t7, t8]) w5 fun t9 w6 =>
  Run Tryz.prog (sOp (.unOp .not 4 (.const t9)) 4) w6 fun t10 w7 =>
  R (.returned t10) w7
theorem calls_i_scan_1 {p0 p1 p2 : Value} {w : World} {R : Ending → World → Prop} (h : sh_i_scan_1 p0 p1 p2 w R) : Calls Tryz.prog 120 #[p0, p1, p2] w R :=
  calls_sh .leaf [p0, p1, p2] mixed Tryz.func120 (by kernel_rfl) (by kernel_rfl) h


/- loop.example/prologserver/impl.OpLevel : function 121 -/
def sh_i_OpLevel (p0 : Value) (w : World) (R : Ending → World → Prop) : Prop :=
  (∃ J1 : Value → World → Prop, (
    Run Tryz.prog (sBin .eql 9 false true p0 (Value.string ⟨#[61]⟩)) w fun t6 w2 =>
    CondV t6 (
      J1 t6 w2) (
      Run Tryz.prog (sBin .eql 9 false true p0 (Value.string ⟨#[92, 61]⟩)) w2 fun t7 w3 =>
      CondV t7 (
        J1 t7 w3) (
        Run Tryz.prog (sBin .eql 9 false true p0 (Value.string ⟨#[61, 61]⟩)) w3 fun t8 w4 =>
        CondV t8 (
          J1 t8 w4) (
          Run Tryz.prog (sBin .eql 9 false true p0 (Value.string ⟨#[60]⟩)) w4 fun t9 w5 =>
          CondV t9 (
            J1 t9 w5) (
            Run Tryz.prog (sBin .eql 9 false true p0 (Value.string ⟨#[62]⟩)) w5 fun t10 w6 =>
            CondV t10 (
              J1 t10 w6) (
              Run Tryz.prog (sBin .eql 9 false true p0 (Value.string ⟨#[61, 60]⟩)) w6 fun t11 w7 =>
              CondV t11 (
                J1 t11 w7) (
                Run Tryz.prog (sBin .eql 9 false true p0 (Value.string ⟨#[62, 61]⟩)) w7 fun t12 w8 =>
                CondV t12 (
                  J1 t12 w8) (
                  Run Tryz.prog (sBin .eql 9 false true p0 (Value.string ⟨#[61, 58, 61]⟩)) w8 fun t13 w9 =>
                  CondV t13 (
                    J1 t13 w9) (
                    Run Tryz.prog (sBin .eql 9 false true p0 (Value.string ⟨#[105, 115]⟩)) w9 fun t14 w10 =>
                    J1 t14 w10))))))))) ∧
  ∀ _ _ _ _ _ _ _ _ t5 _ : Value, ∀ w11 : World, J1 t5 w11 →
  CondV t5 (
    R (.returned (.tuple #[(Value.int .i64 3), (Value.bool false)])) w11) (
    (∃ J12 : Value → World → Prop, (
      Run Tryz.prog (sBin .eql 9 false true p0 (Value.string ⟨#[43]⟩)) w11 fun t16 w13 =>
      CondV t16 (
        J12 t16 w13) (
        Run Tryz.prog (sBin .eql 9 false true p0 (Value.string ⟨#[45]⟩)) w13 fun t17 w14 =>
        J12 t17 w14)) ∧
    ∀ _ t15 _ : Value, ∀ w15 : World, J12 t15 w15 →
    CondV t15 (
      R (.returned (.tuple #[(Value.int .i64 2), (Value.bool true)])) w15) (
      (∃ J16 : Value → World → Prop, (
        Run Tryz.prog (sBin .eql 9 false true p0 (Value.string ⟨#[42]⟩)) w15 fun t19 w17 =>
        CondV t19 (
          J16 t19 w17) (
          Run Tryz.prog (sBin .eql 9 false true p0 (Value.string ⟨#[47, 47]⟩)) w17 fun t20 w18 =>
          CondV t20 (
            J16 t20 w18) (
            Run Tryz.prog (sBin .eql 9 false true p0 (Value.string ⟨#[109, 111, 100]⟩)) w18 fun t21 w19 =>
            J16 t21 w19))) ∧
      ∀ _ _ t18 _ : Value, ∀ w20 : World, J16 t18 w20 →
      CondV t18 (
        R (.returned (.tuple #[(Value.int .i64 1), (Value.bool true)])) w20) (
        R (.returned (.tuple #[(Value.int .i64 0), (Value.bool false)])) w20))))))
theorem calls_i_OpLevel {p0 : Value} {w : World} {R : Ending → World → Prop} (h : sh_i_OpLevel p0 w R) : Calls Tryz.prog 121 #[p0] w R :=
  calls_sh (.seq none .leaf (.seq none (.seq none .leaf (.one (.seq (some [5]) .leaf (.two .leaf (.seq (some [15]) .leaf (.two .leaf (.seq (some [18]) .leaf .leaf))))))) .leaf)) [p0] mixed Tryz.func121 (by kernel_rfl) (by kernel_rfl) h


/- loop.example/prologserver/impl.IsBuiltin : function 122 -/
def sh_i_IsBuiltin (p0 p1 : Value) (w : World) (R : Ending → World → Prop) : Prop :=
  (∃ J1 : Value → World → Prop, (
    Run Tryz.prog (sBin .eql 9 false true p0 (Value.string ⟨#[61]⟩)) w fun t7 w2 =>
    CondV t7 (
      J1 t7 w2) (
      Run Tryz.prog (sBin .eql 9 false true p0 (Value.string ⟨#[92, 61]⟩)) w2 fun t8 w3 =>
      CondV t8 (
        J1 t8 w3) (
        Run Tryz.prog (sBin .eql 9 false true p0 (Value.string ⟨#[61, 61]⟩)) w3 fun t9 w4 =>
        CondV t9 (
          J1 t9 w4) (
          Run Tryz.prog (sBin .eql 9 false true p0 (Value.string ⟨#[60]⟩)) w4 fun t10 w5 =>
          CondV t10 (
            J1 t10 w5) (
            Run Tryz.prog (sBin .eql 9 false true p0 (Value.string ⟨#[62]⟩)) w5 fun t11 w6 =>
            CondV t11 (
              J1 t11 w6) (
              Run Tryz.prog (sBin .eql 9 false true p0 (Value.string ⟨#[61, 60]⟩)) w6 fun t12 w7 =>
              CondV t12 (
                J1 t12 w7) (
                Run Tryz.prog (sBin .eql 9 false true p0 (Value.string ⟨#[62, 61]⟩)) w7 fun t13 w8 =>
                CondV t13 (
                  J1 t13 w8) (
                  Run Tryz.prog (sBin .eql 9 false true p0 (Value.string ⟨#[61, 58, 61]⟩)) w8 fun t14 w9 =>
                  CondV t14 (
                    J1 t14 w9) (
                    Run Tryz.prog (sBin .eql 9 false true p0 (Value.string ⟨#[105, 115]⟩)) w9 fun t15 w10 =>
                    J1 t15 w10))))))))) ∧
  ∀ _ _ _ _ _ _ _ _ t6 _ : Value, ∀ w11 : World, J1 t6 w11 →
  CondV t6 (
    Run Tryz.prog (sBin .eql 3 false true p1 (Value.int .i64 2)) w11 fun t17 w12 =>
    R (.returned t17) w12) (
    (∃ J13 : Value → World → Prop, (
      Run Tryz.prog (sBin .eql 9 false true p0 (Value.string ⟨#[116, 114, 117, 101]⟩)) w11 fun t19 w14 =>
      CondV t19 (
        J13 t19 w14) (
        Run Tryz.prog (sBin .eql 9 false true p0 (Value.string ⟨#[102, 97, 105, 108]⟩)) w14 fun t20 w15 =>
        J13 t20 w15)) ∧
    ∀ _ t18 _ : Value, ∀ w16 : World, J13 t18 w16 →
    CondV t18 (
      Run Tryz.prog (sBin .eql 3 false true p1 (Value.int .i64 0)) w16 fun t22 w17 =>
      R (.returned t22) w17) (
      (∃ J18 : Value → World → Prop, (
        Run Tryz.prog (sBin .eql 9 false true p0 (Value.string ⟨#[118, 97, 114]⟩)) w16 fun t24 w19 =>
        CondV t24 (
          J18 t24 w19) (
          Run Tryz.prog (sBin .eql 9 false true p0 (Value.string ⟨#[110, 111, 110, 118, 97, 114]⟩)) w19 fun t25 w20 =>
          CondV t25 (
            J18 t25 w20) (
            Run Tryz.prog (sBin .eql 9 false true p0 (Value.string ⟨#[97, 116, 111, 109]⟩)) w20 fun t26 w21 =>
            CondV t26 (
              J18 t26 w21) (
              Run Tryz.prog (sBin .eql 9 false true p0 (Value.string ⟨#[105, 110, 116]⟩)) w21 fun t27 w22 =>
              J18 t27 w22)))) ∧
      ∀ _ _ _ t23 _ : Value, ∀ w23 : World, J18 t23 w23 →
      CondV t23 (
        Run Tryz.prog (sBin .eql 3 false true p1 (Value.int .i64 1)) w23 fun t29 w24 =>
        R (.returned t29) w24) (
        Run Tryz.prog (sBin .eql 9 false true p0 (Value.string ⟨#[97, 114, 103]⟩)) w23 fun t31 w25 =>
        CondV t31 (
          Run Tryz.prog (sBin .eql 3 false true p1 (Value.int .i64 3)) w25 fun t33 w26 =>
          R (.returned t33) w26) (
          R (.returned (Value.bool false)) w25)))))))
theorem calls_i_IsBuiltin {p0 p1 : Value} {w : World} {R : Ending → World → Prop} (h : sh_i_IsBuiltin p0 p1 w R) : Calls Tryz.prog 122 #[p0, p1] w R :=
  calls_sh (.seq none .leaf (.seq none (.seq none .leaf (.one (.seq (some [6]) .leaf (.two .leaf (.seq (some [18]) .leaf (.two .leaf (.seq (some [23]) .leaf .leaf))))))) .leaf)) [p0, p1] mixed Tryz.func122 (by kernel_rfl) (by kernel_rfl) h


/- loop.example/prologserver/impl.isCut : function 123 -/
def sh_i_isCut (p0 : Value) (w : World) (R : Ending → World → Prop) : Prop :=
  Run Tryz.prog (sOp (.box 47 (.const p0)) 0) w fun t1 w1 =>
  Run Tryz.prog (sOp (.load 47 (.const t1)) 47) w1 fun t3 w2 =>
  Run Tryz.prog (sCall (Value.func (.func 129) #[] #[]) [t3]) w2 fun t4 w3 =>
  GuardV t4 true (
    Run Tryz.prog (sOp (.fieldAddr 47 (.const t1) 2) 0) w3 fun t6 w4 =>
    Run Tryz.prog (sOp (.load 9 (.const t6)) 9) w4 fun t7 w5 =>
    Run Tryz.prog (sBin .eql 9 false true t7 (Value.string ⟨#[33]⟩)) w5 fun t8 w6 =>
    Run Tryz.prog (sOp (.pick (.const t4) (.const t8) (.const (Value.bool false))) 4) w6 fun t9 w7 =>
    R (.returned t9) w7) (
    Run Tryz.prog (sOp (.pick (.const t4) (.const undef) (.const (Value.bool false))) 4) w3 fun t9_2 w8 =>
    R (.returned t9_2) w8)
theorem calls_i_isCut {p0 : Value} {w : World} {R : Ending → World → Prop} (h : sh_i_isCut p0 w R) : Calls Tryz.prog 123 #[p0] w R :=
  calls_sh .leaf [p0] mixed Tryz.func123 (by kernel_rfl) (by kernel_rfl) h


/- loop.example/prologserver/spec.l1Has : function 125 -/
def sh_s_l1Has (p0 p1 : Value) (w : World) (R : Ending → World → Prop) : Prop :=
  (∃ (I1 : Value → World → Prop) (m2 : Value → World → Nat), I1 (Value.int .i64 0) w ∧
  ∀ t5 _ _ _ _ _ _ _ _ _ _ _ _ _ : Value, ∀ w3 : World, I1 t5 w3 →
  Run Tryz.prog (sBuiltin .len #[118] 3 [false] [p0]) w3 fun t8_2 w4 =>
  Run Tryz.prog (sBin .lss 3 false false t5 t8_2) w4 fun t9_2 w5 =>
  CondV t9_2 (
    Run Tryz.prog (sOp (.indexAddr 118 (.const p0) (.const t5)) 0) w5 fun t14_2 w6 =>
  Run Tryz.prog (sOp (.load 9 (.const t14_2)) 9) w6 fun t15_2 w7 =>
  Run Tryz.prog (sBin .eql 9 false false t15_2 p1) w7 fun t17_2 w8 =>
  CondV t17_2 (
    R (.returned (Value.bool true)) w8) (
    Run Tryz.prog (sBin .add 3 false true t5 (Value.int .i64 1)) w8 fun t11_2 w9 =>
  I1 t11_2 w9 ∧ m2 t11_2 w9 < m2 t5 w3)) (
    R (.returned (Value.bool false)) w5))
theorem calls_s_l1Has {p0 p1 : Value} {w : World} {R : Ending → World → Prop} (h : sh_s_l1Has p0 p1 w R) : Calls Tryz.prog 125 #[p0, p1] w R :=
  calls_sh (.seq none .leaf (.seq none (.seq none .leaf (.one (.loop [5] .leaf))) .leaf)) [p0, p1] mixed Tryz.func125 (by kernel_rfl) (by kernel_rfl) h


/- loop.example/prologserver/spec.l1Signs : function 126 -/
def sh_s_l1Signs (w : World) (R : Ending → World → Prop) : Prop :=
  Run Tryz.prog (sBuildSlice 118 15 [(0, (Value.string ⟨#[43]⟩)), (1, (Value.string ⟨#[45]⟩)), (2, (Value.string ⟨#[42]⟩)), (3, (Value.string ⟨#[47, 47]⟩)), (4, (Value.string ⟨#[61]⟩)), (5, (Value.string ⟨#[92, 61]⟩)), (6, (Value.string ⟨#[61, 61]⟩)), (7, (Value.string ⟨#[60]⟩)), (8, (Value.string ⟨#[62]⟩)), (9, (Value.string ⟨#[61, 60]⟩)), (10, (Value.string ⟨#[62, 61]⟩)), (11, (Value.string ⟨#[61, 58, 61]⟩)), (12, (Value.string ⟨#[46]⟩)), (13, (Value.string ⟨#[91, 93]⟩)), (14, (Value.string ⟨#[33]⟩))]) w fun t1 w1 =>
  R (.returned t1) w1
theorem calls_s_l1Signs {w : World} {R : Ending → World → Prop} (h : sh_s_l1Signs w R) : Calls Tryz.prog 126 #[] w R :=
  calls_sh .leaf [] mixed Tryz.func126 (by kernel_rfl) (by kernel_rfl) h


/- slices.Contains[[]string,string] : function 127 -/
def sh_x_Contains_string (p0 p1 : Value) (w : World) (R : Ending → World → Prop) : Prop :=
  Run Tryz.prog (sCall (Value.func (.func 130) #[] #[]) [p0, p1]) w fun t7 w1 =>
  Run Tryz.prog (sBin .geq 3 false true t7 (Value.int .i64 0)) w1 fun t8 w2 =>
  R (.returned t8) w2
theorem calls_x_Contains_string {p0 p1 : Value} {w : World} {R : Ending → World → Prop} (h : sh_x_Contains_string p0 p1 w R) : Calls Tryz.prog 127 #[p0, p1] w R :=
  calls_sh .leaf [p0, p1] mixed Tryz.func127 (by kernel_rfl) (by kernel_rfl) h


/- loop.example/prologserver/impl.symbols : function 128 -/
def sh_i_symbols (w : World) (R : Ending → World → Prop) : Prop :=
  Run Tryz.prog (sBuildSlice 118 15 [(0, (Value.string ⟨#[43]⟩)), (1, (Value.string ⟨#[45]⟩)), (2, (Value.string ⟨#[42]⟩)), (3, (Value.string ⟨#[47, 47]⟩)), (4, (Value.string ⟨#[61]⟩)), (5, (Value.string ⟨#[92, 61]⟩)), (6, (Value.string ⟨#[61, 61]⟩)), (7, (Value.string ⟨#[60]⟩)), (8, (Value.string ⟨#[62]⟩)), (9, (Value.string ⟨#[61, 60]⟩)), (10, (Value.string ⟨#[62, 61]⟩)), (11, (Value.string ⟨#[61, 58, 61]⟩)), (12, (Value.string ⟨#[46]⟩)), (13, (Value.string ⟨#[91, 93]⟩)), (14, (Value.string ⟨#[33]⟩))]) w fun t1 w1 =>
  R (.returned t1) w1
theorem calls_i_symbols {w : World} {R : Ending → World → Prop} (h : sh_i_symbols w R) : Calls Tryz.prog 128 #[] w R :=
  calls_sh .leaf [] mixed Tryz.func128 (by kernel_rfl) (by kernel_rfl) h


/- loop.example/prologserver/impl.isAtom : function 129 -/
def sh_i_isAtom (p0 : Value) (w : World) (R : Ending → World → Prop) : Prop :=
  Run Tryz.prog (sOp (.box 47 (.const p0)) 0) w fun t1 w1 =>
  Run Tryz.prog (sOp (.fieldAddr 47 (.const t1) 0) 0) w1 fun t3 w2 =>
  Run Tryz.prog (sOp (.load 3 (.const t3)) 3) w2 fun t4 w3 =>
  Run Tryz.prog (sBin .eql 3 false true t4 (Value.int .i64 3)) w3 fun t5 w4 =>
  GuardV t5 true (
    Run Tryz.prog (sOp (.fieldAddr 47 (.const t1) 3) 0) w4 fun t7 w5 =>
    Run Tryz.prog (sOp (.load 29 (.const t7)) 29) w5 fun t8 w6 =>
    Run Tryz.prog (sBuiltin .len #[29] 3 [false] [t8]) w6 fun t9 w7 =>
    Run Tryz.prog (sBin .eql 3 false true t9 (Value.int .i64 0)) w7 fun t10 w8 =>
    Run Tryz.prog (sOp (.pick (.const t5) (.const t10) (.const (Value.bool false))) 4) w8 fun t11 w9 =>
    R (.returned t11) w9) (
    Run Tryz.prog (sOp (.pick (.const t5) (.const undef) (.const (Value.bool false))) 4) w4 fun t11_2 w10 =>
    R (.returned t11_2) w10)
theorem calls_i_isAtom {p0 : Value} {w : World} {R : Ending → World → Prop} (h : sh_i_isAtom p0 w R) : Calls Tryz.prog 129 #[p0] w R :=
  calls_sh .leaf [p0] mixed Tryz.func129 (by kernel_rfl) (by kernel_rfl) h


/- slices.Index[[]string,string] : function 130 -/
def sh_x_Index_string (p0 p1 : Value) (w : World) (R : Ending → World → Prop) : Prop :=
  Run Tryz.prog (sBuiltin .len #[118] 3 [false] [p0]) w fun t7 w1 =>
  (∃ (I2 : Value → World → Prop) (m3 : Value → World → Nat), I2 (Value.int .i64 0) w1 ∧
  ∀ t8 _ _ _ _ _ _ _ _ _ _ _ _ : Value, ∀ w4 : World, I2 t8 w4 →
  Run Tryz.prog (sBin .lss 3 false false t8 t7) w4 fun t9_2 w5 =>
  CondV t9_2 (
    Run Tryz.prog (sOp (.indexAddr 118 (.const p0) (.const t8)) 0) w5 fun t14_2 w6 =>
  Run Tryz.prog (sOp (.load 9 (.const t14_2)) 9) w6 fun t15_2 w7 =>
  Run Tryz.prog (sBin .eql 9 false false p1 t15_2) w7 fun t16_2 w8 =>
  CondV t16_2 (
    R (.returned t8) w8) (
    Run Tryz.prog (sBin .add 3 false true t8 (Value.int .i64 1)) w8 fun t18_2 w9 =>
  I2 t18_2 w9 ∧ m3 t18_2 w9 < m3 t8 w4)) (
    R (.returned (Value.int .i64 (-1))) w5))
theorem calls_x_Index_string {p0 p1 : Value} {w : World} {R : Ending → World → Prop} (h : sh_x_Index_string p0 p1 w R) : Calls Tryz.prog 130 #[p0, p1] w R :=
  calls_sh (.seq none .leaf (.seq none (.seq none .leaf (.one (.loop [8] .leaf))) .leaf)) [p0, p1] mixed Tryz.func130 (by kernel_rfl) (by kernel_rfl) h

end Go.Proofs.YtgdibnmabnimaaaGreat
